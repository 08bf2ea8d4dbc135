-- A walk, by a program of this session.
import Derived.Test.YtnjpfllmcmomoaaQFnCmdx0
import Derived.Test.YtnjpfllmcmomoaaQFnCmdx1
import Derived.Test.YtnjpfllmcmomoaaQFnCmdx2
import Derived.Test.YtnjpfllmcmomoaaQFnCmdx5
import Derived.Test.YtnjpfllmcmomoaaQFnCmdx6
import Derived.Test.YtnjpfllmcmomoaaQFnCmdx7
import Derived.Test.YtnjpfllmcmomoaaQFnCmdx8
namespace Go.Proofs.Ytnjpfllmcmomoaa.QFnCmd
open Go.RowKit Go.Proofs.YtnjpfllmcmomoaaW.PrintWords Go.Proofs.YtnjpfllmcmomoaaW.PrintLast Go.Proofs.YtnjpfllmcmomoaaW.PrintMore
attribute [local go_sem] max2_int min2_int max_two min_two max_three min_three max_four min_four   -- for this text's walks alone
set_option linter.unusedVariables false
set_option linter.unusedSimpArgs false

attribute [local go_sem high] eqA34
/-! ### laws_FnCmd: function 4 -/
mutual
def laws_FnCmd.j0 : Nat → List Int → Option (Bool)
 | 0, _ => none
 | k + 1, x0 => (spec_DrawCmdPack.f k x0).bind fun bt480 => ((impl_CmdPack.f k bt480.1 bt480.2.1 bt480.2.2.1 bt480.2.2.2.1 bt480.2.2.2.2).bind fun bt486 => ((spec_CmdOk.f k bt480.1 bt480.2.1 bt480.2.2.1 bt480.2.2.2.1 bt480.2.2.2.2).bind fun t490 => (if (bt486.2 != t490) = true then (some false) else (laws_FnCmd.j1 k x0 bt486.1 bt486.2 bt480.1 bt480.2.1 bt480.2.2.1 bt480.2.2.2.1 bt480.2.2.2.2))))
def laws_FnCmd.j1 : Nat → List Int → List Int → Bool → Int → Int → Int → Int → ByteArray → Option (Bool)
 | 0, _, _, _, _, _, _, _, _ => none
 | k + 1, x0, x4, x5, x486000, x486001, x486002, x486003, x486004 => if x5 = true then ((some (([7] : List Int) : List Int)).bind fun y491 => (if y491.length + x4.length < 140737488355328 then ((impl_CmdRead.f k (y491 ++ x4) 1).bind fun bt497 => (if bt497.2.2.2.2.2.2 = true then (if (!(bt497.1 == x486000) || (!(bt497.2.1 == x486001) || (!(bt497.2.2.1 == x486002) || (!(bt497.2.2.2.1 == x486003) || (!(bt497.2.2.2.2.1.toList == x486004.toList)))))) = true then (some false) else (if bt497.2.2.2.2.2.1 = (wrap64 (1 + (x4.length : Int))) then (laws_FnCmd.j2 k x0) else (some false))) else (some false))) else (none))) else (laws_FnCmd.j2 k x0)
def laws_FnCmd.j2 : Nat → List Int → Option (Bool)
 | 0, _ => none
 | k + 1, x0 => (spec_DrawCmdRead.f k x0).bind fun bt505 => ((impl_CmdRead.f k bt505.1 bt505.2).bind fun bt509 => ((spec_CmdRead.f k bt505.1 bt505.2).bind fun bt517 => (if (bt509.2.2.2.2.2.2 != bt517.2.2.2.2.2.2) = true then (some false) else (laws_FnCmd.j3 k bt505.1 bt505.2 bt509.2.2.2.2.2.1 bt509.2.2.2.2.2.2 bt509.1 bt509.2.1 bt509.2.2.1 bt509.2.2.2.1 bt509.2.2.2.2.1))))
def laws_FnCmd.j3 : Nat → List Int → Int → Int → Bool → Int → Int → Int → Int → ByteArray → Option (Bool)
 | 0, _, _, _, _, _, _, _, _, _ => none
 | k + 1, x9, x10, x12, x13, x517000, x517001, x517002, x517003, x517004 => if x13 = true then ((impl_CmdPack.f k x517000 x517001 x517002 x517003 x517004).bind fun bt525 => (if bt525.2 = true then ((impl_CmdOk.f k x517000 x517001 x517002 x517003 x517004).bind fun t529 => (if t529 = true then (if x10 ≥ 0 then (if x12 ≤ (x9.length : Int) then (if 0 ≤ x10 then (if x10 ≤ x12 then (some ((strOfNums bt525.1).toList == (strOfNums ((x9.take (x12 : Int).toNat).drop (x10 : Int).toNat)).toList)) else (none)) else (none)) else (some false)) else (some false)) else (some false))) else (some false))) else (if (x517000 == 0 && (x517001 == 0 && (x517002 == 0 && (x517003 == 0 && (x517004.toList == ([] : List UInt8)))))) = true then (some (x12 == 0)) else (some false))
end
def laws_FnCmd.f (k : Nat) (l0 : List Int) : Option (Bool) := (laws_big.f l0).bind fun t479 => (if t479 = true then (some true) else (laws_FnCmd.j0 k l0))
set_option maxRecDepth 100000 in
theorem laws_FnCmd.mono_l : ∀ k, (∀ y0, LeO (laws_FnCmd.j0 k y0) (laws_FnCmd.j0 (k + 1) y0)) ∧ (∀ y0 y1 y2 y3 y4 y5 y6 y7, LeO (laws_FnCmd.j1 k y0 y1 y2 y3 y4 y5 y6 y7) (laws_FnCmd.j1 (k + 1) y0 y1 y2 y3 y4 y5 y6 y7)) ∧ (∀ y0, LeO (laws_FnCmd.j2 k y0) (laws_FnCmd.j2 (k + 1) y0)) ∧ (∀ y0 y1 y2 y3 y4 y5 y6 y7 y8, LeO (laws_FnCmd.j3 k y0 y1 y2 y3 y4 y5 y6 y7 y8) (laws_FnCmd.j3 (k + 1) y0 y1 y2 y3 y4 y5 y6 y7 y8))
 | 0 => ⟨fun _ r h => by simp [laws_FnCmd.j0] at h, fun _ _ _ _ _ _ _ _ r h => by simp [laws_FnCmd.j1] at h, fun _ r h => by simp [laws_FnCmd.j2] at h, fun _ _ _ _ _ _ _ _ _ r h => by simp [laws_FnCmd.j3] at h⟩
 | k + 1 => by
  obtain ⟨ih0, ih1, ih2, ih3⟩ := laws_FnCmd.mono_l k
  refine ⟨?_, ?_, ?_, ?_⟩
  ·intro y0
   unfold laws_FnCmd.j0
   repeat' first
   | (with_reducible exact ih0 _)
   | (with_reducible exact ih1 _ _ _ _ _ _ _ _)
   | (with_reducible exact ih2 _)
   | (with_reducible exact ih3 _ _ _ _ _ _ _ _ _)
   | (with_reducible exact impl_CmdOk.mono _ _ _ _ _ _)
   | (with_reducible exact impl_CmdPack.mono _ _ _ _ _ _)
   | (with_reducible exact impl_CmdRead.mono _ _ _)
   | (with_reducible exact spec_CmdOk.mono _ _ _ _ _ _)
   | (with_reducible exact spec_CmdRead.mono _ _ _)
   | (with_reducible exact spec_DrawCmdPack.mono _ _)
   | (with_reducible exact spec_DrawCmdRead.mono _ _)
   | (with_reducible exact LeO.refl _)
   | (with_reducible exact LeO.none _)
   | (with_reducible refine LeO.ite ?_ ?_)
   | (with_reducible refine LeO.bind ?_ (fun _ => ?_))
   | exact ih0 _
   | exact ih1 _ _ _ _ _ _ _ _
   | exact ih2 _
   | exact ih3 _ _ _ _ _ _ _ _ _
   | exact impl_CmdOk.mono _ _ _ _ _ _
   | exact impl_CmdPack.mono _ _ _ _ _ _
   | exact impl_CmdRead.mono _ _ _
   | exact spec_CmdOk.mono _ _ _ _ _ _
   | exact spec_CmdRead.mono _ _ _
   | exact spec_DrawCmdPack.mono _ _
   | exact spec_DrawCmdRead.mono _ _
   | exact LeO.none _
   | refine LeO.ite ?_ ?_
   | refine LeO.bind ?_ (fun _ => ?_)
  ·intro y0 y1 y2 y3 y4 y5 y6 y7
   unfold laws_FnCmd.j1
   repeat' first
   | (with_reducible exact ih0 _)
   | (with_reducible exact ih1 _ _ _ _ _ _ _ _)
   | (with_reducible exact ih2 _)
   | (with_reducible exact ih3 _ _ _ _ _ _ _ _ _)
   | (with_reducible exact impl_CmdOk.mono _ _ _ _ _ _)
   | (with_reducible exact impl_CmdPack.mono _ _ _ _ _ _)
   | (with_reducible exact impl_CmdRead.mono _ _ _)
   | (with_reducible exact spec_CmdOk.mono _ _ _ _ _ _)
   | (with_reducible exact spec_CmdRead.mono _ _ _)
   | (with_reducible exact spec_DrawCmdPack.mono _ _)
   | (with_reducible exact spec_DrawCmdRead.mono _ _)
   | (with_reducible exact LeO.refl _)
   | (with_reducible exact LeO.none _)
   | (with_reducible refine LeO.ite ?_ ?_)
   | (with_reducible refine LeO.bind ?_ (fun _ => ?_))
   | exact ih0 _
   | exact ih1 _ _ _ _ _ _ _ _
   | exact ih2 _
   | exact ih3 _ _ _ _ _ _ _ _ _
   | exact impl_CmdOk.mono _ _ _ _ _ _
   | exact impl_CmdPack.mono _ _ _ _ _ _
   | exact impl_CmdRead.mono _ _ _
   | exact spec_CmdOk.mono _ _ _ _ _ _
   | exact spec_CmdRead.mono _ _ _
   | exact spec_DrawCmdPack.mono _ _
   | exact spec_DrawCmdRead.mono _ _
   | exact LeO.none _
   | refine LeO.ite ?_ ?_
   | refine LeO.bind ?_ (fun _ => ?_)
  ·intro y0
   unfold laws_FnCmd.j2
   repeat' first
   | (with_reducible exact ih0 _)
   | (with_reducible exact ih1 _ _ _ _ _ _ _ _)
   | (with_reducible exact ih2 _)
   | (with_reducible exact ih3 _ _ _ _ _ _ _ _ _)
   | (with_reducible exact impl_CmdOk.mono _ _ _ _ _ _)
   | (with_reducible exact impl_CmdPack.mono _ _ _ _ _ _)
   | (with_reducible exact impl_CmdRead.mono _ _ _)
   | (with_reducible exact spec_CmdOk.mono _ _ _ _ _ _)
   | (with_reducible exact spec_CmdRead.mono _ _ _)
   | (with_reducible exact spec_DrawCmdPack.mono _ _)
   | (with_reducible exact spec_DrawCmdRead.mono _ _)
   | (with_reducible exact LeO.refl _)
   | (with_reducible exact LeO.none _)
   | (with_reducible refine LeO.ite ?_ ?_)
   | (with_reducible refine LeO.bind ?_ (fun _ => ?_))
   | exact ih0 _
   | exact ih1 _ _ _ _ _ _ _ _
   | exact ih2 _
   | exact ih3 _ _ _ _ _ _ _ _ _
   | exact impl_CmdOk.mono _ _ _ _ _ _
   | exact impl_CmdPack.mono _ _ _ _ _ _
   | exact impl_CmdRead.mono _ _ _
   | exact spec_CmdOk.mono _ _ _ _ _ _
   | exact spec_CmdRead.mono _ _ _
   | exact spec_DrawCmdPack.mono _ _
   | exact spec_DrawCmdRead.mono _ _
   | exact LeO.none _
   | refine LeO.ite ?_ ?_
   | refine LeO.bind ?_ (fun _ => ?_)
  ·intro y0 y1 y2 y3 y4 y5 y6 y7 y8
   unfold laws_FnCmd.j3
   repeat' first
   | (with_reducible exact ih0 _)
   | (with_reducible exact ih1 _ _ _ _ _ _ _ _)
   | (with_reducible exact ih2 _)
   | (with_reducible exact ih3 _ _ _ _ _ _ _ _ _)
   | (with_reducible exact impl_CmdOk.mono _ _ _ _ _ _)
   | (with_reducible exact impl_CmdPack.mono _ _ _ _ _ _)
   | (with_reducible exact impl_CmdRead.mono _ _ _)
   | (with_reducible exact spec_CmdOk.mono _ _ _ _ _ _)
   | (with_reducible exact spec_CmdRead.mono _ _ _)
   | (with_reducible exact spec_DrawCmdPack.mono _ _)
   | (with_reducible exact spec_DrawCmdRead.mono _ _)
   | (with_reducible exact LeO.refl _)
   | (with_reducible exact LeO.none _)
   | (with_reducible refine LeO.ite ?_ ?_)
   | (with_reducible refine LeO.bind ?_ (fun _ => ?_))
   | exact ih0 _
   | exact ih1 _ _ _ _ _ _ _ _
   | exact ih2 _
   | exact ih3 _ _ _ _ _ _ _ _ _
   | exact impl_CmdOk.mono _ _ _ _ _ _
   | exact impl_CmdPack.mono _ _ _ _ _ _
   | exact impl_CmdRead.mono _ _ _
   | exact spec_CmdOk.mono _ _ _ _ _ _
   | exact spec_CmdRead.mono _ _ _
   | exact spec_DrawCmdPack.mono _ _
   | exact spec_DrawCmdRead.mono _ _
   | exact LeO.none _
   | refine LeO.ite ?_ ?_
   | refine LeO.bind ?_ (fun _ => ?_)
theorem laws_FnCmd.mono : ∀ a0 k, LeO (laws_FnCmd.f k a0) (laws_FnCmd.f (k + 1) a0) := by
 intro a0 k
 obtain ⟨ih0, ih1, ih2, ih3⟩ := laws_FnCmd.mono_l k
 unfold laws_FnCmd.f
 repeat' first
  | (with_reducible exact ih0 _)
  | (with_reducible exact ih1 _ _ _ _ _ _ _ _)
  | (with_reducible exact ih2 _)
  | (with_reducible exact ih3 _ _ _ _ _ _ _ _ _)
  | (with_reducible exact impl_CmdOk.mono _ _ _ _ _ _)
  | (with_reducible exact impl_CmdPack.mono _ _ _ _ _ _)
  | (with_reducible exact impl_CmdRead.mono _ _ _)
  | (with_reducible exact spec_CmdOk.mono _ _ _ _ _ _)
  | (with_reducible exact spec_CmdRead.mono _ _ _)
  | (with_reducible exact spec_DrawCmdPack.mono _ _)
  | (with_reducible exact spec_DrawCmdRead.mono _ _)
  | (with_reducible exact LeO.refl _)
  | (with_reducible exact LeO.none _)
  | (with_reducible refine LeO.ite ?_ ?_)
  | (with_reducible refine LeO.bind ?_ (fun _ => ?_))
  | exact ih0 _
  | exact ih1 _ _ _ _ _ _ _ _
  | exact ih2 _
  | exact ih3 _ _ _ _ _ _ _ _ _
  | exact impl_CmdOk.mono _ _ _ _ _ _
  | exact impl_CmdPack.mono _ _ _ _ _ _
  | exact impl_CmdRead.mono _ _ _
  | exact spec_CmdOk.mono _ _ _ _ _ _
  | exact spec_CmdRead.mono _ _ _
  | exact spec_DrawCmdPack.mono _ _
  | exact spec_DrawCmdRead.mono _ _
  | exact LeO.none _
  | refine LeO.ite ?_ ?_
  | refine LeO.bind ?_ (fun _ => ?_)
def laws_FnCmd.T19 : Bool × List (List Nat × List Nat) := (true, [([], []), ([0], [0]), ([1], [1]), ([2, 1, 1], [1, 2]), ([1, 3], [1, 3]), ([4, 3], [4]), ([5], [5]), ([6, 5], [5, 6]), ([5, 7], [5, 7]), ([8, 5], [8]), ([9], [9]), ([9], [9]), ([11, 9], [9, 11]), ([10, 12, 9], [9, 10, 12]), ([9, 13], [9, 13]), ([14, 9], [14]), ([15], [15]), ([16, 15], [15, 16]), ([15], [15]), ([15], [15]), ([15], [15]), ([18, 19, 20, 15], [15, 18, 19, 20]), ([21, 15], [15, 21]), ([17, 22, 15], [15, 17, 22]), ([15, 23], [15, 23]), ([24, 15, 0, 1, 2, 3, 4, 5, 6, 7, 8, 9, 10, 11, 12, 13, 14, 15, 16, 17, 18, 19, 20, 21, 22, 23, 24], [24])])
def laws_FnCmd.B19 : List Nat := [0, 1, 3, 7, 15, 31, 63, 127, 255, 511, 1023, 1023, 3071, 8191, 16383, 32767, 65535, 131071, 65535, 65535, 65535, 1900543, 3997695, 8388607, 16777215, 33554431]
theorem laws_FnCmd.tab19 : rtab .any (opsOf Try.f4 19) = laws_FnCmd.T19 := by kernel_rfl
theorem laws_FnCmd.bits19 : waitsOk laws_FnCmd.T19.2 laws_FnCmd.B19 = true := by kernel_rfl
set_option maxHeartbeats 8000000 in
set_option maxRecDepth 100000 in
theorem laws_FnCmd.calls (k : Nat) (A0 : Option Addr) (c0 : Nat) (l0 : List Int) (r : Bool) (w : World) (hr0 : Kd.C (Kd.int .u8) w A0 l0.length l0) (hc0 : l0.length ≤ c0) (h : laws_FnCmd.f k l0 = some r) :
 Calls Try.prog 4 #[.slice A0 l0.length c0] w fun e w' => e = .returned (.bool r) ∧ Below w.heap.size w w' := by
 have hu34 := Try.underlying34
 have HR0 := aM hr0
 have HC0 := aM hc0
 clear hr0 hc0
 have HB := aM (Below.refl w.heap.size w)
 have H : ((laws_big.f l0).bind fun t479 => (if t479 = true then (some true) else (laws_FnCmd.j0 k l0))) = some r := h
 clear h
 replace H := Option.bind_eq_some_iff.mp H
 obtain ⟨t479, A20, H⟩ := H
 replace H : (if t479 = true then (some true) else (laws_FnCmd.j0 k l0)) = some r := H
 have A2 := aM A20
 clear A20
 have HC3 := aM H
 clear H
 go_enter Try.func4, Try.ntmps4
 go_upto_if 20 with (first | ((with_reducible refine gate_callee (f := 15) rfl ?_); refine goesL_ (some 20) rfl rfl Try.func15 (by kernel_rfl) rfl #[.slice A0 l0.length c0] rfl (by (try simp only [List.map_toArray, List.map_cons, List.map_nil]); first | done | rfl | (simp only [List.length_drop, List.length_take]; rfl)) ?_; (with_reducible refine (laws_big.calls _ _ l0 t479 _ ?side1 ?side2 A2.out).mono ?_); (case side1 => repeat (first | exact HR0.out | (with_reducible refine Kd.C_alloc ?_ _) | (with_reducible refine Kd.C_drewN ?_ _) | (with_reducible refine Kd.C_drew ?_))); (case side2 => exact HC0.out); rintro e w' ⟨rfl, ⟨nd, rfl⟩⟩; refine ⟨_, rfl, ?_⟩))
 (try simp only [Act.put, List.setIfInBounds_toArray, List.set_cons_zero, List.set_cons_succ])
 go_cut [] (fun wc => ∃ (kq : Nat), Aside0 (laws_FnCmd.j0 kq l0 = some r) ∧ Aside0 (kq ≤ k) ∧ Aside0 (Below w.heap.size w wc))
 case first =>
  have H := HC3.out; clear HC3
  by_cases c4 : t479 = true
  ·subst c4
   have H1 : (some true) = some r := by rw [if_pos rfl] at H; exact H
   clear H; have H := H1; clear H1
   obtain rfl := Option.some.inj H
   go_wp2
   go_ret
   exact ⟨by first | rfl | (simp [errW_none, errW_some] <;> rfl) | (simp [*, errW_none, errW_some] <;> rfl), xbel⟩
  ·replace c4 := Bool.eq_false_iff.mpr c4
   subst c4
   have H1 : (laws_FnCmd.j0 k l0) = some r := by rw [if_neg (show ¬ (false = true) by decide)] at H; exact H
   clear H; have H := H1; clear H1
   have H' := aM H
   clear H
   go_wp2
   go_meet
   case rel => exact ⟨_, H', ⟨by first | omega | exact Nat.le_refl _⟩, ⟨xbel⟩⟩
 case rest =>
  clear HC3
  try clear c1
  try clear p2
  try clear c4
  obtain ⟨kq, HA, HJ2, HB⟩ := hcut
  cases kq with
  | zero => exact absurd HA.out (by simp [laws_FnCmd.j0])
  | succ kj2 =>
   have H := HA.out; clear HA
   simp only [laws_FnCmd.j0] at H
   replace H := Option.bind_eq_some_iff.mp H
   obtain ⟨⟨t480, t481, t482, t483, t484⟩, A50, H⟩ := H
   replace H : ((impl_CmdPack.f kj2 t480 t481 t482 t483 t484).bind fun bt486 => ((spec_CmdOk.f kj2 t480 t481 t482 t483 t484).bind fun t490 => (if (bt486.2 != t490) = true then (some false) else (laws_FnCmd.j1 kj2 l0 bt486.1 bt486.2 t480 t481 t482 t483 t484)))) = some r := H; have A5 := aM A50; clear A50; replace H := Option.bind_eq_some_iff.mp H
   obtain ⟨⟨t486, t489⟩, A60, H⟩ := H
   replace H : ((spec_CmdOk.f kj2 t480 t481 t482 t483 t484).bind fun t490 => (if (t489 != t490) = true then (some false) else (laws_FnCmd.j1 kj2 l0 t486 t489 t480 t481 t482 t483 t484))) = some r := H; have A6 := aM A60; clear A60; replace H := Option.bind_eq_some_iff.mp H
   obtain ⟨t490, A70, H⟩ := H
   replace H : (if (t489 != t490) = true then (some false) else (laws_FnCmd.j1 kj2 l0 t486 t489 t480 t481 t482 t483 t484)) = some r := H; have A7 := aM A70; clear A70; have HC8 := aM H; clear H
   go_upto_if 31 with (first | ((with_reducible refine gate_callee (f := 22) rfl ?_); refine goesL_ (some 22) rfl rfl Try.func22 (by kernel_rfl) rfl #[.slice A0 l0.length c0] rfl (by (try simp only [List.map_toArray, List.map_cons, List.map_nil]); first | done | rfl | (simp only [List.length_drop, List.length_take]; rfl)) ?_; (with_reducible refine (spec_DrawCmdPack.calls kj2 _ _ l0 t480 t481 t482 t483 t484 _ ?side1 ?side2 A5.out).mono ?_); (case side1 => exact xcb HR0); (case side2 => exact HC0.out); rintro e w9 ⟨rfl, hb⟩; refine ⟨_, rfl, ?_⟩; replace HB := xbs hb; (try clear hb); (try clear hb2); (try clear hk); (try clear hi)) | ((with_reducible refine gate_dst (N := 3) rfl ?_); (try (refine gate_guard (by rfl) ?_; dsimp only)); refine box_event ?hg (N := 3) ?hd (cs := #[.int .i64 0, .int .i64 0, .int .i64 0, .int .i64 0, .string (⟨#[]⟩ : ByteArray)]) (t := 34) ?hr ?_; (case hd => rfl); (case hg => rfl); (case hr => first | (go_simp; done) | (go_simp; rfl)); intro gb485 hg w10 hbox hb; have BK485 := aM (hbox); have GW485 := aM (xge hg); have GE485 := aM (xge hg); replace HB := xbs hb; clear hb hbox hg; have hcz11_0 : w10.cell? ⟨gb485, 0, none⟩ = some (.int .i64 0) := xc BK485 0 rfl; have hcz11_1 : w10.cell? ⟨gb485, 1, none⟩ = some (.int .i64 0) := xc BK485 1 rfl; have hcz11_2 : w10.cell? ⟨gb485, 2, none⟩ = some (.int .i64 0) := xc BK485 2 rfl; have hcz11_3 : w10.cell? ⟨gb485, 3, none⟩ = some (.int .i64 0) := xc BK485 3 rfl; have hcz11_4 : w10.cell? ⟨gb485, 4, none⟩ = some (.string (⟨#[]⟩ : ByteArray)) := xc BK485 4 rfl; have hfz11_0 := blk_frozen BK485.out 0; have hfz11_1 := blk_frozen BK485.out 1; have hfz11_2 := blk_frozen BK485.out 2; have hfz11_3 := blk_frozen BK485.out 3; have hfz11_4 := blk_frozen BK485.out 4) | ((with_reducible refine gate_store (t := 34) (p := 3) rfl ?_); refine store_event (t := 34) (p := 3) (v := ?vo_w12) (w1 := (((((w10.setCell ⟨gb485, 0, none⟩ (.int .i64 t480)).setCell ⟨gb485, 1, none⟩ (.int .i64 t481)).setCell ⟨gb485, 2, none⟩ (.int .i64 t482)).setCell ⟨gb485, 3, none⟩ (.int .i64 t483)).setCell ⟨gb485, 4, none⟩ (.string t484))) ?hg ?ho ?hn ?hr ?_; (case ho => rfl); (case hg => rfl); (case hn => rfl); (case hr => first | (go_simp; done) | (go_simp; rfl)); intro w12 hw; replace BK485 : Aside0 (w12.heap[gb485]? = some (.cells #[.int .i64 t480, .int .i64 t481, .int .i64 t482, .int .i64 t483, .string t484] 34 (0, 0))) := ⟨(by rw [hw]; exact (by (with_reducible repeat (first | refine blk_drewN ?_ _ | refine blk_drew ?_ | refine blk_alloc ?_ _)); refine blk_put (cs := #[.int .i64 t480, .int .i64 t481, .int .i64 t482, .int .i64 t483, .string (⟨#[]⟩ : ByteArray)]) ?_ 4 _ rfl; (with_reducible repeat (first | refine blk_drewN ?_ _ | refine blk_drew ?_ | refine blk_alloc ?_ _)); refine blk_put (cs := #[.int .i64 t480, .int .i64 t481, .int .i64 t482, .int .i64 0, .string (⟨#[]⟩ : ByteArray)]) ?_ 3 _ rfl; (with_reducible repeat (first | refine blk_drewN ?_ _ | refine blk_drew ?_ | refine blk_alloc ?_ _)); refine blk_put (cs := #[.int .i64 t480, .int .i64 t481, .int .i64 0, .int .i64 0, .string (⟨#[]⟩ : ByteArray)]) ?_ 2 _ rfl; (with_reducible repeat (first | refine blk_drewN ?_ _ | refine blk_drew ?_ | refine blk_alloc ?_ _)); refine blk_put (cs := #[.int .i64 t480, .int .i64 0, .int .i64 0, .int .i64 0, .string (⟨#[]⟩ : ByteArray)]) ?_ 1 _ rfl; (with_reducible repeat (first | refine blk_drewN ?_ _ | refine blk_drew ?_ | refine blk_alloc ?_ _)); refine blk_put (cs := #[.int .i64 0, .int .i64 0, .int .i64 0, .int .i64 0, .string (⟨#[]⟩ : ByteArray)]) ?_ 0 _ rfl; (with_reducible repeat (first | refine blk_drewN ?_ _ | refine blk_drew ?_ | refine blk_alloc ?_ _)); exact BK485.out))⟩; replace HB : Aside0 (Below w.heap.size w w12) := ⟨(by rw [hw]; exact xbg)⟩; clear hw; have hcz13_0 : w12.cell? ⟨gb485, 0, none⟩ = some (.int .i64 t480) := xc BK485 0 rfl; have hcz13_1 : w12.cell? ⟨gb485, 1, none⟩ = some (.int .i64 t481) := xc BK485 1 rfl; have hcz13_2 : w12.cell? ⟨gb485, 2, none⟩ = some (.int .i64 t482) := xc BK485 2 rfl; have hcz13_3 : w12.cell? ⟨gb485, 3, none⟩ = some (.int .i64 t483) := xc BK485 3 rfl; have hcz13_4 : w12.cell? ⟨gb485, 4, none⟩ = some (.string t484) := xc BK485 4 rfl; have hfz13_0 := blk_frozen BK485.out 0; have hfz13_1 := blk_frozen BK485.out 1; have hfz13_2 := blk_frozen BK485.out 2; have hfz13_3 := blk_frozen BK485.out 3; have hfz13_4 := blk_frozen BK485.out 4) | ((with_reducible refine gate_callee (f := 23) rfl ?_); refine goesL_ (some 25) rfl rfl Try.func23 (by kernel_rfl) rfl #[.agg #[.int .i64 t480, .int .i64 t481, .int .i64 t482, .int .i64 t483, .string t484]] rfl (by (try simp only [List.map_toArray, List.map_cons, List.map_nil]); first | done | rfl | (simp only [List.length_drop, List.length_take]; rfl)) ?_; (with_reducible refine (impl_CmdPack.calls kj2 t480 t481 t482 t483 t484 t486 t489 _ A6.out).mono ?_); rintro e w14 ⟨v487, rfl, ho0, hb⟩; refine ⟨_, rfl, ?_⟩; have HO488 := aM (Kd.R_lower ho0 (below_size xbg)); replace BK485 := xbb BK485 hb; replace HB := xbs hb; (try clear hb); (try clear hb2); (try clear hk); (try clear hi); (try clear ho0); have hcz15_0 : w14.cell? ⟨gb485, 0, none⟩ = some (.int .i64 t480) := xc BK485 0 rfl; have hcz15_1 : w14.cell? ⟨gb485, 1, none⟩ = some (.int .i64 t481) := xc BK485 1 rfl; have hcz15_2 : w14.cell? ⟨gb485, 2, none⟩ = some (.int .i64 t482) := xc BK485 2 rfl; have hcz15_3 : w14.cell? ⟨gb485, 3, none⟩ = some (.int .i64 t483) := xc BK485 3 rfl; have hcz15_4 : w14.cell? ⟨gb485, 4, none⟩ = some (.string t484) := xc BK485 4 rfl; have hfz15_0 := blk_frozen BK485.out 0; have hfz15_1 := blk_frozen BK485.out 1; have hfz15_2 := blk_frozen BK485.out 2; have hfz15_3 := blk_frozen BK485.out 3; have hfz15_4 := blk_frozen BK485.out 4) | ((with_reducible refine gate_callee (f := 24) rfl ?_); refine goesL_ (some 30) rfl rfl Try.func24 (by kernel_rfl) rfl #[.agg #[.int .i64 t480, .int .i64 t481, .int .i64 t482, .int .i64 t483, .string t484]] rfl (by (try simp only [List.map_toArray, List.map_cons, List.map_nil]); first | done | rfl | (simp only [List.length_drop, List.length_take]; rfl)) ?_; (with_reducible refine (spec_CmdOk.calls kj2 t480 t481 t482 t483 t484 t490 _ A7.out).mono ?_); rintro e w16 ⟨rfl, hb⟩; refine ⟨_, rfl, ?_⟩; replace HO488 := aM (Kd.R_below (xr HO488) hb); replace BK485 := xbb BK485 hb; replace HB := xbs hb; (try clear hb); (try clear hb2); (try clear hk); (try clear hi)))
   (try simp only [Act.put, List.setIfInBounds_toArray, List.set_cons_zero, List.set_cons_succ])
   go_cut [] (fun wc => ∃ (kq : Nat), Aside0 (laws_FnCmd.j1 kq l0 t486 t489 t480 t481 t482 t483 t484 = some r) ∧ Aside0 (kq ≤ kj2) ∧ Aside0 (Kd.R (Kd.int .u8) 5 wc w.heap.size (fun _ => True) v487 t486) ∧ Aside0 (wc.heap[gb485]? = some (.cells #[.int .i64 t480, .int .i64 t481, .int .i64 t482, .int .i64 t483, .string t484] 34 (0, 0))) ∧ Aside0 (Below w.heap.size w wc))
   case first =>
    have H := HC8.out; clear HC8
    by_cases c17 : (t489 != t490) = true
    ·rw [if_pos c17] at H
     have c17b0 : (t489 != t490) = true := c17
     (try (have c17b8 : (t489 == t490) = false := (Bool.not_eq_true' _).mp c17b0))
     (try (have c17b1 : decide (t489 = t490) = false := by simpa using c17))
     (try (have c17b2 : (t489 == t490) = false := by simpa using c17))
     (try (have c17b3 : ¬ (t489 = t490) := by simpa using c17))
     clear c17
     (first | rw [c17b0] | (simp only [i64_w, i32_w]; rw [c17b0]) | skip)
     obtain rfl := Option.some.inj H
     go_wp2
     all_goals first | (exfalso; rename_i h_; first | exact Bool.noConfusion (h_.symm.trans c17b0) | exact absurd c17b0 (by simpa using h_) | exact absurd h_ (by simpa using c17b0)) | skip
     go_ret
     exact ⟨by first | rfl | (simp [errW_none, errW_some] <;> rfl) | (simp [*, errW_none, errW_some] <;> rfl), xbg⟩
    ·rw [if_neg c17] at H
     have c17b0 : (t489 != t490) = false := by simpa using c17
     (try (have c17b8 : (t489 == t490) = true := (Bool.not_eq_false' _).mp c17b0))
     (try (have c17b1 : decide (t489 = t490) = true := by simpa using c17))
     (try (have c17b2 : (t489 == t490) = true := by simpa using c17))
     clear c17
     (first | rw [c17b0] | (simp only [i64_w, i32_w]; rw [c17b0]) | skip)
     have H' := aM H
     clear H
     go_wp2
     all_goals first | (exfalso; rename_i h_; first | exact Bool.noConfusion (h_.symm.trans c17b0) | exact absurd c17b0 (by simpa using h_) | exact absurd h_ (by simpa using c17b0)) | skip
     go_meet
     case rel => exact ⟨_, H', ⟨by have := HJ2.out; first | omega | exact Nat.le_refl _⟩, ⟨by (with_reducible repeat (first | apply Kd.R_alloc | apply Kd.R_drewN | apply Kd.R_drew)); exact HO488.out⟩, ⟨xblk⟩, ⟨xbg⟩⟩
   case rest =>
    clear HC8
    try clear c1
    try clear c2
    try clear p2
    try clear c4
    try clear c15
    try clear c17
    try clear c17b0
    try clear c17b1
    try clear c17b2
    try clear hcz11_0
    try clear hcz11_1
    try clear hcz11_2
    try clear hcz11_3
    try clear hcz11_4
    try clear hcz13_0
    try clear hcz13_1
    try clear hcz13_2
    try clear hcz13_3
    try clear hcz13_4
    try clear hcz15_0
    try clear hcz15_1
    try clear hcz15_2
    try clear hcz15_3
    try clear hcz15_4
    try clear hfz11_0
    try clear hfz11_1
    try clear hfz11_2
    try clear hfz11_3
    try clear hfz11_4
    try clear hfz13_0
    try clear hfz13_1
    try clear hfz13_2
    try clear hfz13_3
    try clear hfz13_4
    try clear hfz15_0
    try clear hfz15_1
    try clear hfz15_2
    try clear hfz15_3
    try clear hfz15_4
    try clear p2
    obtain ⟨kq, HA, HJ7, HO_4, BK485, HB⟩ := hcut
    cases kq with
    | zero => exact absurd HA.out (by simp [laws_FnCmd.j1])
    | succ kj7 =>
     have H := HA.out; clear HA
     simp only [laws_FnCmd.j1] at H
     have HC18 := aM H; clear H
     go_upto_if 32 with (fail)
     go_cut [] (fun wc => ∃ (kq : Nat), Aside0 (laws_FnCmd.j2 kq l0 = some r) ∧ Aside0 (kq ≤ kj7) ∧ Aside0 (wc.heap[gb485]? = some (.cells #[.int .i64 t480, .int .i64 t481, .int .i64 t482, .int .i64 t483, .string t484] 34 (0, 0))) ∧ Aside0 (Below w.heap.size w wc))
     case first =>
      have H := HC18.out; clear HC18
      by_cases c19 : t489 = true
      ·subst c19
       have H1 : ((some (([7] : List Int) : List Int)).bind fun y491 => (if y491.length + t486.length < 140737488355328 then ((impl_CmdRead.f kj7 (y491 ++ t486) 1).bind fun bt497 => (if bt497.2.2.2.2.2.2 = true then (if (!(bt497.1 == t480) || (!(bt497.2.1 == t481) || (!(bt497.2.2.1 == t482) || (!(bt497.2.2.2.1 == t483) || (!(bt497.2.2.2.2.1.toList == t484.toList)))))) = true then (some false) else (if bt497.2.2.2.2.2.1 = (wrap64 (1 + (t486.length : Int))) then (laws_FnCmd.j2 kj7 l0) else (some false))) else (some false))) else (none))) = some r := by rw [if_pos rfl] at H; exact H
       clear H; have H := H1; clear H1
       obtain ⟨y491, hy491⟩ : ∃ y_ : List Int, y_ = (([7] : List Int)) := ⟨_, rfl⟩
       replace H : (if y491.length + t486.length < 140737488355328 then ((impl_CmdRead.f kj7 (y491 ++ t486) 1).bind fun bt497 => (if bt497.2.2.2.2.2.2 = true then (if (!(bt497.1 == t480) || (!(bt497.2.1 == t481) || (!(bt497.2.2.1 == t482) || (!(bt497.2.2.2.1 == t483) || (!(bt497.2.2.2.2.1.toList == t484.toList)))))) = true then (some false) else (if bt497.2.2.2.2.2.1 = (wrap64 (1 + (t486.length : Int))) then (laws_FnCmd.j2 kj7 l0) else (some false))) else (some false))) else (none)) = some r := by first | (rw [hy491]; with_reducible exact H) | (have H2_ := (Option.bind_some _ _).symm.trans H; rw [hy491]; with_reducible exact H2_) | (have H2_ := (Option.bind_some _ _).symm.trans H; with_reducible exact H2_) | with_reducible exact H | (rw [hy491]; exact H) | exact H
       have Ny491 := aM hy491; clear hy491
       by_cases c20 : y491.length + t486.length < 140737488355328
       ·rw [if_pos c20] at H
        have LMc20 := aM c20; clear c20
        obtain ⟨y494, hy494⟩ : ∃ y_ : List Int, y_ = (y491 ++ t486) := ⟨_, rfl⟩
        replace H : ((impl_CmdRead.f kj7 y494 1).bind fun bt497 => (if bt497.2.2.2.2.2.2 = true then (if (!(bt497.1 == t480) || (!(bt497.2.1 == t481) || (!(bt497.2.2.1 == t482) || (!(bt497.2.2.2.1 == t483) || (!(bt497.2.2.2.2.1.toList == t484.toList)))))) = true then (some false) else (if bt497.2.2.2.2.2.1 = (wrap64 (1 + (t486.length : Int))) then (laws_FnCmd.j2 kj7 l0) else (some false))) else (some false))) = some r := by first | (rw [hy494]; with_reducible exact H) | (have H2_ := (Option.bind_some _ _).symm.trans H; rw [hy494]; with_reducible exact H2_) | (have H2_ := (Option.bind_some _ _).symm.trans H; with_reducible exact H2_) | with_reducible exact H | (rw [hy494]; exact H) | exact H
        have Ny494 := aM hy494; clear hy494; replace H := Option.bind_eq_some_iff.mp H
        obtain ⟨⟨t497, t498, t499, t500, t501, t502, t503⟩, A210, H⟩ := H
        replace H : (if t503 = true then (if (!(t497 == t480) || (!(t498 == t481) || (!(t499 == t482) || (!(t500 == t483) || (!(t501.toList == t484.toList)))))) = true then (some false) else (if t502 = (wrap64 (1 + (t486.length : Int))) then (laws_FnCmd.j2 kj7 l0) else (some false))) else (some false)) = some r := H; have A21 := aM A210; clear A210
        by_cases c22 : t503 = true
        ·subst c22
         have H1 : (if (!(t497 == t480) || (!(t498 == t481) || (!(t499 == t482) || (!(t500 == t483) || (!(t501.toList == t484.toList)))))) = true then (some false) else (if t502 = (wrap64 (1 + (t486.length : Int))) then (laws_FnCmd.j2 kj7 l0) else (some false))) = some r := by rw [if_pos rfl] at H; exact H
         clear H; have H := H1; clear H1
         by_cases c23 : (!(t497 == t480) || (!(t498 == t481) || (!(t499 == t482) || (!(t500 == t483) || (!(t501.toList == t484.toList)))))) = true
         ·rw [if_pos c23] at H
          have c23b0 : (!(t497 == t480) || (!(t498 == t481) || (!(t499 == t482) || (!(t500 == t483) || (!(t501.toList == t484.toList)))))) = true := c23; clear c23
          (first | rw [c23b0] | (simp only [i64_w, i32_w]; rw [c23b0]) | skip)
          obtain rfl := Option.some.inj H
          go_wp2_with (first | ((with_reducible refine gate_dst (N := 34) rfl ?_); (try (refine gate_guard (by rfl) ?_; dsimp only)); refine Kd.R_lit (Kd.int .u8) _ 5 ?hg (N := 34) ?hd (xs := ([7] : List Int)) (inner := [.int .u8 7]) (ok := fun _ => True) (okp := fun _ => True) ?hr ?hp (fun _ hk => hk) trivial (Below.refl _ _) (Nat.le_refl _) (by simp) ?_; (case hd => rfl); (case hg => rfl); (case hr => first | (go_simp; done) | (go_simp; rfl)); (case hp => exact (Reps.one (show Kd.M (Kd.int .u8) _ _ _ 7 [.int .u8 7] from rfl) (Reps.none _ _))); intro v492 w24 ho25 hb hg_ hnew_; clear hg_ hnew_; (first | rw [← Ny491.out] at ho25 | (simp only [Int.reduceToNat] at ho25; rw [← Ny491.out] at ho25)); have HO493 := aM (Kd.R_lower (Kd.R_new' ho25 (Kd.R_lt (xr HO_4))) (below_size xbg)); replace HO_4 := aM (Kd.R_elder' (xr HO_4) (Kd.R_base ho25) hb); replace BK485 := xbb BK485 hb; replace HB := xbs hb; clear hb ho25; obtain ⟨Ao27, co27, eo27⟩ := Kd.R_slice HO_4.out; subst eo27) | ((with_reducible refine gate_builtin (b := .append) (xs := #[.tmp 34, .tmp 35]) rfl ?_); (try (refine gate_guard (by rfl) ?_; dsimp only)); at_builtin; refine Kd.R_append_rows (Kd.int .u8) (w0 := w) w.heap.size rfl (.tmp 34) (.tmp 35) 22 5 (.int .u8 0) 1 rfl Try.underlying22 info5 rfl (by decide) (by omega) v492 y491 t486 _ _ _ (fun k_ => some k_ ≠ (.slice Ao27 t486.length co27 : Value).ownBlock) (fun _ => False) rfl rfl ?aO ?aR (fun _ _ h => h) (fun _ h => h.elim) ?aF ?aB ?aS ?aL ?_; (case aR => repeat (first | exact (Kd.R_reads' HO_4.out).2.2 | (with_reducible refine Kd.C_alloc ?_ _) | (with_reducible refine Kd.C_drewN ?_ _) | (with_reducible refine Kd.C_drew ?_))); (case aB => exact xbg); (case aF => exact (fun k_ hk => Kd.fresh' (Kd.R_lt (xr HO_4)) k_ hk)); (case aO => exact (by (with_reducible repeat (first | apply Kd.R_alloc | apply Kd.R_drewN | apply Kd.R_drew)); exact Kd.R_mono HO493.out (fun _ hk => hk.2))); (case aS => exact (below_size xbg)); (case aL => have := LMc20.out; omega); intro v495 w26 ho hb hg hat; rw [← Ny494.out] at ho; replace HO_4 := aM (Kd.R_after (ok := (fun _ => True)) (xr HO_4) hg hat); replace BK485 := aM (blk_grown (g := gb485) (o := .cells #[.int .i64 t480, .int .i64 t481, .int .i64 t482, .int .i64 t483, .string t484] 34 (0, 0)) xblk hg (Kd.R_ne HO493.out BK485.out (by decide))); replace HB := aM (hb); have HO496 := aM (ho); clear HO493; clear ho hb hg hat; obtain ⟨Ao28, co28, eo28⟩ := Kd.R_slice HO496.out; subst eo28) | ((with_reducible refine gate_callee (f := 25) rfl ?_); refine goesL_ (some 37) rfl rfl Try.func25 (by kernel_rfl) rfl #[.slice Ao28 y494.length co28, .int .i64 1] rfl (by (try simp only [List.map_toArray, List.map_cons, List.map_nil]); first | done | rfl | (simp only [List.length_drop, List.length_take]; rfl)) ?_; (with_reducible refine (impl_CmdRead.calls kj7 _ _ y494 1 t497 t498 t499 t500 t501 t502 true _ ?side1 ?side2 A21.out).mono ?_); (case side1 => repeat (first | exact (Kd.R_reads' HO496.out).2.2 | (with_reducible refine Kd.C_alloc ?_ _) | (with_reducible refine Kd.C_drewN ?_ _) | (with_reducible refine Kd.C_drew ?_))); (case side2 => exact (Kd.R_reads' HO496.out).2.1); rintro e w29 ⟨rfl, hb⟩; refine ⟨_, rfl, ?_⟩; replace HO_4 := aM (Kd.R_below (xr HO_4) hb); replace HO496 := aM (Kd.R_below (xr HO496) hb); replace BK485 := xbb BK485 hb; replace HB := xbs hb; (try clear hb); (try clear hb2); (try clear hk); (try clear hi)) | ((with_reducible refine gate_dst (N := 6) rfl ?_); (try (refine gate_guard (by rfl) ?_; dsimp only)); refine box_event ?hg (N := 6) ?hd (cs := #[.int .i64 0, .int .i64 0, .int .i64 0, .int .i64 0, .string (⟨#[]⟩ : ByteArray)]) (t := 34) ?hr ?_; (case hd => rfl); (case hg => rfl); (case hr => first | (go_simp; done) | (go_simp; rfl)); intro gb504 hg w30 hbox hb; replace HO_4 := aM (Kd.R_below (xr HO_4) hb); replace HO496 := aM (Kd.R_below (xr HO496) hb); have GW504 := aM (xge hg); have GE504 := aM (xge hg); replace HB := xbs hb; have NB485_504 := aM ((by rw [hg]; exact Nat.ne_of_lt (blk_lt (g := gb485) (o := .cells #[.int .i64 t480, .int .i64 t481, .int .i64 t482, .int .i64 t483, .string t484] 34 (0, 0)) xblk) : gb485 ≠ gb504)); have NB504_485 := aM ((by rw [hg]; exact Nat.ne_of_gt (blk_lt (g := gb485) (o := .cells #[.int .i64 t480, .int .i64 t481, .int .i64 t482, .int .i64 t483, .string t484] 34 (0, 0)) xblk) : gb504 ≠ gb485)); replace BK485 := xbb BK485 hb; have BK504 := aM (hbox); clear hb hbox hg; have hnb31 := NB504_485.out; have hnc31 := NB485_504.out; have hcz32_0 : w30.cell? ⟨gb504, 0, none⟩ = some (.int .i64 0) := xc BK504 0 rfl; have hcz32_1 : w30.cell? ⟨gb504, 1, none⟩ = some (.int .i64 0) := xc BK504 1 rfl; have hcz32_2 : w30.cell? ⟨gb504, 2, none⟩ = some (.int .i64 0) := xc BK504 2 rfl; have hcz32_3 : w30.cell? ⟨gb504, 3, none⟩ = some (.int .i64 0) := xc BK504 3 rfl; have hcz32_4 : w30.cell? ⟨gb504, 4, none⟩ = some (.string (⟨#[]⟩ : ByteArray)) := xc BK504 4 rfl; have hfz32_0 := blk_frozen BK504.out 0; have hfz32_1 := blk_frozen BK504.out 1; have hfz32_2 := blk_frozen BK504.out 2; have hfz32_3 := blk_frozen BK504.out 3; have hfz32_4 := blk_frozen BK504.out 4) | ((with_reducible refine gate_store (t := 34) (p := 6) rfl ?_); refine store_event (t := 34) (p := 6) (v := ?vo_w33) (w1 := (((((w30.setCell ⟨gb504, 0, none⟩ (.int .i64 t497)).setCell ⟨gb504, 1, none⟩ (.int .i64 t498)).setCell ⟨gb504, 2, none⟩ (.int .i64 t499)).setCell ⟨gb504, 3, none⟩ (.int .i64 t500)).setCell ⟨gb504, 4, none⟩ (.string t501))) ?hg ?ho ?hn ?hr ?_; (case ho => rfl); (case hg => rfl); (case hn => rfl); (case hr => first | (go_simp; done) | (go_simp; rfl)); intro w33 hw; replace HO_4 : Aside0 (Kd.R (Kd.int .u8) 5 w33 w.heap.size (fun k_ => some k_ ≠ (.slice Ao28 y494.length co28 : Value).ownBlock) (.slice Ao27 t486.length co27) t486) := ⟨(by rw [hw]; exact (by (with_reducible repeat (first | apply Kd.R_alloc | apply Kd.R_drewN | apply Kd.R_drew)); exact Kd.R_mono (Kd.R_far (p := ⟨gb504, 4, none⟩) (Kd.R_far (p := ⟨gb504, 3, none⟩) (Kd.R_far (p := ⟨gb504, 2, none⟩) (Kd.R_far (p := ⟨gb504, 1, none⟩) (Kd.R_far (p := ⟨gb504, 0, none⟩) (Kd.R_types HO_4.out BK504.out (by decide)) (fun _ hk => hk.2) (.int .i64 t497)) (fun _ hk => hk.2) (.int .i64 t498)) (fun _ hk => hk.2) (.int .i64 t499)) (fun _ hk => hk.2) (.int .i64 t500)) (fun _ hk => hk.2) (.string t501)) (fun _ hk => hk.1.2)))⟩; replace HO496 : Aside0 (Kd.R (Kd.int .u8) 5 w33 w.heap.size (fun k_ => some k_ ≠ (.slice Ao27 t486.length co27 : Value).ownBlock) (.slice Ao28 y494.length co28) y494) := ⟨(by rw [hw]; exact (by (with_reducible repeat (first | apply Kd.R_alloc | apply Kd.R_drewN | apply Kd.R_drew)); exact Kd.R_mono (Kd.R_far (p := ⟨gb504, 4, none⟩) (Kd.R_far (p := ⟨gb504, 3, none⟩) (Kd.R_far (p := ⟨gb504, 2, none⟩) (Kd.R_far (p := ⟨gb504, 1, none⟩) (Kd.R_far (p := ⟨gb504, 0, none⟩) (Kd.R_types HO496.out BK504.out (by decide)) (fun _ hk => hk.2) (.int .i64 t497)) (fun _ hk => hk.2) (.int .i64 t498)) (fun _ hk => hk.2) (.int .i64 t499)) (fun _ hk => hk.2) (.int .i64 t500)) (fun _ hk => hk.2) (.string t501)) (fun _ hk => hk.1)))⟩; replace BK485 : Aside0 (w33.heap[gb485]? = some (.cells #[.int .i64 t480, .int .i64 t481, .int .i64 t482, .int .i64 t483, .string t484] 34 (0, 0))) := ⟨(by rw [hw]; exact (by (with_reducible repeat (first | refine blk_drewN ?_ _ | refine blk_drew ?_ | refine blk_alloc ?_ _)); refine blk_far ?_ NB485_504.out _; (with_reducible repeat (first | refine blk_drewN ?_ _ | refine blk_drew ?_ | refine blk_alloc ?_ _)); refine blk_far ?_ NB485_504.out _; (with_reducible repeat (first | refine blk_drewN ?_ _ | refine blk_drew ?_ | refine blk_alloc ?_ _)); refine blk_far ?_ NB485_504.out _; (with_reducible repeat (first | refine blk_drewN ?_ _ | refine blk_drew ?_ | refine blk_alloc ?_ _)); refine blk_far ?_ NB485_504.out _; (with_reducible repeat (first | refine blk_drewN ?_ _ | refine blk_drew ?_ | refine blk_alloc ?_ _)); refine blk_far ?_ NB485_504.out _; (with_reducible repeat (first | refine blk_drewN ?_ _ | refine blk_drew ?_ | refine blk_alloc ?_ _)); exact BK485.out))⟩; replace BK504 : Aside0 (w33.heap[gb504]? = some (.cells #[.int .i64 t497, .int .i64 t498, .int .i64 t499, .int .i64 t500, .string t501] 34 (0, 0))) := ⟨(by rw [hw]; exact (by (with_reducible repeat (first | refine blk_drewN ?_ _ | refine blk_drew ?_ | refine blk_alloc ?_ _)); refine blk_put (cs := #[.int .i64 t497, .int .i64 t498, .int .i64 t499, .int .i64 t500, .string (⟨#[]⟩ : ByteArray)]) ?_ 4 _ rfl; (with_reducible repeat (first | refine blk_drewN ?_ _ | refine blk_drew ?_ | refine blk_alloc ?_ _)); refine blk_put (cs := #[.int .i64 t497, .int .i64 t498, .int .i64 t499, .int .i64 0, .string (⟨#[]⟩ : ByteArray)]) ?_ 3 _ rfl; (with_reducible repeat (first | refine blk_drewN ?_ _ | refine blk_drew ?_ | refine blk_alloc ?_ _)); refine blk_put (cs := #[.int .i64 t497, .int .i64 t498, .int .i64 0, .int .i64 0, .string (⟨#[]⟩ : ByteArray)]) ?_ 2 _ rfl; (with_reducible repeat (first | refine blk_drewN ?_ _ | refine blk_drew ?_ | refine blk_alloc ?_ _)); refine blk_put (cs := #[.int .i64 t497, .int .i64 0, .int .i64 0, .int .i64 0, .string (⟨#[]⟩ : ByteArray)]) ?_ 1 _ rfl; (with_reducible repeat (first | refine blk_drewN ?_ _ | refine blk_drew ?_ | refine blk_alloc ?_ _)); refine blk_put (cs := #[.int .i64 0, .int .i64 0, .int .i64 0, .int .i64 0, .string (⟨#[]⟩ : ByteArray)]) ?_ 0 _ rfl; (with_reducible repeat (first | refine blk_drewN ?_ _ | refine blk_drew ?_ | refine blk_alloc ?_ _)); exact BK504.out))⟩; replace HB : Aside0 (Below w.heap.size w w33) := ⟨(by rw [hw]; exact xbg)⟩; clear hw; have hcz34_0 : w33.cell? ⟨gb504, 0, none⟩ = some (.int .i64 t497) := xc BK504 0 rfl; have hcz34_1 : w33.cell? ⟨gb504, 1, none⟩ = some (.int .i64 t498) := xc BK504 1 rfl; have hcz34_2 : w33.cell? ⟨gb504, 2, none⟩ = some (.int .i64 t499) := xc BK504 2 rfl; have hcz34_3 : w33.cell? ⟨gb504, 3, none⟩ = some (.int .i64 t500) := xc BK504 3 rfl; have hcz34_4 : w33.cell? ⟨gb504, 4, none⟩ = some (.string t501) := xc BK504 4 rfl; have hfz34_0 := blk_frozen BK504.out 0; have hfz34_1 := blk_frozen BK504.out 1; have hfz34_2 := blk_frozen BK504.out 2; have hfz34_3 := blk_frozen BK504.out 3; have hfz34_4 := blk_frozen BK504.out 4; have hcz35_0 : w33.cell? ⟨gb485, 0, none⟩ = some (.int .i64 t480) := xc BK485 0 rfl; have hcz35_1 : w33.cell? ⟨gb485, 1, none⟩ = some (.int .i64 t481) := xc BK485 1 rfl; have hcz35_2 : w33.cell? ⟨gb485, 2, none⟩ = some (.int .i64 t482) := xc BK485 2 rfl; have hcz35_3 : w33.cell? ⟨gb485, 3, none⟩ = some (.int .i64 t483) := xc BK485 3 rfl; have hcz35_4 : w33.cell? ⟨gb485, 4, none⟩ = some (.string t484) := xc BK485 4 rfl; have hfz35_0 := blk_frozen BK485.out 0; have hfz35_1 := blk_frozen BK485.out 1; have hfz35_2 := blk_frozen BK485.out 2; have hfz35_3 := blk_frozen BK485.out 3; have hfz35_4 := blk_frozen BK485.out 4))
          go_ret
          exact ⟨by first | rfl | (simp [errW_none, errW_some] <;> rfl) | (simp [*, errW_none, errW_some] <;> rfl), xbg⟩
         ·rw [if_neg c23] at H
          have c23b0 : (!(t497 == t480) || (!(t498 == t481) || (!(t499 == t482) || (!(t500 == t483) || (!(t501.toList == t484.toList)))))) = false := by simpa using c23
          clear c23
          (first | rw [c23b0] | (simp only [i64_w, i32_w]; rw [c23b0]) | skip)
          by_cases c36 : t502 = (wrap64 (1 + (t486.length : Int)))
          ·rw [if_pos c36] at H
           have c36b0 : (t502 == (wrap64 (1 + (t486.length : Int)))) = true := beq_iff_eq.mpr c36; have c36b1 : (t502 != (wrap64 (1 + (t486.length : Int)))) = false := bne_eq_false_iff_eq.mpr c36; clear c36
           have H' := aM H
           clear H
           go_wp2_with (first | ((with_reducible refine gate_dst (N := 34) rfl ?_); (try (refine gate_guard (by rfl) ?_; dsimp only)); refine Kd.R_lit (Kd.int .u8) _ 5 ?hg (N := 34) ?hd (xs := ([7] : List Int)) (inner := [.int .u8 7]) (ok := fun _ => True) (okp := fun _ => True) ?hr ?hp (fun _ hk => hk) trivial (Below.refl _ _) (Nat.le_refl _) (by simp) ?_; (case hd => rfl); (case hg => rfl); (case hr => first | (go_simp; done) | (go_simp; rfl)); (case hp => exact (Reps.one (show Kd.M (Kd.int .u8) _ _ _ 7 [.int .u8 7] from rfl) (Reps.none _ _))); intro v492 w37 ho38 hb hg_ hnew_; clear hg_ hnew_; (first | rw [← Ny491.out] at ho38 | (simp only [Int.reduceToNat] at ho38; rw [← Ny491.out] at ho38)); have HO493 := aM (Kd.R_lower (Kd.R_new' ho38 (Kd.R_lt (xr HO_4))) (below_size xbg)); replace HO_4 := aM (Kd.R_elder' (xr HO_4) (Kd.R_base ho38) hb); replace BK485 := xbb BK485 hb; replace HB := xbs hb; clear hb ho38; obtain ⟨Ao40, co40, eo40⟩ := Kd.R_slice HO_4.out; subst eo40) | ((with_reducible refine gate_builtin (b := .append) (xs := #[.tmp 34, .tmp 35]) rfl ?_); (try (refine gate_guard (by rfl) ?_; dsimp only)); at_builtin; refine Kd.R_append_rows (Kd.int .u8) (w0 := w) w.heap.size rfl (.tmp 34) (.tmp 35) 22 5 (.int .u8 0) 1 rfl Try.underlying22 info5 rfl (by decide) (by omega) v492 y491 t486 _ _ _ (fun k_ => some k_ ≠ (.slice Ao40 t486.length co40 : Value).ownBlock) (fun _ => False) rfl rfl ?aO ?aR (fun _ _ h => h) (fun _ h => h.elim) ?aF ?aB ?aS ?aL ?_; (case aR => repeat (first | exact (Kd.R_reads' HO_4.out).2.2 | (with_reducible refine Kd.C_alloc ?_ _) | (with_reducible refine Kd.C_drewN ?_ _) | (with_reducible refine Kd.C_drew ?_))); (case aB => exact xbg); (case aF => exact (fun k_ hk => Kd.fresh' (Kd.R_lt (xr HO_4)) k_ hk)); (case aO => exact (by (with_reducible repeat (first | apply Kd.R_alloc | apply Kd.R_drewN | apply Kd.R_drew)); exact Kd.R_mono HO493.out (fun _ hk => hk.2))); (case aS => exact (below_size xbg)); (case aL => have := LMc20.out; omega); intro v495 w39 ho hb hg hat; rw [← Ny494.out] at ho; replace HO_4 := aM (Kd.R_after (ok := (fun _ => True)) (xr HO_4) hg hat); replace BK485 := aM (blk_grown (g := gb485) (o := .cells #[.int .i64 t480, .int .i64 t481, .int .i64 t482, .int .i64 t483, .string t484] 34 (0, 0)) xblk hg (Kd.R_ne HO493.out BK485.out (by decide))); replace HB := aM (hb); have HO496 := aM (ho); clear HO493; clear ho hb hg hat; obtain ⟨Ao41, co41, eo41⟩ := Kd.R_slice HO496.out; subst eo41) | ((with_reducible refine gate_callee (f := 25) rfl ?_); refine goesL_ (some 37) rfl rfl Try.func25 (by kernel_rfl) rfl #[.slice Ao41 y494.length co41, .int .i64 1] rfl (by (try simp only [List.map_toArray, List.map_cons, List.map_nil]); first | done | rfl | (simp only [List.length_drop, List.length_take]; rfl)) ?_; (with_reducible refine (impl_CmdRead.calls kj7 _ _ y494 1 t497 t498 t499 t500 t501 t502 true _ ?side1 ?side2 A21.out).mono ?_); (case side1 => repeat (first | exact (Kd.R_reads' HO496.out).2.2 | (with_reducible refine Kd.C_alloc ?_ _) | (with_reducible refine Kd.C_drewN ?_ _) | (with_reducible refine Kd.C_drew ?_))); (case side2 => exact (Kd.R_reads' HO496.out).2.1); rintro e w42 ⟨rfl, hb⟩; refine ⟨_, rfl, ?_⟩; replace HO_4 := aM (Kd.R_below (xr HO_4) hb); replace HO496 := aM (Kd.R_below (xr HO496) hb); replace BK485 := xbb BK485 hb; replace HB := xbs hb; (try clear hb); (try clear hb2); (try clear hk); (try clear hi)) | ((with_reducible refine gate_dst (N := 6) rfl ?_); (try (refine gate_guard (by rfl) ?_; dsimp only)); refine box_event ?hg (N := 6) ?hd (cs := #[.int .i64 0, .int .i64 0, .int .i64 0, .int .i64 0, .string (⟨#[]⟩ : ByteArray)]) (t := 34) ?hr ?_; (case hd => rfl); (case hg => rfl); (case hr => first | (go_simp; done) | (go_simp; rfl)); intro gb504 hg w43 hbox hb; replace HO_4 := aM (Kd.R_below (xr HO_4) hb); replace HO496 := aM (Kd.R_below (xr HO496) hb); have GW504 := aM (xge hg); have GE504 := aM (xge hg); replace HB := xbs hb; have NB485_504 := aM ((by rw [hg]; exact Nat.ne_of_lt (blk_lt (g := gb485) (o := .cells #[.int .i64 t480, .int .i64 t481, .int .i64 t482, .int .i64 t483, .string t484] 34 (0, 0)) xblk) : gb485 ≠ gb504)); have NB504_485 := aM ((by rw [hg]; exact Nat.ne_of_gt (blk_lt (g := gb485) (o := .cells #[.int .i64 t480, .int .i64 t481, .int .i64 t482, .int .i64 t483, .string t484] 34 (0, 0)) xblk) : gb504 ≠ gb485)); replace BK485 := xbb BK485 hb; have BK504 := aM (hbox); clear hb hbox hg; have hnb44 := NB504_485.out; have hnc44 := NB485_504.out; have hcz45_0 : w43.cell? ⟨gb504, 0, none⟩ = some (.int .i64 0) := xc BK504 0 rfl; have hcz45_1 : w43.cell? ⟨gb504, 1, none⟩ = some (.int .i64 0) := xc BK504 1 rfl; have hcz45_2 : w43.cell? ⟨gb504, 2, none⟩ = some (.int .i64 0) := xc BK504 2 rfl; have hcz45_3 : w43.cell? ⟨gb504, 3, none⟩ = some (.int .i64 0) := xc BK504 3 rfl; have hcz45_4 : w43.cell? ⟨gb504, 4, none⟩ = some (.string (⟨#[]⟩ : ByteArray)) := xc BK504 4 rfl; have hfz45_0 := blk_frozen BK504.out 0; have hfz45_1 := blk_frozen BK504.out 1; have hfz45_2 := blk_frozen BK504.out 2; have hfz45_3 := blk_frozen BK504.out 3; have hfz45_4 := blk_frozen BK504.out 4) | ((with_reducible refine gate_store (t := 34) (p := 6) rfl ?_); refine store_event (t := 34) (p := 6) (v := ?vo_w46) (w1 := (((((w43.setCell ⟨gb504, 0, none⟩ (.int .i64 t497)).setCell ⟨gb504, 1, none⟩ (.int .i64 t498)).setCell ⟨gb504, 2, none⟩ (.int .i64 t499)).setCell ⟨gb504, 3, none⟩ (.int .i64 t500)).setCell ⟨gb504, 4, none⟩ (.string t501))) ?hg ?ho ?hn ?hr ?_; (case ho => rfl); (case hg => rfl); (case hn => rfl); (case hr => first | (go_simp; done) | (go_simp; rfl)); intro w46 hw; replace HO_4 : Aside0 (Kd.R (Kd.int .u8) 5 w46 w.heap.size (fun k_ => some k_ ≠ (.slice Ao41 y494.length co41 : Value).ownBlock) (.slice Ao40 t486.length co40) t486) := ⟨(by rw [hw]; exact (by (with_reducible repeat (first | apply Kd.R_alloc | apply Kd.R_drewN | apply Kd.R_drew)); exact Kd.R_mono (Kd.R_far (p := ⟨gb504, 4, none⟩) (Kd.R_far (p := ⟨gb504, 3, none⟩) (Kd.R_far (p := ⟨gb504, 2, none⟩) (Kd.R_far (p := ⟨gb504, 1, none⟩) (Kd.R_far (p := ⟨gb504, 0, none⟩) (Kd.R_types HO_4.out BK504.out (by decide)) (fun _ hk => hk.2) (.int .i64 t497)) (fun _ hk => hk.2) (.int .i64 t498)) (fun _ hk => hk.2) (.int .i64 t499)) (fun _ hk => hk.2) (.int .i64 t500)) (fun _ hk => hk.2) (.string t501)) (fun _ hk => hk.1.2)))⟩; replace HO496 : Aside0 (Kd.R (Kd.int .u8) 5 w46 w.heap.size (fun k_ => some k_ ≠ (.slice Ao40 t486.length co40 : Value).ownBlock) (.slice Ao41 y494.length co41) y494) := ⟨(by rw [hw]; exact (by (with_reducible repeat (first | apply Kd.R_alloc | apply Kd.R_drewN | apply Kd.R_drew)); exact Kd.R_mono (Kd.R_far (p := ⟨gb504, 4, none⟩) (Kd.R_far (p := ⟨gb504, 3, none⟩) (Kd.R_far (p := ⟨gb504, 2, none⟩) (Kd.R_far (p := ⟨gb504, 1, none⟩) (Kd.R_far (p := ⟨gb504, 0, none⟩) (Kd.R_types HO496.out BK504.out (by decide)) (fun _ hk => hk.2) (.int .i64 t497)) (fun _ hk => hk.2) (.int .i64 t498)) (fun _ hk => hk.2) (.int .i64 t499)) (fun _ hk => hk.2) (.int .i64 t500)) (fun _ hk => hk.2) (.string t501)) (fun _ hk => hk.1)))⟩; replace BK485 : Aside0 (w46.heap[gb485]? = some (.cells #[.int .i64 t480, .int .i64 t481, .int .i64 t482, .int .i64 t483, .string t484] 34 (0, 0))) := ⟨(by rw [hw]; exact (by (with_reducible repeat (first | refine blk_drewN ?_ _ | refine blk_drew ?_ | refine blk_alloc ?_ _)); refine blk_far ?_ NB485_504.out _; (with_reducible repeat (first | refine blk_drewN ?_ _ | refine blk_drew ?_ | refine blk_alloc ?_ _)); refine blk_far ?_ NB485_504.out _; (with_reducible repeat (first | refine blk_drewN ?_ _ | refine blk_drew ?_ | refine blk_alloc ?_ _)); refine blk_far ?_ NB485_504.out _; (with_reducible repeat (first | refine blk_drewN ?_ _ | refine blk_drew ?_ | refine blk_alloc ?_ _)); refine blk_far ?_ NB485_504.out _; (with_reducible repeat (first | refine blk_drewN ?_ _ | refine blk_drew ?_ | refine blk_alloc ?_ _)); refine blk_far ?_ NB485_504.out _; (with_reducible repeat (first | refine blk_drewN ?_ _ | refine blk_drew ?_ | refine blk_alloc ?_ _)); exact BK485.out))⟩; replace BK504 : Aside0 (w46.heap[gb504]? = some (.cells #[.int .i64 t497, .int .i64 t498, .int .i64 t499, .int .i64 t500, .string t501] 34 (0, 0))) := ⟨(by rw [hw]; exact (by (with_reducible repeat (first | refine blk_drewN ?_ _ | refine blk_drew ?_ | refine blk_alloc ?_ _)); refine blk_put (cs := #[.int .i64 t497, .int .i64 t498, .int .i64 t499, .int .i64 t500, .string (⟨#[]⟩ : ByteArray)]) ?_ 4 _ rfl; (with_reducible repeat (first | refine blk_drewN ?_ _ | refine blk_drew ?_ | refine blk_alloc ?_ _)); refine blk_put (cs := #[.int .i64 t497, .int .i64 t498, .int .i64 t499, .int .i64 0, .string (⟨#[]⟩ : ByteArray)]) ?_ 3 _ rfl; (with_reducible repeat (first | refine blk_drewN ?_ _ | refine blk_drew ?_ | refine blk_alloc ?_ _)); refine blk_put (cs := #[.int .i64 t497, .int .i64 t498, .int .i64 0, .int .i64 0, .string (⟨#[]⟩ : ByteArray)]) ?_ 2 _ rfl; (with_reducible repeat (first | refine blk_drewN ?_ _ | refine blk_drew ?_ | refine blk_alloc ?_ _)); refine blk_put (cs := #[.int .i64 t497, .int .i64 0, .int .i64 0, .int .i64 0, .string (⟨#[]⟩ : ByteArray)]) ?_ 1 _ rfl; (with_reducible repeat (first | refine blk_drewN ?_ _ | refine blk_drew ?_ | refine blk_alloc ?_ _)); refine blk_put (cs := #[.int .i64 0, .int .i64 0, .int .i64 0, .int .i64 0, .string (⟨#[]⟩ : ByteArray)]) ?_ 0 _ rfl; (with_reducible repeat (first | refine blk_drewN ?_ _ | refine blk_drew ?_ | refine blk_alloc ?_ _)); exact BK504.out))⟩; replace HB : Aside0 (Below w.heap.size w w46) := ⟨(by rw [hw]; exact xbg)⟩; clear hw; have hcz47_0 : w46.cell? ⟨gb504, 0, none⟩ = some (.int .i64 t497) := xc BK504 0 rfl; have hcz47_1 : w46.cell? ⟨gb504, 1, none⟩ = some (.int .i64 t498) := xc BK504 1 rfl; have hcz47_2 : w46.cell? ⟨gb504, 2, none⟩ = some (.int .i64 t499) := xc BK504 2 rfl; have hcz47_3 : w46.cell? ⟨gb504, 3, none⟩ = some (.int .i64 t500) := xc BK504 3 rfl; have hcz47_4 : w46.cell? ⟨gb504, 4, none⟩ = some (.string t501) := xc BK504 4 rfl; have hfz47_0 := blk_frozen BK504.out 0; have hfz47_1 := blk_frozen BK504.out 1; have hfz47_2 := blk_frozen BK504.out 2; have hfz47_3 := blk_frozen BK504.out 3; have hfz47_4 := blk_frozen BK504.out 4; have hcz48_0 : w46.cell? ⟨gb485, 0, none⟩ = some (.int .i64 t480) := xc BK485 0 rfl; have hcz48_1 : w46.cell? ⟨gb485, 1, none⟩ = some (.int .i64 t481) := xc BK485 1 rfl; have hcz48_2 : w46.cell? ⟨gb485, 2, none⟩ = some (.int .i64 t482) := xc BK485 2 rfl; have hcz48_3 : w46.cell? ⟨gb485, 3, none⟩ = some (.int .i64 t483) := xc BK485 3 rfl; have hcz48_4 : w46.cell? ⟨gb485, 4, none⟩ = some (.string t484) := xc BK485 4 rfl; have hfz48_0 := blk_frozen BK485.out 0; have hfz48_1 := blk_frozen BK485.out 1; have hfz48_2 := blk_frozen BK485.out 2; have hfz48_3 := blk_frozen BK485.out 3; have hfz48_4 := blk_frozen BK485.out 4))
           go_meet
           case rel => exact ⟨_, H', ⟨by have := HJ2.out; have := HJ7.out; first | omega | exact Nat.le_refl _⟩, ⟨xblk⟩, ⟨xbg⟩⟩
          ·rw [if_neg c36] at H
           have c36b0 : (t502 == (wrap64 (1 + (t486.length : Int)))) = false := beq_eq_false_iff_ne.mpr c36; have c36b1 : (t502 != (wrap64 (1 + (t486.length : Int)))) = true := bne_iff_ne.mpr c36
           obtain rfl := Option.some.inj H
           go_wp2_with (first | ((with_reducible refine gate_dst (N := 34) rfl ?_); (try (refine gate_guard (by rfl) ?_; dsimp only)); refine Kd.R_lit (Kd.int .u8) _ 5 ?hg (N := 34) ?hd (xs := ([7] : List Int)) (inner := [.int .u8 7]) (ok := fun _ => True) (okp := fun _ => True) ?hr ?hp (fun _ hk => hk) trivial (Below.refl _ _) (Nat.le_refl _) (by simp) ?_; (case hd => rfl); (case hg => rfl); (case hr => first | (go_simp; done) | (go_simp; rfl)); (case hp => exact (Reps.one (show Kd.M (Kd.int .u8) _ _ _ 7 [.int .u8 7] from rfl) (Reps.none _ _))); intro v492 w49 ho50 hb hg_ hnew_; clear hg_ hnew_; (first | rw [← Ny491.out] at ho50 | (simp only [Int.reduceToNat] at ho50; rw [← Ny491.out] at ho50)); have HO493 := aM (Kd.R_lower (Kd.R_new' ho50 (Kd.R_lt (xr HO_4))) (below_size xbg)); replace HO_4 := aM (Kd.R_elder' (xr HO_4) (Kd.R_base ho50) hb); replace BK485 := xbb BK485 hb; replace HB := xbs hb; clear hb ho50; obtain ⟨Ao52, co52, eo52⟩ := Kd.R_slice HO_4.out; subst eo52) | ((with_reducible refine gate_builtin (b := .append) (xs := #[.tmp 34, .tmp 35]) rfl ?_); (try (refine gate_guard (by rfl) ?_; dsimp only)); at_builtin; refine Kd.R_append_rows (Kd.int .u8) (w0 := w) w.heap.size rfl (.tmp 34) (.tmp 35) 22 5 (.int .u8 0) 1 rfl Try.underlying22 info5 rfl (by decide) (by omega) v492 y491 t486 _ _ _ (fun k_ => some k_ ≠ (.slice Ao52 t486.length co52 : Value).ownBlock) (fun _ => False) rfl rfl ?aO ?aR (fun _ _ h => h) (fun _ h => h.elim) ?aF ?aB ?aS ?aL ?_; (case aR => repeat (first | exact (Kd.R_reads' HO_4.out).2.2 | (with_reducible refine Kd.C_alloc ?_ _) | (with_reducible refine Kd.C_drewN ?_ _) | (with_reducible refine Kd.C_drew ?_))); (case aB => exact xbg); (case aF => exact (fun k_ hk => Kd.fresh' (Kd.R_lt (xr HO_4)) k_ hk)); (case aO => exact (by (with_reducible repeat (first | apply Kd.R_alloc | apply Kd.R_drewN | apply Kd.R_drew)); exact Kd.R_mono HO493.out (fun _ hk => hk.2))); (case aS => exact (below_size xbg)); (case aL => have := LMc20.out; omega); intro v495 w51 ho hb hg hat; rw [← Ny494.out] at ho; replace HO_4 := aM (Kd.R_after (ok := (fun _ => True)) (xr HO_4) hg hat); replace BK485 := aM (blk_grown (g := gb485) (o := .cells #[.int .i64 t480, .int .i64 t481, .int .i64 t482, .int .i64 t483, .string t484] 34 (0, 0)) xblk hg (Kd.R_ne HO493.out BK485.out (by decide))); replace HB := aM (hb); have HO496 := aM (ho); clear HO493; clear ho hb hg hat; obtain ⟨Ao53, co53, eo53⟩ := Kd.R_slice HO496.out; subst eo53) | ((with_reducible refine gate_callee (f := 25) rfl ?_); refine goesL_ (some 37) rfl rfl Try.func25 (by kernel_rfl) rfl #[.slice Ao53 y494.length co53, .int .i64 1] rfl (by (try simp only [List.map_toArray, List.map_cons, List.map_nil]); first | done | rfl | (simp only [List.length_drop, List.length_take]; rfl)) ?_; (with_reducible refine (impl_CmdRead.calls kj7 _ _ y494 1 t497 t498 t499 t500 t501 t502 true _ ?side1 ?side2 A21.out).mono ?_); (case side1 => repeat (first | exact (Kd.R_reads' HO496.out).2.2 | (with_reducible refine Kd.C_alloc ?_ _) | (with_reducible refine Kd.C_drewN ?_ _) | (with_reducible refine Kd.C_drew ?_))); (case side2 => exact (Kd.R_reads' HO496.out).2.1); rintro e w54 ⟨rfl, hb⟩; refine ⟨_, rfl, ?_⟩; replace HO_4 := aM (Kd.R_below (xr HO_4) hb); replace HO496 := aM (Kd.R_below (xr HO496) hb); replace BK485 := xbb BK485 hb; replace HB := xbs hb; (try clear hb); (try clear hb2); (try clear hk); (try clear hi)) | ((with_reducible refine gate_dst (N := 6) rfl ?_); (try (refine gate_guard (by rfl) ?_; dsimp only)); refine box_event ?hg (N := 6) ?hd (cs := #[.int .i64 0, .int .i64 0, .int .i64 0, .int .i64 0, .string (⟨#[]⟩ : ByteArray)]) (t := 34) ?hr ?_; (case hd => rfl); (case hg => rfl); (case hr => first | (go_simp; done) | (go_simp; rfl)); intro gb504 hg w55 hbox hb; replace HO_4 := aM (Kd.R_below (xr HO_4) hb); replace HO496 := aM (Kd.R_below (xr HO496) hb); have GW504 := aM (xge hg); have GE504 := aM (xge hg); replace HB := xbs hb; have NB485_504 := aM ((by rw [hg]; exact Nat.ne_of_lt (blk_lt (g := gb485) (o := .cells #[.int .i64 t480, .int .i64 t481, .int .i64 t482, .int .i64 t483, .string t484] 34 (0, 0)) xblk) : gb485 ≠ gb504)); have NB504_485 := aM ((by rw [hg]; exact Nat.ne_of_gt (blk_lt (g := gb485) (o := .cells #[.int .i64 t480, .int .i64 t481, .int .i64 t482, .int .i64 t483, .string t484] 34 (0, 0)) xblk) : gb504 ≠ gb485)); replace BK485 := xbb BK485 hb; have BK504 := aM (hbox); clear hb hbox hg; have hnb56 := NB504_485.out; have hnc56 := NB485_504.out; have hcz57_0 : w55.cell? ⟨gb504, 0, none⟩ = some (.int .i64 0) := xc BK504 0 rfl; have hcz57_1 : w55.cell? ⟨gb504, 1, none⟩ = some (.int .i64 0) := xc BK504 1 rfl; have hcz57_2 : w55.cell? ⟨gb504, 2, none⟩ = some (.int .i64 0) := xc BK504 2 rfl; have hcz57_3 : w55.cell? ⟨gb504, 3, none⟩ = some (.int .i64 0) := xc BK504 3 rfl; have hcz57_4 : w55.cell? ⟨gb504, 4, none⟩ = some (.string (⟨#[]⟩ : ByteArray)) := xc BK504 4 rfl; have hfz57_0 := blk_frozen BK504.out 0; have hfz57_1 := blk_frozen BK504.out 1; have hfz57_2 := blk_frozen BK504.out 2; have hfz57_3 := blk_frozen BK504.out 3; have hfz57_4 := blk_frozen BK504.out 4) | ((with_reducible refine gate_store (t := 34) (p := 6) rfl ?_); refine store_event (t := 34) (p := 6) (v := ?vo_w58) (w1 := (((((w55.setCell ⟨gb504, 0, none⟩ (.int .i64 t497)).setCell ⟨gb504, 1, none⟩ (.int .i64 t498)).setCell ⟨gb504, 2, none⟩ (.int .i64 t499)).setCell ⟨gb504, 3, none⟩ (.int .i64 t500)).setCell ⟨gb504, 4, none⟩ (.string t501))) ?hg ?ho ?hn ?hr ?_; (case ho => rfl); (case hg => rfl); (case hn => rfl); (case hr => first | (go_simp; done) | (go_simp; rfl)); intro w58 hw; replace HO_4 : Aside0 (Kd.R (Kd.int .u8) 5 w58 w.heap.size (fun k_ => some k_ ≠ (.slice Ao53 y494.length co53 : Value).ownBlock) (.slice Ao52 t486.length co52) t486) := ⟨(by rw [hw]; exact (by (with_reducible repeat (first | apply Kd.R_alloc | apply Kd.R_drewN | apply Kd.R_drew)); exact Kd.R_mono (Kd.R_far (p := ⟨gb504, 4, none⟩) (Kd.R_far (p := ⟨gb504, 3, none⟩) (Kd.R_far (p := ⟨gb504, 2, none⟩) (Kd.R_far (p := ⟨gb504, 1, none⟩) (Kd.R_far (p := ⟨gb504, 0, none⟩) (Kd.R_types HO_4.out BK504.out (by decide)) (fun _ hk => hk.2) (.int .i64 t497)) (fun _ hk => hk.2) (.int .i64 t498)) (fun _ hk => hk.2) (.int .i64 t499)) (fun _ hk => hk.2) (.int .i64 t500)) (fun _ hk => hk.2) (.string t501)) (fun _ hk => hk.1.2)))⟩; replace HO496 : Aside0 (Kd.R (Kd.int .u8) 5 w58 w.heap.size (fun k_ => some k_ ≠ (.slice Ao52 t486.length co52 : Value).ownBlock) (.slice Ao53 y494.length co53) y494) := ⟨(by rw [hw]; exact (by (with_reducible repeat (first | apply Kd.R_alloc | apply Kd.R_drewN | apply Kd.R_drew)); exact Kd.R_mono (Kd.R_far (p := ⟨gb504, 4, none⟩) (Kd.R_far (p := ⟨gb504, 3, none⟩) (Kd.R_far (p := ⟨gb504, 2, none⟩) (Kd.R_far (p := ⟨gb504, 1, none⟩) (Kd.R_far (p := ⟨gb504, 0, none⟩) (Kd.R_types HO496.out BK504.out (by decide)) (fun _ hk => hk.2) (.int .i64 t497)) (fun _ hk => hk.2) (.int .i64 t498)) (fun _ hk => hk.2) (.int .i64 t499)) (fun _ hk => hk.2) (.int .i64 t500)) (fun _ hk => hk.2) (.string t501)) (fun _ hk => hk.1)))⟩; replace BK485 : Aside0 (w58.heap[gb485]? = some (.cells #[.int .i64 t480, .int .i64 t481, .int .i64 t482, .int .i64 t483, .string t484] 34 (0, 0))) := ⟨(by rw [hw]; exact (by (with_reducible repeat (first | refine blk_drewN ?_ _ | refine blk_drew ?_ | refine blk_alloc ?_ _)); refine blk_far ?_ NB485_504.out _; (with_reducible repeat (first | refine blk_drewN ?_ _ | refine blk_drew ?_ | refine blk_alloc ?_ _)); refine blk_far ?_ NB485_504.out _; (with_reducible repeat (first | refine blk_drewN ?_ _ | refine blk_drew ?_ | refine blk_alloc ?_ _)); refine blk_far ?_ NB485_504.out _; (with_reducible repeat (first | refine blk_drewN ?_ _ | refine blk_drew ?_ | refine blk_alloc ?_ _)); refine blk_far ?_ NB485_504.out _; (with_reducible repeat (first | refine blk_drewN ?_ _ | refine blk_drew ?_ | refine blk_alloc ?_ _)); refine blk_far ?_ NB485_504.out _; (with_reducible repeat (first | refine blk_drewN ?_ _ | refine blk_drew ?_ | refine blk_alloc ?_ _)); exact BK485.out))⟩; replace BK504 : Aside0 (w58.heap[gb504]? = some (.cells #[.int .i64 t497, .int .i64 t498, .int .i64 t499, .int .i64 t500, .string t501] 34 (0, 0))) := ⟨(by rw [hw]; exact (by (with_reducible repeat (first | refine blk_drewN ?_ _ | refine blk_drew ?_ | refine blk_alloc ?_ _)); refine blk_put (cs := #[.int .i64 t497, .int .i64 t498, .int .i64 t499, .int .i64 t500, .string (⟨#[]⟩ : ByteArray)]) ?_ 4 _ rfl; (with_reducible repeat (first | refine blk_drewN ?_ _ | refine blk_drew ?_ | refine blk_alloc ?_ _)); refine blk_put (cs := #[.int .i64 t497, .int .i64 t498, .int .i64 t499, .int .i64 0, .string (⟨#[]⟩ : ByteArray)]) ?_ 3 _ rfl; (with_reducible repeat (first | refine blk_drewN ?_ _ | refine blk_drew ?_ | refine blk_alloc ?_ _)); refine blk_put (cs := #[.int .i64 t497, .int .i64 t498, .int .i64 0, .int .i64 0, .string (⟨#[]⟩ : ByteArray)]) ?_ 2 _ rfl; (with_reducible repeat (first | refine blk_drewN ?_ _ | refine blk_drew ?_ | refine blk_alloc ?_ _)); refine blk_put (cs := #[.int .i64 t497, .int .i64 0, .int .i64 0, .int .i64 0, .string (⟨#[]⟩ : ByteArray)]) ?_ 1 _ rfl; (with_reducible repeat (first | refine blk_drewN ?_ _ | refine blk_drew ?_ | refine blk_alloc ?_ _)); refine blk_put (cs := #[.int .i64 0, .int .i64 0, .int .i64 0, .int .i64 0, .string (⟨#[]⟩ : ByteArray)]) ?_ 0 _ rfl; (with_reducible repeat (first | refine blk_drewN ?_ _ | refine blk_drew ?_ | refine blk_alloc ?_ _)); exact BK504.out))⟩; replace HB : Aside0 (Below w.heap.size w w58) := ⟨(by rw [hw]; exact xbg)⟩; clear hw; have hcz59_0 : w58.cell? ⟨gb504, 0, none⟩ = some (.int .i64 t497) := xc BK504 0 rfl; have hcz59_1 : w58.cell? ⟨gb504, 1, none⟩ = some (.int .i64 t498) := xc BK504 1 rfl; have hcz59_2 : w58.cell? ⟨gb504, 2, none⟩ = some (.int .i64 t499) := xc BK504 2 rfl; have hcz59_3 : w58.cell? ⟨gb504, 3, none⟩ = some (.int .i64 t500) := xc BK504 3 rfl; have hcz59_4 : w58.cell? ⟨gb504, 4, none⟩ = some (.string t501) := xc BK504 4 rfl; have hfz59_0 := blk_frozen BK504.out 0; have hfz59_1 := blk_frozen BK504.out 1; have hfz59_2 := blk_frozen BK504.out 2; have hfz59_3 := blk_frozen BK504.out 3; have hfz59_4 := blk_frozen BK504.out 4; have hcz60_0 : w58.cell? ⟨gb485, 0, none⟩ = some (.int .i64 t480) := xc BK485 0 rfl; have hcz60_1 : w58.cell? ⟨gb485, 1, none⟩ = some (.int .i64 t481) := xc BK485 1 rfl; have hcz60_2 : w58.cell? ⟨gb485, 2, none⟩ = some (.int .i64 t482) := xc BK485 2 rfl; have hcz60_3 : w58.cell? ⟨gb485, 3, none⟩ = some (.int .i64 t483) := xc BK485 3 rfl; have hcz60_4 : w58.cell? ⟨gb485, 4, none⟩ = some (.string t484) := xc BK485 4 rfl; have hfz60_0 := blk_frozen BK485.out 0; have hfz60_1 := blk_frozen BK485.out 1; have hfz60_2 := blk_frozen BK485.out 2; have hfz60_3 := blk_frozen BK485.out 3; have hfz60_4 := blk_frozen BK485.out 4))
           go_ret
           exact ⟨by first | rfl | (simp [errW_none, errW_some] <;> rfl) | (simp [*, errW_none, errW_some] <;> rfl), xbg⟩
        ·replace c22 := Bool.eq_false_iff.mpr c22
         subst c22
         have H1 : (some false) = some r := by rw [if_neg (show ¬ (false = true) by decide)] at H; exact H
         clear H; have H := H1; clear H1
         obtain rfl := Option.some.inj H
         go_wp2_with (first | ((with_reducible refine gate_dst (N := 34) rfl ?_); (try (refine gate_guard (by rfl) ?_; dsimp only)); refine Kd.R_lit (Kd.int .u8) _ 5 ?hg (N := 34) ?hd (xs := ([7] : List Int)) (inner := [.int .u8 7]) (ok := fun _ => True) (okp := fun _ => True) ?hr ?hp (fun _ hk => hk) trivial (Below.refl _ _) (Nat.le_refl _) (by simp) ?_; (case hd => rfl); (case hg => rfl); (case hr => first | (go_simp; done) | (go_simp; rfl)); (case hp => exact (Reps.one (show Kd.M (Kd.int .u8) _ _ _ 7 [.int .u8 7] from rfl) (Reps.none _ _))); intro v492 w61 ho62 hb hg_ hnew_; clear hg_ hnew_; (first | rw [← Ny491.out] at ho62 | (simp only [Int.reduceToNat] at ho62; rw [← Ny491.out] at ho62)); have HO493 := aM (Kd.R_lower (Kd.R_new' ho62 (Kd.R_lt (xr HO_4))) (below_size xbg)); replace HO_4 := aM (Kd.R_elder' (xr HO_4) (Kd.R_base ho62) hb); replace BK485 := xbb BK485 hb; replace HB := xbs hb; clear hb ho62; obtain ⟨Ao64, co64, eo64⟩ := Kd.R_slice HO_4.out; subst eo64) | ((with_reducible refine gate_builtin (b := .append) (xs := #[.tmp 34, .tmp 35]) rfl ?_); (try (refine gate_guard (by rfl) ?_; dsimp only)); at_builtin; refine Kd.R_append_rows (Kd.int .u8) (w0 := w) w.heap.size rfl (.tmp 34) (.tmp 35) 22 5 (.int .u8 0) 1 rfl Try.underlying22 info5 rfl (by decide) (by omega) v492 y491 t486 _ _ _ (fun k_ => some k_ ≠ (.slice Ao64 t486.length co64 : Value).ownBlock) (fun _ => False) rfl rfl ?aO ?aR (fun _ _ h => h) (fun _ h => h.elim) ?aF ?aB ?aS ?aL ?_; (case aR => repeat (first | exact (Kd.R_reads' HO_4.out).2.2 | (with_reducible refine Kd.C_alloc ?_ _) | (with_reducible refine Kd.C_drewN ?_ _) | (with_reducible refine Kd.C_drew ?_))); (case aB => exact xbg); (case aF => exact (fun k_ hk => Kd.fresh' (Kd.R_lt (xr HO_4)) k_ hk)); (case aO => exact (by (with_reducible repeat (first | apply Kd.R_alloc | apply Kd.R_drewN | apply Kd.R_drew)); exact Kd.R_mono HO493.out (fun _ hk => hk.2))); (case aS => exact (below_size xbg)); (case aL => have := LMc20.out; omega); intro v495 w63 ho hb hg hat; rw [← Ny494.out] at ho; replace HO_4 := aM (Kd.R_after (ok := (fun _ => True)) (xr HO_4) hg hat); replace BK485 := aM (blk_grown (g := gb485) (o := .cells #[.int .i64 t480, .int .i64 t481, .int .i64 t482, .int .i64 t483, .string t484] 34 (0, 0)) xblk hg (Kd.R_ne HO493.out BK485.out (by decide))); replace HB := aM (hb); have HO496 := aM (ho); clear HO493; clear ho hb hg hat; obtain ⟨Ao65, co65, eo65⟩ := Kd.R_slice HO496.out; subst eo65) | ((with_reducible refine gate_callee (f := 25) rfl ?_); refine goesL_ (some 37) rfl rfl Try.func25 (by kernel_rfl) rfl #[.slice Ao65 y494.length co65, .int .i64 1] rfl (by (try simp only [List.map_toArray, List.map_cons, List.map_nil]); first | done | rfl | (simp only [List.length_drop, List.length_take]; rfl)) ?_; (with_reducible refine (impl_CmdRead.calls kj7 _ _ y494 1 t497 t498 t499 t500 t501 t502 false _ ?side1 ?side2 A21.out).mono ?_); (case side1 => repeat (first | exact (Kd.R_reads' HO496.out).2.2 | (with_reducible refine Kd.C_alloc ?_ _) | (with_reducible refine Kd.C_drewN ?_ _) | (with_reducible refine Kd.C_drew ?_))); (case side2 => exact (Kd.R_reads' HO496.out).2.1); rintro e w66 ⟨rfl, hb⟩; refine ⟨_, rfl, ?_⟩; replace HO_4 := aM (Kd.R_below (xr HO_4) hb); replace HO496 := aM (Kd.R_below (xr HO496) hb); replace BK485 := xbb BK485 hb; replace HB := xbs hb; (try clear hb); (try clear hb2); (try clear hk); (try clear hi)) | ((with_reducible refine gate_dst (N := 6) rfl ?_); (try (refine gate_guard (by rfl) ?_; dsimp only)); refine box_event ?hg (N := 6) ?hd (cs := #[.int .i64 0, .int .i64 0, .int .i64 0, .int .i64 0, .string (⟨#[]⟩ : ByteArray)]) (t := 34) ?hr ?_; (case hd => rfl); (case hg => rfl); (case hr => first | (go_simp; done) | (go_simp; rfl)); intro gb504 hg w67 hbox hb; replace HO_4 := aM (Kd.R_below (xr HO_4) hb); replace HO496 := aM (Kd.R_below (xr HO496) hb); have GW504 := aM (xge hg); have GE504 := aM (xge hg); replace HB := xbs hb; have NB485_504 := aM ((by rw [hg]; exact Nat.ne_of_lt (blk_lt (g := gb485) (o := .cells #[.int .i64 t480, .int .i64 t481, .int .i64 t482, .int .i64 t483, .string t484] 34 (0, 0)) xblk) : gb485 ≠ gb504)); have NB504_485 := aM ((by rw [hg]; exact Nat.ne_of_gt (blk_lt (g := gb485) (o := .cells #[.int .i64 t480, .int .i64 t481, .int .i64 t482, .int .i64 t483, .string t484] 34 (0, 0)) xblk) : gb504 ≠ gb485)); replace BK485 := xbb BK485 hb; have BK504 := aM (hbox); clear hb hbox hg; have hnb68 := NB504_485.out; have hnc68 := NB485_504.out; have hcz69_0 : w67.cell? ⟨gb504, 0, none⟩ = some (.int .i64 0) := xc BK504 0 rfl; have hcz69_1 : w67.cell? ⟨gb504, 1, none⟩ = some (.int .i64 0) := xc BK504 1 rfl; have hcz69_2 : w67.cell? ⟨gb504, 2, none⟩ = some (.int .i64 0) := xc BK504 2 rfl; have hcz69_3 : w67.cell? ⟨gb504, 3, none⟩ = some (.int .i64 0) := xc BK504 3 rfl; have hcz69_4 : w67.cell? ⟨gb504, 4, none⟩ = some (.string (⟨#[]⟩ : ByteArray)) := xc BK504 4 rfl; have hfz69_0 := blk_frozen BK504.out 0; have hfz69_1 := blk_frozen BK504.out 1; have hfz69_2 := blk_frozen BK504.out 2; have hfz69_3 := blk_frozen BK504.out 3; have hfz69_4 := blk_frozen BK504.out 4) | ((with_reducible refine gate_store (t := 34) (p := 6) rfl ?_); refine store_event (t := 34) (p := 6) (v := ?vo_w70) (w1 := (((((w67.setCell ⟨gb504, 0, none⟩ (.int .i64 t497)).setCell ⟨gb504, 1, none⟩ (.int .i64 t498)).setCell ⟨gb504, 2, none⟩ (.int .i64 t499)).setCell ⟨gb504, 3, none⟩ (.int .i64 t500)).setCell ⟨gb504, 4, none⟩ (.string t501))) ?hg ?ho ?hn ?hr ?_; (case ho => rfl); (case hg => rfl); (case hn => rfl); (case hr => first | (go_simp; done) | (go_simp; rfl)); intro w70 hw; replace HO_4 : Aside0 (Kd.R (Kd.int .u8) 5 w70 w.heap.size (fun k_ => some k_ ≠ (.slice Ao65 y494.length co65 : Value).ownBlock) (.slice Ao64 t486.length co64) t486) := ⟨(by rw [hw]; exact (by (with_reducible repeat (first | apply Kd.R_alloc | apply Kd.R_drewN | apply Kd.R_drew)); exact Kd.R_mono (Kd.R_far (p := ⟨gb504, 4, none⟩) (Kd.R_far (p := ⟨gb504, 3, none⟩) (Kd.R_far (p := ⟨gb504, 2, none⟩) (Kd.R_far (p := ⟨gb504, 1, none⟩) (Kd.R_far (p := ⟨gb504, 0, none⟩) (Kd.R_types HO_4.out BK504.out (by decide)) (fun _ hk => hk.2) (.int .i64 t497)) (fun _ hk => hk.2) (.int .i64 t498)) (fun _ hk => hk.2) (.int .i64 t499)) (fun _ hk => hk.2) (.int .i64 t500)) (fun _ hk => hk.2) (.string t501)) (fun _ hk => hk.1.2)))⟩; replace HO496 : Aside0 (Kd.R (Kd.int .u8) 5 w70 w.heap.size (fun k_ => some k_ ≠ (.slice Ao64 t486.length co64 : Value).ownBlock) (.slice Ao65 y494.length co65) y494) := ⟨(by rw [hw]; exact (by (with_reducible repeat (first | apply Kd.R_alloc | apply Kd.R_drewN | apply Kd.R_drew)); exact Kd.R_mono (Kd.R_far (p := ⟨gb504, 4, none⟩) (Kd.R_far (p := ⟨gb504, 3, none⟩) (Kd.R_far (p := ⟨gb504, 2, none⟩) (Kd.R_far (p := ⟨gb504, 1, none⟩) (Kd.R_far (p := ⟨gb504, 0, none⟩) (Kd.R_types HO496.out BK504.out (by decide)) (fun _ hk => hk.2) (.int .i64 t497)) (fun _ hk => hk.2) (.int .i64 t498)) (fun _ hk => hk.2) (.int .i64 t499)) (fun _ hk => hk.2) (.int .i64 t500)) (fun _ hk => hk.2) (.string t501)) (fun _ hk => hk.1)))⟩; replace BK485 : Aside0 (w70.heap[gb485]? = some (.cells #[.int .i64 t480, .int .i64 t481, .int .i64 t482, .int .i64 t483, .string t484] 34 (0, 0))) := ⟨(by rw [hw]; exact (by (with_reducible repeat (first | refine blk_drewN ?_ _ | refine blk_drew ?_ | refine blk_alloc ?_ _)); refine blk_far ?_ NB485_504.out _; (with_reducible repeat (first | refine blk_drewN ?_ _ | refine blk_drew ?_ | refine blk_alloc ?_ _)); refine blk_far ?_ NB485_504.out _; (with_reducible repeat (first | refine blk_drewN ?_ _ | refine blk_drew ?_ | refine blk_alloc ?_ _)); refine blk_far ?_ NB485_504.out _; (with_reducible repeat (first | refine blk_drewN ?_ _ | refine blk_drew ?_ | refine blk_alloc ?_ _)); refine blk_far ?_ NB485_504.out _; (with_reducible repeat (first | refine blk_drewN ?_ _ | refine blk_drew ?_ | refine blk_alloc ?_ _)); refine blk_far ?_ NB485_504.out _; (with_reducible repeat (first | refine blk_drewN ?_ _ | refine blk_drew ?_ | refine blk_alloc ?_ _)); exact BK485.out))⟩; replace BK504 : Aside0 (w70.heap[gb504]? = some (.cells #[.int .i64 t497, .int .i64 t498, .int .i64 t499, .int .i64 t500, .string t501] 34 (0, 0))) := ⟨(by rw [hw]; exact (by (with_reducible repeat (first | refine blk_drewN ?_ _ | refine blk_drew ?_ | refine blk_alloc ?_ _)); refine blk_put (cs := #[.int .i64 t497, .int .i64 t498, .int .i64 t499, .int .i64 t500, .string (⟨#[]⟩ : ByteArray)]) ?_ 4 _ rfl; (with_reducible repeat (first | refine blk_drewN ?_ _ | refine blk_drew ?_ | refine blk_alloc ?_ _)); refine blk_put (cs := #[.int .i64 t497, .int .i64 t498, .int .i64 t499, .int .i64 0, .string (⟨#[]⟩ : ByteArray)]) ?_ 3 _ rfl; (with_reducible repeat (first | refine blk_drewN ?_ _ | refine blk_drew ?_ | refine blk_alloc ?_ _)); refine blk_put (cs := #[.int .i64 t497, .int .i64 t498, .int .i64 0, .int .i64 0, .string (⟨#[]⟩ : ByteArray)]) ?_ 2 _ rfl; (with_reducible repeat (first | refine blk_drewN ?_ _ | refine blk_drew ?_ | refine blk_alloc ?_ _)); refine blk_put (cs := #[.int .i64 t497, .int .i64 0, .int .i64 0, .int .i64 0, .string (⟨#[]⟩ : ByteArray)]) ?_ 1 _ rfl; (with_reducible repeat (first | refine blk_drewN ?_ _ | refine blk_drew ?_ | refine blk_alloc ?_ _)); refine blk_put (cs := #[.int .i64 0, .int .i64 0, .int .i64 0, .int .i64 0, .string (⟨#[]⟩ : ByteArray)]) ?_ 0 _ rfl; (with_reducible repeat (first | refine blk_drewN ?_ _ | refine blk_drew ?_ | refine blk_alloc ?_ _)); exact BK504.out))⟩; replace HB : Aside0 (Below w.heap.size w w70) := ⟨(by rw [hw]; exact xbg)⟩; clear hw))
         go_ret
         exact ⟨by first | rfl | (simp [errW_none, errW_some] <;> rfl) | (simp [*, errW_none, errW_some] <;> rfl), xbg⟩
       ·rw [if_neg c20] at H
        exact absurd H (by simp)
      ·replace c19 := Bool.eq_false_iff.mpr c19
       subst c19
       have H1 : (laws_FnCmd.j2 kj7 l0) = some r := by rw [if_neg (show ¬ (false = true) by decide)] at H; exact H
       clear H; have H := H1; clear H1
       have H' := aM H
       clear H
       go_wp2
       go_meet
       case rel => exact ⟨_, H', ⟨by have := HJ2.out; have := HJ7.out; first | omega | exact Nat.le_refl _⟩, ⟨xblk⟩, ⟨xbg⟩⟩
     case rest =>
      clear HC18
      try clear c1
      try clear c2
      try clear p2
      try clear c3
      try clear c4
      try clear c5
      try clear c6
      try clear p6
      try clear c15
      try clear c17
      try clear c17b0
      try clear c17b1
      try clear c17b2
      try clear c19
      try clear c20
      try clear c22
      try clear c23
      try clear c23b0
      try clear c24
      try clear c25
      try clear c31
      try clear c36
      try clear c36b0
      try clear c36b1
      try clear c44
      try clear c56
      try clear p64
      try clear c68
      try clear hcz11_0
      try clear hcz11_1
      try clear hcz11_2
      try clear hcz11_3
      try clear hcz11_4
      try clear hcz13_0
      try clear hcz13_1
      try clear hcz13_2
      try clear hcz13_3
      try clear hcz13_4
      try clear hcz15_0
      try clear hcz15_1
      try clear hcz15_2
      try clear hcz15_3
      try clear hcz15_4
      try clear hcz32_0
      try clear hcz32_1
      try clear hcz32_2
      try clear hcz32_3
      try clear hcz32_4
      try clear hcz34_0
      try clear hcz34_1
      try clear hcz34_2
      try clear hcz34_3
      try clear hcz34_4
      try clear hcz35_0
      try clear hcz35_1
      try clear hcz35_2
      try clear hcz35_3
      try clear hcz35_4
      try clear hcz45_0
      try clear hcz45_1
      try clear hcz45_2
      try clear hcz45_3
      try clear hcz45_4
      try clear hcz47_0
      try clear hcz47_1
      try clear hcz47_2
      try clear hcz47_3
      try clear hcz47_4
      try clear hcz48_0
      try clear hcz48_1
      try clear hcz48_2
      try clear hcz48_3
      try clear hcz48_4
      try clear hcz57_0
      try clear hcz57_1
      try clear hcz57_2
      try clear hcz57_3
      try clear hcz57_4
      try clear hcz59_0
      try clear hcz59_1
      try clear hcz59_2
      try clear hcz59_3
      try clear hcz59_4
      try clear hcz60_0
      try clear hcz60_1
      try clear hcz60_2
      try clear hcz60_3
      try clear hcz60_4
      try clear hcz69_0
      try clear hcz69_1
      try clear hcz69_2
      try clear hcz69_3
      try clear hcz69_4
      try clear hfz11_0
      try clear hfz11_1
      try clear hfz11_2
      try clear hfz11_3
      try clear hfz11_4
      try clear hfz13_0
      try clear hfz13_1
      try clear hfz13_2
      try clear hfz13_3
      try clear hfz13_4
      try clear hfz15_0
      try clear hfz15_1
      try clear hfz15_2
      try clear hfz15_3
      try clear hfz15_4
      try clear hfz32_0
      try clear hfz32_1
      try clear hfz32_2
      try clear hfz32_3
      try clear hfz32_4
      try clear hfz34_0
      try clear hfz34_1
      try clear hfz34_2
      try clear hfz34_3
      try clear hfz34_4
      try clear hfz35_0
      try clear hfz35_1
      try clear hfz35_2
      try clear hfz35_3
      try clear hfz35_4
      try clear hfz45_0
      try clear hfz45_1
      try clear hfz45_2
      try clear hfz45_3
      try clear hfz45_4
      try clear hfz47_0
      try clear hfz47_1
      try clear hfz47_2
      try clear hfz47_3
      try clear hfz47_4
      try clear hfz48_0
      try clear hfz48_1
      try clear hfz48_2
      try clear hfz48_3
      try clear hfz48_4
      try clear hfz57_0
      try clear hfz57_1
      try clear hfz57_2
      try clear hfz57_3
      try clear hfz57_4
      try clear hfz59_0
      try clear hfz59_1
      try clear hfz59_2
      try clear hfz59_3
      try clear hfz59_4
      try clear hfz60_0
      try clear hfz60_1
      try clear hfz60_2
      try clear hfz60_3
      try clear hfz60_4
      try clear hfz69_0
      try clear hfz69_1
      try clear hfz69_2
      try clear hfz69_3
      try clear hfz69_4
      try clear p2
      obtain ⟨kq, HA, HJ17, BK485, HB⟩ := hcut
      cases kq with
      | zero => exact absurd HA.out (by simp [laws_FnCmd.j2])
      | succ kj17 =>
       have H := HA.out; clear HA
       simp only [laws_FnCmd.j2] at H
       replace H := Option.bind_eq_some_iff.mp H
       obtain ⟨⟨t505, t506⟩, A710, H⟩ := H
       replace H : ((impl_CmdRead.f kj17 t505 t506).bind fun bt509 => ((spec_CmdRead.f kj17 t505 t506).bind fun bt517 => (if (bt509.2.2.2.2.2.2 != bt517.2.2.2.2.2.2) = true then (some false) else (laws_FnCmd.j3 kj17 t505 t506 bt509.2.2.2.2.2.1 bt509.2.2.2.2.2.2 bt509.1 bt509.2.1 bt509.2.2.1 bt509.2.2.2.1 bt509.2.2.2.2.1)))) = some r := H; have A71 := aM A710; clear A710; replace H := Option.bind_eq_some_iff.mp H
       obtain ⟨⟨t509, t510, t511, t512, t513, t514, t515⟩, A720, H⟩ := H
       replace H : ((spec_CmdRead.f kj17 t505 t506).bind fun bt517 => (if (t515 != bt517.2.2.2.2.2.2) = true then (some false) else (laws_FnCmd.j3 kj17 t505 t506 t514 t515 t509 t510 t511 t512 t513))) = some r := H; have A72 := aM A720; clear A720; replace H := Option.bind_eq_some_iff.mp H
       obtain ⟨⟨t517, t518, t519, t520, t521, t522, t523⟩, A730, H⟩ := H
       replace H : (if (t515 != t523) = true then (some false) else (laws_FnCmd.j3 kj17 t505 t506 t514 t515 t509 t510 t511 t512 t513)) = some r := H; have A73 := aM A730; clear A730; have HC74 := aM H; clear H
       go_upto_if 76 with (first | ((with_reducible refine gate_callee (f := 26) rfl ?_); refine goesL_ (some 57) rfl rfl Try.func26 (by kernel_rfl) rfl #[.slice A0 l0.length c0] rfl (by (try simp only [List.map_toArray, List.map_cons, List.map_nil]); first | done | rfl | (simp only [List.length_drop, List.length_take]; rfl)) ?_; (with_reducible refine (spec_DrawCmdRead.calls kj17 _ _ l0 t505 t506 _ ?side1 ?side2 A71.out).mono ?_); (case side1 => exact xcb HR0); (case side2 => exact HC0.out); rintro e w75 ⟨v507, rfl, ho0, hb⟩; refine ⟨_, rfl, ?_⟩; have HO508 := aM (Kd.R_lower ho0 (below_size xbg)); replace BK485 := xbb BK485 hb; replace HB := xbs hb; (try clear hb); (try clear hb2); (try clear hk); (try clear hi); (try clear ho0); obtain ⟨Ao76, co76, eo76⟩ := Kd.R_slice HO508.out; subst eo76) | ((with_reducible refine gate_callee (f := 25) rfl ?_); refine goesL_ (some 63) rfl rfl Try.func25 (by kernel_rfl) rfl #[.slice Ao76 t505.length co76, .int .i64 t506] rfl (by (try simp only [List.map_toArray, List.map_cons, List.map_nil]); first | done | rfl | (simp only [List.length_drop, List.length_take]; rfl)) ?_; (with_reducible refine (impl_CmdRead.calls kj17 _ _ t505 t506 t509 t510 t511 t512 t513 t514 t515 _ ?side1 ?side2 A72.out).mono ?_); (case side1 => repeat (first | exact (Kd.R_reads' HO508.out).2.2 | (with_reducible refine Kd.C_alloc ?_ _) | (with_reducible refine Kd.C_drewN ?_ _) | (with_reducible refine Kd.C_drew ?_))); (case side2 => exact (Kd.R_reads' HO508.out).2.1); rintro e w77 ⟨rfl, hb⟩; refine ⟨_, rfl, ?_⟩; replace HO508 := aM (Kd.R_below (xr HO508) hb); replace BK485 := xbb BK485 hb; replace HB := xbs hb; (try clear hb); (try clear hb2); (try clear hk); (try clear hi)) | ((with_reducible refine gate_dst (N := 11) rfl ?_); (try (refine gate_guard (by rfl) ?_; dsimp only)); refine box_event ?hg (N := 11) ?hd (cs := #[.int .i64 0, .int .i64 0, .int .i64 0, .int .i64 0, .string (⟨#[]⟩ : ByteArray)]) (t := 34) ?hr ?_; (case hd => rfl); (case hg => rfl); (case hr => first | (go_simp; done) | (go_simp; rfl)); intro gb516 hg w78 hbox hb; replace HO508 := aM (Kd.R_below (xr HO508) hb); have GW516 := aM (xge hg); have GE516 := aM (xge hg); replace HB := xbs hb; have NB485_516 := aM ((by rw [hg]; exact Nat.ne_of_lt (blk_lt (g := gb485) (o := .cells #[.int .i64 t480, .int .i64 t481, .int .i64 t482, .int .i64 t483, .string t484] 34 (0, 0)) xblk) : gb485 ≠ gb516)); have NB516_485 := aM ((by rw [hg]; exact Nat.ne_of_gt (blk_lt (g := gb485) (o := .cells #[.int .i64 t480, .int .i64 t481, .int .i64 t482, .int .i64 t483, .string t484] 34 (0, 0)) xblk) : gb516 ≠ gb485)); replace BK485 := xbb BK485 hb; have BK516 := aM (hbox); clear hb hbox hg; have hnb79 := NB516_485.out; have hnc79 := NB485_516.out; have hcz80_0 : w78.cell? ⟨gb516, 0, none⟩ = some (.int .i64 0) := xc BK516 0 rfl; have hcz80_1 : w78.cell? ⟨gb516, 1, none⟩ = some (.int .i64 0) := xc BK516 1 rfl; have hcz80_2 : w78.cell? ⟨gb516, 2, none⟩ = some (.int .i64 0) := xc BK516 2 rfl; have hcz80_3 : w78.cell? ⟨gb516, 3, none⟩ = some (.int .i64 0) := xc BK516 3 rfl; have hcz80_4 : w78.cell? ⟨gb516, 4, none⟩ = some (.string (⟨#[]⟩ : ByteArray)) := xc BK516 4 rfl; have hfz80_0 := blk_frozen BK516.out 0; have hfz80_1 := blk_frozen BK516.out 1; have hfz80_2 := blk_frozen BK516.out 2; have hfz80_3 := blk_frozen BK516.out 3; have hfz80_4 := blk_frozen BK516.out 4) | ((with_reducible refine gate_store (t := 34) (p := 11) rfl ?_); refine store_event (t := 34) (p := 11) (v := ?vo_w81) (w1 := (((((w78.setCell ⟨gb516, 0, none⟩ (.int .i64 t509)).setCell ⟨gb516, 1, none⟩ (.int .i64 t510)).setCell ⟨gb516, 2, none⟩ (.int .i64 t511)).setCell ⟨gb516, 3, none⟩ (.int .i64 t512)).setCell ⟨gb516, 4, none⟩ (.string t513))) ?hg ?ho ?hn ?hr ?_; (case ho => rfl); (case hg => rfl); (case hn => rfl); (case hr => first | (go_simp; done) | (go_simp; rfl)); intro w81 hw; replace HO508 : Aside0 (Kd.R (Kd.int .u8) 5 w81 w.heap.size (fun _ => True) (.slice Ao76 t505.length co76) t505) := ⟨(by rw [hw]; exact (by (with_reducible repeat (first | apply Kd.R_alloc | apply Kd.R_drewN | apply Kd.R_drew)); exact Kd.R_mono (Kd.R_far (p := ⟨gb516, 4, none⟩) (Kd.R_far (p := ⟨gb516, 3, none⟩) (Kd.R_far (p := ⟨gb516, 2, none⟩) (Kd.R_far (p := ⟨gb516, 1, none⟩) (Kd.R_far (p := ⟨gb516, 0, none⟩) (Kd.R_types HO508.out BK516.out (by decide)) (fun _ hk => hk.2) (.int .i64 t509)) (fun _ hk => hk.2) (.int .i64 t510)) (fun _ hk => hk.2) (.int .i64 t511)) (fun _ hk => hk.2) (.int .i64 t512)) (fun _ hk => hk.2) (.string t513)) (fun _ hk => trivial)))⟩; replace BK485 : Aside0 (w81.heap[gb485]? = some (.cells #[.int .i64 t480, .int .i64 t481, .int .i64 t482, .int .i64 t483, .string t484] 34 (0, 0))) := ⟨(by rw [hw]; exact (by (with_reducible repeat (first | refine blk_drewN ?_ _ | refine blk_drew ?_ | refine blk_alloc ?_ _)); refine blk_far ?_ NB485_516.out _; (with_reducible repeat (first | refine blk_drewN ?_ _ | refine blk_drew ?_ | refine blk_alloc ?_ _)); refine blk_far ?_ NB485_516.out _; (with_reducible repeat (first | refine blk_drewN ?_ _ | refine blk_drew ?_ | refine blk_alloc ?_ _)); refine blk_far ?_ NB485_516.out _; (with_reducible repeat (first | refine blk_drewN ?_ _ | refine blk_drew ?_ | refine blk_alloc ?_ _)); refine blk_far ?_ NB485_516.out _; (with_reducible repeat (first | refine blk_drewN ?_ _ | refine blk_drew ?_ | refine blk_alloc ?_ _)); refine blk_far ?_ NB485_516.out _; (with_reducible repeat (first | refine blk_drewN ?_ _ | refine blk_drew ?_ | refine blk_alloc ?_ _)); exact BK485.out))⟩; replace BK516 : Aside0 (w81.heap[gb516]? = some (.cells #[.int .i64 t509, .int .i64 t510, .int .i64 t511, .int .i64 t512, .string t513] 34 (0, 0))) := ⟨(by rw [hw]; exact (by (with_reducible repeat (first | refine blk_drewN ?_ _ | refine blk_drew ?_ | refine blk_alloc ?_ _)); refine blk_put (cs := #[.int .i64 t509, .int .i64 t510, .int .i64 t511, .int .i64 t512, .string (⟨#[]⟩ : ByteArray)]) ?_ 4 _ rfl; (with_reducible repeat (first | refine blk_drewN ?_ _ | refine blk_drew ?_ | refine blk_alloc ?_ _)); refine blk_put (cs := #[.int .i64 t509, .int .i64 t510, .int .i64 t511, .int .i64 0, .string (⟨#[]⟩ : ByteArray)]) ?_ 3 _ rfl; (with_reducible repeat (first | refine blk_drewN ?_ _ | refine blk_drew ?_ | refine blk_alloc ?_ _)); refine blk_put (cs := #[.int .i64 t509, .int .i64 t510, .int .i64 0, .int .i64 0, .string (⟨#[]⟩ : ByteArray)]) ?_ 2 _ rfl; (with_reducible repeat (first | refine blk_drewN ?_ _ | refine blk_drew ?_ | refine blk_alloc ?_ _)); refine blk_put (cs := #[.int .i64 t509, .int .i64 0, .int .i64 0, .int .i64 0, .string (⟨#[]⟩ : ByteArray)]) ?_ 1 _ rfl; (with_reducible repeat (first | refine blk_drewN ?_ _ | refine blk_drew ?_ | refine blk_alloc ?_ _)); refine blk_put (cs := #[.int .i64 0, .int .i64 0, .int .i64 0, .int .i64 0, .string (⟨#[]⟩ : ByteArray)]) ?_ 0 _ rfl; (with_reducible repeat (first | refine blk_drewN ?_ _ | refine blk_drew ?_ | refine blk_alloc ?_ _)); exact BK516.out))⟩; replace HB : Aside0 (Below w.heap.size w w81) := ⟨(by rw [hw]; exact xbg)⟩; clear hw) | ((with_reducible refine gate_callee (f := 27) rfl ?_); refine goesL_ (some 70) rfl rfl Try.func27 (by kernel_rfl) rfl #[.slice Ao76 t505.length co76, .int .i64 t506] rfl (by (try simp only [List.map_toArray, List.map_cons, List.map_nil]); first | done | rfl | (simp only [List.length_drop, List.length_take]; rfl)) ?_; (with_reducible refine (spec_CmdRead.calls kj17 _ _ t505 t506 t517 t518 t519 t520 t521 t522 t523 _ ?side1 ?side2 A73.out).mono ?_); (case side1 => repeat (first | exact (Kd.R_reads' HO508.out).2.2 | (with_reducible refine Kd.C_alloc ?_ _) | (with_reducible refine Kd.C_drewN ?_ _) | (with_reducible refine Kd.C_drew ?_))); (case side2 => exact (Kd.R_reads' HO508.out).2.1); rintro e w82 ⟨rfl, hb⟩; refine ⟨_, rfl, ?_⟩; replace HO508 := aM (Kd.R_below (xr HO508) hb); replace BK485 := xbb BK485 hb; replace BK516 := xbb BK516 hb; replace HB := xbs hb; (try clear hb); (try clear hb2); (try clear hk); (try clear hi)) | ((with_reducible refine gate_dst (N := 14) rfl ?_); (try (refine gate_guard (by rfl) ?_; dsimp only)); refine box_event ?hg (N := 14) ?hd (cs := #[.int .i64 0, .int .i64 0, .int .i64 0, .int .i64 0, .string (⟨#[]⟩ : ByteArray)]) (t := 34) ?hr ?_; (case hd => rfl); (case hg => rfl); (case hr => first | (go_simp; done) | (go_simp; rfl)); intro gb524 hg w83 hbox hb; replace HO508 := aM (Kd.R_below (xr HO508) hb); have GW524 := aM (xge hg); have GE524 := aM (xge hg); replace HB := xbs hb; have NB485_524 := aM ((by rw [hg]; exact Nat.ne_of_lt (blk_lt (g := gb485) (o := .cells #[.int .i64 t480, .int .i64 t481, .int .i64 t482, .int .i64 t483, .string t484] 34 (0, 0)) xblk) : gb485 ≠ gb524)); have NB524_485 := aM ((by rw [hg]; exact Nat.ne_of_gt (blk_lt (g := gb485) (o := .cells #[.int .i64 t480, .int .i64 t481, .int .i64 t482, .int .i64 t483, .string t484] 34 (0, 0)) xblk) : gb524 ≠ gb485)); have NB516_524 := aM ((by rw [hg]; exact Nat.ne_of_lt (blk_lt (g := gb516) (o := .cells #[.int .i64 t509, .int .i64 t510, .int .i64 t511, .int .i64 t512, .string t513] 34 (0, 0)) xblk) : gb516 ≠ gb524)); have NB524_516 := aM ((by rw [hg]; exact Nat.ne_of_gt (blk_lt (g := gb516) (o := .cells #[.int .i64 t509, .int .i64 t510, .int .i64 t511, .int .i64 t512, .string t513] 34 (0, 0)) xblk) : gb524 ≠ gb516)); replace BK485 := xbb BK485 hb; replace BK516 := xbb BK516 hb; have BK524 := aM (hbox); clear hb hbox hg; have hnb84 := NB524_485.out; have hnc84 := NB485_524.out; have hnb85 := NB524_516.out; have hnc85 := NB516_524.out; have hcz86_0 : w83.cell? ⟨gb524, 0, none⟩ = some (.int .i64 0) := xc BK524 0 rfl; have hcz86_1 : w83.cell? ⟨gb524, 1, none⟩ = some (.int .i64 0) := xc BK524 1 rfl; have hcz86_2 : w83.cell? ⟨gb524, 2, none⟩ = some (.int .i64 0) := xc BK524 2 rfl; have hcz86_3 : w83.cell? ⟨gb524, 3, none⟩ = some (.int .i64 0) := xc BK524 3 rfl; have hcz86_4 : w83.cell? ⟨gb524, 4, none⟩ = some (.string (⟨#[]⟩ : ByteArray)) := xc BK524 4 rfl; have hfz86_0 := blk_frozen BK524.out 0; have hfz86_1 := blk_frozen BK524.out 1; have hfz86_2 := blk_frozen BK524.out 2; have hfz86_3 := blk_frozen BK524.out 3; have hfz86_4 := blk_frozen BK524.out 4) | ((with_reducible refine gate_store (t := 34) (p := 14) rfl ?_); refine store_event (t := 34) (p := 14) (v := ?vo_w87) (w1 := (((((w83.setCell ⟨gb524, 0, none⟩ (.int .i64 t517)).setCell ⟨gb524, 1, none⟩ (.int .i64 t518)).setCell ⟨gb524, 2, none⟩ (.int .i64 t519)).setCell ⟨gb524, 3, none⟩ (.int .i64 t520)).setCell ⟨gb524, 4, none⟩ (.string t521))) ?hg ?ho ?hn ?hr ?_; (case ho => rfl); (case hg => rfl); (case hn => rfl); (case hr => first | (go_simp; done) | (go_simp; rfl)); intro w87 hw; replace HO508 : Aside0 (Kd.R (Kd.int .u8) 5 w87 w.heap.size (fun _ => True) (.slice Ao76 t505.length co76) t505) := ⟨(by rw [hw]; exact (by (with_reducible repeat (first | apply Kd.R_alloc | apply Kd.R_drewN | apply Kd.R_drew)); exact Kd.R_mono (Kd.R_far (p := ⟨gb524, 4, none⟩) (Kd.R_far (p := ⟨gb524, 3, none⟩) (Kd.R_far (p := ⟨gb524, 2, none⟩) (Kd.R_far (p := ⟨gb524, 1, none⟩) (Kd.R_far (p := ⟨gb524, 0, none⟩) (Kd.R_types HO508.out BK524.out (by decide)) (fun _ hk => hk.2) (.int .i64 t517)) (fun _ hk => hk.2) (.int .i64 t518)) (fun _ hk => hk.2) (.int .i64 t519)) (fun _ hk => hk.2) (.int .i64 t520)) (fun _ hk => hk.2) (.string t521)) (fun _ hk => trivial)))⟩; replace BK485 : Aside0 (w87.heap[gb485]? = some (.cells #[.int .i64 t480, .int .i64 t481, .int .i64 t482, .int .i64 t483, .string t484] 34 (0, 0))) := ⟨(by rw [hw]; exact (by (with_reducible repeat (first | refine blk_drewN ?_ _ | refine blk_drew ?_ | refine blk_alloc ?_ _)); refine blk_far ?_ NB485_524.out _; (with_reducible repeat (first | refine blk_drewN ?_ _ | refine blk_drew ?_ | refine blk_alloc ?_ _)); refine blk_far ?_ NB485_524.out _; (with_reducible repeat (first | refine blk_drewN ?_ _ | refine blk_drew ?_ | refine blk_alloc ?_ _)); refine blk_far ?_ NB485_524.out _; (with_reducible repeat (first | refine blk_drewN ?_ _ | refine blk_drew ?_ | refine blk_alloc ?_ _)); refine blk_far ?_ NB485_524.out _; (with_reducible repeat (first | refine blk_drewN ?_ _ | refine blk_drew ?_ | refine blk_alloc ?_ _)); refine blk_far ?_ NB485_524.out _; (with_reducible repeat (first | refine blk_drewN ?_ _ | refine blk_drew ?_ | refine blk_alloc ?_ _)); exact BK485.out))⟩; replace BK516 : Aside0 (w87.heap[gb516]? = some (.cells #[.int .i64 t509, .int .i64 t510, .int .i64 t511, .int .i64 t512, .string t513] 34 (0, 0))) := ⟨(by rw [hw]; exact (by (with_reducible repeat (first | refine blk_drewN ?_ _ | refine blk_drew ?_ | refine blk_alloc ?_ _)); refine blk_far ?_ NB516_524.out _; (with_reducible repeat (first | refine blk_drewN ?_ _ | refine blk_drew ?_ | refine blk_alloc ?_ _)); refine blk_far ?_ NB516_524.out _; (with_reducible repeat (first | refine blk_drewN ?_ _ | refine blk_drew ?_ | refine blk_alloc ?_ _)); refine blk_far ?_ NB516_524.out _; (with_reducible repeat (first | refine blk_drewN ?_ _ | refine blk_drew ?_ | refine blk_alloc ?_ _)); refine blk_far ?_ NB516_524.out _; (with_reducible repeat (first | refine blk_drewN ?_ _ | refine blk_drew ?_ | refine blk_alloc ?_ _)); refine blk_far ?_ NB516_524.out _; (with_reducible repeat (first | refine blk_drewN ?_ _ | refine blk_drew ?_ | refine blk_alloc ?_ _)); exact BK516.out))⟩; replace BK524 : Aside0 (w87.heap[gb524]? = some (.cells #[.int .i64 t517, .int .i64 t518, .int .i64 t519, .int .i64 t520, .string t521] 34 (0, 0))) := ⟨(by rw [hw]; exact (by (with_reducible repeat (first | refine blk_drewN ?_ _ | refine blk_drew ?_ | refine blk_alloc ?_ _)); refine blk_put (cs := #[.int .i64 t517, .int .i64 t518, .int .i64 t519, .int .i64 t520, .string (⟨#[]⟩ : ByteArray)]) ?_ 4 _ rfl; (with_reducible repeat (first | refine blk_drewN ?_ _ | refine blk_drew ?_ | refine blk_alloc ?_ _)); refine blk_put (cs := #[.int .i64 t517, .int .i64 t518, .int .i64 t519, .int .i64 0, .string (⟨#[]⟩ : ByteArray)]) ?_ 3 _ rfl; (with_reducible repeat (first | refine blk_drewN ?_ _ | refine blk_drew ?_ | refine blk_alloc ?_ _)); refine blk_put (cs := #[.int .i64 t517, .int .i64 t518, .int .i64 0, .int .i64 0, .string (⟨#[]⟩ : ByteArray)]) ?_ 2 _ rfl; (with_reducible repeat (first | refine blk_drewN ?_ _ | refine blk_drew ?_ | refine blk_alloc ?_ _)); refine blk_put (cs := #[.int .i64 t517, .int .i64 0, .int .i64 0, .int .i64 0, .string (⟨#[]⟩ : ByteArray)]) ?_ 1 _ rfl; (with_reducible repeat (first | refine blk_drewN ?_ _ | refine blk_drew ?_ | refine blk_alloc ?_ _)); refine blk_put (cs := #[.int .i64 0, .int .i64 0, .int .i64 0, .int .i64 0, .string (⟨#[]⟩ : ByteArray)]) ?_ 0 _ rfl; (with_reducible repeat (first | refine blk_drewN ?_ _ | refine blk_drew ?_ | refine blk_alloc ?_ _)); exact BK524.out))⟩; replace HB : Aside0 (Below w.heap.size w w87) := ⟨(by rw [hw]; exact xbg)⟩; clear hw))
       (try simp only [Act.put, List.setIfInBounds_toArray, List.set_cons_zero, List.set_cons_succ])
       go_cut [] (fun wc => ∃ (kq : Nat), Aside0 (laws_FnCmd.j3 kq t505 t506 t514 t515 t509 t510 t511 t512 t513 = some r) ∧ Aside0 (kq ≤ kj17) ∧ Aside0 (Kd.R (Kd.int .u8) 5 wc w.heap.size (fun _ => True) (.slice Ao76 t505.length co76) t505) ∧ Aside0 (wc.heap[gb485]? = some (.cells #[.int .i64 t480, .int .i64 t481, .int .i64 t482, .int .i64 t483, .string t484] 34 (0, 0))) ∧ Aside0 (wc.heap[gb516]? = some (.cells #[.int .i64 t509, .int .i64 t510, .int .i64 t511, .int .i64 t512, .string t513] 34 (0, 0))) ∧ Aside0 (wc.heap[gb524]? = some (.cells #[.int .i64 t517, .int .i64 t518, .int .i64 t519, .int .i64 t520, .string t521] 34 (0, 0))) ∧ Aside0 (Below w.heap.size w wc))
       case first =>
        have H := HC74.out; clear HC74
        by_cases c88 : (t515 != t523) = true
        ·rw [if_pos c88] at H
         have c88b0 : (t515 != t523) = true := c88
         (try (have c88b8 : (t515 == t523) = false := (Bool.not_eq_true' _).mp c88b0))
         (try (have c88b1 : decide (t515 = t523) = false := by simpa using c88))
         (try (have c88b2 : (t515 == t523) = false := by simpa using c88))
         (try (have c88b3 : ¬ (t515 = t523) := by simpa using c88))
         clear c88
         (first | rw [c88b0] | (simp only [i64_w, i32_w]; rw [c88b0]) | skip)
         obtain rfl := Option.some.inj H
         go_wp2
         all_goals first | (exfalso; rename_i h_; first | exact Bool.noConfusion (h_.symm.trans c88b0) | exact absurd c88b0 (by simpa using h_) | exact absurd h_ (by simpa using c88b0)) | skip
         go_ret
         exact ⟨by first | rfl | (simp [errW_none, errW_some] <;> rfl) | (simp [*, errW_none, errW_some] <;> rfl), xbg⟩
        ·rw [if_neg c88] at H
         have c88b0 : (t515 != t523) = false := by simpa using c88
         (try (have c88b8 : (t515 == t523) = true := (Bool.not_eq_false' _).mp c88b0))
         (try (have c88b1 : decide (t515 = t523) = true := by simpa using c88))
         (try (have c88b2 : (t515 == t523) = true := by simpa using c88))
         clear c88
         (first | rw [c88b0] | (simp only [i64_w, i32_w]; rw [c88b0]) | skip)
         have H' := aM H
         clear H
         go_wp2
         all_goals first | (exfalso; rename_i h_; first | exact Bool.noConfusion (h_.symm.trans c88b0) | exact absurd c88b0 (by simpa using h_) | exact absurd h_ (by simpa using c88b0)) | skip
         go_meet
         case rel => exact ⟨_, H', ⟨by have := HJ2.out; have := HJ7.out; have := HJ17.out; first | omega | exact Nat.le_refl _⟩, ⟨by (with_reducible repeat (first | apply Kd.R_alloc | apply Kd.R_drewN | apply Kd.R_drew)); exact HO508.out⟩, ⟨xblk⟩, ⟨xblk⟩, ⟨xblk⟩, ⟨xbg⟩⟩
       case rest =>
        clear HC74
        try clear c1
        try clear c2
        try clear p2
        try clear c3
        try clear c4
        try clear c5
        try clear c6
        try clear p6
        try clear c7
        try clear c8
        try clear c15
        try clear c17
        try clear c17b0
        try clear c17b1
        try clear c17b2
        try clear c19
        try clear c20
        try clear c22
        try clear c23
        try clear c23b0
        try clear c24
        try clear c25
        try clear c26
        try clear c27
        try clear c31
        try clear c36
        try clear c36b0
        try clear c36b1
        try clear c44
        try clear c56
        try clear p64
        try clear c68
        try clear c79
        try clear c84
        try clear c85
        try clear c88
        try clear c88b0
        try clear c88b1
        try clear c88b2
        try clear hcz11_0
        try clear hcz11_1
        try clear hcz11_2
        try clear hcz11_3
        try clear hcz11_4
        try clear hcz13_0
        try clear hcz13_1
        try clear hcz13_2
        try clear hcz13_3
        try clear hcz13_4
        try clear hcz15_0
        try clear hcz15_1
        try clear hcz15_2
        try clear hcz15_3
        try clear hcz15_4
        try clear hcz32_0
        try clear hcz32_1
        try clear hcz32_2
        try clear hcz32_3
        try clear hcz32_4
        try clear hcz34_0
        try clear hcz34_1
        try clear hcz34_2
        try clear hcz34_3
        try clear hcz34_4
        try clear hcz35_0
        try clear hcz35_1
        try clear hcz35_2
        try clear hcz35_3
        try clear hcz35_4
        try clear hcz45_0
        try clear hcz45_1
        try clear hcz45_2
        try clear hcz45_3
        try clear hcz45_4
        try clear hcz47_0
        try clear hcz47_1
        try clear hcz47_2
        try clear hcz47_3
        try clear hcz47_4
        try clear hcz48_0
        try clear hcz48_1
        try clear hcz48_2
        try clear hcz48_3
        try clear hcz48_4
        try clear hcz57_0
        try clear hcz57_1
        try clear hcz57_2
        try clear hcz57_3
        try clear hcz57_4
        try clear hcz59_0
        try clear hcz59_1
        try clear hcz59_2
        try clear hcz59_3
        try clear hcz59_4
        try clear hcz60_0
        try clear hcz60_1
        try clear hcz60_2
        try clear hcz60_3
        try clear hcz60_4
        try clear hcz69_0
        try clear hcz69_1
        try clear hcz69_2
        try clear hcz69_3
        try clear hcz69_4
        try clear hcz80_0
        try clear hcz80_1
        try clear hcz80_2
        try clear hcz80_3
        try clear hcz80_4
        try clear hcz86_0
        try clear hcz86_1
        try clear hcz86_2
        try clear hcz86_3
        try clear hcz86_4
        try clear hfz11_0
        try clear hfz11_1
        try clear hfz11_2
        try clear hfz11_3
        try clear hfz11_4
        try clear hfz13_0
        try clear hfz13_1
        try clear hfz13_2
        try clear hfz13_3
        try clear hfz13_4
        try clear hfz15_0
        try clear hfz15_1
        try clear hfz15_2
        try clear hfz15_3
        try clear hfz15_4
        try clear hfz32_0
        try clear hfz32_1
        try clear hfz32_2
        try clear hfz32_3
        try clear hfz32_4
        try clear hfz34_0
        try clear hfz34_1
        try clear hfz34_2
        try clear hfz34_3
        try clear hfz34_4
        try clear hfz35_0
        try clear hfz35_1
        try clear hfz35_2
        try clear hfz35_3
        try clear hfz35_4
        try clear hfz45_0
        try clear hfz45_1
        try clear hfz45_2
        try clear hfz45_3
        try clear hfz45_4
        try clear hfz47_0
        try clear hfz47_1
        try clear hfz47_2
        try clear hfz47_3
        try clear hfz47_4
        try clear hfz48_0
        try clear hfz48_1
        try clear hfz48_2
        try clear hfz48_3
        try clear hfz48_4
        try clear hfz57_0
        try clear hfz57_1
        try clear hfz57_2
        try clear hfz57_3
        try clear hfz57_4
        try clear hfz59_0
        try clear hfz59_1
        try clear hfz59_2
        try clear hfz59_3
        try clear hfz59_4
        try clear hfz60_0
        try clear hfz60_1
        try clear hfz60_2
        try clear hfz60_3
        try clear hfz60_4
        try clear hfz69_0
        try clear hfz69_1
        try clear hfz69_2
        try clear hfz69_3
        try clear hfz69_4
        try clear hfz80_0
        try clear hfz80_1
        try clear hfz80_2
        try clear hfz80_3
        try clear hfz80_4
        try clear hfz86_0
        try clear hfz86_1
        try clear hfz86_2
        try clear hfz86_3
        try clear hfz86_4
        try clear p2
        try clear p6
        try clear p64
        obtain ⟨kq, HA, HJ73, HO_9, BK485, BK516, BK524, HB⟩ := hcut
        cases kq with
        | zero => exact absurd HA.out (by simp [laws_FnCmd.j3])
        | succ kj73 =>
         have H := HA.out; clear HA
         simp only [laws_FnCmd.j3] at H
         by_cases c89 : t515 = true
         ·subst c89
          have H1 : ((impl_CmdPack.f kj73 t509 t510 t511 t512 t513).bind fun bt525 => (if bt525.2 = true then ((impl_CmdOk.f kj73 t509 t510 t511 t512 t513).bind fun t529 => (if t529 = true then (if t506 ≥ 0 then (if t514 ≤ (t505.length : Int) then (if 0 ≤ t506 then (if t506 ≤ t514 then (some ((strOfNums bt525.1).toList == (strOfNums ((t505.take (t514 : Int).toNat).drop (t506 : Int).toNat)).toList)) else (none)) else (none)) else (some false)) else (some false)) else (some false))) else (some false))) = some r := by rw [if_pos rfl] at H; exact H
          clear H; have H := H1; clear H1; replace H := Option.bind_eq_some_iff.mp H
          obtain ⟨⟨t525, t528⟩, A900, H⟩ := H
          replace H : (if t528 = true then ((impl_CmdOk.f kj73 t509 t510 t511 t512 t513).bind fun t529 => (if t529 = true then (if t506 ≥ 0 then (if t514 ≤ (t505.length : Int) then (if 0 ≤ t506 then (if t506 ≤ t514 then (some ((strOfNums t525).toList == (strOfNums ((t505.take (t514 : Int).toNat).drop (t506 : Int).toNat)).toList)) else (none)) else (none)) else (some false)) else (some false)) else (some false))) else (some false)) = some r := H; have A90 := aM A900; clear A900
          by_cases c91 : t528 = true
          ·subst c91
           have H1 : ((impl_CmdOk.f kj73 t509 t510 t511 t512 t513).bind fun t529 => (if t529 = true then (if t506 ≥ 0 then (if t514 ≤ (t505.length : Int) then (if 0 ≤ t506 then (if t506 ≤ t514 then (some ((strOfNums t525).toList == (strOfNums ((t505.take (t514 : Int).toNat).drop (t506 : Int).toNat)).toList)) else (none)) else (none)) else (some false)) else (some false)) else (some false))) = some r := by rw [if_pos rfl] at H; exact H
           clear H; have H := H1; clear H1; replace H := Option.bind_eq_some_iff.mp H
           obtain ⟨t529, A920, H⟩ := H
           replace H : (if t529 = true then (if t506 ≥ 0 then (if t514 ≤ (t505.length : Int) then (if 0 ≤ t506 then (if t506 ≤ t514 then (some ((strOfNums t525).toList == (strOfNums ((t505.take (t514 : Int).toNat).drop (t506 : Int).toNat)).toList)) else (none)) else (none)) else (some false)) else (some false)) else (some false)) = some r := H; have A92 := aM A920; clear A920
           by_cases c93 : t529 = true
           ·subst c93
            have H1 : (if t506 ≥ 0 then (if t514 ≤ (t505.length : Int) then (if 0 ≤ t506 then (if t506 ≤ t514 then (some ((strOfNums t525).toList == (strOfNums ((t505.take (t514 : Int).toNat).drop (t506 : Int).toNat)).toList)) else (none)) else (none)) else (some false)) else (some false)) = some r := by rw [if_pos rfl] at H; exact H
            clear H; have H := H1; clear H1
            by_cases c94 : t506 ≥ 0
            ·rw [if_pos c94] at H
             have c94b0 : decide (0 ≤ t506) = true := decide_eq_true c94; clear c94
             by_cases c95 : t514 ≤ (t505.length : Int)
             ·rw [if_pos c95] at H
              have c95b0 : decide (t514 ≤ (t505.length : Int)) = true := decide_eq_true c95; clear c95
              by_cases c96 : 0 ≤ t506
              ·rw [if_pos c96] at H
               have c96b0 := eq_true c96; have c96b1 : decide (0 ≤ t506) = true := decide_eq_true c96; clear c96
               by_cases c97 : t506 ≤ t514
               ·rw [if_pos c97] at H
                have c97b0 := eq_true c97; have c97b1 : decide (t506 ≤ t514) = true := decide_eq_true c97; clear c97; have c98b0 := eq_true (of_decide_eq_true (by first | (with_reducible assumption) | assumption) : t514 ≤ (t505.length : Int))
                obtain ⟨y530, hy530⟩ : ∃ y_ : List Int, y_ = ((t505.take (t514 : Int).toNat).drop (t506 : Int).toNat) := ⟨_, rfl⟩
                replace H : (some ((strOfNums t525).toList == (strOfNums y530).toList)) = some r := by first | (rw [hy530]; with_reducible exact H) | (have H2_ := (Option.bind_some _ _).symm.trans H; rw [hy530]; with_reducible exact H2_) | (have H2_ := (Option.bind_some _ _).symm.trans H; with_reducible exact H2_) | with_reducible exact H | (rw [hy530]; exact H) | exact H
                have Ny530 := aM hy530; clear hy530
                obtain rfl := Option.some.inj H
                have hnb99 := NB516_485.out; have hnc99 := NB485_516.out; have hnb100 := NB516_524.out; have hnc100 := NB524_516.out; have hcz101_0 : wc.cell? ⟨gb516, 0, none⟩ = some (.int .i64 t509) := xc BK516 0 rfl; have hcz101_1 : wc.cell? ⟨gb516, 1, none⟩ = some (.int .i64 t510) := xc BK516 1 rfl; have hcz101_2 : wc.cell? ⟨gb516, 2, none⟩ = some (.int .i64 t511) := xc BK516 2 rfl; have hcz101_3 : wc.cell? ⟨gb516, 3, none⟩ = some (.int .i64 t512) := xc BK516 3 rfl; have hcz101_4 : wc.cell? ⟨gb516, 4, none⟩ = some (.string t513) := xc BK516 4 rfl; have hfz101_0 := blk_frozen BK516.out 0; have hfz101_1 := blk_frozen BK516.out 1; have hfz101_2 := blk_frozen BK516.out 2; have hfz101_3 := blk_frozen BK516.out 3; have hfz101_4 := blk_frozen BK516.out 4
                try go_wp2_with (first | ((with_reducible refine gate_callee (f := 23) rfl ?_); refine goesL_ (some 88) rfl rfl Try.func23 (by kernel_rfl) rfl #[.agg #[.int .i64 t509, .int .i64 t510, .int .i64 t511, .int .i64 t512, .string t513]] rfl (by (try simp only [List.map_toArray, List.map_cons, List.map_nil]); first | done | rfl | (simp only [List.length_drop, List.length_take]; rfl)) ?_; (with_reducible refine (impl_CmdPack.calls kj73 t509 t510 t511 t512 t513 t525 true _ A90.out).mono ?_); rintro e w102 ⟨v526, rfl, ho0, hb⟩; refine ⟨_, rfl, ?_⟩; have HO527 := aM (Kd.R_lower (Kd.R_new' ho0 (Kd.R_lt (xr HO_9))) (below_size xbg)); replace HO_9 := aM (Kd.R_elder' (xr HO_9) (Kd.R_base ho0) hb); replace BK485 := xbb BK485 hb; replace BK516 := xbb BK516 hb; replace BK524 := xbb BK524 hb; replace HB := xbs hb; (try clear hb); (try clear hb2); (try clear hk); (try clear hi); (try clear ho0)))
                replace HO_9 := aM (Kd.R_drew HO_9.out); replace HO527 := aM (Kd.R_drew HO527.out); replace BK485 := aM (blk_drew BK485.out); replace BK516 := aM (blk_drew BK516.out); replace BK524 := aM (blk_drew BK524.out); replace HB := aM (below_drew1 HB.out)
                refine start_ (n := 26) (S := fun w' => w'.cell? ⟨gb516, 0, none⟩ = some (.int .i64 t509) ∧ w'.cell? ⟨gb516, 1, none⟩ = some (.int .i64 t510) ∧ w'.cell? ⟨gb516, 2, none⟩ = some (.int .i64 t511) ∧ w'.cell? ⟨gb516, 3, none⟩ = some (.int .i64 t512) ∧ w'.cell? ⟨gb516, 4, none⟩ = some (.string t513)) (ds := []) #[false, false, false, false, false, false, false, false, false, false, false, false, false, false, false, false, false, false, false, false, false, false, false, false, false, false] (by kernel_rfl) rfl rfl ⟨xc BK516 0 rfl, xc BK516 1 rfl, xc BK516 2 rfl, xc BK516 3 rfl, xc BK516 4 rfl⟩ (fun hHeld => ?_); refine with_tabW laws_FnCmd.tab19 laws_FnCmd.bits19 (fun HT_ HW_ => ?_)
                generalize w102.drew = w103 at HO_9 HO527 BK485 BK516 BK524 HB hHeld ⊢
                refine pv_ 0 91 (h := ?_)
                refine pv_ 1 92 (h := ?_)
                refine tk_ 2 93 (h := ?_)
                refine on_ 3 94 (h := fun K hK => ?_)
                refine goesY Try.func28 #[.agg #[.int .i64 t509, .int .i64 t510, .int .i64 t511, .int .i64 t512, .string t513]] ?_
                with_reducible refine (impl_CmdOk.calls kj73 t509 t510 t511 t512 t513 true _ A92.out).mono ?_
                rintro e w104 ⟨rfl, hb⟩
                refine ⟨_, rfl, ?_⟩
                replace HO_9 := aM (Kd.R_below (xr HO_9) hb); replace HO527 := aM (Kd.R_below (xr HO527) hb); replace BK485 := xbb BK485 hb; replace BK516 := xbb BK516 hb; replace BK524 := xbb BK524 hb; replace HB := xbs hb
                (try clear hb); (try clear hb2); (try clear hk); (try clear hi)
                have q105 : (t514 : Int) ≤ ((t505.length : Int) : Int) := of_decide_eq_true (by first | (with_reducible assumption) | assumption)
                obtain ⟨i0105, hi0105, _, hsz105, _⟩ := info_parts info5
                have hroom105 : t505.length ≤ co76 := (Kd.R_reads' HO_9.out).2.1; have hC105 : Kd.C (Kd.int .u8) _ Ao76 t505.length t505 := (Kd.R_reads' HO_9.out).2.2; have ql105 : (t506 : Int) ≤ (t514 : Int) := of_decide_eq_true (by first | (with_reducible assumption) | assumption); have q0105 : (0 : Int) ≤ (t506 : Int) := of_decide_eq_true (by first | (with_reducible assumption) | assumption); have hcut105 := cut_mid (P := Try.prog) 22 5 .i64 .i64 Try.underlying22 hi0105 1 hsz105 Ao76 t505.length co76 t506 t514 q0105 ql105 q105 hroom105; have hr105 := Kd.C_mid (lo := (t506 : Int).toNat) (hi := (t514 : Int).toNat) (c := co76) hC105 (by omega) (by omega) hroom105
                obtain ⟨A105, hA105⟩ : ∃ A1, A1 = (if co76 = (t506 : Int).toNat then Ao76 else (Ao76 : Option Addr).map (·.add ((t506 : Int).toNat * 1))) := ⟨_, rfl⟩
                obtain ⟨c105, hc105⟩ : ∃ c1, c1 = co76 - (t506 : Int).toNat := ⟨_, rfl⟩
                have hy105 : y530.length = (t514 : Int).toNat - (t506 : Int).toNat := (by rw [Ny530.out, List.length_drop, List.length_take] <;> omega)
                rw [show ((t505).take (t514 : Int).toNat).drop (t506 : Int).toNat = y530 from Ny530.out.symm] at hr105
                replace hr105 : Kd.C (Kd.int .u8) _ A105 y530.length y530 := (by rw [hA105]; exact hr105)
                rw [← hy105, ← hA105, ← hc105] at hcut105
                have HR533 := aM hr105; have HC533 := aM (show y530.length ≤ c105 from by rw [hy105, hc105]; exact Nat.sub_le_sub_right (Nat.le_trans (by omega) hroom105) _); clear hr105 hC105 hroom105 hi0105 hsz105 hc105; have KY105 := aM hy105; have KA105 := aM hA105; clear hy105 hA105; have KL105 := aM (show (t514 : Int).toNat ≤ t505.length from by omega); have KM105 := aM (show (t506 : Int).toNat ≤ (t514 : Int).toNat from by omega); replace q105 := eq_true q105
                refine hK.out _ _ ⟨xc BK516 0 rfl, xc BK516 1 rfl, xc BK516 2 rfl, xc BK516 3 rfl, xc BK516 4 rfl⟩ (fun hHeld => ?_)
                clear hK K
                refine norm_ (a' := ?_) ?_ ?_
                rotate_left
                ·show Act.put _ (some 94) _ = _
                 simp only [Act.put, List.setIfInBounds_toArray, List.set_cons_zero, List.set_cons_succ, i64_w, i32_w]
                 rfl
                refine pv_ 4 95 (h := ?_)
                refine pv_ 5 96 (h := ?_)
                refine pv_ 6 97 (h := ?_)
                refine pv_ 7 98 (h := ?_)
                refine pv_ 8 99 (h := ?_)
                refine pv_ 9 100 (h := ?_)
                refine pv_ 10 101 (h := ?_)
                refine pv_ 11 102 (h := ?_)
                refine pv_ 12 103 (h := ?_)
                refine pv_ 13 104 (h := ?_)
                refine pv_ 14 105 (h := ?_)
                refine pv_ 15 106 (h := ?_)
                refine pv_ 16 107 (h := ?_)
                refine pv_ 18 109 (h := ?_)
                refine pv_ 19 110 (h := ?_)
                refine pv_ 20 111 (h := ?_)
                refine pv_ 21 112 (h := ?_)
                refine join_ (σ := Unit) 3 #[true, true, true, true, true, true, true, true, true, true, true, true, true, true, true, true, true, true, true, true, true, true, true, false, false, false] (fun s_ => [(108, .string (strOfNums t525)), (113, .string (strOfNums y530))]) (fun s_ w' => (w'.cell? ⟨gb516, 0, none⟩ = some (.int .i64 t509) ∧ w'.cell? ⟨gb516, 1, none⟩ = some (.int .i64 t510) ∧ w'.cell? ⟨gb516, 2, none⟩ = some (.int .i64 t511) ∧ w'.cell? ⟨gb516, 3, none⟩ = some (.int .i64 t512) ∧ w'.cell? ⟨gb516, 4, none⟩ = some (.string t513)) ∧ (Kd.R (Kd.int .u8) 5 w' w.heap.size (fun k_ => some k_ ≠ (.slice Ao76 t505.length co76 : Value).ownBlock) v526 t525) ∧ (Kd.R (Kd.int .u8) 5 w' w.heap.size (fun k_ => some k_ ≠ (v526 : Value).ownBlock) (.slice Ao76 t505.length co76) t505) ∧ (w'.heap[gb485]? = some (.cells #[.int .i64 t480, .int .i64 t481, .int .i64 t482, .int .i64 t483, .string t484] 34 (0, 0))) ∧ (w'.heap[gb516]? = some (.cells #[.int .i64 t509, .int .i64 t510, .int .i64 t511, .int .i64 t512, .string t513] 34 (0, 0))) ∧ (w'.heap[gb524]? = some (.cells #[.int .i64 t517, .int .i64 t518, .int .i64 t519, .int .i64 t520, .string t521] 34 (0, 0))) ∧ (Below w.heap.size w w')) ?_ ?_
                rotate_left
                ·intro hCont
                 refine two_ (i := 17) (j := 22) (Ni := some 108) (Nj := some 113) #[true, true, true, true, true, true, true, true, true, true, true, true, true, true, true, true, true, true, true, true, true, true, false, false, false, false] #[true, true, true, true, true, true, true, true, true, true, true, true, true, true, true, true, true, false, true, true, true, true, true, false, false, false] rfl rfl rfl rfl (two_of HT_.out (by kernel_rfl)) (by decide) (by decide) (fun K hK => ?_) (fun K hK => ?_)
                 ·skip
                  have hcv106 := own_string (P := Try.prog) Try.underlying22 Try.underlying5 Try.underlying9 (Kd.own_of_R HO527.out)
                  refine value_ (w1 := ?_) (v := ?_) (by rfl) rfl ?_ ?_
                  rotate_left 2
                  ·go_simp
                   constructor
                   ·rfl
                   ·rfl
                  clear hcv106
                  refine hK.out _ _ ⟨xc BK516 0 rfl, xc BK516 1 rfl, xc BK516 2 rfl, xc BK516 3 rfl, xc BK516 4 rfl⟩ (fun hHeld => ?_)
                  clear hK K
                  refine norm_ (a' := ?_) ?_ ?_
                  rotate_left
                  ·show Act.put _ (some 108) _ = _
                   simp only [Act.put, List.setIfInBounds_toArray, List.set_cons_zero, List.set_cons_succ, i64_w, i32_w]
                   rfl
                  refine on_ 22 113 (h := fun K hK => ?_)
                  have hcv107 := Kd.C_string (P := Try.prog) (A := A105) (c := c105) Try.underlying22 Try.underlying5 Try.underlying9 (by repeat (first | (with_reducible exact HR533.out) | (with_reducible refine Kd.C_alloc ?_ _) | (with_reducible refine Kd.C_drewN ?_ _) | (with_reducible refine Kd.C_drew ?_) | exact HR533.out))
                  refine value_ (w1 := ?_) (v := ?_) (by rfl) rfl ?_ ?_
                  rotate_left 2
                  ·go_simp
                   constructor
                   ·rfl
                   ·rfl
                  clear hcv107
                  refine hK.out _ _ ⟨xc BK516 0 rfl, xc BK516 1 rfl, xc BK516 2 rfl, xc BK516 3 rfl, xc BK516 4 rfl⟩ (fun hHeld => ?_)
                  clear hK K
                  refine norm_ (a' := ?_) ?_ ?_
                  rotate_left
                  ·show Act.put _ (some 113) _ = _
                   simp only [Act.put, List.setIfInBounds_toArray, List.set_cons_zero, List.set_cons_succ, i64_w, i32_w]
                   rfl
                  exact norm_ (by simp only [putAll, Act.put, List.setIfInBounds_toArray, List.set_cons_zero, List.set_cons_succ]) (hCont () _ ⟨hHeld, (by (with_reducible repeat (first | apply Kd.R_alloc | apply Kd.R_drewN | apply Kd.R_drew)); exact Kd.R_mono HO527.out (fun _ hk => hk.2)), (by (with_reducible repeat (first | apply Kd.R_alloc | apply Kd.R_drewN | apply Kd.R_drew)); exact Kd.R_mono HO_9.out (fun _ hk => hk.2)), xblk, xblk, xblk, xbg⟩)
                 ·skip
                  have hcv106 := Kd.C_string (P := Try.prog) (A := A105) (c := c105) Try.underlying22 Try.underlying5 Try.underlying9 (by repeat (first | (with_reducible exact HR533.out) | (with_reducible refine Kd.C_alloc ?_ _) | (with_reducible refine Kd.C_drewN ?_ _) | (with_reducible refine Kd.C_drew ?_) | exact HR533.out))
                  refine value_ (w1 := ?_) (v := ?_) (by rfl) rfl ?_ ?_
                  rotate_left 2
                  ·go_simp
                   constructor
                   ·rfl
                   ·rfl
                  clear hcv106
                  refine hK.out _ _ ⟨xc BK516 0 rfl, xc BK516 1 rfl, xc BK516 2 rfl, xc BK516 3 rfl, xc BK516 4 rfl⟩ (fun hHeld => ?_)
                  clear hK K
                  refine norm_ (a' := ?_) ?_ ?_
                  rotate_left
                  ·show Act.put _ (some 113) _ = _
                   simp only [Act.put, List.setIfInBounds_toArray, List.set_cons_zero, List.set_cons_succ, i64_w, i32_w]
                   rfl
                  refine on_ 17 108 (h := fun K hK => ?_)
                  have hcv107 := own_string (P := Try.prog) Try.underlying22 Try.underlying5 Try.underlying9 (Kd.own_of_R HO527.out)
                  refine value_ (w1 := ?_) (v := ?_) (by rfl) rfl ?_ ?_
                  rotate_left 2
                  ·go_simp
                   constructor
                   ·rfl
                   ·rfl
                  clear hcv107
                  refine hK.out _ _ ⟨xc BK516 0 rfl, xc BK516 1 rfl, xc BK516 2 rfl, xc BK516 3 rfl, xc BK516 4 rfl⟩ (fun hHeld => ?_)
                  clear hK K
                  refine norm_ (a' := ?_) ?_ ?_
                  rotate_left
                  ·show Act.put _ (some 108) _ = _
                   simp only [Act.put, List.setIfInBounds_toArray, List.set_cons_zero, List.set_cons_succ, i64_w, i32_w]
                   rfl
                  exact norm_ (by simp only [putAll, Act.put, List.setIfInBounds_toArray, List.set_cons_zero, List.set_cons_succ]) (hCont () _ ⟨hHeld, (by (with_reducible repeat (first | apply Kd.R_alloc | apply Kd.R_drewN | apply Kd.R_drew)); exact Kd.R_mono HO527.out (fun _ hk => hk.2)), (by (with_reducible repeat (first | apply Kd.R_alloc | apply Kd.R_drewN | apply Kd.R_drew)); exact Kd.R_mono HO_9.out (fun _ hk => hk.2)), xblk, xblk, xblk, xbg⟩)
                rintro _ w108 ⟨hS_, h0_, h1_, h2_, h3_, h4_, h5_⟩
                have n0_ : Aside0 (Kd.R (Kd.int .u8) 5 w108 w.heap.size (fun k_ => some k_ ≠ (.slice Ao76 t505.length co76 : Value).ownBlock) v526 t525) := ⟨h0_⟩; have n1_ : Aside0 (Kd.R (Kd.int .u8) 5 w108 w.heap.size (fun k_ => some k_ ≠ (v526 : Value).ownBlock) (.slice Ao76 t505.length co76) t505) := ⟨h1_⟩; have n2_ : Aside0 (w108.heap[gb485]? = some (.cells #[.int .i64 t480, .int .i64 t481, .int .i64 t482, .int .i64 t483, .string t484] 34 (0, 0))) := ⟨h2_⟩; have n3_ : Aside0 (w108.heap[gb516]? = some (.cells #[.int .i64 t509, .int .i64 t510, .int .i64 t511, .int .i64 t512, .string t513] 34 (0, 0))) := ⟨h3_⟩; have n4_ : Aside0 (w108.heap[gb524]? = some (.cells #[.int .i64 t517, .int .i64 t518, .int .i64 t519, .int .i64 t520, .string t521] 34 (0, 0))) := ⟨h4_⟩; have n5_ : Aside0 (Below w.heap.size w w108) := ⟨h5_⟩; clear HO_9 HO527 BK485 BK516 BK524 HB h0_ h1_ h2_ h3_ h4_ h5_; have HO527 := n0_; have HO_9 := n1_; have BK485 := n2_; have BK516 := n3_; have BK524 := n4_; have HB := n5_; clear n0_ n1_ n2_ n3_ n4_ n5_; have hHeld : w108.cell? ⟨gb516, 0, none⟩ = some (.int .i64 t509) ∧ w108.cell? ⟨gb516, 1, none⟩ = some (.int .i64 t510) ∧ w108.cell? ⟨gb516, 2, none⟩ = some (.int .i64 t511) ∧ w108.cell? ⟨gb516, 3, none⟩ = some (.int .i64 t512) ∧ w108.cell? ⟨gb516, 4, none⟩ = some (.string t513) := hS_
                refine norm_ (a' := ?_) ?_ ?_
                rotate_left
                ·simp only [putAll, Act.put, List.setIfInBounds_toArray, List.set_cons_zero, List.set_cons_succ]
                 rfl
                refine pv_ 23 114 (h := ?_)
                refine pv_ 24 115 (h := ?_)
                refine pv_ 25 2 (h := ?_)
                refine done_ (done_of HT_.out (by kernel_rfl)) ?_
                try go_wp2
                go_ret
                exact ⟨by first | rfl | (simp [errW_none, errW_some] <;> rfl) | (simp [*, errW_none, errW_some] <;> rfl), xbg⟩
               ·rw [if_neg c97] at H
                exact absurd H (by simp)
              ·rw [if_neg c96] at H
               exact absurd H (by simp)
             ·rw [if_neg c95] at H
              have c95b0 : decide (t514 ≤ (t505.length : Int)) = false := decide_eq_false c95; clear c95
              obtain rfl := Option.some.inj H
              have hnb109 := NB516_485.out; have hnc109 := NB485_516.out; have hnb110 := NB516_524.out; have hnc110 := NB524_516.out; have hcz111_0 : wc.cell? ⟨gb516, 0, none⟩ = some (.int .i64 t509) := xc BK516 0 rfl; have hcz111_1 : wc.cell? ⟨gb516, 1, none⟩ = some (.int .i64 t510) := xc BK516 1 rfl; have hcz111_2 : wc.cell? ⟨gb516, 2, none⟩ = some (.int .i64 t511) := xc BK516 2 rfl; have hcz111_3 : wc.cell? ⟨gb516, 3, none⟩ = some (.int .i64 t512) := xc BK516 3 rfl; have hcz111_4 : wc.cell? ⟨gb516, 4, none⟩ = some (.string t513) := xc BK516 4 rfl; have hfz111_0 := blk_frozen BK516.out 0; have hfz111_1 := blk_frozen BK516.out 1; have hfz111_2 := blk_frozen BK516.out 2; have hfz111_3 := blk_frozen BK516.out 3; have hfz111_4 := blk_frozen BK516.out 4
              try go_wp2_with (first | ((with_reducible refine gate_callee (f := 23) rfl ?_); refine goesL_ (some 88) rfl rfl Try.func23 (by kernel_rfl) rfl #[.agg #[.int .i64 t509, .int .i64 t510, .int .i64 t511, .int .i64 t512, .string t513]] rfl (by (try simp only [List.map_toArray, List.map_cons, List.map_nil]); first | done | rfl | (simp only [List.length_drop, List.length_take]; rfl)) ?_; (with_reducible refine (impl_CmdPack.calls kj73 t509 t510 t511 t512 t513 t525 true _ A90.out).mono ?_); rintro e w112 ⟨v526, rfl, ho0, hb⟩; refine ⟨_, rfl, ?_⟩; have HO527 := aM (Kd.R_lower (Kd.R_new' ho0 (Kd.R_lt (xr HO_9))) (below_size xbg)); replace HO_9 := aM (Kd.R_elder' (xr HO_9) (Kd.R_base ho0) hb); replace BK485 := xbb BK485 hb; replace BK516 := xbb BK516 hb; replace BK524 := xbb BK524 hb; replace HB := xbs hb; (try clear hb); (try clear hb2); (try clear hk); (try clear hi); (try clear ho0)))
              replace HO_9 := aM (Kd.R_drew HO_9.out); replace HO527 := aM (Kd.R_drew HO527.out); replace BK485 := aM (blk_drew BK485.out); replace BK516 := aM (blk_drew BK516.out); replace BK524 := aM (blk_drew BK524.out); replace HB := aM (below_drew1 HB.out)
              refine start_ (n := 26) (S := fun w' => w'.cell? ⟨gb516, 0, none⟩ = some (.int .i64 t509) ∧ w'.cell? ⟨gb516, 1, none⟩ = some (.int .i64 t510) ∧ w'.cell? ⟨gb516, 2, none⟩ = some (.int .i64 t511) ∧ w'.cell? ⟨gb516, 3, none⟩ = some (.int .i64 t512) ∧ w'.cell? ⟨gb516, 4, none⟩ = some (.string t513)) (ds := []) #[false, false, false, false, false, false, false, false, false, false, false, false, false, false, false, false, false, false, false, false, false, false, false, false, false, false] (by kernel_rfl) rfl rfl ⟨xc BK516 0 rfl, xc BK516 1 rfl, xc BK516 2 rfl, xc BK516 3 rfl, xc BK516 4 rfl⟩ (fun hHeld => ?_); refine with_tabW laws_FnCmd.tab19 laws_FnCmd.bits19 (fun HT_ HW_ => ?_)
              generalize w112.drew = w113 at HO_9 HO527 BK485 BK516 BK524 HB hHeld ⊢
              refine pv_ 0 91 (h := ?_)
              refine pv_ 1 92 (h := ?_)
              refine tk_ 2 93 (h := ?_)
              refine on_ 3 94 (h := fun K hK => ?_)
              refine goesY Try.func28 #[.agg #[.int .i64 t509, .int .i64 t510, .int .i64 t511, .int .i64 t512, .string t513]] ?_
              with_reducible refine (impl_CmdOk.calls kj73 t509 t510 t511 t512 t513 true _ A92.out).mono ?_
              rintro e w114 ⟨rfl, hb⟩
              refine ⟨_, rfl, ?_⟩
              replace HO_9 := aM (Kd.R_below (xr HO_9) hb); replace HO527 := aM (Kd.R_below (xr HO527) hb); replace BK485 := xbb BK485 hb; replace BK516 := xbb BK516 hb; replace BK524 := xbb BK524 hb; replace HB := xbs hb
              (try clear hb); (try clear hb2); (try clear hk); (try clear hi)
              refine hK.out _ _ ⟨xc BK516 0 rfl, xc BK516 1 rfl, xc BK516 2 rfl, xc BK516 3 rfl, xc BK516 4 rfl⟩ (fun hHeld => ?_)
              clear hK K
              refine norm_ (a' := ?_) ?_ ?_
              rotate_left
              ·show Act.put _ (some 94) _ = _
               simp only [Act.put, List.setIfInBounds_toArray, List.set_cons_zero, List.set_cons_succ, i64_w, i32_w]
               rfl
              refine pv_ 4 95 (h := ?_)
              refine pv_ 5 96 (h := ?_)
              refine pv_ 6 97 (h := ?_)
              refine pv_ 7 98 (h := ?_)
              refine pv_ 8 99 (h := ?_)
              refine pv_ 9 100 (h := ?_)
              refine pv_ 10 101 (h := ?_)
              refine pv_ 11 102 (h := ?_)
              refine pv_ 12 103 (h := ?_)
              refine pv_ 13 104 (h := ?_)
              refine pv_ 14 105 (h := ?_)
              refine pv_ 15 106 (h := ?_)
              refine pu_ 16 107 (h := ?_)
              refine pu_ 17 108 (h := ?_)
              refine pu_ 18 109 (h := ?_)
              refine pu_ 19 110 (h := ?_)
              refine pu_ 20 111 (h := ?_)
              refine pu_ 21 112 (h := ?_)
              refine pu_ 22 113 (h := ?_)
              refine pu_ 23 114 (h := ?_)
              refine pv_ 24 115 (h := ?_)
              refine pv_ 25 2 (h := ?_)
              refine done_ (done_of HT_.out (by kernel_rfl)) ?_
              try go_wp2
              go_ret
              exact ⟨by first | rfl | (simp [errW_none, errW_some] <;> rfl) | (simp [*, errW_none, errW_some] <;> rfl), xbg⟩
            ·rw [if_neg c94] at H
             have c94b0 : decide (0 ≤ t506) = false := decide_eq_false c94; clear c94
             obtain rfl := Option.some.inj H
             have hnb115 := NB516_485.out; have hnc115 := NB485_516.out; have hnb116 := NB516_524.out; have hnc116 := NB524_516.out; have hcz117_0 : wc.cell? ⟨gb516, 0, none⟩ = some (.int .i64 t509) := xc BK516 0 rfl; have hcz117_1 : wc.cell? ⟨gb516, 1, none⟩ = some (.int .i64 t510) := xc BK516 1 rfl; have hcz117_2 : wc.cell? ⟨gb516, 2, none⟩ = some (.int .i64 t511) := xc BK516 2 rfl; have hcz117_3 : wc.cell? ⟨gb516, 3, none⟩ = some (.int .i64 t512) := xc BK516 3 rfl; have hcz117_4 : wc.cell? ⟨gb516, 4, none⟩ = some (.string t513) := xc BK516 4 rfl; have hfz117_0 := blk_frozen BK516.out 0; have hfz117_1 := blk_frozen BK516.out 1; have hfz117_2 := blk_frozen BK516.out 2; have hfz117_3 := blk_frozen BK516.out 3; have hfz117_4 := blk_frozen BK516.out 4
             try go_wp2_with (first | ((with_reducible refine gate_callee (f := 23) rfl ?_); refine goesL_ (some 88) rfl rfl Try.func23 (by kernel_rfl) rfl #[.agg #[.int .i64 t509, .int .i64 t510, .int .i64 t511, .int .i64 t512, .string t513]] rfl (by (try simp only [List.map_toArray, List.map_cons, List.map_nil]); first | done | rfl | (simp only [List.length_drop, List.length_take]; rfl)) ?_; (with_reducible refine (impl_CmdPack.calls kj73 t509 t510 t511 t512 t513 t525 true _ A90.out).mono ?_); rintro e w118 ⟨v526, rfl, ho0, hb⟩; refine ⟨_, rfl, ?_⟩; have HO527 := aM (Kd.R_lower (Kd.R_new' ho0 (Kd.R_lt (xr HO_9))) (below_size xbg)); replace HO_9 := aM (Kd.R_elder' (xr HO_9) (Kd.R_base ho0) hb); replace BK485 := xbb BK485 hb; replace BK516 := xbb BK516 hb; replace BK524 := xbb BK524 hb; replace HB := xbs hb; (try clear hb); (try clear hb2); (try clear hk); (try clear hi); (try clear ho0)))
             replace HO_9 := aM (Kd.R_drew HO_9.out); replace HO527 := aM (Kd.R_drew HO527.out); replace BK485 := aM (blk_drew BK485.out); replace BK516 := aM (blk_drew BK516.out); replace BK524 := aM (blk_drew BK524.out); replace HB := aM (below_drew1 HB.out)
             refine start_ (n := 26) (S := fun w' => w'.cell? ⟨gb516, 0, none⟩ = some (.int .i64 t509) ∧ w'.cell? ⟨gb516, 1, none⟩ = some (.int .i64 t510) ∧ w'.cell? ⟨gb516, 2, none⟩ = some (.int .i64 t511) ∧ w'.cell? ⟨gb516, 3, none⟩ = some (.int .i64 t512) ∧ w'.cell? ⟨gb516, 4, none⟩ = some (.string t513)) (ds := []) #[false, false, false, false, false, false, false, false, false, false, false, false, false, false, false, false, false, false, false, false, false, false, false, false, false, false] (by kernel_rfl) rfl rfl ⟨xc BK516 0 rfl, xc BK516 1 rfl, xc BK516 2 rfl, xc BK516 3 rfl, xc BK516 4 rfl⟩ (fun hHeld => ?_); refine with_tabW laws_FnCmd.tab19 laws_FnCmd.bits19 (fun HT_ HW_ => ?_)
             generalize w118.drew = w119 at HO_9 HO527 BK485 BK516 BK524 HB hHeld ⊢
             refine pv_ 0 91 (h := ?_)
             refine pv_ 1 92 (h := ?_)
             refine tk_ 2 93 (h := ?_)
             refine on_ 3 94 (h := fun K hK => ?_)
             refine goesY Try.func28 #[.agg #[.int .i64 t509, .int .i64 t510, .int .i64 t511, .int .i64 t512, .string t513]] ?_
             with_reducible refine (impl_CmdOk.calls kj73 t509 t510 t511 t512 t513 true _ A92.out).mono ?_
             rintro e w120 ⟨rfl, hb⟩
             refine ⟨_, rfl, ?_⟩
             replace HO_9 := aM (Kd.R_below (xr HO_9) hb); replace HO527 := aM (Kd.R_below (xr HO527) hb); replace BK485 := xbb BK485 hb; replace BK516 := xbb BK516 hb; replace BK524 := xbb BK524 hb; replace HB := xbs hb
             (try clear hb); (try clear hb2); (try clear hk); (try clear hi)
             refine hK.out _ _ ⟨xc BK516 0 rfl, xc BK516 1 rfl, xc BK516 2 rfl, xc BK516 3 rfl, xc BK516 4 rfl⟩ (fun hHeld => ?_)
             clear hK K
             refine norm_ (a' := ?_) ?_ ?_
             rotate_left
             ·show Act.put _ (some 94) _ = _
              simp only [Act.put, List.setIfInBounds_toArray, List.set_cons_zero, List.set_cons_succ, i64_w, i32_w]
              rfl
             refine pv_ 4 95 (h := ?_)
             refine pv_ 5 96 (h := ?_)
             refine pv_ 6 97 (h := ?_)
             refine pv_ 7 98 (h := ?_)
             refine pv_ 8 99 (h := ?_)
             refine pv_ 9 100 (h := ?_)
             refine pu_ 10 101 (h := ?_)
             refine pu_ 11 102 (h := ?_)
             refine pu_ 12 103 (h := ?_)
             refine pu_ 13 104 (h := ?_)
             refine pv_ 14 105 (h := ?_)
             refine pv_ 15 106 (h := ?_)
             refine pu_ 16 107 (h := ?_)
             refine pu_ 17 108 (h := ?_)
             refine pu_ 18 109 (h := ?_)
             refine pu_ 19 110 (h := ?_)
             refine pu_ 20 111 (h := ?_)
             refine pu_ 21 112 (h := ?_)
             refine pu_ 22 113 (h := ?_)
             refine pu_ 23 114 (h := ?_)
             refine pv_ 24 115 (h := ?_)
             refine pv_ 25 2 (h := ?_)
             refine done_ (done_of HT_.out (by kernel_rfl)) ?_
             try go_wp2
             go_ret
             exact ⟨by first | rfl | (simp [errW_none, errW_some] <;> rfl) | (simp [*, errW_none, errW_some] <;> rfl), xbg⟩
           ·replace c93 := Bool.eq_false_iff.mpr c93
            subst c93
            have H1 : (some false) = some r := by rw [if_neg (show ¬ (false = true) by decide)] at H; exact H
            clear H; have H := H1; clear H1
            obtain rfl := Option.some.inj H
            have hnb121 := NB516_485.out; have hnc121 := NB485_516.out; have hnb122 := NB516_524.out; have hnc122 := NB524_516.out; have hcz123_0 : wc.cell? ⟨gb516, 0, none⟩ = some (.int .i64 t509) := xc BK516 0 rfl; have hcz123_1 : wc.cell? ⟨gb516, 1, none⟩ = some (.int .i64 t510) := xc BK516 1 rfl; have hcz123_2 : wc.cell? ⟨gb516, 2, none⟩ = some (.int .i64 t511) := xc BK516 2 rfl; have hcz123_3 : wc.cell? ⟨gb516, 3, none⟩ = some (.int .i64 t512) := xc BK516 3 rfl; have hcz123_4 : wc.cell? ⟨gb516, 4, none⟩ = some (.string t513) := xc BK516 4 rfl; have hfz123_0 := blk_frozen BK516.out 0; have hfz123_1 := blk_frozen BK516.out 1; have hfz123_2 := blk_frozen BK516.out 2; have hfz123_3 := blk_frozen BK516.out 3; have hfz123_4 := blk_frozen BK516.out 4
            try go_wp2_with (first | ((with_reducible refine gate_callee (f := 23) rfl ?_); refine goesL_ (some 88) rfl rfl Try.func23 (by kernel_rfl) rfl #[.agg #[.int .i64 t509, .int .i64 t510, .int .i64 t511, .int .i64 t512, .string t513]] rfl (by (try simp only [List.map_toArray, List.map_cons, List.map_nil]); first | done | rfl | (simp only [List.length_drop, List.length_take]; rfl)) ?_; (with_reducible refine (impl_CmdPack.calls kj73 t509 t510 t511 t512 t513 t525 true _ A90.out).mono ?_); rintro e w124 ⟨v526, rfl, ho0, hb⟩; refine ⟨_, rfl, ?_⟩; have HO527 := aM (Kd.R_lower (Kd.R_new' ho0 (Kd.R_lt (xr HO_9))) (below_size xbg)); replace HO_9 := aM (Kd.R_elder' (xr HO_9) (Kd.R_base ho0) hb); replace BK485 := xbb BK485 hb; replace BK516 := xbb BK516 hb; replace BK524 := xbb BK524 hb; replace HB := xbs hb; (try clear hb); (try clear hb2); (try clear hk); (try clear hi); (try clear ho0)))
            replace HO_9 := aM (Kd.R_drew HO_9.out); replace HO527 := aM (Kd.R_drew HO527.out); replace BK485 := aM (blk_drew BK485.out); replace BK516 := aM (blk_drew BK516.out); replace BK524 := aM (blk_drew BK524.out); replace HB := aM (below_drew1 HB.out)
            refine start_ (n := 26) (S := fun w' => w'.cell? ⟨gb516, 0, none⟩ = some (.int .i64 t509) ∧ w'.cell? ⟨gb516, 1, none⟩ = some (.int .i64 t510) ∧ w'.cell? ⟨gb516, 2, none⟩ = some (.int .i64 t511) ∧ w'.cell? ⟨gb516, 3, none⟩ = some (.int .i64 t512) ∧ w'.cell? ⟨gb516, 4, none⟩ = some (.string t513)) (ds := []) #[false, false, false, false, false, false, false, false, false, false, false, false, false, false, false, false, false, false, false, false, false, false, false, false, false, false] (by kernel_rfl) rfl rfl ⟨xc BK516 0 rfl, xc BK516 1 rfl, xc BK516 2 rfl, xc BK516 3 rfl, xc BK516 4 rfl⟩ (fun hHeld => ?_); refine with_tabW laws_FnCmd.tab19 laws_FnCmd.bits19 (fun HT_ HW_ => ?_)
            generalize w124.drew = w125 at HO_9 HO527 BK485 BK516 BK524 HB hHeld ⊢
            refine pv_ 0 91 (h := ?_)
            refine pv_ 1 92 (h := ?_)
            refine tk_ 2 93 (h := ?_)
            refine on_ 3 94 (h := fun K hK => ?_)
            refine goesY Try.func28 #[.agg #[.int .i64 t509, .int .i64 t510, .int .i64 t511, .int .i64 t512, .string t513]] ?_
            with_reducible refine (impl_CmdOk.calls kj73 t509 t510 t511 t512 t513 false _ A92.out).mono ?_
            rintro e w126 ⟨rfl, hb⟩
            refine ⟨_, rfl, ?_⟩
            replace HO_9 := aM (Kd.R_below (xr HO_9) hb); replace HO527 := aM (Kd.R_below (xr HO527) hb); replace BK485 := xbb BK485 hb; replace BK516 := xbb BK516 hb; replace BK524 := xbb BK524 hb; replace HB := xbs hb
            (try clear hb); (try clear hb2); (try clear hk); (try clear hi)
            refine hK.out _ _ ⟨xc BK516 0 rfl, xc BK516 1 rfl, xc BK516 2 rfl, xc BK516 3 rfl, xc BK516 4 rfl⟩ (fun hHeld => ?_)
            clear hK K
            refine norm_ (a' := ?_) ?_ ?_
            rotate_left
            ·show Act.put _ (some 94) _ = _
             simp only [Act.put, List.setIfInBounds_toArray, List.set_cons_zero, List.set_cons_succ, i64_w, i32_w]
             rfl
            refine pv_ 4 95 (h := ?_)
            refine pv_ 5 96 (h := ?_)
            refine pu_ 6 97 (h := ?_)
            refine pu_ 7 98 (h := ?_)
            refine pv_ 8 99 (h := ?_)
            refine pv_ 9 100 (h := ?_)
            refine pu_ 10 101 (h := ?_)
            refine pu_ 11 102 (h := ?_)
            refine pu_ 12 103 (h := ?_)
            refine pu_ 13 104 (h := ?_)
            refine pv_ 14 105 (h := ?_)
            refine pv_ 15 106 (h := ?_)
            refine pu_ 16 107 (h := ?_)
            refine pu_ 17 108 (h := ?_)
            refine pu_ 18 109 (h := ?_)
            refine pu_ 19 110 (h := ?_)
            refine pu_ 20 111 (h := ?_)
            refine pu_ 21 112 (h := ?_)
            refine pu_ 22 113 (h := ?_)
            refine pu_ 23 114 (h := ?_)
            refine pv_ 24 115 (h := ?_)
            refine pv_ 25 2 (h := ?_)
            refine done_ (done_of HT_.out (by kernel_rfl)) ?_
            try go_wp2
            go_ret
            exact ⟨by first | rfl | (simp [errW_none, errW_some] <;> rfl) | (simp [*, errW_none, errW_some] <;> rfl), xbg⟩
          ·replace c91 := Bool.eq_false_iff.mpr c91
           subst c91
           have H1 : (some false) = some r := by rw [if_neg (show ¬ (false = true) by decide)] at H; exact H
           clear H; have H := H1; clear H1
           obtain rfl := Option.some.inj H
           have hnb127 := NB516_485.out; have hnc127 := NB485_516.out; have hnb128 := NB516_524.out; have hnc128 := NB524_516.out; have hcz129_0 : wc.cell? ⟨gb516, 0, none⟩ = some (.int .i64 t509) := xc BK516 0 rfl; have hcz129_1 : wc.cell? ⟨gb516, 1, none⟩ = some (.int .i64 t510) := xc BK516 1 rfl; have hcz129_2 : wc.cell? ⟨gb516, 2, none⟩ = some (.int .i64 t511) := xc BK516 2 rfl; have hcz129_3 : wc.cell? ⟨gb516, 3, none⟩ = some (.int .i64 t512) := xc BK516 3 rfl; have hcz129_4 : wc.cell? ⟨gb516, 4, none⟩ = some (.string t513) := xc BK516 4 rfl; have hfz129_0 := blk_frozen BK516.out 0; have hfz129_1 := blk_frozen BK516.out 1; have hfz129_2 := blk_frozen BK516.out 2; have hfz129_3 := blk_frozen BK516.out 3; have hfz129_4 := blk_frozen BK516.out 4
           try go_wp2_with (first | ((with_reducible refine gate_callee (f := 23) rfl ?_); refine goesL_ (some 88) rfl rfl Try.func23 (by kernel_rfl) rfl #[.agg #[.int .i64 t509, .int .i64 t510, .int .i64 t511, .int .i64 t512, .string t513]] rfl (by (try simp only [List.map_toArray, List.map_cons, List.map_nil]); first | done | rfl | (simp only [List.length_drop, List.length_take]; rfl)) ?_; (with_reducible refine (impl_CmdPack.calls kj73 t509 t510 t511 t512 t513 t525 false _ A90.out).mono ?_); rintro e w130 ⟨v526, rfl, ho0, hb⟩; refine ⟨_, rfl, ?_⟩; have HO527 := aM (Kd.R_lower (Kd.R_new' ho0 (Kd.R_lt (xr HO_9))) (below_size xbg)); replace HO_9 := aM (Kd.R_elder' (xr HO_9) (Kd.R_base ho0) hb); replace BK485 := xbb BK485 hb; replace BK516 := xbb BK516 hb; replace BK524 := xbb BK524 hb; replace HB := xbs hb; (try clear hb); (try clear hb2); (try clear hk); (try clear hi); (try clear ho0)))
           replace HO_9 := aM (Kd.R_drew HO_9.out); replace HO527 := aM (Kd.R_drew HO527.out); replace BK485 := aM (blk_drew BK485.out); replace BK516 := aM (blk_drew BK516.out); replace BK524 := aM (blk_drew BK524.out); replace HB := aM (below_drew1 HB.out)
           refine start_ (n := 26) (S := fun w' => True) (ds := []) #[false, false, false, false, false, false, false, false, false, false, false, false, false, false, false, false, false, false, false, false, false, false, false, false, false, false] (by kernel_rfl) rfl rfl trivial (fun hHeld => ?_); refine with_tabW laws_FnCmd.tab19 laws_FnCmd.bits19 (fun HT_ HW_ => ?_)
           generalize w130.drew = w131 at HO_9 HO527 BK485 BK516 BK524 HB hHeld ⊢
           refine pv_ 0 91 (h := ?_)
           refine pv_ 1 92 (h := ?_)
           refine pu_ 2 93 (h := ?_)
           refine pu_ 3 94 (h := ?_)
           refine pv_ 4 95 (h := ?_)
           refine pv_ 5 96 (h := ?_)
           refine pu_ 6 97 (h := ?_)
           refine pu_ 7 98 (h := ?_)
           refine pv_ 8 99 (h := ?_)
           refine pv_ 9 100 (h := ?_)
           refine pu_ 10 101 (h := ?_)
           refine pu_ 11 102 (h := ?_)
           refine pu_ 12 103 (h := ?_)
           refine pu_ 13 104 (h := ?_)
           refine pv_ 14 105 (h := ?_)
           refine pv_ 15 106 (h := ?_)
           refine pu_ 16 107 (h := ?_)
           refine pu_ 17 108 (h := ?_)
           refine pu_ 18 109 (h := ?_)
           refine pu_ 19 110 (h := ?_)
           refine pu_ 20 111 (h := ?_)
           refine pu_ 21 112 (h := ?_)
           refine pu_ 22 113 (h := ?_)
           refine pu_ 23 114 (h := ?_)
           refine pv_ 24 115 (h := ?_)
           refine pv_ 25 2 (h := ?_)
           refine done_ (done_of HT_.out (by kernel_rfl)) ?_
           try go_wp2
           go_ret
           exact ⟨by first | rfl | (simp [errW_none, errW_some] <;> rfl) | (simp [*, errW_none, errW_some] <;> rfl), xbg⟩
         ·replace c89 := Bool.eq_false_iff.mpr c89
          subst c89
          have H1 : (if (t509 == 0 && (t510 == 0 && (t511 == 0 && (t512 == 0 && (t513.toList == ([] : List UInt8)))))) = true then (some (t514 == 0)) else (some false)) = some r := by rw [if_neg (show ¬ (false = true) by decide)] at H; exact H
          clear H; have H := H1; clear H1
          by_cases c132 : (t509 == 0 && (t510 == 0 && (t511 == 0 && (t512 == 0 && (t513.toList == ([] : List UInt8)))))) = true
          ·rw [if_pos c132] at H
           have c132b0 : (t509 == 0 && (t510 == 0 && (t511 == 0 && (t512 == 0 && (t513.toList == ([] : List UInt8)))))) = true := c132
           (try (have c132b1 : decide (t509 = 0 && (t510 == 0 && (t511 == 0 && (t512 == 0 && (t513.toList == ([] : List UInt8)))))) = true := by simpa using c132))
           (try (have c132b2 : (t509 == 0 && (t510 == 0 && (t511 == 0 && (t512 == 0 && (t513.toList == ([] : List UInt8)))))) = true := by simpa using c132))
           clear c132
           obtain rfl := Option.some.inj H
           have hnb133 := NB516_485.out; have hnc133 := NB485_516.out; have hnb134 := NB516_524.out; have hnc134 := NB524_516.out; have hcz135_0 : wc.cell? ⟨gb516, 0, none⟩ = some (.int .i64 t509) := xc BK516 0 rfl; have hcz135_1 : wc.cell? ⟨gb516, 1, none⟩ = some (.int .i64 t510) := xc BK516 1 rfl; have hcz135_2 : wc.cell? ⟨gb516, 2, none⟩ = some (.int .i64 t511) := xc BK516 2 rfl; have hcz135_3 : wc.cell? ⟨gb516, 3, none⟩ = some (.int .i64 t512) := xc BK516 3 rfl; have hcz135_4 : wc.cell? ⟨gb516, 4, none⟩ = some (.string t513) := xc BK516 4 rfl; have hfz135_0 := blk_frozen BK516.out 0; have hfz135_1 := blk_frozen BK516.out 1; have hfz135_2 := blk_frozen BK516.out 2; have hfz135_3 := blk_frozen BK516.out 3; have hfz135_4 := blk_frozen BK516.out 4
           go_wp2
           all_goals first | (exfalso; rename_i h_; first | exact Bool.noConfusion (h_.symm.trans c132b0) | exact absurd c132b0 (by simpa using h_) | exact absurd h_ (by simpa using c132b0)) | skip
           go_ret
           exact ⟨by first | rfl | (simp [errW_none, errW_some] <;> rfl) | (simp [*, errW_none, errW_some] <;> rfl), xbg⟩
          ·rw [if_neg c132] at H
           have c132b0 : (t509 == 0 && (t510 == 0 && (t511 == 0 && (t512 == 0 && (t513.toList == ([] : List UInt8)))))) = false := by simpa using c132
           (try (have c132b1 : decide (t509 = 0 && (t510 == 0 && (t511 == 0 && (t512 == 0 && (t513.toList == ([] : List UInt8)))))) = false := by simpa using c132))
           (try (have c132b2 : (t509 == 0 && (t510 == 0 && (t511 == 0 && (t512 == 0 && (t513.toList == ([] : List UInt8)))))) = false := by simpa using c132))
           (try (have c132b3 : ¬ (t509 = 0 && (t510 == 0 && (t511 == 0 && (t512 == 0 && (t513.toList == ([] : List UInt8)))))) := by simpa using c132))
           clear c132
           obtain rfl := Option.some.inj H
           have hnb136 := NB516_485.out; have hnc136 := NB485_516.out; have hnb137 := NB516_524.out; have hnc137 := NB524_516.out; have hcz138_0 : wc.cell? ⟨gb516, 0, none⟩ = some (.int .i64 t509) := xc BK516 0 rfl; have hcz138_1 : wc.cell? ⟨gb516, 1, none⟩ = some (.int .i64 t510) := xc BK516 1 rfl; have hcz138_2 : wc.cell? ⟨gb516, 2, none⟩ = some (.int .i64 t511) := xc BK516 2 rfl; have hcz138_3 : wc.cell? ⟨gb516, 3, none⟩ = some (.int .i64 t512) := xc BK516 3 rfl; have hcz138_4 : wc.cell? ⟨gb516, 4, none⟩ = some (.string t513) := xc BK516 4 rfl; have hfz138_0 := blk_frozen BK516.out 0; have hfz138_1 := blk_frozen BK516.out 1; have hfz138_2 := blk_frozen BK516.out 2; have hfz138_3 := blk_frozen BK516.out 3; have hfz138_4 := blk_frozen BK516.out 4
           go_wp2
           all_goals first | (exfalso; rename_i h_; first | exact Bool.noConfusion (h_.symm.trans c132b0) | exact absurd c132b0 (by simpa using h_) | exact absurd h_ (by simpa using c132b0)) | skip
           go_ret
           exact ⟨by first | rfl | (simp [errW_none, errW_some] <;> rfl) | (simp [*, errW_none, errW_some] <;> rfl), xbg⟩

/-- THE ONE PURE STATEMENT of laws_FnCmd. -/
def laws_FnCmd.Pure : Prop := ∀ (l0 : List Int), l0.length ≤ maxLen → l0.length * 1 ≤ 140737488351232 → (∀ x ∈ l0, (Lit.int .u8 x).wf = true) → ∃ k, laws_FnCmd.f k l0 = some true
theorem laws_FnCmd.walk (P : laws_FnCmd.Pure) (A0 : Option Addr) (c0 : Nat) (l0 : List Int) (w : World) (hr0 : Kd.C (Kd.int .u8) w A0 l0.length l0) (hc0 : l0.length ≤ c0) (hm0 : l0.length ≤ maxLen) (hz0 : l0.length * 1 ≤ 140737488351232) (hw0 : ∀ x ∈ l0, (Lit.int .u8 x).wf = true) :
 Calls Try.prog 4 #[.slice A0 l0.length c0] w fun e w' => e = .returned (.bool true) ∧ Below w.heap.size w w' := by
 obtain ⟨k, h⟩ := P l0 hm0 hz0 hw0
 refine (laws_FnCmd.calls k A0 c0 l0 true w hr0 hc0 h).mono ?_
 rintro e w' ⟨rfl, hd⟩
 exact ⟨rfl, hd⟩

end Go.Proofs.Ytnjpfllmcmomoaa.QFnCmd
