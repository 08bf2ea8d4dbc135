-- A walk, by a program of this session.
import Derived.Test.YtnjpfllmcmomoaaQFnExactHardOfx0
import Derived.Test.YtnjpfllmcmomoaaQFnExactHardOfx6
import Derived.Test.YtnjpfllmcmomoaaQFnExactHardOfx9
import Derived.Test.YtnjpfllmcmomoaaQFnExactHardOfx10
import Derived.Test.YtnjpfllmcmomoaaQFnExactHardOfx11
namespace Go.Proofs.Ytnjpfllmcmomoaa.QFnExactHardOf
open Go.RowKit Go.Proofs.YtnjpfllmcmomoaaW.PrintWords Go.Proofs.YtnjpfllmcmomoaaW.PrintLast Go.Proofs.YtnjpfllmcmomoaaW.PrintMore
attribute [local go_sem] max2_int min2_int max_two min_two max_three min_three max_four min_four   -- for this text's walks alone
set_option linter.unusedVariables false
set_option linter.unusedSimpArgs false

/-! ### laws_FnExactHardOf: function 9 -/
mutual
def laws_FnExactHardOf.j0 : Nat → List (S56) → Int → List (S38) → Int → Bool → Int → Int → List (S36) → Int → Int → List (S36) → Option (Bool)
 | 0, _, _, _, _, _, _, _, _, _, _, _ => none
 | k + 1, x0, x5, x6, x8, x40, x358000, x358001, x358002, x368000, x368001, x368002 => if x40 = true then (some false) else ((laws_toRecS.f k x0).bind fun t369 => ((laws_eqRecS.f k x6 t369).bind fun t372 => (if t372 = true then ((laws_markRecS.f k x6 1).bind fun bt373 => (if bt373.1 < 0 then (laws_FnExactHardOf.j1 k x0 x5 true x358000 x358001 x358002 x368000 x368001 x368002) else ((laws_eqHard.f k x368000 x368001 x368002 x358000 x358001 x358002).bind fun t375 => (if t375 = true then (laws_FnExactHardOf.j1 k x0 x5 (x8 != x5) x358000 x358001 x358002 x368000 x368001 x368002) else (laws_FnExactHardOf.j1 k x0 x5 true x358000 x358001 x358002 x368000 x368001 x368002))))) else (some false))))
def laws_FnExactHardOf.j1 : Nat → List (S56) → Int → Bool → Int → Int → List (S36) → Int → Int → List (S36) → Option (Bool)
 | 0, _, _, _, _, _, _, _, _, _ => none
 | k + 1, x0, x5, x61, x358000, x358001, x358002, x368000, x368001, x368002 => if x61 = true then (some false) else ((laws_markHard.f k x368000 x368001 x368002 1).bind fun bt376 => ((laws_heldHard.f k x368000 x368001 bt376.2 1).bind fun t378 => (if t378 < 0 then (some false) else (if t378 = bt376.1 then ((laws_toRecS.f k x0).bind fun t379 => ((impl_HardOf.f k t379).bind fun bt382 => ((laws_eqHard.f k bt382.1 bt382.2.1 bt382.2.2.1 x358000 x358001 x358002).bind fun t389 => (if t389 = true then (laws_FnExactHardOf.j2 k bt376.1 (bt382.2.2.2 != x5) x368000 x368001 bt376.2) else (laws_FnExactHardOf.j2 k bt376.1 true x368000 x368001 bt376.2))))) else (some false)))))
def laws_FnExactHardOf.j2 : Nat → Int → Bool → Int → Int → List (S36) → Option (Bool)
 | 0, _, _, _, _, _ => none
 | k + 1, x10, x87, x368000, x368001, x368002 => if x87 = true then (some false) else ((laws_heldHard.f k x368000 x368001 x368002 1).bind fun t390 => (if t390 < 0 then (some false) else (if t390 = x10 then (some true) else (some false))))
end
def laws_FnExactHardOf.f (k : Nat) (l0 : List (S56)) : Option (Bool) := (laws_szRecS.f k l0 1048576).bind fun t347 => (if t347 < 0 then (some true) else ((laws_toRecS.f k l0).bind fun t348 => ((spec_HardOf.f k t348).bind fun bt351 => ((laws_toRecS.f k l0).bind fun t358 => ((impl_HardOf.f k t358).bind fun bt361 => ((laws_eqHard.f k bt361.1 bt361.2.1 bt361.2.2.1 bt351.1 bt351.2.1 bt351.2.2.1).bind fun t368 => (if t368 = true then (laws_FnExactHardOf.j0 k l0 bt351.2.2.2 t358 bt361.2.2.2 (bt361.2.2.2 != bt351.2.2.2) bt351.1 bt351.2.1 bt351.2.2.1 bt361.1 bt361.2.1 bt361.2.2.1) else (laws_FnExactHardOf.j0 k l0 bt351.2.2.2 t358 bt361.2.2.2 true bt351.1 bt351.2.1 bt351.2.2.1 bt361.1 bt361.2.1 bt361.2.2.1))))))))
set_option maxRecDepth 100000 in
theorem laws_FnExactHardOf.mono_l : ∀ k, (∀ y0 y1 y2 y3 y4 y5 y6 y7 y8 y9 y10, LeO (laws_FnExactHardOf.j0 k y0 y1 y2 y3 y4 y5 y6 y7 y8 y9 y10) (laws_FnExactHardOf.j0 (k + 1) y0 y1 y2 y3 y4 y5 y6 y7 y8 y9 y10)) ∧ (∀ y0 y1 y2 y3 y4 y5 y6 y7 y8, LeO (laws_FnExactHardOf.j1 k y0 y1 y2 y3 y4 y5 y6 y7 y8) (laws_FnExactHardOf.j1 (k + 1) y0 y1 y2 y3 y4 y5 y6 y7 y8)) ∧ (∀ y0 y1 y2 y3 y4, LeO (laws_FnExactHardOf.j2 k y0 y1 y2 y3 y4) (laws_FnExactHardOf.j2 (k + 1) y0 y1 y2 y3 y4))
 | 0 => ⟨fun _ _ _ _ _ _ _ _ _ _ _ r h => by simp [laws_FnExactHardOf.j0] at h, fun _ _ _ _ _ _ _ _ _ r h => by simp [laws_FnExactHardOf.j1] at h, fun _ _ _ _ _ r h => by simp [laws_FnExactHardOf.j2] at h⟩
 | k + 1 => by
  obtain ⟨ih0, ih1, ih2⟩ := laws_FnExactHardOf.mono_l k
  refine ⟨?_, ?_, ?_⟩
  ·intro y0 y1 y2 y3 y4 y5 y6 y7 y8 y9 y10
   unfold laws_FnExactHardOf.j0
   repeat' first
   | (with_reducible exact ih0 _ _ _ _ _ _ _ _ _ _ _)
   | (with_reducible exact ih1 _ _ _ _ _ _ _ _ _)
   | (with_reducible exact ih2 _ _ _ _ _)
   | (with_reducible exact impl_HardOf.mono _ _)
   | (with_reducible exact laws_eqHard.mono _ _ _ _ _ _ _)
   | (with_reducible exact laws_eqRecS.mono _ _ _)
   | (with_reducible exact laws_heldHard.mono _ _ _ _ _)
   | (with_reducible exact laws_markHard.mono _ _ _ _ _)
   | (with_reducible exact laws_markRecS.mono _ _ _)
   | (with_reducible exact laws_szRecS.mono _ _ _)
   | (with_reducible exact laws_toRecS.mono _ _)
   | (with_reducible exact spec_HardOf.mono _ _)
   | (with_reducible exact LeO.refl _)
   | (with_reducible exact LeO.none _)
   | (with_reducible refine LeO.ite ?_ ?_)
   | (with_reducible refine LeO.bind ?_ (fun _ => ?_))
   | exact ih0 _ _ _ _ _ _ _ _ _ _ _
   | exact ih1 _ _ _ _ _ _ _ _ _
   | exact ih2 _ _ _ _ _
   | exact impl_HardOf.mono _ _
   | exact laws_eqHard.mono _ _ _ _ _ _ _
   | exact laws_eqRecS.mono _ _ _
   | exact laws_heldHard.mono _ _ _ _ _
   | exact laws_markHard.mono _ _ _ _ _
   | exact laws_markRecS.mono _ _ _
   | exact laws_szRecS.mono _ _ _
   | exact laws_toRecS.mono _ _
   | exact spec_HardOf.mono _ _
   | exact LeO.none _
   | refine LeO.ite ?_ ?_
   | refine LeO.bind ?_ (fun _ => ?_)
  ·intro y0 y1 y2 y3 y4 y5 y6 y7 y8
   unfold laws_FnExactHardOf.j1
   repeat' first
   | (with_reducible exact ih0 _ _ _ _ _ _ _ _ _ _ _)
   | (with_reducible exact ih1 _ _ _ _ _ _ _ _ _)
   | (with_reducible exact ih2 _ _ _ _ _)
   | (with_reducible exact impl_HardOf.mono _ _)
   | (with_reducible exact laws_eqHard.mono _ _ _ _ _ _ _)
   | (with_reducible exact laws_eqRecS.mono _ _ _)
   | (with_reducible exact laws_heldHard.mono _ _ _ _ _)
   | (with_reducible exact laws_markHard.mono _ _ _ _ _)
   | (with_reducible exact laws_markRecS.mono _ _ _)
   | (with_reducible exact laws_szRecS.mono _ _ _)
   | (with_reducible exact laws_toRecS.mono _ _)
   | (with_reducible exact spec_HardOf.mono _ _)
   | (with_reducible exact LeO.refl _)
   | (with_reducible exact LeO.none _)
   | (with_reducible refine LeO.ite ?_ ?_)
   | (with_reducible refine LeO.bind ?_ (fun _ => ?_))
   | exact ih0 _ _ _ _ _ _ _ _ _ _ _
   | exact ih1 _ _ _ _ _ _ _ _ _
   | exact ih2 _ _ _ _ _
   | exact impl_HardOf.mono _ _
   | exact laws_eqHard.mono _ _ _ _ _ _ _
   | exact laws_eqRecS.mono _ _ _
   | exact laws_heldHard.mono _ _ _ _ _
   | exact laws_markHard.mono _ _ _ _ _
   | exact laws_markRecS.mono _ _ _
   | exact laws_szRecS.mono _ _ _
   | exact laws_toRecS.mono _ _
   | exact spec_HardOf.mono _ _
   | exact LeO.none _
   | refine LeO.ite ?_ ?_
   | refine LeO.bind ?_ (fun _ => ?_)
  ·intro y0 y1 y2 y3 y4
   unfold laws_FnExactHardOf.j2
   repeat' first
   | (with_reducible exact ih0 _ _ _ _ _ _ _ _ _ _ _)
   | (with_reducible exact ih1 _ _ _ _ _ _ _ _ _)
   | (with_reducible exact ih2 _ _ _ _ _)
   | (with_reducible exact impl_HardOf.mono _ _)
   | (with_reducible exact laws_eqHard.mono _ _ _ _ _ _ _)
   | (with_reducible exact laws_eqRecS.mono _ _ _)
   | (with_reducible exact laws_heldHard.mono _ _ _ _ _)
   | (with_reducible exact laws_markHard.mono _ _ _ _ _)
   | (with_reducible exact laws_markRecS.mono _ _ _)
   | (with_reducible exact laws_szRecS.mono _ _ _)
   | (with_reducible exact laws_toRecS.mono _ _)
   | (with_reducible exact spec_HardOf.mono _ _)
   | (with_reducible exact LeO.refl _)
   | (with_reducible exact LeO.none _)
   | (with_reducible refine LeO.ite ?_ ?_)
   | (with_reducible refine LeO.bind ?_ (fun _ => ?_))
   | exact ih0 _ _ _ _ _ _ _ _ _ _ _
   | exact ih1 _ _ _ _ _ _ _ _ _
   | exact ih2 _ _ _ _ _
   | exact impl_HardOf.mono _ _
   | exact laws_eqHard.mono _ _ _ _ _ _ _
   | exact laws_eqRecS.mono _ _ _
   | exact laws_heldHard.mono _ _ _ _ _
   | exact laws_markHard.mono _ _ _ _ _
   | exact laws_markRecS.mono _ _ _
   | exact laws_szRecS.mono _ _ _
   | exact laws_toRecS.mono _ _
   | exact spec_HardOf.mono _ _
   | exact LeO.none _
   | refine LeO.ite ?_ ?_
   | refine LeO.bind ?_ (fun _ => ?_)
theorem laws_FnExactHardOf.mono : ∀ a0 k, LeO (laws_FnExactHardOf.f k a0) (laws_FnExactHardOf.f (k + 1) a0) := by
 intro a0 k
 obtain ⟨ih0, ih1, ih2⟩ := laws_FnExactHardOf.mono_l k
 unfold laws_FnExactHardOf.f
 repeat' first
  | (with_reducible exact ih0 _ _ _ _ _ _ _ _ _ _ _)
  | (with_reducible exact ih1 _ _ _ _ _ _ _ _ _)
  | (with_reducible exact ih2 _ _ _ _ _)
  | (with_reducible exact impl_HardOf.mono _ _)
  | (with_reducible exact laws_eqHard.mono _ _ _ _ _ _ _)
  | (with_reducible exact laws_eqRecS.mono _ _ _)
  | (with_reducible exact laws_heldHard.mono _ _ _ _ _)
  | (with_reducible exact laws_markHard.mono _ _ _ _ _)
  | (with_reducible exact laws_markRecS.mono _ _ _)
  | (with_reducible exact laws_szRecS.mono _ _ _)
  | (with_reducible exact laws_toRecS.mono _ _)
  | (with_reducible exact spec_HardOf.mono _ _)
  | (with_reducible exact LeO.refl _)
  | (with_reducible exact LeO.none _)
  | (with_reducible refine LeO.ite ?_ ?_)
  | (with_reducible refine LeO.bind ?_ (fun _ => ?_))
  | exact ih0 _ _ _ _ _ _ _ _ _ _ _
  | exact ih1 _ _ _ _ _ _ _ _ _
  | exact ih2 _ _ _ _ _
  | exact impl_HardOf.mono _ _
  | exact laws_eqHard.mono _ _ _ _ _ _ _
  | exact laws_eqRecS.mono _ _ _
  | exact laws_heldHard.mono _ _ _ _ _
  | exact laws_markHard.mono _ _ _ _ _
  | exact laws_markRecS.mono _ _ _
  | exact laws_szRecS.mono _ _ _
  | exact laws_toRecS.mono _ _
  | exact spec_HardOf.mono _ _
  | exact LeO.none _
  | refine LeO.ite ?_ ?_
  | refine LeO.bind ?_ (fun _ => ?_)
set_option maxHeartbeats 8000000 in
set_option maxRecDepth 100000 in
theorem laws_FnExactHardOf.calls (k : Nat) (A0 : Option Addr) (c0 : Nat) (l0 : List (S56)) (r : Bool) (w : World) (hr0 : Kd.C k56 w A0 l0.length l0) (hc0 : l0.length ≤ c0) (h : laws_FnExactHardOf.f k l0 = some r) :
 Calls Try.prog 9 #[.slice A0 l0.length c0] w fun e w' => e = .returned (.bool r) ∧ Below w.heap.size w w' := by
 have hu28 := Try.underlying28
 have HR0 := aM hr0
 have HC0 := aM hc0
 clear hr0 hc0
 have HB := aM (Below.refl w.heap.size w)
 have H : ((laws_szRecS.f k l0 1048576).bind fun t347 => (if t347 < 0 then (some true) else ((laws_toRecS.f k l0).bind fun t348 => ((spec_HardOf.f k t348).bind fun bt351 => ((laws_toRecS.f k l0).bind fun t358 => ((impl_HardOf.f k t358).bind fun bt361 => ((laws_eqHard.f k bt361.1 bt361.2.1 bt361.2.2.1 bt351.1 bt351.2.1 bt351.2.2.1).bind fun t368 => (if t368 = true then (laws_FnExactHardOf.j0 k l0 bt351.2.2.2 t358 bt361.2.2.2 (bt361.2.2.2 != bt351.2.2.2) bt351.1 bt351.2.1 bt351.2.2.1 bt361.1 bt361.2.1 bt361.2.2.1) else (laws_FnExactHardOf.j0 k l0 bt351.2.2.2 t358 bt361.2.2.2 true bt351.1 bt351.2.1 bt351.2.2.1 bt361.1 bt361.2.1 bt361.2.2.1))))))))) = some r := h
 clear h
 replace H := Option.bind_eq_some_iff.mp H
 obtain ⟨t347, A20, H⟩ := H
 replace H : (if t347 < 0 then (some true) else ((laws_toRecS.f k l0).bind fun t348 => ((spec_HardOf.f k t348).bind fun bt351 => ((laws_toRecS.f k l0).bind fun t358 => ((impl_HardOf.f k t358).bind fun bt361 => ((laws_eqHard.f k bt361.1 bt361.2.1 bt361.2.2.1 bt351.1 bt351.2.1 bt351.2.2.1).bind fun t368 => (if t368 = true then (laws_FnExactHardOf.j0 k l0 bt351.2.2.2 t358 bt361.2.2.2 (bt361.2.2.2 != bt351.2.2.2) bt351.1 bt351.2.1 bt351.2.2.1 bt361.1 bt361.2.1 bt361.2.2.1) else (laws_FnExactHardOf.j0 k l0 bt351.2.2.2 t358 bt361.2.2.2 true bt351.1 bt351.2.1 bt351.2.2.1 bt361.1 bt361.2.1 bt361.2.2.1)))))))) = some r := H
 have A2 := aM A20
 clear A20
 by_cases c3 : t347 < 0
 ·rw [if_pos c3] at H
  have c3b0 : decide (t347 < 0) = true := decide_eq_true c3; clear c3
  obtain rfl := Option.some.inj H
  go_enter Try.func9, Try.ntmps9
  go_wp2_with (first | ((with_reducible refine gate_callee (f := 53) rfl ?_); refine goesL_ (some 16) rfl rfl Try.func53 (by kernel_rfl) rfl #[.slice A0 l0.length c0, .int .i64 1048576] rfl (by (try simp only [List.map_toArray, List.map_cons, List.map_nil]); first | done | rfl | (simp only [List.length_drop, List.length_take]; rfl)) ?_; (with_reducible refine (laws_szRecS.calls k _ _ l0 1048576 t347 _ ?side1 ?side2 A2.out).mono ?_); (case side1 => repeat (first | exact HR0.out | (with_reducible refine Kd.C_alloc ?_ _) | (with_reducible refine Kd.C_drewN ?_ _) | (with_reducible refine Kd.C_drew ?_))); (case side2 => exact HC0.out); rintro e w4 ⟨rfl, hb⟩; refine ⟨_, rfl, ?_⟩; replace HB := xbs hb; (try clear hb); (try clear hb2); (try clear hk); (try clear hi)))
  go_ret
  exact ⟨by first | rfl | (simp [errW_none, errW_some] <;> rfl) | (simp [*, errW_none, errW_some] <;> rfl), xbel⟩
 ·rw [if_neg c3] at H
  have c3b0 : decide (t347 < 0) = false := decide_eq_false c3; clear c3; replace H := Option.bind_eq_some_iff.mp H
  obtain ⟨t348, A50, H⟩ := H
  replace H : ((spec_HardOf.f k t348).bind fun bt351 => ((laws_toRecS.f k l0).bind fun t358 => ((impl_HardOf.f k t358).bind fun bt361 => ((laws_eqHard.f k bt361.1 bt361.2.1 bt361.2.2.1 bt351.1 bt351.2.1 bt351.2.2.1).bind fun t368 => (if t368 = true then (laws_FnExactHardOf.j0 k l0 bt351.2.2.2 t358 bt361.2.2.2 (bt361.2.2.2 != bt351.2.2.2) bt351.1 bt351.2.1 bt351.2.2.1 bt361.1 bt361.2.1 bt361.2.2.1) else (laws_FnExactHardOf.j0 k l0 bt351.2.2.2 t358 bt361.2.2.2 true bt351.1 bt351.2.1 bt351.2.2.1 bt361.1 bt361.2.1 bt361.2.2.1)))))) = some r := H; have A5 := aM A50; clear A50; replace H := Option.bind_eq_some_iff.mp H
  obtain ⟨⟨t351, t352, t353, t356⟩, A60, H⟩ := H
  replace H : ((laws_toRecS.f k l0).bind fun t358 => ((impl_HardOf.f k t358).bind fun bt361 => ((laws_eqHard.f k bt361.1 bt361.2.1 bt361.2.2.1 t351 t352 t353).bind fun t368 => (if t368 = true then (laws_FnExactHardOf.j0 k l0 t356 t358 bt361.2.2.2 (bt361.2.2.2 != t356) t351 t352 t353 bt361.1 bt361.2.1 bt361.2.2.1) else (laws_FnExactHardOf.j0 k l0 t356 t358 bt361.2.2.2 true t351 t352 t353 bt361.1 bt361.2.1 bt361.2.2.1))))) = some r := H; have A6 := aM A60; clear A60; replace H := Option.bind_eq_some_iff.mp H
  obtain ⟨t358, A70, H⟩ := H
  replace H : ((impl_HardOf.f k t358).bind fun bt361 => ((laws_eqHard.f k bt361.1 bt361.2.1 bt361.2.2.1 t351 t352 t353).bind fun t368 => (if t368 = true then (laws_FnExactHardOf.j0 k l0 t356 t358 bt361.2.2.2 (bt361.2.2.2 != t356) t351 t352 t353 bt361.1 bt361.2.1 bt361.2.2.1) else (laws_FnExactHardOf.j0 k l0 t356 t358 bt361.2.2.2 true t351 t352 t353 bt361.1 bt361.2.1 bt361.2.2.1)))) = some r := H; have A7 := aM A70; clear A70; replace H := Option.bind_eq_some_iff.mp H
  obtain ⟨⟨t361, t362, t363, t366⟩, A80, H⟩ := H
  replace H : ((laws_eqHard.f k t361 t362 t363 t351 t352 t353).bind fun t368 => (if t368 = true then (laws_FnExactHardOf.j0 k l0 t356 t358 t366 (t366 != t356) t351 t352 t353 t361 t362 t363) else (laws_FnExactHardOf.j0 k l0 t356 t358 t366 true t351 t352 t353 t361 t362 t363))) = some r := H; have A8 := aM A80; clear A80; have HC9 := aM H; clear H
  go_enter Try.func9, Try.ntmps9
  go_upto_region 8 with (first | ((with_reducible refine gate_callee (f := 53) rfl ?_); refine goesL_ (some 16) rfl rfl Try.func53 (by kernel_rfl) rfl #[.slice A0 l0.length c0, .int .i64 1048576] rfl (by (try simp only [List.map_toArray, List.map_cons, List.map_nil]); first | done | rfl | (simp only [List.length_drop, List.length_take]; rfl)) ?_; (with_reducible refine (laws_szRecS.calls k _ _ l0 1048576 t347 _ ?side1 ?side2 A2.out).mono ?_); (case side1 => repeat (first | exact HR0.out | (with_reducible refine Kd.C_alloc ?_ _) | (with_reducible refine Kd.C_drewN ?_ _) | (with_reducible refine Kd.C_drew ?_))); (case side2 => exact HC0.out); rintro e w10 ⟨rfl, hb⟩; refine ⟨_, rfl, ?_⟩; replace HB := xbs hb; (try clear hb); (try clear hb2); (try clear hk); (try clear hi)) | ((with_reducible refine gate_callee (f := 54) rfl ?_); refine goesL_ (some 21) rfl rfl Try.func54 (by kernel_rfl) rfl #[.slice A0 l0.length c0] rfl (by (try simp only [List.map_toArray, List.map_cons, List.map_nil]); first | done | rfl | (simp only [List.length_drop, List.length_take]; rfl)) ?_; (with_reducible refine (laws_toRecS.calls k _ _ l0 t348 _ ?side1 ?side2 A5.out).mono ?_); (case side1 => exact xcb HR0); (case side2 => exact HC0.out); rintro e w11 ⟨v349, rfl, ho0, hb⟩; refine ⟨_, rfl, ?_⟩; have HO350 := aM (Kd.R_lower ho0 (below_size xbel)); replace HB := xbs hb; (try clear hb); (try clear hb2); (try clear hk); (try clear hi); (try clear ho0); obtain ⟨Ao12, co12, eo12⟩ := Kd.R_slice HO350.out; subst eo12) | ((with_reducible refine gate_callee (f := 18) rfl ?_); refine goesL_ (some 22) rfl rfl Try.func18 (by kernel_rfl) rfl #[.slice Ao12 t348.length co12] rfl (by (try simp only [List.map_toArray, List.map_cons, List.map_nil]); first | done | rfl | (simp only [List.length_drop, List.length_take]; rfl)) ?_; (with_reducible refine (spec_HardOf.calls k _ _ t348 t351 t352 t353 t356 _ ?side1 ?side2 A6.out).mono ?_); (case side1 => repeat (first | exact (Kd.R_reads' HO350.out).2.2 | (with_reducible refine Kd.C_alloc ?_ _) | (with_reducible refine Kd.C_drewN ?_ _) | (with_reducible refine Kd.C_drew ?_))); (case side2 => exact (Kd.R_reads' HO350.out).2.1); rintro e w13 ⟨v354, rfl, ho0, hb⟩; refine ⟨_, rfl, ?_⟩; replace HO350 := aM (Kd.R_below (xr HO350) hb); have HO355 := aM (Kd.R_lower ho0 (below_size xbel)); replace HB := xbs hb; (try clear hb); (try clear hb2); (try clear hk); (try clear hi); (try clear ho0)) | ((with_reducible refine gate_dst (N := 4) rfl ?_); refine box_event ?hg (N := 4) ?hd (cs := #[.int .i64 0, .int .i64 0, .slice none 0 0]) (t := 28) ?hr ?_; (case hd => rfl); (case hg => rfl); (case hr => first | (go_simp; done) | (go_simp; rfl)); intro gb357 hg w14 hbox hb; replace HO350 := aM (Kd.R_below (xr HO350) hb); replace HO355 := aM (Kd.R_below (xr HO355) hb); have BK357 := aM (hbox); have GW357 := aM (xge hg); have GE357 := aM (xge hg); replace HB := xbs hb; clear hb hbox hg; obtain ⟨hcz15_0, hcz15_1, hcz15_2, hfz15_0, hfz15_1, hfz15_2⟩ := xf3 (w := w14) BK357; obtain ⟨Ao16, co16, eo16⟩ := Kd.R_slice HO355.out; subst eo16) | ((with_reducible refine gate_callee (f := 54) rfl ?_); refine goesL_ (some 26) rfl rfl Try.func54 (by kernel_rfl) rfl #[.slice A0 l0.length c0] rfl (by (try simp only [List.map_toArray, List.map_cons, List.map_nil]); first | done | rfl | (simp only [List.length_drop, List.length_take]; rfl)) ?_; (with_reducible refine (laws_toRecS.calls k _ _ l0 t358 _ ?side1 ?side2 A7.out).mono ?_); (case side1 => exact Kd.C_below HR0.out xbg); (case side2 => exact HC0.out); rintro e w17 ⟨v359, rfl, ho0, hb⟩; refine ⟨_, rfl, ?_⟩; replace HO355 := aM (Kd.R_below (xrt (Kd.R_mono (Kd.R_far (p := ⟨gb357, 2, none⟩) (Kd.R_far (p := ⟨gb357, 1, none⟩) (Kd.R_far (p := ⟨gb357, 0, none⟩) (Kd.R_types HO355.out BK357.out (by decide)) (fun _ hk => hk.2) (.int .i64 t351)) (fun _ hk => hk.2) (.int .i64 t352)) (fun _ hk => hk.2) (.slice Ao16 t353.length co16)) (fun _ h_ => h_.1))) hb); have HO360 := aM (Kd.R_lower (Kd.R_new' ho0 (Kd.R_lt (xrt (Kd.R_mono (Kd.R_far (p := ⟨gb357, 2, none⟩) (Kd.R_far (p := ⟨gb357, 1, none⟩) (Kd.R_far (p := ⟨gb357, 0, none⟩) (Kd.R_types HO350.out BK357.out (by decide)) (fun _ hk => hk.2) (.int .i64 t351)) (fun _ hk => hk.2) (.int .i64 t352)) (fun _ hk => hk.2) (.slice Ao16 t353.length co16)) (fun _ h_ => h_.1))))) (below_size xbg)); replace HO350 := aM (Kd.R_elder' (xrt (Kd.R_mono (Kd.R_far (p := ⟨gb357, 2, none⟩) (Kd.R_far (p := ⟨gb357, 1, none⟩) (Kd.R_far (p := ⟨gb357, 0, none⟩) (Kd.R_types HO350.out BK357.out (by decide)) (fun _ hk => hk.2) (.int .i64 t351)) (fun _ hk => hk.2) (.int .i64 t352)) (fun _ hk => hk.2) (.slice Ao16 t353.length co16)) (fun _ h_ => h_.1))) (Kd.R_base ho0) hb); replace BK357 := aM (blk_below (g := gb357) (o := .cells #[.int .i64 t351, .int .i64 t352, .slice Ao16 t353.length co16] 28 (0, 0)) (by (with_reducible repeat (first | refine blk_drewN ?_ _ | refine blk_drew ?_ | refine blk_alloc ?_ _)); refine blk_put (cs := #[.int .i64 t351, .int .i64 t352, .slice none 0 0]) ?_ 2 _ rfl; (with_reducible repeat (first | refine blk_drewN ?_ _ | refine blk_drew ?_ | refine blk_alloc ?_ _)); refine blk_put (cs := #[.int .i64 t351, .int .i64 0, .slice none 0 0]) ?_ 1 _ rfl; (with_reducible repeat (first | refine blk_drewN ?_ _ | refine blk_drew ?_ | refine blk_alloc ?_ _)); refine blk_put (cs := #[.int .i64 0, .int .i64 0, .slice none 0 0]) ?_ 0 _ rfl; (with_reducible repeat (first | refine blk_drewN ?_ _ | refine blk_drew ?_ | refine blk_alloc ?_ _)); exact BK357.out) hb); replace HB := xbs hb; (try clear hb); (try clear hb2); (try clear hk); (try clear hi); (try clear ho0); obtain ⟨Ao18, co18, eo18⟩ := Kd.R_slice HO360.out; subst eo18) | ((with_reducible refine gate_callee (f := 17) rfl ?_); refine goesL_ (some 29) rfl rfl Try.func17 (by kernel_rfl) rfl #[.slice Ao18 t358.length co18] rfl (by (try simp only [List.map_toArray, List.map_cons, List.map_nil]); first | done | rfl | (simp only [List.length_drop, List.length_take]; rfl)) ?_; (with_reducible refine (impl_HardOf.calls k _ _ t358 t361 t362 t363 t366 _ ?side1 ?side2 A8.out).mono ?_); (case side1 => repeat (first | exact (Kd.R_reads' HO360.out).2.2 | (with_reducible refine Kd.C_alloc ?_ _) | (with_reducible refine Kd.C_drewN ?_ _) | (with_reducible refine Kd.C_drew ?_))); (case side2 => exact (Kd.R_reads' HO360.out).2.1); rintro e w19 ⟨v364, rfl, ho0, hb⟩; refine ⟨_, rfl, ?_⟩; replace HO350 := aM (Kd.R_below (xr HO350) hb); replace HO360 := aM (Kd.R_below (xr HO360) hb); have HO365 := aM (Kd.R_lower (Kd.R_new' ho0 (Kd.R_lt (xr HO355))) (below_size xbg)); replace HO355 := aM (Kd.R_elder' (xr HO355) (Kd.R_base ho0) hb); replace BK357 := xbb BK357 hb; replace HB := xbs hb; (try clear hb); (try clear hb2); (try clear hk); (try clear hi); (try clear ho0)) | ((with_reducible refine gate_dst (N := 7) rfl ?_); refine box_event ?hg (N := 7) ?hd (cs := #[.int .i64 0, .int .i64 0, .slice none 0 0]) (t := 28) ?hr ?_; (case hd => rfl); (case hg => rfl); (case hr => first | (go_simp; done) | (go_simp; rfl)); intro gb367 hg w20 hbox hb; replace HO350 := aM (Kd.R_below (xr HO350) hb); replace HO355 := aM (Kd.R_below (xr HO355) hb); replace HO360 := aM (Kd.R_below (xr HO360) hb); replace HO365 := aM (Kd.R_below (xr HO365) hb); have GW367 := aM (xge hg); have GE367 := aM (xge hg); replace HB := xbs hb; have NB357_367 := aM ((by rw [hg]; exact Nat.ne_of_lt (blk_lt (g := gb357) (o := .cells #[.int .i64 t351, .int .i64 t352, .slice Ao16 t353.length co16] 28 (0, 0)) xblk) : gb357 ≠ gb367)); have NB367_357 := aM ((by rw [hg]; exact Nat.ne_of_gt (blk_lt (g := gb357) (o := .cells #[.int .i64 t351, .int .i64 t352, .slice Ao16 t353.length co16] 28 (0, 0)) xblk) : gb367 ≠ gb357)); replace BK357 := xbb BK357 hb; have BK367 := aM (hbox); clear hb hbox hg; have hnb21 := NB367_357.out; have hnc21 := NB357_367.out; obtain ⟨hcz22_0, hcz22_1, hcz22_2, hfz22_0, hfz22_1, hfz22_2⟩ := xf3 (w := w20) BK367; obtain ⟨Ao23, co23, eo23⟩ := Kd.R_slice HO365.out; subst eo23))
  (try simp only [Act.put, List.setIfInBounds_toArray, List.set_cons_zero, List.set_cons_succ])
  go_cut [40] (fun v40 wc => ∃ (kq : Nat) (x40_8 : Bool), v40 = .bool x40_8 ∧ Aside0 (laws_FnExactHardOf.j0 kq l0 t356 t358 t366 x40_8 t351 t352 t353 t361 t362 t363 = some r) ∧ Aside0 (kq ≤ k) ∧ Aside0 (Kd.R k38 38 wc w.heap.size (fun _ => True) (.slice Ao18 t358.length co18) t358) ∧ Aside0 (Kd.R k36 36 wc w.heap.size (fun k_ => some k_ ≠ ((.slice Ao23 t363.length co23) : Value).ownBlock) (.slice Ao16 t353.length co16) t353) ∧ Aside0 (Kd.R k36 36 wc w.heap.size (fun k_ => some k_ ≠ ((.slice Ao16 t353.length co16) : Value).ownBlock) (.slice Ao23 t363.length co23) t363) ∧ Aside0 (wc.heap[gb357]? = some (.cells #[.int .i64 t351, .int .i64 t352, (.slice Ao16 t353.length co16)] 28 (0, 0))) ∧ Aside0 (wc.heap[gb367]? = some (.cells #[.int .i64 t361, .int .i64 t362, (.slice Ao23 t363.length co23)] 28 (0, 0))) ∧ Aside0 (Below w.heap.size w wc))
  case first =>
   have H := HC9.out; clear HC9; replace H := Option.bind_eq_some_iff.mp H
   obtain ⟨t368, A240, H⟩ := H
   replace H : (if t368 = true then (laws_FnExactHardOf.j0 k l0 t356 t358 t366 (t366 != t356) t351 t352 t353 t361 t362 t363) else (laws_FnExactHardOf.j0 k l0 t356 t358 t366 true t351 t352 t353 t361 t362 t363)) = some r := H; have A24 := aM A240; clear A240
   by_cases c25 : t368 = true
   ·subst c25
    have H1 : (laws_FnExactHardOf.j0 k l0 t356 t358 t366 (t366 != t356) t351 t352 t353 t361 t362 t363) = some r := by rw [if_pos rfl] at H; exact H
    clear H; have H := H1; clear H1
    have H' := aM H
    clear H; have hnb26 := NB367_357.out; have hnc26 := NB357_367.out; obtain ⟨hcz27_0, hcz27_1, hcz27_2, hfz27_0, hfz27_1, hfz27_2⟩ := xf3 (w := w20) BK367; obtain ⟨hcz28_0, hcz28_1, hcz28_2, hfz28_0, hfz28_1, hfz28_2⟩ := xf3 (w := w20) BK357
    go_wp2_with (first | ((with_reducible refine gate_callee (f := 34) rfl ?_); refine goesL_ (some 34) rfl rfl Try.func34 (by kernel_rfl) rfl #[.agg #[.int .i64 t361, .int .i64 t362, .slice Ao23 t363.length co23], .agg #[.int .i64 t351, .int .i64 t352, .slice Ao16 t353.length co16]] rfl (by (try simp only [List.map_toArray, List.map_cons, List.map_nil]); first | done | rfl | (simp only [List.length_drop, List.length_take]; rfl)) ?_; (with_reducible refine (laws_eqHard.calls k t361 t362 _ _ t363 t351 t352 _ _ t353 true _ ?side1 ?side2 ?side3 ?side4 A24.out).mono ?_); (case side1 => refine (Kd.R_reads' (e := 36) (base := w.heap.size) (ok := fun k_ => (True ∧ some k_ ≠ (.slice Ao16 t353.length co16 : Value).ownBlock)) (n := t363.length) (c := co23) ?_).2.2; exact (xrt (Kd.R_mono (Kd.R_far (p := ⟨gb367, 2, none⟩) (Kd.R_far (p := ⟨gb367, 1, none⟩) (Kd.R_far (p := ⟨gb367, 0, none⟩) (Kd.R_types HO365.out BK367.out (by decide)) (fun _ hk => hk.2) (.int .i64 t361)) (fun _ hk => hk.2) (.int .i64 t362)) (fun _ hk => hk.2) (.slice Ao23 t363.length co23)) (fun _ h_ => h_.1)))); (case side2 => exact (Kd.R_reads' HO365.out).2.1); (case side3 => refine (Kd.R_reads' (e := 36) (base := w.heap.size) (ok := fun k_ => (True ∧ some k_ ≠ (.slice Ao23 t363.length co23 : Value).ownBlock)) (n := t353.length) (c := co16) ?_).2.2; exact (xrt (Kd.R_mono (Kd.R_far (p := ⟨gb367, 2, none⟩) (Kd.R_far (p := ⟨gb367, 1, none⟩) (Kd.R_far (p := ⟨gb367, 0, none⟩) (Kd.R_types HO355.out BK367.out (by decide)) (fun _ hk => hk.2) (.int .i64 t361)) (fun _ hk => hk.2) (.int .i64 t362)) (fun _ hk => hk.2) (.slice Ao23 t363.length co23)) (fun _ h_ => h_.1)))); (case side4 => exact (Kd.R_reads' HO355.out).2.1); rintro e w29 ⟨rfl, hb⟩; refine ⟨_, rfl, ?_⟩; replace HO350 := aM (Kd.R_below (xrt (Kd.R_mono (Kd.R_far (p := ⟨gb367, 2, none⟩) (Kd.R_far (p := ⟨gb367, 1, none⟩) (Kd.R_far (p := ⟨gb367, 0, none⟩) (Kd.R_types HO350.out BK367.out (by decide)) (fun _ hk => hk.2) (.int .i64 t361)) (fun _ hk => hk.2) (.int .i64 t362)) (fun _ hk => hk.2) (.slice Ao23 t363.length co23)) (fun _ h_ => h_.1))) hb); replace HO355 := aM (Kd.R_below (xrt (Kd.R_mono (Kd.R_far (p := ⟨gb367, 2, none⟩) (Kd.R_far (p := ⟨gb367, 1, none⟩) (Kd.R_far (p := ⟨gb367, 0, none⟩) (Kd.R_types HO355.out BK367.out (by decide)) (fun _ hk => hk.2) (.int .i64 t361)) (fun _ hk => hk.2) (.int .i64 t362)) (fun _ hk => hk.2) (.slice Ao23 t363.length co23)) (fun _ h_ => h_.1))) hb); replace HO360 := aM (Kd.R_below (xrt (Kd.R_mono (Kd.R_far (p := ⟨gb367, 2, none⟩) (Kd.R_far (p := ⟨gb367, 1, none⟩) (Kd.R_far (p := ⟨gb367, 0, none⟩) (Kd.R_types HO360.out BK367.out (by decide)) (fun _ hk => hk.2) (.int .i64 t361)) (fun _ hk => hk.2) (.int .i64 t362)) (fun _ hk => hk.2) (.slice Ao23 t363.length co23)) (fun _ h_ => h_.1))) hb); replace HO365 := aM (Kd.R_below (xrt (Kd.R_mono (Kd.R_far (p := ⟨gb367, 2, none⟩) (Kd.R_far (p := ⟨gb367, 1, none⟩) (Kd.R_far (p := ⟨gb367, 0, none⟩) (Kd.R_types HO365.out BK367.out (by decide)) (fun _ hk => hk.2) (.int .i64 t361)) (fun _ hk => hk.2) (.int .i64 t362)) (fun _ hk => hk.2) (.slice Ao23 t363.length co23)) (fun _ h_ => h_.1))) hb); replace BK357 := aM (blk_below (g := gb357) (o := .cells #[.int .i64 t351, .int .i64 t352, .slice Ao16 t353.length co16] 28 (0, 0)) (by (with_reducible repeat (first | refine blk_drewN ?_ _ | refine blk_drew ?_ | refine blk_alloc ?_ _)); refine blk_far ?_ NB357_367.out _; (with_reducible repeat (first | refine blk_drewN ?_ _ | refine blk_drew ?_ | refine blk_alloc ?_ _)); refine blk_far ?_ NB357_367.out _; (with_reducible repeat (first | refine blk_drewN ?_ _ | refine blk_drew ?_ | refine blk_alloc ?_ _)); refine blk_far ?_ NB357_367.out _; (with_reducible repeat (first | refine blk_drewN ?_ _ | refine blk_drew ?_ | refine blk_alloc ?_ _)); exact BK357.out) hb); replace BK367 := aM (blk_below (g := gb367) (o := .cells #[.int .i64 t361, .int .i64 t362, .slice Ao23 t363.length co23] 28 (0, 0)) (by (with_reducible repeat (first | refine blk_drewN ?_ _ | refine blk_drew ?_ | refine blk_alloc ?_ _)); refine blk_put (cs := #[.int .i64 t361, .int .i64 t362, .slice none 0 0]) ?_ 2 _ rfl; (with_reducible repeat (first | refine blk_drewN ?_ _ | refine blk_drew ?_ | refine blk_alloc ?_ _)); refine blk_put (cs := #[.int .i64 t361, .int .i64 0, .slice none 0 0]) ?_ 1 _ rfl; (with_reducible repeat (first | refine blk_drewN ?_ _ | refine blk_drew ?_ | refine blk_alloc ?_ _)); refine blk_put (cs := #[.int .i64 0, .int .i64 0, .slice none 0 0]) ?_ 0 _ rfl; (with_reducible repeat (first | refine blk_drewN ?_ _ | refine blk_drew ?_ | refine blk_alloc ?_ _)); exact BK367.out) hb); replace HB := xbs hb; (try clear hb); (try clear hb2); (try clear hk); (try clear hi)))
    go_meet
    case rel => exact ⟨_, ((t366 != t356)), (by first | rfl | (simp; done) | (simp [*]; done)), H', ⟨by first | omega | exact Nat.le_refl _⟩, ⟨by (with_reducible repeat (first | apply Kd.R_alloc | apply Kd.R_drewN | apply Kd.R_drew)); exact Kd.R_mono HO360.out (fun _ hk => trivial)⟩, ⟨by (with_reducible repeat (first | apply Kd.R_alloc | apply Kd.R_drewN | apply Kd.R_drew)); exact Kd.R_mono HO355.out (fun _ hk => hk.2)⟩, ⟨by (with_reducible repeat (first | apply Kd.R_alloc | apply Kd.R_drewN | apply Kd.R_drew)); exact Kd.R_mono HO365.out (fun _ hk => hk.2)⟩, ⟨xblk⟩, ⟨xblk⟩, ⟨xbg⟩⟩
   ·replace c25 := Bool.eq_false_iff.mpr c25
    subst c25
    have H1 : (laws_FnExactHardOf.j0 k l0 t356 t358 t366 true t351 t352 t353 t361 t362 t363) = some r := by rw [if_neg (show ¬ (false = true) by decide)] at H; exact H
    clear H; have H := H1; clear H1
    have H' := aM H
    clear H; have hnb30 := NB367_357.out; have hnc30 := NB357_367.out; obtain ⟨hcz31_0, hcz31_1, hcz31_2, hfz31_0, hfz31_1, hfz31_2⟩ := xf3 (w := w20) BK367; obtain ⟨hcz32_0, hcz32_1, hcz32_2, hfz32_0, hfz32_1, hfz32_2⟩ := xf3 (w := w20) BK357
    go_wp2_with (first | ((with_reducible refine gate_callee (f := 34) rfl ?_); refine goesL_ (some 34) rfl rfl Try.func34 (by kernel_rfl) rfl #[.agg #[.int .i64 t361, .int .i64 t362, .slice Ao23 t363.length co23], .agg #[.int .i64 t351, .int .i64 t352, .slice Ao16 t353.length co16]] rfl (by (try simp only [List.map_toArray, List.map_cons, List.map_nil]); first | done | rfl | (simp only [List.length_drop, List.length_take]; rfl)) ?_; (with_reducible refine (laws_eqHard.calls k t361 t362 _ _ t363 t351 t352 _ _ t353 false _ ?side1 ?side2 ?side3 ?side4 A24.out).mono ?_); (case side1 => refine (Kd.R_reads' (e := 36) (base := w.heap.size) (ok := fun k_ => (True ∧ some k_ ≠ (.slice Ao16 t353.length co16 : Value).ownBlock)) (n := t363.length) (c := co23) ?_).2.2; exact (xrt (Kd.R_mono (Kd.R_far (p := ⟨gb367, 2, none⟩) (Kd.R_far (p := ⟨gb367, 1, none⟩) (Kd.R_far (p := ⟨gb367, 0, none⟩) (Kd.R_types HO365.out BK367.out (by decide)) (fun _ hk => hk.2) (.int .i64 t361)) (fun _ hk => hk.2) (.int .i64 t362)) (fun _ hk => hk.2) (.slice Ao23 t363.length co23)) (fun _ h_ => h_.1)))); (case side2 => exact (Kd.R_reads' HO365.out).2.1); (case side3 => refine (Kd.R_reads' (e := 36) (base := w.heap.size) (ok := fun k_ => (True ∧ some k_ ≠ (.slice Ao23 t363.length co23 : Value).ownBlock)) (n := t353.length) (c := co16) ?_).2.2; exact (xrt (Kd.R_mono (Kd.R_far (p := ⟨gb367, 2, none⟩) (Kd.R_far (p := ⟨gb367, 1, none⟩) (Kd.R_far (p := ⟨gb367, 0, none⟩) (Kd.R_types HO355.out BK367.out (by decide)) (fun _ hk => hk.2) (.int .i64 t361)) (fun _ hk => hk.2) (.int .i64 t362)) (fun _ hk => hk.2) (.slice Ao23 t363.length co23)) (fun _ h_ => h_.1)))); (case side4 => exact (Kd.R_reads' HO355.out).2.1); rintro e w33 ⟨rfl, hb⟩; refine ⟨_, rfl, ?_⟩; replace HO350 := aM (Kd.R_below (xrt (Kd.R_mono (Kd.R_far (p := ⟨gb367, 2, none⟩) (Kd.R_far (p := ⟨gb367, 1, none⟩) (Kd.R_far (p := ⟨gb367, 0, none⟩) (Kd.R_types HO350.out BK367.out (by decide)) (fun _ hk => hk.2) (.int .i64 t361)) (fun _ hk => hk.2) (.int .i64 t362)) (fun _ hk => hk.2) (.slice Ao23 t363.length co23)) (fun _ h_ => h_.1))) hb); replace HO355 := aM (Kd.R_below (xrt (Kd.R_mono (Kd.R_far (p := ⟨gb367, 2, none⟩) (Kd.R_far (p := ⟨gb367, 1, none⟩) (Kd.R_far (p := ⟨gb367, 0, none⟩) (Kd.R_types HO355.out BK367.out (by decide)) (fun _ hk => hk.2) (.int .i64 t361)) (fun _ hk => hk.2) (.int .i64 t362)) (fun _ hk => hk.2) (.slice Ao23 t363.length co23)) (fun _ h_ => h_.1))) hb); replace HO360 := aM (Kd.R_below (xrt (Kd.R_mono (Kd.R_far (p := ⟨gb367, 2, none⟩) (Kd.R_far (p := ⟨gb367, 1, none⟩) (Kd.R_far (p := ⟨gb367, 0, none⟩) (Kd.R_types HO360.out BK367.out (by decide)) (fun _ hk => hk.2) (.int .i64 t361)) (fun _ hk => hk.2) (.int .i64 t362)) (fun _ hk => hk.2) (.slice Ao23 t363.length co23)) (fun _ h_ => h_.1))) hb); replace HO365 := aM (Kd.R_below (xrt (Kd.R_mono (Kd.R_far (p := ⟨gb367, 2, none⟩) (Kd.R_far (p := ⟨gb367, 1, none⟩) (Kd.R_far (p := ⟨gb367, 0, none⟩) (Kd.R_types HO365.out BK367.out (by decide)) (fun _ hk => hk.2) (.int .i64 t361)) (fun _ hk => hk.2) (.int .i64 t362)) (fun _ hk => hk.2) (.slice Ao23 t363.length co23)) (fun _ h_ => h_.1))) hb); replace BK357 := aM (blk_below (g := gb357) (o := .cells #[.int .i64 t351, .int .i64 t352, .slice Ao16 t353.length co16] 28 (0, 0)) (by (with_reducible repeat (first | refine blk_drewN ?_ _ | refine blk_drew ?_ | refine blk_alloc ?_ _)); refine blk_far ?_ NB357_367.out _; (with_reducible repeat (first | refine blk_drewN ?_ _ | refine blk_drew ?_ | refine blk_alloc ?_ _)); refine blk_far ?_ NB357_367.out _; (with_reducible repeat (first | refine blk_drewN ?_ _ | refine blk_drew ?_ | refine blk_alloc ?_ _)); refine blk_far ?_ NB357_367.out _; (with_reducible repeat (first | refine blk_drewN ?_ _ | refine blk_drew ?_ | refine blk_alloc ?_ _)); exact BK357.out) hb); replace BK367 := aM (blk_below (g := gb367) (o := .cells #[.int .i64 t361, .int .i64 t362, .slice Ao23 t363.length co23] 28 (0, 0)) (by (with_reducible repeat (first | refine blk_drewN ?_ _ | refine blk_drew ?_ | refine blk_alloc ?_ _)); refine blk_put (cs := #[.int .i64 t361, .int .i64 t362, .slice none 0 0]) ?_ 2 _ rfl; (with_reducible repeat (first | refine blk_drewN ?_ _ | refine blk_drew ?_ | refine blk_alloc ?_ _)); refine blk_put (cs := #[.int .i64 t361, .int .i64 0, .slice none 0 0]) ?_ 1 _ rfl; (with_reducible repeat (first | refine blk_drewN ?_ _ | refine blk_drew ?_ | refine blk_alloc ?_ _)); refine blk_put (cs := #[.int .i64 0, .int .i64 0, .slice none 0 0]) ?_ 0 _ rfl; (with_reducible repeat (first | refine blk_drewN ?_ _ | refine blk_drew ?_ | refine blk_alloc ?_ _)); exact BK367.out) hb); replace HB := xbs hb; (try clear hb); (try clear hb2); (try clear hk); (try clear hi)))
    go_meet
    case rel => exact ⟨_, (true), (by first | rfl | (simp; done) | (simp [*]; done)), H', ⟨by first | omega | exact Nat.le_refl _⟩, ⟨by (with_reducible repeat (first | apply Kd.R_alloc | apply Kd.R_drewN | apply Kd.R_drew)); exact Kd.R_mono HO360.out (fun _ hk => trivial)⟩, ⟨by (with_reducible repeat (first | apply Kd.R_alloc | apply Kd.R_drewN | apply Kd.R_drew)); exact Kd.R_mono HO355.out (fun _ hk => hk.2)⟩, ⟨by (with_reducible repeat (first | apply Kd.R_alloc | apply Kd.R_drewN | apply Kd.R_drew)); exact Kd.R_mono HO365.out (fun _ hk => hk.2)⟩, ⟨xblk⟩, ⟨xblk⟩, ⟨xbg⟩⟩
  case rest =>
   clear HC9
   try clear c1
   try clear c2
   try clear p2
   try clear c3
   try clear c3b0
   try clear c5
   try clear c9
   try clear c17
   try clear c18
   try clear c21
   try clear c25
   try clear c26
   try clear c30
   try clear hcz15_0
   try clear hcz15_1
   try clear hcz15_2
   try clear hcz22_0
   try clear hcz22_1
   try clear hcz22_2
   try clear hcz27_0
   try clear hcz27_1
   try clear hcz27_2
   try clear hcz28_0
   try clear hcz28_1
   try clear hcz28_2
   try clear hcz31_0
   try clear hcz31_1
   try clear hcz31_2
   try clear hcz32_0
   try clear hcz32_1
   try clear hcz32_2
   try clear hfz15_0
   try clear hfz15_1
   try clear hfz15_2
   try clear hfz22_0
   try clear hfz22_1
   try clear hfz22_2
   try clear hfz27_0
   try clear hfz27_1
   try clear hfz27_2
   try clear hfz28_0
   try clear hfz28_1
   try clear hfz28_2
   try clear hfz31_0
   try clear hfz31_1
   try clear hfz31_2
   try clear hfz32_0
   try clear hfz32_1
   try clear hfz32_2
   obtain ⟨kq, x40_8, rfl, HA, HJ8, HO_6, HO_358002, HO_368002, BK357, BK367, HB⟩ := hcut
   cases kq with
   | zero => exact absurd HA.out (by simp [laws_FnExactHardOf.j0])
   | succ kj8 =>
    have H := HA.out; clear HA
    simp only [laws_FnExactHardOf.j0] at H
    by_cases c34 : x40_8 = true
    ·subst c34
     have H1 : (some false) = some r := by rw [if_pos rfl] at H; exact H
     clear H; have H := H1; clear H1
     obtain rfl := Option.some.inj H
     go_wp2
     go_ret
     exact ⟨by first | rfl | (simp [errW_none, errW_some] <;> rfl) | (simp [*, errW_none, errW_some] <;> rfl), xbg⟩
    ·replace c34 := Bool.eq_false_iff.mpr c34
     subst c34
     have H1 : ((laws_toRecS.f kj8 l0).bind fun t369 => ((laws_eqRecS.f kj8 t358 t369).bind fun t372 => (if t372 = true then ((laws_markRecS.f kj8 t358 1).bind fun bt373 => (if bt373.1 < 0 then (laws_FnExactHardOf.j1 kj8 l0 t356 true t351 t352 t353 t361 t362 t363) else ((laws_eqHard.f kj8 t361 t362 t363 t351 t352 t353).bind fun t375 => (if t375 = true then (laws_FnExactHardOf.j1 kj8 l0 t356 (t366 != t356) t351 t352 t353 t361 t362 t363) else (laws_FnExactHardOf.j1 kj8 l0 t356 true t351 t352 t353 t361 t362 t363))))) else (some false)))) = some r := by rw [if_neg (show ¬ (false = true) by decide)] at H; exact H
     clear H; have H := H1; clear H1; replace H := Option.bind_eq_some_iff.mp H
     obtain ⟨t369, A350, H⟩ := H
     replace H : ((laws_eqRecS.f kj8 t358 t369).bind fun t372 => (if t372 = true then ((laws_markRecS.f kj8 t358 1).bind fun bt373 => (if bt373.1 < 0 then (laws_FnExactHardOf.j1 kj8 l0 t356 true t351 t352 t353 t361 t362 t363) else ((laws_eqHard.f kj8 t361 t362 t363 t351 t352 t353).bind fun t375 => (if t375 = true then (laws_FnExactHardOf.j1 kj8 l0 t356 (t366 != t356) t351 t352 t353 t361 t362 t363) else (laws_FnExactHardOf.j1 kj8 l0 t356 true t351 t352 t353 t361 t362 t363))))) else (some false))) = some r := H; have A35 := aM A350; clear A350; replace H := Option.bind_eq_some_iff.mp H
     obtain ⟨t372, A360, H⟩ := H
     replace H : (if t372 = true then ((laws_markRecS.f kj8 t358 1).bind fun bt373 => (if bt373.1 < 0 then (laws_FnExactHardOf.j1 kj8 l0 t356 true t351 t352 t353 t361 t362 t363) else ((laws_eqHard.f kj8 t361 t362 t363 t351 t352 t353).bind fun t375 => (if t375 = true then (laws_FnExactHardOf.j1 kj8 l0 t356 (t366 != t356) t351 t352 t353 t361 t362 t363) else (laws_FnExactHardOf.j1 kj8 l0 t356 true t351 t352 t353 t361 t362 t363))))) else (some false)) = some r := H; have A36 := aM A360; clear A360
     by_cases c37 : t372 = true
     ·subst c37
      have H1 : ((laws_markRecS.f kj8 t358 1).bind fun bt373 => (if bt373.1 < 0 then (laws_FnExactHardOf.j1 kj8 l0 t356 true t351 t352 t353 t361 t362 t363) else ((laws_eqHard.f kj8 t361 t362 t363 t351 t352 t353).bind fun t375 => (if t375 = true then (laws_FnExactHardOf.j1 kj8 l0 t356 (t366 != t356) t351 t352 t353 t361 t362 t363) else (laws_FnExactHardOf.j1 kj8 l0 t356 true t351 t352 t353 t361 t362 t363))))) = some r := by rw [if_pos rfl] at H; exact H
      clear H; have H := H1; clear H1; replace H := Option.bind_eq_some_iff.mp H
      obtain ⟨⟨t373, t374⟩, A380, H⟩ := H
      replace H : (if t373 < 0 then (laws_FnExactHardOf.j1 kj8 l0 t356 true t351 t352 t353 t361 t362 t363) else ((laws_eqHard.f kj8 t361 t362 t363 t351 t352 t353).bind fun t375 => (if t375 = true then (laws_FnExactHardOf.j1 kj8 l0 t356 (t366 != t356) t351 t352 t353 t361 t362 t363) else (laws_FnExactHardOf.j1 kj8 l0 t356 true t351 t352 t353 t361 t362 t363)))) = some r := H; have A38 := aM A380; clear A380; have HC39 := aM H; clear H
      go_upto_region 14 with (first | ((with_reducible refine gate_callee (f := 54) rfl ?_); refine goesL_ (some 43) rfl rfl Try.func54 (by kernel_rfl) rfl #[.slice A0 l0.length c0] rfl (by (try simp only [List.map_toArray, List.map_cons, List.map_nil]); first | done | rfl | (simp only [List.length_drop, List.length_take]; rfl)) ?_; (with_reducible refine (laws_toRecS.calls kj8 _ _ l0 t369 _ ?side1 ?side2 A35.out).mono ?_); (case side1 => exact xcb HR0); (case side2 => exact HC0.out); rintro e w40 ⟨v370, rfl, ho0, hb⟩; refine ⟨_, rfl, ?_⟩; replace HO_358002 := aM (Kd.R_below (xr HO_358002) hb); replace HO_368002 := aM (Kd.R_below (xr HO_368002) hb); have HO371 := aM (Kd.R_lower (Kd.R_new' ho0 (Kd.R_lt (xr HO_6))) (below_size xbg)); replace HO_6 := aM (Kd.R_elder' (xr HO_6) (Kd.R_base ho0) hb); replace BK357 := xbb BK357 hb; replace BK367 := xbb BK367 hb; replace HB := xbs hb; (try clear hb); (try clear hb2); (try clear hk); (try clear hi); (try clear ho0); obtain ⟨Ao41, co41, eo41⟩ := Kd.R_slice HO371.out; subst eo41) | ((with_reducible refine gate_callee (f := 55) rfl ?_); refine goesL_ (some 44) rfl rfl Try.func55 (by kernel_rfl) rfl #[.slice Ao18 t358.length co18, .slice Ao41 t369.length co41] rfl (by (try simp only [List.map_toArray, List.map_cons, List.map_nil]); first | done | rfl | (simp only [List.length_drop, List.length_take]; rfl)) ?_; (with_reducible refine (laws_eqRecS.calls kj8 _ _ t358 _ _ t369 true _ ?side1 ?side2 ?side3 ?side4 A36.out).mono ?_); (case side1 => repeat (first | exact (Kd.R_reads' HO_6.out).2.2 | (with_reducible refine Kd.C_alloc ?_ _) | (with_reducible refine Kd.C_drewN ?_ _) | (with_reducible refine Kd.C_drew ?_))); (case side2 => exact (Kd.R_reads' HO_6.out).2.1); (case side3 => repeat (first | exact (Kd.R_reads' HO371.out).2.2 | (with_reducible refine Kd.C_alloc ?_ _) | (with_reducible refine Kd.C_drewN ?_ _) | (with_reducible refine Kd.C_drew ?_))); (case side4 => exact (Kd.R_reads' HO371.out).2.1); rintro e w42 ⟨rfl, hb⟩; refine ⟨_, rfl, ?_⟩; replace HO_6 := aM (Kd.R_below (xr HO_6) hb); replace HO_358002 := aM (Kd.R_below (xr HO_358002) hb); replace HO_368002 := aM (Kd.R_below (xr HO_368002) hb); replace HO371 := aM (Kd.R_below (xr HO371) hb); replace BK357 := xbb BK357 hb; replace BK367 := xbb BK367 hb; replace HB := xbs hb; (try clear hb); (try clear hb2); (try clear hk); (try clear hi)) | ((with_reducible refine gate_callee (f := 56) rfl ?_); refine goesL_ (some 48) rfl rfl Try.func56 (by kernel_rfl) rfl #[.slice Ao18 t358.length co18, .int .i64 1] rfl (by (try simp only [List.map_toArray, List.map_cons, List.map_nil]); first | done | rfl | (simp only [List.length_drop, List.length_take]; rfl)) ?_; (with_reducible refine (laws_markRecS.calls kj8 (fun k_ => some k_ = (.slice Ao18 t358.length co18 : Value).ownBlock) (.slice Ao18 t358.length co18) t358 1 t373 t374 w _ ?side1 ?side2 A38.out).mono ?_); (case side1 => repeat (first | (with_reducible first | exact HB.out | apply below_alloc | apply pw_below_drewN | apply below_drew1 | refine below_set ?_ GE357.out | refine below_set ?_ GE367.out) | exact HB.out)); (case side2 => exact Kd.R_tight rfl HO_6.out); rintro e w43 ⟨rfl, hy0, hb, hkp⟩; refine ⟨_, rfl, ?_⟩; have n0_ := aM (Kd.R_reok rfl hy0 (fun k_ e_ => HO_6.out.1 k_ e_)); have n1_ := aM (Kd.R_mono (ok' := fun k_ => some k_ ≠ (.slice Ao23 t363.length co23 : Value).ownBlock) (Kd.R_keptB ((Kd.R_apart' HO_358002.out (Kd.R_typed HO_6.out) (by decide))) hkp (fun k_ hk_ hs_ => (hk_.2) hs_)) (fun k_ hk_ => hk_.1.1)); have n2_ := aM (Kd.R_mono (ok' := fun k_ => some k_ ≠ (.slice Ao16 t353.length co16 : Value).ownBlock) (Kd.R_keptB ((Kd.R_apart' HO_368002.out (Kd.R_typed HO_6.out) (by decide))) hkp (fun k_ hk_ hs_ => (hk_.2) hs_)) (fun k_ hk_ => hk_.1.1)); have n3_ := aM (blk_kept xblk hkp (fun hs_ => (fun e_ => (Kd.R_ne HO_6.out BK357.out (by decide)) e_) hs_)); have n4_ := aM (blk_kept xblk hkp (fun hs_ => (fun e_ => (Kd.R_ne HO_6.out BK367.out (by decide)) e_) hs_)); have n5_ := aM (Kd.R_mono (ok' := fun k_ => some k_ ≠ (.slice Ao18 t358.length co18 : Value).ownBlock) (Kd.R_keptB (HO371.out) hkp (fun k_ hk_ hs_ => (hk_.2) hs_)) (fun k_ hk_ => hk_.1.2)); have n6_ := aM (hb); clear HO_6; clear HO_358002; clear HO_368002; clear BK357; clear BK367; clear HO371; clear HB; have HO_6 := n0_; have HO_358002 := n1_; have HO_368002 := n2_; have BK357 := n3_; have BK367 := n4_; have HO371 := n5_; have HB := n6_; clear n0_ n1_ n2_ n3_ n4_ n5_ n6_; (try clear hb); (try clear hkp); (try clear hy0)))
      (try simp only [Act.put, List.setIfInBounds_toArray, List.set_cons_zero, List.set_cons_succ])
      go_cut [61] (fun v61 wc => ∃ (kq : Nat) (x61_38 : Bool), v61 = .bool x61_38 ∧ Aside0 (laws_FnExactHardOf.j1 kq l0 t356 x61_38 t351 t352 t353 t361 t362 t363 = some r) ∧ Aside0 (kq ≤ kj8) ∧ Aside0 (Kd.R k36 36 wc w.heap.size (fun k_ => some k_ ≠ ((.slice Ao23 t363.length co23) : Value).ownBlock) (.slice Ao16 t353.length co16) t353) ∧ Aside0 (Kd.R k36 36 wc w.heap.size (fun k_ => some k_ ≠ ((.slice Ao16 t353.length co16) : Value).ownBlock) (.slice Ao23 t363.length co23) t363) ∧ Aside0 (wc.heap[gb357]? = some (.cells #[.int .i64 t351, .int .i64 t352, (.slice Ao16 t353.length co16)] 28 (0, 0))) ∧ Aside0 (wc.heap[gb367]? = some (.cells #[.int .i64 t361, .int .i64 t362, (.slice Ao23 t363.length co23)] 28 (0, 0))) ∧ Aside0 (Below w.heap.size w wc))
      case first =>
       have H := HC39.out; clear HC39
       by_cases c44 : t373 < 0
       ·rw [if_pos c44] at H
        have c44b0 : decide (t373 < 0) = true := decide_eq_true c44; clear c44
        (first | rw [c44b0] | (simp only [i64_w, i32_w]; rw [c44b0]) | skip)
        have H' := aM H
        clear H
        go_wp2
        go_meet
        case rel => exact ⟨_, (true), (by first | rfl | (simp; done) | (simp [*]; done)), H', ⟨by have := HJ8.out; first | omega | exact Nat.le_refl _⟩, ⟨by (with_reducible repeat (first | apply Kd.R_alloc | apply Kd.R_drewN | apply Kd.R_drew)); exact HO_358002.out⟩, ⟨by (with_reducible repeat (first | apply Kd.R_alloc | apply Kd.R_drewN | apply Kd.R_drew)); exact HO_368002.out⟩, ⟨xblk⟩, ⟨xblk⟩, ⟨xbg⟩⟩
       ·rw [if_neg c44] at H
        have c44b0 : decide (t373 < 0) = false := decide_eq_false c44; clear c44
        (first | rw [c44b0] | (simp only [i64_w, i32_w]; rw [c44b0]) | skip)
        replace H := Option.bind_eq_some_iff.mp H
        obtain ⟨t375, A450, H⟩ := H
        replace H : (if t375 = true then (laws_FnExactHardOf.j1 kj8 l0 t356 (t366 != t356) t351 t352 t353 t361 t362 t363) else (laws_FnExactHardOf.j1 kj8 l0 t356 true t351 t352 t353 t361 t362 t363)) = some r := H; have A45 := aM A450; clear A450
        by_cases c46 : t375 = true
        ·subst c46
         have H1 : (laws_FnExactHardOf.j1 kj8 l0 t356 (t366 != t356) t351 t352 t353 t361 t362 t363) = some r := by rw [if_pos rfl] at H; exact H
         clear H; have H := H1; clear H1
         have H' := aM H
         clear H; have hnb47 := NB367_357.out; have hnc47 := NB357_367.out; obtain ⟨hcz48_0, hcz48_1, hcz48_2, hfz48_0, hfz48_1, hfz48_2⟩ := xf3 (w := w43) BK367; obtain ⟨hcz49_0, hcz49_1, hcz49_2, hfz49_0, hfz49_1, hfz49_2⟩ := xf3 (w := w43) BK357
         go_wp2_with (first | (go_at_call 34; (with_reducible refine (laws_eqHard.calls kj8 t361 t362 _ _ t363 t351 t352 _ _ t353 true _ ?side1 ?side2 ?side3 ?side4 A45.out).mono ?_); (case side1 => repeat (first | exact (Kd.R_reads' HO_368002.out).2.2 | (with_reducible refine Kd.C_alloc ?_ _) | (with_reducible refine Kd.C_drewN ?_ _) | (with_reducible refine Kd.C_drew ?_))); (case side2 => exact (Kd.R_reads' HO_368002.out).2.1); (case side3 => repeat (first | exact (Kd.R_reads' HO_358002.out).2.2 | (with_reducible refine Kd.C_alloc ?_ _) | (with_reducible refine Kd.C_drewN ?_ _) | (with_reducible refine Kd.C_drew ?_))); (case side4 => exact (Kd.R_reads' HO_358002.out).2.1); rintro e w50 ⟨rfl, hb⟩; replace HO_6 := aM (Kd.R_below (xr HO_6) hb); replace HO_358002 := aM (Kd.R_below (xr HO_358002) hb); replace HO_368002 := aM (Kd.R_below (xr HO_368002) hb); replace HO371 := aM (Kd.R_below (xr HO371) hb); replace BK357 := xbb BK357 hb; replace BK367 := xbb BK367 hb; replace HB := xbs hb; (try clear hb); (try clear hb2); (try clear hk); (try clear hi)))
         go_meet
         case rel => exact ⟨_, ((t366 != t356)), (by first | rfl | (simp; done) | (simp [*]; done)), H', ⟨by have := HJ8.out; first | omega | exact Nat.le_refl _⟩, ⟨by (with_reducible repeat (first | apply Kd.R_alloc | apply Kd.R_drewN | apply Kd.R_drew)); exact HO_358002.out⟩, ⟨by (with_reducible repeat (first | apply Kd.R_alloc | apply Kd.R_drewN | apply Kd.R_drew)); exact HO_368002.out⟩, ⟨xblk⟩, ⟨xblk⟩, ⟨xbg⟩⟩
        ·replace c46 := Bool.eq_false_iff.mpr c46
         subst c46
         have H1 : (laws_FnExactHardOf.j1 kj8 l0 t356 true t351 t352 t353 t361 t362 t363) = some r := by rw [if_neg (show ¬ (false = true) by decide)] at H; exact H
         clear H; have H := H1; clear H1
         have H' := aM H
         clear H; have hnb51 := NB367_357.out; have hnc51 := NB357_367.out; obtain ⟨hcz52_0, hcz52_1, hcz52_2, hfz52_0, hfz52_1, hfz52_2⟩ := xf3 (w := w43) BK367; obtain ⟨hcz53_0, hcz53_1, hcz53_2, hfz53_0, hfz53_1, hfz53_2⟩ := xf3 (w := w43) BK357
         go_wp2_with (first | (go_at_call 34; (with_reducible refine (laws_eqHard.calls kj8 t361 t362 _ _ t363 t351 t352 _ _ t353 false _ ?side1 ?side2 ?side3 ?side4 A45.out).mono ?_); (case side1 => repeat (first | exact (Kd.R_reads' HO_368002.out).2.2 | (with_reducible refine Kd.C_alloc ?_ _) | (with_reducible refine Kd.C_drewN ?_ _) | (with_reducible refine Kd.C_drew ?_))); (case side2 => exact (Kd.R_reads' HO_368002.out).2.1); (case side3 => repeat (first | exact (Kd.R_reads' HO_358002.out).2.2 | (with_reducible refine Kd.C_alloc ?_ _) | (with_reducible refine Kd.C_drewN ?_ _) | (with_reducible refine Kd.C_drew ?_))); (case side4 => exact (Kd.R_reads' HO_358002.out).2.1); rintro e w54 ⟨rfl, hb⟩; replace HO_6 := aM (Kd.R_below (xr HO_6) hb); replace HO_358002 := aM (Kd.R_below (xr HO_358002) hb); replace HO_368002 := aM (Kd.R_below (xr HO_368002) hb); replace HO371 := aM (Kd.R_below (xr HO371) hb); replace BK357 := xbb BK357 hb; replace BK367 := xbb BK367 hb; replace HB := xbs hb; (try clear hb); (try clear hb2); (try clear hk); (try clear hi)))
         go_meet
         case rel => exact ⟨_, (true), (by first | rfl | (simp; done) | (simp [*]; done)), H', ⟨by have := HJ8.out; first | omega | exact Nat.le_refl _⟩, ⟨by (with_reducible repeat (first | apply Kd.R_alloc | apply Kd.R_drewN | apply Kd.R_drew)); exact HO_358002.out⟩, ⟨by (with_reducible repeat (first | apply Kd.R_alloc | apply Kd.R_drewN | apply Kd.R_drew)); exact HO_368002.out⟩, ⟨xblk⟩, ⟨xblk⟩, ⟨xbg⟩⟩
      case rest =>
       clear HC39
       try clear c1
       try clear c2
       try clear p2
       try clear c3
       try clear c3b0
       try clear c4
       try clear c5
       try clear c9
       try clear c17
       try clear c18
       try clear c21
       try clear c25
       try clear c26
       try clear c30
       try clear c34
       try clear c37
       try clear c44
       try clear c44b0
       try clear c46
       try clear c47
       try clear c51
       try clear c53
       try clear c54
       try clear hcz15_0
       try clear hcz15_1
       try clear hcz15_2
       try clear hcz22_0
       try clear hcz22_1
       try clear hcz22_2
       try clear hcz27_0
       try clear hcz27_1
       try clear hcz27_2
       try clear hcz28_0
       try clear hcz28_1
       try clear hcz28_2
       try clear hcz31_0
       try clear hcz31_1
       try clear hcz31_2
       try clear hcz32_0
       try clear hcz32_1
       try clear hcz32_2
       try clear hcz48_0
       try clear hcz48_1
       try clear hcz48_2
       try clear hcz49_0
       try clear hcz49_1
       try clear hcz49_2
       try clear hcz52_0
       try clear hcz52_1
       try clear hcz52_2
       try clear hcz53_0
       try clear hcz53_1
       try clear hcz53_2
       try clear hfz15_0
       try clear hfz15_1
       try clear hfz15_2
       try clear hfz22_0
       try clear hfz22_1
       try clear hfz22_2
       try clear hfz27_0
       try clear hfz27_1
       try clear hfz27_2
       try clear hfz28_0
       try clear hfz28_1
       try clear hfz28_2
       try clear hfz31_0
       try clear hfz31_1
       try clear hfz31_2
       try clear hfz32_0
       try clear hfz32_1
       try clear hfz32_2
       try clear hfz48_0
       try clear hfz48_1
       try clear hfz48_2
       try clear hfz49_0
       try clear hfz49_1
       try clear hfz49_2
       try clear hfz52_0
       try clear hfz52_1
       try clear hfz52_2
       try clear hfz53_0
       try clear hfz53_1
       try clear hfz53_2
       try clear p2
       obtain ⟨kq, x61_38, rfl, HA, HJ38, HO_358002, HO_368002, BK357, BK367, HB⟩ := hcut
       cases kq with
       | zero => exact absurd HA.out (by simp [laws_FnExactHardOf.j1])
       | succ kj38 =>
        have H := HA.out; clear HA
        simp only [laws_FnExactHardOf.j1] at H
        by_cases c55 : x61_38 = true
        ·subst c55
         have H1 : (some false) = some r := by rw [if_pos rfl] at H; exact H
         clear H; have H := H1; clear H1
         obtain rfl := Option.some.inj H
         go_wp2
         go_ret
         exact ⟨by first | rfl | (simp [errW_none, errW_some] <;> rfl) | (simp [*, errW_none, errW_some] <;> rfl), xbg⟩
        ·replace c55 := Bool.eq_false_iff.mpr c55
         subst c55
         have H1 : ((laws_markHard.f kj38 t361 t362 t363 1).bind fun bt376 => ((laws_heldHard.f kj38 t361 t362 bt376.2 1).bind fun t378 => (if t378 < 0 then (some false) else (if t378 = bt376.1 then ((laws_toRecS.f kj38 l0).bind fun t379 => ((impl_HardOf.f kj38 t379).bind fun bt382 => ((laws_eqHard.f kj38 bt382.1 bt382.2.1 bt382.2.2.1 t351 t352 t353).bind fun t389 => (if t389 = true then (laws_FnExactHardOf.j2 kj38 bt376.1 (bt382.2.2.2 != t356) t361 t362 bt376.2) else (laws_FnExactHardOf.j2 kj38 bt376.1 true t361 t362 bt376.2))))) else (some false))))) = some r := by rw [if_neg (show ¬ (false = true) by decide)] at H; exact H
         clear H; have H := H1; clear H1; replace H := Option.bind_eq_some_iff.mp H
         obtain ⟨⟨t376, t377⟩, A560, H⟩ := H
         replace H : ((laws_heldHard.f kj38 t361 t362 t377 1).bind fun t378 => (if t378 < 0 then (some false) else (if t378 = t376 then ((laws_toRecS.f kj38 l0).bind fun t379 => ((impl_HardOf.f kj38 t379).bind fun bt382 => ((laws_eqHard.f kj38 bt382.1 bt382.2.1 bt382.2.2.1 t351 t352 t353).bind fun t389 => (if t389 = true then (laws_FnExactHardOf.j2 kj38 t376 (bt382.2.2.2 != t356) t361 t362 t377) else (laws_FnExactHardOf.j2 kj38 t376 true t361 t362 t377))))) else (some false)))) = some r := H; have A56 := aM A560; clear A560; replace H := Option.bind_eq_some_iff.mp H
         obtain ⟨t378, A570, H⟩ := H
         replace H : (if t378 < 0 then (some false) else (if t378 = t376 then ((laws_toRecS.f kj38 l0).bind fun t379 => ((impl_HardOf.f kj38 t379).bind fun bt382 => ((laws_eqHard.f kj38 bt382.1 bt382.2.1 bt382.2.2.1 t351 t352 t353).bind fun t389 => (if t389 = true then (laws_FnExactHardOf.j2 kj38 t376 (bt382.2.2.2 != t356) t361 t362 t377) else (laws_FnExactHardOf.j2 kj38 t376 true t361 t362 t377))))) else (some false))) = some r := H; have A57 := aM A570; clear A570
         by_cases c58 : t378 < 0
         ·rw [if_pos c58] at H
          have c58b0 : decide (t378 < 0) = true := decide_eq_true c58; clear c58
          obtain rfl := Option.some.inj H
          have hnb59 := NB367_357.out; have hnc59 := NB357_367.out; obtain ⟨hcz60_0, hcz60_1, hcz60_2, hfz60_0, hfz60_1, hfz60_2⟩ := xf3 (w := wc) BK367
          go_wp2_with (first | ((with_reducible refine gate_callee (f := 35) rfl ?_); refine goesL_ (some 64) rfl rfl Try.func35 (by kernel_rfl) rfl #[.agg #[.int .i64 t361, .int .i64 t362, .slice Ao23 t363.length co23], .int .i64 1] rfl (by (try simp only [List.map_toArray, List.map_cons, List.map_nil]); first | done | rfl | (simp only [List.length_drop, List.length_take]; rfl)) ?_; (with_reducible refine (laws_markHard.calls kj38 t361 t362 (fun k_ => some k_ = (.slice Ao23 t363.length co23 : Value).ownBlock) (.slice Ao23 t363.length co23) t363 1 t376 t377 w _ ?side1 ?side2 A56.out).mono ?_); (case side1 => repeat (first | (with_reducible first | exact HB.out | apply below_alloc | apply pw_below_drewN | apply below_drew1 | refine below_set ?_ GE357.out | refine below_set ?_ GE367.out) | exact HB.out)); (case side2 => exact Kd.R_tight rfl HO_368002.out); rintro e w61 ⟨rfl, hy0, hb, hkp⟩; refine ⟨_, rfl, ?_⟩; have n0_ := aM (Kd.R_mono (ok' := fun k_ => some k_ ≠ (.slice Ao23 t363.length co23 : Value).ownBlock) (Kd.R_keptB (HO_358002.out) hkp (fun k_ hk_ hs_ => (hk_) hs_)) (fun k_ hk_ => hk_.1)); have n1_ := aM (Kd.R_reok rfl hy0 (fun k_ e_ => HO_368002.out.1 k_ e_)); have n2_ := aM (blk_kept xblk hkp (fun hs_ => (fun e_ => (Kd.R_ne HO_368002.out BK357.out (by decide)) e_) hs_)); have n3_ := aM (blk_kept xblk hkp (fun hs_ => (fun e_ => (Kd.R_ne HO_368002.out BK367.out (by decide)) e_) hs_)); have n4_ := aM (hb); clear HO_358002; clear HO_368002; clear BK357; clear BK367; clear HB; have HO_358002 := n0_; have HO_368002 := n1_; have BK357 := n2_; have BK367 := n3_; have HB := n4_; clear n0_ n1_ n2_ n3_ n4_; (try clear hb); (try clear hkp); (try clear hy0); obtain ⟨hcz62_0, hcz62_1, hcz62_2, hfz62_0, hfz62_1, hfz62_2⟩ := xf3 (w := w61) BK367) | ((with_reducible refine gate_callee (f := 36) rfl ?_); refine goesL_ (some 67) rfl rfl Try.func36 (by kernel_rfl) rfl #[.agg #[.int .i64 t361, .int .i64 t362, .slice Ao23 t377.length co23], .int .i64 1] rfl (by (try simp only [List.map_toArray, List.map_cons, List.map_nil]); first | done | (rw [show t377.length = t363.length from (Kd.R_reads' HO_368002.out).1.symm] <;> rfl) | rfl | (simp only [List.length_drop, List.length_take]; rfl)) ?_; (with_reducible refine (laws_heldHard.calls kj38 t361 t362 _ _ t377 1 t378 _ ?side1 ?side2 A57.out).mono ?_); (case side1 => repeat (first | exact (Kd.R_reads' HO_368002.out).2.2 | (with_reducible refine Kd.C_alloc ?_ _) | (with_reducible refine Kd.C_drewN ?_ _) | (with_reducible refine Kd.C_drew ?_))); (case side2 => rw [show t377.length = t363.length from (Kd.R_reads' HO_368002.out).1.symm]; exact (Kd.R_reads' HO_368002.out).2.1); rintro e w63 ⟨rfl, hb⟩; refine ⟨_, rfl, ?_⟩; replace HO_358002 := aM (Kd.R_below (xr HO_358002) hb); replace HO_368002 := aM (Kd.R_below (xr HO_368002) hb); replace BK357 := xbb BK357 hb; replace BK367 := xbb BK367 hb; replace HB := xbs hb; (try clear hb); (try clear hb2); (try clear hk); (try clear hi)))
          go_ret
          exact ⟨by first | rfl | (simp [errW_none, errW_some] <;> rfl) | (simp [*, errW_none, errW_some] <;> rfl), xbg⟩
         ·rw [if_neg c58] at H
          have c58b0 : decide (t378 < 0) = false := decide_eq_false c58; clear c58
          by_cases c64 : t378 = t376
          ·rw [if_pos c64] at H
           have c64b0 : (t378 == t376) = true := beq_iff_eq.mpr c64; have c64b1 : (t378 != t376) = false := bne_eq_false_iff_eq.mpr c64; clear c64; replace H := Option.bind_eq_some_iff.mp H
           obtain ⟨t379, A650, H⟩ := H
           replace H : ((impl_HardOf.f kj38 t379).bind fun bt382 => ((laws_eqHard.f kj38 bt382.1 bt382.2.1 bt382.2.2.1 t351 t352 t353).bind fun t389 => (if t389 = true then (laws_FnExactHardOf.j2 kj38 t376 (bt382.2.2.2 != t356) t361 t362 t377) else (laws_FnExactHardOf.j2 kj38 t376 true t361 t362 t377)))) = some r := H; have A65 := aM A650; clear A650; replace H := Option.bind_eq_some_iff.mp H
           obtain ⟨⟨t382, t383, t384, t387⟩, A660, H⟩ := H
           replace H : ((laws_eqHard.f kj38 t382 t383 t384 t351 t352 t353).bind fun t389 => (if t389 = true then (laws_FnExactHardOf.j2 kj38 t376 (t387 != t356) t361 t362 t377) else (laws_FnExactHardOf.j2 kj38 t376 true t361 t362 t377))) = some r := H; have A66 := aM A660; clear A660; have HC67 := aM H; clear H; have hnb68 := NB367_357.out; have hnc68 := NB357_367.out; obtain ⟨hcz69_0, hcz69_1, hcz69_2, hfz69_0, hfz69_1, hfz69_2⟩ := xf3 (w := wc) BK367
           go_upto_region 25 with (first | ((with_reducible refine gate_callee (f := 35) rfl ?_); refine goesL_ (some 64) rfl rfl Try.func35 (by kernel_rfl) rfl #[.agg #[.int .i64 t361, .int .i64 t362, .slice Ao23 t363.length co23], .int .i64 1] rfl (by (try simp only [List.map_toArray, List.map_cons, List.map_nil]); first | done | rfl | (simp only [List.length_drop, List.length_take]; rfl)) ?_; (with_reducible refine (laws_markHard.calls kj38 t361 t362 (fun k_ => some k_ = (.slice Ao23 t363.length co23 : Value).ownBlock) (.slice Ao23 t363.length co23) t363 1 t376 t377 w _ ?side1 ?side2 A56.out).mono ?_); (case side1 => repeat (first | (with_reducible first | exact HB.out | apply below_alloc | apply pw_below_drewN | apply below_drew1 | refine below_set ?_ GE357.out | refine below_set ?_ GE367.out) | exact HB.out)); (case side2 => exact Kd.R_tight rfl HO_368002.out); rintro e w70 ⟨rfl, hy0, hb, hkp⟩; refine ⟨_, rfl, ?_⟩; have n0_ := aM (Kd.R_mono (ok' := fun k_ => some k_ ≠ (.slice Ao23 t363.length co23 : Value).ownBlock) (Kd.R_keptB (HO_358002.out) hkp (fun k_ hk_ hs_ => (hk_) hs_)) (fun k_ hk_ => hk_.1)); have n1_ := aM (Kd.R_reok rfl hy0 (fun k_ e_ => HO_368002.out.1 k_ e_)); have n2_ := aM (blk_kept xblk hkp (fun hs_ => (fun e_ => (Kd.R_ne HO_368002.out BK357.out (by decide)) e_) hs_)); have n3_ := aM (blk_kept xblk hkp (fun hs_ => (fun e_ => (Kd.R_ne HO_368002.out BK367.out (by decide)) e_) hs_)); have n4_ := aM (hb); clear HO_358002; clear HO_368002; clear BK357; clear BK367; clear HB; have HO_358002 := n0_; have HO_368002 := n1_; have BK357 := n2_; have BK367 := n3_; have HB := n4_; clear n0_ n1_ n2_ n3_ n4_; (try clear hb); (try clear hkp); (try clear hy0); obtain ⟨hcz71_0, hcz71_1, hcz71_2, hfz71_0, hfz71_1, hfz71_2⟩ := xf3 (w := w70) BK367) | ((with_reducible refine gate_callee (f := 36) rfl ?_); refine goesL_ (some 67) rfl rfl Try.func36 (by kernel_rfl) rfl #[.agg #[.int .i64 t361, .int .i64 t362, .slice Ao23 t377.length co23], .int .i64 1] rfl (by (try simp only [List.map_toArray, List.map_cons, List.map_nil]); first | done | (rw [show t377.length = t363.length from (Kd.R_reads' HO_368002.out).1.symm] <;> rfl) | rfl | (simp only [List.length_drop, List.length_take]; rfl)) ?_; (with_reducible refine (laws_heldHard.calls kj38 t361 t362 _ _ t377 1 t378 _ ?side1 ?side2 A57.out).mono ?_); (case side1 => repeat (first | exact (Kd.R_reads' HO_368002.out).2.2 | (with_reducible refine Kd.C_alloc ?_ _) | (with_reducible refine Kd.C_drewN ?_ _) | (with_reducible refine Kd.C_drew ?_))); (case side2 => rw [show t377.length = t363.length from (Kd.R_reads' HO_368002.out).1.symm]; exact (Kd.R_reads' HO_368002.out).2.1); rintro e w72 ⟨rfl, hb⟩; refine ⟨_, rfl, ?_⟩; replace HO_358002 := aM (Kd.R_below (xr HO_358002) hb); replace HO_368002 := aM (Kd.R_below (xr HO_368002) hb); replace BK357 := xbb BK357 hb; replace BK367 := xbb BK367 hb; replace HB := xbs hb; (try clear hb); (try clear hb2); (try clear hk); (try clear hi)) | ((with_reducible refine gate_callee (f := 54) rfl ?_); refine goesL_ (some 75) rfl rfl Try.func54 (by kernel_rfl) rfl #[.slice A0 l0.length c0] rfl (by (try simp only [List.map_toArray, List.map_cons, List.map_nil]); first | done | rfl | (simp only [List.length_drop, List.length_take]; rfl)) ?_; (with_reducible refine (laws_toRecS.calls kj38 _ _ l0 t379 _ ?side1 ?side2 A65.out).mono ?_); (case side1 => exact xcb HR0); (case side2 => exact HC0.out); rintro e w73 ⟨v380, rfl, ho0, hb⟩; refine ⟨_, rfl, ?_⟩; replace HO_358002 := aM (Kd.R_below (xr HO_358002) hb); replace HO_368002 := aM (Kd.R_below (xr HO_368002) hb); have HO381 := aM (Kd.R_lower ho0 (below_size xbg)); replace BK357 := xbb BK357 hb; replace BK367 := xbb BK367 hb; replace HB := xbs hb; (try clear hb); (try clear hb2); (try clear hk); (try clear hi); (try clear ho0); obtain ⟨Ao74, co74, eo74⟩ := Kd.R_slice HO381.out; subst eo74) | ((with_reducible refine gate_callee (f := 17) rfl ?_); refine goesL_ (some 76) rfl rfl Try.func17 (by kernel_rfl) rfl #[.slice Ao74 t379.length co74] rfl (by (try simp only [List.map_toArray, List.map_cons, List.map_nil]); first | done | rfl | (simp only [List.length_drop, List.length_take]; rfl)) ?_; (with_reducible refine (impl_HardOf.calls kj38 _ _ t379 t382 t383 t384 t387 _ ?side1 ?side2 A66.out).mono ?_); (case side1 => repeat (first | exact (Kd.R_reads' HO381.out).2.2 | (with_reducible refine Kd.C_alloc ?_ _) | (with_reducible refine Kd.C_drewN ?_ _) | (with_reducible refine Kd.C_drew ?_))); (case side2 => exact (Kd.R_reads' HO381.out).2.1); rintro e w75 ⟨v385, rfl, ho0, hb⟩; refine ⟨_, rfl, ?_⟩; replace HO381 := aM (Kd.R_below (xr HO381) hb); have HO386 := aM (Kd.R_lower (Kd.R_new' (Kd.R_new' ho0 (Kd.R_lt (xr HO_358002))) (Kd.R_lt (xr HO_368002))) (below_size xbg)); replace HO_358002 := aM (Kd.R_elder' (xr HO_358002) (Kd.R_base ho0) hb); replace HO_368002 := aM (Kd.R_elder' (xr HO_368002) (Kd.R_base ho0) hb); replace BK357 := xbb BK357 hb; replace BK367 := xbb BK367 hb; replace HB := xbs hb; (try clear hb); (try clear hb2); (try clear hk); (try clear hi); (try clear ho0)) | ((with_reducible refine gate_dst (N := 12) rfl ?_); refine box_event ?hg (N := 12) ?hd (cs := #[.int .i64 0, .int .i64 0, .slice none 0 0]) (t := 28) ?hr ?_; (case hd => rfl); (case hg => rfl); (case hr => first | (go_simp; done) | (go_simp; rfl)); intro gb388 hg w76 hbox hb; replace HO_358002 := aM (Kd.R_below (xr HO_358002) hb); replace HO_368002 := aM (Kd.R_below (xr HO_368002) hb); replace HO381 := aM (Kd.R_below (xr HO381) hb); replace HO386 := aM (Kd.R_below (xr HO386) hb); have GW388 := aM (xge hg); have GE388 := aM (xge hg); replace HB := xbs hb; have NB357_388 := aM ((by rw [hg]; exact Nat.ne_of_lt (blk_lt (g := gb357) (o := .cells #[.int .i64 t351, .int .i64 t352, .slice Ao16 t353.length co16] 28 (0, 0)) xblk) : gb357 ≠ gb388)); have NB388_357 := aM ((by rw [hg]; exact Nat.ne_of_gt (blk_lt (g := gb357) (o := .cells #[.int .i64 t351, .int .i64 t352, .slice Ao16 t353.length co16] 28 (0, 0)) xblk) : gb388 ≠ gb357)); have NB367_388 := aM ((by rw [hg]; exact Nat.ne_of_lt (blk_lt (g := gb367) (o := .cells #[.int .i64 t361, .int .i64 t362, .slice Ao23 t363.length co23] 28 (0, 0)) xblk) : gb367 ≠ gb388)); have NB388_367 := aM ((by rw [hg]; exact Nat.ne_of_gt (blk_lt (g := gb367) (o := .cells #[.int .i64 t361, .int .i64 t362, .slice Ao23 t363.length co23] 28 (0, 0)) xblk) : gb388 ≠ gb367)); replace BK357 := xbb BK357 hb; replace BK367 := xbb BK367 hb; have BK388 := aM (hbox); clear hb hbox hg; have hnb77 := NB388_357.out; have hnc77 := NB357_388.out; have hnb78 := NB388_367.out; have hnc78 := NB367_388.out; obtain ⟨hcz79_0, hcz79_1, hcz79_2, hfz79_0, hfz79_1, hfz79_2⟩ := xf3 (w := w76) BK388; obtain ⟨Ao80, co80, eo80⟩ := Kd.R_slice HO386.out; subst eo80))
           (try simp only [Act.put, List.setIfInBounds_toArray, List.set_cons_zero, List.set_cons_succ])
           go_cut [87] (fun v87 wc => ∃ (kq : Nat) (x87_66 : Bool), v87 = .bool x87_66 ∧ Aside0 (laws_FnExactHardOf.j2 kq t376 x87_66 t361 t362 t377 = some r) ∧ Aside0 (kq ≤ kj38) ∧ Aside0 (Kd.R k36 36 wc w.heap.size (fun k_ => some k_ ≠ ((.slice Ao23 t363.length co23) : Value).ownBlock ∧ some k_ ≠ ((.slice Ao80 t384.length co80) : Value).ownBlock) (.slice Ao16 t353.length co16) t353) ∧ Aside0 (Kd.R k36 36 wc w.heap.size (fun k_ => some k_ ≠ ((.slice Ao16 t353.length co16) : Value).ownBlock ∧ some k_ ≠ ((.slice Ao80 t384.length co80) : Value).ownBlock) (.slice Ao23 t363.length co23) t377) ∧ Aside0 (Kd.R k36 36 wc w.heap.size (fun k_ => some k_ ≠ ((.slice Ao16 t353.length co16) : Value).ownBlock ∧ some k_ ≠ ((.slice Ao23 t363.length co23) : Value).ownBlock) (.slice Ao80 t384.length co80) t384) ∧ Aside0 (wc.heap[gb357]? = some (.cells #[.int .i64 t351, .int .i64 t352, (.slice Ao16 t353.length co16)] 28 (0, 0))) ∧ Aside0 (wc.heap[gb367]? = some (.cells #[.int .i64 t361, .int .i64 t362, (.slice Ao23 t363.length co23)] 28 (0, 0))) ∧ Aside0 (wc.heap[gb388]? = some (.cells #[.int .i64 t382, .int .i64 t383, (.slice Ao80 t384.length co80)] 28 (0, 0))) ∧ Aside0 (Below w.heap.size w wc))
           case first =>
            have H := HC67.out; clear HC67; replace H := Option.bind_eq_some_iff.mp H
            obtain ⟨t389, A810, H⟩ := H
            replace H : (if t389 = true then (laws_FnExactHardOf.j2 kj38 t376 (t387 != t356) t361 t362 t377) else (laws_FnExactHardOf.j2 kj38 t376 true t361 t362 t377)) = some r := H; have A81 := aM A810; clear A810
            by_cases c82 : t389 = true
            ·subst c82
             have H1 : (laws_FnExactHardOf.j2 kj38 t376 (t387 != t356) t361 t362 t377) = some r := by rw [if_pos rfl] at H; exact H
             clear H; have H := H1; clear H1
             have H' := aM H
             clear H; have hnb83 := NB388_357.out; have hnc83 := NB357_388.out; have hnb84 := NB388_367.out; have hnc84 := NB367_388.out; obtain ⟨hcz85_0, hcz85_1, hcz85_2, hfz85_0, hfz85_1, hfz85_2⟩ := xf3 (w := w76) BK388; have hnb86 := NB357_367.out; have hnc86 := NB367_357.out; obtain ⟨hcz87_0, hcz87_1, hcz87_2, hfz87_0, hfz87_1, hfz87_2⟩ := xf3 (w := w76) BK357
             go_wp2_with (first | ((with_reducible refine gate_callee (f := 34) rfl ?_); refine goesL_ (some 81) rfl rfl Try.func34 (by kernel_rfl) rfl #[.agg #[.int .i64 t382, .int .i64 t383, .slice Ao80 t384.length co80], .agg #[.int .i64 t351, .int .i64 t352, .slice Ao16 t353.length co16]] rfl (by (try simp only [List.map_toArray, List.map_cons, List.map_nil]); first | done | rfl | (simp only [List.length_drop, List.length_take]; rfl)) ?_; (with_reducible refine (laws_eqHard.calls kj38 t382 t383 _ _ t384 t351 t352 _ _ t353 true _ ?side1 ?side2 ?side3 ?side4 A81.out).mono ?_); (case side1 => refine (Kd.R_reads' (e := 36) (base := w.heap.size) (ok := fun k_ => ((True ∧ some k_ ≠ (.slice Ao16 t353.length co16 : Value).ownBlock) ∧ some k_ ≠ (.slice Ao23 t363.length co23 : Value).ownBlock)) (n := t384.length) (c := co80) ?_).2.2; exact (xrt (Kd.R_mono (Kd.R_far (p := ⟨gb388, 2, none⟩) (Kd.R_far (p := ⟨gb388, 1, none⟩) (Kd.R_far (p := ⟨gb388, 0, none⟩) (Kd.R_types HO386.out BK388.out (by decide)) (fun _ hk => hk.2) (.int .i64 t382)) (fun _ hk => hk.2) (.int .i64 t383)) (fun _ hk => hk.2) (.slice Ao80 t384.length co80)) (fun _ h_ => h_.1)))); (case side2 => exact (Kd.R_reads' HO386.out).2.1); (case side3 => refine (Kd.R_reads' (e := 36) (base := w.heap.size) (ok := fun k_ => (some k_ ≠ (.slice Ao23 t363.length co23 : Value).ownBlock ∧ some k_ ≠ (.slice Ao80 t384.length co80 : Value).ownBlock)) (n := t353.length) (c := co16) ?_).2.2; exact (xrt (Kd.R_mono (Kd.R_far (p := ⟨gb388, 2, none⟩) (Kd.R_far (p := ⟨gb388, 1, none⟩) (Kd.R_far (p := ⟨gb388, 0, none⟩) (Kd.R_types HO_358002.out BK388.out (by decide)) (fun _ hk => hk.2) (.int .i64 t382)) (fun _ hk => hk.2) (.int .i64 t383)) (fun _ hk => hk.2) (.slice Ao80 t384.length co80)) (fun _ h_ => h_.1)))); (case side4 => exact (Kd.R_reads' HO_358002.out).2.1); rintro e w88 ⟨rfl, hb⟩; refine ⟨_, rfl, ?_⟩; replace HO_358002 := aM (Kd.R_below (xrt (Kd.R_mono (Kd.R_far (p := ⟨gb388, 2, none⟩) (Kd.R_far (p := ⟨gb388, 1, none⟩) (Kd.R_far (p := ⟨gb388, 0, none⟩) (Kd.R_types HO_358002.out BK388.out (by decide)) (fun _ hk => hk.2) (.int .i64 t382)) (fun _ hk => hk.2) (.int .i64 t383)) (fun _ hk => hk.2) (.slice Ao80 t384.length co80)) (fun _ h_ => h_.1))) hb); replace HO_368002 := aM (Kd.R_below (xrt (Kd.R_mono (Kd.R_far (p := ⟨gb388, 2, none⟩) (Kd.R_far (p := ⟨gb388, 1, none⟩) (Kd.R_far (p := ⟨gb388, 0, none⟩) (Kd.R_types HO_368002.out BK388.out (by decide)) (fun _ hk => hk.2) (.int .i64 t382)) (fun _ hk => hk.2) (.int .i64 t383)) (fun _ hk => hk.2) (.slice Ao80 t384.length co80)) (fun _ h_ => h_.1))) hb); replace HO381 := aM (Kd.R_below (xrt (Kd.R_mono (Kd.R_far (p := ⟨gb388, 2, none⟩) (Kd.R_far (p := ⟨gb388, 1, none⟩) (Kd.R_far (p := ⟨gb388, 0, none⟩) (Kd.R_types HO381.out BK388.out (by decide)) (fun _ hk => hk.2) (.int .i64 t382)) (fun _ hk => hk.2) (.int .i64 t383)) (fun _ hk => hk.2) (.slice Ao80 t384.length co80)) (fun _ h_ => h_.1))) hb); replace HO386 := aM (Kd.R_below (xrt (Kd.R_mono (Kd.R_far (p := ⟨gb388, 2, none⟩) (Kd.R_far (p := ⟨gb388, 1, none⟩) (Kd.R_far (p := ⟨gb388, 0, none⟩) (Kd.R_types HO386.out BK388.out (by decide)) (fun _ hk => hk.2) (.int .i64 t382)) (fun _ hk => hk.2) (.int .i64 t383)) (fun _ hk => hk.2) (.slice Ao80 t384.length co80)) (fun _ h_ => h_.1))) hb); replace BK357 := aM (blk_below (g := gb357) (o := .cells #[.int .i64 t351, .int .i64 t352, .slice Ao16 t353.length co16] 28 (0, 0)) (by (with_reducible repeat (first | refine blk_drewN ?_ _ | refine blk_drew ?_ | refine blk_alloc ?_ _)); refine blk_far ?_ NB357_388.out _; (with_reducible repeat (first | refine blk_drewN ?_ _ | refine blk_drew ?_ | refine blk_alloc ?_ _)); refine blk_far ?_ NB357_388.out _; (with_reducible repeat (first | refine blk_drewN ?_ _ | refine blk_drew ?_ | refine blk_alloc ?_ _)); refine blk_far ?_ NB357_388.out _; (with_reducible repeat (first | refine blk_drewN ?_ _ | refine blk_drew ?_ | refine blk_alloc ?_ _)); exact BK357.out) hb); replace BK367 := aM (blk_below (g := gb367) (o := .cells #[.int .i64 t361, .int .i64 t362, .slice Ao23 t363.length co23] 28 (0, 0)) (by (with_reducible repeat (first | refine blk_drewN ?_ _ | refine blk_drew ?_ | refine blk_alloc ?_ _)); refine blk_far ?_ NB367_388.out _; (with_reducible repeat (first | refine blk_drewN ?_ _ | refine blk_drew ?_ | refine blk_alloc ?_ _)); refine blk_far ?_ NB367_388.out _; (with_reducible repeat (first | refine blk_drewN ?_ _ | refine blk_drew ?_ | refine blk_alloc ?_ _)); refine blk_far ?_ NB367_388.out _; (with_reducible repeat (first | refine blk_drewN ?_ _ | refine blk_drew ?_ | refine blk_alloc ?_ _)); exact BK367.out) hb); replace BK388 := aM (blk_below (g := gb388) (o := .cells #[.int .i64 t382, .int .i64 t383, .slice Ao80 t384.length co80] 28 (0, 0)) (by (with_reducible repeat (first | refine blk_drewN ?_ _ | refine blk_drew ?_ | refine blk_alloc ?_ _)); refine blk_put (cs := #[.int .i64 t382, .int .i64 t383, .slice none 0 0]) ?_ 2 _ rfl; (with_reducible repeat (first | refine blk_drewN ?_ _ | refine blk_drew ?_ | refine blk_alloc ?_ _)); refine blk_put (cs := #[.int .i64 t382, .int .i64 0, .slice none 0 0]) ?_ 1 _ rfl; (with_reducible repeat (first | refine blk_drewN ?_ _ | refine blk_drew ?_ | refine blk_alloc ?_ _)); refine blk_put (cs := #[.int .i64 0, .int .i64 0, .slice none 0 0]) ?_ 0 _ rfl; (with_reducible repeat (first | refine blk_drewN ?_ _ | refine blk_drew ?_ | refine blk_alloc ?_ _)); exact BK388.out) hb); replace HB := xbs hb; (try clear hb); (try clear hb2); (try clear hk); (try clear hi)))
             go_meet
             case rel => exact ⟨_, ((t387 != t356)), (by first | rfl | (simp; done) | (simp [*]; done)), H', ⟨by have := HJ8.out; have := HJ38.out; first | omega | exact Nat.le_refl _⟩, ⟨by (with_reducible repeat (first | apply Kd.R_alloc | apply Kd.R_drewN | apply Kd.R_drew)); exact HO_358002.out⟩, ⟨by (with_reducible repeat (first | apply Kd.R_alloc | apply Kd.R_drewN | apply Kd.R_drew)); exact HO_368002.out⟩, ⟨by (with_reducible repeat (first | apply Kd.R_alloc | apply Kd.R_drewN | apply Kd.R_drew)); exact Kd.R_mono HO386.out (fun _ hk => ⟨hk.1.2, hk.2⟩)⟩, ⟨xblk⟩, ⟨xblk⟩, ⟨xblk⟩, ⟨xbg⟩⟩
            ·replace c82 := Bool.eq_false_iff.mpr c82
             subst c82
             have H1 : (laws_FnExactHardOf.j2 kj38 t376 true t361 t362 t377) = some r := by rw [if_neg (show ¬ (false = true) by decide)] at H; exact H
             clear H; have H := H1; clear H1
             have H' := aM H
             clear H; have hnb89 := NB388_357.out; have hnc89 := NB357_388.out; have hnb90 := NB388_367.out; have hnc90 := NB367_388.out; obtain ⟨hcz91_0, hcz91_1, hcz91_2, hfz91_0, hfz91_1, hfz91_2⟩ := xf3 (w := w76) BK388; have hnb92 := NB357_367.out; have hnc92 := NB367_357.out; obtain ⟨hcz93_0, hcz93_1, hcz93_2, hfz93_0, hfz93_1, hfz93_2⟩ := xf3 (w := w76) BK357
             go_wp2_with (first | ((with_reducible refine gate_callee (f := 34) rfl ?_); refine goesL_ (some 81) rfl rfl Try.func34 (by kernel_rfl) rfl #[.agg #[.int .i64 t382, .int .i64 t383, .slice Ao80 t384.length co80], .agg #[.int .i64 t351, .int .i64 t352, .slice Ao16 t353.length co16]] rfl (by (try simp only [List.map_toArray, List.map_cons, List.map_nil]); first | done | rfl | (simp only [List.length_drop, List.length_take]; rfl)) ?_; (with_reducible refine (laws_eqHard.calls kj38 t382 t383 _ _ t384 t351 t352 _ _ t353 false _ ?side1 ?side2 ?side3 ?side4 A81.out).mono ?_); (case side1 => refine (Kd.R_reads' (e := 36) (base := w.heap.size) (ok := fun k_ => ((True ∧ some k_ ≠ (.slice Ao16 t353.length co16 : Value).ownBlock) ∧ some k_ ≠ (.slice Ao23 t363.length co23 : Value).ownBlock)) (n := t384.length) (c := co80) ?_).2.2; exact (xrt (Kd.R_mono (Kd.R_far (p := ⟨gb388, 2, none⟩) (Kd.R_far (p := ⟨gb388, 1, none⟩) (Kd.R_far (p := ⟨gb388, 0, none⟩) (Kd.R_types HO386.out BK388.out (by decide)) (fun _ hk => hk.2) (.int .i64 t382)) (fun _ hk => hk.2) (.int .i64 t383)) (fun _ hk => hk.2) (.slice Ao80 t384.length co80)) (fun _ h_ => h_.1)))); (case side2 => exact (Kd.R_reads' HO386.out).2.1); (case side3 => refine (Kd.R_reads' (e := 36) (base := w.heap.size) (ok := fun k_ => (some k_ ≠ (.slice Ao23 t363.length co23 : Value).ownBlock ∧ some k_ ≠ (.slice Ao80 t384.length co80 : Value).ownBlock)) (n := t353.length) (c := co16) ?_).2.2; exact (xrt (Kd.R_mono (Kd.R_far (p := ⟨gb388, 2, none⟩) (Kd.R_far (p := ⟨gb388, 1, none⟩) (Kd.R_far (p := ⟨gb388, 0, none⟩) (Kd.R_types HO_358002.out BK388.out (by decide)) (fun _ hk => hk.2) (.int .i64 t382)) (fun _ hk => hk.2) (.int .i64 t383)) (fun _ hk => hk.2) (.slice Ao80 t384.length co80)) (fun _ h_ => h_.1)))); (case side4 => exact (Kd.R_reads' HO_358002.out).2.1); rintro e w94 ⟨rfl, hb⟩; refine ⟨_, rfl, ?_⟩; replace HO_358002 := aM (Kd.R_below (xrt (Kd.R_mono (Kd.R_far (p := ⟨gb388, 2, none⟩) (Kd.R_far (p := ⟨gb388, 1, none⟩) (Kd.R_far (p := ⟨gb388, 0, none⟩) (Kd.R_types HO_358002.out BK388.out (by decide)) (fun _ hk => hk.2) (.int .i64 t382)) (fun _ hk => hk.2) (.int .i64 t383)) (fun _ hk => hk.2) (.slice Ao80 t384.length co80)) (fun _ h_ => h_.1))) hb); replace HO_368002 := aM (Kd.R_below (xrt (Kd.R_mono (Kd.R_far (p := ⟨gb388, 2, none⟩) (Kd.R_far (p := ⟨gb388, 1, none⟩) (Kd.R_far (p := ⟨gb388, 0, none⟩) (Kd.R_types HO_368002.out BK388.out (by decide)) (fun _ hk => hk.2) (.int .i64 t382)) (fun _ hk => hk.2) (.int .i64 t383)) (fun _ hk => hk.2) (.slice Ao80 t384.length co80)) (fun _ h_ => h_.1))) hb); replace HO381 := aM (Kd.R_below (xrt (Kd.R_mono (Kd.R_far (p := ⟨gb388, 2, none⟩) (Kd.R_far (p := ⟨gb388, 1, none⟩) (Kd.R_far (p := ⟨gb388, 0, none⟩) (Kd.R_types HO381.out BK388.out (by decide)) (fun _ hk => hk.2) (.int .i64 t382)) (fun _ hk => hk.2) (.int .i64 t383)) (fun _ hk => hk.2) (.slice Ao80 t384.length co80)) (fun _ h_ => h_.1))) hb); replace HO386 := aM (Kd.R_below (xrt (Kd.R_mono (Kd.R_far (p := ⟨gb388, 2, none⟩) (Kd.R_far (p := ⟨gb388, 1, none⟩) (Kd.R_far (p := ⟨gb388, 0, none⟩) (Kd.R_types HO386.out BK388.out (by decide)) (fun _ hk => hk.2) (.int .i64 t382)) (fun _ hk => hk.2) (.int .i64 t383)) (fun _ hk => hk.2) (.slice Ao80 t384.length co80)) (fun _ h_ => h_.1))) hb); replace BK357 := aM (blk_below (g := gb357) (o := .cells #[.int .i64 t351, .int .i64 t352, .slice Ao16 t353.length co16] 28 (0, 0)) (by (with_reducible repeat (first | refine blk_drewN ?_ _ | refine blk_drew ?_ | refine blk_alloc ?_ _)); refine blk_far ?_ NB357_388.out _; (with_reducible repeat (first | refine blk_drewN ?_ _ | refine blk_drew ?_ | refine blk_alloc ?_ _)); refine blk_far ?_ NB357_388.out _; (with_reducible repeat (first | refine blk_drewN ?_ _ | refine blk_drew ?_ | refine blk_alloc ?_ _)); refine blk_far ?_ NB357_388.out _; (with_reducible repeat (first | refine blk_drewN ?_ _ | refine blk_drew ?_ | refine blk_alloc ?_ _)); exact BK357.out) hb); replace BK367 := aM (blk_below (g := gb367) (o := .cells #[.int .i64 t361, .int .i64 t362, .slice Ao23 t363.length co23] 28 (0, 0)) (by (with_reducible repeat (first | refine blk_drewN ?_ _ | refine blk_drew ?_ | refine blk_alloc ?_ _)); refine blk_far ?_ NB367_388.out _; (with_reducible repeat (first | refine blk_drewN ?_ _ | refine blk_drew ?_ | refine blk_alloc ?_ _)); refine blk_far ?_ NB367_388.out _; (with_reducible repeat (first | refine blk_drewN ?_ _ | refine blk_drew ?_ | refine blk_alloc ?_ _)); refine blk_far ?_ NB367_388.out _; (with_reducible repeat (first | refine blk_drewN ?_ _ | refine blk_drew ?_ | refine blk_alloc ?_ _)); exact BK367.out) hb); replace BK388 := aM (blk_below (g := gb388) (o := .cells #[.int .i64 t382, .int .i64 t383, .slice Ao80 t384.length co80] 28 (0, 0)) (by (with_reducible repeat (first | refine blk_drewN ?_ _ | refine blk_drew ?_ | refine blk_alloc ?_ _)); refine blk_put (cs := #[.int .i64 t382, .int .i64 t383, .slice none 0 0]) ?_ 2 _ rfl; (with_reducible repeat (first | refine blk_drewN ?_ _ | refine blk_drew ?_ | refine blk_alloc ?_ _)); refine blk_put (cs := #[.int .i64 t382, .int .i64 0, .slice none 0 0]) ?_ 1 _ rfl; (with_reducible repeat (first | refine blk_drewN ?_ _ | refine blk_drew ?_ | refine blk_alloc ?_ _)); refine blk_put (cs := #[.int .i64 0, .int .i64 0, .slice none 0 0]) ?_ 0 _ rfl; (with_reducible repeat (first | refine blk_drewN ?_ _ | refine blk_drew ?_ | refine blk_alloc ?_ _)); exact BK388.out) hb); replace HB := xbs hb; (try clear hb); (try clear hb2); (try clear hk); (try clear hi)))
             go_meet
             case rel => exact ⟨_, (true), (by first | rfl | (simp; done) | (simp [*]; done)), H', ⟨by have := HJ8.out; have := HJ38.out; first | omega | exact Nat.le_refl _⟩, ⟨by (with_reducible repeat (first | apply Kd.R_alloc | apply Kd.R_drewN | apply Kd.R_drew)); exact HO_358002.out⟩, ⟨by (with_reducible repeat (first | apply Kd.R_alloc | apply Kd.R_drewN | apply Kd.R_drew)); exact HO_368002.out⟩, ⟨by (with_reducible repeat (first | apply Kd.R_alloc | apply Kd.R_drewN | apply Kd.R_drew)); exact Kd.R_mono HO386.out (fun _ hk => ⟨hk.1.2, hk.2⟩)⟩, ⟨xblk⟩, ⟨xblk⟩, ⟨xblk⟩, ⟨xbg⟩⟩
           case rest =>
            clear HC67
            try clear c1
            try clear c2
            try clear p2
            try clear c3
            try clear c3b0
            try clear c4
            try clear c5
            try clear c6
            try clear c7
            try clear c8
            try clear c9
            try clear c17
            try clear c18
            try clear c21
            try clear c25
            try clear c26
            try clear c30
            try clear c34
            try clear c35
            try clear c36
            try clear c37
            try clear c44
            try clear c44b0
            try clear c46
            try clear c47
            try clear c51
            try clear c53
            try clear c54
            try clear c55
            try clear c56
            try clear c58
            try clear c58b0
            try clear c59
            try clear c64
            try clear c64b0
            try clear c64b1
            try clear c68
            try clear c77
            try clear c78
            try clear c82
            try clear c83
            try clear c84
            try clear c86
            try clear c89
            try clear c90
            try clear c92
            try clear hcz15_0
            try clear hcz15_1
            try clear hcz15_2
            try clear hcz22_0
            try clear hcz22_1
            try clear hcz22_2
            try clear hcz27_0
            try clear hcz27_1
            try clear hcz27_2
            try clear hcz28_0
            try clear hcz28_1
            try clear hcz28_2
            try clear hcz31_0
            try clear hcz31_1
            try clear hcz31_2
            try clear hcz32_0
            try clear hcz32_1
            try clear hcz32_2
            try clear hcz48_0
            try clear hcz48_1
            try clear hcz48_2
            try clear hcz49_0
            try clear hcz49_1
            try clear hcz49_2
            try clear hcz52_0
            try clear hcz52_1
            try clear hcz52_2
            try clear hcz53_0
            try clear hcz53_1
            try clear hcz53_2
            try clear hcz60_0
            try clear hcz60_1
            try clear hcz60_2
            try clear hcz62_0
            try clear hcz62_1
            try clear hcz62_2
            try clear hcz69_0
            try clear hcz69_1
            try clear hcz69_2
            try clear hcz71_0
            try clear hcz71_1
            try clear hcz71_2
            try clear hcz79_0
            try clear hcz79_1
            try clear hcz79_2
            try clear hcz85_0
            try clear hcz85_1
            try clear hcz85_2
            try clear hcz87_0
            try clear hcz87_1
            try clear hcz87_2
            try clear hcz91_0
            try clear hcz91_1
            try clear hcz91_2
            try clear hcz93_0
            try clear hcz93_1
            try clear hcz93_2
            try clear hfz15_0
            try clear hfz15_1
            try clear hfz15_2
            try clear hfz22_0
            try clear hfz22_1
            try clear hfz22_2
            try clear hfz27_0
            try clear hfz27_1
            try clear hfz27_2
            try clear hfz28_0
            try clear hfz28_1
            try clear hfz28_2
            try clear hfz31_0
            try clear hfz31_1
            try clear hfz31_2
            try clear hfz32_0
            try clear hfz32_1
            try clear hfz32_2
            try clear hfz48_0
            try clear hfz48_1
            try clear hfz48_2
            try clear hfz49_0
            try clear hfz49_1
            try clear hfz49_2
            try clear hfz52_0
            try clear hfz52_1
            try clear hfz52_2
            try clear hfz53_0
            try clear hfz53_1
            try clear hfz53_2
            try clear hfz60_0
            try clear hfz60_1
            try clear hfz60_2
            try clear hfz62_0
            try clear hfz62_1
            try clear hfz62_2
            try clear hfz69_0
            try clear hfz69_1
            try clear hfz69_2
            try clear hfz71_0
            try clear hfz71_1
            try clear hfz71_2
            try clear hfz79_0
            try clear hfz79_1
            try clear hfz79_2
            try clear hfz85_0
            try clear hfz85_1
            try clear hfz85_2
            try clear hfz87_0
            try clear hfz87_1
            try clear hfz87_2
            try clear hfz91_0
            try clear hfz91_1
            try clear hfz91_2
            try clear hfz93_0
            try clear hfz93_1
            try clear hfz93_2
            try clear p2
            obtain ⟨kq, x87_66, rfl, HA, HJ66, HO_358002, HO_368002, HO_389002, BK357, BK367, BK388, HB⟩ := hcut
            have hl368002_66 := (Kd.R_reads' HO_368002.out).1
            rw [hl368002_66] at HO_368002
            (try simp only [hl368002_66])
            (try simp only [hl368002_66] at BK357)
            (try simp only [hl368002_66] at BK367)
            (try simp only [hl368002_66] at BK388)
            (try simp only [hl368002_66] at HO_358002)
            (try simp only [hl368002_66] at HO_389002)
            cases kq with
            | zero => exact absurd HA.out (by simp [laws_FnExactHardOf.j2])
            | succ kj66 =>
             have H := HA.out; clear HA
             simp only [laws_FnExactHardOf.j2] at H
             by_cases c95 : x87_66 = true
             ·subst c95
              have H1 : (some false) = some r := by rw [if_pos rfl] at H; exact H
              clear H; have H := H1; clear H1
              obtain rfl := Option.some.inj H
              go_wp2
              go_ret
              exact ⟨by first | rfl | (simp [errW_none, errW_some] <;> rfl) | (simp [*, errW_none, errW_some] <;> rfl), xbg⟩
             ·replace c95 := Bool.eq_false_iff.mpr c95
              subst c95
              have H1 : ((laws_heldHard.f kj66 t361 t362 t377 1).bind fun t390 => (if t390 < 0 then (some false) else (if t390 = t376 then (some true) else (some false)))) = some r := by rw [if_neg (show ¬ (false = true) by decide)] at H; exact H
              clear H; have H := H1; clear H1; replace H := Option.bind_eq_some_iff.mp H
              obtain ⟨t390, A960, H⟩ := H
              replace H : (if t390 < 0 then (some false) else (if t390 = t376 then (some true) else (some false))) = some r := H; have A96 := aM A960; clear A960
              by_cases c97 : t390 < 0
              ·rw [if_pos c97] at H
               have c97b0 : decide (t390 < 0) = true := decide_eq_true c97; clear c97
               obtain rfl := Option.some.inj H
               have hnb98 := NB367_357.out; have hnc98 := NB357_367.out; have hnb99 := NB367_388.out; have hnc99 := NB388_367.out; obtain ⟨hcz100_0, hcz100_1, hcz100_2, hfz100_0, hfz100_1, hfz100_2⟩ := xf3 (w := wc) BK367
               go_wp2_with (first | ((with_reducible refine gate_callee (f := 36) rfl ?_); refine goesL_ (some 90) rfl rfl Try.func36 (by kernel_rfl) rfl #[.agg #[.int .i64 t361, .int .i64 t362, .slice Ao23 t377.length co23], .int .i64 1] rfl (by (try simp only [List.map_toArray, List.map_cons, List.map_nil]); first | done | rfl | (simp only [List.length_drop, List.length_take]; rfl)) ?_; (with_reducible refine (laws_heldHard.calls kj66 t361 t362 _ _ t377 1 t390 _ ?side1 ?side2 A96.out).mono ?_); (case side1 => repeat (first | exact (Kd.R_reads' HO_368002.out).2.2 | (with_reducible refine Kd.C_alloc ?_ _) | (with_reducible refine Kd.C_drewN ?_ _) | (with_reducible refine Kd.C_drew ?_))); (case side2 => exact (Kd.R_reads' HO_368002.out).2.1); rintro e w101 ⟨rfl, hb⟩; refine ⟨_, rfl, ?_⟩; replace HO_358002 := aM (Kd.R_below (xr HO_358002) hb); replace HO_368002 := aM (Kd.R_below (xr HO_368002) hb); replace HO_389002 := aM (Kd.R_below (xr HO_389002) hb); replace BK357 := xbb BK357 hb; replace BK367 := xbb BK367 hb; replace BK388 := xbb BK388 hb; replace HB := xbs hb; (try clear hb); (try clear hb2); (try clear hk); (try clear hi)))
               go_ret
               exact ⟨by first | rfl | (simp [errW_none, errW_some] <;> rfl) | (simp [*, errW_none, errW_some] <;> rfl), xbg⟩
              ·rw [if_neg c97] at H
               have c97b0 : decide (t390 < 0) = false := decide_eq_false c97; clear c97
               by_cases c102 : t390 = t376
               ·rw [if_pos c102] at H
                have c102b0 : (t390 == t376) = true := beq_iff_eq.mpr c102; have c102b1 : (t390 != t376) = false := bne_eq_false_iff_eq.mpr c102; clear c102
                obtain rfl := Option.some.inj H
                have hnb103 := NB367_357.out; have hnc103 := NB357_367.out; have hnb104 := NB367_388.out; have hnc104 := NB388_367.out; obtain ⟨hcz105_0, hcz105_1, hcz105_2, hfz105_0, hfz105_1, hfz105_2⟩ := xf3 (w := wc) BK367
                go_wp2_with (first | ((with_reducible refine gate_callee (f := 36) rfl ?_); refine goesL_ (some 90) rfl rfl Try.func36 (by kernel_rfl) rfl #[.agg #[.int .i64 t361, .int .i64 t362, .slice Ao23 t377.length co23], .int .i64 1] rfl (by (try simp only [List.map_toArray, List.map_cons, List.map_nil]); first | done | rfl | (simp only [List.length_drop, List.length_take]; rfl)) ?_; (with_reducible refine (laws_heldHard.calls kj66 t361 t362 _ _ t377 1 t390 _ ?side1 ?side2 A96.out).mono ?_); (case side1 => repeat (first | exact (Kd.R_reads' HO_368002.out).2.2 | (with_reducible refine Kd.C_alloc ?_ _) | (with_reducible refine Kd.C_drewN ?_ _) | (with_reducible refine Kd.C_drew ?_))); (case side2 => exact (Kd.R_reads' HO_368002.out).2.1); rintro e w106 ⟨rfl, hb⟩; refine ⟨_, rfl, ?_⟩; replace HO_358002 := aM (Kd.R_below (xr HO_358002) hb); replace HO_368002 := aM (Kd.R_below (xr HO_368002) hb); replace HO_389002 := aM (Kd.R_below (xr HO_389002) hb); replace BK357 := xbb BK357 hb; replace BK367 := xbb BK367 hb; replace BK388 := xbb BK388 hb; replace HB := xbs hb; (try clear hb); (try clear hb2); (try clear hk); (try clear hi)))
                go_ret
                exact ⟨by first | rfl | (simp [errW_none, errW_some] <;> rfl) | (simp [*, errW_none, errW_some] <;> rfl), xbg⟩
               ·rw [if_neg c102] at H
                have c102b0 : (t390 == t376) = false := beq_eq_false_iff_ne.mpr c102; have c102b1 : (t390 != t376) = true := bne_iff_ne.mpr c102
                obtain rfl := Option.some.inj H
                have hnb107 := NB367_357.out; have hnc107 := NB357_367.out; have hnb108 := NB367_388.out; have hnc108 := NB388_367.out; obtain ⟨hcz109_0, hcz109_1, hcz109_2, hfz109_0, hfz109_1, hfz109_2⟩ := xf3 (w := wc) BK367
                go_wp2_with (first | ((with_reducible refine gate_callee (f := 36) rfl ?_); refine goesL_ (some 90) rfl rfl Try.func36 (by kernel_rfl) rfl #[.agg #[.int .i64 t361, .int .i64 t362, .slice Ao23 t377.length co23], .int .i64 1] rfl (by (try simp only [List.map_toArray, List.map_cons, List.map_nil]); first | done | rfl | (simp only [List.length_drop, List.length_take]; rfl)) ?_; (with_reducible refine (laws_heldHard.calls kj66 t361 t362 _ _ t377 1 t390 _ ?side1 ?side2 A96.out).mono ?_); (case side1 => repeat (first | exact (Kd.R_reads' HO_368002.out).2.2 | (with_reducible refine Kd.C_alloc ?_ _) | (with_reducible refine Kd.C_drewN ?_ _) | (with_reducible refine Kd.C_drew ?_))); (case side2 => exact (Kd.R_reads' HO_368002.out).2.1); rintro e w110 ⟨rfl, hb⟩; refine ⟨_, rfl, ?_⟩; replace HO_358002 := aM (Kd.R_below (xr HO_358002) hb); replace HO_368002 := aM (Kd.R_below (xr HO_368002) hb); replace HO_389002 := aM (Kd.R_below (xr HO_389002) hb); replace BK357 := xbb BK357 hb; replace BK367 := xbb BK367 hb; replace BK388 := xbb BK388 hb; replace HB := xbs hb; (try clear hb); (try clear hb2); (try clear hk); (try clear hi)))
                go_ret
                exact ⟨by first | rfl | (simp [errW_none, errW_some] <;> rfl) | (simp [*, errW_none, errW_some] <;> rfl), xbg⟩
          ·rw [if_neg c64] at H
           have c64b0 : (t378 == t376) = false := beq_eq_false_iff_ne.mpr c64; have c64b1 : (t378 != t376) = true := bne_iff_ne.mpr c64
           obtain rfl := Option.some.inj H
           have hnb111 := NB367_357.out; have hnc111 := NB357_367.out; obtain ⟨hcz112_0, hcz112_1, hcz112_2, hfz112_0, hfz112_1, hfz112_2⟩ := xf3 (w := wc) BK367
           go_wp2_with (first | ((with_reducible refine gate_callee (f := 35) rfl ?_); refine goesL_ (some 64) rfl rfl Try.func35 (by kernel_rfl) rfl #[.agg #[.int .i64 t361, .int .i64 t362, .slice Ao23 t363.length co23], .int .i64 1] rfl (by (try simp only [List.map_toArray, List.map_cons, List.map_nil]); first | done | rfl | (simp only [List.length_drop, List.length_take]; rfl)) ?_; (with_reducible refine (laws_markHard.calls kj38 t361 t362 (fun k_ => some k_ = (.slice Ao23 t363.length co23 : Value).ownBlock) (.slice Ao23 t363.length co23) t363 1 t376 t377 w _ ?side1 ?side2 A56.out).mono ?_); (case side1 => repeat (first | (with_reducible first | exact HB.out | apply below_alloc | apply pw_below_drewN | apply below_drew1 | refine below_set ?_ GE357.out | refine below_set ?_ GE367.out) | exact HB.out)); (case side2 => exact Kd.R_tight rfl HO_368002.out); rintro e w113 ⟨rfl, hy0, hb, hkp⟩; refine ⟨_, rfl, ?_⟩; have n0_ := aM (Kd.R_mono (ok' := fun k_ => some k_ ≠ (.slice Ao23 t363.length co23 : Value).ownBlock) (Kd.R_keptB (HO_358002.out) hkp (fun k_ hk_ hs_ => (hk_) hs_)) (fun k_ hk_ => hk_.1)); have n1_ := aM (Kd.R_reok rfl hy0 (fun k_ e_ => HO_368002.out.1 k_ e_)); have n2_ := aM (blk_kept xblk hkp (fun hs_ => (fun e_ => (Kd.R_ne HO_368002.out BK357.out (by decide)) e_) hs_)); have n3_ := aM (blk_kept xblk hkp (fun hs_ => (fun e_ => (Kd.R_ne HO_368002.out BK367.out (by decide)) e_) hs_)); have n4_ := aM (hb); clear HO_358002; clear HO_368002; clear BK357; clear BK367; clear HB; have HO_358002 := n0_; have HO_368002 := n1_; have BK357 := n2_; have BK367 := n3_; have HB := n4_; clear n0_ n1_ n2_ n3_ n4_; (try clear hb); (try clear hkp); (try clear hy0); obtain ⟨hcz114_0, hcz114_1, hcz114_2, hfz114_0, hfz114_1, hfz114_2⟩ := xf3 (w := w113) BK367) | ((with_reducible refine gate_callee (f := 36) rfl ?_); refine goesL_ (some 67) rfl rfl Try.func36 (by kernel_rfl) rfl #[.agg #[.int .i64 t361, .int .i64 t362, .slice Ao23 t377.length co23], .int .i64 1] rfl (by (try simp only [List.map_toArray, List.map_cons, List.map_nil]); first | done | (rw [show t377.length = t363.length from (Kd.R_reads' HO_368002.out).1.symm] <;> rfl) | rfl | (simp only [List.length_drop, List.length_take]; rfl)) ?_; (with_reducible refine (laws_heldHard.calls kj38 t361 t362 _ _ t377 1 t378 _ ?side1 ?side2 A57.out).mono ?_); (case side1 => repeat (first | exact (Kd.R_reads' HO_368002.out).2.2 | (with_reducible refine Kd.C_alloc ?_ _) | (with_reducible refine Kd.C_drewN ?_ _) | (with_reducible refine Kd.C_drew ?_))); (case side2 => rw [show t377.length = t363.length from (Kd.R_reads' HO_368002.out).1.symm]; exact (Kd.R_reads' HO_368002.out).2.1); rintro e w115 ⟨rfl, hb⟩; refine ⟨_, rfl, ?_⟩; replace HO_358002 := aM (Kd.R_below (xr HO_358002) hb); replace HO_368002 := aM (Kd.R_below (xr HO_368002) hb); replace BK357 := xbb BK357 hb; replace BK367 := xbb BK367 hb; replace HB := xbs hb; (try clear hb); (try clear hb2); (try clear hk); (try clear hi)))
           go_ret
           exact ⟨by first | rfl | (simp [errW_none, errW_some] <;> rfl) | (simp [*, errW_none, errW_some] <;> rfl), xbg⟩
     ·replace c37 := Bool.eq_false_iff.mpr c37
      subst c37
      have H1 : (some false) = some r := by rw [if_neg (show ¬ (false = true) by decide)] at H; exact H
      clear H; have H := H1; clear H1
      obtain rfl := Option.some.inj H
      go_wp2_with (first | ((with_reducible refine gate_callee (f := 54) rfl ?_); refine goesL_ (some 43) rfl rfl Try.func54 (by kernel_rfl) rfl #[.slice A0 l0.length c0] rfl (by (try simp only [List.map_toArray, List.map_cons, List.map_nil]); first | done | rfl | (simp only [List.length_drop, List.length_take]; rfl)) ?_; (with_reducible refine (laws_toRecS.calls kj8 _ _ l0 t369 _ ?side1 ?side2 A35.out).mono ?_); (case side1 => exact xcb HR0); (case side2 => exact HC0.out); rintro e w116 ⟨v370, rfl, ho0, hb⟩; refine ⟨_, rfl, ?_⟩; replace HO_358002 := aM (Kd.R_below (xr HO_358002) hb); replace HO_368002 := aM (Kd.R_below (xr HO_368002) hb); have HO371 := aM (Kd.R_lower (Kd.R_new' ho0 (Kd.R_lt (xr HO_6))) (below_size xbg)); replace HO_6 := aM (Kd.R_elder' (xr HO_6) (Kd.R_base ho0) hb); replace BK357 := xbb BK357 hb; replace BK367 := xbb BK367 hb; replace HB := xbs hb; (try clear hb); (try clear hb2); (try clear hk); (try clear hi); (try clear ho0); obtain ⟨Ao117, co117, eo117⟩ := Kd.R_slice HO371.out; subst eo117) | ((with_reducible refine gate_callee (f := 55) rfl ?_); refine goesL_ (some 44) rfl rfl Try.func55 (by kernel_rfl) rfl #[.slice Ao18 t358.length co18, .slice Ao117 t369.length co117] rfl (by (try simp only [List.map_toArray, List.map_cons, List.map_nil]); first | done | rfl | (simp only [List.length_drop, List.length_take]; rfl)) ?_; (with_reducible refine (laws_eqRecS.calls kj8 _ _ t358 _ _ t369 false _ ?side1 ?side2 ?side3 ?side4 A36.out).mono ?_); (case side1 => repeat (first | exact (Kd.R_reads' HO_6.out).2.2 | (with_reducible refine Kd.C_alloc ?_ _) | (with_reducible refine Kd.C_drewN ?_ _) | (with_reducible refine Kd.C_drew ?_))); (case side2 => exact (Kd.R_reads' HO_6.out).2.1); (case side3 => repeat (first | exact (Kd.R_reads' HO371.out).2.2 | (with_reducible refine Kd.C_alloc ?_ _) | (with_reducible refine Kd.C_drewN ?_ _) | (with_reducible refine Kd.C_drew ?_))); (case side4 => exact (Kd.R_reads' HO371.out).2.1); rintro e w118 ⟨rfl, hb⟩; refine ⟨_, rfl, ?_⟩; replace HO_6 := aM (Kd.R_below (xr HO_6) hb); replace HO_358002 := aM (Kd.R_below (xr HO_358002) hb); replace HO_368002 := aM (Kd.R_below (xr HO_368002) hb); replace HO371 := aM (Kd.R_below (xr HO371) hb); replace BK357 := xbb BK357 hb; replace BK367 := xbb BK367 hb; replace HB := xbs hb; (try clear hb); (try clear hb2); (try clear hk); (try clear hi)))
      go_ret
      exact ⟨by first | rfl | (simp [errW_none, errW_some] <;> rfl) | (simp [*, errW_none, errW_some] <;> rfl), xbg⟩

/-- THE ONE PURE STATEMENT of laws_FnExactHardOf. -/
def Q52 (x : S52) : Prop := (Lit.int .i64 x.f0).wf = true ∧ (Lit.int .i64 x.f1).wf = true ∧ (Lit.int .i64 x.f2).wf = true ∧ (Lit.int .i64 x.f3).wf = true ∧ x.f4.size ≤ 140737488351232
def Q54 (x : S54) : Prop := (Lit.int .i64 x.f0).wf = true ∧ Q52 x.f1
def Q56 (x : S56) : Prop := (Lit.int .i64 x.f0).wf = true ∧ (Lit.int .i64 x.f1).wf = true ∧ (Lit.int .i64 x.f2).wf = true ∧ (Lit.int .i64 x.f3).wf = true ∧ Q54 x.f4
def laws_FnExactHardOf.Pure : Prop := ∀ (l0 : List (S56)), l0.length ≤ maxLen → l0.length * 88 ≤ 140737488351232 → (∀ x ∈ l0, Q56 x) → ∃ k, laws_FnExactHardOf.f k l0 = some true
theorem laws_FnExactHardOf.walk (P : laws_FnExactHardOf.Pure) (A0 : Option Addr) (c0 : Nat) (l0 : List (S56)) (w : World) (hr0 : Kd.C k56 w A0 l0.length l0) (hc0 : l0.length ≤ c0) (hm0 : l0.length ≤ maxLen) (hz0 : l0.length * 88 ≤ 140737488351232) (hw0 : ∀ x ∈ l0, Q56 x) :
 Calls Try.prog 9 #[.slice A0 l0.length c0] w fun e w' => e = .returned (.bool true) ∧ Below w.heap.size w w' := by
 obtain ⟨k, h⟩ := P l0 hm0 hz0 hw0
 refine (laws_FnExactHardOf.calls k A0 c0 l0 true w hr0 hc0 h).mono ?_
 rintro e w' ⟨rfl, hd⟩
 exact ⟨rfl, hd⟩

end Go.Proofs.Ytnjpfllmcmomoaa.QFnExactHardOf
