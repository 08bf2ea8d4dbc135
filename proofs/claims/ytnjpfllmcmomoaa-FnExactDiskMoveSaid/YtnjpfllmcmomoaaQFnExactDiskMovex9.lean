-- A walk, by a program of this session.
import Derived.Test.YtnjpfllmcmomoaaQFnExactDiskMovex0
import Derived.Test.YtnjpfllmcmomoaaQFnExactDiskMovex1
import Derived.Test.YtnjpfllmcmomoaaQFnExactDiskMovex2
import Derived.Test.YtnjpfllmcmomoaaQFnExactDiskMovex5
import Derived.Test.YtnjpfllmcmomoaaQFnExactDiskMovex8
namespace Go.Proofs.Ytnjpfllmcmomoaa.QFnExactDiskMove
open Go.RowKit Go.Proofs.YtnjpfllmcmomoaaW.PrintWords Go.Proofs.YtnjpfllmcmomoaaW.PrintLast Go.Proofs.YtnjpfllmcmomoaaW.PrintMore
attribute [local go_sem] max2_int min2_int max_two min_two max_three min_three max_four min_four   -- for this text's walks alone
set_option linter.unusedVariables false
set_option linter.unusedSimpArgs false

/-! ### laws_FnExactDiskMove: function 7 -/
mutual
def laws_FnExactDiskMove.j0 : Nat → Int → Int → Int → Int → Bool → Int → List (S164) → Int → List (S134) → Int → List (S134) → Int → List (S134) → Option (Bool)
 | 0, _, _, _, _, _, _, _, _, _, _, _, _, _ => none
 | k + 1, x1, x2, x9, x12, x48, x232000, x232001, x243000, x243001, x248000, x248001, x254000, x254001 => if x48 = true then (some false) else ((laws_toDisk.f k x232000 x232001).bind fun bt255 => ((laws_eqDisk.f k x248000 x248001 bt255.1 bt255.2).bind fun t259 => (if t259 = true then ((laws_markDisk.f k x248000 x248001 1).bind fun bt260 => (if bt260.1 < 0 then (laws_FnExactDiskMove.j1 k x1 x2 x9 true x232000 x232001 x243000 x243001 x254000 x254001) else ((laws_eqDisk.f k x254000 x254001 x243000 x243001).bind fun t262 => (if t262 = true then (laws_FnExactDiskMove.j1 k x1 x2 x9 (x12 != x9) x232000 x232001 x243000 x243001 x254000 x254001) else (laws_FnExactDiskMove.j1 k x1 x2 x9 true x232000 x232001 x243000 x243001 x254000 x254001))))) else (some false))))
def laws_FnExactDiskMove.j1 : Nat → Int → Int → Int → Bool → Int → List (S164) → Int → List (S134) → Int → List (S134) → Option (Bool)
 | 0, _, _, _, _, _, _, _, _, _, _ => none
 | k + 1, x1, x2, x9, x69, x232000, x232001, x243000, x243001, x254000, x254001 => if x69 = true then (some false) else ((laws_markDisk.f k x254000 x254001 1).bind fun bt263 => ((laws_heldDisk.f k x254000 bt263.2 1).bind fun t265 => (if t265 < 0 then (some false) else (if t265 = bt263.1 then ((laws_toDisk.f k x232000 x232001).bind fun bt266 => ((impl_DiskMove.f k bt266.1 bt266.2 x1 x2).bind fun bt270 => ((laws_eqDisk.f k bt270.1 bt270.2.1 x243000 x243001).bind fun t276 => (if t276 = true then (laws_FnExactDiskMove.j2 k bt263.1 (bt270.2.2 != x9) x254000 bt263.2) else (laws_FnExactDiskMove.j2 k bt263.1 true x254000 bt263.2))))) else (some false)))))
def laws_FnExactDiskMove.j2 : Nat → Int → Bool → Int → List (S134) → Option (Bool)
 | 0, _, _, _, _ => none
 | k + 1, x14, x97, x254000, x254001 => if x97 = true then (some false) else ((laws_heldDisk.f k x254000 x254001 1).bind fun t277 => (if t277 < 0 then (some false) else (if t277 = x14 then (some true) else (some false))))
end
def laws_FnExactDiskMove.f (k : Nat) (a0_0 : Int) (l0_1 : List (S164)) (a1 : Int) (a2 : Int) : Option (Bool) := (laws_szDisk.f k a0_0 l0_1 1048576).bind fun t232 => (if t232 < 0 then (some true) else ((laws_toDisk.f k a0_0 l0_1).bind fun bt233 => ((spec_DiskMove.f k bt233.1 bt233.2 a1 a2).bind fun bt237 => ((laws_toDisk.f k a0_0 l0_1).bind fun bt243 => ((impl_DiskMove.f k bt243.1 bt243.2 a1 a2).bind fun bt248 => ((laws_eqDisk.f k bt248.1 bt248.2.1 bt237.1 bt237.2.1).bind fun t254 => (if t254 = true then (laws_FnExactDiskMove.j0 k a1 a2 bt237.2.2 bt248.2.2 (bt248.2.2 != bt237.2.2) a0_0 l0_1 bt237.1 bt237.2.1 bt243.1 bt243.2 bt248.1 bt248.2.1) else (laws_FnExactDiskMove.j0 k a1 a2 bt237.2.2 bt248.2.2 true a0_0 l0_1 bt237.1 bt237.2.1 bt243.1 bt243.2 bt248.1 bt248.2.1))))))))
set_option maxRecDepth 100000 in
theorem laws_FnExactDiskMove.mono_l : ∀ k, (∀ y0 y1 y2 y3 y4 y5 y6 y7 y8 y9 y10 y11 y12, LeO (laws_FnExactDiskMove.j0 k y0 y1 y2 y3 y4 y5 y6 y7 y8 y9 y10 y11 y12) (laws_FnExactDiskMove.j0 (k + 1) y0 y1 y2 y3 y4 y5 y6 y7 y8 y9 y10 y11 y12)) ∧ (∀ y0 y1 y2 y3 y4 y5 y6 y7 y8 y9, LeO (laws_FnExactDiskMove.j1 k y0 y1 y2 y3 y4 y5 y6 y7 y8 y9) (laws_FnExactDiskMove.j1 (k + 1) y0 y1 y2 y3 y4 y5 y6 y7 y8 y9)) ∧ (∀ y0 y1 y2 y3, LeO (laws_FnExactDiskMove.j2 k y0 y1 y2 y3) (laws_FnExactDiskMove.j2 (k + 1) y0 y1 y2 y3))
 | 0 => ⟨fun _ _ _ _ _ _ _ _ _ _ _ _ _ r h => by simp [laws_FnExactDiskMove.j0] at h, fun _ _ _ _ _ _ _ _ _ _ r h => by simp [laws_FnExactDiskMove.j1] at h, fun _ _ _ _ r h => by simp [laws_FnExactDiskMove.j2] at h⟩
 | k + 1 => by
  obtain ⟨ih0, ih1, ih2⟩ := laws_FnExactDiskMove.mono_l k
  refine ⟨?_, ?_, ?_⟩
  ·intro y0 y1 y2 y3 y4 y5 y6 y7 y8 y9 y10 y11 y12
   unfold laws_FnExactDiskMove.j0
   repeat' first
   | (with_reducible exact ih0 _ _ _ _ _ _ _ _ _ _ _ _ _)
   | (with_reducible exact ih1 _ _ _ _ _ _ _ _ _ _)
   | (with_reducible exact ih2 _ _ _ _)
   | (with_reducible exact impl_DiskMove.mono _ _ _ _ _)
   | (with_reducible exact laws_eqDisk.mono _ _ _ _ _)
   | (with_reducible exact laws_heldDisk.mono _ _ _ _)
   | (with_reducible exact laws_markDisk.mono _ _ _ _)
   | (with_reducible exact laws_szDisk.mono _ _ _ _)
   | (with_reducible exact laws_toDisk.mono _ _ _)
   | (with_reducible exact spec_DiskMove.mono _ _ _ _ _)
   | (with_reducible exact LeO.refl _)
   | (with_reducible exact LeO.none _)
   | (with_reducible refine LeO.ite ?_ ?_)
   | (with_reducible refine LeO.bind ?_ (fun _ => ?_))
   | exact ih0 _ _ _ _ _ _ _ _ _ _ _ _ _
   | exact ih1 _ _ _ _ _ _ _ _ _ _
   | exact ih2 _ _ _ _
   | exact impl_DiskMove.mono _ _ _ _ _
   | exact laws_eqDisk.mono _ _ _ _ _
   | exact laws_heldDisk.mono _ _ _ _
   | exact laws_markDisk.mono _ _ _ _
   | exact laws_szDisk.mono _ _ _ _
   | exact laws_toDisk.mono _ _ _
   | exact spec_DiskMove.mono _ _ _ _ _
   | exact LeO.none _
   | refine LeO.ite ?_ ?_
   | refine LeO.bind ?_ (fun _ => ?_)
  ·intro y0 y1 y2 y3 y4 y5 y6 y7 y8 y9
   unfold laws_FnExactDiskMove.j1
   repeat' first
   | (with_reducible exact ih0 _ _ _ _ _ _ _ _ _ _ _ _ _)
   | (with_reducible exact ih1 _ _ _ _ _ _ _ _ _ _)
   | (with_reducible exact ih2 _ _ _ _)
   | (with_reducible exact impl_DiskMove.mono _ _ _ _ _)
   | (with_reducible exact laws_eqDisk.mono _ _ _ _ _)
   | (with_reducible exact laws_heldDisk.mono _ _ _ _)
   | (with_reducible exact laws_markDisk.mono _ _ _ _)
   | (with_reducible exact laws_szDisk.mono _ _ _ _)
   | (with_reducible exact laws_toDisk.mono _ _ _)
   | (with_reducible exact spec_DiskMove.mono _ _ _ _ _)
   | (with_reducible exact LeO.refl _)
   | (with_reducible exact LeO.none _)
   | (with_reducible refine LeO.ite ?_ ?_)
   | (with_reducible refine LeO.bind ?_ (fun _ => ?_))
   | exact ih0 _ _ _ _ _ _ _ _ _ _ _ _ _
   | exact ih1 _ _ _ _ _ _ _ _ _ _
   | exact ih2 _ _ _ _
   | exact impl_DiskMove.mono _ _ _ _ _
   | exact laws_eqDisk.mono _ _ _ _ _
   | exact laws_heldDisk.mono _ _ _ _
   | exact laws_markDisk.mono _ _ _ _
   | exact laws_szDisk.mono _ _ _ _
   | exact laws_toDisk.mono _ _ _
   | exact spec_DiskMove.mono _ _ _ _ _
   | exact LeO.none _
   | refine LeO.ite ?_ ?_
   | refine LeO.bind ?_ (fun _ => ?_)
  ·intro y0 y1 y2 y3
   unfold laws_FnExactDiskMove.j2
   repeat' first
   | (with_reducible exact ih0 _ _ _ _ _ _ _ _ _ _ _ _ _)
   | (with_reducible exact ih1 _ _ _ _ _ _ _ _ _ _)
   | (with_reducible exact ih2 _ _ _ _)
   | (with_reducible exact impl_DiskMove.mono _ _ _ _ _)
   | (with_reducible exact laws_eqDisk.mono _ _ _ _ _)
   | (with_reducible exact laws_heldDisk.mono _ _ _ _)
   | (with_reducible exact laws_markDisk.mono _ _ _ _)
   | (with_reducible exact laws_szDisk.mono _ _ _ _)
   | (with_reducible exact laws_toDisk.mono _ _ _)
   | (with_reducible exact spec_DiskMove.mono _ _ _ _ _)
   | (with_reducible exact LeO.refl _)
   | (with_reducible exact LeO.none _)
   | (with_reducible refine LeO.ite ?_ ?_)
   | (with_reducible refine LeO.bind ?_ (fun _ => ?_))
   | exact ih0 _ _ _ _ _ _ _ _ _ _ _ _ _
   | exact ih1 _ _ _ _ _ _ _ _ _ _
   | exact ih2 _ _ _ _
   | exact impl_DiskMove.mono _ _ _ _ _
   | exact laws_eqDisk.mono _ _ _ _ _
   | exact laws_heldDisk.mono _ _ _ _
   | exact laws_markDisk.mono _ _ _ _
   | exact laws_szDisk.mono _ _ _ _
   | exact laws_toDisk.mono _ _ _
   | exact spec_DiskMove.mono _ _ _ _ _
   | exact LeO.none _
   | refine LeO.ite ?_ ?_
   | refine LeO.bind ?_ (fun _ => ?_)
theorem laws_FnExactDiskMove.mono : ∀ a0 a1 a2 a3 k, LeO (laws_FnExactDiskMove.f k a0 a1 a2 a3) (laws_FnExactDiskMove.f (k + 1) a0 a1 a2 a3) := by
 intro a0 a1 a2 a3 k
 obtain ⟨ih0, ih1, ih2⟩ := laws_FnExactDiskMove.mono_l k
 unfold laws_FnExactDiskMove.f
 repeat' first
  | (with_reducible exact ih0 _ _ _ _ _ _ _ _ _ _ _ _ _)
  | (with_reducible exact ih1 _ _ _ _ _ _ _ _ _ _)
  | (with_reducible exact ih2 _ _ _ _)
  | (with_reducible exact impl_DiskMove.mono _ _ _ _ _)
  | (with_reducible exact laws_eqDisk.mono _ _ _ _ _)
  | (with_reducible exact laws_heldDisk.mono _ _ _ _)
  | (with_reducible exact laws_markDisk.mono _ _ _ _)
  | (with_reducible exact laws_szDisk.mono _ _ _ _)
  | (with_reducible exact laws_toDisk.mono _ _ _)
  | (with_reducible exact spec_DiskMove.mono _ _ _ _ _)
  | (with_reducible exact LeO.refl _)
  | (with_reducible exact LeO.none _)
  | (with_reducible refine LeO.ite ?_ ?_)
  | (with_reducible refine LeO.bind ?_ (fun _ => ?_))
  | exact ih0 _ _ _ _ _ _ _ _ _ _ _ _ _
  | exact ih1 _ _ _ _ _ _ _ _ _ _
  | exact ih2 _ _ _ _
  | exact impl_DiskMove.mono _ _ _ _ _
  | exact laws_eqDisk.mono _ _ _ _ _
  | exact laws_heldDisk.mono _ _ _ _
  | exact laws_markDisk.mono _ _ _ _
  | exact laws_szDisk.mono _ _ _ _
  | exact laws_toDisk.mono _ _ _
  | exact spec_DiskMove.mono _ _ _ _ _
  | exact LeO.none _
  | refine LeO.ite ?_ ?_
  | refine LeO.bind ?_ (fun _ => ?_)
set_option maxHeartbeats 8000000 in
set_option maxRecDepth 100000 in
theorem laws_FnExactDiskMove.calls (k : Nat) (a0_0 : Int) (A0_1 : Option Addr) (c0_1 : Nat) (l0_1 : List (S164)) (a1 : Int) (a2 : Int) (r : Bool) (w : World) (hr0_1 : Kd.C k164 w A0_1 l0_1.length l0_1) (hc0_1 : l0_1.length ≤ c0_1) (h : laws_FnExactDiskMove.f k a0_0 l0_1 a1 a2 = some r) :
 Calls Try.prog 7 #[.agg #[.int .i64 a0_0, .slice A0_1 l0_1.length c0_1], .int .i64 a1, .int .i64 a2] w fun e w' => e = .returned (.bool r) ∧ Below w.heap.size w w' := by
 have hu66 := Try.underlying66
 have hu70 := Try.underlying70
 have HR0_1 := aM hr0_1
 have HC0_1 := aM hc0_1
 clear hr0_1 hc0_1
 have HB := aM (Below.refl w.heap.size w)
 have H : ((laws_szDisk.f k a0_0 l0_1 1048576).bind fun t232 => (if t232 < 0 then (some true) else ((laws_toDisk.f k a0_0 l0_1).bind fun bt233 => ((spec_DiskMove.f k bt233.1 bt233.2 a1 a2).bind fun bt237 => ((laws_toDisk.f k a0_0 l0_1).bind fun bt243 => ((impl_DiskMove.f k bt243.1 bt243.2 a1 a2).bind fun bt248 => ((laws_eqDisk.f k bt248.1 bt248.2.1 bt237.1 bt237.2.1).bind fun t254 => (if t254 = true then (laws_FnExactDiskMove.j0 k a1 a2 bt237.2.2 bt248.2.2 (bt248.2.2 != bt237.2.2) a0_0 l0_1 bt237.1 bt237.2.1 bt243.1 bt243.2 bt248.1 bt248.2.1) else (laws_FnExactDiskMove.j0 k a1 a2 bt237.2.2 bt248.2.2 true a0_0 l0_1 bt237.1 bt237.2.1 bt243.1 bt243.2 bt248.1 bt248.2.1))))))))) = some r := h
 clear h
 replace H := Option.bind_eq_some_iff.mp H
 obtain ⟨t232, A40, H⟩ := H
 replace H : (if t232 < 0 then (some true) else ((laws_toDisk.f k a0_0 l0_1).bind fun bt233 => ((spec_DiskMove.f k bt233.1 bt233.2 a1 a2).bind fun bt237 => ((laws_toDisk.f k a0_0 l0_1).bind fun bt243 => ((impl_DiskMove.f k bt243.1 bt243.2 a1 a2).bind fun bt248 => ((laws_eqDisk.f k bt248.1 bt248.2.1 bt237.1 bt237.2.1).bind fun t254 => (if t254 = true then (laws_FnExactDiskMove.j0 k a1 a2 bt237.2.2 bt248.2.2 (bt248.2.2 != bt237.2.2) a0_0 l0_1 bt237.1 bt237.2.1 bt243.1 bt243.2 bt248.1 bt248.2.1) else (laws_FnExactDiskMove.j0 k a1 a2 bt237.2.2 bt248.2.2 true a0_0 l0_1 bt237.1 bt237.2.1 bt243.1 bt243.2 bt248.1 bt248.2.1)))))))) = some r := H
 have A4 := aM A40
 clear A40
 by_cases c5 : t232 < 0
 ·rw [if_pos c5] at H
  have c5b0 : decide (t232 < 0) = true := decide_eq_true c5; clear c5
  obtain rfl := Option.some.inj H
  go_enter Try.func7, Try.ntmps7
  go_wp2_with (first | ((with_reducible refine gate_dst (N := 3) rfl ?_); refine box_event ?hg (N := 3) ?hd (cs := #[.int .i64 a0_0, .slice A0_1 l0_1.length c0_1]) (t := 66) ?hr ?_; (case hd => rfl); (case hg => rfl); (case hr => first | (go_simp; done) | (go_simp; rfl)); intro gb231 hg w6 hbox hb; have BK231 := aM (hbox); have GW231 := aM (xge hg); have GE231 := aM (xge hg); replace HB := xbs hb; clear hb hbox hg; obtain ⟨hcz7_0, hcz7_1, hfz7_0, hfz7_1⟩ := xf2 (w := w6) BK231) | ((with_reducible refine gate_callee (f := 37) rfl ?_); refine goesL_ (some 20) rfl rfl Try.func37 (by kernel_rfl) rfl #[.agg #[.int .i64 a0_0, .slice A0_1 l0_1.length c0_1], .int .i64 1048576] rfl (by (try simp only [List.map_toArray, List.map_cons, List.map_nil]); first | done | rfl | (simp only [List.length_drop, List.length_take]; rfl)) ?_; (with_reducible refine (laws_szDisk.calls k a0_0 _ _ l0_1 1048576 t232 _ ?side1 ?side2 A4.out).mono ?_); (case side1 => exact xcb HR0_1); (case side2 => exact HC0_1.out); rintro e w8 ⟨rfl, hb⟩; refine ⟨_, rfl, ?_⟩; replace BK231 := xbb BK231 hb; replace HB := xbs hb; (try clear hb); (try clear hb2); (try clear hk); (try clear hi)))
  go_ret
  exact ⟨by first | rfl | (simp [errW_none, errW_some] <;> rfl) | (simp [*, errW_none, errW_some] <;> rfl), xbg⟩
 ·rw [if_neg c5] at H
  have c5b0 : decide (t232 < 0) = false := decide_eq_false c5; clear c5; replace H := Option.bind_eq_some_iff.mp H
  obtain ⟨⟨t233, t234⟩, A90, H⟩ := H
  replace H : ((spec_DiskMove.f k t233 t234 a1 a2).bind fun bt237 => ((laws_toDisk.f k a0_0 l0_1).bind fun bt243 => ((impl_DiskMove.f k bt243.1 bt243.2 a1 a2).bind fun bt248 => ((laws_eqDisk.f k bt248.1 bt248.2.1 bt237.1 bt237.2.1).bind fun t254 => (if t254 = true then (laws_FnExactDiskMove.j0 k a1 a2 bt237.2.2 bt248.2.2 (bt248.2.2 != bt237.2.2) a0_0 l0_1 bt237.1 bt237.2.1 bt243.1 bt243.2 bt248.1 bt248.2.1) else (laws_FnExactDiskMove.j0 k a1 a2 bt237.2.2 bt248.2.2 true a0_0 l0_1 bt237.1 bt237.2.1 bt243.1 bt243.2 bt248.1 bt248.2.1)))))) = some r := H; have A9 := aM A90; clear A90; replace H := Option.bind_eq_some_iff.mp H
  obtain ⟨⟨t237, t238, t241⟩, A100, H⟩ := H
  replace H : ((laws_toDisk.f k a0_0 l0_1).bind fun bt243 => ((impl_DiskMove.f k bt243.1 bt243.2 a1 a2).bind fun bt248 => ((laws_eqDisk.f k bt248.1 bt248.2.1 t237 t238).bind fun t254 => (if t254 = true then (laws_FnExactDiskMove.j0 k a1 a2 t241 bt248.2.2 (bt248.2.2 != t241) a0_0 l0_1 t237 t238 bt243.1 bt243.2 bt248.1 bt248.2.1) else (laws_FnExactDiskMove.j0 k a1 a2 t241 bt248.2.2 true a0_0 l0_1 t237 t238 bt243.1 bt243.2 bt248.1 bt248.2.1))))) = some r := H; have A10 := aM A100; clear A100; replace H := Option.bind_eq_some_iff.mp H
  obtain ⟨⟨t243, t244⟩, A110, H⟩ := H
  replace H : ((impl_DiskMove.f k t243 t244 a1 a2).bind fun bt248 => ((laws_eqDisk.f k bt248.1 bt248.2.1 t237 t238).bind fun t254 => (if t254 = true then (laws_FnExactDiskMove.j0 k a1 a2 t241 bt248.2.2 (bt248.2.2 != t241) a0_0 l0_1 t237 t238 t243 t244 bt248.1 bt248.2.1) else (laws_FnExactDiskMove.j0 k a1 a2 t241 bt248.2.2 true a0_0 l0_1 t237 t238 t243 t244 bt248.1 bt248.2.1)))) = some r := H; have A11 := aM A110; clear A110; replace H := Option.bind_eq_some_iff.mp H
  obtain ⟨⟨t248, t249, t252⟩, A120, H⟩ := H
  replace H : ((laws_eqDisk.f k t248 t249 t237 t238).bind fun t254 => (if t254 = true then (laws_FnExactDiskMove.j0 k a1 a2 t241 t252 (t252 != t241) a0_0 l0_1 t237 t238 t243 t244 t248 t249) else (laws_FnExactDiskMove.j0 k a1 a2 t241 t252 true a0_0 l0_1 t237 t238 t243 t244 t248 t249))) = some r := H; have A12 := aM A120; clear A120; have HC13 := aM H; clear H
  go_enter Try.func7, Try.ntmps7
  go_upto_region 8 with (first | ((with_reducible refine gate_dst (N := 3) rfl ?_); refine box_event ?hg (N := 3) ?hd (cs := #[.int .i64 a0_0, .slice A0_1 l0_1.length c0_1]) (t := 66) ?hr ?_; (case hd => rfl); (case hg => rfl); (case hr => first | (go_simp; done) | (go_simp; rfl)); intro gb231 hg w14 hbox hb; have BK231 := aM (hbox); have GW231 := aM (xge hg); have GE231 := aM (xge hg); replace HB := xbs hb; clear hb hbox hg; obtain ⟨hcz15_0, hcz15_1, hfz15_0, hfz15_1⟩ := xf2 (w := w14) BK231) | ((with_reducible refine gate_callee (f := 37) rfl ?_); refine goesL_ (some 20) rfl rfl Try.func37 (by kernel_rfl) rfl #[.agg #[.int .i64 a0_0, .slice A0_1 l0_1.length c0_1], .int .i64 1048576] rfl (by (try simp only [List.map_toArray, List.map_cons, List.map_nil]); first | done | rfl | (simp only [List.length_drop, List.length_take]; rfl)) ?_; (with_reducible refine (laws_szDisk.calls k a0_0 _ _ l0_1 1048576 t232 _ ?side1 ?side2 A4.out).mono ?_); (case side1 => exact xcb HR0_1); (case side2 => exact HC0_1.out); rintro e w16 ⟨rfl, hb⟩; refine ⟨_, rfl, ?_⟩; replace BK231 := xbb BK231 hb; replace HB := xbs hb; (try clear hb); (try clear hb2); (try clear hk); (try clear hi); obtain ⟨hcz17_0, hcz17_1, hfz17_0, hfz17_1⟩ := xf2 (w := w16) BK231) | ((with_reducible refine gate_callee (f := 39) rfl ?_); refine goesL_ (some 25) rfl rfl Try.func39 (by kernel_rfl) rfl #[.agg #[.int .i64 a0_0, .slice A0_1 l0_1.length c0_1]] rfl (by (try simp only [List.map_toArray, List.map_cons, List.map_nil]); first | done | rfl | (simp only [List.length_drop, List.length_take]; rfl)) ?_; (with_reducible refine (laws_toDisk.calls k a0_0 _ _ l0_1 t233 t234 _ ?side1 ?side2 A9.out).mono ?_); (case side1 => exact xcb HR0_1); (case side2 => exact HC0_1.out); rintro e w18 ⟨v235, rfl, ho0, hb⟩; refine ⟨_, rfl, ?_⟩; have HO236 := aM (Kd.R_lower ho0 (below_size xbg)); replace BK231 := xbb BK231 hb; replace HB := xbs hb; (try clear hb); (try clear hb2); (try clear hk); (try clear hi); (try clear ho0); obtain ⟨Ao19, co19, eo19⟩ := Kd.R_slice HO236.out; subst eo19) | ((with_reducible refine gate_callee (f := 44) rfl ?_); refine goesL_ (some 28) rfl rfl Try.func44 (by kernel_rfl) rfl #[.agg #[.int .i64 t233, .slice Ao19 t234.length co19], .int .i64 a1, .int .i64 a2] rfl (by (try simp only [List.map_toArray, List.map_cons, List.map_nil]); first | done | rfl | (simp only [List.length_drop, List.length_take]; rfl)) ?_; (with_reducible refine (spec_DiskMove.calls k t233 _ _ t234 a1 a2 t237 t238 t241 _ ?side1 ?side2 A10.out).mono ?_); (case side1 => repeat (first | exact (Kd.R_reads' HO236.out).2.2 | (with_reducible refine Kd.C_alloc ?_ _) | (with_reducible refine Kd.C_drewN ?_ _) | (with_reducible refine Kd.C_drew ?_))); (case side2 => exact (Kd.R_reads' HO236.out).2.1); rintro e w20 ⟨v239, rfl, ho0, hb⟩; refine ⟨_, rfl, ?_⟩; have HO240 := aM (Kd.R_lower (Kd.R_new' ho0 (Kd.R_lt (xr HO236))) (below_size xbg)); replace HO236 := aM (Kd.R_elder' (xr HO236) (Kd.R_base ho0) hb); replace BK231 := xbb BK231 hb; replace HB := xbs hb; (try clear hb); (try clear hb2); (try clear hk); (try clear hi); (try clear ho0)) | ((with_reducible refine gate_dst (N := 8) rfl ?_); refine box_event ?hg (N := 8) ?hd (cs := #[.int .i64 0, .slice none 0 0]) (t := 70) ?hr ?_; (case hd => rfl); (case hg => rfl); (case hr => first | (go_simp; done) | (go_simp; rfl)); intro gb242 hg w21 hbox hb; replace HO236 := aM (Kd.R_below (xr HO236) hb); replace HO240 := aM (Kd.R_below (xr HO240) hb); have GW242 := aM (xge hg); have GE242 := aM (xge hg); replace HB := xbs hb; have NB231_242 := aM ((by rw [hg]; exact Nat.ne_of_lt (blk_lt (g := gb231) (o := .cells #[.int .i64 a0_0, .slice A0_1 l0_1.length c0_1] 66 (0, 0)) xblk) : gb231 ≠ gb242)); have NB242_231 := aM ((by rw [hg]; exact Nat.ne_of_gt (blk_lt (g := gb231) (o := .cells #[.int .i64 a0_0, .slice A0_1 l0_1.length c0_1] 66 (0, 0)) xblk) : gb242 ≠ gb231)); replace BK231 := xbb BK231 hb; have BK242 := aM (hbox); clear hb hbox hg; have hnb22 := NB242_231.out; have hnc22 := NB231_242.out; obtain ⟨hcz23_0, hcz23_1, hfz23_0, hfz23_1⟩ := xf2 (w := w21) BK242; obtain ⟨Ao24, co24, eo24⟩ := Kd.R_slice HO240.out; subst eo24; obtain ⟨hcz25_0, hcz25_1, hfz25_0, hfz25_1⟩ := xf2 (w := w21) BK231) | ((with_reducible refine gate_callee (f := 39) rfl ?_); refine goesL_ (some 32) rfl rfl Try.func39 (by kernel_rfl) rfl #[.agg #[.int .i64 a0_0, .slice A0_1 l0_1.length c0_1]] rfl (by (try simp only [List.map_toArray, List.map_cons, List.map_nil]); first | done | rfl | (simp only [List.length_drop, List.length_take]; rfl)) ?_; (with_reducible refine (laws_toDisk.calls k a0_0 _ _ l0_1 t243 t244 _ ?side1 ?side2 A11.out).mono ?_); (case side1 => exact Kd.C_below HR0_1.out xbg); (case side2 => exact HC0_1.out); rintro e w26 ⟨v245, rfl, ho0, hb⟩; refine ⟨_, rfl, ?_⟩; have HO246 := aM (Kd.R_lower (Kd.R_new' (Kd.R_new' ho0 (Kd.R_lt (xrt (Kd.R_mono (Kd.R_far (p := ⟨gb242, 1, none⟩) (Kd.R_far (p := ⟨gb242, 0, none⟩) (Kd.R_types HO236.out BK242.out (by decide)) (fun _ hk => hk.2) (.int .i64 t237)) (fun _ hk => hk.2) (.slice Ao24 t238.length co24)) (fun _ h_ => h_.1))))) (Kd.R_lt (xrt (Kd.R_mono (Kd.R_far (p := ⟨gb242, 1, none⟩) (Kd.R_far (p := ⟨gb242, 0, none⟩) (Kd.R_types HO240.out BK242.out (by decide)) (fun _ hk => hk.2) (.int .i64 t237)) (fun _ hk => hk.2) (.slice Ao24 t238.length co24)) (fun _ h_ => h_.1))))) (below_size xbg)); replace HO236 := aM (Kd.R_elder' (xrt (Kd.R_mono (Kd.R_far (p := ⟨gb242, 1, none⟩) (Kd.R_far (p := ⟨gb242, 0, none⟩) (Kd.R_types HO236.out BK242.out (by decide)) (fun _ hk => hk.2) (.int .i64 t237)) (fun _ hk => hk.2) (.slice Ao24 t238.length co24)) (fun _ h_ => h_.1))) (Kd.R_base ho0) hb); replace HO240 := aM (Kd.R_elder' (xrt (Kd.R_mono (Kd.R_far (p := ⟨gb242, 1, none⟩) (Kd.R_far (p := ⟨gb242, 0, none⟩) (Kd.R_types HO240.out BK242.out (by decide)) (fun _ hk => hk.2) (.int .i64 t237)) (fun _ hk => hk.2) (.slice Ao24 t238.length co24)) (fun _ h_ => h_.1))) (Kd.R_base ho0) hb); replace BK231 := aM (blk_below (g := gb231) (o := .cells #[.int .i64 a0_0, .slice A0_1 l0_1.length c0_1] 66 (0, 0)) (by (with_reducible repeat (first | refine blk_drewN ?_ _ | refine blk_drew ?_ | refine blk_alloc ?_ _)); refine blk_far ?_ NB231_242.out _; (with_reducible repeat (first | refine blk_drewN ?_ _ | refine blk_drew ?_ | refine blk_alloc ?_ _)); refine blk_far ?_ NB231_242.out _; (with_reducible repeat (first | refine blk_drewN ?_ _ | refine blk_drew ?_ | refine blk_alloc ?_ _)); exact BK231.out) hb); replace BK242 := aM (blk_below (g := gb242) (o := .cells #[.int .i64 t237, .slice Ao24 t238.length co24] 70 (0, 0)) (by (with_reducible repeat (first | refine blk_drewN ?_ _ | refine blk_drew ?_ | refine blk_alloc ?_ _)); refine blk_put (cs := #[.int .i64 t237, .slice none 0 0]) ?_ 1 _ rfl; (with_reducible repeat (first | refine blk_drewN ?_ _ | refine blk_drew ?_ | refine blk_alloc ?_ _)); refine blk_put (cs := #[.int .i64 0, .slice none 0 0]) ?_ 0 _ rfl; (with_reducible repeat (first | refine blk_drewN ?_ _ | refine blk_drew ?_ | refine blk_alloc ?_ _)); exact BK242.out) hb); replace HB := xbs hb; (try clear hb); (try clear hb2); (try clear hk); (try clear hi); (try clear ho0)) | ((with_reducible refine gate_dst (N := 10) rfl ?_); refine box_event ?hg (N := 10) ?hd (cs := #[.int .i64 0, .slice none 0 0]) (t := 70) ?hr ?_; (case hd => rfl); (case hg => rfl); (case hr => first | (go_simp; done) | (go_simp; rfl)); intro gb247 hg w27 hbox hb; replace HO236 := aM (Kd.R_below (xr HO236) hb); replace HO240 := aM (Kd.R_below (xr HO240) hb); replace HO246 := aM (Kd.R_below (xr HO246) hb); have GW247 := aM (xge hg); have GE247 := aM (xge hg); replace HB := xbs hb; have NB231_247 := aM ((by rw [hg]; exact Nat.ne_of_lt (blk_lt (g := gb231) (o := .cells #[.int .i64 a0_0, .slice A0_1 l0_1.length c0_1] 66 (0, 0)) xblk) : gb231 ≠ gb247)); have NB247_231 := aM ((by rw [hg]; exact Nat.ne_of_gt (blk_lt (g := gb231) (o := .cells #[.int .i64 a0_0, .slice A0_1 l0_1.length c0_1] 66 (0, 0)) xblk) : gb247 ≠ gb231)); have NB242_247 := aM ((by rw [hg]; exact Nat.ne_of_lt (blk_lt (g := gb242) (o := .cells #[.int .i64 t237, .slice Ao24 t238.length co24] 70 (0, 0)) xblk) : gb242 ≠ gb247)); have NB247_242 := aM ((by rw [hg]; exact Nat.ne_of_gt (blk_lt (g := gb242) (o := .cells #[.int .i64 t237, .slice Ao24 t238.length co24] 70 (0, 0)) xblk) : gb247 ≠ gb242)); replace BK231 := xbb BK231 hb; replace BK242 := xbb BK242 hb; have BK247 := aM (hbox); clear hb hbox hg; have hnb28 := NB247_231.out; have hnc28 := NB231_247.out; have hnb29 := NB247_242.out; have hnc29 := NB242_247.out; obtain ⟨hcz30_0, hcz30_1, hfz30_0, hfz30_1⟩ := xf2 (w := w27) BK247; obtain ⟨Ao31, co31, eo31⟩ := Kd.R_slice HO246.out; subst eo31) | ((with_reducible refine gate_callee (f := 45) rfl ?_); refine goesL_ (some 37) rfl rfl Try.func45 (by kernel_rfl) rfl #[.agg #[.int .i64 t243, .slice Ao31 t244.length co31], .int .i64 a1, .int .i64 a2] rfl (by (try simp only [List.map_toArray, List.map_cons, List.map_nil]); first | done | rfl | (simp only [List.length_drop, List.length_take]; rfl)) ?_; (with_reducible refine (impl_DiskMove.calls k t243 _ _ t244 a1 a2 t248 t249 t252 _ ?side1 ?side2 A12.out).mono ?_); (case side1 => refine (Kd.R_reads' (e := 134) (base := w.heap.size) (ok := fun k_ => ((True ∧ some k_ ≠ (.slice Ao19 t234.length co19 : Value).ownBlock) ∧ some k_ ≠ (.slice Ao24 t238.length co24 : Value).ownBlock)) (n := t244.length) (c := co31) ?_).2.2; exact (xrt (Kd.R_mono (Kd.R_far (p := ⟨gb247, 1, none⟩) (Kd.R_far (p := ⟨gb247, 0, none⟩) (Kd.R_types HO246.out BK247.out (by decide)) (fun _ hk => hk.2) (.int .i64 t243)) (fun _ hk => hk.2) (.slice Ao31 t244.length co31)) (fun _ h_ => h_.1)))); (case side2 => exact (Kd.R_reads' HO246.out).2.1); rintro e w32 ⟨v250, rfl, ho0, hb⟩; refine ⟨_, rfl, ?_⟩; have HO251 := aM (Kd.R_lower (Kd.R_new' (Kd.R_new' (Kd.R_new' ho0 (Kd.R_lt (xrt (Kd.R_mono (Kd.R_far (p := ⟨gb247, 1, none⟩) (Kd.R_far (p := ⟨gb247, 0, none⟩) (Kd.R_types HO236.out BK247.out (by decide)) (fun _ hk => hk.2) (.int .i64 t243)) (fun _ hk => hk.2) (.slice Ao31 t244.length co31)) (fun _ h_ => h_.1))))) (Kd.R_lt (xrt (Kd.R_mono (Kd.R_far (p := ⟨gb247, 1, none⟩) (Kd.R_far (p := ⟨gb247, 0, none⟩) (Kd.R_types HO240.out BK247.out (by decide)) (fun _ hk => hk.2) (.int .i64 t243)) (fun _ hk => hk.2) (.slice Ao31 t244.length co31)) (fun _ h_ => h_.1))))) (Kd.R_lt (xrt (Kd.R_mono (Kd.R_far (p := ⟨gb247, 1, none⟩) (Kd.R_far (p := ⟨gb247, 0, none⟩) (Kd.R_types HO246.out BK247.out (by decide)) (fun _ hk => hk.2) (.int .i64 t243)) (fun _ hk => hk.2) (.slice Ao31 t244.length co31)) (fun _ h_ => h_.1))))) (below_size xbg)); replace HO236 := aM (Kd.R_elder' (xrt (Kd.R_mono (Kd.R_far (p := ⟨gb247, 1, none⟩) (Kd.R_far (p := ⟨gb247, 0, none⟩) (Kd.R_types HO236.out BK247.out (by decide)) (fun _ hk => hk.2) (.int .i64 t243)) (fun _ hk => hk.2) (.slice Ao31 t244.length co31)) (fun _ h_ => h_.1))) (Kd.R_base ho0) hb); replace HO240 := aM (Kd.R_elder' (xrt (Kd.R_mono (Kd.R_far (p := ⟨gb247, 1, none⟩) (Kd.R_far (p := ⟨gb247, 0, none⟩) (Kd.R_types HO240.out BK247.out (by decide)) (fun _ hk => hk.2) (.int .i64 t243)) (fun _ hk => hk.2) (.slice Ao31 t244.length co31)) (fun _ h_ => h_.1))) (Kd.R_base ho0) hb); replace HO246 := aM (Kd.R_elder' (xrt (Kd.R_mono (Kd.R_far (p := ⟨gb247, 1, none⟩) (Kd.R_far (p := ⟨gb247, 0, none⟩) (Kd.R_types HO246.out BK247.out (by decide)) (fun _ hk => hk.2) (.int .i64 t243)) (fun _ hk => hk.2) (.slice Ao31 t244.length co31)) (fun _ h_ => h_.1))) (Kd.R_base ho0) hb); replace BK231 := aM (blk_below (g := gb231) (o := .cells #[.int .i64 a0_0, .slice A0_1 l0_1.length c0_1] 66 (0, 0)) (by (with_reducible repeat (first | refine blk_drewN ?_ _ | refine blk_drew ?_ | refine blk_alloc ?_ _)); refine blk_far ?_ NB231_247.out _; (with_reducible repeat (first | refine blk_drewN ?_ _ | refine blk_drew ?_ | refine blk_alloc ?_ _)); refine blk_far ?_ NB231_247.out _; (with_reducible repeat (first | refine blk_drewN ?_ _ | refine blk_drew ?_ | refine blk_alloc ?_ _)); exact BK231.out) hb); replace BK242 := aM (blk_below (g := gb242) (o := .cells #[.int .i64 t237, .slice Ao24 t238.length co24] 70 (0, 0)) (by (with_reducible repeat (first | refine blk_drewN ?_ _ | refine blk_drew ?_ | refine blk_alloc ?_ _)); refine blk_far ?_ NB242_247.out _; (with_reducible repeat (first | refine blk_drewN ?_ _ | refine blk_drew ?_ | refine blk_alloc ?_ _)); refine blk_far ?_ NB242_247.out _; (with_reducible repeat (first | refine blk_drewN ?_ _ | refine blk_drew ?_ | refine blk_alloc ?_ _)); exact BK242.out) hb); replace BK247 := aM (blk_below (g := gb247) (o := .cells #[.int .i64 t243, .slice Ao31 t244.length co31] 70 (0, 0)) (by (with_reducible repeat (first | refine blk_drewN ?_ _ | refine blk_drew ?_ | refine blk_alloc ?_ _)); refine blk_put (cs := #[.int .i64 t243, .slice none 0 0]) ?_ 1 _ rfl; (with_reducible repeat (first | refine blk_drewN ?_ _ | refine blk_drew ?_ | refine blk_alloc ?_ _)); refine blk_put (cs := #[.int .i64 0, .slice none 0 0]) ?_ 0 _ rfl; (with_reducible repeat (first | refine blk_drewN ?_ _ | refine blk_drew ?_ | refine blk_alloc ?_ _)); exact BK247.out) hb); replace HB := xbs hb; (try clear hb); (try clear hb2); (try clear hk); (try clear hi); (try clear ho0)) | ((with_reducible refine gate_dst (N := 11) rfl ?_); refine box_event ?hg (N := 11) ?hd (cs := #[.int .i64 0, .slice none 0 0]) (t := 70) ?hr ?_; (case hd => rfl); (case hg => rfl); (case hr => first | (go_simp; done) | (go_simp; rfl)); intro gb253 hg w33 hbox hb; replace HO236 := aM (Kd.R_below (xr HO236) hb); replace HO240 := aM (Kd.R_below (xr HO240) hb); replace HO246 := aM (Kd.R_below (xr HO246) hb); replace HO251 := aM (Kd.R_below (xr HO251) hb); have GW253 := aM (xge hg); have GE253 := aM (xge hg); replace HB := xbs hb; have NB231_253 := aM ((by rw [hg]; exact Nat.ne_of_lt (blk_lt (g := gb231) (o := .cells #[.int .i64 a0_0, .slice A0_1 l0_1.length c0_1] 66 (0, 0)) xblk) : gb231 ≠ gb253)); have NB253_231 := aM ((by rw [hg]; exact Nat.ne_of_gt (blk_lt (g := gb231) (o := .cells #[.int .i64 a0_0, .slice A0_1 l0_1.length c0_1] 66 (0, 0)) xblk) : gb253 ≠ gb231)); have NB242_253 := aM ((by rw [hg]; exact Nat.ne_of_lt (blk_lt (g := gb242) (o := .cells #[.int .i64 t237, .slice Ao24 t238.length co24] 70 (0, 0)) xblk) : gb242 ≠ gb253)); have NB253_242 := aM ((by rw [hg]; exact Nat.ne_of_gt (blk_lt (g := gb242) (o := .cells #[.int .i64 t237, .slice Ao24 t238.length co24] 70 (0, 0)) xblk) : gb253 ≠ gb242)); have NB247_253 := aM ((by rw [hg]; exact Nat.ne_of_lt (blk_lt (g := gb247) (o := .cells #[.int .i64 t243, .slice Ao31 t244.length co31] 70 (0, 0)) xblk) : gb247 ≠ gb253)); have NB253_247 := aM ((by rw [hg]; exact Nat.ne_of_gt (blk_lt (g := gb247) (o := .cells #[.int .i64 t243, .slice Ao31 t244.length co31] 70 (0, 0)) xblk) : gb253 ≠ gb247)); replace BK231 := xbb BK231 hb; replace BK242 := xbb BK242 hb; replace BK247 := xbb BK247 hb; have BK253 := aM (hbox); clear hb hbox hg; have hnb34 := NB253_231.out; have hnc34 := NB231_253.out; have hnb35 := NB253_242.out; have hnc35 := NB242_253.out; have hnb36 := NB253_247.out; have hnc36 := NB247_253.out; obtain ⟨hcz37_0, hcz37_1, hfz37_0, hfz37_1⟩ := xf2 (w := w33) BK253; obtain ⟨Ao38, co38, eo38⟩ := Kd.R_slice HO251.out; subst eo38))
  (try simp only [Act.put, List.setIfInBounds_toArray, List.set_cons_zero, List.set_cons_succ])
  go_cut [48] (fun v48 wc => ∃ (kq : Nat) (x48_12 : Bool), v48 = .bool x48_12 ∧ Aside0 (laws_FnExactDiskMove.j0 kq a1 a2 t241 t252 x48_12 a0_0 l0_1 t237 t238 t243 t244 t248 t249 = some r) ∧ Aside0 (kq ≤ k) ∧ Aside0 (Kd.R k134 134 wc w.heap.size (fun k_ => some k_ ≠ ((.slice Ao31 t244.length co31) : Value).ownBlock ∧ some k_ ≠ ((.slice Ao38 t249.length co38) : Value).ownBlock) (.slice Ao24 t238.length co24) t238) ∧ Aside0 (Kd.R k134 134 wc w.heap.size (fun k_ => some k_ ≠ ((.slice Ao24 t238.length co24) : Value).ownBlock ∧ some k_ ≠ ((.slice Ao38 t249.length co38) : Value).ownBlock) (.slice Ao31 t244.length co31) t244) ∧ Aside0 (Kd.R k134 134 wc w.heap.size (fun k_ => some k_ ≠ ((.slice Ao24 t238.length co24) : Value).ownBlock ∧ some k_ ≠ ((.slice Ao31 t244.length co31) : Value).ownBlock) (.slice Ao38 t249.length co38) t249) ∧ Aside0 (wc.heap[gb231]? = some (.cells #[.int .i64 a0_0, (.slice A0_1 l0_1.length c0_1)] 66 (0, 0))) ∧ Aside0 (wc.heap[gb242]? = some (.cells #[.int .i64 t237, (.slice Ao24 t238.length co24)] 70 (0, 0))) ∧ Aside0 (wc.heap[gb247]? = some (.cells #[.int .i64 t243, (.slice Ao31 t244.length co31)] 70 (0, 0))) ∧ Aside0 (wc.heap[gb253]? = some (.cells #[.int .i64 t248, (.slice Ao38 t249.length co38)] 70 (0, 0))) ∧ Aside0 (Below w.heap.size w wc))
  case first =>
   have H := HC13.out; clear HC13; replace H := Option.bind_eq_some_iff.mp H
   obtain ⟨t254, A390, H⟩ := H
   replace H : (if t254 = true then (laws_FnExactDiskMove.j0 k a1 a2 t241 t252 (t252 != t241) a0_0 l0_1 t237 t238 t243 t244 t248 t249) else (laws_FnExactDiskMove.j0 k a1 a2 t241 t252 true a0_0 l0_1 t237 t238 t243 t244 t248 t249)) = some r := H; have A39 := aM A390; clear A390
   by_cases c40 : t254 = true
   ·subst c40
    have H1 : (laws_FnExactDiskMove.j0 k a1 a2 t241 t252 (t252 != t241) a0_0 l0_1 t237 t238 t243 t244 t248 t249) = some r := by rw [if_pos rfl] at H; exact H
    clear H; have H := H1; clear H1
    have H' := aM H
    clear H; have hnb41 := NB253_231.out; have hnc41 := NB231_253.out; have hnb42 := NB253_242.out; have hnc42 := NB242_253.out; have hnb43 := NB253_247.out; have hnc43 := NB247_253.out; obtain ⟨hcz44_0, hcz44_1, hfz44_0, hfz44_1⟩ := xf2 (w := w33) BK253; have hnb45 := NB242_231.out; have hnc45 := NB231_242.out; have hnb46 := NB242_247.out; have hnc46 := NB247_242.out; obtain ⟨hcz47_0, hcz47_1, hfz47_0, hfz47_1⟩ := xf2 (w := w33) BK242
    go_wp2_with (first | ((with_reducible refine gate_callee (f := 41) rfl ?_); refine goesL_ (some 42) rfl rfl Try.func41 (by kernel_rfl) rfl #[.agg #[.int .i64 t248, .slice Ao38 t249.length co38], .agg #[.int .i64 t237, .slice Ao24 t238.length co24]] rfl (by (try simp only [List.map_toArray, List.map_cons, List.map_nil]); first | done | rfl | (simp only [List.length_drop, List.length_take]; rfl)) ?_; (with_reducible refine (laws_eqDisk.calls k t248 _ _ t249 t237 _ _ t238 true _ ?side1 ?side2 ?side3 ?side4 A39.out).mono ?_); (case side1 => refine (Kd.R_reads' (e := 134) (base := w.heap.size) (ok := fun k_ => (((True ∧ some k_ ≠ (.slice Ao19 t234.length co19 : Value).ownBlock) ∧ some k_ ≠ (.slice Ao24 t238.length co24 : Value).ownBlock) ∧ some k_ ≠ (.slice Ao31 t244.length co31 : Value).ownBlock)) (n := t249.length) (c := co38) ?_).2.2; exact (xrt (Kd.R_mono (Kd.R_far (p := ⟨gb253, 1, none⟩) (Kd.R_far (p := ⟨gb253, 0, none⟩) (Kd.R_types HO251.out BK253.out (by decide)) (fun _ hk => hk.2) (.int .i64 t248)) (fun _ hk => hk.2) (.slice Ao38 t249.length co38)) (fun _ h_ => h_.1)))); (case side2 => exact (Kd.R_reads' HO251.out).2.1); (case side3 => refine (Kd.R_reads' (e := 134) (base := w.heap.size) (ok := fun k_ => (((True ∧ some k_ ≠ (.slice Ao19 t234.length co19 : Value).ownBlock) ∧ some k_ ≠ (.slice Ao31 t244.length co31 : Value).ownBlock) ∧ some k_ ≠ (.slice Ao38 t249.length co38 : Value).ownBlock)) (n := t238.length) (c := co24) ?_).2.2; exact (xrt (Kd.R_mono (Kd.R_far (p := ⟨gb253, 1, none⟩) (Kd.R_far (p := ⟨gb253, 0, none⟩) (Kd.R_types HO240.out BK253.out (by decide)) (fun _ hk => hk.2) (.int .i64 t248)) (fun _ hk => hk.2) (.slice Ao38 t249.length co38)) (fun _ h_ => h_.1)))); (case side4 => exact (Kd.R_reads' HO240.out).2.1); rintro e w48 ⟨rfl, hb⟩; refine ⟨_, rfl, ?_⟩; replace HO236 := aM (Kd.R_below (xrt (Kd.R_mono (Kd.R_far (p := ⟨gb253, 1, none⟩) (Kd.R_far (p := ⟨gb253, 0, none⟩) (Kd.R_types HO236.out BK253.out (by decide)) (fun _ hk => hk.2) (.int .i64 t248)) (fun _ hk => hk.2) (.slice Ao38 t249.length co38)) (fun _ h_ => h_.1))) hb); replace HO240 := aM (Kd.R_below (xrt (Kd.R_mono (Kd.R_far (p := ⟨gb253, 1, none⟩) (Kd.R_far (p := ⟨gb253, 0, none⟩) (Kd.R_types HO240.out BK253.out (by decide)) (fun _ hk => hk.2) (.int .i64 t248)) (fun _ hk => hk.2) (.slice Ao38 t249.length co38)) (fun _ h_ => h_.1))) hb); replace HO246 := aM (Kd.R_below (xrt (Kd.R_mono (Kd.R_far (p := ⟨gb253, 1, none⟩) (Kd.R_far (p := ⟨gb253, 0, none⟩) (Kd.R_types HO246.out BK253.out (by decide)) (fun _ hk => hk.2) (.int .i64 t248)) (fun _ hk => hk.2) (.slice Ao38 t249.length co38)) (fun _ h_ => h_.1))) hb); replace HO251 := aM (Kd.R_below (xrt (Kd.R_mono (Kd.R_far (p := ⟨gb253, 1, none⟩) (Kd.R_far (p := ⟨gb253, 0, none⟩) (Kd.R_types HO251.out BK253.out (by decide)) (fun _ hk => hk.2) (.int .i64 t248)) (fun _ hk => hk.2) (.slice Ao38 t249.length co38)) (fun _ h_ => h_.1))) hb); replace BK231 := aM (blk_below (g := gb231) (o := .cells #[.int .i64 a0_0, .slice A0_1 l0_1.length c0_1] 66 (0, 0)) (by (with_reducible repeat (first | refine blk_drewN ?_ _ | refine blk_drew ?_ | refine blk_alloc ?_ _)); refine blk_far ?_ NB231_253.out _; (with_reducible repeat (first | refine blk_drewN ?_ _ | refine blk_drew ?_ | refine blk_alloc ?_ _)); refine blk_far ?_ NB231_253.out _; (with_reducible repeat (first | refine blk_drewN ?_ _ | refine blk_drew ?_ | refine blk_alloc ?_ _)); exact BK231.out) hb); replace BK242 := aM (blk_below (g := gb242) (o := .cells #[.int .i64 t237, .slice Ao24 t238.length co24] 70 (0, 0)) (by (with_reducible repeat (first | refine blk_drewN ?_ _ | refine blk_drew ?_ | refine blk_alloc ?_ _)); refine blk_far ?_ NB242_253.out _; (with_reducible repeat (first | refine blk_drewN ?_ _ | refine blk_drew ?_ | refine blk_alloc ?_ _)); refine blk_far ?_ NB242_253.out _; (with_reducible repeat (first | refine blk_drewN ?_ _ | refine blk_drew ?_ | refine blk_alloc ?_ _)); exact BK242.out) hb); replace BK247 := aM (blk_below (g := gb247) (o := .cells #[.int .i64 t243, .slice Ao31 t244.length co31] 70 (0, 0)) (by (with_reducible repeat (first | refine blk_drewN ?_ _ | refine blk_drew ?_ | refine blk_alloc ?_ _)); refine blk_far ?_ NB247_253.out _; (with_reducible repeat (first | refine blk_drewN ?_ _ | refine blk_drew ?_ | refine blk_alloc ?_ _)); refine blk_far ?_ NB247_253.out _; (with_reducible repeat (first | refine blk_drewN ?_ _ | refine blk_drew ?_ | refine blk_alloc ?_ _)); exact BK247.out) hb); replace BK253 := aM (blk_below (g := gb253) (o := .cells #[.int .i64 t248, .slice Ao38 t249.length co38] 70 (0, 0)) (by (with_reducible repeat (first | refine blk_drewN ?_ _ | refine blk_drew ?_ | refine blk_alloc ?_ _)); refine blk_put (cs := #[.int .i64 t248, .slice none 0 0]) ?_ 1 _ rfl; (with_reducible repeat (first | refine blk_drewN ?_ _ | refine blk_drew ?_ | refine blk_alloc ?_ _)); refine blk_put (cs := #[.int .i64 0, .slice none 0 0]) ?_ 0 _ rfl; (with_reducible repeat (first | refine blk_drewN ?_ _ | refine blk_drew ?_ | refine blk_alloc ?_ _)); exact BK253.out) hb); replace HB := xbs hb; (try clear hb); (try clear hb2); (try clear hk); (try clear hi)))
    go_meet
    case rel => exact ⟨_, ((t252 != t241)), (by first | rfl | (simp; done) | (simp [*]; done)), H', ⟨by first | omega | exact Nat.le_refl _⟩, ⟨by (with_reducible repeat (first | apply Kd.R_alloc | apply Kd.R_drewN | apply Kd.R_drew)); exact Kd.R_mono HO240.out (fun _ hk => ⟨hk.1.2, hk.2⟩)⟩, ⟨by (with_reducible repeat (first | apply Kd.R_alloc | apply Kd.R_drewN | apply Kd.R_drew)); exact Kd.R_mono HO246.out (fun _ hk => ⟨hk.1.2, hk.2⟩)⟩, ⟨by (with_reducible repeat (first | apply Kd.R_alloc | apply Kd.R_drewN | apply Kd.R_drew)); exact Kd.R_mono HO251.out (fun _ hk => ⟨hk.1.2, hk.2⟩)⟩, ⟨xblk⟩, ⟨xblk⟩, ⟨xblk⟩, ⟨xblk⟩, ⟨xbg⟩⟩
   ·replace c40 := Bool.eq_false_iff.mpr c40
    subst c40
    have H1 : (laws_FnExactDiskMove.j0 k a1 a2 t241 t252 true a0_0 l0_1 t237 t238 t243 t244 t248 t249) = some r := by rw [if_neg (show ¬ (false = true) by decide)] at H; exact H
    clear H; have H := H1; clear H1
    have H' := aM H
    clear H; have hnb49 := NB253_231.out; have hnc49 := NB231_253.out; have hnb50 := NB253_242.out; have hnc50 := NB242_253.out; have hnb51 := NB253_247.out; have hnc51 := NB247_253.out; obtain ⟨hcz52_0, hcz52_1, hfz52_0, hfz52_1⟩ := xf2 (w := w33) BK253; have hnb53 := NB242_231.out; have hnc53 := NB231_242.out; have hnb54 := NB242_247.out; have hnc54 := NB247_242.out; obtain ⟨hcz55_0, hcz55_1, hfz55_0, hfz55_1⟩ := xf2 (w := w33) BK242
    go_wp2_with (first | ((with_reducible refine gate_callee (f := 41) rfl ?_); refine goesL_ (some 42) rfl rfl Try.func41 (by kernel_rfl) rfl #[.agg #[.int .i64 t248, .slice Ao38 t249.length co38], .agg #[.int .i64 t237, .slice Ao24 t238.length co24]] rfl (by (try simp only [List.map_toArray, List.map_cons, List.map_nil]); first | done | rfl | (simp only [List.length_drop, List.length_take]; rfl)) ?_; (with_reducible refine (laws_eqDisk.calls k t248 _ _ t249 t237 _ _ t238 false _ ?side1 ?side2 ?side3 ?side4 A39.out).mono ?_); (case side1 => refine (Kd.R_reads' (e := 134) (base := w.heap.size) (ok := fun k_ => (((True ∧ some k_ ≠ (.slice Ao19 t234.length co19 : Value).ownBlock) ∧ some k_ ≠ (.slice Ao24 t238.length co24 : Value).ownBlock) ∧ some k_ ≠ (.slice Ao31 t244.length co31 : Value).ownBlock)) (n := t249.length) (c := co38) ?_).2.2; exact (xrt (Kd.R_mono (Kd.R_far (p := ⟨gb253, 1, none⟩) (Kd.R_far (p := ⟨gb253, 0, none⟩) (Kd.R_types HO251.out BK253.out (by decide)) (fun _ hk => hk.2) (.int .i64 t248)) (fun _ hk => hk.2) (.slice Ao38 t249.length co38)) (fun _ h_ => h_.1)))); (case side2 => exact (Kd.R_reads' HO251.out).2.1); (case side3 => refine (Kd.R_reads' (e := 134) (base := w.heap.size) (ok := fun k_ => (((True ∧ some k_ ≠ (.slice Ao19 t234.length co19 : Value).ownBlock) ∧ some k_ ≠ (.slice Ao31 t244.length co31 : Value).ownBlock) ∧ some k_ ≠ (.slice Ao38 t249.length co38 : Value).ownBlock)) (n := t238.length) (c := co24) ?_).2.2; exact (xrt (Kd.R_mono (Kd.R_far (p := ⟨gb253, 1, none⟩) (Kd.R_far (p := ⟨gb253, 0, none⟩) (Kd.R_types HO240.out BK253.out (by decide)) (fun _ hk => hk.2) (.int .i64 t248)) (fun _ hk => hk.2) (.slice Ao38 t249.length co38)) (fun _ h_ => h_.1)))); (case side4 => exact (Kd.R_reads' HO240.out).2.1); rintro e w56 ⟨rfl, hb⟩; refine ⟨_, rfl, ?_⟩; replace HO236 := aM (Kd.R_below (xrt (Kd.R_mono (Kd.R_far (p := ⟨gb253, 1, none⟩) (Kd.R_far (p := ⟨gb253, 0, none⟩) (Kd.R_types HO236.out BK253.out (by decide)) (fun _ hk => hk.2) (.int .i64 t248)) (fun _ hk => hk.2) (.slice Ao38 t249.length co38)) (fun _ h_ => h_.1))) hb); replace HO240 := aM (Kd.R_below (xrt (Kd.R_mono (Kd.R_far (p := ⟨gb253, 1, none⟩) (Kd.R_far (p := ⟨gb253, 0, none⟩) (Kd.R_types HO240.out BK253.out (by decide)) (fun _ hk => hk.2) (.int .i64 t248)) (fun _ hk => hk.2) (.slice Ao38 t249.length co38)) (fun _ h_ => h_.1))) hb); replace HO246 := aM (Kd.R_below (xrt (Kd.R_mono (Kd.R_far (p := ⟨gb253, 1, none⟩) (Kd.R_far (p := ⟨gb253, 0, none⟩) (Kd.R_types HO246.out BK253.out (by decide)) (fun _ hk => hk.2) (.int .i64 t248)) (fun _ hk => hk.2) (.slice Ao38 t249.length co38)) (fun _ h_ => h_.1))) hb); replace HO251 := aM (Kd.R_below (xrt (Kd.R_mono (Kd.R_far (p := ⟨gb253, 1, none⟩) (Kd.R_far (p := ⟨gb253, 0, none⟩) (Kd.R_types HO251.out BK253.out (by decide)) (fun _ hk => hk.2) (.int .i64 t248)) (fun _ hk => hk.2) (.slice Ao38 t249.length co38)) (fun _ h_ => h_.1))) hb); replace BK231 := aM (blk_below (g := gb231) (o := .cells #[.int .i64 a0_0, .slice A0_1 l0_1.length c0_1] 66 (0, 0)) (by (with_reducible repeat (first | refine blk_drewN ?_ _ | refine blk_drew ?_ | refine blk_alloc ?_ _)); refine blk_far ?_ NB231_253.out _; (with_reducible repeat (first | refine blk_drewN ?_ _ | refine blk_drew ?_ | refine blk_alloc ?_ _)); refine blk_far ?_ NB231_253.out _; (with_reducible repeat (first | refine blk_drewN ?_ _ | refine blk_drew ?_ | refine blk_alloc ?_ _)); exact BK231.out) hb); replace BK242 := aM (blk_below (g := gb242) (o := .cells #[.int .i64 t237, .slice Ao24 t238.length co24] 70 (0, 0)) (by (with_reducible repeat (first | refine blk_drewN ?_ _ | refine blk_drew ?_ | refine blk_alloc ?_ _)); refine blk_far ?_ NB242_253.out _; (with_reducible repeat (first | refine blk_drewN ?_ _ | refine blk_drew ?_ | refine blk_alloc ?_ _)); refine blk_far ?_ NB242_253.out _; (with_reducible repeat (first | refine blk_drewN ?_ _ | refine blk_drew ?_ | refine blk_alloc ?_ _)); exact BK242.out) hb); replace BK247 := aM (blk_below (g := gb247) (o := .cells #[.int .i64 t243, .slice Ao31 t244.length co31] 70 (0, 0)) (by (with_reducible repeat (first | refine blk_drewN ?_ _ | refine blk_drew ?_ | refine blk_alloc ?_ _)); refine blk_far ?_ NB247_253.out _; (with_reducible repeat (first | refine blk_drewN ?_ _ | refine blk_drew ?_ | refine blk_alloc ?_ _)); refine blk_far ?_ NB247_253.out _; (with_reducible repeat (first | refine blk_drewN ?_ _ | refine blk_drew ?_ | refine blk_alloc ?_ _)); exact BK247.out) hb); replace BK253 := aM (blk_below (g := gb253) (o := .cells #[.int .i64 t248, .slice Ao38 t249.length co38] 70 (0, 0)) (by (with_reducible repeat (first | refine blk_drewN ?_ _ | refine blk_drew ?_ | refine blk_alloc ?_ _)); refine blk_put (cs := #[.int .i64 t248, .slice none 0 0]) ?_ 1 _ rfl; (with_reducible repeat (first | refine blk_drewN ?_ _ | refine blk_drew ?_ | refine blk_alloc ?_ _)); refine blk_put (cs := #[.int .i64 0, .slice none 0 0]) ?_ 0 _ rfl; (with_reducible repeat (first | refine blk_drewN ?_ _ | refine blk_drew ?_ | refine blk_alloc ?_ _)); exact BK253.out) hb); replace HB := xbs hb; (try clear hb); (try clear hb2); (try clear hk); (try clear hi)))
    go_meet
    case rel => exact ⟨_, (true), (by first | rfl | (simp; done) | (simp [*]; done)), H', ⟨by first | omega | exact Nat.le_refl _⟩, ⟨by (with_reducible repeat (first | apply Kd.R_alloc | apply Kd.R_drewN | apply Kd.R_drew)); exact Kd.R_mono HO240.out (fun _ hk => ⟨hk.1.2, hk.2⟩)⟩, ⟨by (with_reducible repeat (first | apply Kd.R_alloc | apply Kd.R_drewN | apply Kd.R_drew)); exact Kd.R_mono HO246.out (fun _ hk => ⟨hk.1.2, hk.2⟩)⟩, ⟨by (with_reducible repeat (first | apply Kd.R_alloc | apply Kd.R_drewN | apply Kd.R_drew)); exact Kd.R_mono HO251.out (fun _ hk => ⟨hk.1.2, hk.2⟩)⟩, ⟨xblk⟩, ⟨xblk⟩, ⟨xblk⟩, ⟨xblk⟩, ⟨xbg⟩⟩
  case rest =>
   clear HC13
   try clear c2
   try clear p2
   try clear c3
   try clear c4
   try clear c5
   try clear c5b0
   try clear c7
   try clear c22
   try clear c28
   try clear c29
   try clear c34
   try clear c35
   try clear c36
   try clear c37
   try clear c39
   try clear c40
   try clear c41
   try clear c42
   try clear c43
   try clear c44
   try clear c45
   try clear c46
   try clear c49
   try clear c50
   try clear c51
   try clear c53
   try clear c54
   try clear hcz15_0
   try clear hcz15_1
   try clear hcz17_0
   try clear hcz17_1
   try clear hcz23_0
   try clear hcz23_1
   try clear hcz25_0
   try clear hcz25_1
   try clear hcz30_0
   try clear hcz30_1
   try clear hcz37_0
   try clear hcz37_1
   try clear hcz44_0
   try clear hcz44_1
   try clear hcz47_0
   try clear hcz47_1
   try clear hcz52_0
   try clear hcz52_1
   try clear hcz55_0
   try clear hcz55_1
   try clear hcz7_0
   try clear hcz7_1
   try clear hfz15_0
   try clear hfz15_1
   try clear hfz17_0
   try clear hfz17_1
   try clear hfz23_0
   try clear hfz23_1
   try clear hfz25_0
   try clear hfz25_1
   try clear hfz30_0
   try clear hfz30_1
   try clear hfz37_0
   try clear hfz37_1
   try clear hfz44_0
   try clear hfz44_1
   try clear hfz47_0
   try clear hfz47_1
   try clear hfz52_0
   try clear hfz52_1
   try clear hfz55_0
   try clear hfz55_1
   try clear hfz7_0
   try clear hfz7_1
   obtain ⟨kq, x48_12, rfl, HA, HJ12, HO_243001, HO_248001, HO_254001, BK231, BK242, BK247, BK253, HB⟩ := hcut
   cases kq with
   | zero => exact absurd HA.out (by simp [laws_FnExactDiskMove.j0])
   | succ kj12 =>
    have H := HA.out; clear HA
    simp only [laws_FnExactDiskMove.j0] at H
    by_cases c57 : x48_12 = true
    ·subst c57
     have H1 : (some false) = some r := by rw [if_pos rfl] at H; exact H
     clear H; have H := H1; clear H1
     obtain rfl := Option.some.inj H
     go_wp2
     go_ret
     exact ⟨by first | rfl | (simp [errW_none, errW_some] <;> rfl) | (simp [*, errW_none, errW_some] <;> rfl), xbg⟩
    ·replace c57 := Bool.eq_false_iff.mpr c57
     subst c57
     have H1 : ((laws_toDisk.f kj12 a0_0 l0_1).bind fun bt255 => ((laws_eqDisk.f kj12 t243 t244 bt255.1 bt255.2).bind fun t259 => (if t259 = true then ((laws_markDisk.f kj12 t243 t244 1).bind fun bt260 => (if bt260.1 < 0 then (laws_FnExactDiskMove.j1 kj12 a1 a2 t241 true a0_0 l0_1 t237 t238 t248 t249) else ((laws_eqDisk.f kj12 t248 t249 t237 t238).bind fun t262 => (if t262 = true then (laws_FnExactDiskMove.j1 kj12 a1 a2 t241 (t252 != t241) a0_0 l0_1 t237 t238 t248 t249) else (laws_FnExactDiskMove.j1 kj12 a1 a2 t241 true a0_0 l0_1 t237 t238 t248 t249))))) else (some false)))) = some r := by rw [if_neg (show ¬ (false = true) by decide)] at H; exact H
     clear H; have H := H1; clear H1; replace H := Option.bind_eq_some_iff.mp H
     obtain ⟨⟨t255, t256⟩, A580, H⟩ := H
     replace H : ((laws_eqDisk.f kj12 t243 t244 t255 t256).bind fun t259 => (if t259 = true then ((laws_markDisk.f kj12 t243 t244 1).bind fun bt260 => (if bt260.1 < 0 then (laws_FnExactDiskMove.j1 kj12 a1 a2 t241 true a0_0 l0_1 t237 t238 t248 t249) else ((laws_eqDisk.f kj12 t248 t249 t237 t238).bind fun t262 => (if t262 = true then (laws_FnExactDiskMove.j1 kj12 a1 a2 t241 (t252 != t241) a0_0 l0_1 t237 t238 t248 t249) else (laws_FnExactDiskMove.j1 kj12 a1 a2 t241 true a0_0 l0_1 t237 t238 t248 t249))))) else (some false))) = some r := H; have A58 := aM A580; clear A580; replace H := Option.bind_eq_some_iff.mp H
     obtain ⟨t259, A590, H⟩ := H
     replace H : (if t259 = true then ((laws_markDisk.f kj12 t243 t244 1).bind fun bt260 => (if bt260.1 < 0 then (laws_FnExactDiskMove.j1 kj12 a1 a2 t241 true a0_0 l0_1 t237 t238 t248 t249) else ((laws_eqDisk.f kj12 t248 t249 t237 t238).bind fun t262 => (if t262 = true then (laws_FnExactDiskMove.j1 kj12 a1 a2 t241 (t252 != t241) a0_0 l0_1 t237 t238 t248 t249) else (laws_FnExactDiskMove.j1 kj12 a1 a2 t241 true a0_0 l0_1 t237 t238 t248 t249))))) else (some false)) = some r := H; have A59 := aM A590; clear A590
     by_cases c60 : t259 = true
     ·subst c60
      have H1 : ((laws_markDisk.f kj12 t243 t244 1).bind fun bt260 => (if bt260.1 < 0 then (laws_FnExactDiskMove.j1 kj12 a1 a2 t241 true a0_0 l0_1 t237 t238 t248 t249) else ((laws_eqDisk.f kj12 t248 t249 t237 t238).bind fun t262 => (if t262 = true then (laws_FnExactDiskMove.j1 kj12 a1 a2 t241 (t252 != t241) a0_0 l0_1 t237 t238 t248 t249) else (laws_FnExactDiskMove.j1 kj12 a1 a2 t241 true a0_0 l0_1 t237 t238 t248 t249))))) = some r := by rw [if_pos rfl] at H; exact H
      clear H; have H := H1; clear H1; replace H := Option.bind_eq_some_iff.mp H
      obtain ⟨⟨t260, t261⟩, A610, H⟩ := H
      replace H : (if t260 < 0 then (laws_FnExactDiskMove.j1 kj12 a1 a2 t241 true a0_0 l0_1 t237 t238 t248 t249) else ((laws_eqDisk.f kj12 t248 t249 t237 t238).bind fun t262 => (if t262 = true then (laws_FnExactDiskMove.j1 kj12 a1 a2 t241 (t252 != t241) a0_0 l0_1 t237 t238 t248 t249) else (laws_FnExactDiskMove.j1 kj12 a1 a2 t241 true a0_0 l0_1 t237 t238 t248 t249)))) = some r := H; have A61 := aM A610; clear A610; have HC62 := aM H; clear H
      try go_wp2
      replace HO_243001 := aM (Kd.R_drew HO_243001.out); replace HO_248001 := aM (Kd.R_drew HO_248001.out); replace HO_254001 := aM (Kd.R_drew HO_254001.out); replace BK231 := aM (blk_drew BK231.out); replace BK242 := aM (blk_drew BK242.out); replace BK247 := aM (blk_drew BK247.out); replace BK253 := aM (blk_drew BK253.out); replace HB := aM (below_drew1 HB.out)
      refine start_ (n := 5) (S := fun w' => w'.cell? ⟨gb247, 0, none⟩ = some (.int .i64 t243) ∧ w'.cell? ⟨gb247, 1, none⟩ = some (.slice Ao31 t244.length co31) ∧ w'.cell? ⟨gb231, 0, none⟩ = some (.int .i64 a0_0) ∧ w'.cell? ⟨gb231, 1, none⟩ = some (.slice A0_1 l0_1.length c0_1)) (ds := []) #[false, false, false, false, false] (by kernel_rfl) rfl rfl ⟨xc BK247 0 rfl, xc BK247 1 rfl, xc BK231 0 rfl, xc BK231 1 rfl⟩ (fun hHeld => ?_)
      generalize wc.drew = w63 at HO_243001 HO_248001 HO_254001 BK231 BK242 BK247 BK253 HB hHeld ⊢
      refine take_ (i := 0) (N := some 49) (v := ?_) (a' := ?_) #[true, false, false, false, false] rfl rfl (by kernel_rfl) (fun _ _ _ h => h) (Or.inl ⟨by rfl, ?_⟩) hHeld ?_ ?_
      rotate_left
      ·rintro w' ⟨s0, s1, s2, s3⟩
       go_simp
       with_reducible rfl
      rotate_left
      ·simp only [Act.put, List.setIfInBounds_toArray, List.set_cons_zero, List.set_cons_succ, i64_w, i32_w]
       rfl
      refine take_ (i := 1) (N := some 50) (v := ?_) (a' := ?_) #[true, true, false, false, false] rfl rfl (by kernel_rfl) (fun _ _ _ h => h) (Or.inl ⟨by rfl, ?_⟩) hHeld ?_ ?_
      rotate_left
      ·rintro w' ⟨s0, s1, s2, s3⟩
       go_simp
       with_reducible rfl
      rotate_left
      ·simp only [Act.put, List.setIfInBounds_toArray, List.set_cons_zero, List.set_cons_succ, i64_w, i32_w]
       rfl
      refine one_ (i := 2) (N := some 51) #[true, true, true, false, false] rfl rfl (by kernel_rfl) (by decide) (fun K hK => ?_)
      refine goesY Try.func39 #[.agg #[.int .i64 a0_0, .slice A0_1 l0_1.length c0_1]] ?_
      with_reducible refine (laws_toDisk.calls kj12 a0_0 _ _ l0_1 t255 t256 _ ?side1 ?side2 A58.out).mono ?_
      (case side1 => exact xcb HR0_1)
      (case side2 => exact HC0_1.out)
      rintro e w64 ⟨v257, rfl, ho0, hb⟩
      refine ⟨_, rfl, ?_⟩
      have HO258 := aM (Kd.R_lower (Kd.R_new' (Kd.R_new' (Kd.R_new' ho0 (Kd.R_lt (xr HO_243001))) (Kd.R_lt (xr HO_248001))) (Kd.R_lt (xr HO_254001))) (below_size xbg)); replace HO_243001 := aM (Kd.R_elder' (xr HO_243001) (Kd.R_base ho0) hb); replace HO_248001 := aM (Kd.R_elder' (xr HO_248001) (Kd.R_base ho0) hb); replace HO_254001 := aM (Kd.R_elder' (xr HO_254001) (Kd.R_base ho0) hb); replace BK231 := xbb BK231 hb; replace BK242 := xbb BK242 hb; replace BK247 := xbb BK247 hb; replace BK253 := xbb BK253 hb; replace HB := xbs hb
      (try clear hb); (try clear hb2); (try clear hk); (try clear hi); (try clear ho0)
      obtain ⟨Ao65, co65, eo65⟩ := Kd.R_slice HO258.out
      (first | subst eo65 | (injection eo65 with f1_ f2_ f3_; have f4_ := f1_.symm; have f5_ := f3_.symm; clear f1_ f2_ f3_; subst f4_; subst f5_))
      refine hK.out _ _ ⟨xc BK247 0 rfl, xc BK247 1 rfl, xc BK231 0 rfl, xc BK231 1 rfl⟩ (fun hHeld => ?_)
      clear hK K
      refine norm_ (a' := ?_) ?_ ?_
      rotate_left
      ·show Act.put _ (some 51) _ = _
       simp only [Act.put, List.setIfInBounds_toArray, List.set_cons_zero, List.set_cons_succ, i64_w, i32_w]
       rfl
      refine one_ (i := 3) (N := some 52) #[true, true, true, true, false] rfl rfl (by kernel_rfl) (by decide) (fun K hK => ?_)
      refine goesY Try.func41 #[.agg #[.int .i64 t243, .slice Ao31 t244.length co31], .agg #[.int .i64 t255, .slice Ao65 t256.length co65]] ?_
      with_reducible refine (laws_eqDisk.calls kj12 t243 _ _ t244 t255 _ _ t256 true _ ?side1 ?side2 ?side3 ?side4 A59.out).mono ?_
      (case side1 => repeat (first | exact (Kd.R_reads' HO_248001.out).2.2 | (with_reducible refine Kd.C_alloc ?_ _) | (with_reducible refine Kd.C_drewN ?_ _) | (with_reducible refine Kd.C_drew ?_)))
      (case side2 => exact (Kd.R_reads' HO_248001.out).2.1)
      (case side3 => repeat (first | exact (Kd.R_reads' HO258.out).2.2 | (with_reducible refine Kd.C_alloc ?_ _) | (with_reducible refine Kd.C_drewN ?_ _) | (with_reducible refine Kd.C_drew ?_)))
      (case side4 => exact (Kd.R_reads' HO258.out).2.1)
      rintro e w66 ⟨rfl, hb⟩
      refine ⟨_, rfl, ?_⟩
      replace HO_243001 := aM (Kd.R_below (xr HO_243001) hb); replace HO_248001 := aM (Kd.R_below (xr HO_248001) hb); replace HO_254001 := aM (Kd.R_below (xr HO_254001) hb); replace HO258 := aM (Kd.R_below (xr HO258) hb); replace BK231 := xbb BK231 hb; replace BK242 := xbb BK242 hb; replace BK247 := xbb BK247 hb; replace BK253 := xbb BK253 hb; replace HB := xbs hb
      (try clear hb); (try clear hb2); (try clear hk); (try clear hi)
      refine hK.out _ _ ⟨xc BK247 0 rfl, xc BK247 1 rfl, xc BK231 0 rfl, xc BK231 1 rfl⟩ (fun hHeld => ?_)
      clear hK K
      refine norm_ (a' := ?_) ?_ ?_
      rotate_left
      ·show Act.put _ (some 52) _ = _
       simp only [Act.put, List.setIfInBounds_toArray, List.set_cons_zero, List.set_cons_succ, i64_w, i32_w]
       rfl
      refine pure_ (i := 4) (N := some 53) (v := ?_) (a' := ?_) #[true, true, true, true, true] rfl rfl (by kernel_rfl) (fun _ _ _ h => h) (Or.inl ⟨by rfl, ?_⟩) ?_ ?_
      rotate_left
      ·intro w'
       go_simp
       with_reducible rfl
      rotate_left
      ·simp only [Act.put, List.setIfInBounds_toArray, List.set_cons_zero, List.set_cons_succ, i64_w, i32_w]
       rfl
      refine done_ (by kernel_rfl) ?_
      have hnb67 := NB247_231.out; have hnc67 := NB231_247.out; have hnb68 := NB247_242.out; have hnc68 := NB242_247.out; have hnb69 := NB247_253.out; have hnc69 := NB253_247.out; obtain ⟨hcz70_0, hcz70_1, hfz70_0, hfz70_1⟩ := xf2 (w := w66) BK247
      go_upto_region 14 with (first | ((with_reducible refine gate_callee (f := 42) rfl ?_); refine goesL_ (some 56) rfl rfl Try.func42 (by kernel_rfl) rfl #[.agg #[.int .i64 t243, .slice Ao31 t244.length co31], .int .i64 1] rfl (by (try simp only [List.map_toArray, List.map_cons, List.map_nil]); first | done | rfl | (simp only [List.length_drop, List.length_take]; rfl)) ?_; (with_reducible refine (laws_markDisk.calls kj12 t243 (fun k_ => some k_ = (.slice Ao31 t244.length co31 : Value).ownBlock) (.slice Ao31 t244.length co31) t244 1 t260 t261 w _ ?side1 ?side2 A61.out).mono ?_); (case side1 => repeat (first | (with_reducible first | exact HB.out | apply below_alloc | apply pw_below_drewN | apply below_drew1 | refine below_set ?_ GE231.out | refine below_set ?_ GE242.out | refine below_set ?_ GE247.out | refine below_set ?_ GE253.out) | exact HB.out)); (case side2 => exact Kd.R_tight rfl HO_248001.out); rintro e w71 ⟨rfl, hy0, hb, hkp⟩; refine ⟨_, rfl, ?_⟩; have n0_ := aM (Kd.R_mono (ok' := fun k_ => some k_ ≠ (.slice Ao31 t244.length co31 : Value).ownBlock ∧ some k_ ≠ (.slice Ao38 t249.length co38 : Value).ownBlock ∧ some k_ ≠ (.slice Ao65 t256.length co65 : Value).ownBlock) (Kd.R_keptB (HO_243001.out) hkp (fun k_ hk_ hs_ => (hk_.1.1) hs_)) (fun k_ hk_ => ⟨hk_.1.1.1, hk_.1.1.2, hk_.1.2⟩)); have n1_ := aM (Kd.R_reok rfl hy0 (fun k_ e_ => HO_248001.out.1 k_ e_)); have n2_ := aM (Kd.R_mono (ok' := fun k_ => some k_ ≠ (.slice Ao24 t238.length co24 : Value).ownBlock ∧ some k_ ≠ (.slice Ao31 t244.length co31 : Value).ownBlock ∧ some k_ ≠ (.slice Ao65 t256.length co65 : Value).ownBlock) (Kd.R_keptB (HO_254001.out) hkp (fun k_ hk_ hs_ => (hk_.1.2) hs_)) (fun k_ hk_ => ⟨hk_.1.1.1, hk_.1.1.2, hk_.1.2⟩)); have n3_ := aM (blk_kept xblk hkp (fun hs_ => (fun e_ => (Kd.R_ne HO_248001.out BK231.out (by decide)) e_) hs_)); have n4_ := aM (blk_kept xblk hkp (fun hs_ => (fun e_ => (Kd.R_ne HO_248001.out BK242.out (by decide)) e_) hs_)); have n5_ := aM (blk_kept xblk hkp (fun hs_ => (fun e_ => (Kd.R_ne HO_248001.out BK247.out (by decide)) e_) hs_)); have n6_ := aM (blk_kept xblk hkp (fun hs_ => (fun e_ => (Kd.R_ne HO_248001.out BK253.out (by decide)) e_) hs_)); have n7_ := aM (Kd.R_mono (ok' := fun k_ => some k_ ≠ (.slice Ao24 t238.length co24 : Value).ownBlock ∧ some k_ ≠ (.slice Ao31 t244.length co31 : Value).ownBlock ∧ some k_ ≠ (.slice Ao38 t249.length co38 : Value).ownBlock) (Kd.R_keptB (HO258.out) hkp (fun k_ hk_ hs_ => (hk_.1.2) hs_)) (fun k_ hk_ => ⟨hk_.1.1.1.2, hk_.1.1.2, hk_.1.2⟩)); have n8_ := aM (hb); clear HO_243001; clear HO_248001; clear HO_254001; clear BK231; clear BK242; clear BK247; clear BK253; clear HO258; clear HB; have HO_243001 := n0_; have HO_248001 := n1_; have HO_254001 := n2_; have BK231 := n3_; have BK242 := n4_; have BK247 := n5_; have BK253 := n6_; have HO258 := n7_; have HB := n8_; clear n0_ n1_ n2_ n3_ n4_ n5_ n6_ n7_ n8_; (try clear hb); (try clear hkp); (try clear hy0)))
      (try simp only [Act.put, List.setIfInBounds_toArray, List.set_cons_zero, List.set_cons_succ])
      go_cut [69] (fun v69 wc => ∃ (kq : Nat) (x69_61 : Bool), v69 = .bool x69_61 ∧ Aside0 (laws_FnExactDiskMove.j1 kq a1 a2 t241 x69_61 a0_0 l0_1 t237 t238 t248 t249 = some r) ∧ Aside0 (kq ≤ kj12) ∧ Aside0 (Kd.R k134 134 wc w.heap.size (fun k_ => some k_ ≠ ((.slice Ao31 t244.length co31) : Value).ownBlock ∧ some k_ ≠ ((.slice Ao38 t249.length co38) : Value).ownBlock) (.slice Ao24 t238.length co24) t238) ∧ Aside0 (Kd.R k134 134 wc w.heap.size (fun k_ => some k_ ≠ ((.slice Ao24 t238.length co24) : Value).ownBlock ∧ some k_ ≠ ((.slice Ao38 t249.length co38) : Value).ownBlock) (.slice Ao31 t244.length co31) t261) ∧ Aside0 (Kd.R k134 134 wc w.heap.size (fun k_ => some k_ ≠ ((.slice Ao24 t238.length co24) : Value).ownBlock ∧ some k_ ≠ ((.slice Ao31 t244.length co31) : Value).ownBlock) (.slice Ao38 t249.length co38) t249) ∧ Aside0 (wc.heap[gb231]? = some (.cells #[.int .i64 a0_0, (.slice A0_1 l0_1.length c0_1)] 66 (0, 0))) ∧ Aside0 (wc.heap[gb242]? = some (.cells #[.int .i64 t237, (.slice Ao24 t238.length co24)] 70 (0, 0))) ∧ Aside0 (wc.heap[gb247]? = some (.cells #[.int .i64 t243, (.slice Ao31 t244.length co31)] 70 (0, 0))) ∧ Aside0 (wc.heap[gb253]? = some (.cells #[.int .i64 t248, (.slice Ao38 t249.length co38)] 70 (0, 0))) ∧ Aside0 (Below w.heap.size w wc))
      case first =>
       have H := HC62.out; clear HC62
       by_cases c72 : t260 < 0
       ·rw [if_pos c72] at H
        have c72b0 : decide (t260 < 0) = true := decide_eq_true c72; clear c72
        (first | rw [c72b0] | (simp only [i64_w, i32_w]; rw [c72b0]) | skip)
        have H' := aM H
        clear H
        go_wp2
        go_meet
        case rel => exact ⟨_, (true), (by first | rfl | (simp; done) | (simp [*]; done)), H', ⟨by have := HJ12.out; first | omega | exact Nat.le_refl _⟩, ⟨by (with_reducible repeat (first | apply Kd.R_alloc | apply Kd.R_drewN | apply Kd.R_drew)); exact Kd.R_mono HO_243001.out (fun _ hk => ⟨hk.1, hk.2.1⟩)⟩, ⟨by (with_reducible repeat (first | apply Kd.R_alloc | apply Kd.R_drewN | apply Kd.R_drew)); exact Kd.R_mono HO_248001.out (fun _ hk => ⟨hk.1.1, hk.1.2⟩)⟩, ⟨by (with_reducible repeat (first | apply Kd.R_alloc | apply Kd.R_drewN | apply Kd.R_drew)); exact Kd.R_mono HO_254001.out (fun _ hk => ⟨hk.1, hk.2.1⟩)⟩, ⟨xblk⟩, ⟨xblk⟩, ⟨xblk⟩, ⟨xblk⟩, ⟨xbg⟩⟩
       ·rw [if_neg c72] at H
        have c72b0 : decide (t260 < 0) = false := decide_eq_false c72; clear c72
        (first | rw [c72b0] | (simp only [i64_w, i32_w]; rw [c72b0]) | skip)
        replace H := Option.bind_eq_some_iff.mp H
        obtain ⟨t262, A730, H⟩ := H
        replace H : (if t262 = true then (laws_FnExactDiskMove.j1 kj12 a1 a2 t241 (t252 != t241) a0_0 l0_1 t237 t238 t248 t249) else (laws_FnExactDiskMove.j1 kj12 a1 a2 t241 true a0_0 l0_1 t237 t238 t248 t249)) = some r := H; have A73 := aM A730; clear A730
        by_cases c74 : t262 = true
        ·subst c74
         have H1 : (laws_FnExactDiskMove.j1 kj12 a1 a2 t241 (t252 != t241) a0_0 l0_1 t237 t238 t248 t249) = some r := by rw [if_pos rfl] at H; exact H
         clear H; have H := H1; clear H1
         have H' := aM H
         clear H; have hnb75 := NB253_231.out; have hnc75 := NB231_253.out; have hnb76 := NB253_242.out; have hnc76 := NB242_253.out; have hnb77 := NB253_247.out; have hnc77 := NB247_253.out; obtain ⟨hcz78_0, hcz78_1, hfz78_0, hfz78_1⟩ := xf2 (w := w71) BK253; have hnb79 := NB242_231.out; have hnc79 := NB231_242.out; have hnb80 := NB242_247.out; have hnc80 := NB247_242.out; obtain ⟨hcz81_0, hcz81_1, hfz81_0, hfz81_1⟩ := xf2 (w := w71) BK242
         go_wp2_with (first | (go_at_call 41; (with_reducible refine (laws_eqDisk.calls kj12 t248 _ _ t249 t237 _ _ t238 true _ ?side1 ?side2 ?side3 ?side4 A73.out).mono ?_); (case side1 => repeat (first | exact (Kd.R_reads' HO_254001.out).2.2 | (with_reducible refine Kd.C_alloc ?_ _) | (with_reducible refine Kd.C_drewN ?_ _) | (with_reducible refine Kd.C_drew ?_))); (case side2 => exact (Kd.R_reads' HO_254001.out).2.1); (case side3 => repeat (first | exact (Kd.R_reads' HO_243001.out).2.2 | (with_reducible refine Kd.C_alloc ?_ _) | (with_reducible refine Kd.C_drewN ?_ _) | (with_reducible refine Kd.C_drew ?_))); (case side4 => exact (Kd.R_reads' HO_243001.out).2.1); rintro e w82 ⟨rfl, hb⟩; replace HO_243001 := aM (Kd.R_below (xr HO_243001) hb); replace HO_248001 := aM (Kd.R_below (xr HO_248001) hb); replace HO_254001 := aM (Kd.R_below (xr HO_254001) hb); replace HO258 := aM (Kd.R_below (xr HO258) hb); replace BK231 := xbb BK231 hb; replace BK242 := xbb BK242 hb; replace BK247 := xbb BK247 hb; replace BK253 := xbb BK253 hb; replace HB := xbs hb; (try clear hb); (try clear hb2); (try clear hk); (try clear hi)))
         go_meet
         case rel => exact ⟨_, ((t252 != t241)), (by first | rfl | (simp; done) | (simp [*]; done)), H', ⟨by have := HJ12.out; first | omega | exact Nat.le_refl _⟩, ⟨by (with_reducible repeat (first | apply Kd.R_alloc | apply Kd.R_drewN | apply Kd.R_drew)); exact Kd.R_mono HO_243001.out (fun _ hk => ⟨hk.1, hk.2.1⟩)⟩, ⟨by (with_reducible repeat (first | apply Kd.R_alloc | apply Kd.R_drewN | apply Kd.R_drew)); exact Kd.R_mono HO_248001.out (fun _ hk => ⟨hk.1.1, hk.1.2⟩)⟩, ⟨by (with_reducible repeat (first | apply Kd.R_alloc | apply Kd.R_drewN | apply Kd.R_drew)); exact Kd.R_mono HO_254001.out (fun _ hk => ⟨hk.1, hk.2.1⟩)⟩, ⟨xblk⟩, ⟨xblk⟩, ⟨xblk⟩, ⟨xblk⟩, ⟨xbg⟩⟩
        ·replace c74 := Bool.eq_false_iff.mpr c74
         subst c74
         have H1 : (laws_FnExactDiskMove.j1 kj12 a1 a2 t241 true a0_0 l0_1 t237 t238 t248 t249) = some r := by rw [if_neg (show ¬ (false = true) by decide)] at H; exact H
         clear H; have H := H1; clear H1
         have H' := aM H
         clear H; have hnb83 := NB253_231.out; have hnc83 := NB231_253.out; have hnb84 := NB253_242.out; have hnc84 := NB242_253.out; have hnb85 := NB253_247.out; have hnc85 := NB247_253.out; obtain ⟨hcz86_0, hcz86_1, hfz86_0, hfz86_1⟩ := xf2 (w := w71) BK253; have hnb87 := NB242_231.out; have hnc87 := NB231_242.out; have hnb88 := NB242_247.out; have hnc88 := NB247_242.out; obtain ⟨hcz89_0, hcz89_1, hfz89_0, hfz89_1⟩ := xf2 (w := w71) BK242
         go_wp2_with (first | (go_at_call 41; (with_reducible refine (laws_eqDisk.calls kj12 t248 _ _ t249 t237 _ _ t238 false _ ?side1 ?side2 ?side3 ?side4 A73.out).mono ?_); (case side1 => repeat (first | exact (Kd.R_reads' HO_254001.out).2.2 | (with_reducible refine Kd.C_alloc ?_ _) | (with_reducible refine Kd.C_drewN ?_ _) | (with_reducible refine Kd.C_drew ?_))); (case side2 => exact (Kd.R_reads' HO_254001.out).2.1); (case side3 => repeat (first | exact (Kd.R_reads' HO_243001.out).2.2 | (with_reducible refine Kd.C_alloc ?_ _) | (with_reducible refine Kd.C_drewN ?_ _) | (with_reducible refine Kd.C_drew ?_))); (case side4 => exact (Kd.R_reads' HO_243001.out).2.1); rintro e w90 ⟨rfl, hb⟩; replace HO_243001 := aM (Kd.R_below (xr HO_243001) hb); replace HO_248001 := aM (Kd.R_below (xr HO_248001) hb); replace HO_254001 := aM (Kd.R_below (xr HO_254001) hb); replace HO258 := aM (Kd.R_below (xr HO258) hb); replace BK231 := xbb BK231 hb; replace BK242 := xbb BK242 hb; replace BK247 := xbb BK247 hb; replace BK253 := xbb BK253 hb; replace HB := xbs hb; (try clear hb); (try clear hb2); (try clear hk); (try clear hi)))
         go_meet
         case rel => exact ⟨_, (true), (by first | rfl | (simp; done) | (simp [*]; done)), H', ⟨by have := HJ12.out; first | omega | exact Nat.le_refl _⟩, ⟨by (with_reducible repeat (first | apply Kd.R_alloc | apply Kd.R_drewN | apply Kd.R_drew)); exact Kd.R_mono HO_243001.out (fun _ hk => ⟨hk.1, hk.2.1⟩)⟩, ⟨by (with_reducible repeat (first | apply Kd.R_alloc | apply Kd.R_drewN | apply Kd.R_drew)); exact Kd.R_mono HO_248001.out (fun _ hk => ⟨hk.1.1, hk.1.2⟩)⟩, ⟨by (with_reducible repeat (first | apply Kd.R_alloc | apply Kd.R_drewN | apply Kd.R_drew)); exact Kd.R_mono HO_254001.out (fun _ hk => ⟨hk.1, hk.2.1⟩)⟩, ⟨xblk⟩, ⟨xblk⟩, ⟨xblk⟩, ⟨xblk⟩, ⟨xbg⟩⟩
      case rest =>
       clear HC62
       try clear c2
       try clear p2
       try clear c3
       try clear c4
       try clear c5
       try clear c5b0
       try clear c6
       try clear c7
       try clear c8
       try clear c22
       try clear c28
       try clear c29
       try clear c34
       try clear c35
       try clear c36
       try clear c37
       try clear c39
       try clear c40
       try clear c41
       try clear c42
       try clear c43
       try clear c44
       try clear c45
       try clear c46
       try clear c49
       try clear c50
       try clear c51
       try clear c53
       try clear c54
       try clear c57
       try clear c60
       try clear c67
       try clear c68
       try clear c69
       try clear c72
       try clear c72b0
       try clear c74
       try clear c75
       try clear c76
       try clear c77
       try clear c79
       try clear c80
       try clear c83
       try clear c84
       try clear c85
       try clear c87
       try clear c88
       try clear hcz15_0
       try clear hcz15_1
       try clear hcz17_0
       try clear hcz17_1
       try clear hcz23_0
       try clear hcz23_1
       try clear hcz25_0
       try clear hcz25_1
       try clear hcz30_0
       try clear hcz30_1
       try clear hcz37_0
       try clear hcz37_1
       try clear hcz44_0
       try clear hcz44_1
       try clear hcz47_0
       try clear hcz47_1
       try clear hcz52_0
       try clear hcz52_1
       try clear hcz55_0
       try clear hcz55_1
       try clear hcz70_0
       try clear hcz70_1
       try clear hcz78_0
       try clear hcz78_1
       try clear hcz7_0
       try clear hcz7_1
       try clear hcz81_0
       try clear hcz81_1
       try clear hcz86_0
       try clear hcz86_1
       try clear hcz89_0
       try clear hcz89_1
       try clear hfz15_0
       try clear hfz15_1
       try clear hfz17_0
       try clear hfz17_1
       try clear hfz23_0
       try clear hfz23_1
       try clear hfz25_0
       try clear hfz25_1
       try clear hfz30_0
       try clear hfz30_1
       try clear hfz37_0
       try clear hfz37_1
       try clear hfz44_0
       try clear hfz44_1
       try clear hfz47_0
       try clear hfz47_1
       try clear hfz52_0
       try clear hfz52_1
       try clear hfz55_0
       try clear hfz55_1
       try clear hfz70_0
       try clear hfz70_1
       try clear hfz78_0
       try clear hfz78_1
       try clear hfz7_0
       try clear hfz7_1
       try clear hfz81_0
       try clear hfz81_1
       try clear hfz86_0
       try clear hfz86_1
       try clear hfz89_0
       try clear hfz89_1
       try clear p2
       obtain ⟨kq, x69_61, rfl, HA, HJ61, HO_243001, HO_248001, HO_254001, BK231, BK242, BK247, BK253, HB⟩ := hcut
       have hl248001_61 := (Kd.R_reads' HO_248001.out).1
       rw [hl248001_61] at HO_248001
       (try simp only [hl248001_61])
       (try simp only [hl248001_61] at BK231)
       (try simp only [hl248001_61] at BK242)
       (try simp only [hl248001_61] at BK247)
       (try simp only [hl248001_61] at BK253)
       (try simp only [hl248001_61] at HO_243001)
       (try simp only [hl248001_61] at HO_254001)
       cases kq with
       | zero => exact absurd HA.out (by simp [laws_FnExactDiskMove.j1])
       | succ kj61 =>
        have H := HA.out; clear HA
        simp only [laws_FnExactDiskMove.j1] at H
        by_cases c91 : x69_61 = true
        ·subst c91
         have H1 : (some false) = some r := by rw [if_pos rfl] at H; exact H
         clear H; have H := H1; clear H1
         obtain rfl := Option.some.inj H
         go_wp2
         go_ret
         exact ⟨by first | rfl | (simp [errW_none, errW_some] <;> rfl) | (simp [*, errW_none, errW_some] <;> rfl), xbg⟩
        ·replace c91 := Bool.eq_false_iff.mpr c91
         subst c91
         have H1 : ((laws_markDisk.f kj61 t248 t249 1).bind fun bt263 => ((laws_heldDisk.f kj61 t248 bt263.2 1).bind fun t265 => (if t265 < 0 then (some false) else (if t265 = bt263.1 then ((laws_toDisk.f kj61 a0_0 l0_1).bind fun bt266 => ((impl_DiskMove.f kj61 bt266.1 bt266.2 a1 a2).bind fun bt270 => ((laws_eqDisk.f kj61 bt270.1 bt270.2.1 t237 t238).bind fun t276 => (if t276 = true then (laws_FnExactDiskMove.j2 kj61 bt263.1 (bt270.2.2 != t241) t248 bt263.2) else (laws_FnExactDiskMove.j2 kj61 bt263.1 true t248 bt263.2))))) else (some false))))) = some r := by rw [if_neg (show ¬ (false = true) by decide)] at H; exact H
         clear H; have H := H1; clear H1; replace H := Option.bind_eq_some_iff.mp H
         obtain ⟨⟨t263, t264⟩, A920, H⟩ := H
         replace H : ((laws_heldDisk.f kj61 t248 t264 1).bind fun t265 => (if t265 < 0 then (some false) else (if t265 = t263 then ((laws_toDisk.f kj61 a0_0 l0_1).bind fun bt266 => ((impl_DiskMove.f kj61 bt266.1 bt266.2 a1 a2).bind fun bt270 => ((laws_eqDisk.f kj61 bt270.1 bt270.2.1 t237 t238).bind fun t276 => (if t276 = true then (laws_FnExactDiskMove.j2 kj61 t263 (bt270.2.2 != t241) t248 t264) else (laws_FnExactDiskMove.j2 kj61 t263 true t248 t264))))) else (some false)))) = some r := H; have A92 := aM A920; clear A920; replace H := Option.bind_eq_some_iff.mp H
         obtain ⟨t265, A930, H⟩ := H
         replace H : (if t265 < 0 then (some false) else (if t265 = t263 then ((laws_toDisk.f kj61 a0_0 l0_1).bind fun bt266 => ((impl_DiskMove.f kj61 bt266.1 bt266.2 a1 a2).bind fun bt270 => ((laws_eqDisk.f kj61 bt270.1 bt270.2.1 t237 t238).bind fun t276 => (if t276 = true then (laws_FnExactDiskMove.j2 kj61 t263 (bt270.2.2 != t241) t248 t264) else (laws_FnExactDiskMove.j2 kj61 t263 true t248 t264))))) else (some false))) = some r := H; have A93 := aM A930; clear A930
         by_cases c94 : t265 < 0
         ·rw [if_pos c94] at H
          have c94b0 : decide (t265 < 0) = true := decide_eq_true c94; clear c94
          obtain rfl := Option.some.inj H
          have hnb95 := NB253_231.out; have hnc95 := NB231_253.out; have hnb96 := NB253_242.out; have hnc96 := NB242_253.out; have hnb97 := NB253_247.out; have hnc97 := NB247_253.out; obtain ⟨hcz98_0, hcz98_1, hfz98_0, hfz98_1⟩ := xf2 (w := wc) BK253
          go_wp2_with (first | ((with_reducible refine gate_callee (f := 42) rfl ?_); refine goesL_ (some 72) rfl rfl Try.func42 (by kernel_rfl) rfl #[.agg #[.int .i64 t248, .slice Ao38 t249.length co38], .int .i64 1] rfl (by (try simp only [List.map_toArray, List.map_cons, List.map_nil]); first | done | rfl | (simp only [List.length_drop, List.length_take]; rfl)) ?_; (with_reducible refine (laws_markDisk.calls kj61 t248 (fun k_ => some k_ = (.slice Ao38 t249.length co38 : Value).ownBlock) (.slice Ao38 t249.length co38) t249 1 t263 t264 w _ ?side1 ?side2 A92.out).mono ?_); (case side1 => repeat (first | (with_reducible first | exact HB.out | apply below_alloc | apply pw_below_drewN | apply below_drew1 | refine below_set ?_ GE231.out | refine below_set ?_ GE242.out | refine below_set ?_ GE247.out | refine below_set ?_ GE253.out) | exact HB.out)); (case side2 => exact Kd.R_tight rfl HO_254001.out); rintro e w99 ⟨rfl, hy0, hb, hkp⟩; refine ⟨_, rfl, ?_⟩; have n0_ := aM (Kd.R_mono (ok' := fun k_ => some k_ ≠ (.slice Ao31 t261.length co31 : Value).ownBlock ∧ some k_ ≠ (.slice Ao38 t249.length co38 : Value).ownBlock) (Kd.R_keptB (HO_243001.out) hkp (fun k_ hk_ hs_ => (hk_.2) hs_)) (fun k_ hk_ => ⟨hk_.1.1, hk_.1.2⟩)); have n1_ := aM (Kd.R_mono (ok' := fun k_ => some k_ ≠ (.slice Ao24 t238.length co24 : Value).ownBlock ∧ some k_ ≠ (.slice Ao38 t249.length co38 : Value).ownBlock) (Kd.R_keptB (HO_248001.out) hkp (fun k_ hk_ hs_ => (hk_.2) hs_)) (fun k_ hk_ => ⟨hk_.1.1, hk_.1.2⟩)); have n2_ := aM (Kd.R_reok rfl hy0 (fun k_ e_ => HO_254001.out.1 k_ e_)); have n3_ := aM (blk_kept xblk hkp (fun hs_ => (fun e_ => (Kd.R_ne HO_254001.out BK231.out (by decide)) e_) hs_)); have n4_ := aM (blk_kept xblk hkp (fun hs_ => (fun e_ => (Kd.R_ne HO_254001.out BK242.out (by decide)) e_) hs_)); have n5_ := aM (blk_kept xblk hkp (fun hs_ => (fun e_ => (Kd.R_ne HO_254001.out BK247.out (by decide)) e_) hs_)); have n6_ := aM (blk_kept xblk hkp (fun hs_ => (fun e_ => (Kd.R_ne HO_254001.out BK253.out (by decide)) e_) hs_)); have n7_ := aM (hb); clear HO_243001; clear HO_248001; clear HO_254001; clear BK231; clear BK242; clear BK247; clear BK253; clear HB; have HO_243001 := n0_; have HO_248001 := n1_; have HO_254001 := n2_; have BK231 := n3_; have BK242 := n4_; have BK247 := n5_; have BK253 := n6_; have HB := n7_; clear n0_ n1_ n2_ n3_ n4_ n5_ n6_ n7_; (try clear hb); (try clear hkp); (try clear hy0); obtain ⟨hcz100_0, hcz100_1, hfz100_0, hfz100_1⟩ := xf2 (w := w99) BK253) | ((with_reducible refine gate_callee (f := 43) rfl ?_); refine goesL_ (some 75) rfl rfl Try.func43 (by kernel_rfl) rfl #[.agg #[.int .i64 t248, .slice Ao38 t264.length co38], .int .i64 1] rfl (by (try simp only [List.map_toArray, List.map_cons, List.map_nil]); first | done | (rw [show t264.length = t249.length from (Kd.R_reads' HO_254001.out).1.symm] <;> rfl) | rfl | (simp only [List.length_drop, List.length_take]; rfl)) ?_; (with_reducible refine (laws_heldDisk.calls kj61 t248 _ _ t264 1 t265 _ ?side1 ?side2 A93.out).mono ?_); (case side1 => repeat (first | exact (Kd.R_reads' HO_254001.out).2.2 | (with_reducible refine Kd.C_alloc ?_ _) | (with_reducible refine Kd.C_drewN ?_ _) | (with_reducible refine Kd.C_drew ?_))); (case side2 => rw [show t264.length = t249.length from (Kd.R_reads' HO_254001.out).1.symm]; exact (Kd.R_reads' HO_254001.out).2.1); rintro e w101 ⟨rfl, hb⟩; refine ⟨_, rfl, ?_⟩; replace HO_243001 := aM (Kd.R_below (xr HO_243001) hb); replace HO_248001 := aM (Kd.R_below (xr HO_248001) hb); replace HO_254001 := aM (Kd.R_below (xr HO_254001) hb); replace BK231 := xbb BK231 hb; replace BK242 := xbb BK242 hb; replace BK247 := xbb BK247 hb; replace BK253 := xbb BK253 hb; replace HB := xbs hb; (try clear hb); (try clear hb2); (try clear hk); (try clear hi)))
          go_ret
          exact ⟨by first | rfl | (simp [errW_none, errW_some] <;> rfl) | (simp [*, errW_none, errW_some] <;> rfl), xbg⟩
         ·rw [if_neg c94] at H
          have c94b0 : decide (t265 < 0) = false := decide_eq_false c94; clear c94
          by_cases c102 : t265 = t263
          ·rw [if_pos c102] at H
           have c102b0 : (t265 == t263) = true := beq_iff_eq.mpr c102; have c102b1 : (t265 != t263) = false := bne_eq_false_iff_eq.mpr c102; clear c102; replace H := Option.bind_eq_some_iff.mp H
           obtain ⟨⟨t266, t267⟩, A1030, H⟩ := H
           replace H : ((impl_DiskMove.f kj61 t266 t267 a1 a2).bind fun bt270 => ((laws_eqDisk.f kj61 bt270.1 bt270.2.1 t237 t238).bind fun t276 => (if t276 = true then (laws_FnExactDiskMove.j2 kj61 t263 (bt270.2.2 != t241) t248 t264) else (laws_FnExactDiskMove.j2 kj61 t263 true t248 t264)))) = some r := H; have A103 := aM A1030; clear A1030; replace H := Option.bind_eq_some_iff.mp H
           obtain ⟨⟨t270, t271, t274⟩, A1040, H⟩ := H
           replace H : ((laws_eqDisk.f kj61 t270 t271 t237 t238).bind fun t276 => (if t276 = true then (laws_FnExactDiskMove.j2 kj61 t263 (t274 != t241) t248 t264) else (laws_FnExactDiskMove.j2 kj61 t263 true t248 t264))) = some r := H; have A104 := aM A1040; clear A1040; have HC105 := aM H; clear H; have hnb106 := NB253_231.out; have hnc106 := NB231_253.out; have hnb107 := NB253_242.out; have hnc107 := NB242_253.out; have hnb108 := NB253_247.out; have hnc108 := NB247_253.out; obtain ⟨hcz109_0, hcz109_1, hfz109_0, hfz109_1⟩ := xf2 (w := wc) BK253
           go_upto_region 25 with (first | ((with_reducible refine gate_callee (f := 42) rfl ?_); refine goesL_ (some 72) rfl rfl Try.func42 (by kernel_rfl) rfl #[.agg #[.int .i64 t248, .slice Ao38 t249.length co38], .int .i64 1] rfl (by (try simp only [List.map_toArray, List.map_cons, List.map_nil]); first | done | rfl | (simp only [List.length_drop, List.length_take]; rfl)) ?_; (with_reducible refine (laws_markDisk.calls kj61 t248 (fun k_ => some k_ = (.slice Ao38 t249.length co38 : Value).ownBlock) (.slice Ao38 t249.length co38) t249 1 t263 t264 w _ ?side1 ?side2 A92.out).mono ?_); (case side1 => repeat (first | (with_reducible first | exact HB.out | apply below_alloc | apply pw_below_drewN | apply below_drew1 | refine below_set ?_ GE231.out | refine below_set ?_ GE242.out | refine below_set ?_ GE247.out | refine below_set ?_ GE253.out) | exact HB.out)); (case side2 => exact Kd.R_tight rfl HO_254001.out); rintro e w110 ⟨rfl, hy0, hb, hkp⟩; refine ⟨_, rfl, ?_⟩; have n0_ := aM (Kd.R_mono (ok' := fun k_ => some k_ ≠ (.slice Ao31 t261.length co31 : Value).ownBlock ∧ some k_ ≠ (.slice Ao38 t249.length co38 : Value).ownBlock) (Kd.R_keptB (HO_243001.out) hkp (fun k_ hk_ hs_ => (hk_.2) hs_)) (fun k_ hk_ => ⟨hk_.1.1, hk_.1.2⟩)); have n1_ := aM (Kd.R_mono (ok' := fun k_ => some k_ ≠ (.slice Ao24 t238.length co24 : Value).ownBlock ∧ some k_ ≠ (.slice Ao38 t249.length co38 : Value).ownBlock) (Kd.R_keptB (HO_248001.out) hkp (fun k_ hk_ hs_ => (hk_.2) hs_)) (fun k_ hk_ => ⟨hk_.1.1, hk_.1.2⟩)); have n2_ := aM (Kd.R_reok rfl hy0 (fun k_ e_ => HO_254001.out.1 k_ e_)); have n3_ := aM (blk_kept xblk hkp (fun hs_ => (fun e_ => (Kd.R_ne HO_254001.out BK231.out (by decide)) e_) hs_)); have n4_ := aM (blk_kept xblk hkp (fun hs_ => (fun e_ => (Kd.R_ne HO_254001.out BK242.out (by decide)) e_) hs_)); have n5_ := aM (blk_kept xblk hkp (fun hs_ => (fun e_ => (Kd.R_ne HO_254001.out BK247.out (by decide)) e_) hs_)); have n6_ := aM (blk_kept xblk hkp (fun hs_ => (fun e_ => (Kd.R_ne HO_254001.out BK253.out (by decide)) e_) hs_)); have n7_ := aM (hb); clear HO_243001; clear HO_248001; clear HO_254001; clear BK231; clear BK242; clear BK247; clear BK253; clear HB; have HO_243001 := n0_; have HO_248001 := n1_; have HO_254001 := n2_; have BK231 := n3_; have BK242 := n4_; have BK247 := n5_; have BK253 := n6_; have HB := n7_; clear n0_ n1_ n2_ n3_ n4_ n5_ n6_ n7_; (try clear hb); (try clear hkp); (try clear hy0); obtain ⟨hcz111_0, hcz111_1, hfz111_0, hfz111_1⟩ := xf2 (w := w110) BK253) | ((with_reducible refine gate_callee (f := 43) rfl ?_); refine goesL_ (some 75) rfl rfl Try.func43 (by kernel_rfl) rfl #[.agg #[.int .i64 t248, .slice Ao38 t264.length co38], .int .i64 1] rfl (by (try simp only [List.map_toArray, List.map_cons, List.map_nil]); first | done | (rw [show t264.length = t249.length from (Kd.R_reads' HO_254001.out).1.symm] <;> rfl) | rfl | (simp only [List.length_drop, List.length_take]; rfl)) ?_; (with_reducible refine (laws_heldDisk.calls kj61 t248 _ _ t264 1 t265 _ ?side1 ?side2 A93.out).mono ?_); (case side1 => repeat (first | exact (Kd.R_reads' HO_254001.out).2.2 | (with_reducible refine Kd.C_alloc ?_ _) | (with_reducible refine Kd.C_drewN ?_ _) | (with_reducible refine Kd.C_drew ?_))); (case side2 => rw [show t264.length = t249.length from (Kd.R_reads' HO_254001.out).1.symm]; exact (Kd.R_reads' HO_254001.out).2.1); rintro e w112 ⟨rfl, hb⟩; refine ⟨_, rfl, ?_⟩; replace HO_243001 := aM (Kd.R_below (xr HO_243001) hb); replace HO_248001 := aM (Kd.R_below (xr HO_248001) hb); replace HO_254001 := aM (Kd.R_below (xr HO_254001) hb); replace BK231 := xbb BK231 hb; replace BK242 := xbb BK242 hb; replace BK247 := xbb BK247 hb; replace BK253 := xbb BK253 hb; replace HB := xbs hb; (try clear hb); (try clear hb2); (try clear hk); (try clear hi); have hnb113 := NB231_242.out; have hnc113 := NB242_231.out; have hnb114 := NB231_247.out; have hnc114 := NB247_231.out; obtain ⟨hcz115_0, hcz115_1, hfz115_0, hfz115_1⟩ := xf2 (w := w112) BK231) | ((with_reducible refine gate_callee (f := 39) rfl ?_); refine goesL_ (some 83) rfl rfl Try.func39 (by kernel_rfl) rfl #[.agg #[.int .i64 a0_0, .slice A0_1 l0_1.length c0_1]] rfl (by (try simp only [List.map_toArray, List.map_cons, List.map_nil]); first | done | rfl | (simp only [List.length_drop, List.length_take]; rfl)) ?_; (with_reducible refine (laws_toDisk.calls kj61 a0_0 _ _ l0_1 t266 t267 _ ?side1 ?side2 A103.out).mono ?_); (case side1 => exact xcb HR0_1); (case side2 => exact HC0_1.out); rintro e w116 ⟨v268, rfl, ho0, hb⟩; refine ⟨_, rfl, ?_⟩; have HO269 := aM (Kd.R_lower (Kd.R_new' (Kd.R_new' (Kd.R_new' ho0 (Kd.R_lt (xr HO_243001))) (Kd.R_lt (xr HO_248001))) (Kd.R_lt (xr HO_254001))) (below_size xbg)); replace HO_243001 := aM (Kd.R_elder' (xr HO_243001) (Kd.R_base ho0) hb); replace HO_248001 := aM (Kd.R_elder' (xr HO_248001) (Kd.R_base ho0) hb); replace HO_254001 := aM (Kd.R_elder' (xr HO_254001) (Kd.R_base ho0) hb); replace BK231 := xbb BK231 hb; replace BK242 := xbb BK242 hb; replace BK247 := xbb BK247 hb; replace BK253 := xbb BK253 hb; replace HB := xbs hb; (try clear hb); (try clear hb2); (try clear hk); (try clear hi); (try clear ho0); obtain ⟨Ao117, co117, eo117⟩ := Kd.R_slice HO269.out; subst eo117) | ((with_reducible refine gate_callee (f := 45) rfl ?_); refine goesL_ (some 86) rfl rfl Try.func45 (by kernel_rfl) rfl #[.agg #[.int .i64 t266, .slice Ao117 t267.length co117], .int .i64 a1, .int .i64 a2] rfl (by (try simp only [List.map_toArray, List.map_cons, List.map_nil]); first | done | rfl | (simp only [List.length_drop, List.length_take]; rfl)) ?_; (with_reducible refine (impl_DiskMove.calls kj61 t266 _ _ t267 a1 a2 t270 t271 t274 _ ?side1 ?side2 A104.out).mono ?_); (case side1 => repeat (first | exact (Kd.R_reads' HO269.out).2.2 | (with_reducible refine Kd.C_alloc ?_ _) | (with_reducible refine Kd.C_drewN ?_ _) | (with_reducible refine Kd.C_drew ?_))); (case side2 => exact (Kd.R_reads' HO269.out).2.1); rintro e w118 ⟨v272, rfl, ho0, hb⟩; refine ⟨_, rfl, ?_⟩; have HO273 := aM (Kd.R_lower (Kd.R_new' (Kd.R_new' (Kd.R_new' (Kd.R_new' ho0 (Kd.R_lt (xr HO_243001))) (Kd.R_lt (xr HO_248001))) (Kd.R_lt (xr HO_254001))) (Kd.R_lt (xr HO269))) (below_size xbg)); replace HO_243001 := aM (Kd.R_elder' (xr HO_243001) (Kd.R_base ho0) hb); replace HO_248001 := aM (Kd.R_elder' (xr HO_248001) (Kd.R_base ho0) hb); replace HO_254001 := aM (Kd.R_elder' (xr HO_254001) (Kd.R_base ho0) hb); replace HO269 := aM (Kd.R_elder' (xr HO269) (Kd.R_base ho0) hb); replace BK231 := xbb BK231 hb; replace BK242 := xbb BK242 hb; replace BK247 := xbb BK247 hb; replace BK253 := xbb BK253 hb; replace HB := xbs hb; (try clear hb); (try clear hb2); (try clear hk); (try clear hi); (try clear ho0)) | ((with_reducible refine gate_dst (N := 16) rfl ?_); refine box_event ?hg (N := 16) ?hd (cs := #[.int .i64 0, .slice none 0 0]) (t := 70) ?hr ?_; (case hd => rfl); (case hg => rfl); (case hr => first | (go_simp; done) | (go_simp; rfl)); intro gb275 hg w119 hbox hb; replace HO_243001 := aM (Kd.R_below (xr HO_243001) hb); replace HO_248001 := aM (Kd.R_below (xr HO_248001) hb); replace HO_254001 := aM (Kd.R_below (xr HO_254001) hb); replace HO269 := aM (Kd.R_below (xr HO269) hb); replace HO273 := aM (Kd.R_below (xr HO273) hb); have GW275 := aM (xge hg); have GE275 := aM (xge hg); replace HB := xbs hb; have NB231_275 := aM ((by rw [hg]; exact Nat.ne_of_lt (blk_lt (g := gb231) (o := .cells #[.int .i64 a0_0, .slice A0_1 l0_1.length c0_1] 66 (0, 0)) xblk) : gb231 ≠ gb275)); have NB275_231 := aM ((by rw [hg]; exact Nat.ne_of_gt (blk_lt (g := gb231) (o := .cells #[.int .i64 a0_0, .slice A0_1 l0_1.length c0_1] 66 (0, 0)) xblk) : gb275 ≠ gb231)); have NB242_275 := aM ((by rw [hg]; exact Nat.ne_of_lt (blk_lt (g := gb242) (o := .cells #[.int .i64 t237, .slice Ao24 t238.length co24] 70 (0, 0)) xblk) : gb242 ≠ gb275)); have NB275_242 := aM ((by rw [hg]; exact Nat.ne_of_gt (blk_lt (g := gb242) (o := .cells #[.int .i64 t237, .slice Ao24 t238.length co24] 70 (0, 0)) xblk) : gb275 ≠ gb242)); have NB247_275 := aM ((by rw [hg]; exact Nat.ne_of_lt (blk_lt (g := gb247) (o := .cells #[.int .i64 t243, .slice Ao31 t261.length co31] 70 (0, 0)) xblk) : gb247 ≠ gb275)); have NB275_247 := aM ((by rw [hg]; exact Nat.ne_of_gt (blk_lt (g := gb247) (o := .cells #[.int .i64 t243, .slice Ao31 t261.length co31] 70 (0, 0)) xblk) : gb275 ≠ gb247)); have NB253_275 := aM ((by rw [hg]; exact Nat.ne_of_lt (blk_lt (g := gb253) (o := .cells #[.int .i64 t248, .slice Ao38 t249.length co38] 70 (0, 0)) xblk) : gb253 ≠ gb275)); have NB275_253 := aM ((by rw [hg]; exact Nat.ne_of_gt (blk_lt (g := gb253) (o := .cells #[.int .i64 t248, .slice Ao38 t249.length co38] 70 (0, 0)) xblk) : gb275 ≠ gb253)); replace BK231 := xbb BK231 hb; replace BK242 := xbb BK242 hb; replace BK247 := xbb BK247 hb; replace BK253 := xbb BK253 hb; have BK275 := aM (hbox); clear hb hbox hg; have hnb120 := NB275_231.out; have hnc120 := NB231_275.out; have hnb121 := NB275_242.out; have hnc121 := NB242_275.out; have hnb122 := NB275_247.out; have hnc122 := NB247_275.out; have hnb123 := NB275_253.out; have hnc123 := NB253_275.out; obtain ⟨hcz124_0, hcz124_1, hfz124_0, hfz124_1⟩ := xf2 (w := w119) BK275; obtain ⟨Ao125, co125, eo125⟩ := Kd.R_slice HO273.out; subst eo125))
           (try simp only [Act.put, List.setIfInBounds_toArray, List.set_cons_zero, List.set_cons_succ])
           go_cut [97] (fun v97 wc => ∃ (kq : Nat) (x97_104 : Bool), v97 = .bool x97_104 ∧ Aside0 (laws_FnExactDiskMove.j2 kq t263 x97_104 t248 t264 = some r) ∧ Aside0 (kq ≤ kj61) ∧ Aside0 (Kd.R k134 134 wc w.heap.size (fun k_ => some k_ ≠ ((.slice Ao31 t261.length co31) : Value).ownBlock ∧ some k_ ≠ ((.slice Ao38 t249.length co38) : Value).ownBlock ∧ some k_ ≠ ((.slice Ao125 t271.length co125) : Value).ownBlock) (.slice Ao24 t238.length co24) t238) ∧ Aside0 (Kd.R k134 134 wc w.heap.size (fun k_ => some k_ ≠ ((.slice Ao24 t238.length co24) : Value).ownBlock ∧ some k_ ≠ ((.slice Ao38 t249.length co38) : Value).ownBlock ∧ some k_ ≠ ((.slice Ao125 t271.length co125) : Value).ownBlock) (.slice Ao31 t261.length co31) t261) ∧ Aside0 (Kd.R k134 134 wc w.heap.size (fun k_ => some k_ ≠ ((.slice Ao24 t238.length co24) : Value).ownBlock ∧ some k_ ≠ ((.slice Ao31 t261.length co31) : Value).ownBlock ∧ some k_ ≠ ((.slice Ao125 t271.length co125) : Value).ownBlock) (.slice Ao38 t249.length co38) t264) ∧ Aside0 (Kd.R k134 134 wc w.heap.size (fun k_ => some k_ ≠ ((.slice Ao24 t238.length co24) : Value).ownBlock ∧ some k_ ≠ ((.slice Ao31 t261.length co31) : Value).ownBlock ∧ some k_ ≠ ((.slice Ao38 t249.length co38) : Value).ownBlock) (.slice Ao125 t271.length co125) t271) ∧ Aside0 (wc.heap[gb231]? = some (.cells #[.int .i64 a0_0, (.slice A0_1 l0_1.length c0_1)] 66 (0, 0))) ∧ Aside0 (wc.heap[gb242]? = some (.cells #[.int .i64 t237, (.slice Ao24 t238.length co24)] 70 (0, 0))) ∧ Aside0 (wc.heap[gb247]? = some (.cells #[.int .i64 t243, (.slice Ao31 t261.length co31)] 70 (0, 0))) ∧ Aside0 (wc.heap[gb253]? = some (.cells #[.int .i64 t248, (.slice Ao38 t249.length co38)] 70 (0, 0))) ∧ Aside0 (wc.heap[gb275]? = some (.cells #[.int .i64 t270, (.slice Ao125 t271.length co125)] 70 (0, 0))) ∧ Aside0 (Below w.heap.size w wc))
           case first =>
            have H := HC105.out; clear HC105; replace H := Option.bind_eq_some_iff.mp H
            obtain ⟨t276, A1260, H⟩ := H
            replace H : (if t276 = true then (laws_FnExactDiskMove.j2 kj61 t263 (t274 != t241) t248 t264) else (laws_FnExactDiskMove.j2 kj61 t263 true t248 t264)) = some r := H; have A126 := aM A1260; clear A1260
            by_cases c127 : t276 = true
            ·subst c127
             have H1 : (laws_FnExactDiskMove.j2 kj61 t263 (t274 != t241) t248 t264) = some r := by rw [if_pos rfl] at H; exact H
             clear H; have H := H1; clear H1
             have H' := aM H
             clear H; have hnb128 := NB275_231.out; have hnc128 := NB231_275.out; have hnb129 := NB275_242.out; have hnc129 := NB242_275.out; have hnb130 := NB275_247.out; have hnc130 := NB247_275.out; have hnb131 := NB275_253.out; have hnc131 := NB253_275.out; obtain ⟨hcz132_0, hcz132_1, hfz132_0, hfz132_1⟩ := xf2 (w := w119) BK275; have hnb133 := NB242_231.out; have hnc133 := NB231_242.out; have hnb134 := NB242_247.out; have hnc134 := NB247_242.out; have hnb135 := NB242_253.out; have hnc135 := NB253_242.out; obtain ⟨hcz136_0, hcz136_1, hfz136_0, hfz136_1⟩ := xf2 (w := w119) BK242
             go_wp2_with (first | ((with_reducible refine gate_callee (f := 41) rfl ?_); refine goesL_ (some 91) rfl rfl Try.func41 (by kernel_rfl) rfl #[.agg #[.int .i64 t270, .slice Ao125 t271.length co125], .agg #[.int .i64 t237, .slice Ao24 t238.length co24]] rfl (by (try simp only [List.map_toArray, List.map_cons, List.map_nil]); first | done | rfl | (simp only [List.length_drop, List.length_take]; rfl)) ?_; (with_reducible refine (laws_eqDisk.calls kj61 t270 _ _ t271 t237 _ _ t238 true _ ?side1 ?side2 ?side3 ?side4 A126.out).mono ?_); (case side1 => refine (Kd.R_reads' (e := 134) (base := w.heap.size) (ok := fun k_ => ((((True ∧ some k_ ≠ (.slice Ao24 t238.length co24 : Value).ownBlock) ∧ some k_ ≠ (.slice Ao31 t261.length co31 : Value).ownBlock) ∧ some k_ ≠ (.slice Ao38 t249.length co38 : Value).ownBlock) ∧ some k_ ≠ (.slice Ao117 t267.length co117 : Value).ownBlock)) (n := t271.length) (c := co125) ?_).2.2; exact (xrt (Kd.R_mono (Kd.R_far (p := ⟨gb275, 1, none⟩) (Kd.R_far (p := ⟨gb275, 0, none⟩) (Kd.R_types HO273.out BK275.out (by decide)) (fun _ hk => hk.2) (.int .i64 t270)) (fun _ hk => hk.2) (.slice Ao125 t271.length co125)) (fun _ h_ => h_.1)))); (case side2 => exact (Kd.R_reads' HO273.out).2.1); (case side3 => refine (Kd.R_reads' (e := 134) (base := w.heap.size) (ok := fun k_ => (((some k_ ≠ (.slice Ao31 t261.length co31 : Value).ownBlock ∧ some k_ ≠ (.slice Ao38 t249.length co38 : Value).ownBlock) ∧ some k_ ≠ (.slice Ao117 t267.length co117 : Value).ownBlock) ∧ some k_ ≠ (.slice Ao125 t271.length co125 : Value).ownBlock)) (n := t238.length) (c := co24) ?_).2.2; exact (xrt (Kd.R_mono (Kd.R_far (p := ⟨gb275, 1, none⟩) (Kd.R_far (p := ⟨gb275, 0, none⟩) (Kd.R_types HO_243001.out BK275.out (by decide)) (fun _ hk => hk.2) (.int .i64 t270)) (fun _ hk => hk.2) (.slice Ao125 t271.length co125)) (fun _ h_ => h_.1)))); (case side4 => exact (Kd.R_reads' HO_243001.out).2.1); rintro e w137 ⟨rfl, hb⟩; refine ⟨_, rfl, ?_⟩; replace HO_243001 := aM (Kd.R_below (xrt (Kd.R_mono (Kd.R_far (p := ⟨gb275, 1, none⟩) (Kd.R_far (p := ⟨gb275, 0, none⟩) (Kd.R_types HO_243001.out BK275.out (by decide)) (fun _ hk => hk.2) (.int .i64 t270)) (fun _ hk => hk.2) (.slice Ao125 t271.length co125)) (fun _ h_ => h_.1))) hb); replace HO_248001 := aM (Kd.R_below (xrt (Kd.R_mono (Kd.R_far (p := ⟨gb275, 1, none⟩) (Kd.R_far (p := ⟨gb275, 0, none⟩) (Kd.R_types HO_248001.out BK275.out (by decide)) (fun _ hk => hk.2) (.int .i64 t270)) (fun _ hk => hk.2) (.slice Ao125 t271.length co125)) (fun _ h_ => h_.1))) hb); replace HO_254001 := aM (Kd.R_below (xrt (Kd.R_mono (Kd.R_far (p := ⟨gb275, 1, none⟩) (Kd.R_far (p := ⟨gb275, 0, none⟩) (Kd.R_types HO_254001.out BK275.out (by decide)) (fun _ hk => hk.2) (.int .i64 t270)) (fun _ hk => hk.2) (.slice Ao125 t271.length co125)) (fun _ h_ => h_.1))) hb); replace HO269 := aM (Kd.R_below (xrt (Kd.R_mono (Kd.R_far (p := ⟨gb275, 1, none⟩) (Kd.R_far (p := ⟨gb275, 0, none⟩) (Kd.R_types HO269.out BK275.out (by decide)) (fun _ hk => hk.2) (.int .i64 t270)) (fun _ hk => hk.2) (.slice Ao125 t271.length co125)) (fun _ h_ => h_.1))) hb); replace HO273 := aM (Kd.R_below (xrt (Kd.R_mono (Kd.R_far (p := ⟨gb275, 1, none⟩) (Kd.R_far (p := ⟨gb275, 0, none⟩) (Kd.R_types HO273.out BK275.out (by decide)) (fun _ hk => hk.2) (.int .i64 t270)) (fun _ hk => hk.2) (.slice Ao125 t271.length co125)) (fun _ h_ => h_.1))) hb); replace BK231 := aM (blk_below (g := gb231) (o := .cells #[.int .i64 a0_0, .slice A0_1 l0_1.length c0_1] 66 (0, 0)) (by (with_reducible repeat (first | refine blk_drewN ?_ _ | refine blk_drew ?_ | refine blk_alloc ?_ _)); refine blk_far ?_ NB231_275.out _; (with_reducible repeat (first | refine blk_drewN ?_ _ | refine blk_drew ?_ | refine blk_alloc ?_ _)); refine blk_far ?_ NB231_275.out _; (with_reducible repeat (first | refine blk_drewN ?_ _ | refine blk_drew ?_ | refine blk_alloc ?_ _)); exact BK231.out) hb); replace BK242 := aM (blk_below (g := gb242) (o := .cells #[.int .i64 t237, .slice Ao24 t238.length co24] 70 (0, 0)) (by (with_reducible repeat (first | refine blk_drewN ?_ _ | refine blk_drew ?_ | refine blk_alloc ?_ _)); refine blk_far ?_ NB242_275.out _; (with_reducible repeat (first | refine blk_drewN ?_ _ | refine blk_drew ?_ | refine blk_alloc ?_ _)); refine blk_far ?_ NB242_275.out _; (with_reducible repeat (first | refine blk_drewN ?_ _ | refine blk_drew ?_ | refine blk_alloc ?_ _)); exact BK242.out) hb); replace BK247 := aM (blk_below (g := gb247) (o := .cells #[.int .i64 t243, .slice Ao31 t261.length co31] 70 (0, 0)) (by (with_reducible repeat (first | refine blk_drewN ?_ _ | refine blk_drew ?_ | refine blk_alloc ?_ _)); refine blk_far ?_ NB247_275.out _; (with_reducible repeat (first | refine blk_drewN ?_ _ | refine blk_drew ?_ | refine blk_alloc ?_ _)); refine blk_far ?_ NB247_275.out _; (with_reducible repeat (first | refine blk_drewN ?_ _ | refine blk_drew ?_ | refine blk_alloc ?_ _)); exact BK247.out) hb); replace BK253 := aM (blk_below (g := gb253) (o := .cells #[.int .i64 t248, .slice Ao38 t249.length co38] 70 (0, 0)) (by (with_reducible repeat (first | refine blk_drewN ?_ _ | refine blk_drew ?_ | refine blk_alloc ?_ _)); refine blk_far ?_ NB253_275.out _; (with_reducible repeat (first | refine blk_drewN ?_ _ | refine blk_drew ?_ | refine blk_alloc ?_ _)); refine blk_far ?_ NB253_275.out _; (with_reducible repeat (first | refine blk_drewN ?_ _ | refine blk_drew ?_ | refine blk_alloc ?_ _)); exact BK253.out) hb); replace BK275 := aM (blk_below (g := gb275) (o := .cells #[.int .i64 t270, .slice Ao125 t271.length co125] 70 (0, 0)) (by (with_reducible repeat (first | refine blk_drewN ?_ _ | refine blk_drew ?_ | refine blk_alloc ?_ _)); refine blk_put (cs := #[.int .i64 t270, .slice none 0 0]) ?_ 1 _ rfl; (with_reducible repeat (first | refine blk_drewN ?_ _ | refine blk_drew ?_ | refine blk_alloc ?_ _)); refine blk_put (cs := #[.int .i64 0, .slice none 0 0]) ?_ 0 _ rfl; (with_reducible repeat (first | refine blk_drewN ?_ _ | refine blk_drew ?_ | refine blk_alloc ?_ _)); exact BK275.out) hb); replace HB := xbs hb; (try clear hb); (try clear hb2); (try clear hk); (try clear hi)))
             go_meet
             case rel => exact ⟨_, ((t274 != t241)), (by first | rfl | (simp; done) | (simp [*]; done)), H', ⟨by have := HJ12.out; have := HJ61.out; first | omega | exact Nat.le_refl _⟩, ⟨by (try simp only [hl248001_61]); (with_reducible repeat (first | apply Kd.R_alloc | apply Kd.R_drewN | apply Kd.R_drew)); exact Kd.R_mono HO_243001.out (fun _ hk => ⟨hk.1.1.1, ⟨hk.1.1.2, hk.2⟩⟩)⟩, ⟨by (try simp only [hl248001_61]); (with_reducible repeat (first | apply Kd.R_alloc | apply Kd.R_drewN | apply Kd.R_drew)); exact Kd.R_mono HO_248001.out (fun _ hk => ⟨hk.1.1.1, ⟨hk.1.1.2, hk.2⟩⟩)⟩, ⟨by (try simp only [hl248001_61]); (with_reducible repeat (first | apply Kd.R_alloc | apply Kd.R_drewN | apply Kd.R_drew)); exact Kd.R_mono HO_254001.out (fun _ hk => ⟨hk.1.1.1, ⟨hk.1.1.2, hk.2⟩⟩)⟩, ⟨by (try simp only [hl248001_61]); (with_reducible repeat (first | apply Kd.R_alloc | apply Kd.R_drewN | apply Kd.R_drew)); exact Kd.R_mono HO273.out (fun _ hk => ⟨hk.1.1.1.2, ⟨hk.1.1.2, hk.1.2⟩⟩)⟩, ⟨by (try simp only [hl248001_61]); (with_reducible repeat (first | refine blk_drewN ?_ _ | refine blk_drew ?_ | refine blk_alloc ?_ _)); exact BK231.out⟩, ⟨by (try simp only [hl248001_61]); (with_reducible repeat (first | refine blk_drewN ?_ _ | refine blk_drew ?_ | refine blk_alloc ?_ _)); exact BK242.out⟩, ⟨by (try simp only [hl248001_61]); (with_reducible repeat (first | refine blk_drewN ?_ _ | refine blk_drew ?_ | refine blk_alloc ?_ _)); exact BK247.out⟩, ⟨by (try simp only [hl248001_61]); (with_reducible repeat (first | refine blk_drewN ?_ _ | refine blk_drew ?_ | refine blk_alloc ?_ _)); exact BK253.out⟩, ⟨by (try simp only [hl248001_61]); (with_reducible repeat (first | refine blk_drewN ?_ _ | refine blk_drew ?_ | refine blk_alloc ?_ _)); exact BK275.out⟩, ⟨xbg⟩⟩
            ·replace c127 := Bool.eq_false_iff.mpr c127
             subst c127
             have H1 : (laws_FnExactDiskMove.j2 kj61 t263 true t248 t264) = some r := by rw [if_neg (show ¬ (false = true) by decide)] at H; exact H
             clear H; have H := H1; clear H1
             have H' := aM H
             clear H; have hnb138 := NB275_231.out; have hnc138 := NB231_275.out; have hnb139 := NB275_242.out; have hnc139 := NB242_275.out; have hnb140 := NB275_247.out; have hnc140 := NB247_275.out; have hnb141 := NB275_253.out; have hnc141 := NB253_275.out; obtain ⟨hcz142_0, hcz142_1, hfz142_0, hfz142_1⟩ := xf2 (w := w119) BK275; have hnb143 := NB242_231.out; have hnc143 := NB231_242.out; have hnb144 := NB242_247.out; have hnc144 := NB247_242.out; have hnb145 := NB242_253.out; have hnc145 := NB253_242.out; obtain ⟨hcz146_0, hcz146_1, hfz146_0, hfz146_1⟩ := xf2 (w := w119) BK242
             go_wp2_with (first | ((with_reducible refine gate_callee (f := 41) rfl ?_); refine goesL_ (some 91) rfl rfl Try.func41 (by kernel_rfl) rfl #[.agg #[.int .i64 t270, .slice Ao125 t271.length co125], .agg #[.int .i64 t237, .slice Ao24 t238.length co24]] rfl (by (try simp only [List.map_toArray, List.map_cons, List.map_nil]); first | done | rfl | (simp only [List.length_drop, List.length_take]; rfl)) ?_; (with_reducible refine (laws_eqDisk.calls kj61 t270 _ _ t271 t237 _ _ t238 false _ ?side1 ?side2 ?side3 ?side4 A126.out).mono ?_); (case side1 => refine (Kd.R_reads' (e := 134) (base := w.heap.size) (ok := fun k_ => ((((True ∧ some k_ ≠ (.slice Ao24 t238.length co24 : Value).ownBlock) ∧ some k_ ≠ (.slice Ao31 t261.length co31 : Value).ownBlock) ∧ some k_ ≠ (.slice Ao38 t249.length co38 : Value).ownBlock) ∧ some k_ ≠ (.slice Ao117 t267.length co117 : Value).ownBlock)) (n := t271.length) (c := co125) ?_).2.2; exact (xrt (Kd.R_mono (Kd.R_far (p := ⟨gb275, 1, none⟩) (Kd.R_far (p := ⟨gb275, 0, none⟩) (Kd.R_types HO273.out BK275.out (by decide)) (fun _ hk => hk.2) (.int .i64 t270)) (fun _ hk => hk.2) (.slice Ao125 t271.length co125)) (fun _ h_ => h_.1)))); (case side2 => exact (Kd.R_reads' HO273.out).2.1); (case side3 => refine (Kd.R_reads' (e := 134) (base := w.heap.size) (ok := fun k_ => (((some k_ ≠ (.slice Ao31 t261.length co31 : Value).ownBlock ∧ some k_ ≠ (.slice Ao38 t249.length co38 : Value).ownBlock) ∧ some k_ ≠ (.slice Ao117 t267.length co117 : Value).ownBlock) ∧ some k_ ≠ (.slice Ao125 t271.length co125 : Value).ownBlock)) (n := t238.length) (c := co24) ?_).2.2; exact (xrt (Kd.R_mono (Kd.R_far (p := ⟨gb275, 1, none⟩) (Kd.R_far (p := ⟨gb275, 0, none⟩) (Kd.R_types HO_243001.out BK275.out (by decide)) (fun _ hk => hk.2) (.int .i64 t270)) (fun _ hk => hk.2) (.slice Ao125 t271.length co125)) (fun _ h_ => h_.1)))); (case side4 => exact (Kd.R_reads' HO_243001.out).2.1); rintro e w147 ⟨rfl, hb⟩; refine ⟨_, rfl, ?_⟩; replace HO_243001 := aM (Kd.R_below (xrt (Kd.R_mono (Kd.R_far (p := ⟨gb275, 1, none⟩) (Kd.R_far (p := ⟨gb275, 0, none⟩) (Kd.R_types HO_243001.out BK275.out (by decide)) (fun _ hk => hk.2) (.int .i64 t270)) (fun _ hk => hk.2) (.slice Ao125 t271.length co125)) (fun _ h_ => h_.1))) hb); replace HO_248001 := aM (Kd.R_below (xrt (Kd.R_mono (Kd.R_far (p := ⟨gb275, 1, none⟩) (Kd.R_far (p := ⟨gb275, 0, none⟩) (Kd.R_types HO_248001.out BK275.out (by decide)) (fun _ hk => hk.2) (.int .i64 t270)) (fun _ hk => hk.2) (.slice Ao125 t271.length co125)) (fun _ h_ => h_.1))) hb); replace HO_254001 := aM (Kd.R_below (xrt (Kd.R_mono (Kd.R_far (p := ⟨gb275, 1, none⟩) (Kd.R_far (p := ⟨gb275, 0, none⟩) (Kd.R_types HO_254001.out BK275.out (by decide)) (fun _ hk => hk.2) (.int .i64 t270)) (fun _ hk => hk.2) (.slice Ao125 t271.length co125)) (fun _ h_ => h_.1))) hb); replace HO269 := aM (Kd.R_below (xrt (Kd.R_mono (Kd.R_far (p := ⟨gb275, 1, none⟩) (Kd.R_far (p := ⟨gb275, 0, none⟩) (Kd.R_types HO269.out BK275.out (by decide)) (fun _ hk => hk.2) (.int .i64 t270)) (fun _ hk => hk.2) (.slice Ao125 t271.length co125)) (fun _ h_ => h_.1))) hb); replace HO273 := aM (Kd.R_below (xrt (Kd.R_mono (Kd.R_far (p := ⟨gb275, 1, none⟩) (Kd.R_far (p := ⟨gb275, 0, none⟩) (Kd.R_types HO273.out BK275.out (by decide)) (fun _ hk => hk.2) (.int .i64 t270)) (fun _ hk => hk.2) (.slice Ao125 t271.length co125)) (fun _ h_ => h_.1))) hb); replace BK231 := aM (blk_below (g := gb231) (o := .cells #[.int .i64 a0_0, .slice A0_1 l0_1.length c0_1] 66 (0, 0)) (by (with_reducible repeat (first | refine blk_drewN ?_ _ | refine blk_drew ?_ | refine blk_alloc ?_ _)); refine blk_far ?_ NB231_275.out _; (with_reducible repeat (first | refine blk_drewN ?_ _ | refine blk_drew ?_ | refine blk_alloc ?_ _)); refine blk_far ?_ NB231_275.out _; (with_reducible repeat (first | refine blk_drewN ?_ _ | refine blk_drew ?_ | refine blk_alloc ?_ _)); exact BK231.out) hb); replace BK242 := aM (blk_below (g := gb242) (o := .cells #[.int .i64 t237, .slice Ao24 t238.length co24] 70 (0, 0)) (by (with_reducible repeat (first | refine blk_drewN ?_ _ | refine blk_drew ?_ | refine blk_alloc ?_ _)); refine blk_far ?_ NB242_275.out _; (with_reducible repeat (first | refine blk_drewN ?_ _ | refine blk_drew ?_ | refine blk_alloc ?_ _)); refine blk_far ?_ NB242_275.out _; (with_reducible repeat (first | refine blk_drewN ?_ _ | refine blk_drew ?_ | refine blk_alloc ?_ _)); exact BK242.out) hb); replace BK247 := aM (blk_below (g := gb247) (o := .cells #[.int .i64 t243, .slice Ao31 t261.length co31] 70 (0, 0)) (by (with_reducible repeat (first | refine blk_drewN ?_ _ | refine blk_drew ?_ | refine blk_alloc ?_ _)); refine blk_far ?_ NB247_275.out _; (with_reducible repeat (first | refine blk_drewN ?_ _ | refine blk_drew ?_ | refine blk_alloc ?_ _)); refine blk_far ?_ NB247_275.out _; (with_reducible repeat (first | refine blk_drewN ?_ _ | refine blk_drew ?_ | refine blk_alloc ?_ _)); exact BK247.out) hb); replace BK253 := aM (blk_below (g := gb253) (o := .cells #[.int .i64 t248, .slice Ao38 t249.length co38] 70 (0, 0)) (by (with_reducible repeat (first | refine blk_drewN ?_ _ | refine blk_drew ?_ | refine blk_alloc ?_ _)); refine blk_far ?_ NB253_275.out _; (with_reducible repeat (first | refine blk_drewN ?_ _ | refine blk_drew ?_ | refine blk_alloc ?_ _)); refine blk_far ?_ NB253_275.out _; (with_reducible repeat (first | refine blk_drewN ?_ _ | refine blk_drew ?_ | refine blk_alloc ?_ _)); exact BK253.out) hb); replace BK275 := aM (blk_below (g := gb275) (o := .cells #[.int .i64 t270, .slice Ao125 t271.length co125] 70 (0, 0)) (by (with_reducible repeat (first | refine blk_drewN ?_ _ | refine blk_drew ?_ | refine blk_alloc ?_ _)); refine blk_put (cs := #[.int .i64 t270, .slice none 0 0]) ?_ 1 _ rfl; (with_reducible repeat (first | refine blk_drewN ?_ _ | refine blk_drew ?_ | refine blk_alloc ?_ _)); refine blk_put (cs := #[.int .i64 0, .slice none 0 0]) ?_ 0 _ rfl; (with_reducible repeat (first | refine blk_drewN ?_ _ | refine blk_drew ?_ | refine blk_alloc ?_ _)); exact BK275.out) hb); replace HB := xbs hb; (try clear hb); (try clear hb2); (try clear hk); (try clear hi)))
             go_meet
             case rel => exact ⟨_, (true), (by first | rfl | (simp; done) | (simp [*]; done)), H', ⟨by have := HJ12.out; have := HJ61.out; first | omega | exact Nat.le_refl _⟩, ⟨by (try simp only [hl248001_61]); (with_reducible repeat (first | apply Kd.R_alloc | apply Kd.R_drewN | apply Kd.R_drew)); exact Kd.R_mono HO_243001.out (fun _ hk => ⟨hk.1.1.1, ⟨hk.1.1.2, hk.2⟩⟩)⟩, ⟨by (try simp only [hl248001_61]); (with_reducible repeat (first | apply Kd.R_alloc | apply Kd.R_drewN | apply Kd.R_drew)); exact Kd.R_mono HO_248001.out (fun _ hk => ⟨hk.1.1.1, ⟨hk.1.1.2, hk.2⟩⟩)⟩, ⟨by (try simp only [hl248001_61]); (with_reducible repeat (first | apply Kd.R_alloc | apply Kd.R_drewN | apply Kd.R_drew)); exact Kd.R_mono HO_254001.out (fun _ hk => ⟨hk.1.1.1, ⟨hk.1.1.2, hk.2⟩⟩)⟩, ⟨by (try simp only [hl248001_61]); (with_reducible repeat (first | apply Kd.R_alloc | apply Kd.R_drewN | apply Kd.R_drew)); exact Kd.R_mono HO273.out (fun _ hk => ⟨hk.1.1.1.2, ⟨hk.1.1.2, hk.1.2⟩⟩)⟩, ⟨by (try simp only [hl248001_61]); (with_reducible repeat (first | refine blk_drewN ?_ _ | refine blk_drew ?_ | refine blk_alloc ?_ _)); exact BK231.out⟩, ⟨by (try simp only [hl248001_61]); (with_reducible repeat (first | refine blk_drewN ?_ _ | refine blk_drew ?_ | refine blk_alloc ?_ _)); exact BK242.out⟩, ⟨by (try simp only [hl248001_61]); (with_reducible repeat (first | refine blk_drewN ?_ _ | refine blk_drew ?_ | refine blk_alloc ?_ _)); exact BK247.out⟩, ⟨by (try simp only [hl248001_61]); (with_reducible repeat (first | refine blk_drewN ?_ _ | refine blk_drew ?_ | refine blk_alloc ?_ _)); exact BK253.out⟩, ⟨by (try simp only [hl248001_61]); (with_reducible repeat (first | refine blk_drewN ?_ _ | refine blk_drew ?_ | refine blk_alloc ?_ _)); exact BK275.out⟩, ⟨xbg⟩⟩
           case rest =>
            clear HC105
            try clear c1
            try clear c2
            try clear p2
            try clear c3
            try clear c4
            try clear c5
            try clear c5b0
            try clear c6
            try clear c7
            try clear c8
            try clear c9
            try clear c10
            try clear c11
            try clear c12
            try clear c13
            try clear c14
            try clear c22
            try clear c28
            try clear c29
            try clear c34
            try clear c35
            try clear c36
            try clear c37
            try clear c39
            try clear c40
            try clear c41
            try clear c42
            try clear c43
            try clear c44
            try clear c45
            try clear c46
            try clear c49
            try clear c50
            try clear c51
            try clear c53
            try clear c54
            try clear c57
            try clear c60
            try clear c67
            try clear c68
            try clear c69
            try clear c72
            try clear c72b0
            try clear c74
            try clear c75
            try clear c76
            try clear c77
            try clear c79
            try clear c80
            try clear c83
            try clear c84
            try clear c85
            try clear c87
            try clear c88
            try clear c91
            try clear c94
            try clear c94b0
            try clear c95
            try clear c96
            try clear c97
            try clear c102
            try clear c102b0
            try clear c102b1
            try clear c106
            try clear c107
            try clear c108
            try clear c113
            try clear c114
            try clear c120
            try clear c121
            try clear c122
            try clear c123
            try clear c127
            try clear c128
            try clear c129
            try clear c130
            try clear c131
            try clear c133
            try clear c134
            try clear c135
            try clear c138
            try clear c139
            try clear c140
            try clear c141
            try clear c143
            try clear c144
            try clear c145
            try clear hcz100_0
            try clear hcz100_1
            try clear hcz109_0
            try clear hcz109_1
            try clear hcz111_0
            try clear hcz111_1
            try clear hcz115_0
            try clear hcz115_1
            try clear hcz124_0
            try clear hcz124_1
            try clear hcz132_0
            try clear hcz132_1
            try clear hcz136_0
            try clear hcz136_1
            try clear hcz142_0
            try clear hcz142_1
            try clear hcz146_0
            try clear hcz146_1
            try clear hcz15_0
            try clear hcz15_1
            try clear hcz17_0
            try clear hcz17_1
            try clear hcz23_0
            try clear hcz23_1
            try clear hcz25_0
            try clear hcz25_1
            try clear hcz30_0
            try clear hcz30_1
            try clear hcz37_0
            try clear hcz37_1
            try clear hcz44_0
            try clear hcz44_1
            try clear hcz47_0
            try clear hcz47_1
            try clear hcz52_0
            try clear hcz52_1
            try clear hcz55_0
            try clear hcz55_1
            try clear hcz70_0
            try clear hcz70_1
            try clear hcz78_0
            try clear hcz78_1
            try clear hcz7_0
            try clear hcz7_1
            try clear hcz81_0
            try clear hcz81_1
            try clear hcz86_0
            try clear hcz86_1
            try clear hcz89_0
            try clear hcz89_1
            try clear hcz98_0
            try clear hcz98_1
            try clear hfz100_0
            try clear hfz100_1
            try clear hfz109_0
            try clear hfz109_1
            try clear hfz111_0
            try clear hfz111_1
            try clear hfz115_0
            try clear hfz115_1
            try clear hfz124_0
            try clear hfz124_1
            try clear hfz132_0
            try clear hfz132_1
            try clear hfz136_0
            try clear hfz136_1
            try clear hfz142_0
            try clear hfz142_1
            try clear hfz146_0
            try clear hfz146_1
            try clear hfz15_0
            try clear hfz15_1
            try clear hfz17_0
            try clear hfz17_1
            try clear hfz23_0
            try clear hfz23_1
            try clear hfz25_0
            try clear hfz25_1
            try clear hfz30_0
            try clear hfz30_1
            try clear hfz37_0
            try clear hfz37_1
            try clear hfz44_0
            try clear hfz44_1
            try clear hfz47_0
            try clear hfz47_1
            try clear hfz52_0
            try clear hfz52_1
            try clear hfz55_0
            try clear hfz55_1
            try clear hfz70_0
            try clear hfz70_1
            try clear hfz78_0
            try clear hfz78_1
            try clear hfz7_0
            try clear hfz7_1
            try clear hfz81_0
            try clear hfz81_1
            try clear hfz86_0
            try clear hfz86_1
            try clear hfz89_0
            try clear hfz89_1
            try clear hfz98_0
            try clear hfz98_1
            try clear p2
            obtain ⟨kq, x97_104, rfl, HA, HJ104, HO_243001, HO_248001, HO_254001, HO_276001, BK231, BK242, BK247, BK253, BK275, HB⟩ := hcut
            have hl254001_104 := (Kd.R_reads' HO_254001.out).1
            rw [hl254001_104] at HO_254001
            (try simp only [hl254001_104])
            (try simp only [hl254001_104] at BK231)
            (try simp only [hl254001_104] at BK242)
            (try simp only [hl254001_104] at BK247)
            (try simp only [hl254001_104] at BK253)
            (try simp only [hl254001_104] at BK275)
            (try simp only [hl254001_104] at HO_243001)
            (try simp only [hl254001_104] at HO_248001)
            (try simp only [hl254001_104] at HO_276001)
            cases kq with
            | zero => exact absurd HA.out (by simp [laws_FnExactDiskMove.j2])
            | succ kj104 =>
             have H := HA.out; clear HA
             simp only [laws_FnExactDiskMove.j2] at H
             by_cases c148 : x97_104 = true
             ·subst c148
              have H1 : (some false) = some r := by rw [if_pos rfl] at H; exact H
              clear H; have H := H1; clear H1
              obtain rfl := Option.some.inj H
              go_wp2
              go_ret
              exact ⟨by first | rfl | (simp [errW_none, errW_some] <;> rfl) | (simp [*, errW_none, errW_some] <;> rfl), xbg⟩
             ·replace c148 := Bool.eq_false_iff.mpr c148
              subst c148
              have H1 : ((laws_heldDisk.f kj104 t248 t264 1).bind fun t277 => (if t277 < 0 then (some false) else (if t277 = t263 then (some true) else (some false)))) = some r := by rw [if_neg (show ¬ (false = true) by decide)] at H; exact H
              clear H; have H := H1; clear H1; replace H := Option.bind_eq_some_iff.mp H
              obtain ⟨t277, A1490, H⟩ := H
              replace H : (if t277 < 0 then (some false) else (if t277 = t263 then (some true) else (some false))) = some r := H; have A149 := aM A1490; clear A1490
              by_cases c150 : t277 < 0
              ·rw [if_pos c150] at H
               have c150b0 : decide (t277 < 0) = true := decide_eq_true c150; clear c150
               obtain rfl := Option.some.inj H
               have hnb151 := NB253_231.out; have hnc151 := NB231_253.out; have hnb152 := NB253_242.out; have hnc152 := NB242_253.out; have hnb153 := NB253_247.out; have hnc153 := NB247_253.out; have hnb154 := NB253_275.out; have hnc154 := NB275_253.out; obtain ⟨hcz155_0, hcz155_1, hfz155_0, hfz155_1⟩ := xf2 (w := wc) BK253
               go_wp2_with (first | ((with_reducible refine gate_callee (f := 43) rfl ?_); refine goesL_ (some 100) rfl rfl Try.func43 (by kernel_rfl) rfl #[.agg #[.int .i64 t248, .slice Ao38 t264.length co38], .int .i64 1] rfl (by (try simp only [List.map_toArray, List.map_cons, List.map_nil]); first | done | rfl | (simp only [List.length_drop, List.length_take]; rfl)) ?_; (with_reducible refine (laws_heldDisk.calls kj104 t248 _ _ t264 1 t277 _ ?side1 ?side2 A149.out).mono ?_); (case side1 => repeat (first | exact (Kd.R_reads' HO_254001.out).2.2 | (with_reducible refine Kd.C_alloc ?_ _) | (with_reducible refine Kd.C_drewN ?_ _) | (with_reducible refine Kd.C_drew ?_))); (case side2 => exact (Kd.R_reads' HO_254001.out).2.1); rintro e w156 ⟨rfl, hb⟩; refine ⟨_, rfl, ?_⟩; replace HO_243001 := aM (Kd.R_below (xr HO_243001) hb); replace HO_248001 := aM (Kd.R_below (xr HO_248001) hb); replace HO_254001 := aM (Kd.R_below (xr HO_254001) hb); replace HO_276001 := aM (Kd.R_below (xr HO_276001) hb); replace BK231 := xbb BK231 hb; replace BK242 := xbb BK242 hb; replace BK247 := xbb BK247 hb; replace BK253 := xbb BK253 hb; replace BK275 := xbb BK275 hb; replace HB := xbs hb; (try clear hb); (try clear hb2); (try clear hk); (try clear hi)))
               go_ret
               exact ⟨by first | rfl | (simp [errW_none, errW_some] <;> rfl) | (simp [*, errW_none, errW_some] <;> rfl), xbg⟩
              ·rw [if_neg c150] at H
               have c150b0 : decide (t277 < 0) = false := decide_eq_false c150; clear c150
               by_cases c157 : t277 = t263
               ·rw [if_pos c157] at H
                have c157b0 : (t277 == t263) = true := beq_iff_eq.mpr c157; have c157b1 : (t277 != t263) = false := bne_eq_false_iff_eq.mpr c157; clear c157
                obtain rfl := Option.some.inj H
                have hnb158 := NB253_231.out; have hnc158 := NB231_253.out; have hnb159 := NB253_242.out; have hnc159 := NB242_253.out; have hnb160 := NB253_247.out; have hnc160 := NB247_253.out; have hnb161 := NB253_275.out; have hnc161 := NB275_253.out; obtain ⟨hcz162_0, hcz162_1, hfz162_0, hfz162_1⟩ := xf2 (w := wc) BK253
                go_wp2_with (first | ((with_reducible refine gate_callee (f := 43) rfl ?_); refine goesL_ (some 100) rfl rfl Try.func43 (by kernel_rfl) rfl #[.agg #[.int .i64 t248, .slice Ao38 t264.length co38], .int .i64 1] rfl (by (try simp only [List.map_toArray, List.map_cons, List.map_nil]); first | done | rfl | (simp only [List.length_drop, List.length_take]; rfl)) ?_; (with_reducible refine (laws_heldDisk.calls kj104 t248 _ _ t264 1 t277 _ ?side1 ?side2 A149.out).mono ?_); (case side1 => repeat (first | exact (Kd.R_reads' HO_254001.out).2.2 | (with_reducible refine Kd.C_alloc ?_ _) | (with_reducible refine Kd.C_drewN ?_ _) | (with_reducible refine Kd.C_drew ?_))); (case side2 => exact (Kd.R_reads' HO_254001.out).2.1); rintro e w163 ⟨rfl, hb⟩; refine ⟨_, rfl, ?_⟩; replace HO_243001 := aM (Kd.R_below (xr HO_243001) hb); replace HO_248001 := aM (Kd.R_below (xr HO_248001) hb); replace HO_254001 := aM (Kd.R_below (xr HO_254001) hb); replace HO_276001 := aM (Kd.R_below (xr HO_276001) hb); replace BK231 := xbb BK231 hb; replace BK242 := xbb BK242 hb; replace BK247 := xbb BK247 hb; replace BK253 := xbb BK253 hb; replace BK275 := xbb BK275 hb; replace HB := xbs hb; (try clear hb); (try clear hb2); (try clear hk); (try clear hi)))
                go_ret
                exact ⟨by first | rfl | (simp [errW_none, errW_some] <;> rfl) | (simp [*, errW_none, errW_some] <;> rfl), xbg⟩
               ·rw [if_neg c157] at H
                have c157b0 : (t277 == t263) = false := beq_eq_false_iff_ne.mpr c157; have c157b1 : (t277 != t263) = true := bne_iff_ne.mpr c157
                obtain rfl := Option.some.inj H
                have hnb164 := NB253_231.out; have hnc164 := NB231_253.out; have hnb165 := NB253_242.out; have hnc165 := NB242_253.out; have hnb166 := NB253_247.out; have hnc166 := NB247_253.out; have hnb167 := NB253_275.out; have hnc167 := NB275_253.out; obtain ⟨hcz168_0, hcz168_1, hfz168_0, hfz168_1⟩ := xf2 (w := wc) BK253
                go_wp2_with (first | ((with_reducible refine gate_callee (f := 43) rfl ?_); refine goesL_ (some 100) rfl rfl Try.func43 (by kernel_rfl) rfl #[.agg #[.int .i64 t248, .slice Ao38 t264.length co38], .int .i64 1] rfl (by (try simp only [List.map_toArray, List.map_cons, List.map_nil]); first | done | rfl | (simp only [List.length_drop, List.length_take]; rfl)) ?_; (with_reducible refine (laws_heldDisk.calls kj104 t248 _ _ t264 1 t277 _ ?side1 ?side2 A149.out).mono ?_); (case side1 => repeat (first | exact (Kd.R_reads' HO_254001.out).2.2 | (with_reducible refine Kd.C_alloc ?_ _) | (with_reducible refine Kd.C_drewN ?_ _) | (with_reducible refine Kd.C_drew ?_))); (case side2 => exact (Kd.R_reads' HO_254001.out).2.1); rintro e w169 ⟨rfl, hb⟩; refine ⟨_, rfl, ?_⟩; replace HO_243001 := aM (Kd.R_below (xr HO_243001) hb); replace HO_248001 := aM (Kd.R_below (xr HO_248001) hb); replace HO_254001 := aM (Kd.R_below (xr HO_254001) hb); replace HO_276001 := aM (Kd.R_below (xr HO_276001) hb); replace BK231 := xbb BK231 hb; replace BK242 := xbb BK242 hb; replace BK247 := xbb BK247 hb; replace BK253 := xbb BK253 hb; replace BK275 := xbb BK275 hb; replace HB := xbs hb; (try clear hb); (try clear hb2); (try clear hk); (try clear hi)))
                go_ret
                exact ⟨by first | rfl | (simp [errW_none, errW_some] <;> rfl) | (simp [*, errW_none, errW_some] <;> rfl), xbg⟩
          ·rw [if_neg c102] at H
           have c102b0 : (t265 == t263) = false := beq_eq_false_iff_ne.mpr c102; have c102b1 : (t265 != t263) = true := bne_iff_ne.mpr c102
           obtain rfl := Option.some.inj H
           have hnb170 := NB253_231.out; have hnc170 := NB231_253.out; have hnb171 := NB253_242.out; have hnc171 := NB242_253.out; have hnb172 := NB253_247.out; have hnc172 := NB247_253.out; obtain ⟨hcz173_0, hcz173_1, hfz173_0, hfz173_1⟩ := xf2 (w := wc) BK253
           go_wp2_with (first | ((with_reducible refine gate_callee (f := 42) rfl ?_); refine goesL_ (some 72) rfl rfl Try.func42 (by kernel_rfl) rfl #[.agg #[.int .i64 t248, .slice Ao38 t249.length co38], .int .i64 1] rfl (by (try simp only [List.map_toArray, List.map_cons, List.map_nil]); first | done | rfl | (simp only [List.length_drop, List.length_take]; rfl)) ?_; (with_reducible refine (laws_markDisk.calls kj61 t248 (fun k_ => some k_ = (.slice Ao38 t249.length co38 : Value).ownBlock) (.slice Ao38 t249.length co38) t249 1 t263 t264 w _ ?side1 ?side2 A92.out).mono ?_); (case side1 => repeat (first | (with_reducible first | exact HB.out | apply below_alloc | apply pw_below_drewN | apply below_drew1 | refine below_set ?_ GE231.out | refine below_set ?_ GE242.out | refine below_set ?_ GE247.out | refine below_set ?_ GE253.out) | exact HB.out)); (case side2 => exact Kd.R_tight rfl HO_254001.out); rintro e w174 ⟨rfl, hy0, hb, hkp⟩; refine ⟨_, rfl, ?_⟩; have n0_ := aM (Kd.R_mono (ok' := fun k_ => some k_ ≠ (.slice Ao31 t261.length co31 : Value).ownBlock ∧ some k_ ≠ (.slice Ao38 t249.length co38 : Value).ownBlock) (Kd.R_keptB (HO_243001.out) hkp (fun k_ hk_ hs_ => (hk_.2) hs_)) (fun k_ hk_ => ⟨hk_.1.1, hk_.1.2⟩)); have n1_ := aM (Kd.R_mono (ok' := fun k_ => some k_ ≠ (.slice Ao24 t238.length co24 : Value).ownBlock ∧ some k_ ≠ (.slice Ao38 t249.length co38 : Value).ownBlock) (Kd.R_keptB (HO_248001.out) hkp (fun k_ hk_ hs_ => (hk_.2) hs_)) (fun k_ hk_ => ⟨hk_.1.1, hk_.1.2⟩)); have n2_ := aM (Kd.R_reok rfl hy0 (fun k_ e_ => HO_254001.out.1 k_ e_)); have n3_ := aM (blk_kept xblk hkp (fun hs_ => (fun e_ => (Kd.R_ne HO_254001.out BK231.out (by decide)) e_) hs_)); have n4_ := aM (blk_kept xblk hkp (fun hs_ => (fun e_ => (Kd.R_ne HO_254001.out BK242.out (by decide)) e_) hs_)); have n5_ := aM (blk_kept xblk hkp (fun hs_ => (fun e_ => (Kd.R_ne HO_254001.out BK247.out (by decide)) e_) hs_)); have n6_ := aM (blk_kept xblk hkp (fun hs_ => (fun e_ => (Kd.R_ne HO_254001.out BK253.out (by decide)) e_) hs_)); have n7_ := aM (hb); clear HO_243001; clear HO_248001; clear HO_254001; clear BK231; clear BK242; clear BK247; clear BK253; clear HB; have HO_243001 := n0_; have HO_248001 := n1_; have HO_254001 := n2_; have BK231 := n3_; have BK242 := n4_; have BK247 := n5_; have BK253 := n6_; have HB := n7_; clear n0_ n1_ n2_ n3_ n4_ n5_ n6_ n7_; (try clear hb); (try clear hkp); (try clear hy0); obtain ⟨hcz175_0, hcz175_1, hfz175_0, hfz175_1⟩ := xf2 (w := w174) BK253) | ((with_reducible refine gate_callee (f := 43) rfl ?_); refine goesL_ (some 75) rfl rfl Try.func43 (by kernel_rfl) rfl #[.agg #[.int .i64 t248, .slice Ao38 t264.length co38], .int .i64 1] rfl (by (try simp only [List.map_toArray, List.map_cons, List.map_nil]); first | done | (rw [show t264.length = t249.length from (Kd.R_reads' HO_254001.out).1.symm] <;> rfl) | rfl | (simp only [List.length_drop, List.length_take]; rfl)) ?_; (with_reducible refine (laws_heldDisk.calls kj61 t248 _ _ t264 1 t265 _ ?side1 ?side2 A93.out).mono ?_); (case side1 => repeat (first | exact (Kd.R_reads' HO_254001.out).2.2 | (with_reducible refine Kd.C_alloc ?_ _) | (with_reducible refine Kd.C_drewN ?_ _) | (with_reducible refine Kd.C_drew ?_))); (case side2 => rw [show t264.length = t249.length from (Kd.R_reads' HO_254001.out).1.symm]; exact (Kd.R_reads' HO_254001.out).2.1); rintro e w176 ⟨rfl, hb⟩; refine ⟨_, rfl, ?_⟩; replace HO_243001 := aM (Kd.R_below (xr HO_243001) hb); replace HO_248001 := aM (Kd.R_below (xr HO_248001) hb); replace HO_254001 := aM (Kd.R_below (xr HO_254001) hb); replace BK231 := xbb BK231 hb; replace BK242 := xbb BK242 hb; replace BK247 := xbb BK247 hb; replace BK253 := xbb BK253 hb; replace HB := xbs hb; (try clear hb); (try clear hb2); (try clear hk); (try clear hi)))
           go_ret
           exact ⟨by first | rfl | (simp [errW_none, errW_some] <;> rfl) | (simp [*, errW_none, errW_some] <;> rfl), xbg⟩
     ·replace c60 := Bool.eq_false_iff.mpr c60
      subst c60
      have H1 : (some false) = some r := by rw [if_neg (show ¬ (false = true) by decide)] at H; exact H
      clear H; have H := H1; clear H1
      obtain rfl := Option.some.inj H
      try go_wp2
      replace HO_243001 := aM (Kd.R_drew HO_243001.out); replace HO_248001 := aM (Kd.R_drew HO_248001.out); replace HO_254001 := aM (Kd.R_drew HO_254001.out); replace BK231 := aM (blk_drew BK231.out); replace BK242 := aM (blk_drew BK242.out); replace BK247 := aM (blk_drew BK247.out); replace BK253 := aM (blk_drew BK253.out); replace HB := aM (below_drew1 HB.out)
      refine start_ (n := 5) (S := fun w' => w'.cell? ⟨gb247, 0, none⟩ = some (.int .i64 t243) ∧ w'.cell? ⟨gb247, 1, none⟩ = some (.slice Ao31 t244.length co31) ∧ w'.cell? ⟨gb231, 0, none⟩ = some (.int .i64 a0_0) ∧ w'.cell? ⟨gb231, 1, none⟩ = some (.slice A0_1 l0_1.length c0_1)) (ds := []) #[false, false, false, false, false] (by kernel_rfl) rfl rfl ⟨xc BK247 0 rfl, xc BK247 1 rfl, xc BK231 0 rfl, xc BK231 1 rfl⟩ (fun hHeld => ?_)
      generalize wc.drew = w177 at HO_243001 HO_248001 HO_254001 BK231 BK242 BK247 BK253 HB hHeld ⊢
      refine take_ (i := 0) (N := some 49) (v := ?_) (a' := ?_) #[true, false, false, false, false] rfl rfl (by kernel_rfl) (fun _ _ _ h => h) (Or.inl ⟨by rfl, ?_⟩) hHeld ?_ ?_
      rotate_left
      ·rintro w' ⟨s0, s1, s2, s3⟩
       go_simp
       with_reducible rfl
      rotate_left
      ·simp only [Act.put, List.setIfInBounds_toArray, List.set_cons_zero, List.set_cons_succ, i64_w, i32_w]
       rfl
      refine take_ (i := 1) (N := some 50) (v := ?_) (a' := ?_) #[true, true, false, false, false] rfl rfl (by kernel_rfl) (fun _ _ _ h => h) (Or.inl ⟨by rfl, ?_⟩) hHeld ?_ ?_
      rotate_left
      ·rintro w' ⟨s0, s1, s2, s3⟩
       go_simp
       with_reducible rfl
      rotate_left
      ·simp only [Act.put, List.setIfInBounds_toArray, List.set_cons_zero, List.set_cons_succ, i64_w, i32_w]
       rfl
      refine one_ (i := 2) (N := some 51) #[true, true, true, false, false] rfl rfl (by kernel_rfl) (by decide) (fun K hK => ?_)
      refine goesY Try.func39 #[.agg #[.int .i64 a0_0, .slice A0_1 l0_1.length c0_1]] ?_
      with_reducible refine (laws_toDisk.calls kj12 a0_0 _ _ l0_1 t255 t256 _ ?side1 ?side2 A58.out).mono ?_
      (case side1 => exact xcb HR0_1)
      (case side2 => exact HC0_1.out)
      rintro e w178 ⟨v257, rfl, ho0, hb⟩
      refine ⟨_, rfl, ?_⟩
      have HO258 := aM (Kd.R_lower (Kd.R_new' (Kd.R_new' (Kd.R_new' ho0 (Kd.R_lt (xr HO_243001))) (Kd.R_lt (xr HO_248001))) (Kd.R_lt (xr HO_254001))) (below_size xbg)); replace HO_243001 := aM (Kd.R_elder' (xr HO_243001) (Kd.R_base ho0) hb); replace HO_248001 := aM (Kd.R_elder' (xr HO_248001) (Kd.R_base ho0) hb); replace HO_254001 := aM (Kd.R_elder' (xr HO_254001) (Kd.R_base ho0) hb); replace BK231 := xbb BK231 hb; replace BK242 := xbb BK242 hb; replace BK247 := xbb BK247 hb; replace BK253 := xbb BK253 hb; replace HB := xbs hb
      (try clear hb); (try clear hb2); (try clear hk); (try clear hi); (try clear ho0)
      obtain ⟨Ao179, co179, eo179⟩ := Kd.R_slice HO258.out
      (first | subst eo179 | (injection eo179 with f1_ f2_ f3_; have f4_ := f1_.symm; have f5_ := f3_.symm; clear f1_ f2_ f3_; subst f4_; subst f5_))
      refine hK.out _ _ ⟨xc BK247 0 rfl, xc BK247 1 rfl, xc BK231 0 rfl, xc BK231 1 rfl⟩ (fun hHeld => ?_)
      clear hK K
      refine norm_ (a' := ?_) ?_ ?_
      rotate_left
      ·show Act.put _ (some 51) _ = _
       simp only [Act.put, List.setIfInBounds_toArray, List.set_cons_zero, List.set_cons_succ, i64_w, i32_w]
       rfl
      refine one_ (i := 3) (N := some 52) #[true, true, true, true, false] rfl rfl (by kernel_rfl) (by decide) (fun K hK => ?_)
      refine goesY Try.func41 #[.agg #[.int .i64 t243, .slice Ao31 t244.length co31], .agg #[.int .i64 t255, .slice Ao179 t256.length co179]] ?_
      with_reducible refine (laws_eqDisk.calls kj12 t243 _ _ t244 t255 _ _ t256 false _ ?side1 ?side2 ?side3 ?side4 A59.out).mono ?_
      (case side1 => repeat (first | exact (Kd.R_reads' HO_248001.out).2.2 | (with_reducible refine Kd.C_alloc ?_ _) | (with_reducible refine Kd.C_drewN ?_ _) | (with_reducible refine Kd.C_drew ?_)))
      (case side2 => exact (Kd.R_reads' HO_248001.out).2.1)
      (case side3 => repeat (first | exact (Kd.R_reads' HO258.out).2.2 | (with_reducible refine Kd.C_alloc ?_ _) | (with_reducible refine Kd.C_drewN ?_ _) | (with_reducible refine Kd.C_drew ?_)))
      (case side4 => exact (Kd.R_reads' HO258.out).2.1)
      rintro e w180 ⟨rfl, hb⟩
      refine ⟨_, rfl, ?_⟩
      replace HO_243001 := aM (Kd.R_below (xr HO_243001) hb); replace HO_248001 := aM (Kd.R_below (xr HO_248001) hb); replace HO_254001 := aM (Kd.R_below (xr HO_254001) hb); replace HO258 := aM (Kd.R_below (xr HO258) hb); replace BK231 := xbb BK231 hb; replace BK242 := xbb BK242 hb; replace BK247 := xbb BK247 hb; replace BK253 := xbb BK253 hb; replace HB := xbs hb
      (try clear hb); (try clear hb2); (try clear hk); (try clear hi)
      refine hK.out _ _ ⟨xc BK247 0 rfl, xc BK247 1 rfl, xc BK231 0 rfl, xc BK231 1 rfl⟩ (fun hHeld => ?_)
      clear hK K
      refine norm_ (a' := ?_) ?_ ?_
      rotate_left
      ·show Act.put _ (some 52) _ = _
       simp only [Act.put, List.setIfInBounds_toArray, List.set_cons_zero, List.set_cons_succ, i64_w, i32_w]
       rfl
      refine pure_ (i := 4) (N := some 53) (v := ?_) (a' := ?_) #[true, true, true, true, true] rfl rfl (by kernel_rfl) (fun _ _ _ h => h) (Or.inl ⟨by rfl, ?_⟩) ?_ ?_
      rotate_left
      ·intro w'
       go_simp
       with_reducible rfl
      rotate_left
      ·simp only [Act.put, List.setIfInBounds_toArray, List.set_cons_zero, List.set_cons_succ, i64_w, i32_w]
       rfl
      refine done_ (by kernel_rfl) ?_
      try go_wp2
      go_ret
      exact ⟨by first | rfl | (simp [errW_none, errW_some] <;> rfl) | (simp [*, errW_none, errW_some] <;> rfl), xbg⟩

/-- THE ONE PURE STATEMENT of laws_FnExactDiskMove. -/
def Q164 (x : S164) : Prop := (Lit.int .i64 x.f0).wf = true ∧ x.f1.size ≤ 140737488351232 ∧ x.f2.size ≤ 140737488351232
def Q66 (x : S66) : Prop := (Lit.int .i64 x.f0).wf = true ∧ (x.f1.length ≤ maxLen ∧ x.f1.length * 40 ≤ 140737488351232 ∧ ∀ x' ∈ x.f1, Q164 x')
def laws_FnExactDiskMove.Pure : Prop := ∀ (a0_0 : Int) (l0_1 : List (S164)) (a1 : Int) (a2 : Int), (Lit.int .i64 a0_0).wf = true → l0_1.length ≤ maxLen → l0_1.length * 40 ≤ 140737488351232 → (∀ x ∈ l0_1, Q164 x) → (Lit.int .i64 a1).wf = true → (Lit.int .i64 a2).wf = true → ∃ k, laws_FnExactDiskMove.f k a0_0 l0_1 a1 a2 = some true
theorem laws_FnExactDiskMove.walk (P : laws_FnExactDiskMove.Pure) (a0_0 : Int) (A0_1 : Option Addr) (c0_1 : Nat) (l0_1 : List (S164)) (a1 : Int) (a2 : Int) (w : World) (w0_0 : (Lit.int .i64 a0_0).wf = true) (hr0_1 : Kd.C k164 w A0_1 l0_1.length l0_1) (hc0_1 : l0_1.length ≤ c0_1) (hm0_1 : l0_1.length ≤ maxLen) (hz0_1 : l0_1.length * 40 ≤ 140737488351232) (hw0_1 : ∀ x ∈ l0_1, Q164 x) (w1 : (Lit.int .i64 a1).wf = true) (w2 : (Lit.int .i64 a2).wf = true) :
 Calls Try.prog 7 #[.agg #[.int .i64 a0_0, .slice A0_1 l0_1.length c0_1], .int .i64 a1, .int .i64 a2] w fun e w' => e = .returned (.bool true) ∧ Below w.heap.size w w' := by
 obtain ⟨k, h⟩ := P a0_0 l0_1 a1 a2 w0_0 hm0_1 hz0_1 hw0_1 w1 w2
 refine (laws_FnExactDiskMove.calls k a0_0 A0_1 c0_1 l0_1 a1 a2 true w hr0_1 hc0_1 h).mono ?_
 rintro e w' ⟨rfl, hd⟩
 exact ⟨rfl, hd⟩

end Go.Proofs.Ytnjpfllmcmomoaa.QFnExactDiskMove
