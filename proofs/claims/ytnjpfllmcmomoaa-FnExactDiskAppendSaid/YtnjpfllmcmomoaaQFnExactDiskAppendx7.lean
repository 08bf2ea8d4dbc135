-- A walk, by a program of this session.
import Derived.Test.YtnjpfllmcmomoaaQFnExactDiskAppendx0
import Derived.Test.YtnjpfllmcmomoaaQFnExactDiskAppendx1
import Derived.Test.YtnjpfllmcmomoaaQFnExactDiskAppendx3
import Derived.Test.YtnjpfllmcmomoaaQFnExactDiskAppendx5
import Derived.Test.YtnjpfllmcmomoaaQFnExactDiskAppendx6
namespace Go.Proofs.Ytnjpfllmcmomoaa.QFnExactDiskAppend
open Go.RowKit Go.Proofs.YtnjpfllmcmomoaaW.PrintWords Go.Proofs.YtnjpfllmcmomoaaW.PrintLast Go.Proofs.YtnjpfllmcmomoaaW.PrintMore
attribute [local go_sem] max2_int min2_int max_two min_two max_three min_three max_four min_four   -- for this text's walks alone
set_option linter.unusedVariables false
set_option linter.unusedSimpArgs false

/-! ### laws_FnExactDiskAppend: function 6 -/
mutual
def laws_FnExactDiskAppend.j0 : Nat → Int → ByteArray → Int → Int → Bool → Int → List (S164) → Int → List (S134) → Int → List (S134) → Int → List (S134) → Option (Bool)
 | 0, _, _, _, _, _, _, _, _, _, _, _, _, _ => none
 | k + 1, x1, x2, x9, x12, x51, x252000, x252001, x263000, x263001, x268000, x268001, x274000, x274001 => if x51 = true then (some false) else ((laws_toDisk.f k x252000 x252001).bind fun bt275 => ((laws_eqDisk.f k x268000 x268001 bt275.1 bt275.2).bind fun t279 => (if t279 = true then ((laws_markDisk.f k x268000 x268001 1).bind fun bt280 => (if bt280.1 < 0 then (laws_FnExactDiskAppend.j1 k x1 x2 x9 true x252000 x252001 x263000 x263001 x274000 x274001) else ((laws_eqDisk.f k x274000 x274001 x263000 x263001).bind fun t282 => (if t282 = true then (laws_FnExactDiskAppend.j1 k x1 x2 x9 (x12 != x9) x252000 x252001 x263000 x263001 x274000 x274001) else (laws_FnExactDiskAppend.j1 k x1 x2 x9 true x252000 x252001 x263000 x263001 x274000 x274001))))) else (some false))))
def laws_FnExactDiskAppend.j1 : Nat → Int → ByteArray → Int → Bool → Int → List (S164) → Int → List (S134) → Int → List (S134) → Option (Bool)
 | 0, _, _, _, _, _, _, _, _, _, _ => none
 | k + 1, x1, x2, x9, x72, x252000, x252001, x263000, x263001, x274000, x274001 => if x72 = true then (some false) else ((laws_markDisk.f k x274000 x274001 1).bind fun bt283 => ((laws_heldDisk.f k x274000 bt283.2 1).bind fun t285 => (if t285 < 0 then (some false) else (if t285 = bt283.1 then ((laws_toDisk.f k x252000 x252001).bind fun bt286 => ((impl_DiskAppend.f k bt286.1 bt286.2 x1 x2).bind fun bt290 => ((laws_eqDisk.f k bt290.1 bt290.2.1 x263000 x263001).bind fun t296 => (if t296 = true then (laws_FnExactDiskAppend.j2 k bt283.1 (bt290.2.2 != x9) x274000 bt283.2) else (laws_FnExactDiskAppend.j2 k bt283.1 true x274000 bt283.2))))) else (some false)))))
def laws_FnExactDiskAppend.j2 : Nat → Int → Bool → Int → List (S134) → Option (Bool)
 | 0, _, _, _, _ => none
 | k + 1, x14, x100, x274000, x274001 => if x100 = true then (some false) else ((laws_heldDisk.f k x274000 x274001 1).bind fun t297 => (if t297 < 0 then (some false) else (if t297 = x14 then (some true) else (some false))))
end
def laws_FnExactDiskAppend.f (k : Nat) (a0_0 : Int) (l0_1 : List (S164)) (a1 : Int) (a2 : ByteArray) : Option (Bool) := if (a2.size : Int) > 1048576 then (some true) else ((laws_szDisk.f k a0_0 l0_1 1048576).bind fun t252 => (if t252 < 0 then (some true) else ((laws_toDisk.f k a0_0 l0_1).bind fun bt253 => ((spec_DiskAppend.f k bt253.1 bt253.2 a1 a2).bind fun bt257 => ((laws_toDisk.f k a0_0 l0_1).bind fun bt263 => ((impl_DiskAppend.f k bt263.1 bt263.2 a1 a2).bind fun bt268 => ((laws_eqDisk.f k bt268.1 bt268.2.1 bt257.1 bt257.2.1).bind fun t274 => (if t274 = true then (laws_FnExactDiskAppend.j0 k a1 a2 bt257.2.2 bt268.2.2 (bt268.2.2 != bt257.2.2) a0_0 l0_1 bt257.1 bt257.2.1 bt263.1 bt263.2 bt268.1 bt268.2.1) else (laws_FnExactDiskAppend.j0 k a1 a2 bt257.2.2 bt268.2.2 true a0_0 l0_1 bt257.1 bt257.2.1 bt263.1 bt263.2 bt268.1 bt268.2.1)))))))))
set_option maxRecDepth 100000 in
theorem laws_FnExactDiskAppend.mono_l : ∀ k, (∀ y0 y1 y2 y3 y4 y5 y6 y7 y8 y9 y10 y11 y12, LeO (laws_FnExactDiskAppend.j0 k y0 y1 y2 y3 y4 y5 y6 y7 y8 y9 y10 y11 y12) (laws_FnExactDiskAppend.j0 (k + 1) y0 y1 y2 y3 y4 y5 y6 y7 y8 y9 y10 y11 y12)) ∧ (∀ y0 y1 y2 y3 y4 y5 y6 y7 y8 y9, LeO (laws_FnExactDiskAppend.j1 k y0 y1 y2 y3 y4 y5 y6 y7 y8 y9) (laws_FnExactDiskAppend.j1 (k + 1) y0 y1 y2 y3 y4 y5 y6 y7 y8 y9)) ∧ (∀ y0 y1 y2 y3, LeO (laws_FnExactDiskAppend.j2 k y0 y1 y2 y3) (laws_FnExactDiskAppend.j2 (k + 1) y0 y1 y2 y3))
 | 0 => ⟨fun _ _ _ _ _ _ _ _ _ _ _ _ _ r h => by simp [laws_FnExactDiskAppend.j0] at h, fun _ _ _ _ _ _ _ _ _ _ r h => by simp [laws_FnExactDiskAppend.j1] at h, fun _ _ _ _ r h => by simp [laws_FnExactDiskAppend.j2] at h⟩
 | k + 1 => by
  obtain ⟨ih0, ih1, ih2⟩ := laws_FnExactDiskAppend.mono_l k
  refine ⟨?_, ?_, ?_⟩
  ·intro y0 y1 y2 y3 y4 y5 y6 y7 y8 y9 y10 y11 y12
   unfold laws_FnExactDiskAppend.j0
   repeat' first
   | (with_reducible exact ih0 _ _ _ _ _ _ _ _ _ _ _ _ _)
   | (with_reducible exact ih1 _ _ _ _ _ _ _ _ _ _)
   | (with_reducible exact ih2 _ _ _ _)
   | (with_reducible exact impl_DiskAppend.mono _ _ _ _ _)
   | (with_reducible exact laws_eqDisk.mono _ _ _ _ _)
   | (with_reducible exact laws_heldDisk.mono _ _ _ _)
   | (with_reducible exact laws_markDisk.mono _ _ _ _)
   | (with_reducible exact laws_szDisk.mono _ _ _ _)
   | (with_reducible exact laws_toDisk.mono _ _ _)
   | (with_reducible exact spec_DiskAppend.mono _ _ _ _ _)
   | (with_reducible exact LeO.refl _)
   | (with_reducible exact LeO.none _)
   | (with_reducible refine LeO.ite ?_ ?_)
   | (with_reducible refine LeO.bind ?_ (fun _ => ?_))
   | exact ih0 _ _ _ _ _ _ _ _ _ _ _ _ _
   | exact ih1 _ _ _ _ _ _ _ _ _ _
   | exact ih2 _ _ _ _
   | exact impl_DiskAppend.mono _ _ _ _ _
   | exact laws_eqDisk.mono _ _ _ _ _
   | exact laws_heldDisk.mono _ _ _ _
   | exact laws_markDisk.mono _ _ _ _
   | exact laws_szDisk.mono _ _ _ _
   | exact laws_toDisk.mono _ _ _
   | exact spec_DiskAppend.mono _ _ _ _ _
   | exact LeO.none _
   | refine LeO.ite ?_ ?_
   | refine LeO.bind ?_ (fun _ => ?_)
  ·intro y0 y1 y2 y3 y4 y5 y6 y7 y8 y9
   unfold laws_FnExactDiskAppend.j1
   repeat' first
   | (with_reducible exact ih0 _ _ _ _ _ _ _ _ _ _ _ _ _)
   | (with_reducible exact ih1 _ _ _ _ _ _ _ _ _ _)
   | (with_reducible exact ih2 _ _ _ _)
   | (with_reducible exact impl_DiskAppend.mono _ _ _ _ _)
   | (with_reducible exact laws_eqDisk.mono _ _ _ _ _)
   | (with_reducible exact laws_heldDisk.mono _ _ _ _)
   | (with_reducible exact laws_markDisk.mono _ _ _ _)
   | (with_reducible exact laws_szDisk.mono _ _ _ _)
   | (with_reducible exact laws_toDisk.mono _ _ _)
   | (with_reducible exact spec_DiskAppend.mono _ _ _ _ _)
   | (with_reducible exact LeO.refl _)
   | (with_reducible exact LeO.none _)
   | (with_reducible refine LeO.ite ?_ ?_)
   | (with_reducible refine LeO.bind ?_ (fun _ => ?_))
   | exact ih0 _ _ _ _ _ _ _ _ _ _ _ _ _
   | exact ih1 _ _ _ _ _ _ _ _ _ _
   | exact ih2 _ _ _ _
   | exact impl_DiskAppend.mono _ _ _ _ _
   | exact laws_eqDisk.mono _ _ _ _ _
   | exact laws_heldDisk.mono _ _ _ _
   | exact laws_markDisk.mono _ _ _ _
   | exact laws_szDisk.mono _ _ _ _
   | exact laws_toDisk.mono _ _ _
   | exact spec_DiskAppend.mono _ _ _ _ _
   | exact LeO.none _
   | refine LeO.ite ?_ ?_
   | refine LeO.bind ?_ (fun _ => ?_)
  ·intro y0 y1 y2 y3
   unfold laws_FnExactDiskAppend.j2
   repeat' first
   | (with_reducible exact ih0 _ _ _ _ _ _ _ _ _ _ _ _ _)
   | (with_reducible exact ih1 _ _ _ _ _ _ _ _ _ _)
   | (with_reducible exact ih2 _ _ _ _)
   | (with_reducible exact impl_DiskAppend.mono _ _ _ _ _)
   | (with_reducible exact laws_eqDisk.mono _ _ _ _ _)
   | (with_reducible exact laws_heldDisk.mono _ _ _ _)
   | (with_reducible exact laws_markDisk.mono _ _ _ _)
   | (with_reducible exact laws_szDisk.mono _ _ _ _)
   | (with_reducible exact laws_toDisk.mono _ _ _)
   | (with_reducible exact spec_DiskAppend.mono _ _ _ _ _)
   | (with_reducible exact LeO.refl _)
   | (with_reducible exact LeO.none _)
   | (with_reducible refine LeO.ite ?_ ?_)
   | (with_reducible refine LeO.bind ?_ (fun _ => ?_))
   | exact ih0 _ _ _ _ _ _ _ _ _ _ _ _ _
   | exact ih1 _ _ _ _ _ _ _ _ _ _
   | exact ih2 _ _ _ _
   | exact impl_DiskAppend.mono _ _ _ _ _
   | exact laws_eqDisk.mono _ _ _ _ _
   | exact laws_heldDisk.mono _ _ _ _
   | exact laws_markDisk.mono _ _ _ _
   | exact laws_szDisk.mono _ _ _ _
   | exact laws_toDisk.mono _ _ _
   | exact spec_DiskAppend.mono _ _ _ _ _
   | exact LeO.none _
   | refine LeO.ite ?_ ?_
   | refine LeO.bind ?_ (fun _ => ?_)
theorem laws_FnExactDiskAppend.mono : ∀ a0 a1 a2 a3 k, LeO (laws_FnExactDiskAppend.f k a0 a1 a2 a3) (laws_FnExactDiskAppend.f (k + 1) a0 a1 a2 a3) := by
 intro a0 a1 a2 a3 k
 obtain ⟨ih0, ih1, ih2⟩ := laws_FnExactDiskAppend.mono_l k
 unfold laws_FnExactDiskAppend.f
 repeat' first
  | (with_reducible exact ih0 _ _ _ _ _ _ _ _ _ _ _ _ _)
  | (with_reducible exact ih1 _ _ _ _ _ _ _ _ _ _)
  | (with_reducible exact ih2 _ _ _ _)
  | (with_reducible exact impl_DiskAppend.mono _ _ _ _ _)
  | (with_reducible exact laws_eqDisk.mono _ _ _ _ _)
  | (with_reducible exact laws_heldDisk.mono _ _ _ _)
  | (with_reducible exact laws_markDisk.mono _ _ _ _)
  | (with_reducible exact laws_szDisk.mono _ _ _ _)
  | (with_reducible exact laws_toDisk.mono _ _ _)
  | (with_reducible exact spec_DiskAppend.mono _ _ _ _ _)
  | (with_reducible exact LeO.refl _)
  | (with_reducible exact LeO.none _)
  | (with_reducible refine LeO.ite ?_ ?_)
  | (with_reducible refine LeO.bind ?_ (fun _ => ?_))
  | exact ih0 _ _ _ _ _ _ _ _ _ _ _ _ _
  | exact ih1 _ _ _ _ _ _ _ _ _ _
  | exact ih2 _ _ _ _
  | exact impl_DiskAppend.mono _ _ _ _ _
  | exact laws_eqDisk.mono _ _ _ _ _
  | exact laws_heldDisk.mono _ _ _ _
  | exact laws_markDisk.mono _ _ _ _
  | exact laws_szDisk.mono _ _ _ _
  | exact laws_toDisk.mono _ _ _
  | exact spec_DiskAppend.mono _ _ _ _ _
  | exact LeO.none _
  | refine LeO.ite ?_ ?_
  | refine LeO.bind ?_ (fun _ => ?_)
set_option maxHeartbeats 8000000 in
set_option maxRecDepth 100000 in
theorem laws_FnExactDiskAppend.calls (k : Nat) (a0_0 : Int) (A0_1 : Option Addr) (c0_1 : Nat) (l0_1 : List (S164)) (a1 : Int) (a2 : ByteArray) (r : Bool) (w : World) (hr0_1 : Kd.C k164 w A0_1 l0_1.length l0_1) (hc0_1 : l0_1.length ≤ c0_1) (h : laws_FnExactDiskAppend.f k a0_0 l0_1 a1 a2 = some r) :
 Calls Try.prog 6 #[.agg #[.int .i64 a0_0, .slice A0_1 l0_1.length c0_1], .int .i64 a1, .string a2] w fun e w' => e = .returned (.bool r) ∧ Below w.heap.size w w' := by
 have hu66 := Try.underlying66
 have hu70 := Try.underlying70
 have HR0_1 := aM hr0_1
 have HC0_1 := aM hc0_1
 clear hr0_1 hc0_1
 have HB := aM (Below.refl w.heap.size w)
 have H : (if (a2.size : Int) > 1048576 then (some true) else ((laws_szDisk.f k a0_0 l0_1 1048576).bind fun t252 => (if t252 < 0 then (some true) else ((laws_toDisk.f k a0_0 l0_1).bind fun bt253 => ((spec_DiskAppend.f k bt253.1 bt253.2 a1 a2).bind fun bt257 => ((laws_toDisk.f k a0_0 l0_1).bind fun bt263 => ((impl_DiskAppend.f k bt263.1 bt263.2 a1 a2).bind fun bt268 => ((laws_eqDisk.f k bt268.1 bt268.2.1 bt257.1 bt257.2.1).bind fun t274 => (if t274 = true then (laws_FnExactDiskAppend.j0 k a1 a2 bt257.2.2 bt268.2.2 (bt268.2.2 != bt257.2.2) a0_0 l0_1 bt257.1 bt257.2.1 bt263.1 bt263.2 bt268.1 bt268.2.1) else (laws_FnExactDiskAppend.j0 k a1 a2 bt257.2.2 bt268.2.2 true a0_0 l0_1 bt257.1 bt257.2.1 bt263.1 bt263.2 bt268.1 bt268.2.1)))))))))) = some r := h
 clear h
 by_cases c4 : (a2.size : Int) > 1048576
 ·rw [if_pos c4] at H
  have c4b0 : decide (1048576 < (a2.size : Int)) = true := decide_eq_true c4; have c4b1 : decide (1048576 < a2.size) = true := decide_eq_true (by omega); clear c4
  obtain rfl := Option.some.inj H
  go_enter Try.func6, Try.ntmps6
  go_wp2_with (first | ((with_reducible refine gate_dst (N := 3) rfl ?_); refine box_event ?hg (N := 3) ?hd (cs := #[.int .i64 a0_0, .slice A0_1 l0_1.length c0_1]) (t := 66) ?hr ?_; (case hd => rfl); (case hg => rfl); (case hr => first | (go_simp; done) | (go_simp; rfl)); intro gb251 hg w5 hbox hb; have BK251 := aM (hbox); have GW251 := aM (xge hg); have GE251 := aM (xge hg); replace HB := xbs hb; clear hb hbox hg))
  go_ret
  exact ⟨by first | rfl | (simp [errW_none, errW_some] <;> rfl) | (simp [*, errW_none, errW_some] <;> rfl), xbg⟩
 ·rw [if_neg c4] at H
  have c4b0 : decide (1048576 < (a2.size : Int)) = false := decide_eq_false c4; have c4b1 : decide (1048576 < a2.size) = false := decide_eq_false (by omega); clear c4; replace H := Option.bind_eq_some_iff.mp H
  obtain ⟨t252, A60, H⟩ := H
  replace H : (if t252 < 0 then (some true) else ((laws_toDisk.f k a0_0 l0_1).bind fun bt253 => ((spec_DiskAppend.f k bt253.1 bt253.2 a1 a2).bind fun bt257 => ((laws_toDisk.f k a0_0 l0_1).bind fun bt263 => ((impl_DiskAppend.f k bt263.1 bt263.2 a1 a2).bind fun bt268 => ((laws_eqDisk.f k bt268.1 bt268.2.1 bt257.1 bt257.2.1).bind fun t274 => (if t274 = true then (laws_FnExactDiskAppend.j0 k a1 a2 bt257.2.2 bt268.2.2 (bt268.2.2 != bt257.2.2) a0_0 l0_1 bt257.1 bt257.2.1 bt263.1 bt263.2 bt268.1 bt268.2.1) else (laws_FnExactDiskAppend.j0 k a1 a2 bt257.2.2 bt268.2.2 true a0_0 l0_1 bt257.1 bt257.2.1 bt263.1 bt263.2 bt268.1 bt268.2.1)))))))) = some r := H; have A6 := aM A60; clear A60
  by_cases c7 : t252 < 0
  ·rw [if_pos c7] at H
   have c7b0 : decide (t252 < 0) = true := decide_eq_true c7; clear c7
   obtain rfl := Option.some.inj H
   go_enter Try.func6, Try.ntmps6
   go_wp2_with (first | ((with_reducible refine gate_dst (N := 3) rfl ?_); refine box_event ?hg (N := 3) ?hd (cs := #[.int .i64 a0_0, .slice A0_1 l0_1.length c0_1]) (t := 66) ?hr ?_; (case hd => rfl); (case hg => rfl); (case hr => first | (go_simp; done) | (go_simp; rfl)); intro gb251 hg w8 hbox hb; have BK251 := aM (hbox); have GW251 := aM (xge hg); have GE251 := aM (xge hg); replace HB := xbs hb; clear hb hbox hg; have hcz9_0 : w8.cell? ⟨gb251, 0, none⟩ = some (.int .i64 a0_0) := xc BK251 0 rfl; have hcz9_1 : w8.cell? ⟨gb251, 1, none⟩ = some (.slice A0_1 l0_1.length c0_1) := xc BK251 1 rfl; have hfz9_0 := blk_frozen BK251.out 0; have hfz9_1 := blk_frozen BK251.out 1) | ((with_reducible refine gate_callee (f := 37) rfl ?_); refine goesL_ (some 23) rfl rfl Try.func37 (by kernel_rfl) rfl #[.agg #[.int .i64 a0_0, .slice A0_1 l0_1.length c0_1], .int .i64 1048576] rfl (by (try simp only [List.map_toArray, List.map_cons, List.map_nil]); first | done | rfl | (simp only [List.length_drop, List.length_take]; rfl)) ?_; (with_reducible refine (laws_szDisk.calls k a0_0 _ _ l0_1 1048576 t252 _ ?side1 ?side2 A6.out).mono ?_); (case side1 => exact xcb HR0_1); (case side2 => exact HC0_1.out); rintro e w10 ⟨rfl, hb⟩; refine ⟨_, rfl, ?_⟩; replace BK251 := xbb BK251 hb; replace HB := xbs hb; (try clear hb); (try clear hb2); (try clear hk); (try clear hi)))
   go_ret
   exact ⟨by first | rfl | (simp [errW_none, errW_some] <;> rfl) | (simp [*, errW_none, errW_some] <;> rfl), xbg⟩
  ·rw [if_neg c7] at H
   have c7b0 : decide (t252 < 0) = false := decide_eq_false c7; clear c7; replace H := Option.bind_eq_some_iff.mp H
   obtain ⟨⟨t253, t254⟩, A110, H⟩ := H
   replace H : ((spec_DiskAppend.f k t253 t254 a1 a2).bind fun bt257 => ((laws_toDisk.f k a0_0 l0_1).bind fun bt263 => ((impl_DiskAppend.f k bt263.1 bt263.2 a1 a2).bind fun bt268 => ((laws_eqDisk.f k bt268.1 bt268.2.1 bt257.1 bt257.2.1).bind fun t274 => (if t274 = true then (laws_FnExactDiskAppend.j0 k a1 a2 bt257.2.2 bt268.2.2 (bt268.2.2 != bt257.2.2) a0_0 l0_1 bt257.1 bt257.2.1 bt263.1 bt263.2 bt268.1 bt268.2.1) else (laws_FnExactDiskAppend.j0 k a1 a2 bt257.2.2 bt268.2.2 true a0_0 l0_1 bt257.1 bt257.2.1 bt263.1 bt263.2 bt268.1 bt268.2.1)))))) = some r := H; have A11 := aM A110; clear A110; replace H := Option.bind_eq_some_iff.mp H
   obtain ⟨⟨t257, t258, t261⟩, A120, H⟩ := H
   replace H : ((laws_toDisk.f k a0_0 l0_1).bind fun bt263 => ((impl_DiskAppend.f k bt263.1 bt263.2 a1 a2).bind fun bt268 => ((laws_eqDisk.f k bt268.1 bt268.2.1 t257 t258).bind fun t274 => (if t274 = true then (laws_FnExactDiskAppend.j0 k a1 a2 t261 bt268.2.2 (bt268.2.2 != t261) a0_0 l0_1 t257 t258 bt263.1 bt263.2 bt268.1 bt268.2.1) else (laws_FnExactDiskAppend.j0 k a1 a2 t261 bt268.2.2 true a0_0 l0_1 t257 t258 bt263.1 bt263.2 bt268.1 bt268.2.1))))) = some r := H; have A12 := aM A120; clear A120; replace H := Option.bind_eq_some_iff.mp H
   obtain ⟨⟨t263, t264⟩, A130, H⟩ := H
   replace H : ((impl_DiskAppend.f k t263 t264 a1 a2).bind fun bt268 => ((laws_eqDisk.f k bt268.1 bt268.2.1 t257 t258).bind fun t274 => (if t274 = true then (laws_FnExactDiskAppend.j0 k a1 a2 t261 bt268.2.2 (bt268.2.2 != t261) a0_0 l0_1 t257 t258 t263 t264 bt268.1 bt268.2.1) else (laws_FnExactDiskAppend.j0 k a1 a2 t261 bt268.2.2 true a0_0 l0_1 t257 t258 t263 t264 bt268.1 bt268.2.1)))) = some r := H; have A13 := aM A130; clear A130; replace H := Option.bind_eq_some_iff.mp H
   obtain ⟨⟨t268, t269, t272⟩, A140, H⟩ := H
   replace H : ((laws_eqDisk.f k t268 t269 t257 t258).bind fun t274 => (if t274 = true then (laws_FnExactDiskAppend.j0 k a1 a2 t261 t272 (t272 != t261) a0_0 l0_1 t257 t258 t263 t264 t268 t269) else (laws_FnExactDiskAppend.j0 k a1 a2 t261 t272 true a0_0 l0_1 t257 t258 t263 t264 t268 t269))) = some r := H; have A14 := aM A140; clear A140; have HC15 := aM H; clear H
   go_enter Try.func6, Try.ntmps6
   go_upto_region 10 with (first | ((with_reducible refine gate_dst (N := 3) rfl ?_); refine box_event ?hg (N := 3) ?hd (cs := #[.int .i64 a0_0, .slice A0_1 l0_1.length c0_1]) (t := 66) ?hr ?_; (case hd => rfl); (case hg => rfl); (case hr => first | (go_simp; done) | (go_simp; rfl)); intro gb251 hg w16 hbox hb; have BK251 := aM (hbox); have GW251 := aM (xge hg); have GE251 := aM (xge hg); replace HB := xbs hb; clear hb hbox hg; have hcz17_0 : w16.cell? ⟨gb251, 0, none⟩ = some (.int .i64 a0_0) := xc BK251 0 rfl; have hcz17_1 : w16.cell? ⟨gb251, 1, none⟩ = some (.slice A0_1 l0_1.length c0_1) := xc BK251 1 rfl; have hfz17_0 := blk_frozen BK251.out 0; have hfz17_1 := blk_frozen BK251.out 1) | ((with_reducible refine gate_callee (f := 37) rfl ?_); refine goesL_ (some 23) rfl rfl Try.func37 (by kernel_rfl) rfl #[.agg #[.int .i64 a0_0, .slice A0_1 l0_1.length c0_1], .int .i64 1048576] rfl (by (try simp only [List.map_toArray, List.map_cons, List.map_nil]); first | done | rfl | (simp only [List.length_drop, List.length_take]; rfl)) ?_; (with_reducible refine (laws_szDisk.calls k a0_0 _ _ l0_1 1048576 t252 _ ?side1 ?side2 A6.out).mono ?_); (case side1 => exact xcb HR0_1); (case side2 => exact HC0_1.out); rintro e w18 ⟨rfl, hb⟩; refine ⟨_, rfl, ?_⟩; replace BK251 := xbb BK251 hb; replace HB := xbs hb; (try clear hb); (try clear hb2); (try clear hk); (try clear hi); have hcz19_0 : w18.cell? ⟨gb251, 0, none⟩ = some (.int .i64 a0_0) := xc BK251 0 rfl; have hcz19_1 : w18.cell? ⟨gb251, 1, none⟩ = some (.slice A0_1 l0_1.length c0_1) := xc BK251 1 rfl; have hfz19_0 := blk_frozen BK251.out 0; have hfz19_1 := blk_frozen BK251.out 1) | ((with_reducible refine gate_callee (f := 39) rfl ?_); refine goesL_ (some 28) rfl rfl Try.func39 (by kernel_rfl) rfl #[.agg #[.int .i64 a0_0, .slice A0_1 l0_1.length c0_1]] rfl (by (try simp only [List.map_toArray, List.map_cons, List.map_nil]); first | done | rfl | (simp only [List.length_drop, List.length_take]; rfl)) ?_; (with_reducible refine (laws_toDisk.calls k a0_0 _ _ l0_1 t253 t254 _ ?side1 ?side2 A11.out).mono ?_); (case side1 => exact xcb HR0_1); (case side2 => exact HC0_1.out); rintro e w20 ⟨v255, rfl, ho0, hb⟩; refine ⟨_, rfl, ?_⟩; have HO256 := aM (Kd.R_lower ho0 (below_size xbg)); replace BK251 := xbb BK251 hb; replace HB := xbs hb; (try clear hb); (try clear hb2); (try clear hk); (try clear hi); (try clear ho0); obtain ⟨Ao21, co21, eo21⟩ := Kd.R_slice HO256.out; subst eo21) | ((with_reducible refine gate_callee (f := 38) rfl ?_); refine goesL_ (some 31) rfl rfl Try.func38 (by kernel_rfl) rfl #[.agg #[.int .i64 t253, .slice Ao21 t254.length co21], .int .i64 a1, .string a2] rfl (by (try simp only [List.map_toArray, List.map_cons, List.map_nil]); first | done | rfl | (simp only [List.length_drop, List.length_take]; rfl)) ?_; (with_reducible refine (spec_DiskAppend.calls k t253 _ _ t254 a1 a2 t257 t258 t261 _ ?side1 ?side2 A12.out).mono ?_); (case side1 => repeat (first | exact (Kd.R_reads' HO256.out).2.2 | (with_reducible refine Kd.C_alloc ?_ _) | (with_reducible refine Kd.C_drewN ?_ _) | (with_reducible refine Kd.C_drew ?_))); (case side2 => exact (Kd.R_reads' HO256.out).2.1); rintro e w22 ⟨v259, rfl, ho0, hb⟩; refine ⟨_, rfl, ?_⟩; have HO260 := aM (Kd.R_lower (Kd.R_new' ho0 (Kd.R_lt (xr HO256))) (below_size xbg)); replace HO256 := aM (Kd.R_elder' (xr HO256) (Kd.R_base ho0) hb); replace BK251 := xbb BK251 hb; replace HB := xbs hb; (try clear hb); (try clear hb2); (try clear hk); (try clear hi); (try clear ho0)) | ((with_reducible refine gate_dst (N := 8) rfl ?_); refine box_event ?hg (N := 8) ?hd (cs := #[.int .i64 0, .slice none 0 0]) (t := 70) ?hr ?_; (case hd => rfl); (case hg => rfl); (case hr => first | (go_simp; done) | (go_simp; rfl)); intro gb262 hg w23 hbox hb; replace HO256 := aM (Kd.R_below (xr HO256) hb); replace HO260 := aM (Kd.R_below (xr HO260) hb); have GW262 := aM (xge hg); have GE262 := aM (xge hg); replace HB := xbs hb; have NB251_262 := aM ((by rw [hg]; exact Nat.ne_of_lt (blk_lt (g := gb251) (o := .cells #[.int .i64 a0_0, .slice A0_1 l0_1.length c0_1] 66 (0, 0)) xblk) : gb251 ≠ gb262)); have NB262_251 := aM ((by rw [hg]; exact Nat.ne_of_gt (blk_lt (g := gb251) (o := .cells #[.int .i64 a0_0, .slice A0_1 l0_1.length c0_1] 66 (0, 0)) xblk) : gb262 ≠ gb251)); replace BK251 := xbb BK251 hb; have BK262 := aM (hbox); clear hb hbox hg; have hnb24 := NB262_251.out; have hnc24 := NB251_262.out; have hcz25_0 : w23.cell? ⟨gb262, 0, none⟩ = some (.int .i64 0) := xc BK262 0 rfl; have hcz25_1 : w23.cell? ⟨gb262, 1, none⟩ = some (.slice none 0 0) := xc BK262 1 rfl; have hfz25_0 := blk_frozen BK262.out 0; have hfz25_1 := blk_frozen BK262.out 1; obtain ⟨Ao26, co26, eo26⟩ := Kd.R_slice HO260.out; subst eo26; have hcz27_0 : w23.cell? ⟨gb251, 0, none⟩ = some (.int .i64 a0_0) := xc BK251 0 rfl; have hcz27_1 : w23.cell? ⟨gb251, 1, none⟩ = some (.slice A0_1 l0_1.length c0_1) := xc BK251 1 rfl; have hfz27_0 := blk_frozen BK251.out 0; have hfz27_1 := blk_frozen BK251.out 1) | ((with_reducible refine gate_callee (f := 39) rfl ?_); refine goesL_ (some 35) rfl rfl Try.func39 (by kernel_rfl) rfl #[.agg #[.int .i64 a0_0, .slice A0_1 l0_1.length c0_1]] rfl (by (try simp only [List.map_toArray, List.map_cons, List.map_nil]); first | done | rfl | (simp only [List.length_drop, List.length_take]; rfl)) ?_; (with_reducible refine (laws_toDisk.calls k a0_0 _ _ l0_1 t263 t264 _ ?side1 ?side2 A13.out).mono ?_); (case side1 => exact Kd.C_below HR0_1.out xbg); (case side2 => exact HC0_1.out); rintro e w28 ⟨v265, rfl, ho0, hb⟩; refine ⟨_, rfl, ?_⟩; have HO266 := aM (Kd.R_lower (Kd.R_new' (Kd.R_new' ho0 (Kd.R_lt (xrt (Kd.R_mono (Kd.R_far (p := ⟨gb262, 1, none⟩) (Kd.R_far (p := ⟨gb262, 0, none⟩) (Kd.R_types HO256.out BK262.out (by decide)) (fun _ hk => hk.2) (.int .i64 t257)) (fun _ hk => hk.2) (.slice Ao26 t258.length co26)) (fun _ h_ => h_.1))))) (Kd.R_lt (xrt (Kd.R_mono (Kd.R_far (p := ⟨gb262, 1, none⟩) (Kd.R_far (p := ⟨gb262, 0, none⟩) (Kd.R_types HO260.out BK262.out (by decide)) (fun _ hk => hk.2) (.int .i64 t257)) (fun _ hk => hk.2) (.slice Ao26 t258.length co26)) (fun _ h_ => h_.1))))) (below_size xbg)); replace HO256 := aM (Kd.R_elder' (xrt (Kd.R_mono (Kd.R_far (p := ⟨gb262, 1, none⟩) (Kd.R_far (p := ⟨gb262, 0, none⟩) (Kd.R_types HO256.out BK262.out (by decide)) (fun _ hk => hk.2) (.int .i64 t257)) (fun _ hk => hk.2) (.slice Ao26 t258.length co26)) (fun _ h_ => h_.1))) (Kd.R_base ho0) hb); replace HO260 := aM (Kd.R_elder' (xrt (Kd.R_mono (Kd.R_far (p := ⟨gb262, 1, none⟩) (Kd.R_far (p := ⟨gb262, 0, none⟩) (Kd.R_types HO260.out BK262.out (by decide)) (fun _ hk => hk.2) (.int .i64 t257)) (fun _ hk => hk.2) (.slice Ao26 t258.length co26)) (fun _ h_ => h_.1))) (Kd.R_base ho0) hb); replace BK251 := aM (blk_below (g := gb251) (o := .cells #[.int .i64 a0_0, .slice A0_1 l0_1.length c0_1] 66 (0, 0)) (by (with_reducible repeat (first | refine blk_drewN ?_ _ | refine blk_drew ?_ | refine blk_alloc ?_ _)); refine blk_far ?_ NB251_262.out _; (with_reducible repeat (first | refine blk_drewN ?_ _ | refine blk_drew ?_ | refine blk_alloc ?_ _)); refine blk_far ?_ NB251_262.out _; (with_reducible repeat (first | refine blk_drewN ?_ _ | refine blk_drew ?_ | refine blk_alloc ?_ _)); exact BK251.out) hb); replace BK262 := aM (blk_below (g := gb262) (o := .cells #[.int .i64 t257, .slice Ao26 t258.length co26] 70 (0, 0)) (by (with_reducible repeat (first | refine blk_drewN ?_ _ | refine blk_drew ?_ | refine blk_alloc ?_ _)); refine blk_put (cs := #[.int .i64 t257, .slice none 0 0]) ?_ 1 _ rfl; (with_reducible repeat (first | refine blk_drewN ?_ _ | refine blk_drew ?_ | refine blk_alloc ?_ _)); refine blk_put (cs := #[.int .i64 0, .slice none 0 0]) ?_ 0 _ rfl; (with_reducible repeat (first | refine blk_drewN ?_ _ | refine blk_drew ?_ | refine blk_alloc ?_ _)); exact BK262.out) hb); replace HB := xbs hb; (try clear hb); (try clear hb2); (try clear hk); (try clear hi); (try clear ho0)) | ((with_reducible refine gate_dst (N := 10) rfl ?_); refine box_event ?hg (N := 10) ?hd (cs := #[.int .i64 0, .slice none 0 0]) (t := 70) ?hr ?_; (case hd => rfl); (case hg => rfl); (case hr => first | (go_simp; done) | (go_simp; rfl)); intro gb267 hg w29 hbox hb; replace HO256 := aM (Kd.R_below (xr HO256) hb); replace HO260 := aM (Kd.R_below (xr HO260) hb); replace HO266 := aM (Kd.R_below (xr HO266) hb); have GW267 := aM (xge hg); have GE267 := aM (xge hg); replace HB := xbs hb; have NB251_267 := aM ((by rw [hg]; exact Nat.ne_of_lt (blk_lt (g := gb251) (o := .cells #[.int .i64 a0_0, .slice A0_1 l0_1.length c0_1] 66 (0, 0)) xblk) : gb251 ≠ gb267)); have NB267_251 := aM ((by rw [hg]; exact Nat.ne_of_gt (blk_lt (g := gb251) (o := .cells #[.int .i64 a0_0, .slice A0_1 l0_1.length c0_1] 66 (0, 0)) xblk) : gb267 ≠ gb251)); have NB262_267 := aM ((by rw [hg]; exact Nat.ne_of_lt (blk_lt (g := gb262) (o := .cells #[.int .i64 t257, .slice Ao26 t258.length co26] 70 (0, 0)) xblk) : gb262 ≠ gb267)); have NB267_262 := aM ((by rw [hg]; exact Nat.ne_of_gt (blk_lt (g := gb262) (o := .cells #[.int .i64 t257, .slice Ao26 t258.length co26] 70 (0, 0)) xblk) : gb267 ≠ gb262)); replace BK251 := xbb BK251 hb; replace BK262 := xbb BK262 hb; have BK267 := aM (hbox); clear hb hbox hg; have hnb30 := NB267_251.out; have hnc30 := NB251_267.out; have hnb31 := NB267_262.out; have hnc31 := NB262_267.out; have hcz32_0 : w29.cell? ⟨gb267, 0, none⟩ = some (.int .i64 0) := xc BK267 0 rfl; have hcz32_1 : w29.cell? ⟨gb267, 1, none⟩ = some (.slice none 0 0) := xc BK267 1 rfl; have hfz32_0 := blk_frozen BK267.out 0; have hfz32_1 := blk_frozen BK267.out 1; obtain ⟨Ao33, co33, eo33⟩ := Kd.R_slice HO266.out; subst eo33) | ((with_reducible refine gate_callee (f := 40) rfl ?_); refine goesL_ (some 40) rfl rfl Try.func40 (by kernel_rfl) rfl #[.agg #[.int .i64 t263, .slice Ao33 t264.length co33], .int .i64 a1, .string a2] rfl (by (try simp only [List.map_toArray, List.map_cons, List.map_nil]); first | done | rfl | (simp only [List.length_drop, List.length_take]; rfl)) ?_; (with_reducible refine (impl_DiskAppend.calls k t263 _ _ t264 a1 a2 t268 t269 t272 _ ?side1 ?side2 A14.out).mono ?_); (case side1 => refine (Kd.R_reads' (e := 134) (base := w.heap.size) (ok := fun k_ => ((True ∧ some k_ ≠ (.slice Ao21 t254.length co21 : Value).ownBlock) ∧ some k_ ≠ (.slice Ao26 t258.length co26 : Value).ownBlock)) (n := t264.length) (c := co33) ?_).2.2; exact (xrt (Kd.R_mono (Kd.R_far (p := ⟨gb267, 1, none⟩) (Kd.R_far (p := ⟨gb267, 0, none⟩) (Kd.R_types HO266.out BK267.out (by decide)) (fun _ hk => hk.2) (.int .i64 t263)) (fun _ hk => hk.2) (.slice Ao33 t264.length co33)) (fun _ h_ => h_.1)))); (case side2 => exact (Kd.R_reads' HO266.out).2.1); rintro e w34 ⟨v270, rfl, ho0, hb⟩; refine ⟨_, rfl, ?_⟩; have HO271 := aM (Kd.R_lower (Kd.R_new' (Kd.R_new' (Kd.R_new' ho0 (Kd.R_lt (xrt (Kd.R_mono (Kd.R_far (p := ⟨gb267, 1, none⟩) (Kd.R_far (p := ⟨gb267, 0, none⟩) (Kd.R_types HO256.out BK267.out (by decide)) (fun _ hk => hk.2) (.int .i64 t263)) (fun _ hk => hk.2) (.slice Ao33 t264.length co33)) (fun _ h_ => h_.1))))) (Kd.R_lt (xrt (Kd.R_mono (Kd.R_far (p := ⟨gb267, 1, none⟩) (Kd.R_far (p := ⟨gb267, 0, none⟩) (Kd.R_types HO260.out BK267.out (by decide)) (fun _ hk => hk.2) (.int .i64 t263)) (fun _ hk => hk.2) (.slice Ao33 t264.length co33)) (fun _ h_ => h_.1))))) (Kd.R_lt (xrt (Kd.R_mono (Kd.R_far (p := ⟨gb267, 1, none⟩) (Kd.R_far (p := ⟨gb267, 0, none⟩) (Kd.R_types HO266.out BK267.out (by decide)) (fun _ hk => hk.2) (.int .i64 t263)) (fun _ hk => hk.2) (.slice Ao33 t264.length co33)) (fun _ h_ => h_.1))))) (below_size xbg)); replace HO256 := aM (Kd.R_elder' (xrt (Kd.R_mono (Kd.R_far (p := ⟨gb267, 1, none⟩) (Kd.R_far (p := ⟨gb267, 0, none⟩) (Kd.R_types HO256.out BK267.out (by decide)) (fun _ hk => hk.2) (.int .i64 t263)) (fun _ hk => hk.2) (.slice Ao33 t264.length co33)) (fun _ h_ => h_.1))) (Kd.R_base ho0) hb); replace HO260 := aM (Kd.R_elder' (xrt (Kd.R_mono (Kd.R_far (p := ⟨gb267, 1, none⟩) (Kd.R_far (p := ⟨gb267, 0, none⟩) (Kd.R_types HO260.out BK267.out (by decide)) (fun _ hk => hk.2) (.int .i64 t263)) (fun _ hk => hk.2) (.slice Ao33 t264.length co33)) (fun _ h_ => h_.1))) (Kd.R_base ho0) hb); replace HO266 := aM (Kd.R_elder' (xrt (Kd.R_mono (Kd.R_far (p := ⟨gb267, 1, none⟩) (Kd.R_far (p := ⟨gb267, 0, none⟩) (Kd.R_types HO266.out BK267.out (by decide)) (fun _ hk => hk.2) (.int .i64 t263)) (fun _ hk => hk.2) (.slice Ao33 t264.length co33)) (fun _ h_ => h_.1))) (Kd.R_base ho0) hb); replace BK251 := aM (blk_below (g := gb251) (o := .cells #[.int .i64 a0_0, .slice A0_1 l0_1.length c0_1] 66 (0, 0)) (by (with_reducible repeat (first | refine blk_drewN ?_ _ | refine blk_drew ?_ | refine blk_alloc ?_ _)); refine blk_far ?_ NB251_267.out _; (with_reducible repeat (first | refine blk_drewN ?_ _ | refine blk_drew ?_ | refine blk_alloc ?_ _)); refine blk_far ?_ NB251_267.out _; (with_reducible repeat (first | refine blk_drewN ?_ _ | refine blk_drew ?_ | refine blk_alloc ?_ _)); exact BK251.out) hb); replace BK262 := aM (blk_below (g := gb262) (o := .cells #[.int .i64 t257, .slice Ao26 t258.length co26] 70 (0, 0)) (by (with_reducible repeat (first | refine blk_drewN ?_ _ | refine blk_drew ?_ | refine blk_alloc ?_ _)); refine blk_far ?_ NB262_267.out _; (with_reducible repeat (first | refine blk_drewN ?_ _ | refine blk_drew ?_ | refine blk_alloc ?_ _)); refine blk_far ?_ NB262_267.out _; (with_reducible repeat (first | refine blk_drewN ?_ _ | refine blk_drew ?_ | refine blk_alloc ?_ _)); exact BK262.out) hb); replace BK267 := aM (blk_below (g := gb267) (o := .cells #[.int .i64 t263, .slice Ao33 t264.length co33] 70 (0, 0)) (by (with_reducible repeat (first | refine blk_drewN ?_ _ | refine blk_drew ?_ | refine blk_alloc ?_ _)); refine blk_put (cs := #[.int .i64 t263, .slice none 0 0]) ?_ 1 _ rfl; (with_reducible repeat (first | refine blk_drewN ?_ _ | refine blk_drew ?_ | refine blk_alloc ?_ _)); refine blk_put (cs := #[.int .i64 0, .slice none 0 0]) ?_ 0 _ rfl; (with_reducible repeat (first | refine blk_drewN ?_ _ | refine blk_drew ?_ | refine blk_alloc ?_ _)); exact BK267.out) hb); replace HB := xbs hb; (try clear hb); (try clear hb2); (try clear hk); (try clear hi); (try clear ho0)) | ((with_reducible refine gate_dst (N := 11) rfl ?_); refine box_event ?hg (N := 11) ?hd (cs := #[.int .i64 0, .slice none 0 0]) (t := 70) ?hr ?_; (case hd => rfl); (case hg => rfl); (case hr => first | (go_simp; done) | (go_simp; rfl)); intro gb273 hg w35 hbox hb; replace HO256 := aM (Kd.R_below (xr HO256) hb); replace HO260 := aM (Kd.R_below (xr HO260) hb); replace HO266 := aM (Kd.R_below (xr HO266) hb); replace HO271 := aM (Kd.R_below (xr HO271) hb); have GW273 := aM (xge hg); have GE273 := aM (xge hg); replace HB := xbs hb; have NB251_273 := aM ((by rw [hg]; exact Nat.ne_of_lt (blk_lt (g := gb251) (o := .cells #[.int .i64 a0_0, .slice A0_1 l0_1.length c0_1] 66 (0, 0)) xblk) : gb251 ≠ gb273)); have NB273_251 := aM ((by rw [hg]; exact Nat.ne_of_gt (blk_lt (g := gb251) (o := .cells #[.int .i64 a0_0, .slice A0_1 l0_1.length c0_1] 66 (0, 0)) xblk) : gb273 ≠ gb251)); have NB262_273 := aM ((by rw [hg]; exact Nat.ne_of_lt (blk_lt (g := gb262) (o := .cells #[.int .i64 t257, .slice Ao26 t258.length co26] 70 (0, 0)) xblk) : gb262 ≠ gb273)); have NB273_262 := aM ((by rw [hg]; exact Nat.ne_of_gt (blk_lt (g := gb262) (o := .cells #[.int .i64 t257, .slice Ao26 t258.length co26] 70 (0, 0)) xblk) : gb273 ≠ gb262)); have NB267_273 := aM ((by rw [hg]; exact Nat.ne_of_lt (blk_lt (g := gb267) (o := .cells #[.int .i64 t263, .slice Ao33 t264.length co33] 70 (0, 0)) xblk) : gb267 ≠ gb273)); have NB273_267 := aM ((by rw [hg]; exact Nat.ne_of_gt (blk_lt (g := gb267) (o := .cells #[.int .i64 t263, .slice Ao33 t264.length co33] 70 (0, 0)) xblk) : gb273 ≠ gb267)); replace BK251 := xbb BK251 hb; replace BK262 := xbb BK262 hb; replace BK267 := xbb BK267 hb; have BK273 := aM (hbox); clear hb hbox hg; have hnb36 := NB273_251.out; have hnc36 := NB251_273.out; have hnb37 := NB273_262.out; have hnc37 := NB262_273.out; have hnb38 := NB273_267.out; have hnc38 := NB267_273.out; have hcz39_0 : w35.cell? ⟨gb273, 0, none⟩ = some (.int .i64 0) := xc BK273 0 rfl; have hcz39_1 : w35.cell? ⟨gb273, 1, none⟩ = some (.slice none 0 0) := xc BK273 1 rfl; have hfz39_0 := blk_frozen BK273.out 0; have hfz39_1 := blk_frozen BK273.out 1; obtain ⟨Ao40, co40, eo40⟩ := Kd.R_slice HO271.out; subst eo40))
   (try simp only [Act.put, List.setIfInBounds_toArray, List.set_cons_zero, List.set_cons_succ])
   go_cut [51] (fun v51 wc => ∃ (kq : Nat) (x51_14 : Bool), v51 = .bool x51_14 ∧ Aside0 (laws_FnExactDiskAppend.j0 kq a1 a2 t261 t272 x51_14 a0_0 l0_1 t257 t258 t263 t264 t268 t269 = some r) ∧ Aside0 (kq ≤ k) ∧ Aside0 (Kd.R k134 134 wc w.heap.size (fun k_ => some k_ ≠ ((.slice Ao33 t264.length co33) : Value).ownBlock ∧ some k_ ≠ ((.slice Ao40 t269.length co40) : Value).ownBlock) (.slice Ao26 t258.length co26) t258) ∧ Aside0 (Kd.R k134 134 wc w.heap.size (fun k_ => some k_ ≠ ((.slice Ao26 t258.length co26) : Value).ownBlock ∧ some k_ ≠ ((.slice Ao40 t269.length co40) : Value).ownBlock) (.slice Ao33 t264.length co33) t264) ∧ Aside0 (Kd.R k134 134 wc w.heap.size (fun k_ => some k_ ≠ ((.slice Ao26 t258.length co26) : Value).ownBlock ∧ some k_ ≠ ((.slice Ao33 t264.length co33) : Value).ownBlock) (.slice Ao40 t269.length co40) t269) ∧ Aside0 (wc.heap[gb251]? = some (.cells #[.int .i64 a0_0, (.slice A0_1 l0_1.length c0_1)] 66 (0, 0))) ∧ Aside0 (wc.heap[gb262]? = some (.cells #[.int .i64 t257, (.slice Ao26 t258.length co26)] 70 (0, 0))) ∧ Aside0 (wc.heap[gb267]? = some (.cells #[.int .i64 t263, (.slice Ao33 t264.length co33)] 70 (0, 0))) ∧ Aside0 (wc.heap[gb273]? = some (.cells #[.int .i64 t268, (.slice Ao40 t269.length co40)] 70 (0, 0))) ∧ Aside0 (Below w.heap.size w wc))
   case first =>
    have H := HC15.out; clear HC15; replace H := Option.bind_eq_some_iff.mp H
    obtain ⟨t274, A410, H⟩ := H
    replace H : (if t274 = true then (laws_FnExactDiskAppend.j0 k a1 a2 t261 t272 (t272 != t261) a0_0 l0_1 t257 t258 t263 t264 t268 t269) else (laws_FnExactDiskAppend.j0 k a1 a2 t261 t272 true a0_0 l0_1 t257 t258 t263 t264 t268 t269)) = some r := H; have A41 := aM A410; clear A410
    by_cases c42 : t274 = true
    ·subst c42
     have H1 : (laws_FnExactDiskAppend.j0 k a1 a2 t261 t272 (t272 != t261) a0_0 l0_1 t257 t258 t263 t264 t268 t269) = some r := by rw [if_pos rfl] at H; exact H
     clear H; have H := H1; clear H1
     have H' := aM H
     clear H; have hnb43 := NB273_251.out; have hnc43 := NB251_273.out; have hnb44 := NB273_262.out; have hnc44 := NB262_273.out; have hnb45 := NB273_267.out; have hnc45 := NB267_273.out; have hcz46_0 : w35.cell? ⟨gb273, 0, none⟩ = some (.int .i64 0) := xc BK273 0 rfl; have hcz46_1 : w35.cell? ⟨gb273, 1, none⟩ = some (.slice none 0 0) := xc BK273 1 rfl; have hfz46_0 := blk_frozen BK273.out 0; have hfz46_1 := blk_frozen BK273.out 1; have hnb47 := NB262_251.out; have hnc47 := NB251_262.out; have hnb48 := NB262_267.out; have hnc48 := NB267_262.out; have hcz49_0 : w35.cell? ⟨gb262, 0, none⟩ = some (.int .i64 t257) := xc BK262 0 rfl; have hcz49_1 : w35.cell? ⟨gb262, 1, none⟩ = some (.slice Ao26 t258.length co26) := xc BK262 1 rfl; have hfz49_0 := blk_frozen BK262.out 0; have hfz49_1 := blk_frozen BK262.out 1
     go_wp2_with (first | ((with_reducible refine gate_callee (f := 41) rfl ?_); refine goesL_ (some 45) rfl rfl Try.func41 (by kernel_rfl) rfl #[.agg #[.int .i64 t268, .slice Ao40 t269.length co40], .agg #[.int .i64 t257, .slice Ao26 t258.length co26]] rfl (by (try simp only [List.map_toArray, List.map_cons, List.map_nil]); first | done | rfl | (simp only [List.length_drop, List.length_take]; rfl)) ?_; (with_reducible refine (laws_eqDisk.calls k t268 _ _ t269 t257 _ _ t258 true _ ?side1 ?side2 ?side3 ?side4 A41.out).mono ?_); (case side1 => refine (Kd.R_reads' (e := 134) (base := w.heap.size) (ok := fun k_ => (((True ∧ some k_ ≠ (.slice Ao21 t254.length co21 : Value).ownBlock) ∧ some k_ ≠ (.slice Ao26 t258.length co26 : Value).ownBlock) ∧ some k_ ≠ (.slice Ao33 t264.length co33 : Value).ownBlock)) (n := t269.length) (c := co40) ?_).2.2; exact (xrt (Kd.R_mono (Kd.R_far (p := ⟨gb273, 1, none⟩) (Kd.R_far (p := ⟨gb273, 0, none⟩) (Kd.R_types HO271.out BK273.out (by decide)) (fun _ hk => hk.2) (.int .i64 t268)) (fun _ hk => hk.2) (.slice Ao40 t269.length co40)) (fun _ h_ => h_.1)))); (case side2 => exact (Kd.R_reads' HO271.out).2.1); (case side3 => refine (Kd.R_reads' (e := 134) (base := w.heap.size) (ok := fun k_ => (((True ∧ some k_ ≠ (.slice Ao21 t254.length co21 : Value).ownBlock) ∧ some k_ ≠ (.slice Ao33 t264.length co33 : Value).ownBlock) ∧ some k_ ≠ (.slice Ao40 t269.length co40 : Value).ownBlock)) (n := t258.length) (c := co26) ?_).2.2; exact (xrt (Kd.R_mono (Kd.R_far (p := ⟨gb273, 1, none⟩) (Kd.R_far (p := ⟨gb273, 0, none⟩) (Kd.R_types HO260.out BK273.out (by decide)) (fun _ hk => hk.2) (.int .i64 t268)) (fun _ hk => hk.2) (.slice Ao40 t269.length co40)) (fun _ h_ => h_.1)))); (case side4 => exact (Kd.R_reads' HO260.out).2.1); rintro e w50 ⟨rfl, hb⟩; refine ⟨_, rfl, ?_⟩; replace HO256 := aM (Kd.R_below (xrt (Kd.R_mono (Kd.R_far (p := ⟨gb273, 1, none⟩) (Kd.R_far (p := ⟨gb273, 0, none⟩) (Kd.R_types HO256.out BK273.out (by decide)) (fun _ hk => hk.2) (.int .i64 t268)) (fun _ hk => hk.2) (.slice Ao40 t269.length co40)) (fun _ h_ => h_.1))) hb); replace HO260 := aM (Kd.R_below (xrt (Kd.R_mono (Kd.R_far (p := ⟨gb273, 1, none⟩) (Kd.R_far (p := ⟨gb273, 0, none⟩) (Kd.R_types HO260.out BK273.out (by decide)) (fun _ hk => hk.2) (.int .i64 t268)) (fun _ hk => hk.2) (.slice Ao40 t269.length co40)) (fun _ h_ => h_.1))) hb); replace HO266 := aM (Kd.R_below (xrt (Kd.R_mono (Kd.R_far (p := ⟨gb273, 1, none⟩) (Kd.R_far (p := ⟨gb273, 0, none⟩) (Kd.R_types HO266.out BK273.out (by decide)) (fun _ hk => hk.2) (.int .i64 t268)) (fun _ hk => hk.2) (.slice Ao40 t269.length co40)) (fun _ h_ => h_.1))) hb); replace HO271 := aM (Kd.R_below (xrt (Kd.R_mono (Kd.R_far (p := ⟨gb273, 1, none⟩) (Kd.R_far (p := ⟨gb273, 0, none⟩) (Kd.R_types HO271.out BK273.out (by decide)) (fun _ hk => hk.2) (.int .i64 t268)) (fun _ hk => hk.2) (.slice Ao40 t269.length co40)) (fun _ h_ => h_.1))) hb); replace BK251 := aM (blk_below (g := gb251) (o := .cells #[.int .i64 a0_0, .slice A0_1 l0_1.length c0_1] 66 (0, 0)) (by (with_reducible repeat (first | refine blk_drewN ?_ _ | refine blk_drew ?_ | refine blk_alloc ?_ _)); refine blk_far ?_ NB251_273.out _; (with_reducible repeat (first | refine blk_drewN ?_ _ | refine blk_drew ?_ | refine blk_alloc ?_ _)); refine blk_far ?_ NB251_273.out _; (with_reducible repeat (first | refine blk_drewN ?_ _ | refine blk_drew ?_ | refine blk_alloc ?_ _)); exact BK251.out) hb); replace BK262 := aM (blk_below (g := gb262) (o := .cells #[.int .i64 t257, .slice Ao26 t258.length co26] 70 (0, 0)) (by (with_reducible repeat (first | refine blk_drewN ?_ _ | refine blk_drew ?_ | refine blk_alloc ?_ _)); refine blk_far ?_ NB262_273.out _; (with_reducible repeat (first | refine blk_drewN ?_ _ | refine blk_drew ?_ | refine blk_alloc ?_ _)); refine blk_far ?_ NB262_273.out _; (with_reducible repeat (first | refine blk_drewN ?_ _ | refine blk_drew ?_ | refine blk_alloc ?_ _)); exact BK262.out) hb); replace BK267 := aM (blk_below (g := gb267) (o := .cells #[.int .i64 t263, .slice Ao33 t264.length co33] 70 (0, 0)) (by (with_reducible repeat (first | refine blk_drewN ?_ _ | refine blk_drew ?_ | refine blk_alloc ?_ _)); refine blk_far ?_ NB267_273.out _; (with_reducible repeat (first | refine blk_drewN ?_ _ | refine blk_drew ?_ | refine blk_alloc ?_ _)); refine blk_far ?_ NB267_273.out _; (with_reducible repeat (first | refine blk_drewN ?_ _ | refine blk_drew ?_ | refine blk_alloc ?_ _)); exact BK267.out) hb); replace BK273 := aM (blk_below (g := gb273) (o := .cells #[.int .i64 t268, .slice Ao40 t269.length co40] 70 (0, 0)) (by (with_reducible repeat (first | refine blk_drewN ?_ _ | refine blk_drew ?_ | refine blk_alloc ?_ _)); refine blk_put (cs := #[.int .i64 t268, .slice none 0 0]) ?_ 1 _ rfl; (with_reducible repeat (first | refine blk_drewN ?_ _ | refine blk_drew ?_ | refine blk_alloc ?_ _)); refine blk_put (cs := #[.int .i64 0, .slice none 0 0]) ?_ 0 _ rfl; (with_reducible repeat (first | refine blk_drewN ?_ _ | refine blk_drew ?_ | refine blk_alloc ?_ _)); exact BK273.out) hb); replace HB := xbs hb; (try clear hb); (try clear hb2); (try clear hk); (try clear hi)))
     go_meet
     case rel => exact ⟨_, ((t272 != t261)), (by first | rfl | (simp; done) | (simp [*]; done)), H', ⟨by first | omega | exact Nat.le_refl _⟩, ⟨by (with_reducible repeat (first | apply Kd.R_alloc | apply Kd.R_drewN | apply Kd.R_drew)); exact Kd.R_mono HO260.out (fun _ hk => ⟨hk.1.2, hk.2⟩)⟩, ⟨by (with_reducible repeat (first | apply Kd.R_alloc | apply Kd.R_drewN | apply Kd.R_drew)); exact Kd.R_mono HO266.out (fun _ hk => ⟨hk.1.2, hk.2⟩)⟩, ⟨by (with_reducible repeat (first | apply Kd.R_alloc | apply Kd.R_drewN | apply Kd.R_drew)); exact Kd.R_mono HO271.out (fun _ hk => ⟨hk.1.2, hk.2⟩)⟩, ⟨xblk⟩, ⟨xblk⟩, ⟨xblk⟩, ⟨xblk⟩, ⟨xbg⟩⟩
    ·replace c42 := Bool.eq_false_iff.mpr c42
     subst c42
     have H1 : (laws_FnExactDiskAppend.j0 k a1 a2 t261 t272 true a0_0 l0_1 t257 t258 t263 t264 t268 t269) = some r := by rw [if_neg (show ¬ (false = true) by decide)] at H; exact H
     clear H; have H := H1; clear H1
     have H' := aM H
     clear H; have hnb51 := NB273_251.out; have hnc51 := NB251_273.out; have hnb52 := NB273_262.out; have hnc52 := NB262_273.out; have hnb53 := NB273_267.out; have hnc53 := NB267_273.out; have hcz54_0 : w35.cell? ⟨gb273, 0, none⟩ = some (.int .i64 0) := xc BK273 0 rfl; have hcz54_1 : w35.cell? ⟨gb273, 1, none⟩ = some (.slice none 0 0) := xc BK273 1 rfl; have hfz54_0 := blk_frozen BK273.out 0; have hfz54_1 := blk_frozen BK273.out 1; have hnb55 := NB262_251.out; have hnc55 := NB251_262.out; have hnb56 := NB262_267.out; have hnc56 := NB267_262.out; have hcz57_0 : w35.cell? ⟨gb262, 0, none⟩ = some (.int .i64 t257) := xc BK262 0 rfl; have hcz57_1 : w35.cell? ⟨gb262, 1, none⟩ = some (.slice Ao26 t258.length co26) := xc BK262 1 rfl; have hfz57_0 := blk_frozen BK262.out 0; have hfz57_1 := blk_frozen BK262.out 1
     go_wp2_with (first | ((with_reducible refine gate_callee (f := 41) rfl ?_); refine goesL_ (some 45) rfl rfl Try.func41 (by kernel_rfl) rfl #[.agg #[.int .i64 t268, .slice Ao40 t269.length co40], .agg #[.int .i64 t257, .slice Ao26 t258.length co26]] rfl (by (try simp only [List.map_toArray, List.map_cons, List.map_nil]); first | done | rfl | (simp only [List.length_drop, List.length_take]; rfl)) ?_; (with_reducible refine (laws_eqDisk.calls k t268 _ _ t269 t257 _ _ t258 false _ ?side1 ?side2 ?side3 ?side4 A41.out).mono ?_); (case side1 => refine (Kd.R_reads' (e := 134) (base := w.heap.size) (ok := fun k_ => (((True ∧ some k_ ≠ (.slice Ao21 t254.length co21 : Value).ownBlock) ∧ some k_ ≠ (.slice Ao26 t258.length co26 : Value).ownBlock) ∧ some k_ ≠ (.slice Ao33 t264.length co33 : Value).ownBlock)) (n := t269.length) (c := co40) ?_).2.2; exact (xrt (Kd.R_mono (Kd.R_far (p := ⟨gb273, 1, none⟩) (Kd.R_far (p := ⟨gb273, 0, none⟩) (Kd.R_types HO271.out BK273.out (by decide)) (fun _ hk => hk.2) (.int .i64 t268)) (fun _ hk => hk.2) (.slice Ao40 t269.length co40)) (fun _ h_ => h_.1)))); (case side2 => exact (Kd.R_reads' HO271.out).2.1); (case side3 => refine (Kd.R_reads' (e := 134) (base := w.heap.size) (ok := fun k_ => (((True ∧ some k_ ≠ (.slice Ao21 t254.length co21 : Value).ownBlock) ∧ some k_ ≠ (.slice Ao33 t264.length co33 : Value).ownBlock) ∧ some k_ ≠ (.slice Ao40 t269.length co40 : Value).ownBlock)) (n := t258.length) (c := co26) ?_).2.2; exact (xrt (Kd.R_mono (Kd.R_far (p := ⟨gb273, 1, none⟩) (Kd.R_far (p := ⟨gb273, 0, none⟩) (Kd.R_types HO260.out BK273.out (by decide)) (fun _ hk => hk.2) (.int .i64 t268)) (fun _ hk => hk.2) (.slice Ao40 t269.length co40)) (fun _ h_ => h_.1)))); (case side4 => exact (Kd.R_reads' HO260.out).2.1); rintro e w58 ⟨rfl, hb⟩; refine ⟨_, rfl, ?_⟩; replace HO256 := aM (Kd.R_below (xrt (Kd.R_mono (Kd.R_far (p := ⟨gb273, 1, none⟩) (Kd.R_far (p := ⟨gb273, 0, none⟩) (Kd.R_types HO256.out BK273.out (by decide)) (fun _ hk => hk.2) (.int .i64 t268)) (fun _ hk => hk.2) (.slice Ao40 t269.length co40)) (fun _ h_ => h_.1))) hb); replace HO260 := aM (Kd.R_below (xrt (Kd.R_mono (Kd.R_far (p := ⟨gb273, 1, none⟩) (Kd.R_far (p := ⟨gb273, 0, none⟩) (Kd.R_types HO260.out BK273.out (by decide)) (fun _ hk => hk.2) (.int .i64 t268)) (fun _ hk => hk.2) (.slice Ao40 t269.length co40)) (fun _ h_ => h_.1))) hb); replace HO266 := aM (Kd.R_below (xrt (Kd.R_mono (Kd.R_far (p := ⟨gb273, 1, none⟩) (Kd.R_far (p := ⟨gb273, 0, none⟩) (Kd.R_types HO266.out BK273.out (by decide)) (fun _ hk => hk.2) (.int .i64 t268)) (fun _ hk => hk.2) (.slice Ao40 t269.length co40)) (fun _ h_ => h_.1))) hb); replace HO271 := aM (Kd.R_below (xrt (Kd.R_mono (Kd.R_far (p := ⟨gb273, 1, none⟩) (Kd.R_far (p := ⟨gb273, 0, none⟩) (Kd.R_types HO271.out BK273.out (by decide)) (fun _ hk => hk.2) (.int .i64 t268)) (fun _ hk => hk.2) (.slice Ao40 t269.length co40)) (fun _ h_ => h_.1))) hb); replace BK251 := aM (blk_below (g := gb251) (o := .cells #[.int .i64 a0_0, .slice A0_1 l0_1.length c0_1] 66 (0, 0)) (by (with_reducible repeat (first | refine blk_drewN ?_ _ | refine blk_drew ?_ | refine blk_alloc ?_ _)); refine blk_far ?_ NB251_273.out _; (with_reducible repeat (first | refine blk_drewN ?_ _ | refine blk_drew ?_ | refine blk_alloc ?_ _)); refine blk_far ?_ NB251_273.out _; (with_reducible repeat (first | refine blk_drewN ?_ _ | refine blk_drew ?_ | refine blk_alloc ?_ _)); exact BK251.out) hb); replace BK262 := aM (blk_below (g := gb262) (o := .cells #[.int .i64 t257, .slice Ao26 t258.length co26] 70 (0, 0)) (by (with_reducible repeat (first | refine blk_drewN ?_ _ | refine blk_drew ?_ | refine blk_alloc ?_ _)); refine blk_far ?_ NB262_273.out _; (with_reducible repeat (first | refine blk_drewN ?_ _ | refine blk_drew ?_ | refine blk_alloc ?_ _)); refine blk_far ?_ NB262_273.out _; (with_reducible repeat (first | refine blk_drewN ?_ _ | refine blk_drew ?_ | refine blk_alloc ?_ _)); exact BK262.out) hb); replace BK267 := aM (blk_below (g := gb267) (o := .cells #[.int .i64 t263, .slice Ao33 t264.length co33] 70 (0, 0)) (by (with_reducible repeat (first | refine blk_drewN ?_ _ | refine blk_drew ?_ | refine blk_alloc ?_ _)); refine blk_far ?_ NB267_273.out _; (with_reducible repeat (first | refine blk_drewN ?_ _ | refine blk_drew ?_ | refine blk_alloc ?_ _)); refine blk_far ?_ NB267_273.out _; (with_reducible repeat (first | refine blk_drewN ?_ _ | refine blk_drew ?_ | refine blk_alloc ?_ _)); exact BK267.out) hb); replace BK273 := aM (blk_below (g := gb273) (o := .cells #[.int .i64 t268, .slice Ao40 t269.length co40] 70 (0, 0)) (by (with_reducible repeat (first | refine blk_drewN ?_ _ | refine blk_drew ?_ | refine blk_alloc ?_ _)); refine blk_put (cs := #[.int .i64 t268, .slice none 0 0]) ?_ 1 _ rfl; (with_reducible repeat (first | refine blk_drewN ?_ _ | refine blk_drew ?_ | refine blk_alloc ?_ _)); refine blk_put (cs := #[.int .i64 0, .slice none 0 0]) ?_ 0 _ rfl; (with_reducible repeat (first | refine blk_drewN ?_ _ | refine blk_drew ?_ | refine blk_alloc ?_ _)); exact BK273.out) hb); replace HB := xbs hb; (try clear hb); (try clear hb2); (try clear hk); (try clear hi)))
     go_meet
     case rel => exact ⟨_, (true), (by first | rfl | (simp; done) | (simp [*]; done)), H', ⟨by first | omega | exact Nat.le_refl _⟩, ⟨by (with_reducible repeat (first | apply Kd.R_alloc | apply Kd.R_drewN | apply Kd.R_drew)); exact Kd.R_mono HO260.out (fun _ hk => ⟨hk.1.2, hk.2⟩)⟩, ⟨by (with_reducible repeat (first | apply Kd.R_alloc | apply Kd.R_drewN | apply Kd.R_drew)); exact Kd.R_mono HO266.out (fun _ hk => ⟨hk.1.2, hk.2⟩)⟩, ⟨by (with_reducible repeat (first | apply Kd.R_alloc | apply Kd.R_drewN | apply Kd.R_drew)); exact Kd.R_mono HO271.out (fun _ hk => ⟨hk.1.2, hk.2⟩)⟩, ⟨xblk⟩, ⟨xblk⟩, ⟨xblk⟩, ⟨xblk⟩, ⟨xbg⟩⟩
   case rest =>
    clear HC15
    try clear c2
    try clear p2
    try clear c3
    try clear c4
    try clear c4b0
    try clear c4b1
    try clear c5
    try clear c6
    try clear c7
    try clear c7b0
    try clear c24
    try clear c30
    try clear c31
    try clear c36
    try clear c37
    try clear c38
    try clear c39
    try clear c40
    try clear c41
    try clear c42
    try clear c43
    try clear c44
    try clear c45
    try clear c47
    try clear c48
    try clear c51
    try clear c52
    try clear c53
    try clear c55
    try clear c56
    try clear hcz17_0
    try clear hcz17_1
    try clear hcz19_0
    try clear hcz19_1
    try clear hcz25_0
    try clear hcz25_1
    try clear hcz27_0
    try clear hcz27_1
    try clear hcz32_0
    try clear hcz32_1
    try clear hcz39_0
    try clear hcz39_1
    try clear hcz46_0
    try clear hcz46_1
    try clear hcz49_0
    try clear hcz49_1
    try clear hcz54_0
    try clear hcz54_1
    try clear hcz57_0
    try clear hcz57_1
    try clear hcz9_0
    try clear hcz9_1
    try clear hfz17_0
    try clear hfz17_1
    try clear hfz19_0
    try clear hfz19_1
    try clear hfz25_0
    try clear hfz25_1
    try clear hfz27_0
    try clear hfz27_1
    try clear hfz32_0
    try clear hfz32_1
    try clear hfz39_0
    try clear hfz39_1
    try clear hfz46_0
    try clear hfz46_1
    try clear hfz49_0
    try clear hfz49_1
    try clear hfz54_0
    try clear hfz54_1
    try clear hfz57_0
    try clear hfz57_1
    try clear hfz9_0
    try clear hfz9_1
    obtain ⟨kq, x51_14, rfl, HA, HJ14, HO_263001, HO_268001, HO_274001, BK251, BK262, BK267, BK273, HB⟩ := hcut
    cases kq with
    | zero => exact absurd HA.out (by simp [laws_FnExactDiskAppend.j0])
    | succ kj14 =>
     have H := HA.out; clear HA
     simp only [laws_FnExactDiskAppend.j0] at H
     by_cases c59 : x51_14 = true
     ·subst c59
      have H1 : (some false) = some r := by rw [if_pos rfl] at H; exact H
      clear H; have H := H1; clear H1
      obtain rfl := Option.some.inj H
      go_wp2
      go_ret
      exact ⟨by first | rfl | (simp [errW_none, errW_some] <;> rfl) | (simp [*, errW_none, errW_some] <;> rfl), xbg⟩
     ·replace c59 := Bool.eq_false_iff.mpr c59
      subst c59
      have H1 : ((laws_toDisk.f kj14 a0_0 l0_1).bind fun bt275 => ((laws_eqDisk.f kj14 t263 t264 bt275.1 bt275.2).bind fun t279 => (if t279 = true then ((laws_markDisk.f kj14 t263 t264 1).bind fun bt280 => (if bt280.1 < 0 then (laws_FnExactDiskAppend.j1 kj14 a1 a2 t261 true a0_0 l0_1 t257 t258 t268 t269) else ((laws_eqDisk.f kj14 t268 t269 t257 t258).bind fun t282 => (if t282 = true then (laws_FnExactDiskAppend.j1 kj14 a1 a2 t261 (t272 != t261) a0_0 l0_1 t257 t258 t268 t269) else (laws_FnExactDiskAppend.j1 kj14 a1 a2 t261 true a0_0 l0_1 t257 t258 t268 t269))))) else (some false)))) = some r := by rw [if_neg (show ¬ (false = true) by decide)] at H; exact H
      clear H; have H := H1; clear H1; replace H := Option.bind_eq_some_iff.mp H
      obtain ⟨⟨t275, t276⟩, A600, H⟩ := H
      replace H : ((laws_eqDisk.f kj14 t263 t264 t275 t276).bind fun t279 => (if t279 = true then ((laws_markDisk.f kj14 t263 t264 1).bind fun bt280 => (if bt280.1 < 0 then (laws_FnExactDiskAppend.j1 kj14 a1 a2 t261 true a0_0 l0_1 t257 t258 t268 t269) else ((laws_eqDisk.f kj14 t268 t269 t257 t258).bind fun t282 => (if t282 = true then (laws_FnExactDiskAppend.j1 kj14 a1 a2 t261 (t272 != t261) a0_0 l0_1 t257 t258 t268 t269) else (laws_FnExactDiskAppend.j1 kj14 a1 a2 t261 true a0_0 l0_1 t257 t258 t268 t269))))) else (some false))) = some r := H; have A60 := aM A600; clear A600; replace H := Option.bind_eq_some_iff.mp H
      obtain ⟨t279, A610, H⟩ := H
      replace H : (if t279 = true then ((laws_markDisk.f kj14 t263 t264 1).bind fun bt280 => (if bt280.1 < 0 then (laws_FnExactDiskAppend.j1 kj14 a1 a2 t261 true a0_0 l0_1 t257 t258 t268 t269) else ((laws_eqDisk.f kj14 t268 t269 t257 t258).bind fun t282 => (if t282 = true then (laws_FnExactDiskAppend.j1 kj14 a1 a2 t261 (t272 != t261) a0_0 l0_1 t257 t258 t268 t269) else (laws_FnExactDiskAppend.j1 kj14 a1 a2 t261 true a0_0 l0_1 t257 t258 t268 t269))))) else (some false)) = some r := H; have A61 := aM A610; clear A610
      by_cases c62 : t279 = true
      ·subst c62
       have H1 : ((laws_markDisk.f kj14 t263 t264 1).bind fun bt280 => (if bt280.1 < 0 then (laws_FnExactDiskAppend.j1 kj14 a1 a2 t261 true a0_0 l0_1 t257 t258 t268 t269) else ((laws_eqDisk.f kj14 t268 t269 t257 t258).bind fun t282 => (if t282 = true then (laws_FnExactDiskAppend.j1 kj14 a1 a2 t261 (t272 != t261) a0_0 l0_1 t257 t258 t268 t269) else (laws_FnExactDiskAppend.j1 kj14 a1 a2 t261 true a0_0 l0_1 t257 t258 t268 t269))))) = some r := by rw [if_pos rfl] at H; exact H
       clear H; have H := H1; clear H1; replace H := Option.bind_eq_some_iff.mp H
       obtain ⟨⟨t280, t281⟩, A630, H⟩ := H
       replace H : (if t280 < 0 then (laws_FnExactDiskAppend.j1 kj14 a1 a2 t261 true a0_0 l0_1 t257 t258 t268 t269) else ((laws_eqDisk.f kj14 t268 t269 t257 t258).bind fun t282 => (if t282 = true then (laws_FnExactDiskAppend.j1 kj14 a1 a2 t261 (t272 != t261) a0_0 l0_1 t257 t258 t268 t269) else (laws_FnExactDiskAppend.j1 kj14 a1 a2 t261 true a0_0 l0_1 t257 t258 t268 t269)))) = some r := H; have A63 := aM A630; clear A630; have HC64 := aM H; clear H
       try go_wp2
       replace HO_263001 := aM (Kd.R_drew HO_263001.out); replace HO_268001 := aM (Kd.R_drew HO_268001.out); replace HO_274001 := aM (Kd.R_drew HO_274001.out); replace BK251 := aM (blk_drew BK251.out); replace BK262 := aM (blk_drew BK262.out); replace BK267 := aM (blk_drew BK267.out); replace BK273 := aM (blk_drew BK273.out); replace HB := aM (below_drew1 HB.out)
       refine start_ (n := 5) (S := fun w' => w'.cell? ⟨gb267, 0, none⟩ = some (.int .i64 t263) ∧ w'.cell? ⟨gb267, 1, none⟩ = some (.slice Ao33 t264.length co33) ∧ w'.cell? ⟨gb251, 0, none⟩ = some (.int .i64 a0_0) ∧ w'.cell? ⟨gb251, 1, none⟩ = some (.slice A0_1 l0_1.length c0_1)) (ds := []) #[false, false, false, false, false] (by kernel_rfl) rfl rfl ⟨xc BK267 0 rfl, xc BK267 1 rfl, xc BK251 0 rfl, xc BK251 1 rfl⟩ (fun hHeld => ?_)
       generalize wc.drew = w65 at HO_263001 HO_268001 HO_274001 BK251 BK262 BK267 BK273 HB hHeld ⊢
       refine take_ (i := 0) (N := some 52) (v := ?_) (a' := ?_) #[true, false, false, false, false] rfl rfl (by kernel_rfl) (fun _ _ _ h => h) (Or.inl ⟨by rfl, ?_⟩) hHeld ?_ ?_
       rotate_left
       ·rintro w' ⟨s0, s1, s2, s3⟩
        go_simp
        with_reducible rfl
       rotate_left
       ·simp only [Act.put, List.setIfInBounds_toArray, List.set_cons_zero, List.set_cons_succ, i64_w, i32_w]
        rfl
       refine take_ (i := 1) (N := some 53) (v := ?_) (a' := ?_) #[true, true, false, false, false] rfl rfl (by kernel_rfl) (fun _ _ _ h => h) (Or.inl ⟨by rfl, ?_⟩) hHeld ?_ ?_
       rotate_left
       ·rintro w' ⟨s0, s1, s2, s3⟩
        go_simp
        with_reducible rfl
       rotate_left
       ·simp only [Act.put, List.setIfInBounds_toArray, List.set_cons_zero, List.set_cons_succ, i64_w, i32_w]
        rfl
       refine one_ (i := 2) (N := some 54) #[true, true, true, false, false] rfl rfl (by kernel_rfl) (by decide) (fun K hK => ?_)
       refine goesY Try.func39 #[.agg #[.int .i64 a0_0, .slice A0_1 l0_1.length c0_1]] ?_
       with_reducible refine (laws_toDisk.calls kj14 a0_0 _ _ l0_1 t275 t276 _ ?side1 ?side2 A60.out).mono ?_
       (case side1 => exact xcb HR0_1)
       (case side2 => exact HC0_1.out)
       rintro e w66 ⟨v277, rfl, ho0, hb⟩
       refine ⟨_, rfl, ?_⟩
       have HO278 := aM (Kd.R_lower (Kd.R_new' (Kd.R_new' (Kd.R_new' ho0 (Kd.R_lt (xr HO_263001))) (Kd.R_lt (xr HO_268001))) (Kd.R_lt (xr HO_274001))) (below_size xbg)); replace HO_263001 := aM (Kd.R_elder' (xr HO_263001) (Kd.R_base ho0) hb); replace HO_268001 := aM (Kd.R_elder' (xr HO_268001) (Kd.R_base ho0) hb); replace HO_274001 := aM (Kd.R_elder' (xr HO_274001) (Kd.R_base ho0) hb); replace BK251 := xbb BK251 hb; replace BK262 := xbb BK262 hb; replace BK267 := xbb BK267 hb; replace BK273 := xbb BK273 hb; replace HB := xbs hb
       (try clear hb); (try clear hb2); (try clear hk); (try clear hi); (try clear ho0)
       obtain ⟨Ao67, co67, eo67⟩ := Kd.R_slice HO278.out
       (first | subst eo67 | (injection eo67 with f1_ f2_ f3_; have f4_ := f1_.symm; have f5_ := f3_.symm; clear f1_ f2_ f3_; subst f4_; subst f5_))
       refine hK.out _ _ ⟨xc BK267 0 rfl, xc BK267 1 rfl, xc BK251 0 rfl, xc BK251 1 rfl⟩ (fun hHeld => ?_)
       clear hK K
       refine norm_ (a' := ?_) ?_ ?_
       rotate_left
       ·show Act.put _ (some 54) _ = _
        simp only [Act.put, List.setIfInBounds_toArray, List.set_cons_zero, List.set_cons_succ, i64_w, i32_w]
        rfl
       refine one_ (i := 3) (N := some 55) #[true, true, true, true, false] rfl rfl (by kernel_rfl) (by decide) (fun K hK => ?_)
       refine goesY Try.func41 #[.agg #[.int .i64 t263, .slice Ao33 t264.length co33], .agg #[.int .i64 t275, .slice Ao67 t276.length co67]] ?_
       with_reducible refine (laws_eqDisk.calls kj14 t263 _ _ t264 t275 _ _ t276 true _ ?side1 ?side2 ?side3 ?side4 A61.out).mono ?_
       (case side1 => repeat (first | exact (Kd.R_reads' HO_268001.out).2.2 | (with_reducible refine Kd.C_alloc ?_ _) | (with_reducible refine Kd.C_drewN ?_ _) | (with_reducible refine Kd.C_drew ?_)))
       (case side2 => exact (Kd.R_reads' HO_268001.out).2.1)
       (case side3 => repeat (first | exact (Kd.R_reads' HO278.out).2.2 | (with_reducible refine Kd.C_alloc ?_ _) | (with_reducible refine Kd.C_drewN ?_ _) | (with_reducible refine Kd.C_drew ?_)))
       (case side4 => exact (Kd.R_reads' HO278.out).2.1)
       rintro e w68 ⟨rfl, hb⟩
       refine ⟨_, rfl, ?_⟩
       replace HO_263001 := aM (Kd.R_below (xr HO_263001) hb); replace HO_268001 := aM (Kd.R_below (xr HO_268001) hb); replace HO_274001 := aM (Kd.R_below (xr HO_274001) hb); replace HO278 := aM (Kd.R_below (xr HO278) hb); replace BK251 := xbb BK251 hb; replace BK262 := xbb BK262 hb; replace BK267 := xbb BK267 hb; replace BK273 := xbb BK273 hb; replace HB := xbs hb
       (try clear hb); (try clear hb2); (try clear hk); (try clear hi)
       refine hK.out _ _ ⟨xc BK267 0 rfl, xc BK267 1 rfl, xc BK251 0 rfl, xc BK251 1 rfl⟩ (fun hHeld => ?_)
       clear hK K
       refine norm_ (a' := ?_) ?_ ?_
       rotate_left
       ·show Act.put _ (some 55) _ = _
        simp only [Act.put, List.setIfInBounds_toArray, List.set_cons_zero, List.set_cons_succ, i64_w, i32_w]
        rfl
       refine pure_ (i := 4) (N := some 56) (v := ?_) (a' := ?_) #[true, true, true, true, true] rfl rfl (by kernel_rfl) (fun _ _ _ h => h) (Or.inl ⟨by rfl, ?_⟩) ?_ ?_
       rotate_left
       ·intro w'
        go_simp
        with_reducible rfl
       rotate_left
       ·simp only [Act.put, List.setIfInBounds_toArray, List.set_cons_zero, List.set_cons_succ, i64_w, i32_w]
        rfl
       refine done_ (by kernel_rfl) ?_
       have hnb69 := NB267_251.out; have hnc69 := NB251_267.out; have hnb70 := NB267_262.out; have hnc70 := NB262_267.out; have hnb71 := NB267_273.out; have hnc71 := NB273_267.out; have hcz72_0 : w68.cell? ⟨gb267, 0, none⟩ = some (.int .i64 t263) := xc BK267 0 rfl; have hcz72_1 : w68.cell? ⟨gb267, 1, none⟩ = some (.slice Ao33 t264.length co33) := xc BK267 1 rfl; have hfz72_0 := blk_frozen BK267.out 0; have hfz72_1 := blk_frozen BK267.out 1
       go_upto_region 16 with (first | ((with_reducible refine gate_callee (f := 42) rfl ?_); refine goesL_ (some 59) rfl rfl Try.func42 (by kernel_rfl) rfl #[.agg #[.int .i64 t263, .slice Ao33 t264.length co33], .int .i64 1] rfl (by (try simp only [List.map_toArray, List.map_cons, List.map_nil]); first | done | rfl | (simp only [List.length_drop, List.length_take]; rfl)) ?_; (with_reducible refine (laws_markDisk.calls kj14 t263 (fun k_ => some k_ = (.slice Ao33 t264.length co33 : Value).ownBlock) (.slice Ao33 t264.length co33) t264 1 t280 t281 w _ ?side1 ?side2 A63.out).mono ?_); (case side1 => repeat (first | (with_reducible first | exact HB.out | apply below_alloc | apply pw_below_drewN | apply below_drew1 | refine below_set ?_ GE251.out | refine below_set ?_ GE262.out | refine below_set ?_ GE267.out | refine below_set ?_ GE273.out) | exact HB.out)); (case side2 => exact Kd.R_tight rfl HO_268001.out); rintro e w73 ⟨rfl, hy0, hb, hkp⟩; refine ⟨_, rfl, ?_⟩; have n0_ := aM (Kd.R_mono (ok' := fun k_ => some k_ ≠ (.slice Ao33 t264.length co33 : Value).ownBlock ∧ some k_ ≠ (.slice Ao40 t269.length co40 : Value).ownBlock ∧ some k_ ≠ (.slice Ao67 t276.length co67 : Value).ownBlock) (Kd.R_keptB (HO_263001.out) hkp (fun k_ hk_ hs_ => (hk_.1.1) hs_)) (fun k_ hk_ => ⟨hk_.1.1.1, hk_.1.1.2, hk_.1.2⟩)); have n1_ := aM (Kd.R_reok rfl hy0 (fun k_ e_ => HO_268001.out.1 k_ e_)); have n2_ := aM (Kd.R_mono (ok' := fun k_ => some k_ ≠ (.slice Ao26 t258.length co26 : Value).ownBlock ∧ some k_ ≠ (.slice Ao33 t264.length co33 : Value).ownBlock ∧ some k_ ≠ (.slice Ao67 t276.length co67 : Value).ownBlock) (Kd.R_keptB (HO_274001.out) hkp (fun k_ hk_ hs_ => (hk_.1.2) hs_)) (fun k_ hk_ => ⟨hk_.1.1.1, hk_.1.1.2, hk_.1.2⟩)); have n3_ := aM (blk_kept xblk hkp (fun hs_ => (fun e_ => (Kd.R_ne HO_268001.out BK251.out (by decide)) e_) hs_)); have n4_ := aM (blk_kept xblk hkp (fun hs_ => (fun e_ => (Kd.R_ne HO_268001.out BK262.out (by decide)) e_) hs_)); have n5_ := aM (blk_kept xblk hkp (fun hs_ => (fun e_ => (Kd.R_ne HO_268001.out BK267.out (by decide)) e_) hs_)); have n6_ := aM (blk_kept xblk hkp (fun hs_ => (fun e_ => (Kd.R_ne HO_268001.out BK273.out (by decide)) e_) hs_)); have n7_ := aM (Kd.R_mono (ok' := fun k_ => some k_ ≠ (.slice Ao26 t258.length co26 : Value).ownBlock ∧ some k_ ≠ (.slice Ao33 t264.length co33 : Value).ownBlock ∧ some k_ ≠ (.slice Ao40 t269.length co40 : Value).ownBlock) (Kd.R_keptB (HO278.out) hkp (fun k_ hk_ hs_ => (hk_.1.2) hs_)) (fun k_ hk_ => ⟨hk_.1.1.1.2, hk_.1.1.2, hk_.1.2⟩)); have n8_ := aM (hb); clear HO_263001; clear HO_268001; clear HO_274001; clear BK251; clear BK262; clear BK267; clear BK273; clear HO278; clear HB; have HO_263001 := n0_; have HO_268001 := n1_; have HO_274001 := n2_; have BK251 := n3_; have BK262 := n4_; have BK267 := n5_; have BK273 := n6_; have HO278 := n7_; have HB := n8_; clear n0_ n1_ n2_ n3_ n4_ n5_ n6_ n7_ n8_; (try clear hb); (try clear hkp); (try clear hy0)))
       (try simp only [Act.put, List.setIfInBounds_toArray, List.set_cons_zero, List.set_cons_succ])
       go_cut [72] (fun v72 wc => ∃ (kq : Nat) (x72_63 : Bool), v72 = .bool x72_63 ∧ Aside0 (laws_FnExactDiskAppend.j1 kq a1 a2 t261 x72_63 a0_0 l0_1 t257 t258 t268 t269 = some r) ∧ Aside0 (kq ≤ kj14) ∧ Aside0 (Kd.R k134 134 wc w.heap.size (fun k_ => some k_ ≠ ((.slice Ao33 t264.length co33) : Value).ownBlock ∧ some k_ ≠ ((.slice Ao40 t269.length co40) : Value).ownBlock) (.slice Ao26 t258.length co26) t258) ∧ Aside0 (Kd.R k134 134 wc w.heap.size (fun k_ => some k_ ≠ ((.slice Ao26 t258.length co26) : Value).ownBlock ∧ some k_ ≠ ((.slice Ao40 t269.length co40) : Value).ownBlock) (.slice Ao33 t264.length co33) t281) ∧ Aside0 (Kd.R k134 134 wc w.heap.size (fun k_ => some k_ ≠ ((.slice Ao26 t258.length co26) : Value).ownBlock ∧ some k_ ≠ ((.slice Ao33 t264.length co33) : Value).ownBlock) (.slice Ao40 t269.length co40) t269) ∧ Aside0 (wc.heap[gb251]? = some (.cells #[.int .i64 a0_0, (.slice A0_1 l0_1.length c0_1)] 66 (0, 0))) ∧ Aside0 (wc.heap[gb262]? = some (.cells #[.int .i64 t257, (.slice Ao26 t258.length co26)] 70 (0, 0))) ∧ Aside0 (wc.heap[gb267]? = some (.cells #[.int .i64 t263, (.slice Ao33 t264.length co33)] 70 (0, 0))) ∧ Aside0 (wc.heap[gb273]? = some (.cells #[.int .i64 t268, (.slice Ao40 t269.length co40)] 70 (0, 0))) ∧ Aside0 (Below w.heap.size w wc))
       case first =>
        have H := HC64.out; clear HC64
        by_cases c74 : t280 < 0
        ·rw [if_pos c74] at H
         have c74b0 : decide (t280 < 0) = true := decide_eq_true c74; clear c74
         (first | rw [c74b0] | (simp only [i64_w, i32_w]; rw [c74b0]) | skip)
         have H' := aM H
         clear H
         go_wp2
         go_meet
         case rel => exact ⟨_, (true), (by first | rfl | (simp; done) | (simp [*]; done)), H', ⟨by have := HJ14.out; first | omega | exact Nat.le_refl _⟩, ⟨by (with_reducible repeat (first | apply Kd.R_alloc | apply Kd.R_drewN | apply Kd.R_drew)); exact Kd.R_mono HO_263001.out (fun _ hk => ⟨hk.1, hk.2.1⟩)⟩, ⟨by (with_reducible repeat (first | apply Kd.R_alloc | apply Kd.R_drewN | apply Kd.R_drew)); exact Kd.R_mono HO_268001.out (fun _ hk => ⟨hk.1.1, hk.1.2⟩)⟩, ⟨by (with_reducible repeat (first | apply Kd.R_alloc | apply Kd.R_drewN | apply Kd.R_drew)); exact Kd.R_mono HO_274001.out (fun _ hk => ⟨hk.1, hk.2.1⟩)⟩, ⟨xblk⟩, ⟨xblk⟩, ⟨xblk⟩, ⟨xblk⟩, ⟨xbg⟩⟩
        ·rw [if_neg c74] at H
         have c74b0 : decide (t280 < 0) = false := decide_eq_false c74; clear c74
         (first | rw [c74b0] | (simp only [i64_w, i32_w]; rw [c74b0]) | skip)
         replace H := Option.bind_eq_some_iff.mp H
         obtain ⟨t282, A750, H⟩ := H
         replace H : (if t282 = true then (laws_FnExactDiskAppend.j1 kj14 a1 a2 t261 (t272 != t261) a0_0 l0_1 t257 t258 t268 t269) else (laws_FnExactDiskAppend.j1 kj14 a1 a2 t261 true a0_0 l0_1 t257 t258 t268 t269)) = some r := H; have A75 := aM A750; clear A750
         by_cases c76 : t282 = true
         ·subst c76
          have H1 : (laws_FnExactDiskAppend.j1 kj14 a1 a2 t261 (t272 != t261) a0_0 l0_1 t257 t258 t268 t269) = some r := by rw [if_pos rfl] at H; exact H
          clear H; have H := H1; clear H1
          have H' := aM H
          clear H; have hnb77 := NB273_251.out; have hnc77 := NB251_273.out; have hnb78 := NB273_262.out; have hnc78 := NB262_273.out; have hnb79 := NB273_267.out; have hnc79 := NB267_273.out; have hcz80_0 : w73.cell? ⟨gb273, 0, none⟩ = some (.int .i64 t268) := xc BK273 0 rfl; have hcz80_1 : w73.cell? ⟨gb273, 1, none⟩ = some (.slice Ao40 t269.length co40) := xc BK273 1 rfl; have hfz80_0 := blk_frozen BK273.out 0; have hfz80_1 := blk_frozen BK273.out 1; have hnb81 := NB262_251.out; have hnc81 := NB251_262.out; have hnb82 := NB262_267.out; have hnc82 := NB267_262.out; have hcz83_0 : w73.cell? ⟨gb262, 0, none⟩ = some (.int .i64 t257) := xc BK262 0 rfl; have hcz83_1 : w73.cell? ⟨gb262, 1, none⟩ = some (.slice Ao26 t258.length co26) := xc BK262 1 rfl; have hfz83_0 := blk_frozen BK262.out 0; have hfz83_1 := blk_frozen BK262.out 1
          go_wp2_with (first | (go_at_call 41; (with_reducible refine (laws_eqDisk.calls kj14 t268 _ _ t269 t257 _ _ t258 true _ ?side1 ?side2 ?side3 ?side4 A75.out).mono ?_); (case side1 => repeat (first | exact (Kd.R_reads' HO_274001.out).2.2 | (with_reducible refine Kd.C_alloc ?_ _) | (with_reducible refine Kd.C_drewN ?_ _) | (with_reducible refine Kd.C_drew ?_))); (case side2 => exact (Kd.R_reads' HO_274001.out).2.1); (case side3 => repeat (first | exact (Kd.R_reads' HO_263001.out).2.2 | (with_reducible refine Kd.C_alloc ?_ _) | (with_reducible refine Kd.C_drewN ?_ _) | (with_reducible refine Kd.C_drew ?_))); (case side4 => exact (Kd.R_reads' HO_263001.out).2.1); rintro e w84 ⟨rfl, hb⟩; replace HO_263001 := aM (Kd.R_below (xr HO_263001) hb); replace HO_268001 := aM (Kd.R_below (xr HO_268001) hb); replace HO_274001 := aM (Kd.R_below (xr HO_274001) hb); replace HO278 := aM (Kd.R_below (xr HO278) hb); replace BK251 := xbb BK251 hb; replace BK262 := xbb BK262 hb; replace BK267 := xbb BK267 hb; replace BK273 := xbb BK273 hb; replace HB := xbs hb; (try clear hb); (try clear hb2); (try clear hk); (try clear hi)))
          go_meet
          case rel => exact ⟨_, ((t272 != t261)), (by first | rfl | (simp; done) | (simp [*]; done)), H', ⟨by have := HJ14.out; first | omega | exact Nat.le_refl _⟩, ⟨by (with_reducible repeat (first | apply Kd.R_alloc | apply Kd.R_drewN | apply Kd.R_drew)); exact Kd.R_mono HO_263001.out (fun _ hk => ⟨hk.1, hk.2.1⟩)⟩, ⟨by (with_reducible repeat (first | apply Kd.R_alloc | apply Kd.R_drewN | apply Kd.R_drew)); exact Kd.R_mono HO_268001.out (fun _ hk => ⟨hk.1.1, hk.1.2⟩)⟩, ⟨by (with_reducible repeat (first | apply Kd.R_alloc | apply Kd.R_drewN | apply Kd.R_drew)); exact Kd.R_mono HO_274001.out (fun _ hk => ⟨hk.1, hk.2.1⟩)⟩, ⟨xblk⟩, ⟨xblk⟩, ⟨xblk⟩, ⟨xblk⟩, ⟨xbg⟩⟩
         ·replace c76 := Bool.eq_false_iff.mpr c76
          subst c76
          have H1 : (laws_FnExactDiskAppend.j1 kj14 a1 a2 t261 true a0_0 l0_1 t257 t258 t268 t269) = some r := by rw [if_neg (show ¬ (false = true) by decide)] at H; exact H
          clear H; have H := H1; clear H1
          have H' := aM H
          clear H; have hnb85 := NB273_251.out; have hnc85 := NB251_273.out; have hnb86 := NB273_262.out; have hnc86 := NB262_273.out; have hnb87 := NB273_267.out; have hnc87 := NB267_273.out; have hcz88_0 : w73.cell? ⟨gb273, 0, none⟩ = some (.int .i64 t268) := xc BK273 0 rfl; have hcz88_1 : w73.cell? ⟨gb273, 1, none⟩ = some (.slice Ao40 t269.length co40) := xc BK273 1 rfl; have hfz88_0 := blk_frozen BK273.out 0; have hfz88_1 := blk_frozen BK273.out 1; have hnb89 := NB262_251.out; have hnc89 := NB251_262.out; have hnb90 := NB262_267.out; have hnc90 := NB267_262.out; have hcz91_0 : w73.cell? ⟨gb262, 0, none⟩ = some (.int .i64 t257) := xc BK262 0 rfl; have hcz91_1 : w73.cell? ⟨gb262, 1, none⟩ = some (.slice Ao26 t258.length co26) := xc BK262 1 rfl; have hfz91_0 := blk_frozen BK262.out 0; have hfz91_1 := blk_frozen BK262.out 1
          go_wp2_with (first | (go_at_call 41; (with_reducible refine (laws_eqDisk.calls kj14 t268 _ _ t269 t257 _ _ t258 false _ ?side1 ?side2 ?side3 ?side4 A75.out).mono ?_); (case side1 => repeat (first | exact (Kd.R_reads' HO_274001.out).2.2 | (with_reducible refine Kd.C_alloc ?_ _) | (with_reducible refine Kd.C_drewN ?_ _) | (with_reducible refine Kd.C_drew ?_))); (case side2 => exact (Kd.R_reads' HO_274001.out).2.1); (case side3 => repeat (first | exact (Kd.R_reads' HO_263001.out).2.2 | (with_reducible refine Kd.C_alloc ?_ _) | (with_reducible refine Kd.C_drewN ?_ _) | (with_reducible refine Kd.C_drew ?_))); (case side4 => exact (Kd.R_reads' HO_263001.out).2.1); rintro e w92 ⟨rfl, hb⟩; replace HO_263001 := aM (Kd.R_below (xr HO_263001) hb); replace HO_268001 := aM (Kd.R_below (xr HO_268001) hb); replace HO_274001 := aM (Kd.R_below (xr HO_274001) hb); replace HO278 := aM (Kd.R_below (xr HO278) hb); replace BK251 := xbb BK251 hb; replace BK262 := xbb BK262 hb; replace BK267 := xbb BK267 hb; replace BK273 := xbb BK273 hb; replace HB := xbs hb; (try clear hb); (try clear hb2); (try clear hk); (try clear hi)))
          go_meet
          case rel => exact ⟨_, (true), (by first | rfl | (simp; done) | (simp [*]; done)), H', ⟨by have := HJ14.out; first | omega | exact Nat.le_refl _⟩, ⟨by (with_reducible repeat (first | apply Kd.R_alloc | apply Kd.R_drewN | apply Kd.R_drew)); exact Kd.R_mono HO_263001.out (fun _ hk => ⟨hk.1, hk.2.1⟩)⟩, ⟨by (with_reducible repeat (first | apply Kd.R_alloc | apply Kd.R_drewN | apply Kd.R_drew)); exact Kd.R_mono HO_268001.out (fun _ hk => ⟨hk.1.1, hk.1.2⟩)⟩, ⟨by (with_reducible repeat (first | apply Kd.R_alloc | apply Kd.R_drewN | apply Kd.R_drew)); exact Kd.R_mono HO_274001.out (fun _ hk => ⟨hk.1, hk.2.1⟩)⟩, ⟨xblk⟩, ⟨xblk⟩, ⟨xblk⟩, ⟨xblk⟩, ⟨xbg⟩⟩
       case rest =>
        clear HC64
        try clear c2
        try clear p2
        try clear c3
        try clear c4
        try clear c4b0
        try clear c4b1
        try clear c5
        try clear c6
        try clear c7
        try clear c7b0
        try clear c8
        try clear c9
        try clear c24
        try clear c30
        try clear c31
        try clear c36
        try clear c37
        try clear c38
        try clear c39
        try clear c40
        try clear c41
        try clear c42
        try clear c43
        try clear c44
        try clear c45
        try clear c47
        try clear c48
        try clear c51
        try clear c52
        try clear c53
        try clear c55
        try clear c56
        try clear c59
        try clear c62
        try clear c69
        try clear c70
        try clear c71
        try clear c74
        try clear c74b0
        try clear c76
        try clear c77
        try clear c78
        try clear c79
        try clear c81
        try clear c82
        try clear c85
        try clear c86
        try clear c87
        try clear c89
        try clear c90
        try clear hcz17_0
        try clear hcz17_1
        try clear hcz19_0
        try clear hcz19_1
        try clear hcz25_0
        try clear hcz25_1
        try clear hcz27_0
        try clear hcz27_1
        try clear hcz32_0
        try clear hcz32_1
        try clear hcz39_0
        try clear hcz39_1
        try clear hcz46_0
        try clear hcz46_1
        try clear hcz49_0
        try clear hcz49_1
        try clear hcz54_0
        try clear hcz54_1
        try clear hcz57_0
        try clear hcz57_1
        try clear hcz72_0
        try clear hcz72_1
        try clear hcz80_0
        try clear hcz80_1
        try clear hcz83_0
        try clear hcz83_1
        try clear hcz88_0
        try clear hcz88_1
        try clear hcz91_0
        try clear hcz91_1
        try clear hcz9_0
        try clear hcz9_1
        try clear hfz17_0
        try clear hfz17_1
        try clear hfz19_0
        try clear hfz19_1
        try clear hfz25_0
        try clear hfz25_1
        try clear hfz27_0
        try clear hfz27_1
        try clear hfz32_0
        try clear hfz32_1
        try clear hfz39_0
        try clear hfz39_1
        try clear hfz46_0
        try clear hfz46_1
        try clear hfz49_0
        try clear hfz49_1
        try clear hfz54_0
        try clear hfz54_1
        try clear hfz57_0
        try clear hfz57_1
        try clear hfz72_0
        try clear hfz72_1
        try clear hfz80_0
        try clear hfz80_1
        try clear hfz83_0
        try clear hfz83_1
        try clear hfz88_0
        try clear hfz88_1
        try clear hfz91_0
        try clear hfz91_1
        try clear hfz9_0
        try clear hfz9_1
        try clear p2
        obtain ⟨kq, x72_63, rfl, HA, HJ63, HO_263001, HO_268001, HO_274001, BK251, BK262, BK267, BK273, HB⟩ := hcut
        have hl268001_63 := (Kd.R_reads' HO_268001.out).1
        rw [hl268001_63] at HO_268001
        (try simp only [hl268001_63])
        (try simp only [hl268001_63] at BK251)
        (try simp only [hl268001_63] at BK262)
        (try simp only [hl268001_63] at BK267)
        (try simp only [hl268001_63] at BK273)
        (try simp only [hl268001_63] at HO_263001)
        (try simp only [hl268001_63] at HO_274001)
        cases kq with
        | zero => exact absurd HA.out (by simp [laws_FnExactDiskAppend.j1])
        | succ kj63 =>
         have H := HA.out; clear HA
         simp only [laws_FnExactDiskAppend.j1] at H
         by_cases c93 : x72_63 = true
         ·subst c93
          have H1 : (some false) = some r := by rw [if_pos rfl] at H; exact H
          clear H; have H := H1; clear H1
          obtain rfl := Option.some.inj H
          go_wp2
          go_ret
          exact ⟨by first | rfl | (simp [errW_none, errW_some] <;> rfl) | (simp [*, errW_none, errW_some] <;> rfl), xbg⟩
         ·replace c93 := Bool.eq_false_iff.mpr c93
          subst c93
          have H1 : ((laws_markDisk.f kj63 t268 t269 1).bind fun bt283 => ((laws_heldDisk.f kj63 t268 bt283.2 1).bind fun t285 => (if t285 < 0 then (some false) else (if t285 = bt283.1 then ((laws_toDisk.f kj63 a0_0 l0_1).bind fun bt286 => ((impl_DiskAppend.f kj63 bt286.1 bt286.2 a1 a2).bind fun bt290 => ((laws_eqDisk.f kj63 bt290.1 bt290.2.1 t257 t258).bind fun t296 => (if t296 = true then (laws_FnExactDiskAppend.j2 kj63 bt283.1 (bt290.2.2 != t261) t268 bt283.2) else (laws_FnExactDiskAppend.j2 kj63 bt283.1 true t268 bt283.2))))) else (some false))))) = some r := by rw [if_neg (show ¬ (false = true) by decide)] at H; exact H
          clear H; have H := H1; clear H1; replace H := Option.bind_eq_some_iff.mp H
          obtain ⟨⟨t283, t284⟩, A940, H⟩ := H
          replace H : ((laws_heldDisk.f kj63 t268 t284 1).bind fun t285 => (if t285 < 0 then (some false) else (if t285 = t283 then ((laws_toDisk.f kj63 a0_0 l0_1).bind fun bt286 => ((impl_DiskAppend.f kj63 bt286.1 bt286.2 a1 a2).bind fun bt290 => ((laws_eqDisk.f kj63 bt290.1 bt290.2.1 t257 t258).bind fun t296 => (if t296 = true then (laws_FnExactDiskAppend.j2 kj63 t283 (bt290.2.2 != t261) t268 t284) else (laws_FnExactDiskAppend.j2 kj63 t283 true t268 t284))))) else (some false)))) = some r := H; have A94 := aM A940; clear A940; replace H := Option.bind_eq_some_iff.mp H
          obtain ⟨t285, A950, H⟩ := H
          replace H : (if t285 < 0 then (some false) else (if t285 = t283 then ((laws_toDisk.f kj63 a0_0 l0_1).bind fun bt286 => ((impl_DiskAppend.f kj63 bt286.1 bt286.2 a1 a2).bind fun bt290 => ((laws_eqDisk.f kj63 bt290.1 bt290.2.1 t257 t258).bind fun t296 => (if t296 = true then (laws_FnExactDiskAppend.j2 kj63 t283 (bt290.2.2 != t261) t268 t284) else (laws_FnExactDiskAppend.j2 kj63 t283 true t268 t284))))) else (some false))) = some r := H; have A95 := aM A950; clear A950
          by_cases c96 : t285 < 0
          ·rw [if_pos c96] at H
           have c96b0 : decide (t285 < 0) = true := decide_eq_true c96; clear c96
           obtain rfl := Option.some.inj H
           have hnb97 := NB273_251.out; have hnc97 := NB251_273.out; have hnb98 := NB273_262.out; have hnc98 := NB262_273.out; have hnb99 := NB273_267.out; have hnc99 := NB267_273.out; have hcz100_0 : wc.cell? ⟨gb273, 0, none⟩ = some (.int .i64 t268) := xc BK273 0 rfl; have hcz100_1 : wc.cell? ⟨gb273, 1, none⟩ = some (.slice Ao40 t269.length co40) := xc BK273 1 rfl; have hfz100_0 := blk_frozen BK273.out 0; have hfz100_1 := blk_frozen BK273.out 1
           go_wp2_with (first | ((with_reducible refine gate_callee (f := 42) rfl ?_); refine goesL_ (some 75) rfl rfl Try.func42 (by kernel_rfl) rfl #[.agg #[.int .i64 t268, .slice Ao40 t269.length co40], .int .i64 1] rfl (by (try simp only [List.map_toArray, List.map_cons, List.map_nil]); first | done | rfl | (simp only [List.length_drop, List.length_take]; rfl)) ?_; (with_reducible refine (laws_markDisk.calls kj63 t268 (fun k_ => some k_ = (.slice Ao40 t269.length co40 : Value).ownBlock) (.slice Ao40 t269.length co40) t269 1 t283 t284 w _ ?side1 ?side2 A94.out).mono ?_); (case side1 => repeat (first | (with_reducible first | exact HB.out | apply below_alloc | apply pw_below_drewN | apply below_drew1 | refine below_set ?_ GE251.out | refine below_set ?_ GE262.out | refine below_set ?_ GE267.out | refine below_set ?_ GE273.out) | exact HB.out)); (case side2 => exact Kd.R_tight rfl HO_274001.out); rintro e w101 ⟨rfl, hy0, hb, hkp⟩; refine ⟨_, rfl, ?_⟩; have n0_ := aM (Kd.R_mono (ok' := fun k_ => some k_ ≠ (.slice Ao33 t281.length co33 : Value).ownBlock ∧ some k_ ≠ (.slice Ao40 t269.length co40 : Value).ownBlock) (Kd.R_keptB (HO_263001.out) hkp (fun k_ hk_ hs_ => (hk_.2) hs_)) (fun k_ hk_ => ⟨hk_.1.1, hk_.1.2⟩)); have n1_ := aM (Kd.R_mono (ok' := fun k_ => some k_ ≠ (.slice Ao26 t258.length co26 : Value).ownBlock ∧ some k_ ≠ (.slice Ao40 t269.length co40 : Value).ownBlock) (Kd.R_keptB (HO_268001.out) hkp (fun k_ hk_ hs_ => (hk_.2) hs_)) (fun k_ hk_ => ⟨hk_.1.1, hk_.1.2⟩)); have n2_ := aM (Kd.R_reok rfl hy0 (fun k_ e_ => HO_274001.out.1 k_ e_)); have n3_ := aM (blk_kept xblk hkp (fun hs_ => (fun e_ => (Kd.R_ne HO_274001.out BK251.out (by decide)) e_) hs_)); have n4_ := aM (blk_kept xblk hkp (fun hs_ => (fun e_ => (Kd.R_ne HO_274001.out BK262.out (by decide)) e_) hs_)); have n5_ := aM (blk_kept xblk hkp (fun hs_ => (fun e_ => (Kd.R_ne HO_274001.out BK267.out (by decide)) e_) hs_)); have n6_ := aM (blk_kept xblk hkp (fun hs_ => (fun e_ => (Kd.R_ne HO_274001.out BK273.out (by decide)) e_) hs_)); have n7_ := aM (hb); clear HO_263001; clear HO_268001; clear HO_274001; clear BK251; clear BK262; clear BK267; clear BK273; clear HB; have HO_263001 := n0_; have HO_268001 := n1_; have HO_274001 := n2_; have BK251 := n3_; have BK262 := n4_; have BK267 := n5_; have BK273 := n6_; have HB := n7_; clear n0_ n1_ n2_ n3_ n4_ n5_ n6_ n7_; (try clear hb); (try clear hkp); (try clear hy0); have hcz102_0 : w101.cell? ⟨gb273, 0, none⟩ = some (.int .i64 t268) := xc BK273 0 rfl; have hcz102_1 : w101.cell? ⟨gb273, 1, none⟩ = some (.slice Ao40 t269.length co40) := xc BK273 1 rfl; have hfz102_0 := blk_frozen BK273.out 0; have hfz102_1 := blk_frozen BK273.out 1) | ((with_reducible refine gate_callee (f := 43) rfl ?_); refine goesL_ (some 78) rfl rfl Try.func43 (by kernel_rfl) rfl #[.agg #[.int .i64 t268, .slice Ao40 t284.length co40], .int .i64 1] rfl (by (try simp only [List.map_toArray, List.map_cons, List.map_nil]); first | done | (rw [show t284.length = t269.length from (Kd.R_reads' HO_274001.out).1.symm] <;> rfl) | rfl | (simp only [List.length_drop, List.length_take]; rfl)) ?_; (with_reducible refine (laws_heldDisk.calls kj63 t268 _ _ t284 1 t285 _ ?side1 ?side2 A95.out).mono ?_); (case side1 => repeat (first | exact (Kd.R_reads' HO_274001.out).2.2 | (with_reducible refine Kd.C_alloc ?_ _) | (with_reducible refine Kd.C_drewN ?_ _) | (with_reducible refine Kd.C_drew ?_))); (case side2 => rw [show t284.length = t269.length from (Kd.R_reads' HO_274001.out).1.symm]; exact (Kd.R_reads' HO_274001.out).2.1); rintro e w103 ⟨rfl, hb⟩; refine ⟨_, rfl, ?_⟩; replace HO_263001 := aM (Kd.R_below (xr HO_263001) hb); replace HO_268001 := aM (Kd.R_below (xr HO_268001) hb); replace HO_274001 := aM (Kd.R_below (xr HO_274001) hb); replace BK251 := xbb BK251 hb; replace BK262 := xbb BK262 hb; replace BK267 := xbb BK267 hb; replace BK273 := xbb BK273 hb; replace HB := xbs hb; (try clear hb); (try clear hb2); (try clear hk); (try clear hi)))
           go_ret
           exact ⟨by first | rfl | (simp [errW_none, errW_some] <;> rfl) | (simp [*, errW_none, errW_some] <;> rfl), xbg⟩
          ·rw [if_neg c96] at H
           have c96b0 : decide (t285 < 0) = false := decide_eq_false c96; clear c96
           by_cases c104 : t285 = t283
           ·rw [if_pos c104] at H
            have c104b0 : (t285 == t283) = true := beq_iff_eq.mpr c104; have c104b1 : (t285 != t283) = false := bne_eq_false_iff_eq.mpr c104; clear c104; replace H := Option.bind_eq_some_iff.mp H
            obtain ⟨⟨t286, t287⟩, A1050, H⟩ := H
            replace H : ((impl_DiskAppend.f kj63 t286 t287 a1 a2).bind fun bt290 => ((laws_eqDisk.f kj63 bt290.1 bt290.2.1 t257 t258).bind fun t296 => (if t296 = true then (laws_FnExactDiskAppend.j2 kj63 t283 (bt290.2.2 != t261) t268 t284) else (laws_FnExactDiskAppend.j2 kj63 t283 true t268 t284)))) = some r := H; have A105 := aM A1050; clear A1050; replace H := Option.bind_eq_some_iff.mp H
            obtain ⟨⟨t290, t291, t294⟩, A1060, H⟩ := H
            replace H : ((laws_eqDisk.f kj63 t290 t291 t257 t258).bind fun t296 => (if t296 = true then (laws_FnExactDiskAppend.j2 kj63 t283 (t294 != t261) t268 t284) else (laws_FnExactDiskAppend.j2 kj63 t283 true t268 t284))) = some r := H; have A106 := aM A1060; clear A1060; have HC107 := aM H; clear H; have hnb108 := NB273_251.out; have hnc108 := NB251_273.out; have hnb109 := NB273_262.out; have hnc109 := NB262_273.out; have hnb110 := NB273_267.out; have hnc110 := NB267_273.out; have hcz111_0 : wc.cell? ⟨gb273, 0, none⟩ = some (.int .i64 t268) := xc BK273 0 rfl; have hcz111_1 : wc.cell? ⟨gb273, 1, none⟩ = some (.slice Ao40 t269.length co40) := xc BK273 1 rfl; have hfz111_0 := blk_frozen BK273.out 0; have hfz111_1 := blk_frozen BK273.out 1
            go_upto_region 27 with (first | ((with_reducible refine gate_callee (f := 42) rfl ?_); refine goesL_ (some 75) rfl rfl Try.func42 (by kernel_rfl) rfl #[.agg #[.int .i64 t268, .slice Ao40 t269.length co40], .int .i64 1] rfl (by (try simp only [List.map_toArray, List.map_cons, List.map_nil]); first | done | rfl | (simp only [List.length_drop, List.length_take]; rfl)) ?_; (with_reducible refine (laws_markDisk.calls kj63 t268 (fun k_ => some k_ = (.slice Ao40 t269.length co40 : Value).ownBlock) (.slice Ao40 t269.length co40) t269 1 t283 t284 w _ ?side1 ?side2 A94.out).mono ?_); (case side1 => repeat (first | (with_reducible first | exact HB.out | apply below_alloc | apply pw_below_drewN | apply below_drew1 | refine below_set ?_ GE251.out | refine below_set ?_ GE262.out | refine below_set ?_ GE267.out | refine below_set ?_ GE273.out) | exact HB.out)); (case side2 => exact Kd.R_tight rfl HO_274001.out); rintro e w112 ⟨rfl, hy0, hb, hkp⟩; refine ⟨_, rfl, ?_⟩; have n0_ := aM (Kd.R_mono (ok' := fun k_ => some k_ ≠ (.slice Ao33 t281.length co33 : Value).ownBlock ∧ some k_ ≠ (.slice Ao40 t269.length co40 : Value).ownBlock) (Kd.R_keptB (HO_263001.out) hkp (fun k_ hk_ hs_ => (hk_.2) hs_)) (fun k_ hk_ => ⟨hk_.1.1, hk_.1.2⟩)); have n1_ := aM (Kd.R_mono (ok' := fun k_ => some k_ ≠ (.slice Ao26 t258.length co26 : Value).ownBlock ∧ some k_ ≠ (.slice Ao40 t269.length co40 : Value).ownBlock) (Kd.R_keptB (HO_268001.out) hkp (fun k_ hk_ hs_ => (hk_.2) hs_)) (fun k_ hk_ => ⟨hk_.1.1, hk_.1.2⟩)); have n2_ := aM (Kd.R_reok rfl hy0 (fun k_ e_ => HO_274001.out.1 k_ e_)); have n3_ := aM (blk_kept xblk hkp (fun hs_ => (fun e_ => (Kd.R_ne HO_274001.out BK251.out (by decide)) e_) hs_)); have n4_ := aM (blk_kept xblk hkp (fun hs_ => (fun e_ => (Kd.R_ne HO_274001.out BK262.out (by decide)) e_) hs_)); have n5_ := aM (blk_kept xblk hkp (fun hs_ => (fun e_ => (Kd.R_ne HO_274001.out BK267.out (by decide)) e_) hs_)); have n6_ := aM (blk_kept xblk hkp (fun hs_ => (fun e_ => (Kd.R_ne HO_274001.out BK273.out (by decide)) e_) hs_)); have n7_ := aM (hb); clear HO_263001; clear HO_268001; clear HO_274001; clear BK251; clear BK262; clear BK267; clear BK273; clear HB; have HO_263001 := n0_; have HO_268001 := n1_; have HO_274001 := n2_; have BK251 := n3_; have BK262 := n4_; have BK267 := n5_; have BK273 := n6_; have HB := n7_; clear n0_ n1_ n2_ n3_ n4_ n5_ n6_ n7_; (try clear hb); (try clear hkp); (try clear hy0); have hcz113_0 : w112.cell? ⟨gb273, 0, none⟩ = some (.int .i64 t268) := xc BK273 0 rfl; have hcz113_1 : w112.cell? ⟨gb273, 1, none⟩ = some (.slice Ao40 t269.length co40) := xc BK273 1 rfl; have hfz113_0 := blk_frozen BK273.out 0; have hfz113_1 := blk_frozen BK273.out 1) | ((with_reducible refine gate_callee (f := 43) rfl ?_); refine goesL_ (some 78) rfl rfl Try.func43 (by kernel_rfl) rfl #[.agg #[.int .i64 t268, .slice Ao40 t284.length co40], .int .i64 1] rfl (by (try simp only [List.map_toArray, List.map_cons, List.map_nil]); first | done | (rw [show t284.length = t269.length from (Kd.R_reads' HO_274001.out).1.symm] <;> rfl) | rfl | (simp only [List.length_drop, List.length_take]; rfl)) ?_; (with_reducible refine (laws_heldDisk.calls kj63 t268 _ _ t284 1 t285 _ ?side1 ?side2 A95.out).mono ?_); (case side1 => repeat (first | exact (Kd.R_reads' HO_274001.out).2.2 | (with_reducible refine Kd.C_alloc ?_ _) | (with_reducible refine Kd.C_drewN ?_ _) | (with_reducible refine Kd.C_drew ?_))); (case side2 => rw [show t284.length = t269.length from (Kd.R_reads' HO_274001.out).1.symm]; exact (Kd.R_reads' HO_274001.out).2.1); rintro e w114 ⟨rfl, hb⟩; refine ⟨_, rfl, ?_⟩; replace HO_263001 := aM (Kd.R_below (xr HO_263001) hb); replace HO_268001 := aM (Kd.R_below (xr HO_268001) hb); replace HO_274001 := aM (Kd.R_below (xr HO_274001) hb); replace BK251 := xbb BK251 hb; replace BK262 := xbb BK262 hb; replace BK267 := xbb BK267 hb; replace BK273 := xbb BK273 hb; replace HB := xbs hb; (try clear hb); (try clear hb2); (try clear hk); (try clear hi); have hnb115 := NB251_262.out; have hnc115 := NB262_251.out; have hnb116 := NB251_267.out; have hnc116 := NB267_251.out; have hcz117_0 : w114.cell? ⟨gb251, 0, none⟩ = some (.int .i64 a0_0) := xc BK251 0 rfl; have hcz117_1 : w114.cell? ⟨gb251, 1, none⟩ = some (.slice A0_1 l0_1.length c0_1) := xc BK251 1 rfl; have hfz117_0 := blk_frozen BK251.out 0; have hfz117_1 := blk_frozen BK251.out 1) | ((with_reducible refine gate_callee (f := 39) rfl ?_); refine goesL_ (some 86) rfl rfl Try.func39 (by kernel_rfl) rfl #[.agg #[.int .i64 a0_0, .slice A0_1 l0_1.length c0_1]] rfl (by (try simp only [List.map_toArray, List.map_cons, List.map_nil]); first | done | rfl | (simp only [List.length_drop, List.length_take]; rfl)) ?_; (with_reducible refine (laws_toDisk.calls kj63 a0_0 _ _ l0_1 t286 t287 _ ?side1 ?side2 A105.out).mono ?_); (case side1 => exact xcb HR0_1); (case side2 => exact HC0_1.out); rintro e w118 ⟨v288, rfl, ho0, hb⟩; refine ⟨_, rfl, ?_⟩; have HO289 := aM (Kd.R_lower (Kd.R_new' (Kd.R_new' (Kd.R_new' ho0 (Kd.R_lt (xr HO_263001))) (Kd.R_lt (xr HO_268001))) (Kd.R_lt (xr HO_274001))) (below_size xbg)); replace HO_263001 := aM (Kd.R_elder' (xr HO_263001) (Kd.R_base ho0) hb); replace HO_268001 := aM (Kd.R_elder' (xr HO_268001) (Kd.R_base ho0) hb); replace HO_274001 := aM (Kd.R_elder' (xr HO_274001) (Kd.R_base ho0) hb); replace BK251 := xbb BK251 hb; replace BK262 := xbb BK262 hb; replace BK267 := xbb BK267 hb; replace BK273 := xbb BK273 hb; replace HB := xbs hb; (try clear hb); (try clear hb2); (try clear hk); (try clear hi); (try clear ho0); obtain ⟨Ao119, co119, eo119⟩ := Kd.R_slice HO289.out; subst eo119) | ((with_reducible refine gate_callee (f := 40) rfl ?_); refine goesL_ (some 89) rfl rfl Try.func40 (by kernel_rfl) rfl #[.agg #[.int .i64 t286, .slice Ao119 t287.length co119], .int .i64 a1, .string a2] rfl (by (try simp only [List.map_toArray, List.map_cons, List.map_nil]); first | done | rfl | (simp only [List.length_drop, List.length_take]; rfl)) ?_; (with_reducible refine (impl_DiskAppend.calls kj63 t286 _ _ t287 a1 a2 t290 t291 t294 _ ?side1 ?side2 A106.out).mono ?_); (case side1 => repeat (first | exact (Kd.R_reads' HO289.out).2.2 | (with_reducible refine Kd.C_alloc ?_ _) | (with_reducible refine Kd.C_drewN ?_ _) | (with_reducible refine Kd.C_drew ?_))); (case side2 => exact (Kd.R_reads' HO289.out).2.1); rintro e w120 ⟨v292, rfl, ho0, hb⟩; refine ⟨_, rfl, ?_⟩; have HO293 := aM (Kd.R_lower (Kd.R_new' (Kd.R_new' (Kd.R_new' (Kd.R_new' ho0 (Kd.R_lt (xr HO_263001))) (Kd.R_lt (xr HO_268001))) (Kd.R_lt (xr HO_274001))) (Kd.R_lt (xr HO289))) (below_size xbg)); replace HO_263001 := aM (Kd.R_elder' (xr HO_263001) (Kd.R_base ho0) hb); replace HO_268001 := aM (Kd.R_elder' (xr HO_268001) (Kd.R_base ho0) hb); replace HO_274001 := aM (Kd.R_elder' (xr HO_274001) (Kd.R_base ho0) hb); replace HO289 := aM (Kd.R_elder' (xr HO289) (Kd.R_base ho0) hb); replace BK251 := xbb BK251 hb; replace BK262 := xbb BK262 hb; replace BK267 := xbb BK267 hb; replace BK273 := xbb BK273 hb; replace HB := xbs hb; (try clear hb); (try clear hb2); (try clear hk); (try clear hi); (try clear ho0)) | ((with_reducible refine gate_dst (N := 16) rfl ?_); refine box_event ?hg (N := 16) ?hd (cs := #[.int .i64 0, .slice none 0 0]) (t := 70) ?hr ?_; (case hd => rfl); (case hg => rfl); (case hr => first | (go_simp; done) | (go_simp; rfl)); intro gb295 hg w121 hbox hb; replace HO_263001 := aM (Kd.R_below (xr HO_263001) hb); replace HO_268001 := aM (Kd.R_below (xr HO_268001) hb); replace HO_274001 := aM (Kd.R_below (xr HO_274001) hb); replace HO289 := aM (Kd.R_below (xr HO289) hb); replace HO293 := aM (Kd.R_below (xr HO293) hb); have GW295 := aM (xge hg); have GE295 := aM (xge hg); replace HB := xbs hb; have NB251_295 := aM ((by rw [hg]; exact Nat.ne_of_lt (blk_lt (g := gb251) (o := .cells #[.int .i64 a0_0, .slice A0_1 l0_1.length c0_1] 66 (0, 0)) xblk) : gb251 ≠ gb295)); have NB295_251 := aM ((by rw [hg]; exact Nat.ne_of_gt (blk_lt (g := gb251) (o := .cells #[.int .i64 a0_0, .slice A0_1 l0_1.length c0_1] 66 (0, 0)) xblk) : gb295 ≠ gb251)); have NB262_295 := aM ((by rw [hg]; exact Nat.ne_of_lt (blk_lt (g := gb262) (o := .cells #[.int .i64 t257, .slice Ao26 t258.length co26] 70 (0, 0)) xblk) : gb262 ≠ gb295)); have NB295_262 := aM ((by rw [hg]; exact Nat.ne_of_gt (blk_lt (g := gb262) (o := .cells #[.int .i64 t257, .slice Ao26 t258.length co26] 70 (0, 0)) xblk) : gb295 ≠ gb262)); have NB267_295 := aM ((by rw [hg]; exact Nat.ne_of_lt (blk_lt (g := gb267) (o := .cells #[.int .i64 t263, .slice Ao33 t281.length co33] 70 (0, 0)) xblk) : gb267 ≠ gb295)); have NB295_267 := aM ((by rw [hg]; exact Nat.ne_of_gt (blk_lt (g := gb267) (o := .cells #[.int .i64 t263, .slice Ao33 t281.length co33] 70 (0, 0)) xblk) : gb295 ≠ gb267)); have NB273_295 := aM ((by rw [hg]; exact Nat.ne_of_lt (blk_lt (g := gb273) (o := .cells #[.int .i64 t268, .slice Ao40 t269.length co40] 70 (0, 0)) xblk) : gb273 ≠ gb295)); have NB295_273 := aM ((by rw [hg]; exact Nat.ne_of_gt (blk_lt (g := gb273) (o := .cells #[.int .i64 t268, .slice Ao40 t269.length co40] 70 (0, 0)) xblk) : gb295 ≠ gb273)); replace BK251 := xbb BK251 hb; replace BK262 := xbb BK262 hb; replace BK267 := xbb BK267 hb; replace BK273 := xbb BK273 hb; have BK295 := aM (hbox); clear hb hbox hg; have hnb122 := NB295_251.out; have hnc122 := NB251_295.out; have hnb123 := NB295_262.out; have hnc123 := NB262_295.out; have hnb124 := NB295_267.out; have hnc124 := NB267_295.out; have hnb125 := NB295_273.out; have hnc125 := NB273_295.out; have hcz126_0 : w121.cell? ⟨gb295, 0, none⟩ = some (.int .i64 0) := xc BK295 0 rfl; have hcz126_1 : w121.cell? ⟨gb295, 1, none⟩ = some (.slice none 0 0) := xc BK295 1 rfl; have hfz126_0 := blk_frozen BK295.out 0; have hfz126_1 := blk_frozen BK295.out 1; obtain ⟨Ao127, co127, eo127⟩ := Kd.R_slice HO293.out; subst eo127))
            (try simp only [Act.put, List.setIfInBounds_toArray, List.set_cons_zero, List.set_cons_succ])
            go_cut [100] (fun v100 wc => ∃ (kq : Nat) (x100_106 : Bool), v100 = .bool x100_106 ∧ Aside0 (laws_FnExactDiskAppend.j2 kq t283 x100_106 t268 t284 = some r) ∧ Aside0 (kq ≤ kj63) ∧ Aside0 (Kd.R k134 134 wc w.heap.size (fun k_ => some k_ ≠ ((.slice Ao33 t281.length co33) : Value).ownBlock ∧ some k_ ≠ ((.slice Ao40 t269.length co40) : Value).ownBlock ∧ some k_ ≠ ((.slice Ao127 t291.length co127) : Value).ownBlock) (.slice Ao26 t258.length co26) t258) ∧ Aside0 (Kd.R k134 134 wc w.heap.size (fun k_ => some k_ ≠ ((.slice Ao26 t258.length co26) : Value).ownBlock ∧ some k_ ≠ ((.slice Ao40 t269.length co40) : Value).ownBlock ∧ some k_ ≠ ((.slice Ao127 t291.length co127) : Value).ownBlock) (.slice Ao33 t281.length co33) t281) ∧ Aside0 (Kd.R k134 134 wc w.heap.size (fun k_ => some k_ ≠ ((.slice Ao26 t258.length co26) : Value).ownBlock ∧ some k_ ≠ ((.slice Ao33 t281.length co33) : Value).ownBlock ∧ some k_ ≠ ((.slice Ao127 t291.length co127) : Value).ownBlock) (.slice Ao40 t269.length co40) t284) ∧ Aside0 (Kd.R k134 134 wc w.heap.size (fun k_ => some k_ ≠ ((.slice Ao26 t258.length co26) : Value).ownBlock ∧ some k_ ≠ ((.slice Ao33 t281.length co33) : Value).ownBlock ∧ some k_ ≠ ((.slice Ao40 t269.length co40) : Value).ownBlock) (.slice Ao127 t291.length co127) t291) ∧ Aside0 (wc.heap[gb251]? = some (.cells #[.int .i64 a0_0, (.slice A0_1 l0_1.length c0_1)] 66 (0, 0))) ∧ Aside0 (wc.heap[gb262]? = some (.cells #[.int .i64 t257, (.slice Ao26 t258.length co26)] 70 (0, 0))) ∧ Aside0 (wc.heap[gb267]? = some (.cells #[.int .i64 t263, (.slice Ao33 t281.length co33)] 70 (0, 0))) ∧ Aside0 (wc.heap[gb273]? = some (.cells #[.int .i64 t268, (.slice Ao40 t269.length co40)] 70 (0, 0))) ∧ Aside0 (wc.heap[gb295]? = some (.cells #[.int .i64 t290, (.slice Ao127 t291.length co127)] 70 (0, 0))) ∧ Aside0 (Below w.heap.size w wc))
            case first =>
             have H := HC107.out; clear HC107; replace H := Option.bind_eq_some_iff.mp H
             obtain ⟨t296, A1280, H⟩ := H
             replace H : (if t296 = true then (laws_FnExactDiskAppend.j2 kj63 t283 (t294 != t261) t268 t284) else (laws_FnExactDiskAppend.j2 kj63 t283 true t268 t284)) = some r := H; have A128 := aM A1280; clear A1280
             by_cases c129 : t296 = true
             ·subst c129
              have H1 : (laws_FnExactDiskAppend.j2 kj63 t283 (t294 != t261) t268 t284) = some r := by rw [if_pos rfl] at H; exact H
              clear H; have H := H1; clear H1
              have H' := aM H
              clear H; have hnb130 := NB295_251.out; have hnc130 := NB251_295.out; have hnb131 := NB295_262.out; have hnc131 := NB262_295.out; have hnb132 := NB295_267.out; have hnc132 := NB267_295.out; have hnb133 := NB295_273.out; have hnc133 := NB273_295.out; have hcz134_0 : w121.cell? ⟨gb295, 0, none⟩ = some (.int .i64 0) := xc BK295 0 rfl; have hcz134_1 : w121.cell? ⟨gb295, 1, none⟩ = some (.slice none 0 0) := xc BK295 1 rfl; have hfz134_0 := blk_frozen BK295.out 0; have hfz134_1 := blk_frozen BK295.out 1; have hnb135 := NB262_251.out; have hnc135 := NB251_262.out; have hnb136 := NB262_267.out; have hnc136 := NB267_262.out; have hnb137 := NB262_273.out; have hnc137 := NB273_262.out; have hcz138_0 : w121.cell? ⟨gb262, 0, none⟩ = some (.int .i64 t257) := xc BK262 0 rfl; have hcz138_1 : w121.cell? ⟨gb262, 1, none⟩ = some (.slice Ao26 t258.length co26) := xc BK262 1 rfl; have hfz138_0 := blk_frozen BK262.out 0; have hfz138_1 := blk_frozen BK262.out 1
              go_wp2_with (first | ((with_reducible refine gate_callee (f := 41) rfl ?_); refine goesL_ (some 94) rfl rfl Try.func41 (by kernel_rfl) rfl #[.agg #[.int .i64 t290, .slice Ao127 t291.length co127], .agg #[.int .i64 t257, .slice Ao26 t258.length co26]] rfl (by (try simp only [List.map_toArray, List.map_cons, List.map_nil]); first | done | rfl | (simp only [List.length_drop, List.length_take]; rfl)) ?_; (with_reducible refine (laws_eqDisk.calls kj63 t290 _ _ t291 t257 _ _ t258 true _ ?side1 ?side2 ?side3 ?side4 A128.out).mono ?_); (case side1 => refine (Kd.R_reads' (e := 134) (base := w.heap.size) (ok := fun k_ => ((((True ∧ some k_ ≠ (.slice Ao26 t258.length co26 : Value).ownBlock) ∧ some k_ ≠ (.slice Ao33 t281.length co33 : Value).ownBlock) ∧ some k_ ≠ (.slice Ao40 t269.length co40 : Value).ownBlock) ∧ some k_ ≠ (.slice Ao119 t287.length co119 : Value).ownBlock)) (n := t291.length) (c := co127) ?_).2.2; exact (xrt (Kd.R_mono (Kd.R_far (p := ⟨gb295, 1, none⟩) (Kd.R_far (p := ⟨gb295, 0, none⟩) (Kd.R_types HO293.out BK295.out (by decide)) (fun _ hk => hk.2) (.int .i64 t290)) (fun _ hk => hk.2) (.slice Ao127 t291.length co127)) (fun _ h_ => h_.1)))); (case side2 => exact (Kd.R_reads' HO293.out).2.1); (case side3 => refine (Kd.R_reads' (e := 134) (base := w.heap.size) (ok := fun k_ => (((some k_ ≠ (.slice Ao33 t281.length co33 : Value).ownBlock ∧ some k_ ≠ (.slice Ao40 t269.length co40 : Value).ownBlock) ∧ some k_ ≠ (.slice Ao119 t287.length co119 : Value).ownBlock) ∧ some k_ ≠ (.slice Ao127 t291.length co127 : Value).ownBlock)) (n := t258.length) (c := co26) ?_).2.2; exact (xrt (Kd.R_mono (Kd.R_far (p := ⟨gb295, 1, none⟩) (Kd.R_far (p := ⟨gb295, 0, none⟩) (Kd.R_types HO_263001.out BK295.out (by decide)) (fun _ hk => hk.2) (.int .i64 t290)) (fun _ hk => hk.2) (.slice Ao127 t291.length co127)) (fun _ h_ => h_.1)))); (case side4 => exact (Kd.R_reads' HO_263001.out).2.1); rintro e w139 ⟨rfl, hb⟩; refine ⟨_, rfl, ?_⟩; replace HO_263001 := aM (Kd.R_below (xrt (Kd.R_mono (Kd.R_far (p := ⟨gb295, 1, none⟩) (Kd.R_far (p := ⟨gb295, 0, none⟩) (Kd.R_types HO_263001.out BK295.out (by decide)) (fun _ hk => hk.2) (.int .i64 t290)) (fun _ hk => hk.2) (.slice Ao127 t291.length co127)) (fun _ h_ => h_.1))) hb); replace HO_268001 := aM (Kd.R_below (xrt (Kd.R_mono (Kd.R_far (p := ⟨gb295, 1, none⟩) (Kd.R_far (p := ⟨gb295, 0, none⟩) (Kd.R_types HO_268001.out BK295.out (by decide)) (fun _ hk => hk.2) (.int .i64 t290)) (fun _ hk => hk.2) (.slice Ao127 t291.length co127)) (fun _ h_ => h_.1))) hb); replace HO_274001 := aM (Kd.R_below (xrt (Kd.R_mono (Kd.R_far (p := ⟨gb295, 1, none⟩) (Kd.R_far (p := ⟨gb295, 0, none⟩) (Kd.R_types HO_274001.out BK295.out (by decide)) (fun _ hk => hk.2) (.int .i64 t290)) (fun _ hk => hk.2) (.slice Ao127 t291.length co127)) (fun _ h_ => h_.1))) hb); replace HO289 := aM (Kd.R_below (xrt (Kd.R_mono (Kd.R_far (p := ⟨gb295, 1, none⟩) (Kd.R_far (p := ⟨gb295, 0, none⟩) (Kd.R_types HO289.out BK295.out (by decide)) (fun _ hk => hk.2) (.int .i64 t290)) (fun _ hk => hk.2) (.slice Ao127 t291.length co127)) (fun _ h_ => h_.1))) hb); replace HO293 := aM (Kd.R_below (xrt (Kd.R_mono (Kd.R_far (p := ⟨gb295, 1, none⟩) (Kd.R_far (p := ⟨gb295, 0, none⟩) (Kd.R_types HO293.out BK295.out (by decide)) (fun _ hk => hk.2) (.int .i64 t290)) (fun _ hk => hk.2) (.slice Ao127 t291.length co127)) (fun _ h_ => h_.1))) hb); replace BK251 := aM (blk_below (g := gb251) (o := .cells #[.int .i64 a0_0, .slice A0_1 l0_1.length c0_1] 66 (0, 0)) (by (with_reducible repeat (first | refine blk_drewN ?_ _ | refine blk_drew ?_ | refine blk_alloc ?_ _)); refine blk_far ?_ NB251_295.out _; (with_reducible repeat (first | refine blk_drewN ?_ _ | refine blk_drew ?_ | refine blk_alloc ?_ _)); refine blk_far ?_ NB251_295.out _; (with_reducible repeat (first | refine blk_drewN ?_ _ | refine blk_drew ?_ | refine blk_alloc ?_ _)); exact BK251.out) hb); replace BK262 := aM (blk_below (g := gb262) (o := .cells #[.int .i64 t257, .slice Ao26 t258.length co26] 70 (0, 0)) (by (with_reducible repeat (first | refine blk_drewN ?_ _ | refine blk_drew ?_ | refine blk_alloc ?_ _)); refine blk_far ?_ NB262_295.out _; (with_reducible repeat (first | refine blk_drewN ?_ _ | refine blk_drew ?_ | refine blk_alloc ?_ _)); refine blk_far ?_ NB262_295.out _; (with_reducible repeat (first | refine blk_drewN ?_ _ | refine blk_drew ?_ | refine blk_alloc ?_ _)); exact BK262.out) hb); replace BK267 := aM (blk_below (g := gb267) (o := .cells #[.int .i64 t263, .slice Ao33 t281.length co33] 70 (0, 0)) (by (with_reducible repeat (first | refine blk_drewN ?_ _ | refine blk_drew ?_ | refine blk_alloc ?_ _)); refine blk_far ?_ NB267_295.out _; (with_reducible repeat (first | refine blk_drewN ?_ _ | refine blk_drew ?_ | refine blk_alloc ?_ _)); refine blk_far ?_ NB267_295.out _; (with_reducible repeat (first | refine blk_drewN ?_ _ | refine blk_drew ?_ | refine blk_alloc ?_ _)); exact BK267.out) hb); replace BK273 := aM (blk_below (g := gb273) (o := .cells #[.int .i64 t268, .slice Ao40 t269.length co40] 70 (0, 0)) (by (with_reducible repeat (first | refine blk_drewN ?_ _ | refine blk_drew ?_ | refine blk_alloc ?_ _)); refine blk_far ?_ NB273_295.out _; (with_reducible repeat (first | refine blk_drewN ?_ _ | refine blk_drew ?_ | refine blk_alloc ?_ _)); refine blk_far ?_ NB273_295.out _; (with_reducible repeat (first | refine blk_drewN ?_ _ | refine blk_drew ?_ | refine blk_alloc ?_ _)); exact BK273.out) hb); replace BK295 := aM (blk_below (g := gb295) (o := .cells #[.int .i64 t290, .slice Ao127 t291.length co127] 70 (0, 0)) (by (with_reducible repeat (first | refine blk_drewN ?_ _ | refine blk_drew ?_ | refine blk_alloc ?_ _)); refine blk_put (cs := #[.int .i64 t290, .slice none 0 0]) ?_ 1 _ rfl; (with_reducible repeat (first | refine blk_drewN ?_ _ | refine blk_drew ?_ | refine blk_alloc ?_ _)); refine blk_put (cs := #[.int .i64 0, .slice none 0 0]) ?_ 0 _ rfl; (with_reducible repeat (first | refine blk_drewN ?_ _ | refine blk_drew ?_ | refine blk_alloc ?_ _)); exact BK295.out) hb); replace HB := xbs hb; (try clear hb); (try clear hb2); (try clear hk); (try clear hi)))
              go_meet
              case rel => exact ⟨_, ((t294 != t261)), (by first | rfl | (simp; done) | (simp [*]; done)), H', ⟨by have := HJ14.out; have := HJ63.out; first | omega | exact Nat.le_refl _⟩, ⟨by (try simp only [hl268001_63]); (with_reducible repeat (first | apply Kd.R_alloc | apply Kd.R_drewN | apply Kd.R_drew)); exact Kd.R_mono HO_263001.out (fun _ hk => ⟨hk.1.1.1, ⟨hk.1.1.2, hk.2⟩⟩)⟩, ⟨by (try simp only [hl268001_63]); (with_reducible repeat (first | apply Kd.R_alloc | apply Kd.R_drewN | apply Kd.R_drew)); exact Kd.R_mono HO_268001.out (fun _ hk => ⟨hk.1.1.1, ⟨hk.1.1.2, hk.2⟩⟩)⟩, ⟨by (try simp only [hl268001_63]); (with_reducible repeat (first | apply Kd.R_alloc | apply Kd.R_drewN | apply Kd.R_drew)); exact Kd.R_mono HO_274001.out (fun _ hk => ⟨hk.1.1.1, ⟨hk.1.1.2, hk.2⟩⟩)⟩, ⟨by (try simp only [hl268001_63]); (with_reducible repeat (first | apply Kd.R_alloc | apply Kd.R_drewN | apply Kd.R_drew)); exact Kd.R_mono HO293.out (fun _ hk => ⟨hk.1.1.1.2, ⟨hk.1.1.2, hk.1.2⟩⟩)⟩, ⟨by (try simp only [hl268001_63]); (with_reducible repeat (first | refine blk_drewN ?_ _ | refine blk_drew ?_ | refine blk_alloc ?_ _)); exact BK251.out⟩, ⟨by (try simp only [hl268001_63]); (with_reducible repeat (first | refine blk_drewN ?_ _ | refine blk_drew ?_ | refine blk_alloc ?_ _)); exact BK262.out⟩, ⟨by (try simp only [hl268001_63]); (with_reducible repeat (first | refine blk_drewN ?_ _ | refine blk_drew ?_ | refine blk_alloc ?_ _)); exact BK267.out⟩, ⟨by (try simp only [hl268001_63]); (with_reducible repeat (first | refine blk_drewN ?_ _ | refine blk_drew ?_ | refine blk_alloc ?_ _)); exact BK273.out⟩, ⟨by (try simp only [hl268001_63]); (with_reducible repeat (first | refine blk_drewN ?_ _ | refine blk_drew ?_ | refine blk_alloc ?_ _)); exact BK295.out⟩, ⟨xbg⟩⟩
             ·replace c129 := Bool.eq_false_iff.mpr c129
              subst c129
              have H1 : (laws_FnExactDiskAppend.j2 kj63 t283 true t268 t284) = some r := by rw [if_neg (show ¬ (false = true) by decide)] at H; exact H
              clear H; have H := H1; clear H1
              have H' := aM H
              clear H; have hnb140 := NB295_251.out; have hnc140 := NB251_295.out; have hnb141 := NB295_262.out; have hnc141 := NB262_295.out; have hnb142 := NB295_267.out; have hnc142 := NB267_295.out; have hnb143 := NB295_273.out; have hnc143 := NB273_295.out; have hcz144_0 : w121.cell? ⟨gb295, 0, none⟩ = some (.int .i64 0) := xc BK295 0 rfl; have hcz144_1 : w121.cell? ⟨gb295, 1, none⟩ = some (.slice none 0 0) := xc BK295 1 rfl; have hfz144_0 := blk_frozen BK295.out 0; have hfz144_1 := blk_frozen BK295.out 1; have hnb145 := NB262_251.out; have hnc145 := NB251_262.out; have hnb146 := NB262_267.out; have hnc146 := NB267_262.out; have hnb147 := NB262_273.out; have hnc147 := NB273_262.out; have hcz148_0 : w121.cell? ⟨gb262, 0, none⟩ = some (.int .i64 t257) := xc BK262 0 rfl; have hcz148_1 : w121.cell? ⟨gb262, 1, none⟩ = some (.slice Ao26 t258.length co26) := xc BK262 1 rfl; have hfz148_0 := blk_frozen BK262.out 0; have hfz148_1 := blk_frozen BK262.out 1
              go_wp2_with (first | ((with_reducible refine gate_callee (f := 41) rfl ?_); refine goesL_ (some 94) rfl rfl Try.func41 (by kernel_rfl) rfl #[.agg #[.int .i64 t290, .slice Ao127 t291.length co127], .agg #[.int .i64 t257, .slice Ao26 t258.length co26]] rfl (by (try simp only [List.map_toArray, List.map_cons, List.map_nil]); first | done | rfl | (simp only [List.length_drop, List.length_take]; rfl)) ?_; (with_reducible refine (laws_eqDisk.calls kj63 t290 _ _ t291 t257 _ _ t258 false _ ?side1 ?side2 ?side3 ?side4 A128.out).mono ?_); (case side1 => refine (Kd.R_reads' (e := 134) (base := w.heap.size) (ok := fun k_ => ((((True ∧ some k_ ≠ (.slice Ao26 t258.length co26 : Value).ownBlock) ∧ some k_ ≠ (.slice Ao33 t281.length co33 : Value).ownBlock) ∧ some k_ ≠ (.slice Ao40 t269.length co40 : Value).ownBlock) ∧ some k_ ≠ (.slice Ao119 t287.length co119 : Value).ownBlock)) (n := t291.length) (c := co127) ?_).2.2; exact (xrt (Kd.R_mono (Kd.R_far (p := ⟨gb295, 1, none⟩) (Kd.R_far (p := ⟨gb295, 0, none⟩) (Kd.R_types HO293.out BK295.out (by decide)) (fun _ hk => hk.2) (.int .i64 t290)) (fun _ hk => hk.2) (.slice Ao127 t291.length co127)) (fun _ h_ => h_.1)))); (case side2 => exact (Kd.R_reads' HO293.out).2.1); (case side3 => refine (Kd.R_reads' (e := 134) (base := w.heap.size) (ok := fun k_ => (((some k_ ≠ (.slice Ao33 t281.length co33 : Value).ownBlock ∧ some k_ ≠ (.slice Ao40 t269.length co40 : Value).ownBlock) ∧ some k_ ≠ (.slice Ao119 t287.length co119 : Value).ownBlock) ∧ some k_ ≠ (.slice Ao127 t291.length co127 : Value).ownBlock)) (n := t258.length) (c := co26) ?_).2.2; exact (xrt (Kd.R_mono (Kd.R_far (p := ⟨gb295, 1, none⟩) (Kd.R_far (p := ⟨gb295, 0, none⟩) (Kd.R_types HO_263001.out BK295.out (by decide)) (fun _ hk => hk.2) (.int .i64 t290)) (fun _ hk => hk.2) (.slice Ao127 t291.length co127)) (fun _ h_ => h_.1)))); (case side4 => exact (Kd.R_reads' HO_263001.out).2.1); rintro e w149 ⟨rfl, hb⟩; refine ⟨_, rfl, ?_⟩; replace HO_263001 := aM (Kd.R_below (xrt (Kd.R_mono (Kd.R_far (p := ⟨gb295, 1, none⟩) (Kd.R_far (p := ⟨gb295, 0, none⟩) (Kd.R_types HO_263001.out BK295.out (by decide)) (fun _ hk => hk.2) (.int .i64 t290)) (fun _ hk => hk.2) (.slice Ao127 t291.length co127)) (fun _ h_ => h_.1))) hb); replace HO_268001 := aM (Kd.R_below (xrt (Kd.R_mono (Kd.R_far (p := ⟨gb295, 1, none⟩) (Kd.R_far (p := ⟨gb295, 0, none⟩) (Kd.R_types HO_268001.out BK295.out (by decide)) (fun _ hk => hk.2) (.int .i64 t290)) (fun _ hk => hk.2) (.slice Ao127 t291.length co127)) (fun _ h_ => h_.1))) hb); replace HO_274001 := aM (Kd.R_below (xrt (Kd.R_mono (Kd.R_far (p := ⟨gb295, 1, none⟩) (Kd.R_far (p := ⟨gb295, 0, none⟩) (Kd.R_types HO_274001.out BK295.out (by decide)) (fun _ hk => hk.2) (.int .i64 t290)) (fun _ hk => hk.2) (.slice Ao127 t291.length co127)) (fun _ h_ => h_.1))) hb); replace HO289 := aM (Kd.R_below (xrt (Kd.R_mono (Kd.R_far (p := ⟨gb295, 1, none⟩) (Kd.R_far (p := ⟨gb295, 0, none⟩) (Kd.R_types HO289.out BK295.out (by decide)) (fun _ hk => hk.2) (.int .i64 t290)) (fun _ hk => hk.2) (.slice Ao127 t291.length co127)) (fun _ h_ => h_.1))) hb); replace HO293 := aM (Kd.R_below (xrt (Kd.R_mono (Kd.R_far (p := ⟨gb295, 1, none⟩) (Kd.R_far (p := ⟨gb295, 0, none⟩) (Kd.R_types HO293.out BK295.out (by decide)) (fun _ hk => hk.2) (.int .i64 t290)) (fun _ hk => hk.2) (.slice Ao127 t291.length co127)) (fun _ h_ => h_.1))) hb); replace BK251 := aM (blk_below (g := gb251) (o := .cells #[.int .i64 a0_0, .slice A0_1 l0_1.length c0_1] 66 (0, 0)) (by (with_reducible repeat (first | refine blk_drewN ?_ _ | refine blk_drew ?_ | refine blk_alloc ?_ _)); refine blk_far ?_ NB251_295.out _; (with_reducible repeat (first | refine blk_drewN ?_ _ | refine blk_drew ?_ | refine blk_alloc ?_ _)); refine blk_far ?_ NB251_295.out _; (with_reducible repeat (first | refine blk_drewN ?_ _ | refine blk_drew ?_ | refine blk_alloc ?_ _)); exact BK251.out) hb); replace BK262 := aM (blk_below (g := gb262) (o := .cells #[.int .i64 t257, .slice Ao26 t258.length co26] 70 (0, 0)) (by (with_reducible repeat (first | refine blk_drewN ?_ _ | refine blk_drew ?_ | refine blk_alloc ?_ _)); refine blk_far ?_ NB262_295.out _; (with_reducible repeat (first | refine blk_drewN ?_ _ | refine blk_drew ?_ | refine blk_alloc ?_ _)); refine blk_far ?_ NB262_295.out _; (with_reducible repeat (first | refine blk_drewN ?_ _ | refine blk_drew ?_ | refine blk_alloc ?_ _)); exact BK262.out) hb); replace BK267 := aM (blk_below (g := gb267) (o := .cells #[.int .i64 t263, .slice Ao33 t281.length co33] 70 (0, 0)) (by (with_reducible repeat (first | refine blk_drewN ?_ _ | refine blk_drew ?_ | refine blk_alloc ?_ _)); refine blk_far ?_ NB267_295.out _; (with_reducible repeat (first | refine blk_drewN ?_ _ | refine blk_drew ?_ | refine blk_alloc ?_ _)); refine blk_far ?_ NB267_295.out _; (with_reducible repeat (first | refine blk_drewN ?_ _ | refine blk_drew ?_ | refine blk_alloc ?_ _)); exact BK267.out) hb); replace BK273 := aM (blk_below (g := gb273) (o := .cells #[.int .i64 t268, .slice Ao40 t269.length co40] 70 (0, 0)) (by (with_reducible repeat (first | refine blk_drewN ?_ _ | refine blk_drew ?_ | refine blk_alloc ?_ _)); refine blk_far ?_ NB273_295.out _; (with_reducible repeat (first | refine blk_drewN ?_ _ | refine blk_drew ?_ | refine blk_alloc ?_ _)); refine blk_far ?_ NB273_295.out _; (with_reducible repeat (first | refine blk_drewN ?_ _ | refine blk_drew ?_ | refine blk_alloc ?_ _)); exact BK273.out) hb); replace BK295 := aM (blk_below (g := gb295) (o := .cells #[.int .i64 t290, .slice Ao127 t291.length co127] 70 (0, 0)) (by (with_reducible repeat (first | refine blk_drewN ?_ _ | refine blk_drew ?_ | refine blk_alloc ?_ _)); refine blk_put (cs := #[.int .i64 t290, .slice none 0 0]) ?_ 1 _ rfl; (with_reducible repeat (first | refine blk_drewN ?_ _ | refine blk_drew ?_ | refine blk_alloc ?_ _)); refine blk_put (cs := #[.int .i64 0, .slice none 0 0]) ?_ 0 _ rfl; (with_reducible repeat (first | refine blk_drewN ?_ _ | refine blk_drew ?_ | refine blk_alloc ?_ _)); exact BK295.out) hb); replace HB := xbs hb; (try clear hb); (try clear hb2); (try clear hk); (try clear hi)))
              go_meet
              case rel => exact ⟨_, (true), (by first | rfl | (simp; done) | (simp [*]; done)), H', ⟨by have := HJ14.out; have := HJ63.out; first | omega | exact Nat.le_refl _⟩, ⟨by (try simp only [hl268001_63]); (with_reducible repeat (first | apply Kd.R_alloc | apply Kd.R_drewN | apply Kd.R_drew)); exact Kd.R_mono HO_263001.out (fun _ hk => ⟨hk.1.1.1, ⟨hk.1.1.2, hk.2⟩⟩)⟩, ⟨by (try simp only [hl268001_63]); (with_reducible repeat (first | apply Kd.R_alloc | apply Kd.R_drewN | apply Kd.R_drew)); exact Kd.R_mono HO_268001.out (fun _ hk => ⟨hk.1.1.1, ⟨hk.1.1.2, hk.2⟩⟩)⟩, ⟨by (try simp only [hl268001_63]); (with_reducible repeat (first | apply Kd.R_alloc | apply Kd.R_drewN | apply Kd.R_drew)); exact Kd.R_mono HO_274001.out (fun _ hk => ⟨hk.1.1.1, ⟨hk.1.1.2, hk.2⟩⟩)⟩, ⟨by (try simp only [hl268001_63]); (with_reducible repeat (first | apply Kd.R_alloc | apply Kd.R_drewN | apply Kd.R_drew)); exact Kd.R_mono HO293.out (fun _ hk => ⟨hk.1.1.1.2, ⟨hk.1.1.2, hk.1.2⟩⟩)⟩, ⟨by (try simp only [hl268001_63]); (with_reducible repeat (first | refine blk_drewN ?_ _ | refine blk_drew ?_ | refine blk_alloc ?_ _)); exact BK251.out⟩, ⟨by (try simp only [hl268001_63]); (with_reducible repeat (first | refine blk_drewN ?_ _ | refine blk_drew ?_ | refine blk_alloc ?_ _)); exact BK262.out⟩, ⟨by (try simp only [hl268001_63]); (with_reducible repeat (first | refine blk_drewN ?_ _ | refine blk_drew ?_ | refine blk_alloc ?_ _)); exact BK267.out⟩, ⟨by (try simp only [hl268001_63]); (with_reducible repeat (first | refine blk_drewN ?_ _ | refine blk_drew ?_ | refine blk_alloc ?_ _)); exact BK273.out⟩, ⟨by (try simp only [hl268001_63]); (with_reducible repeat (first | refine blk_drewN ?_ _ | refine blk_drew ?_ | refine blk_alloc ?_ _)); exact BK295.out⟩, ⟨xbg⟩⟩
            case rest =>
             clear HC107
             try clear c1
             try clear c2
             try clear p2
             try clear c3
             try clear c4
             try clear c4b0
             try clear c4b1
             try clear c5
             try clear c6
             try clear c7
             try clear c7b0
             try clear c8
             try clear c9
             try clear c10
             try clear c11
             try clear c12
             try clear c13
             try clear c14
             try clear c24
             try clear c30
             try clear c31
             try clear c36
             try clear c37
             try clear c38
             try clear c39
             try clear c40
             try clear c41
             try clear c42
             try clear c43
             try clear c44
             try clear c45
             try clear c47
             try clear c48
             try clear c51
             try clear c52
             try clear c53
             try clear c55
             try clear c56
             try clear c59
             try clear c62
             try clear c69
             try clear c70
             try clear c71
             try clear c74
             try clear c74b0
             try clear c76
             try clear c77
             try clear c78
             try clear c79
             try clear c81
             try clear c82
             try clear c85
             try clear c86
             try clear c87
             try clear c89
             try clear c90
             try clear c93
             try clear c96
             try clear c96b0
             try clear c97
             try clear c98
             try clear c99
             try clear c104
             try clear c104b0
             try clear c104b1
             try clear c108
             try clear c109
             try clear c110
             try clear c115
             try clear c116
             try clear c122
             try clear c123
             try clear c124
             try clear c125
             try clear c129
             try clear c130
             try clear c131
             try clear c132
             try clear c133
             try clear c135
             try clear c136
             try clear c137
             try clear c140
             try clear c141
             try clear c142
             try clear c143
             try clear c145
             try clear c146
             try clear c147
             try clear hcz100_0
             try clear hcz100_1
             try clear hcz102_0
             try clear hcz102_1
             try clear hcz111_0
             try clear hcz111_1
             try clear hcz113_0
             try clear hcz113_1
             try clear hcz117_0
             try clear hcz117_1
             try clear hcz126_0
             try clear hcz126_1
             try clear hcz134_0
             try clear hcz134_1
             try clear hcz138_0
             try clear hcz138_1
             try clear hcz144_0
             try clear hcz144_1
             try clear hcz148_0
             try clear hcz148_1
             try clear hcz17_0
             try clear hcz17_1
             try clear hcz19_0
             try clear hcz19_1
             try clear hcz25_0
             try clear hcz25_1
             try clear hcz27_0
             try clear hcz27_1
             try clear hcz32_0
             try clear hcz32_1
             try clear hcz39_0
             try clear hcz39_1
             try clear hcz46_0
             try clear hcz46_1
             try clear hcz49_0
             try clear hcz49_1
             try clear hcz54_0
             try clear hcz54_1
             try clear hcz57_0
             try clear hcz57_1
             try clear hcz72_0
             try clear hcz72_1
             try clear hcz80_0
             try clear hcz80_1
             try clear hcz83_0
             try clear hcz83_1
             try clear hcz88_0
             try clear hcz88_1
             try clear hcz91_0
             try clear hcz91_1
             try clear hcz9_0
             try clear hcz9_1
             try clear hfz100_0
             try clear hfz100_1
             try clear hfz102_0
             try clear hfz102_1
             try clear hfz111_0
             try clear hfz111_1
             try clear hfz113_0
             try clear hfz113_1
             try clear hfz117_0
             try clear hfz117_1
             try clear hfz126_0
             try clear hfz126_1
             try clear hfz134_0
             try clear hfz134_1
             try clear hfz138_0
             try clear hfz138_1
             try clear hfz144_0
             try clear hfz144_1
             try clear hfz148_0
             try clear hfz148_1
             try clear hfz17_0
             try clear hfz17_1
             try clear hfz19_0
             try clear hfz19_1
             try clear hfz25_0
             try clear hfz25_1
             try clear hfz27_0
             try clear hfz27_1
             try clear hfz32_0
             try clear hfz32_1
             try clear hfz39_0
             try clear hfz39_1
             try clear hfz46_0
             try clear hfz46_1
             try clear hfz49_0
             try clear hfz49_1
             try clear hfz54_0
             try clear hfz54_1
             try clear hfz57_0
             try clear hfz57_1
             try clear hfz72_0
             try clear hfz72_1
             try clear hfz80_0
             try clear hfz80_1
             try clear hfz83_0
             try clear hfz83_1
             try clear hfz88_0
             try clear hfz88_1
             try clear hfz91_0
             try clear hfz91_1
             try clear hfz9_0
             try clear hfz9_1
             try clear p2
             obtain ⟨kq, x100_106, rfl, HA, HJ106, HO_263001, HO_268001, HO_274001, HO_296001, BK251, BK262, BK267, BK273, BK295, HB⟩ := hcut
             have hl274001_106 := (Kd.R_reads' HO_274001.out).1
             rw [hl274001_106] at HO_274001
             (try simp only [hl274001_106])
             (try simp only [hl274001_106] at BK251)
             (try simp only [hl274001_106] at BK262)
             (try simp only [hl274001_106] at BK267)
             (try simp only [hl274001_106] at BK273)
             (try simp only [hl274001_106] at BK295)
             (try simp only [hl274001_106] at HO_263001)
             (try simp only [hl274001_106] at HO_268001)
             (try simp only [hl274001_106] at HO_296001)
             cases kq with
             | zero => exact absurd HA.out (by simp [laws_FnExactDiskAppend.j2])
             | succ kj106 =>
              have H := HA.out; clear HA
              simp only [laws_FnExactDiskAppend.j2] at H
              by_cases c150 : x100_106 = true
              ·subst c150
               have H1 : (some false) = some r := by rw [if_pos rfl] at H; exact H
               clear H; have H := H1; clear H1
               obtain rfl := Option.some.inj H
               go_wp2
               go_ret
               exact ⟨by first | rfl | (simp [errW_none, errW_some] <;> rfl) | (simp [*, errW_none, errW_some] <;> rfl), xbg⟩
              ·replace c150 := Bool.eq_false_iff.mpr c150
               subst c150
               have H1 : ((laws_heldDisk.f kj106 t268 t284 1).bind fun t297 => (if t297 < 0 then (some false) else (if t297 = t283 then (some true) else (some false)))) = some r := by rw [if_neg (show ¬ (false = true) by decide)] at H; exact H
               clear H; have H := H1; clear H1; replace H := Option.bind_eq_some_iff.mp H
               obtain ⟨t297, A1510, H⟩ := H
               replace H : (if t297 < 0 then (some false) else (if t297 = t283 then (some true) else (some false))) = some r := H; have A151 := aM A1510; clear A1510
               by_cases c152 : t297 < 0
               ·rw [if_pos c152] at H
                have c152b0 : decide (t297 < 0) = true := decide_eq_true c152; clear c152
                obtain rfl := Option.some.inj H
                have hnb153 := NB273_251.out; have hnc153 := NB251_273.out; have hnb154 := NB273_262.out; have hnc154 := NB262_273.out; have hnb155 := NB273_267.out; have hnc155 := NB267_273.out; have hnb156 := NB273_295.out; have hnc156 := NB295_273.out; have hcz157_0 : wc.cell? ⟨gb273, 0, none⟩ = some (.int .i64 t268) := xc BK273 0 rfl; have hcz157_1 : wc.cell? ⟨gb273, 1, none⟩ = some (.slice Ao40 t284.length co40) := xc BK273 1 rfl; have hfz157_0 := blk_frozen BK273.out 0; have hfz157_1 := blk_frozen BK273.out 1
                go_wp2_with (first | ((with_reducible refine gate_callee (f := 43) rfl ?_); refine goesL_ (some 103) rfl rfl Try.func43 (by kernel_rfl) rfl #[.agg #[.int .i64 t268, .slice Ao40 t284.length co40], .int .i64 1] rfl (by (try simp only [List.map_toArray, List.map_cons, List.map_nil]); first | done | rfl | (simp only [List.length_drop, List.length_take]; rfl)) ?_; (with_reducible refine (laws_heldDisk.calls kj106 t268 _ _ t284 1 t297 _ ?side1 ?side2 A151.out).mono ?_); (case side1 => repeat (first | exact (Kd.R_reads' HO_274001.out).2.2 | (with_reducible refine Kd.C_alloc ?_ _) | (with_reducible refine Kd.C_drewN ?_ _) | (with_reducible refine Kd.C_drew ?_))); (case side2 => exact (Kd.R_reads' HO_274001.out).2.1); rintro e w158 ⟨rfl, hb⟩; refine ⟨_, rfl, ?_⟩; replace HO_263001 := aM (Kd.R_below (xr HO_263001) hb); replace HO_268001 := aM (Kd.R_below (xr HO_268001) hb); replace HO_274001 := aM (Kd.R_below (xr HO_274001) hb); replace HO_296001 := aM (Kd.R_below (xr HO_296001) hb); replace BK251 := xbb BK251 hb; replace BK262 := xbb BK262 hb; replace BK267 := xbb BK267 hb; replace BK273 := xbb BK273 hb; replace BK295 := xbb BK295 hb; replace HB := xbs hb; (try clear hb); (try clear hb2); (try clear hk); (try clear hi)))
                go_ret
                exact ⟨by first | rfl | (simp [errW_none, errW_some] <;> rfl) | (simp [*, errW_none, errW_some] <;> rfl), xbg⟩
               ·rw [if_neg c152] at H
                have c152b0 : decide (t297 < 0) = false := decide_eq_false c152; clear c152
                by_cases c159 : t297 = t283
                ·rw [if_pos c159] at H
                 have c159b0 : (t297 == t283) = true := beq_iff_eq.mpr c159; have c159b1 : (t297 != t283) = false := bne_eq_false_iff_eq.mpr c159; clear c159
                 obtain rfl := Option.some.inj H
                 have hnb160 := NB273_251.out; have hnc160 := NB251_273.out; have hnb161 := NB273_262.out; have hnc161 := NB262_273.out; have hnb162 := NB273_267.out; have hnc162 := NB267_273.out; have hnb163 := NB273_295.out; have hnc163 := NB295_273.out; have hcz164_0 : wc.cell? ⟨gb273, 0, none⟩ = some (.int .i64 t268) := xc BK273 0 rfl; have hcz164_1 : wc.cell? ⟨gb273, 1, none⟩ = some (.slice Ao40 t284.length co40) := xc BK273 1 rfl; have hfz164_0 := blk_frozen BK273.out 0; have hfz164_1 := blk_frozen BK273.out 1
                 go_wp2_with (first | ((with_reducible refine gate_callee (f := 43) rfl ?_); refine goesL_ (some 103) rfl rfl Try.func43 (by kernel_rfl) rfl #[.agg #[.int .i64 t268, .slice Ao40 t284.length co40], .int .i64 1] rfl (by (try simp only [List.map_toArray, List.map_cons, List.map_nil]); first | done | rfl | (simp only [List.length_drop, List.length_take]; rfl)) ?_; (with_reducible refine (laws_heldDisk.calls kj106 t268 _ _ t284 1 t297 _ ?side1 ?side2 A151.out).mono ?_); (case side1 => repeat (first | exact (Kd.R_reads' HO_274001.out).2.2 | (with_reducible refine Kd.C_alloc ?_ _) | (with_reducible refine Kd.C_drewN ?_ _) | (with_reducible refine Kd.C_drew ?_))); (case side2 => exact (Kd.R_reads' HO_274001.out).2.1); rintro e w165 ⟨rfl, hb⟩; refine ⟨_, rfl, ?_⟩; replace HO_263001 := aM (Kd.R_below (xr HO_263001) hb); replace HO_268001 := aM (Kd.R_below (xr HO_268001) hb); replace HO_274001 := aM (Kd.R_below (xr HO_274001) hb); replace HO_296001 := aM (Kd.R_below (xr HO_296001) hb); replace BK251 := xbb BK251 hb; replace BK262 := xbb BK262 hb; replace BK267 := xbb BK267 hb; replace BK273 := xbb BK273 hb; replace BK295 := xbb BK295 hb; replace HB := xbs hb; (try clear hb); (try clear hb2); (try clear hk); (try clear hi)))
                 go_ret
                 exact ⟨by first | rfl | (simp [errW_none, errW_some] <;> rfl) | (simp [*, errW_none, errW_some] <;> rfl), xbg⟩
                ·rw [if_neg c159] at H
                 have c159b0 : (t297 == t283) = false := beq_eq_false_iff_ne.mpr c159; have c159b1 : (t297 != t283) = true := bne_iff_ne.mpr c159
                 obtain rfl := Option.some.inj H
                 have hnb166 := NB273_251.out; have hnc166 := NB251_273.out; have hnb167 := NB273_262.out; have hnc167 := NB262_273.out; have hnb168 := NB273_267.out; have hnc168 := NB267_273.out; have hnb169 := NB273_295.out; have hnc169 := NB295_273.out; have hcz170_0 : wc.cell? ⟨gb273, 0, none⟩ = some (.int .i64 t268) := xc BK273 0 rfl; have hcz170_1 : wc.cell? ⟨gb273, 1, none⟩ = some (.slice Ao40 t284.length co40) := xc BK273 1 rfl; have hfz170_0 := blk_frozen BK273.out 0; have hfz170_1 := blk_frozen BK273.out 1
                 go_wp2_with (first | ((with_reducible refine gate_callee (f := 43) rfl ?_); refine goesL_ (some 103) rfl rfl Try.func43 (by kernel_rfl) rfl #[.agg #[.int .i64 t268, .slice Ao40 t284.length co40], .int .i64 1] rfl (by (try simp only [List.map_toArray, List.map_cons, List.map_nil]); first | done | rfl | (simp only [List.length_drop, List.length_take]; rfl)) ?_; (with_reducible refine (laws_heldDisk.calls kj106 t268 _ _ t284 1 t297 _ ?side1 ?side2 A151.out).mono ?_); (case side1 => repeat (first | exact (Kd.R_reads' HO_274001.out).2.2 | (with_reducible refine Kd.C_alloc ?_ _) | (with_reducible refine Kd.C_drewN ?_ _) | (with_reducible refine Kd.C_drew ?_))); (case side2 => exact (Kd.R_reads' HO_274001.out).2.1); rintro e w171 ⟨rfl, hb⟩; refine ⟨_, rfl, ?_⟩; replace HO_263001 := aM (Kd.R_below (xr HO_263001) hb); replace HO_268001 := aM (Kd.R_below (xr HO_268001) hb); replace HO_274001 := aM (Kd.R_below (xr HO_274001) hb); replace HO_296001 := aM (Kd.R_below (xr HO_296001) hb); replace BK251 := xbb BK251 hb; replace BK262 := xbb BK262 hb; replace BK267 := xbb BK267 hb; replace BK273 := xbb BK273 hb; replace BK295 := xbb BK295 hb; replace HB := xbs hb; (try clear hb); (try clear hb2); (try clear hk); (try clear hi)))
                 go_ret
                 exact ⟨by first | rfl | (simp [errW_none, errW_some] <;> rfl) | (simp [*, errW_none, errW_some] <;> rfl), xbg⟩
           ·rw [if_neg c104] at H
            have c104b0 : (t285 == t283) = false := beq_eq_false_iff_ne.mpr c104; have c104b1 : (t285 != t283) = true := bne_iff_ne.mpr c104
            obtain rfl := Option.some.inj H
            have hnb172 := NB273_251.out; have hnc172 := NB251_273.out; have hnb173 := NB273_262.out; have hnc173 := NB262_273.out; have hnb174 := NB273_267.out; have hnc174 := NB267_273.out; have hcz175_0 : wc.cell? ⟨gb273, 0, none⟩ = some (.int .i64 t268) := xc BK273 0 rfl; have hcz175_1 : wc.cell? ⟨gb273, 1, none⟩ = some (.slice Ao40 t269.length co40) := xc BK273 1 rfl; have hfz175_0 := blk_frozen BK273.out 0; have hfz175_1 := blk_frozen BK273.out 1
            go_wp2_with (first | ((with_reducible refine gate_callee (f := 42) rfl ?_); refine goesL_ (some 75) rfl rfl Try.func42 (by kernel_rfl) rfl #[.agg #[.int .i64 t268, .slice Ao40 t269.length co40], .int .i64 1] rfl (by (try simp only [List.map_toArray, List.map_cons, List.map_nil]); first | done | rfl | (simp only [List.length_drop, List.length_take]; rfl)) ?_; (with_reducible refine (laws_markDisk.calls kj63 t268 (fun k_ => some k_ = (.slice Ao40 t269.length co40 : Value).ownBlock) (.slice Ao40 t269.length co40) t269 1 t283 t284 w _ ?side1 ?side2 A94.out).mono ?_); (case side1 => repeat (first | (with_reducible first | exact HB.out | apply below_alloc | apply pw_below_drewN | apply below_drew1 | refine below_set ?_ GE251.out | refine below_set ?_ GE262.out | refine below_set ?_ GE267.out | refine below_set ?_ GE273.out) | exact HB.out)); (case side2 => exact Kd.R_tight rfl HO_274001.out); rintro e w176 ⟨rfl, hy0, hb, hkp⟩; refine ⟨_, rfl, ?_⟩; have n0_ := aM (Kd.R_mono (ok' := fun k_ => some k_ ≠ (.slice Ao33 t281.length co33 : Value).ownBlock ∧ some k_ ≠ (.slice Ao40 t269.length co40 : Value).ownBlock) (Kd.R_keptB (HO_263001.out) hkp (fun k_ hk_ hs_ => (hk_.2) hs_)) (fun k_ hk_ => ⟨hk_.1.1, hk_.1.2⟩)); have n1_ := aM (Kd.R_mono (ok' := fun k_ => some k_ ≠ (.slice Ao26 t258.length co26 : Value).ownBlock ∧ some k_ ≠ (.slice Ao40 t269.length co40 : Value).ownBlock) (Kd.R_keptB (HO_268001.out) hkp (fun k_ hk_ hs_ => (hk_.2) hs_)) (fun k_ hk_ => ⟨hk_.1.1, hk_.1.2⟩)); have n2_ := aM (Kd.R_reok rfl hy0 (fun k_ e_ => HO_274001.out.1 k_ e_)); have n3_ := aM (blk_kept xblk hkp (fun hs_ => (fun e_ => (Kd.R_ne HO_274001.out BK251.out (by decide)) e_) hs_)); have n4_ := aM (blk_kept xblk hkp (fun hs_ => (fun e_ => (Kd.R_ne HO_274001.out BK262.out (by decide)) e_) hs_)); have n5_ := aM (blk_kept xblk hkp (fun hs_ => (fun e_ => (Kd.R_ne HO_274001.out BK267.out (by decide)) e_) hs_)); have n6_ := aM (blk_kept xblk hkp (fun hs_ => (fun e_ => (Kd.R_ne HO_274001.out BK273.out (by decide)) e_) hs_)); have n7_ := aM (hb); clear HO_263001; clear HO_268001; clear HO_274001; clear BK251; clear BK262; clear BK267; clear BK273; clear HB; have HO_263001 := n0_; have HO_268001 := n1_; have HO_274001 := n2_; have BK251 := n3_; have BK262 := n4_; have BK267 := n5_; have BK273 := n6_; have HB := n7_; clear n0_ n1_ n2_ n3_ n4_ n5_ n6_ n7_; (try clear hb); (try clear hkp); (try clear hy0); have hcz177_0 : w176.cell? ⟨gb273, 0, none⟩ = some (.int .i64 t268) := xc BK273 0 rfl; have hcz177_1 : w176.cell? ⟨gb273, 1, none⟩ = some (.slice Ao40 t269.length co40) := xc BK273 1 rfl; have hfz177_0 := blk_frozen BK273.out 0; have hfz177_1 := blk_frozen BK273.out 1) | ((with_reducible refine gate_callee (f := 43) rfl ?_); refine goesL_ (some 78) rfl rfl Try.func43 (by kernel_rfl) rfl #[.agg #[.int .i64 t268, .slice Ao40 t284.length co40], .int .i64 1] rfl (by (try simp only [List.map_toArray, List.map_cons, List.map_nil]); first | done | (rw [show t284.length = t269.length from (Kd.R_reads' HO_274001.out).1.symm] <;> rfl) | rfl | (simp only [List.length_drop, List.length_take]; rfl)) ?_; (with_reducible refine (laws_heldDisk.calls kj63 t268 _ _ t284 1 t285 _ ?side1 ?side2 A95.out).mono ?_); (case side1 => repeat (first | exact (Kd.R_reads' HO_274001.out).2.2 | (with_reducible refine Kd.C_alloc ?_ _) | (with_reducible refine Kd.C_drewN ?_ _) | (with_reducible refine Kd.C_drew ?_))); (case side2 => rw [show t284.length = t269.length from (Kd.R_reads' HO_274001.out).1.symm]; exact (Kd.R_reads' HO_274001.out).2.1); rintro e w178 ⟨rfl, hb⟩; refine ⟨_, rfl, ?_⟩; replace HO_263001 := aM (Kd.R_below (xr HO_263001) hb); replace HO_268001 := aM (Kd.R_below (xr HO_268001) hb); replace HO_274001 := aM (Kd.R_below (xr HO_274001) hb); replace BK251 := xbb BK251 hb; replace BK262 := xbb BK262 hb; replace BK267 := xbb BK267 hb; replace BK273 := xbb BK273 hb; replace HB := xbs hb; (try clear hb); (try clear hb2); (try clear hk); (try clear hi)))
            go_ret
            exact ⟨by first | rfl | (simp [errW_none, errW_some] <;> rfl) | (simp [*, errW_none, errW_some] <;> rfl), xbg⟩
      ·replace c62 := Bool.eq_false_iff.mpr c62
       subst c62
       have H1 : (some false) = some r := by rw [if_neg (show ¬ (false = true) by decide)] at H; exact H
       clear H; have H := H1; clear H1
       obtain rfl := Option.some.inj H
       try go_wp2
       replace HO_263001 := aM (Kd.R_drew HO_263001.out); replace HO_268001 := aM (Kd.R_drew HO_268001.out); replace HO_274001 := aM (Kd.R_drew HO_274001.out); replace BK251 := aM (blk_drew BK251.out); replace BK262 := aM (blk_drew BK262.out); replace BK267 := aM (blk_drew BK267.out); replace BK273 := aM (blk_drew BK273.out); replace HB := aM (below_drew1 HB.out)
       refine start_ (n := 5) (S := fun w' => w'.cell? ⟨gb267, 0, none⟩ = some (.int .i64 t263) ∧ w'.cell? ⟨gb267, 1, none⟩ = some (.slice Ao33 t264.length co33) ∧ w'.cell? ⟨gb251, 0, none⟩ = some (.int .i64 a0_0) ∧ w'.cell? ⟨gb251, 1, none⟩ = some (.slice A0_1 l0_1.length c0_1)) (ds := []) #[false, false, false, false, false] (by kernel_rfl) rfl rfl ⟨xc BK267 0 rfl, xc BK267 1 rfl, xc BK251 0 rfl, xc BK251 1 rfl⟩ (fun hHeld => ?_)
       generalize wc.drew = w179 at HO_263001 HO_268001 HO_274001 BK251 BK262 BK267 BK273 HB hHeld ⊢
       refine take_ (i := 0) (N := some 52) (v := ?_) (a' := ?_) #[true, false, false, false, false] rfl rfl (by kernel_rfl) (fun _ _ _ h => h) (Or.inl ⟨by rfl, ?_⟩) hHeld ?_ ?_
       rotate_left
       ·rintro w' ⟨s0, s1, s2, s3⟩
        go_simp
        with_reducible rfl
       rotate_left
       ·simp only [Act.put, List.setIfInBounds_toArray, List.set_cons_zero, List.set_cons_succ, i64_w, i32_w]
        rfl
       refine take_ (i := 1) (N := some 53) (v := ?_) (a' := ?_) #[true, true, false, false, false] rfl rfl (by kernel_rfl) (fun _ _ _ h => h) (Or.inl ⟨by rfl, ?_⟩) hHeld ?_ ?_
       rotate_left
       ·rintro w' ⟨s0, s1, s2, s3⟩
        go_simp
        with_reducible rfl
       rotate_left
       ·simp only [Act.put, List.setIfInBounds_toArray, List.set_cons_zero, List.set_cons_succ, i64_w, i32_w]
        rfl
       refine one_ (i := 2) (N := some 54) #[true, true, true, false, false] rfl rfl (by kernel_rfl) (by decide) (fun K hK => ?_)
       refine goesY Try.func39 #[.agg #[.int .i64 a0_0, .slice A0_1 l0_1.length c0_1]] ?_
       with_reducible refine (laws_toDisk.calls kj14 a0_0 _ _ l0_1 t275 t276 _ ?side1 ?side2 A60.out).mono ?_
       (case side1 => exact xcb HR0_1)
       (case side2 => exact HC0_1.out)
       rintro e w180 ⟨v277, rfl, ho0, hb⟩
       refine ⟨_, rfl, ?_⟩
       have HO278 := aM (Kd.R_lower (Kd.R_new' (Kd.R_new' (Kd.R_new' ho0 (Kd.R_lt (xr HO_263001))) (Kd.R_lt (xr HO_268001))) (Kd.R_lt (xr HO_274001))) (below_size xbg)); replace HO_263001 := aM (Kd.R_elder' (xr HO_263001) (Kd.R_base ho0) hb); replace HO_268001 := aM (Kd.R_elder' (xr HO_268001) (Kd.R_base ho0) hb); replace HO_274001 := aM (Kd.R_elder' (xr HO_274001) (Kd.R_base ho0) hb); replace BK251 := xbb BK251 hb; replace BK262 := xbb BK262 hb; replace BK267 := xbb BK267 hb; replace BK273 := xbb BK273 hb; replace HB := xbs hb
       (try clear hb); (try clear hb2); (try clear hk); (try clear hi); (try clear ho0)
       obtain ⟨Ao181, co181, eo181⟩ := Kd.R_slice HO278.out
       (first | subst eo181 | (injection eo181 with f1_ f2_ f3_; have f4_ := f1_.symm; have f5_ := f3_.symm; clear f1_ f2_ f3_; subst f4_; subst f5_))
       refine hK.out _ _ ⟨xc BK267 0 rfl, xc BK267 1 rfl, xc BK251 0 rfl, xc BK251 1 rfl⟩ (fun hHeld => ?_)
       clear hK K
       refine norm_ (a' := ?_) ?_ ?_
       rotate_left
       ·show Act.put _ (some 54) _ = _
        simp only [Act.put, List.setIfInBounds_toArray, List.set_cons_zero, List.set_cons_succ, i64_w, i32_w]
        rfl
       refine one_ (i := 3) (N := some 55) #[true, true, true, true, false] rfl rfl (by kernel_rfl) (by decide) (fun K hK => ?_)
       refine goesY Try.func41 #[.agg #[.int .i64 t263, .slice Ao33 t264.length co33], .agg #[.int .i64 t275, .slice Ao181 t276.length co181]] ?_
       with_reducible refine (laws_eqDisk.calls kj14 t263 _ _ t264 t275 _ _ t276 false _ ?side1 ?side2 ?side3 ?side4 A61.out).mono ?_
       (case side1 => repeat (first | exact (Kd.R_reads' HO_268001.out).2.2 | (with_reducible refine Kd.C_alloc ?_ _) | (with_reducible refine Kd.C_drewN ?_ _) | (with_reducible refine Kd.C_drew ?_)))
       (case side2 => exact (Kd.R_reads' HO_268001.out).2.1)
       (case side3 => repeat (first | exact (Kd.R_reads' HO278.out).2.2 | (with_reducible refine Kd.C_alloc ?_ _) | (with_reducible refine Kd.C_drewN ?_ _) | (with_reducible refine Kd.C_drew ?_)))
       (case side4 => exact (Kd.R_reads' HO278.out).2.1)
       rintro e w182 ⟨rfl, hb⟩
       refine ⟨_, rfl, ?_⟩
       replace HO_263001 := aM (Kd.R_below (xr HO_263001) hb); replace HO_268001 := aM (Kd.R_below (xr HO_268001) hb); replace HO_274001 := aM (Kd.R_below (xr HO_274001) hb); replace HO278 := aM (Kd.R_below (xr HO278) hb); replace BK251 := xbb BK251 hb; replace BK262 := xbb BK262 hb; replace BK267 := xbb BK267 hb; replace BK273 := xbb BK273 hb; replace HB := xbs hb
       (try clear hb); (try clear hb2); (try clear hk); (try clear hi)
       refine hK.out _ _ ⟨xc BK267 0 rfl, xc BK267 1 rfl, xc BK251 0 rfl, xc BK251 1 rfl⟩ (fun hHeld => ?_)
       clear hK K
       refine norm_ (a' := ?_) ?_ ?_
       rotate_left
       ·show Act.put _ (some 55) _ = _
        simp only [Act.put, List.setIfInBounds_toArray, List.set_cons_zero, List.set_cons_succ, i64_w, i32_w]
        rfl
       refine pure_ (i := 4) (N := some 56) (v := ?_) (a' := ?_) #[true, true, true, true, true] rfl rfl (by kernel_rfl) (fun _ _ _ h => h) (Or.inl ⟨by rfl, ?_⟩) ?_ ?_
       rotate_left
       ·intro w'
        go_simp
        with_reducible rfl
       rotate_left
       ·simp only [Act.put, List.setIfInBounds_toArray, List.set_cons_zero, List.set_cons_succ, i64_w, i32_w]
        rfl
       refine done_ (by kernel_rfl) ?_
       try go_wp2
       go_ret
       exact ⟨by first | rfl | (simp [errW_none, errW_some] <;> rfl) | (simp [*, errW_none, errW_some] <;> rfl), xbg⟩

/-- THE ONE PURE STATEMENT of laws_FnExactDiskAppend. -/
def Q164 (x : S164) : Prop := (Lit.int .i64 x.f0).wf = true ∧ x.f1.size ≤ 140737488351232 ∧ x.f2.size ≤ 140737488351232
def Q66 (x : S66) : Prop := (Lit.int .i64 x.f0).wf = true ∧ (x.f1.length ≤ maxLen ∧ x.f1.length * 40 ≤ 140737488351232 ∧ ∀ x' ∈ x.f1, Q164 x')
def laws_FnExactDiskAppend.Pure : Prop := ∀ (a0_0 : Int) (l0_1 : List (S164)) (a1 : Int) (a2 : ByteArray), (Lit.int .i64 a0_0).wf = true → l0_1.length ≤ maxLen → l0_1.length * 40 ≤ 140737488351232 → (∀ x ∈ l0_1, Q164 x) → (Lit.int .i64 a1).wf = true → a2.size ≤ 140737488351232 → ∃ k, laws_FnExactDiskAppend.f k a0_0 l0_1 a1 a2 = some true
theorem laws_FnExactDiskAppend.walk (P : laws_FnExactDiskAppend.Pure) (a0_0 : Int) (A0_1 : Option Addr) (c0_1 : Nat) (l0_1 : List (S164)) (a1 : Int) (a2 : ByteArray) (w : World) (w0_0 : (Lit.int .i64 a0_0).wf = true) (hr0_1 : Kd.C k164 w A0_1 l0_1.length l0_1) (hc0_1 : l0_1.length ≤ c0_1) (hm0_1 : l0_1.length ≤ maxLen) (hz0_1 : l0_1.length * 40 ≤ 140737488351232) (hw0_1 : ∀ x ∈ l0_1, Q164 x) (w1 : (Lit.int .i64 a1).wf = true) (w2 : a2.size ≤ 140737488351232) :
 Calls Try.prog 6 #[.agg #[.int .i64 a0_0, .slice A0_1 l0_1.length c0_1], .int .i64 a1, .string a2] w fun e w' => e = .returned (.bool true) ∧ Below w.heap.size w w' := by
 obtain ⟨k, h⟩ := P a0_0 l0_1 a1 a2 w0_0 hm0_1 hz0_1 hw0_1 w1 w2
 refine (laws_FnExactDiskAppend.calls k a0_0 A0_1 c0_1 l0_1 a1 a2 true w hr0_1 hc0_1 h).mono ?_
 rintro e w' ⟨rfl, hd⟩
 exact ⟨rfl, hd⟩

end Go.Proofs.Ytnjpfllmcmomoaa.QFnExactDiskAppend
