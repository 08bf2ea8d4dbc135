-- A walk, by a program of this session.
import Derived.Test.YtnjpfllmcmomoaaQFnExactJournalMendx0
import Derived.Test.YtnjpfllmcmomoaaQFnExactJournalMendx1
import Derived.Test.YtnjpfllmcmomoaaQFnExactJournalMendx2
import Derived.Test.YtnjpfllmcmomoaaQFnExactJournalMendx7
import Derived.Test.YtnjpfllmcmomoaaQFnExactJournalMendx11
namespace Go.Proofs.Ytnjpfllmcmomoaa.QFnExactJournalMend
open Go.RowKit Go.Proofs.YtnjpfllmcmomoaaW.PrintWords Go.Proofs.YtnjpfllmcmomoaaW.PrintLast Go.Proofs.YtnjpfllmcmomoaaW.PrintMore
attribute [local go_sem] max2_int min2_int max_two min_two max_three min_three max_four min_four   -- for this text's walks alone
set_option linter.unusedVariables false
set_option linter.unusedSimpArgs false

/-! ### laws_FnExactJournalMend: function 10 -/
mutual
def laws_FnExactJournalMend.j0 : Nat → Int → Int → Int → Bool → Int → List (S164) → Int → List (S134) → Int → List (S134) → Int → List (S134) → Option (Bool)
 | 0, _, _, _, _, _, _, _, _, _, _, _, _ => none
 | k + 1, x1, x7, x10, x44, x399000, x399001, x410000, x410001, x415000, x415001, x421000, x421001 => if x44 = true then (some false) else ((laws_toDisk.f k x399000 x399001).bind fun bt422 => ((laws_eqDisk.f k x415000 x415001 bt422.1 bt422.2).bind fun t426 => (if t426 = true then ((laws_markDisk.f k x415000 x415001 1).bind fun bt427 => (if bt427.1 < 0 then (laws_FnExactJournalMend.j1 k x1 x7 true x399000 x399001 x410000 x410001 x421000 x421001) else ((laws_eqDisk.f k x421000 x421001 x410000 x410001).bind fun t429 => (if t429 = true then (laws_FnExactJournalMend.j1 k x1 x7 (x10 != x7) x399000 x399001 x410000 x410001 x421000 x421001) else (laws_FnExactJournalMend.j1 k x1 x7 true x399000 x399001 x410000 x410001 x421000 x421001))))) else (some false))))
def laws_FnExactJournalMend.j1 : Nat → Int → Int → Bool → Int → List (S164) → Int → List (S134) → Int → List (S134) → Option (Bool)
 | 0, _, _, _, _, _, _, _, _, _ => none
 | k + 1, x1, x7, x65, x399000, x399001, x410000, x410001, x421000, x421001 => if x65 = true then (some false) else ((laws_markDisk.f k x421000 x421001 1).bind fun bt430 => ((laws_heldDisk.f k x421000 bt430.2 1).bind fun t432 => (if t432 < 0 then (some false) else (if t432 = bt430.1 then ((laws_toDisk.f k x399000 x399001).bind fun bt433 => ((impl_JournalMend.f k bt433.1 bt433.2 x1).bind fun bt437 => ((laws_eqDisk.f k bt437.1 bt437.2.1 x410000 x410001).bind fun t443 => (if t443 = true then (laws_FnExactJournalMend.j2 k bt430.1 (bt437.2.2 != x7) x421000 bt430.2) else (laws_FnExactJournalMend.j2 k bt430.1 true x421000 bt430.2))))) else (some false)))))
def laws_FnExactJournalMend.j2 : Nat → Int → Bool → Int → List (S134) → Option (Bool)
 | 0, _, _, _, _ => none
 | k + 1, x12, x92, x421000, x421001 => if x92 = true then (some false) else ((laws_heldDisk.f k x421000 x421001 1).bind fun t444 => (if t444 < 0 then (some false) else (if t444 = x12 then (some true) else (some false))))
end
def laws_FnExactJournalMend.f (k : Nat) (a0_0 : Int) (l0_1 : List (S164)) (a1 : Int) : Option (Bool) := (laws_szDisk.f k a0_0 l0_1 1048576).bind fun t399 => (if t399 < 0 then (some true) else ((laws_toDisk.f k a0_0 l0_1).bind fun bt400 => ((spec_JournalMend.f k bt400.1 bt400.2 a1).bind fun bt404 => ((laws_toDisk.f k a0_0 l0_1).bind fun bt410 => ((impl_JournalMend.f k bt410.1 bt410.2 a1).bind fun bt415 => ((laws_eqDisk.f k bt415.1 bt415.2.1 bt404.1 bt404.2.1).bind fun t421 => (if t421 = true then (laws_FnExactJournalMend.j0 k a1 bt404.2.2 bt415.2.2 (bt415.2.2 != bt404.2.2) a0_0 l0_1 bt404.1 bt404.2.1 bt410.1 bt410.2 bt415.1 bt415.2.1) else (laws_FnExactJournalMend.j0 k a1 bt404.2.2 bt415.2.2 true a0_0 l0_1 bt404.1 bt404.2.1 bt410.1 bt410.2 bt415.1 bt415.2.1))))))))
set_option maxRecDepth 100000 in
theorem laws_FnExactJournalMend.mono_l : ∀ k, (∀ y0 y1 y2 y3 y4 y5 y6 y7 y8 y9 y10 y11, LeO (laws_FnExactJournalMend.j0 k y0 y1 y2 y3 y4 y5 y6 y7 y8 y9 y10 y11) (laws_FnExactJournalMend.j0 (k + 1) y0 y1 y2 y3 y4 y5 y6 y7 y8 y9 y10 y11)) ∧ (∀ y0 y1 y2 y3 y4 y5 y6 y7 y8, LeO (laws_FnExactJournalMend.j1 k y0 y1 y2 y3 y4 y5 y6 y7 y8) (laws_FnExactJournalMend.j1 (k + 1) y0 y1 y2 y3 y4 y5 y6 y7 y8)) ∧ (∀ y0 y1 y2 y3, LeO (laws_FnExactJournalMend.j2 k y0 y1 y2 y3) (laws_FnExactJournalMend.j2 (k + 1) y0 y1 y2 y3))
 | 0 => ⟨fun _ _ _ _ _ _ _ _ _ _ _ _ r h => by simp [laws_FnExactJournalMend.j0] at h, fun _ _ _ _ _ _ _ _ _ r h => by simp [laws_FnExactJournalMend.j1] at h, fun _ _ _ _ r h => by simp [laws_FnExactJournalMend.j2] at h⟩
 | k + 1 => by
  obtain ⟨ih0, ih1, ih2⟩ := laws_FnExactJournalMend.mono_l k
  refine ⟨?_, ?_, ?_⟩
  ·intro y0 y1 y2 y3 y4 y5 y6 y7 y8 y9 y10 y11
   unfold laws_FnExactJournalMend.j0
   repeat' first
   | (with_reducible exact ih0 _ _ _ _ _ _ _ _ _ _ _ _)
   | (with_reducible exact ih1 _ _ _ _ _ _ _ _ _)
   | (with_reducible exact ih2 _ _ _ _)
   | (with_reducible exact impl_JournalMend.mono _ _ _ _)
   | (with_reducible exact laws_eqDisk.mono _ _ _ _ _)
   | (with_reducible exact laws_heldDisk.mono _ _ _ _)
   | (with_reducible exact laws_markDisk.mono _ _ _ _)
   | (with_reducible exact laws_szDisk.mono _ _ _ _)
   | (with_reducible exact laws_toDisk.mono _ _ _)
   | (with_reducible exact spec_JournalMend.mono _ _ _ _)
   | (with_reducible exact LeO.refl _)
   | (with_reducible exact LeO.none _)
   | (with_reducible refine LeO.ite ?_ ?_)
   | (with_reducible refine LeO.bind ?_ (fun _ => ?_))
   | exact ih0 _ _ _ _ _ _ _ _ _ _ _ _
   | exact ih1 _ _ _ _ _ _ _ _ _
   | exact ih2 _ _ _ _
   | exact impl_JournalMend.mono _ _ _ _
   | exact laws_eqDisk.mono _ _ _ _ _
   | exact laws_heldDisk.mono _ _ _ _
   | exact laws_markDisk.mono _ _ _ _
   | exact laws_szDisk.mono _ _ _ _
   | exact laws_toDisk.mono _ _ _
   | exact spec_JournalMend.mono _ _ _ _
   | exact LeO.none _
   | refine LeO.ite ?_ ?_
   | refine LeO.bind ?_ (fun _ => ?_)
  ·intro y0 y1 y2 y3 y4 y5 y6 y7 y8
   unfold laws_FnExactJournalMend.j1
   repeat' first
   | (with_reducible exact ih0 _ _ _ _ _ _ _ _ _ _ _ _)
   | (with_reducible exact ih1 _ _ _ _ _ _ _ _ _)
   | (with_reducible exact ih2 _ _ _ _)
   | (with_reducible exact impl_JournalMend.mono _ _ _ _)
   | (with_reducible exact laws_eqDisk.mono _ _ _ _ _)
   | (with_reducible exact laws_heldDisk.mono _ _ _ _)
   | (with_reducible exact laws_markDisk.mono _ _ _ _)
   | (with_reducible exact laws_szDisk.mono _ _ _ _)
   | (with_reducible exact laws_toDisk.mono _ _ _)
   | (with_reducible exact spec_JournalMend.mono _ _ _ _)
   | (with_reducible exact LeO.refl _)
   | (with_reducible exact LeO.none _)
   | (with_reducible refine LeO.ite ?_ ?_)
   | (with_reducible refine LeO.bind ?_ (fun _ => ?_))
   | exact ih0 _ _ _ _ _ _ _ _ _ _ _ _
   | exact ih1 _ _ _ _ _ _ _ _ _
   | exact ih2 _ _ _ _
   | exact impl_JournalMend.mono _ _ _ _
   | exact laws_eqDisk.mono _ _ _ _ _
   | exact laws_heldDisk.mono _ _ _ _
   | exact laws_markDisk.mono _ _ _ _
   | exact laws_szDisk.mono _ _ _ _
   | exact laws_toDisk.mono _ _ _
   | exact spec_JournalMend.mono _ _ _ _
   | exact LeO.none _
   | refine LeO.ite ?_ ?_
   | refine LeO.bind ?_ (fun _ => ?_)
  ·intro y0 y1 y2 y3
   unfold laws_FnExactJournalMend.j2
   repeat' first
   | (with_reducible exact ih0 _ _ _ _ _ _ _ _ _ _ _ _)
   | (with_reducible exact ih1 _ _ _ _ _ _ _ _ _)
   | (with_reducible exact ih2 _ _ _ _)
   | (with_reducible exact impl_JournalMend.mono _ _ _ _)
   | (with_reducible exact laws_eqDisk.mono _ _ _ _ _)
   | (with_reducible exact laws_heldDisk.mono _ _ _ _)
   | (with_reducible exact laws_markDisk.mono _ _ _ _)
   | (with_reducible exact laws_szDisk.mono _ _ _ _)
   | (with_reducible exact laws_toDisk.mono _ _ _)
   | (with_reducible exact spec_JournalMend.mono _ _ _ _)
   | (with_reducible exact LeO.refl _)
   | (with_reducible exact LeO.none _)
   | (with_reducible refine LeO.ite ?_ ?_)
   | (with_reducible refine LeO.bind ?_ (fun _ => ?_))
   | exact ih0 _ _ _ _ _ _ _ _ _ _ _ _
   | exact ih1 _ _ _ _ _ _ _ _ _
   | exact ih2 _ _ _ _
   | exact impl_JournalMend.mono _ _ _ _
   | exact laws_eqDisk.mono _ _ _ _ _
   | exact laws_heldDisk.mono _ _ _ _
   | exact laws_markDisk.mono _ _ _ _
   | exact laws_szDisk.mono _ _ _ _
   | exact laws_toDisk.mono _ _ _
   | exact spec_JournalMend.mono _ _ _ _
   | exact LeO.none _
   | refine LeO.ite ?_ ?_
   | refine LeO.bind ?_ (fun _ => ?_)
theorem laws_FnExactJournalMend.mono : ∀ a0 a1 a2 k, LeO (laws_FnExactJournalMend.f k a0 a1 a2) (laws_FnExactJournalMend.f (k + 1) a0 a1 a2) := by
 intro a0 a1 a2 k
 obtain ⟨ih0, ih1, ih2⟩ := laws_FnExactJournalMend.mono_l k
 unfold laws_FnExactJournalMend.f
 repeat' first
  | (with_reducible exact ih0 _ _ _ _ _ _ _ _ _ _ _ _)
  | (with_reducible exact ih1 _ _ _ _ _ _ _ _ _)
  | (with_reducible exact ih2 _ _ _ _)
  | (with_reducible exact impl_JournalMend.mono _ _ _ _)
  | (with_reducible exact laws_eqDisk.mono _ _ _ _ _)
  | (with_reducible exact laws_heldDisk.mono _ _ _ _)
  | (with_reducible exact laws_markDisk.mono _ _ _ _)
  | (with_reducible exact laws_szDisk.mono _ _ _ _)
  | (with_reducible exact laws_toDisk.mono _ _ _)
  | (with_reducible exact spec_JournalMend.mono _ _ _ _)
  | (with_reducible exact LeO.refl _)
  | (with_reducible exact LeO.none _)
  | (with_reducible refine LeO.ite ?_ ?_)
  | (with_reducible refine LeO.bind ?_ (fun _ => ?_))
  | exact ih0 _ _ _ _ _ _ _ _ _ _ _ _
  | exact ih1 _ _ _ _ _ _ _ _ _
  | exact ih2 _ _ _ _
  | exact impl_JournalMend.mono _ _ _ _
  | exact laws_eqDisk.mono _ _ _ _ _
  | exact laws_heldDisk.mono _ _ _ _
  | exact laws_markDisk.mono _ _ _ _
  | exact laws_szDisk.mono _ _ _ _
  | exact laws_toDisk.mono _ _ _
  | exact spec_JournalMend.mono _ _ _ _
  | exact LeO.none _
  | refine LeO.ite ?_ ?_
  | refine LeO.bind ?_ (fun _ => ?_)
set_option maxHeartbeats 8000000 in
set_option maxRecDepth 100000 in
theorem laws_FnExactJournalMend.calls (k : Nat) (a0_0 : Int) (A0_1 : Option Addr) (c0_1 : Nat) (l0_1 : List (S164)) (a1 : Int) (r : Bool) (w : World) (hr0_1 : Kd.C k164 w A0_1 l0_1.length l0_1) (hc0_1 : l0_1.length ≤ c0_1) (h : laws_FnExactJournalMend.f k a0_0 l0_1 a1 = some r) :
 Calls Try.prog 10 #[.agg #[.int .i64 a0_0, .slice A0_1 l0_1.length c0_1], .int .i64 a1] w fun e w' => e = .returned (.bool r) ∧ Below w.heap.size w w' := by
 have hu66 := Try.underlying66
 have hu70 := Try.underlying70
 have HR0_1 := Aside0.mk hr0_1
 have HC0_1 := Aside0.mk hc0_1
 clear hr0_1 hc0_1
 have HB := Aside0.mk (Below.refl w.heap.size w)
 have H : ((laws_szDisk.f k a0_0 l0_1 1048576).bind fun t399 => (if t399 < 0 then (some true) else ((laws_toDisk.f k a0_0 l0_1).bind fun bt400 => ((spec_JournalMend.f k bt400.1 bt400.2 a1).bind fun bt404 => ((laws_toDisk.f k a0_0 l0_1).bind fun bt410 => ((impl_JournalMend.f k bt410.1 bt410.2 a1).bind fun bt415 => ((laws_eqDisk.f k bt415.1 bt415.2.1 bt404.1 bt404.2.1).bind fun t421 => (if t421 = true then (laws_FnExactJournalMend.j0 k a1 bt404.2.2 bt415.2.2 (bt415.2.2 != bt404.2.2) a0_0 l0_1 bt404.1 bt404.2.1 bt410.1 bt410.2 bt415.1 bt415.2.1) else (laws_FnExactJournalMend.j0 k a1 bt404.2.2 bt415.2.2 true a0_0 l0_1 bt404.1 bt404.2.1 bt410.1 bt410.2 bt415.1 bt415.2.1))))))))) = some r := h
 clear h
 replace H := Option.bind_eq_some_iff.mp H
 obtain ⟨t399, A30, H⟩ := H
 replace H : (if t399 < 0 then (some true) else ((laws_toDisk.f k a0_0 l0_1).bind fun bt400 => ((spec_JournalMend.f k bt400.1 bt400.2 a1).bind fun bt404 => ((laws_toDisk.f k a0_0 l0_1).bind fun bt410 => ((impl_JournalMend.f k bt410.1 bt410.2 a1).bind fun bt415 => ((laws_eqDisk.f k bt415.1 bt415.2.1 bt404.1 bt404.2.1).bind fun t421 => (if t421 = true then (laws_FnExactJournalMend.j0 k a1 bt404.2.2 bt415.2.2 (bt415.2.2 != bt404.2.2) a0_0 l0_1 bt404.1 bt404.2.1 bt410.1 bt410.2 bt415.1 bt415.2.1) else (laws_FnExactJournalMend.j0 k a1 bt404.2.2 bt415.2.2 true a0_0 l0_1 bt404.1 bt404.2.1 bt410.1 bt410.2 bt415.1 bt415.2.1)))))))) = some r := H
 have A3 := Aside0.mk A30
 clear A30
 by_cases c4 : t399 < 0
 ·rw [if_pos c4] at H
  have c4b0 : decide (t399 < 0) = true := decide_eq_true c4
  clear c4
  obtain rfl := Option.some.inj H
  go_enter Try.func10, Try.ntmps10
  go_wp2_with (first | ((with_reducible refine gate_dst (N := 2) rfl ?_); refine box_event ?hg (N := 2) ?hd (cs := #[.int .i64 a0_0, .slice A0_1 l0_1.length c0_1]) (t := 66) ?hr ?_; (case hd => rfl); (case hg => rfl); (case hr => first | (go_simp; done) | (go_simp; rfl)); intro gb398 hg w5 hbox hb; have BK398 := Aside0.mk (hbox); have GW398 := Aside0.mk (xge hg); have GE398 := Aside0.mk (xge hg); replace HB := xbs hb; clear hb hbox hg; have hcz6_0 : w5.cell? ⟨gb398, 0, none⟩ = some (.int .i64 a0_0) := (blk_cell BK398.out 0).trans rfl; have hcz6_1 : w5.cell? ⟨gb398, 1, none⟩ = some (.slice A0_1 l0_1.length c0_1) := (blk_cell BK398.out 1).trans rfl; have hfz6_0 := blk_frozen BK398.out 0; have hfz6_1 := blk_frozen BK398.out 1) | ((with_reducible refine gate_callee (f := 37) rfl ?_); refine goesL_ (some 18) rfl rfl Try.func37 (by kernel_rfl) rfl #[.agg #[.int .i64 a0_0, .slice A0_1 l0_1.length c0_1], .int .i64 1048576] rfl (by (try simp only [List.map_toArray, List.map_cons, List.map_nil]); first | done | rfl | (simp only [List.length_drop, List.length_take]; rfl)) ?_; (with_reducible refine (laws_szDisk.calls k a0_0 _ _ l0_1 1048576 t399 _ ?side1 ?side2 A3.out).mono ?_); (case side1 => exact xcb HR0_1); (case side2 => exact HC0_1.out); rintro e w7 ⟨rfl, hb⟩; refine ⟨_, rfl, ?_⟩; replace BK398 := xbb BK398 hb; replace HB := xbs hb; (try clear hb); (try clear hb2); (try clear hk); (try clear hi)))
  go_ret
  exact ⟨by first | rfl | (simp [errW_none, errW_some] <;> rfl) | (simp [*, errW_none, errW_some] <;> rfl), xbg⟩
 ·rw [if_neg c4] at H
  have c4b0 : decide (t399 < 0) = false := decide_eq_false c4
  clear c4
  replace H := Option.bind_eq_some_iff.mp H
  obtain ⟨⟨t400, t401⟩, A80, H⟩ := H
  replace H : ((spec_JournalMend.f k t400 t401 a1).bind fun bt404 => ((laws_toDisk.f k a0_0 l0_1).bind fun bt410 => ((impl_JournalMend.f k bt410.1 bt410.2 a1).bind fun bt415 => ((laws_eqDisk.f k bt415.1 bt415.2.1 bt404.1 bt404.2.1).bind fun t421 => (if t421 = true then (laws_FnExactJournalMend.j0 k a1 bt404.2.2 bt415.2.2 (bt415.2.2 != bt404.2.2) a0_0 l0_1 bt404.1 bt404.2.1 bt410.1 bt410.2 bt415.1 bt415.2.1) else (laws_FnExactJournalMend.j0 k a1 bt404.2.2 bt415.2.2 true a0_0 l0_1 bt404.1 bt404.2.1 bt410.1 bt410.2 bt415.1 bt415.2.1)))))) = some r := H
  have A8 := Aside0.mk A80
  clear A80
  replace H := Option.bind_eq_some_iff.mp H
  obtain ⟨⟨t404, t405, t408⟩, A90, H⟩ := H
  replace H : ((laws_toDisk.f k a0_0 l0_1).bind fun bt410 => ((impl_JournalMend.f k bt410.1 bt410.2 a1).bind fun bt415 => ((laws_eqDisk.f k bt415.1 bt415.2.1 t404 t405).bind fun t421 => (if t421 = true then (laws_FnExactJournalMend.j0 k a1 t408 bt415.2.2 (bt415.2.2 != t408) a0_0 l0_1 t404 t405 bt410.1 bt410.2 bt415.1 bt415.2.1) else (laws_FnExactJournalMend.j0 k a1 t408 bt415.2.2 true a0_0 l0_1 t404 t405 bt410.1 bt410.2 bt415.1 bt415.2.1))))) = some r := H
  have A9 := Aside0.mk A90
  clear A90
  replace H := Option.bind_eq_some_iff.mp H
  obtain ⟨⟨t410, t411⟩, A100, H⟩ := H
  replace H : ((impl_JournalMend.f k t410 t411 a1).bind fun bt415 => ((laws_eqDisk.f k bt415.1 bt415.2.1 t404 t405).bind fun t421 => (if t421 = true then (laws_FnExactJournalMend.j0 k a1 t408 bt415.2.2 (bt415.2.2 != t408) a0_0 l0_1 t404 t405 t410 t411 bt415.1 bt415.2.1) else (laws_FnExactJournalMend.j0 k a1 t408 bt415.2.2 true a0_0 l0_1 t404 t405 t410 t411 bt415.1 bt415.2.1)))) = some r := H
  have A10 := Aside0.mk A100
  clear A100
  replace H := Option.bind_eq_some_iff.mp H
  obtain ⟨⟨t415, t416, t419⟩, A110, H⟩ := H
  replace H : ((laws_eqDisk.f k t415 t416 t404 t405).bind fun t421 => (if t421 = true then (laws_FnExactJournalMend.j0 k a1 t408 t419 (t419 != t408) a0_0 l0_1 t404 t405 t410 t411 t415 t416) else (laws_FnExactJournalMend.j0 k a1 t408 t419 true a0_0 l0_1 t404 t405 t410 t411 t415 t416))) = some r := H
  have A11 := Aside0.mk A110
  clear A110
  have HC12 := Aside0.mk H
  clear H
  go_enter Try.func10, Try.ntmps10
  go_upto_region 8 with (first | ((with_reducible refine gate_dst (N := 2) rfl ?_); refine box_event ?hg (N := 2) ?hd (cs := #[.int .i64 a0_0, .slice A0_1 l0_1.length c0_1]) (t := 66) ?hr ?_; (case hd => rfl); (case hg => rfl); (case hr => first | (go_simp; done) | (go_simp; rfl)); intro gb398 hg w13 hbox hb; have BK398 := Aside0.mk (hbox); have GW398 := Aside0.mk (xge hg); have GE398 := Aside0.mk (xge hg); replace HB := xbs hb; clear hb hbox hg; have hcz14_0 : w13.cell? ⟨gb398, 0, none⟩ = some (.int .i64 a0_0) := (blk_cell BK398.out 0).trans rfl; have hcz14_1 : w13.cell? ⟨gb398, 1, none⟩ = some (.slice A0_1 l0_1.length c0_1) := (blk_cell BK398.out 1).trans rfl; have hfz14_0 := blk_frozen BK398.out 0; have hfz14_1 := blk_frozen BK398.out 1) | ((with_reducible refine gate_callee (f := 37) rfl ?_); refine goesL_ (some 18) rfl rfl Try.func37 (by kernel_rfl) rfl #[.agg #[.int .i64 a0_0, .slice A0_1 l0_1.length c0_1], .int .i64 1048576] rfl (by (try simp only [List.map_toArray, List.map_cons, List.map_nil]); first | done | rfl | (simp only [List.length_drop, List.length_take]; rfl)) ?_; (with_reducible refine (laws_szDisk.calls k a0_0 _ _ l0_1 1048576 t399 _ ?side1 ?side2 A3.out).mono ?_); (case side1 => exact xcb HR0_1); (case side2 => exact HC0_1.out); rintro e w15 ⟨rfl, hb⟩; refine ⟨_, rfl, ?_⟩; replace BK398 := xbb BK398 hb; replace HB := xbs hb; (try clear hb); (try clear hb2); (try clear hk); (try clear hi); have hcz16_0 : w15.cell? ⟨gb398, 0, none⟩ = some (.int .i64 a0_0) := (blk_cell BK398.out 0).trans rfl; have hcz16_1 : w15.cell? ⟨gb398, 1, none⟩ = some (.slice A0_1 l0_1.length c0_1) := (blk_cell BK398.out 1).trans rfl; have hfz16_0 := blk_frozen BK398.out 0; have hfz16_1 := blk_frozen BK398.out 1) | ((with_reducible refine gate_callee (f := 39) rfl ?_); refine goesL_ (some 23) rfl rfl Try.func39 (by kernel_rfl) rfl #[.agg #[.int .i64 a0_0, .slice A0_1 l0_1.length c0_1]] rfl (by (try simp only [List.map_toArray, List.map_cons, List.map_nil]); first | done | rfl | (simp only [List.length_drop, List.length_take]; rfl)) ?_; (with_reducible refine (laws_toDisk.calls k a0_0 _ _ l0_1 t400 t401 _ ?side1 ?side2 A8.out).mono ?_); (case side1 => exact xcb HR0_1); (case side2 => exact HC0_1.out); rintro e w17 ⟨v402, rfl, ho0, hb⟩; refine ⟨_, rfl, ?_⟩; have HO403 := Aside0.mk (Kd.R_lower ho0 (below_size xbg)); replace BK398 := xbb BK398 hb; replace HB := xbs hb; (try clear hb); (try clear hb2); (try clear hk); (try clear hi); (try clear ho0); obtain ⟨Ao18, co18, eo18⟩ := Kd.R_slice HO403.out; subst eo18) | ((with_reducible refine gate_callee (f := 57) rfl ?_); refine goesL_ (some 25) rfl rfl Try.func57 (by kernel_rfl) rfl #[.agg #[.int .i64 t400, .slice Ao18 t401.length co18], .int .i64 a1] rfl (by (try simp only [List.map_toArray, List.map_cons, List.map_nil]); first | done | rfl | (simp only [List.length_drop, List.length_take]; rfl)) ?_; (with_reducible refine (spec_JournalMend.calls k t400 _ _ t401 a1 t404 t405 t408 _ ?side1 ?side2 A9.out).mono ?_); (case side1 => repeat (first | exact (Kd.R_reads' HO403.out).2.2 | (with_reducible refine Kd.C_alloc ?_ _) | (with_reducible refine Kd.C_drewN ?_ _) | (with_reducible refine Kd.C_drew ?_))); (case side2 => exact (Kd.R_reads' HO403.out).2.1); rintro e w19 ⟨v406, rfl, ho0, hb⟩; refine ⟨_, rfl, ?_⟩; have HO407 := Aside0.mk (Kd.R_lower (Kd.R_new' ho0 (Kd.R_lt (by (with_reducible repeat (first | apply Kd.R_alloc | apply Kd.R_drewN | apply Kd.R_drew)); exact HO403.out))) (below_size xbg)); replace HO403 := Aside0.mk (Kd.R_elder' (by (with_reducible repeat (first | apply Kd.R_alloc | apply Kd.R_drewN | apply Kd.R_drew)); exact HO403.out) (Kd.R_base ho0) hb); replace BK398 := xbb BK398 hb; replace HB := xbs hb; (try clear hb); (try clear hb2); (try clear hk); (try clear hi); (try clear ho0)) | ((with_reducible refine gate_dst (N := 6) rfl ?_); refine box_event ?hg (N := 6) ?hd (cs := #[.int .i64 0, .slice none 0 0]) (t := 70) ?hr ?_; (case hd => rfl); (case hg => rfl); (case hr => first | (go_simp; done) | (go_simp; rfl)); intro gb409 hg w20 hbox hb; replace HO403 := Aside0.mk (Kd.R_below (by (with_reducible repeat (first | apply Kd.R_alloc | apply Kd.R_drewN | apply Kd.R_drew)); exact HO403.out) hb); replace HO407 := Aside0.mk (Kd.R_below (by (with_reducible repeat (first | apply Kd.R_alloc | apply Kd.R_drewN | apply Kd.R_drew)); exact HO407.out) hb); have GW409 := Aside0.mk (xge hg); have GE409 := Aside0.mk (xge hg); replace HB := xbs hb; have NB398_409 := Aside0.mk ((by rw [hg]; exact Nat.ne_of_lt (blk_lt (g := gb398) (o := .cells #[.int .i64 a0_0, .slice A0_1 l0_1.length c0_1] 66 (0, 0)) xblk) : gb398 ≠ gb409)); have NB409_398 := Aside0.mk ((by rw [hg]; exact Nat.ne_of_gt (blk_lt (g := gb398) (o := .cells #[.int .i64 a0_0, .slice A0_1 l0_1.length c0_1] 66 (0, 0)) xblk) : gb409 ≠ gb398)); replace BK398 := xbb BK398 hb; have BK409 := Aside0.mk (hbox); clear hb hbox hg; have hnb21 := NB409_398.out; have hnc21 := NB398_409.out; have hcz22_0 : w20.cell? ⟨gb409, 0, none⟩ = some (.int .i64 0) := (blk_cell BK409.out 0).trans rfl; have hcz22_1 : w20.cell? ⟨gb409, 1, none⟩ = some (.slice none 0 0) := (blk_cell BK409.out 1).trans rfl; have hfz22_0 := blk_frozen BK409.out 0; have hfz22_1 := blk_frozen BK409.out 1; obtain ⟨Ao23, co23, eo23⟩ := Kd.R_slice HO407.out; subst eo23; have hcz24_0 : w20.cell? ⟨gb398, 0, none⟩ = some (.int .i64 a0_0) := (blk_cell BK398.out 0).trans rfl; have hcz24_1 : w20.cell? ⟨gb398, 1, none⟩ = some (.slice A0_1 l0_1.length c0_1) := (blk_cell BK398.out 1).trans rfl; have hfz24_0 := blk_frozen BK398.out 0; have hfz24_1 := blk_frozen BK398.out 1) | ((with_reducible refine gate_callee (f := 39) rfl ?_); refine goesL_ (some 29) rfl rfl Try.func39 (by kernel_rfl) rfl #[.agg #[.int .i64 a0_0, .slice A0_1 l0_1.length c0_1]] rfl (by (try simp only [List.map_toArray, List.map_cons, List.map_nil]); first | done | rfl | (simp only [List.length_drop, List.length_take]; rfl)) ?_; (with_reducible refine (laws_toDisk.calls k a0_0 _ _ l0_1 t410 t411 _ ?side1 ?side2 A10.out).mono ?_); (case side1 => exact Kd.C_below HR0_1.out xbg); (case side2 => exact HC0_1.out); rintro e w25 ⟨v412, rfl, ho0, hb⟩; refine ⟨_, rfl, ?_⟩; have HO413 := Aside0.mk (Kd.R_lower (Kd.R_new' (Kd.R_new' ho0 (Kd.R_lt (by (with_reducible repeat (first | apply Kd.R_alloc | apply Kd.R_drewN | apply Kd.R_drew)); exact (Kd.R_mono (Kd.R_far (p := ⟨gb409, 1, none⟩) (Kd.R_far (p := ⟨gb409, 0, none⟩) (Kd.R_types HO403.out BK409.out (by decide)) (fun _ hk => hk.2) (.int .i64 t404)) (fun _ hk => hk.2) (.slice Ao23 t405.length co23)) (fun _ h_ => h_.1))))) (Kd.R_lt (by (with_reducible repeat (first | apply Kd.R_alloc | apply Kd.R_drewN | apply Kd.R_drew)); exact (Kd.R_mono (Kd.R_far (p := ⟨gb409, 1, none⟩) (Kd.R_far (p := ⟨gb409, 0, none⟩) (Kd.R_types HO407.out BK409.out (by decide)) (fun _ hk => hk.2) (.int .i64 t404)) (fun _ hk => hk.2) (.slice Ao23 t405.length co23)) (fun _ h_ => h_.1))))) (below_size xbg)); replace HO403 := Aside0.mk (Kd.R_elder' (by (with_reducible repeat (first | apply Kd.R_alloc | apply Kd.R_drewN | apply Kd.R_drew)); exact (Kd.R_mono (Kd.R_far (p := ⟨gb409, 1, none⟩) (Kd.R_far (p := ⟨gb409, 0, none⟩) (Kd.R_types HO403.out BK409.out (by decide)) (fun _ hk => hk.2) (.int .i64 t404)) (fun _ hk => hk.2) (.slice Ao23 t405.length co23)) (fun _ h_ => h_.1))) (Kd.R_base ho0) hb); replace HO407 := Aside0.mk (Kd.R_elder' (by (with_reducible repeat (first | apply Kd.R_alloc | apply Kd.R_drewN | apply Kd.R_drew)); exact (Kd.R_mono (Kd.R_far (p := ⟨gb409, 1, none⟩) (Kd.R_far (p := ⟨gb409, 0, none⟩) (Kd.R_types HO407.out BK409.out (by decide)) (fun _ hk => hk.2) (.int .i64 t404)) (fun _ hk => hk.2) (.slice Ao23 t405.length co23)) (fun _ h_ => h_.1))) (Kd.R_base ho0) hb); replace BK398 := Aside0.mk (blk_below (g := gb398) (o := .cells #[.int .i64 a0_0, .slice A0_1 l0_1.length c0_1] 66 (0, 0)) (by (with_reducible repeat (first | refine blk_drewN ?_ _ | refine blk_drew ?_ | refine blk_alloc ?_ _)); refine blk_far ?_ NB398_409.out _; (with_reducible repeat (first | refine blk_drewN ?_ _ | refine blk_drew ?_ | refine blk_alloc ?_ _)); refine blk_far ?_ NB398_409.out _; (with_reducible repeat (first | refine blk_drewN ?_ _ | refine blk_drew ?_ | refine blk_alloc ?_ _)); exact BK398.out) hb); replace BK409 := Aside0.mk (blk_below (g := gb409) (o := .cells #[.int .i64 t404, .slice Ao23 t405.length co23] 70 (0, 0)) (by (with_reducible repeat (first | refine blk_drewN ?_ _ | refine blk_drew ?_ | refine blk_alloc ?_ _)); refine blk_put (cs := #[.int .i64 t404, .slice none 0 0]) ?_ 1 _ rfl; (with_reducible repeat (first | refine blk_drewN ?_ _ | refine blk_drew ?_ | refine blk_alloc ?_ _)); refine blk_put (cs := #[.int .i64 0, .slice none 0 0]) ?_ 0 _ rfl; (with_reducible repeat (first | refine blk_drewN ?_ _ | refine blk_drew ?_ | refine blk_alloc ?_ _)); exact BK409.out) hb); replace HB := xbs hb; (try clear hb); (try clear hb2); (try clear hk); (try clear hi); (try clear ho0)) | ((with_reducible refine gate_dst (N := 8) rfl ?_); refine box_event ?hg (N := 8) ?hd (cs := #[.int .i64 0, .slice none 0 0]) (t := 70) ?hr ?_; (case hd => rfl); (case hg => rfl); (case hr => first | (go_simp; done) | (go_simp; rfl)); intro gb414 hg w26 hbox hb; replace HO403 := Aside0.mk (Kd.R_below (by (with_reducible repeat (first | apply Kd.R_alloc | apply Kd.R_drewN | apply Kd.R_drew)); exact HO403.out) hb); replace HO407 := Aside0.mk (Kd.R_below (by (with_reducible repeat (first | apply Kd.R_alloc | apply Kd.R_drewN | apply Kd.R_drew)); exact HO407.out) hb); replace HO413 := Aside0.mk (Kd.R_below (by (with_reducible repeat (first | apply Kd.R_alloc | apply Kd.R_drewN | apply Kd.R_drew)); exact HO413.out) hb); have GW414 := Aside0.mk (xge hg); have GE414 := Aside0.mk (xge hg); replace HB := xbs hb; have NB398_414 := Aside0.mk ((by rw [hg]; exact Nat.ne_of_lt (blk_lt (g := gb398) (o := .cells #[.int .i64 a0_0, .slice A0_1 l0_1.length c0_1] 66 (0, 0)) xblk) : gb398 ≠ gb414)); have NB414_398 := Aside0.mk ((by rw [hg]; exact Nat.ne_of_gt (blk_lt (g := gb398) (o := .cells #[.int .i64 a0_0, .slice A0_1 l0_1.length c0_1] 66 (0, 0)) xblk) : gb414 ≠ gb398)); have NB409_414 := Aside0.mk ((by rw [hg]; exact Nat.ne_of_lt (blk_lt (g := gb409) (o := .cells #[.int .i64 t404, .slice Ao23 t405.length co23] 70 (0, 0)) xblk) : gb409 ≠ gb414)); have NB414_409 := Aside0.mk ((by rw [hg]; exact Nat.ne_of_gt (blk_lt (g := gb409) (o := .cells #[.int .i64 t404, .slice Ao23 t405.length co23] 70 (0, 0)) xblk) : gb414 ≠ gb409)); replace BK398 := xbb BK398 hb; replace BK409 := xbb BK409 hb; have BK414 := Aside0.mk (hbox); clear hb hbox hg; have hnb27 := NB414_398.out; have hnc27 := NB398_414.out; have hnb28 := NB414_409.out; have hnc28 := NB409_414.out; have hcz29_0 : w26.cell? ⟨gb414, 0, none⟩ = some (.int .i64 0) := (blk_cell BK414.out 0).trans rfl; have hcz29_1 : w26.cell? ⟨gb414, 1, none⟩ = some (.slice none 0 0) := (blk_cell BK414.out 1).trans rfl; have hfz29_0 := blk_frozen BK414.out 0; have hfz29_1 := blk_frozen BK414.out 1; obtain ⟨Ao30, co30, eo30⟩ := Kd.R_slice HO413.out; subst eo30) | ((with_reducible refine gate_callee (f := 58) rfl ?_); refine goesL_ (some 33) rfl rfl Try.func58 (by kernel_rfl) rfl #[.agg #[.int .i64 t410, .slice Ao30 t411.length co30], .int .i64 a1] rfl (by (try simp only [List.map_toArray, List.map_cons, List.map_nil]); first | done | rfl | (simp only [List.length_drop, List.length_take]; rfl)) ?_; (with_reducible refine (impl_JournalMend.calls k t410 _ _ t411 a1 t415 t416 t419 _ ?side1 ?side2 A11.out).mono ?_); (case side1 => refine (Kd.R_reads' (e := 134) (base := w.heap.size) (ok := fun k_ => ((True ∧ some k_ ≠ (.slice Ao18 t401.length co18 : Value).ownBlock) ∧ some k_ ≠ (.slice Ao23 t405.length co23 : Value).ownBlock)) (n := t411.length) (c := co30) ?_).2.2; exact (by (with_reducible repeat (first | apply Kd.R_alloc | apply Kd.R_drewN | apply Kd.R_drew)); exact (Kd.R_mono (Kd.R_far (p := ⟨gb414, 1, none⟩) (Kd.R_far (p := ⟨gb414, 0, none⟩) (Kd.R_types HO413.out BK414.out (by decide)) (fun _ hk => hk.2) (.int .i64 t410)) (fun _ hk => hk.2) (.slice Ao30 t411.length co30)) (fun _ h_ => h_.1)))); (case side2 => exact (Kd.R_reads' HO413.out).2.1); rintro e w31 ⟨v417, rfl, ho0, hb⟩; refine ⟨_, rfl, ?_⟩; have HO418 := Aside0.mk (Kd.R_lower (Kd.R_new' (Kd.R_new' (Kd.R_new' ho0 (Kd.R_lt (by (with_reducible repeat (first | apply Kd.R_alloc | apply Kd.R_drewN | apply Kd.R_drew)); exact (Kd.R_mono (Kd.R_far (p := ⟨gb414, 1, none⟩) (Kd.R_far (p := ⟨gb414, 0, none⟩) (Kd.R_types HO403.out BK414.out (by decide)) (fun _ hk => hk.2) (.int .i64 t410)) (fun _ hk => hk.2) (.slice Ao30 t411.length co30)) (fun _ h_ => h_.1))))) (Kd.R_lt (by (with_reducible repeat (first | apply Kd.R_alloc | apply Kd.R_drewN | apply Kd.R_drew)); exact (Kd.R_mono (Kd.R_far (p := ⟨gb414, 1, none⟩) (Kd.R_far (p := ⟨gb414, 0, none⟩) (Kd.R_types HO407.out BK414.out (by decide)) (fun _ hk => hk.2) (.int .i64 t410)) (fun _ hk => hk.2) (.slice Ao30 t411.length co30)) (fun _ h_ => h_.1))))) (Kd.R_lt (by (with_reducible repeat (first | apply Kd.R_alloc | apply Kd.R_drewN | apply Kd.R_drew)); exact (Kd.R_mono (Kd.R_far (p := ⟨gb414, 1, none⟩) (Kd.R_far (p := ⟨gb414, 0, none⟩) (Kd.R_types HO413.out BK414.out (by decide)) (fun _ hk => hk.2) (.int .i64 t410)) (fun _ hk => hk.2) (.slice Ao30 t411.length co30)) (fun _ h_ => h_.1))))) (below_size xbg)); replace HO403 := Aside0.mk (Kd.R_elder' (by (with_reducible repeat (first | apply Kd.R_alloc | apply Kd.R_drewN | apply Kd.R_drew)); exact (Kd.R_mono (Kd.R_far (p := ⟨gb414, 1, none⟩) (Kd.R_far (p := ⟨gb414, 0, none⟩) (Kd.R_types HO403.out BK414.out (by decide)) (fun _ hk => hk.2) (.int .i64 t410)) (fun _ hk => hk.2) (.slice Ao30 t411.length co30)) (fun _ h_ => h_.1))) (Kd.R_base ho0) hb); replace HO407 := Aside0.mk (Kd.R_elder' (by (with_reducible repeat (first | apply Kd.R_alloc | apply Kd.R_drewN | apply Kd.R_drew)); exact (Kd.R_mono (Kd.R_far (p := ⟨gb414, 1, none⟩) (Kd.R_far (p := ⟨gb414, 0, none⟩) (Kd.R_types HO407.out BK414.out (by decide)) (fun _ hk => hk.2) (.int .i64 t410)) (fun _ hk => hk.2) (.slice Ao30 t411.length co30)) (fun _ h_ => h_.1))) (Kd.R_base ho0) hb); replace HO413 := Aside0.mk (Kd.R_elder' (by (with_reducible repeat (first | apply Kd.R_alloc | apply Kd.R_drewN | apply Kd.R_drew)); exact (Kd.R_mono (Kd.R_far (p := ⟨gb414, 1, none⟩) (Kd.R_far (p := ⟨gb414, 0, none⟩) (Kd.R_types HO413.out BK414.out (by decide)) (fun _ hk => hk.2) (.int .i64 t410)) (fun _ hk => hk.2) (.slice Ao30 t411.length co30)) (fun _ h_ => h_.1))) (Kd.R_base ho0) hb); replace BK398 := Aside0.mk (blk_below (g := gb398) (o := .cells #[.int .i64 a0_0, .slice A0_1 l0_1.length c0_1] 66 (0, 0)) (by (with_reducible repeat (first | refine blk_drewN ?_ _ | refine blk_drew ?_ | refine blk_alloc ?_ _)); refine blk_far ?_ NB398_414.out _; (with_reducible repeat (first | refine blk_drewN ?_ _ | refine blk_drew ?_ | refine blk_alloc ?_ _)); refine blk_far ?_ NB398_414.out _; (with_reducible repeat (first | refine blk_drewN ?_ _ | refine blk_drew ?_ | refine blk_alloc ?_ _)); exact BK398.out) hb); replace BK409 := Aside0.mk (blk_below (g := gb409) (o := .cells #[.int .i64 t404, .slice Ao23 t405.length co23] 70 (0, 0)) (by (with_reducible repeat (first | refine blk_drewN ?_ _ | refine blk_drew ?_ | refine blk_alloc ?_ _)); refine blk_far ?_ NB409_414.out _; (with_reducible repeat (first | refine blk_drewN ?_ _ | refine blk_drew ?_ | refine blk_alloc ?_ _)); refine blk_far ?_ NB409_414.out _; (with_reducible repeat (first | refine blk_drewN ?_ _ | refine blk_drew ?_ | refine blk_alloc ?_ _)); exact BK409.out) hb); replace BK414 := Aside0.mk (blk_below (g := gb414) (o := .cells #[.int .i64 t410, .slice Ao30 t411.length co30] 70 (0, 0)) (by (with_reducible repeat (first | refine blk_drewN ?_ _ | refine blk_drew ?_ | refine blk_alloc ?_ _)); refine blk_put (cs := #[.int .i64 t410, .slice none 0 0]) ?_ 1 _ rfl; (with_reducible repeat (first | refine blk_drewN ?_ _ | refine blk_drew ?_ | refine blk_alloc ?_ _)); refine blk_put (cs := #[.int .i64 0, .slice none 0 0]) ?_ 0 _ rfl; (with_reducible repeat (first | refine blk_drewN ?_ _ | refine blk_drew ?_ | refine blk_alloc ?_ _)); exact BK414.out) hb); replace HB := xbs hb; (try clear hb); (try clear hb2); (try clear hk); (try clear hi); (try clear ho0)) | ((with_reducible refine gate_dst (N := 9) rfl ?_); refine box_event ?hg (N := 9) ?hd (cs := #[.int .i64 0, .slice none 0 0]) (t := 70) ?hr ?_; (case hd => rfl); (case hg => rfl); (case hr => first | (go_simp; done) | (go_simp; rfl)); intro gb420 hg w32 hbox hb; replace HO403 := Aside0.mk (Kd.R_below (by (with_reducible repeat (first | apply Kd.R_alloc | apply Kd.R_drewN | apply Kd.R_drew)); exact HO403.out) hb); replace HO407 := Aside0.mk (Kd.R_below (by (with_reducible repeat (first | apply Kd.R_alloc | apply Kd.R_drewN | apply Kd.R_drew)); exact HO407.out) hb); replace HO413 := Aside0.mk (Kd.R_below (by (with_reducible repeat (first | apply Kd.R_alloc | apply Kd.R_drewN | apply Kd.R_drew)); exact HO413.out) hb); replace HO418 := Aside0.mk (Kd.R_below (by (with_reducible repeat (first | apply Kd.R_alloc | apply Kd.R_drewN | apply Kd.R_drew)); exact HO418.out) hb); have GW420 := Aside0.mk (xge hg); have GE420 := Aside0.mk (xge hg); replace HB := xbs hb; have NB398_420 := Aside0.mk ((by rw [hg]; exact Nat.ne_of_lt (blk_lt (g := gb398) (o := .cells #[.int .i64 a0_0, .slice A0_1 l0_1.length c0_1] 66 (0, 0)) xblk) : gb398 ≠ gb420)); have NB420_398 := Aside0.mk ((by rw [hg]; exact Nat.ne_of_gt (blk_lt (g := gb398) (o := .cells #[.int .i64 a0_0, .slice A0_1 l0_1.length c0_1] 66 (0, 0)) xblk) : gb420 ≠ gb398)); have NB409_420 := Aside0.mk ((by rw [hg]; exact Nat.ne_of_lt (blk_lt (g := gb409) (o := .cells #[.int .i64 t404, .slice Ao23 t405.length co23] 70 (0, 0)) xblk) : gb409 ≠ gb420)); have NB420_409 := Aside0.mk ((by rw [hg]; exact Nat.ne_of_gt (blk_lt (g := gb409) (o := .cells #[.int .i64 t404, .slice Ao23 t405.length co23] 70 (0, 0)) xblk) : gb420 ≠ gb409)); have NB414_420 := Aside0.mk ((by rw [hg]; exact Nat.ne_of_lt (blk_lt (g := gb414) (o := .cells #[.int .i64 t410, .slice Ao30 t411.length co30] 70 (0, 0)) xblk) : gb414 ≠ gb420)); have NB420_414 := Aside0.mk ((by rw [hg]; exact Nat.ne_of_gt (blk_lt (g := gb414) (o := .cells #[.int .i64 t410, .slice Ao30 t411.length co30] 70 (0, 0)) xblk) : gb420 ≠ gb414)); replace BK398 := xbb BK398 hb; replace BK409 := xbb BK409 hb; replace BK414 := xbb BK414 hb; have BK420 := Aside0.mk (hbox); clear hb hbox hg; have hnb33 := NB420_398.out; have hnc33 := NB398_420.out; have hnb34 := NB420_409.out; have hnc34 := NB409_420.out; have hnb35 := NB420_414.out; have hnc35 := NB414_420.out; have hcz36_0 : w32.cell? ⟨gb420, 0, none⟩ = some (.int .i64 0) := (blk_cell BK420.out 0).trans rfl; have hcz36_1 : w32.cell? ⟨gb420, 1, none⟩ = some (.slice none 0 0) := (blk_cell BK420.out 1).trans rfl; have hfz36_0 := blk_frozen BK420.out 0; have hfz36_1 := blk_frozen BK420.out 1; obtain ⟨Ao37, co37, eo37⟩ := Kd.R_slice HO418.out; subst eo37))
  (try simp only [Act.put, List.setIfInBounds_toArray, List.set_cons_zero, List.set_cons_succ])
  go_cut [44] (fun v44 wc => ∃ (kq : Nat) (x44_11 : Bool), v44 = .bool x44_11 ∧ Aside0 (laws_FnExactJournalMend.j0 kq a1 t408 t419 x44_11 a0_0 l0_1 t404 t405 t410 t411 t415 t416 = some r) ∧ Aside0 (kq ≤ k) ∧ Aside0 (Kd.R k134 134 wc w.heap.size (fun k_ => some k_ ≠ ((.slice Ao30 t411.length co30) : Value).ownBlock ∧ some k_ ≠ ((.slice Ao37 t416.length co37) : Value).ownBlock) (.slice Ao23 t405.length co23) t405) ∧ Aside0 (Kd.R k134 134 wc w.heap.size (fun k_ => some k_ ≠ ((.slice Ao23 t405.length co23) : Value).ownBlock ∧ some k_ ≠ ((.slice Ao37 t416.length co37) : Value).ownBlock) (.slice Ao30 t411.length co30) t411) ∧ Aside0 (Kd.R k134 134 wc w.heap.size (fun k_ => some k_ ≠ ((.slice Ao23 t405.length co23) : Value).ownBlock ∧ some k_ ≠ ((.slice Ao30 t411.length co30) : Value).ownBlock) (.slice Ao37 t416.length co37) t416) ∧ Aside0 (wc.heap[gb398]? = some (.cells #[.int .i64 a0_0, (.slice A0_1 l0_1.length c0_1)] 66 (0, 0))) ∧ Aside0 (wc.heap[gb409]? = some (.cells #[.int .i64 t404, (.slice Ao23 t405.length co23)] 70 (0, 0))) ∧ Aside0 (wc.heap[gb414]? = some (.cells #[.int .i64 t410, (.slice Ao30 t411.length co30)] 70 (0, 0))) ∧ Aside0 (wc.heap[gb420]? = some (.cells #[.int .i64 t415, (.slice Ao37 t416.length co37)] 70 (0, 0))) ∧ Aside0 (Below w.heap.size w wc))
  case first =>
   have H := HC12.out
   clear HC12
   replace H := Option.bind_eq_some_iff.mp H
   obtain ⟨t421, A380, H⟩ := H
   replace H : (if t421 = true then (laws_FnExactJournalMend.j0 k a1 t408 t419 (t419 != t408) a0_0 l0_1 t404 t405 t410 t411 t415 t416) else (laws_FnExactJournalMend.j0 k a1 t408 t419 true a0_0 l0_1 t404 t405 t410 t411 t415 t416)) = some r := H
   have A38 := Aside0.mk A380
   clear A380
   by_cases c39 : t421 = true
   ·subst c39
    have H1 : (laws_FnExactJournalMend.j0 k a1 t408 t419 (t419 != t408) a0_0 l0_1 t404 t405 t410 t411 t415 t416) = some r := by rw [if_pos rfl] at H; exact H
    clear H
    have H := H1
    clear H1
    have H' := Aside0.mk H
    clear H
    have hnb40 := NB420_398.out
    have hnc40 := NB398_420.out
    have hnb41 := NB420_409.out
    have hnc41 := NB409_420.out
    have hnb42 := NB420_414.out
    have hnc42 := NB414_420.out
    have hcz43_0 : w32.cell? ⟨gb420, 0, none⟩ = some (.int .i64 0) := (blk_cell BK420.out 0).trans rfl
    have hcz43_1 : w32.cell? ⟨gb420, 1, none⟩ = some (.slice none 0 0) := (blk_cell BK420.out 1).trans rfl
    have hfz43_0 := blk_frozen BK420.out 0
    have hfz43_1 := blk_frozen BK420.out 1
    have hnb44 := NB409_398.out
    have hnc44 := NB398_409.out
    have hnb45 := NB409_414.out
    have hnc45 := NB414_409.out
    have hcz46_0 : w32.cell? ⟨gb409, 0, none⟩ = some (.int .i64 t404) := (blk_cell BK409.out 0).trans rfl
    have hcz46_1 : w32.cell? ⟨gb409, 1, none⟩ = some (.slice Ao23 t405.length co23) := (blk_cell BK409.out 1).trans rfl
    have hfz46_0 := blk_frozen BK409.out 0
    have hfz46_1 := blk_frozen BK409.out 1
    go_wp2_with (first | ((with_reducible refine gate_callee (f := 41) rfl ?_); refine goesL_ (some 38) rfl rfl Try.func41 (by kernel_rfl) rfl #[.agg #[.int .i64 t415, .slice Ao37 t416.length co37], .agg #[.int .i64 t404, .slice Ao23 t405.length co23]] rfl (by (try simp only [List.map_toArray, List.map_cons, List.map_nil]); first | done | rfl | (simp only [List.length_drop, List.length_take]; rfl)) ?_; (with_reducible refine (laws_eqDisk.calls k t415 _ _ t416 t404 _ _ t405 true _ ?side1 ?side2 ?side3 ?side4 A38.out).mono ?_); (case side1 => refine (Kd.R_reads' (e := 134) (base := w.heap.size) (ok := fun k_ => (((True ∧ some k_ ≠ (.slice Ao18 t401.length co18 : Value).ownBlock) ∧ some k_ ≠ (.slice Ao23 t405.length co23 : Value).ownBlock) ∧ some k_ ≠ (.slice Ao30 t411.length co30 : Value).ownBlock)) (n := t416.length) (c := co37) ?_).2.2; exact (by (with_reducible repeat (first | apply Kd.R_alloc | apply Kd.R_drewN | apply Kd.R_drew)); exact (Kd.R_mono (Kd.R_far (p := ⟨gb420, 1, none⟩) (Kd.R_far (p := ⟨gb420, 0, none⟩) (Kd.R_types HO418.out BK420.out (by decide)) (fun _ hk => hk.2) (.int .i64 t415)) (fun _ hk => hk.2) (.slice Ao37 t416.length co37)) (fun _ h_ => h_.1)))); (case side2 => exact (Kd.R_reads' HO418.out).2.1); (case side3 => refine (Kd.R_reads' (e := 134) (base := w.heap.size) (ok := fun k_ => (((True ∧ some k_ ≠ (.slice Ao18 t401.length co18 : Value).ownBlock) ∧ some k_ ≠ (.slice Ao30 t411.length co30 : Value).ownBlock) ∧ some k_ ≠ (.slice Ao37 t416.length co37 : Value).ownBlock)) (n := t405.length) (c := co23) ?_).2.2; exact (by (with_reducible repeat (first | apply Kd.R_alloc | apply Kd.R_drewN | apply Kd.R_drew)); exact (Kd.R_mono (Kd.R_far (p := ⟨gb420, 1, none⟩) (Kd.R_far (p := ⟨gb420, 0, none⟩) (Kd.R_types HO407.out BK420.out (by decide)) (fun _ hk => hk.2) (.int .i64 t415)) (fun _ hk => hk.2) (.slice Ao37 t416.length co37)) (fun _ h_ => h_.1)))); (case side4 => exact (Kd.R_reads' HO407.out).2.1); rintro e w47 ⟨rfl, hb⟩; refine ⟨_, rfl, ?_⟩; replace HO403 := Aside0.mk (Kd.R_below (by (with_reducible repeat (first | apply Kd.R_alloc | apply Kd.R_drewN | apply Kd.R_drew)); exact (Kd.R_mono (Kd.R_far (p := ⟨gb420, 1, none⟩) (Kd.R_far (p := ⟨gb420, 0, none⟩) (Kd.R_types HO403.out BK420.out (by decide)) (fun _ hk => hk.2) (.int .i64 t415)) (fun _ hk => hk.2) (.slice Ao37 t416.length co37)) (fun _ h_ => h_.1))) hb); replace HO407 := Aside0.mk (Kd.R_below (by (with_reducible repeat (first | apply Kd.R_alloc | apply Kd.R_drewN | apply Kd.R_drew)); exact (Kd.R_mono (Kd.R_far (p := ⟨gb420, 1, none⟩) (Kd.R_far (p := ⟨gb420, 0, none⟩) (Kd.R_types HO407.out BK420.out (by decide)) (fun _ hk => hk.2) (.int .i64 t415)) (fun _ hk => hk.2) (.slice Ao37 t416.length co37)) (fun _ h_ => h_.1))) hb); replace HO413 := Aside0.mk (Kd.R_below (by (with_reducible repeat (first | apply Kd.R_alloc | apply Kd.R_drewN | apply Kd.R_drew)); exact (Kd.R_mono (Kd.R_far (p := ⟨gb420, 1, none⟩) (Kd.R_far (p := ⟨gb420, 0, none⟩) (Kd.R_types HO413.out BK420.out (by decide)) (fun _ hk => hk.2) (.int .i64 t415)) (fun _ hk => hk.2) (.slice Ao37 t416.length co37)) (fun _ h_ => h_.1))) hb); replace HO418 := Aside0.mk (Kd.R_below (by (with_reducible repeat (first | apply Kd.R_alloc | apply Kd.R_drewN | apply Kd.R_drew)); exact (Kd.R_mono (Kd.R_far (p := ⟨gb420, 1, none⟩) (Kd.R_far (p := ⟨gb420, 0, none⟩) (Kd.R_types HO418.out BK420.out (by decide)) (fun _ hk => hk.2) (.int .i64 t415)) (fun _ hk => hk.2) (.slice Ao37 t416.length co37)) (fun _ h_ => h_.1))) hb); replace BK398 := Aside0.mk (blk_below (g := gb398) (o := .cells #[.int .i64 a0_0, .slice A0_1 l0_1.length c0_1] 66 (0, 0)) (by (with_reducible repeat (first | refine blk_drewN ?_ _ | refine blk_drew ?_ | refine blk_alloc ?_ _)); refine blk_far ?_ NB398_420.out _; (with_reducible repeat (first | refine blk_drewN ?_ _ | refine blk_drew ?_ | refine blk_alloc ?_ _)); refine blk_far ?_ NB398_420.out _; (with_reducible repeat (first | refine blk_drewN ?_ _ | refine blk_drew ?_ | refine blk_alloc ?_ _)); exact BK398.out) hb); replace BK409 := Aside0.mk (blk_below (g := gb409) (o := .cells #[.int .i64 t404, .slice Ao23 t405.length co23] 70 (0, 0)) (by (with_reducible repeat (first | refine blk_drewN ?_ _ | refine blk_drew ?_ | refine blk_alloc ?_ _)); refine blk_far ?_ NB409_420.out _; (with_reducible repeat (first | refine blk_drewN ?_ _ | refine blk_drew ?_ | refine blk_alloc ?_ _)); refine blk_far ?_ NB409_420.out _; (with_reducible repeat (first | refine blk_drewN ?_ _ | refine blk_drew ?_ | refine blk_alloc ?_ _)); exact BK409.out) hb); replace BK414 := Aside0.mk (blk_below (g := gb414) (o := .cells #[.int .i64 t410, .slice Ao30 t411.length co30] 70 (0, 0)) (by (with_reducible repeat (first | refine blk_drewN ?_ _ | refine blk_drew ?_ | refine blk_alloc ?_ _)); refine blk_far ?_ NB414_420.out _; (with_reducible repeat (first | refine blk_drewN ?_ _ | refine blk_drew ?_ | refine blk_alloc ?_ _)); refine blk_far ?_ NB414_420.out _; (with_reducible repeat (first | refine blk_drewN ?_ _ | refine blk_drew ?_ | refine blk_alloc ?_ _)); exact BK414.out) hb); replace BK420 := Aside0.mk (blk_below (g := gb420) (o := .cells #[.int .i64 t415, .slice Ao37 t416.length co37] 70 (0, 0)) (by (with_reducible repeat (first | refine blk_drewN ?_ _ | refine blk_drew ?_ | refine blk_alloc ?_ _)); refine blk_put (cs := #[.int .i64 t415, .slice none 0 0]) ?_ 1 _ rfl; (with_reducible repeat (first | refine blk_drewN ?_ _ | refine blk_drew ?_ | refine blk_alloc ?_ _)); refine blk_put (cs := #[.int .i64 0, .slice none 0 0]) ?_ 0 _ rfl; (with_reducible repeat (first | refine blk_drewN ?_ _ | refine blk_drew ?_ | refine blk_alloc ?_ _)); exact BK420.out) hb); replace HB := xbs hb; (try clear hb); (try clear hb2); (try clear hk); (try clear hi)))
    go_meet
    case rel => exact ⟨_, ((t419 != t408)), (by first | rfl | (simp; done) | (simp [*]; done)), H', ⟨by first | omega | exact Nat.le_refl _⟩, ⟨by (with_reducible repeat (first | apply Kd.R_alloc | apply Kd.R_drewN | apply Kd.R_drew)); exact Kd.R_mono HO407.out (fun _ hk => ⟨hk.1.2, hk.2⟩)⟩, ⟨by (with_reducible repeat (first | apply Kd.R_alloc | apply Kd.R_drewN | apply Kd.R_drew)); exact Kd.R_mono HO413.out (fun _ hk => ⟨hk.1.2, hk.2⟩)⟩, ⟨by (with_reducible repeat (first | apply Kd.R_alloc | apply Kd.R_drewN | apply Kd.R_drew)); exact Kd.R_mono HO418.out (fun _ hk => ⟨hk.1.2, hk.2⟩)⟩, ⟨xblk⟩, ⟨xblk⟩, ⟨xblk⟩, ⟨xblk⟩, ⟨xbg⟩⟩
   ·replace c39 := Bool.eq_false_iff.mpr c39
    subst c39
    have H1 : (laws_FnExactJournalMend.j0 k a1 t408 t419 true a0_0 l0_1 t404 t405 t410 t411 t415 t416) = some r := by rw [if_neg (show ¬ (false = true) by decide)] at H; exact H
    clear H
    have H := H1
    clear H1
    have H' := Aside0.mk H
    clear H
    have hnb48 := NB420_398.out
    have hnc48 := NB398_420.out
    have hnb49 := NB420_409.out
    have hnc49 := NB409_420.out
    have hnb50 := NB420_414.out
    have hnc50 := NB414_420.out
    have hcz51_0 : w32.cell? ⟨gb420, 0, none⟩ = some (.int .i64 0) := (blk_cell BK420.out 0).trans rfl
    have hcz51_1 : w32.cell? ⟨gb420, 1, none⟩ = some (.slice none 0 0) := (blk_cell BK420.out 1).trans rfl
    have hfz51_0 := blk_frozen BK420.out 0
    have hfz51_1 := blk_frozen BK420.out 1
    have hnb52 := NB409_398.out
    have hnc52 := NB398_409.out
    have hnb53 := NB409_414.out
    have hnc53 := NB414_409.out
    have hcz54_0 : w32.cell? ⟨gb409, 0, none⟩ = some (.int .i64 t404) := (blk_cell BK409.out 0).trans rfl
    have hcz54_1 : w32.cell? ⟨gb409, 1, none⟩ = some (.slice Ao23 t405.length co23) := (blk_cell BK409.out 1).trans rfl
    have hfz54_0 := blk_frozen BK409.out 0
    have hfz54_1 := blk_frozen BK409.out 1
    go_wp2_with (first | ((with_reducible refine gate_callee (f := 41) rfl ?_); refine goesL_ (some 38) rfl rfl Try.func41 (by kernel_rfl) rfl #[.agg #[.int .i64 t415, .slice Ao37 t416.length co37], .agg #[.int .i64 t404, .slice Ao23 t405.length co23]] rfl (by (try simp only [List.map_toArray, List.map_cons, List.map_nil]); first | done | rfl | (simp only [List.length_drop, List.length_take]; rfl)) ?_; (with_reducible refine (laws_eqDisk.calls k t415 _ _ t416 t404 _ _ t405 false _ ?side1 ?side2 ?side3 ?side4 A38.out).mono ?_); (case side1 => refine (Kd.R_reads' (e := 134) (base := w.heap.size) (ok := fun k_ => (((True ∧ some k_ ≠ (.slice Ao18 t401.length co18 : Value).ownBlock) ∧ some k_ ≠ (.slice Ao23 t405.length co23 : Value).ownBlock) ∧ some k_ ≠ (.slice Ao30 t411.length co30 : Value).ownBlock)) (n := t416.length) (c := co37) ?_).2.2; exact (by (with_reducible repeat (first | apply Kd.R_alloc | apply Kd.R_drewN | apply Kd.R_drew)); exact (Kd.R_mono (Kd.R_far (p := ⟨gb420, 1, none⟩) (Kd.R_far (p := ⟨gb420, 0, none⟩) (Kd.R_types HO418.out BK420.out (by decide)) (fun _ hk => hk.2) (.int .i64 t415)) (fun _ hk => hk.2) (.slice Ao37 t416.length co37)) (fun _ h_ => h_.1)))); (case side2 => exact (Kd.R_reads' HO418.out).2.1); (case side3 => refine (Kd.R_reads' (e := 134) (base := w.heap.size) (ok := fun k_ => (((True ∧ some k_ ≠ (.slice Ao18 t401.length co18 : Value).ownBlock) ∧ some k_ ≠ (.slice Ao30 t411.length co30 : Value).ownBlock) ∧ some k_ ≠ (.slice Ao37 t416.length co37 : Value).ownBlock)) (n := t405.length) (c := co23) ?_).2.2; exact (by (with_reducible repeat (first | apply Kd.R_alloc | apply Kd.R_drewN | apply Kd.R_drew)); exact (Kd.R_mono (Kd.R_far (p := ⟨gb420, 1, none⟩) (Kd.R_far (p := ⟨gb420, 0, none⟩) (Kd.R_types HO407.out BK420.out (by decide)) (fun _ hk => hk.2) (.int .i64 t415)) (fun _ hk => hk.2) (.slice Ao37 t416.length co37)) (fun _ h_ => h_.1)))); (case side4 => exact (Kd.R_reads' HO407.out).2.1); rintro e w55 ⟨rfl, hb⟩; refine ⟨_, rfl, ?_⟩; replace HO403 := Aside0.mk (Kd.R_below (by (with_reducible repeat (first | apply Kd.R_alloc | apply Kd.R_drewN | apply Kd.R_drew)); exact (Kd.R_mono (Kd.R_far (p := ⟨gb420, 1, none⟩) (Kd.R_far (p := ⟨gb420, 0, none⟩) (Kd.R_types HO403.out BK420.out (by decide)) (fun _ hk => hk.2) (.int .i64 t415)) (fun _ hk => hk.2) (.slice Ao37 t416.length co37)) (fun _ h_ => h_.1))) hb); replace HO407 := Aside0.mk (Kd.R_below (by (with_reducible repeat (first | apply Kd.R_alloc | apply Kd.R_drewN | apply Kd.R_drew)); exact (Kd.R_mono (Kd.R_far (p := ⟨gb420, 1, none⟩) (Kd.R_far (p := ⟨gb420, 0, none⟩) (Kd.R_types HO407.out BK420.out (by decide)) (fun _ hk => hk.2) (.int .i64 t415)) (fun _ hk => hk.2) (.slice Ao37 t416.length co37)) (fun _ h_ => h_.1))) hb); replace HO413 := Aside0.mk (Kd.R_below (by (with_reducible repeat (first | apply Kd.R_alloc | apply Kd.R_drewN | apply Kd.R_drew)); exact (Kd.R_mono (Kd.R_far (p := ⟨gb420, 1, none⟩) (Kd.R_far (p := ⟨gb420, 0, none⟩) (Kd.R_types HO413.out BK420.out (by decide)) (fun _ hk => hk.2) (.int .i64 t415)) (fun _ hk => hk.2) (.slice Ao37 t416.length co37)) (fun _ h_ => h_.1))) hb); replace HO418 := Aside0.mk (Kd.R_below (by (with_reducible repeat (first | apply Kd.R_alloc | apply Kd.R_drewN | apply Kd.R_drew)); exact (Kd.R_mono (Kd.R_far (p := ⟨gb420, 1, none⟩) (Kd.R_far (p := ⟨gb420, 0, none⟩) (Kd.R_types HO418.out BK420.out (by decide)) (fun _ hk => hk.2) (.int .i64 t415)) (fun _ hk => hk.2) (.slice Ao37 t416.length co37)) (fun _ h_ => h_.1))) hb); replace BK398 := Aside0.mk (blk_below (g := gb398) (o := .cells #[.int .i64 a0_0, .slice A0_1 l0_1.length c0_1] 66 (0, 0)) (by (with_reducible repeat (first | refine blk_drewN ?_ _ | refine blk_drew ?_ | refine blk_alloc ?_ _)); refine blk_far ?_ NB398_420.out _; (with_reducible repeat (first | refine blk_drewN ?_ _ | refine blk_drew ?_ | refine blk_alloc ?_ _)); refine blk_far ?_ NB398_420.out _; (with_reducible repeat (first | refine blk_drewN ?_ _ | refine blk_drew ?_ | refine blk_alloc ?_ _)); exact BK398.out) hb); replace BK409 := Aside0.mk (blk_below (g := gb409) (o := .cells #[.int .i64 t404, .slice Ao23 t405.length co23] 70 (0, 0)) (by (with_reducible repeat (first | refine blk_drewN ?_ _ | refine blk_drew ?_ | refine blk_alloc ?_ _)); refine blk_far ?_ NB409_420.out _; (with_reducible repeat (first | refine blk_drewN ?_ _ | refine blk_drew ?_ | refine blk_alloc ?_ _)); refine blk_far ?_ NB409_420.out _; (with_reducible repeat (first | refine blk_drewN ?_ _ | refine blk_drew ?_ | refine blk_alloc ?_ _)); exact BK409.out) hb); replace BK414 := Aside0.mk (blk_below (g := gb414) (o := .cells #[.int .i64 t410, .slice Ao30 t411.length co30] 70 (0, 0)) (by (with_reducible repeat (first | refine blk_drewN ?_ _ | refine blk_drew ?_ | refine blk_alloc ?_ _)); refine blk_far ?_ NB414_420.out _; (with_reducible repeat (first | refine blk_drewN ?_ _ | refine blk_drew ?_ | refine blk_alloc ?_ _)); refine blk_far ?_ NB414_420.out _; (with_reducible repeat (first | refine blk_drewN ?_ _ | refine blk_drew ?_ | refine blk_alloc ?_ _)); exact BK414.out) hb); replace BK420 := Aside0.mk (blk_below (g := gb420) (o := .cells #[.int .i64 t415, .slice Ao37 t416.length co37] 70 (0, 0)) (by (with_reducible repeat (first | refine blk_drewN ?_ _ | refine blk_drew ?_ | refine blk_alloc ?_ _)); refine blk_put (cs := #[.int .i64 t415, .slice none 0 0]) ?_ 1 _ rfl; (with_reducible repeat (first | refine blk_drewN ?_ _ | refine blk_drew ?_ | refine blk_alloc ?_ _)); refine blk_put (cs := #[.int .i64 0, .slice none 0 0]) ?_ 0 _ rfl; (with_reducible repeat (first | refine blk_drewN ?_ _ | refine blk_drew ?_ | refine blk_alloc ?_ _)); exact BK420.out) hb); replace HB := xbs hb; (try clear hb); (try clear hb2); (try clear hk); (try clear hi)))
    go_meet
    case rel => exact ⟨_, (true), (by first | rfl | (simp; done) | (simp [*]; done)), H', ⟨by first | omega | exact Nat.le_refl _⟩, ⟨by (with_reducible repeat (first | apply Kd.R_alloc | apply Kd.R_drewN | apply Kd.R_drew)); exact Kd.R_mono HO407.out (fun _ hk => ⟨hk.1.2, hk.2⟩)⟩, ⟨by (with_reducible repeat (first | apply Kd.R_alloc | apply Kd.R_drewN | apply Kd.R_drew)); exact Kd.R_mono HO413.out (fun _ hk => ⟨hk.1.2, hk.2⟩)⟩, ⟨by (with_reducible repeat (first | apply Kd.R_alloc | apply Kd.R_drewN | apply Kd.R_drew)); exact Kd.R_mono HO418.out (fun _ hk => ⟨hk.1.2, hk.2⟩)⟩, ⟨xblk⟩, ⟨xblk⟩, ⟨xblk⟩, ⟨xblk⟩, ⟨xbg⟩⟩
  case rest =>
   clear HC12
   try clear c1
   try clear c2
   try clear p2
   try clear c3
   try clear c4
   try clear c4b0
   try clear c5
   try clear c10
   try clear c21
   try clear c27
   try clear c28
   try clear c33
   try clear c34
   try clear c35
   try clear c37
   try clear c39
   try clear c40
   try clear c41
   try clear c42
   try clear c44
   try clear c45
   try clear c48
   try clear c49
   try clear c50
   try clear c52
   try clear c53
   try clear hcz14_0
   try clear hcz14_1
   try clear hcz16_0
   try clear hcz16_1
   try clear hcz22_0
   try clear hcz22_1
   try clear hcz24_0
   try clear hcz24_1
   try clear hcz29_0
   try clear hcz29_1
   try clear hcz36_0
   try clear hcz36_1
   try clear hcz43_0
   try clear hcz43_1
   try clear hcz46_0
   try clear hcz46_1
   try clear hcz51_0
   try clear hcz51_1
   try clear hcz54_0
   try clear hcz54_1
   try clear hcz6_0
   try clear hcz6_1
   try clear hfz14_0
   try clear hfz14_1
   try clear hfz16_0
   try clear hfz16_1
   try clear hfz22_0
   try clear hfz22_1
   try clear hfz24_0
   try clear hfz24_1
   try clear hfz29_0
   try clear hfz29_1
   try clear hfz36_0
   try clear hfz36_1
   try clear hfz43_0
   try clear hfz43_1
   try clear hfz46_0
   try clear hfz46_1
   try clear hfz51_0
   try clear hfz51_1
   try clear hfz54_0
   try clear hfz54_1
   try clear hfz6_0
   try clear hfz6_1
   obtain ⟨kq, x44_11, rfl, HA, HJ11, HO_410001, HO_415001, HO_421001, BK398, BK409, BK414, BK420, HB⟩ := hcut
   cases kq with
   | zero => exact absurd HA.out (by simp [laws_FnExactJournalMend.j0])
   | succ kj11 =>
    have H := HA.out
    clear HA
    simp only [laws_FnExactJournalMend.j0] at H
    by_cases c56 : x44_11 = true
    ·subst c56
     have H1 : (some false) = some r := by rw [if_pos rfl] at H; exact H
     clear H
     have H := H1
     clear H1
     obtain rfl := Option.some.inj H
     go_wp2
     go_ret
     exact ⟨by first | rfl | (simp [errW_none, errW_some] <;> rfl) | (simp [*, errW_none, errW_some] <;> rfl), xbg⟩
    ·replace c56 := Bool.eq_false_iff.mpr c56
     subst c56
     have H1 : ((laws_toDisk.f kj11 a0_0 l0_1).bind fun bt422 => ((laws_eqDisk.f kj11 t410 t411 bt422.1 bt422.2).bind fun t426 => (if t426 = true then ((laws_markDisk.f kj11 t410 t411 1).bind fun bt427 => (if bt427.1 < 0 then (laws_FnExactJournalMend.j1 kj11 a1 t408 true a0_0 l0_1 t404 t405 t415 t416) else ((laws_eqDisk.f kj11 t415 t416 t404 t405).bind fun t429 => (if t429 = true then (laws_FnExactJournalMend.j1 kj11 a1 t408 (t419 != t408) a0_0 l0_1 t404 t405 t415 t416) else (laws_FnExactJournalMend.j1 kj11 a1 t408 true a0_0 l0_1 t404 t405 t415 t416))))) else (some false)))) = some r := by rw [if_neg (show ¬ (false = true) by decide)] at H; exact H
     clear H
     have H := H1
     clear H1
     replace H := Option.bind_eq_some_iff.mp H
     obtain ⟨⟨t422, t423⟩, A570, H⟩ := H
     replace H : ((laws_eqDisk.f kj11 t410 t411 t422 t423).bind fun t426 => (if t426 = true then ((laws_markDisk.f kj11 t410 t411 1).bind fun bt427 => (if bt427.1 < 0 then (laws_FnExactJournalMend.j1 kj11 a1 t408 true a0_0 l0_1 t404 t405 t415 t416) else ((laws_eqDisk.f kj11 t415 t416 t404 t405).bind fun t429 => (if t429 = true then (laws_FnExactJournalMend.j1 kj11 a1 t408 (t419 != t408) a0_0 l0_1 t404 t405 t415 t416) else (laws_FnExactJournalMend.j1 kj11 a1 t408 true a0_0 l0_1 t404 t405 t415 t416))))) else (some false))) = some r := H
     have A57 := Aside0.mk A570
     clear A570
     replace H := Option.bind_eq_some_iff.mp H
     obtain ⟨t426, A580, H⟩ := H
     replace H : (if t426 = true then ((laws_markDisk.f kj11 t410 t411 1).bind fun bt427 => (if bt427.1 < 0 then (laws_FnExactJournalMend.j1 kj11 a1 t408 true a0_0 l0_1 t404 t405 t415 t416) else ((laws_eqDisk.f kj11 t415 t416 t404 t405).bind fun t429 => (if t429 = true then (laws_FnExactJournalMend.j1 kj11 a1 t408 (t419 != t408) a0_0 l0_1 t404 t405 t415 t416) else (laws_FnExactJournalMend.j1 kj11 a1 t408 true a0_0 l0_1 t404 t405 t415 t416))))) else (some false)) = some r := H
     have A58 := Aside0.mk A580
     clear A580
     by_cases c59 : t426 = true
     ·subst c59
      have H1 : ((laws_markDisk.f kj11 t410 t411 1).bind fun bt427 => (if bt427.1 < 0 then (laws_FnExactJournalMend.j1 kj11 a1 t408 true a0_0 l0_1 t404 t405 t415 t416) else ((laws_eqDisk.f kj11 t415 t416 t404 t405).bind fun t429 => (if t429 = true then (laws_FnExactJournalMend.j1 kj11 a1 t408 (t419 != t408) a0_0 l0_1 t404 t405 t415 t416) else (laws_FnExactJournalMend.j1 kj11 a1 t408 true a0_0 l0_1 t404 t405 t415 t416))))) = some r := by rw [if_pos rfl] at H; exact H
      clear H
      have H := H1
      clear H1
      replace H := Option.bind_eq_some_iff.mp H
      obtain ⟨⟨t427, t428⟩, A600, H⟩ := H
      replace H : (if t427 < 0 then (laws_FnExactJournalMend.j1 kj11 a1 t408 true a0_0 l0_1 t404 t405 t415 t416) else ((laws_eqDisk.f kj11 t415 t416 t404 t405).bind fun t429 => (if t429 = true then (laws_FnExactJournalMend.j1 kj11 a1 t408 (t419 != t408) a0_0 l0_1 t404 t405 t415 t416) else (laws_FnExactJournalMend.j1 kj11 a1 t408 true a0_0 l0_1 t404 t405 t415 t416)))) = some r := H
      have A60 := Aside0.mk A600
      clear A600
      have HC61 := Aside0.mk H
      clear H
      try go_wp2
      replace HO_410001 := Aside0.mk (Kd.R_drew HO_410001.out)
      replace HO_415001 := Aside0.mk (Kd.R_drew HO_415001.out)
      replace HO_421001 := Aside0.mk (Kd.R_drew HO_421001.out)
      replace BK398 := Aside0.mk (blk_drew BK398.out)
      replace BK409 := Aside0.mk (blk_drew BK409.out)
      replace BK414 := Aside0.mk (blk_drew BK414.out)
      replace BK420 := Aside0.mk (blk_drew BK420.out)
      replace HB := Aside0.mk (below_drew1 HB.out)
      refine start_ (n := 5) (S := fun w' => w'.cell? ⟨gb414, 0, none⟩ = some (.int .i64 t410) ∧ w'.cell? ⟨gb414, 1, none⟩ = some (.slice Ao30 t411.length co30) ∧ w'.cell? ⟨gb398, 0, none⟩ = some (.int .i64 a0_0) ∧ w'.cell? ⟨gb398, 1, none⟩ = some (.slice A0_1 l0_1.length c0_1)) (ds := []) #[false, false, false, false, false] (by kernel_rfl) rfl rfl ⟨(blk_cell BK414.out 0).trans rfl, (blk_cell BK414.out 1).trans rfl, (blk_cell BK398.out 0).trans rfl, (blk_cell BK398.out 1).trans rfl⟩ (fun hHeld => ?_)
      generalize wc.drew = w62 at HO_410001 HO_415001 HO_421001 BK398 BK409 BK414 BK420 HB hHeld ⊢
      refine take_ (i := 0) (N := some 45) (v := ?_) (a' := ?_) #[true, false, false, false, false] rfl rfl (by kernel_rfl) (fun _ _ _ h => h) (Or.inl ⟨by rfl, ?_⟩) hHeld ?_ ?_
      rotate_left
      ·rintro w' ⟨s0, s1, s2, s3⟩
       go_simp
       with_reducible rfl
      rotate_left
      ·simp only [Act.put, List.setIfInBounds_toArray, List.set_cons_zero, List.set_cons_succ, i64_w, i32_w]
       rfl
      refine take_ (i := 1) (N := some 46) (v := ?_) (a' := ?_) #[true, true, false, false, false] rfl rfl (by kernel_rfl) (fun _ _ _ h => h) (Or.inl ⟨by rfl, ?_⟩) hHeld ?_ ?_
      rotate_left
      ·rintro w' ⟨s0, s1, s2, s3⟩
       go_simp
       with_reducible rfl
      rotate_left
      ·simp only [Act.put, List.setIfInBounds_toArray, List.set_cons_zero, List.set_cons_succ, i64_w, i32_w]
       rfl
      refine one_ (i := 2) (N := some 47) #[true, true, true, false, false] rfl rfl (by kernel_rfl) (by decide) (fun K hK => ?_)
      refine goes_ Try.func39 (by kernel_rfl) rfl #[.agg #[.int .i64 a0_0, .slice A0_1 l0_1.length c0_1]] (by rfl) rfl rfl (by (try simp only [List.map_toArray, List.map_cons, List.map_nil]); first | done | rfl | (simp only [List.length_drop, List.length_take]; rfl)) ?_
      with_reducible refine (laws_toDisk.calls kj11 a0_0 _ _ l0_1 t422 t423 _ ?side1 ?side2 A57.out).mono ?_
      (case side1 => exact xcb HR0_1)
      (case side2 => exact HC0_1.out)
      rintro e w63 ⟨v424, rfl, ho0, hb⟩
      refine ⟨_, rfl, ?_⟩
      have HO425 := Aside0.mk (Kd.R_lower (Kd.R_new' (Kd.R_new' (Kd.R_new' ho0 (Kd.R_lt (by (with_reducible repeat (first | apply Kd.R_alloc | apply Kd.R_drewN | apply Kd.R_drew)); exact HO_410001.out))) (Kd.R_lt (by (with_reducible repeat (first | apply Kd.R_alloc | apply Kd.R_drewN | apply Kd.R_drew)); exact HO_415001.out))) (Kd.R_lt (by (with_reducible repeat (first | apply Kd.R_alloc | apply Kd.R_drewN | apply Kd.R_drew)); exact HO_421001.out))) (below_size xbg))
      replace HO_410001 := Aside0.mk (Kd.R_elder' (by (with_reducible repeat (first | apply Kd.R_alloc | apply Kd.R_drewN | apply Kd.R_drew)); exact HO_410001.out) (Kd.R_base ho0) hb)
      replace HO_415001 := Aside0.mk (Kd.R_elder' (by (with_reducible repeat (first | apply Kd.R_alloc | apply Kd.R_drewN | apply Kd.R_drew)); exact HO_415001.out) (Kd.R_base ho0) hb)
      replace HO_421001 := Aside0.mk (Kd.R_elder' (by (with_reducible repeat (first | apply Kd.R_alloc | apply Kd.R_drewN | apply Kd.R_drew)); exact HO_421001.out) (Kd.R_base ho0) hb)
      replace BK398 := xbb BK398 hb
      replace BK409 := xbb BK409 hb
      replace BK414 := xbb BK414 hb
      replace BK420 := xbb BK420 hb
      replace HB := xbs hb
      (try clear hb); (try clear hb2); (try clear hk); (try clear hi); (try clear ho0)
      obtain ⟨Ao64, co64, eo64⟩ := Kd.R_slice HO425.out
      (first | subst eo64 | (injection eo64 with f1_ f2_ f3_; have f4_ := f1_.symm; have f5_ := f3_.symm; clear f1_ f2_ f3_; subst f4_; subst f5_))
      refine hK.out _ _ ⟨(blk_cell BK414.out 0).trans rfl, (blk_cell BK414.out 1).trans rfl, (blk_cell BK398.out 0).trans rfl, (blk_cell BK398.out 1).trans rfl⟩ (fun hHeld => ?_)
      clear hK K
      refine norm_ (a' := ?_) ?_ ?_
      rotate_left
      ·show Act.put _ (some 47) _ = _
       simp only [Act.put, List.setIfInBounds_toArray, List.set_cons_zero, List.set_cons_succ, i64_w, i32_w]
       rfl
      refine one_ (i := 3) (N := some 48) #[true, true, true, true, false] rfl rfl (by kernel_rfl) (by decide) (fun K hK => ?_)
      refine goes_ Try.func41 (by kernel_rfl) rfl #[.agg #[.int .i64 t410, .slice Ao30 t411.length co30], .agg #[.int .i64 t422, .slice Ao64 t423.length co64]] (by rfl) rfl rfl (by (try simp only [List.map_toArray, List.map_cons, List.map_nil]); first | done | rfl | (simp only [List.length_drop, List.length_take]; rfl)) ?_
      with_reducible refine (laws_eqDisk.calls kj11 t410 _ _ t411 t422 _ _ t423 true _ ?side1 ?side2 ?side3 ?side4 A58.out).mono ?_
      (case side1 => repeat (first | exact (Kd.R_reads' HO_415001.out).2.2 | (with_reducible refine Kd.C_alloc ?_ _) | (with_reducible refine Kd.C_drewN ?_ _) | (with_reducible refine Kd.C_drew ?_)))
      (case side2 => exact (Kd.R_reads' HO_415001.out).2.1)
      (case side3 => repeat (first | exact (Kd.R_reads' HO425.out).2.2 | (with_reducible refine Kd.C_alloc ?_ _) | (with_reducible refine Kd.C_drewN ?_ _) | (with_reducible refine Kd.C_drew ?_)))
      (case side4 => exact (Kd.R_reads' HO425.out).2.1)
      rintro e w65 ⟨rfl, hb⟩
      refine ⟨_, rfl, ?_⟩
      replace HO_410001 := Aside0.mk (Kd.R_below (by (with_reducible repeat (first | apply Kd.R_alloc | apply Kd.R_drewN | apply Kd.R_drew)); exact HO_410001.out) hb)
      replace HO_415001 := Aside0.mk (Kd.R_below (by (with_reducible repeat (first | apply Kd.R_alloc | apply Kd.R_drewN | apply Kd.R_drew)); exact HO_415001.out) hb)
      replace HO_421001 := Aside0.mk (Kd.R_below (by (with_reducible repeat (first | apply Kd.R_alloc | apply Kd.R_drewN | apply Kd.R_drew)); exact HO_421001.out) hb)
      replace HO425 := Aside0.mk (Kd.R_below (by (with_reducible repeat (first | apply Kd.R_alloc | apply Kd.R_drewN | apply Kd.R_drew)); exact HO425.out) hb)
      replace BK398 := xbb BK398 hb
      replace BK409 := xbb BK409 hb
      replace BK414 := xbb BK414 hb
      replace BK420 := xbb BK420 hb
      replace HB := xbs hb
      (try clear hb); (try clear hb2); (try clear hk); (try clear hi)
      refine hK.out _ _ ⟨(blk_cell BK414.out 0).trans rfl, (blk_cell BK414.out 1).trans rfl, (blk_cell BK398.out 0).trans rfl, (blk_cell BK398.out 1).trans rfl⟩ (fun hHeld => ?_)
      clear hK K
      refine norm_ (a' := ?_) ?_ ?_
      rotate_left
      ·show Act.put _ (some 48) _ = _
       simp only [Act.put, List.setIfInBounds_toArray, List.set_cons_zero, List.set_cons_succ, i64_w, i32_w]
       rfl
      refine pure_ (i := 4) (N := some 49) (v := ?_) (a' := ?_) #[true, true, true, true, true] rfl rfl (by kernel_rfl) (fun _ _ _ h => h) (Or.inl ⟨by rfl, ?_⟩) ?_ ?_
      rotate_left
      ·intro w'
       go_simp
       with_reducible rfl
      rotate_left
      ·simp only [Act.put, List.setIfInBounds_toArray, List.set_cons_zero, List.set_cons_succ, i64_w, i32_w]
       rfl
      refine done_ (by kernel_rfl) ?_
      have hnb66 := NB414_398.out
      have hnc66 := NB398_414.out
      have hnb67 := NB414_409.out
      have hnc67 := NB409_414.out
      have hnb68 := NB414_420.out
      have hnc68 := NB420_414.out
      have hcz69_0 : w65.cell? ⟨gb414, 0, none⟩ = some (.int .i64 t410) := (blk_cell BK414.out 0).trans rfl
      have hcz69_1 : w65.cell? ⟨gb414, 1, none⟩ = some (.slice Ao30 t411.length co30) := (blk_cell BK414.out 1).trans rfl
      have hfz69_0 := blk_frozen BK414.out 0
      have hfz69_1 := blk_frozen BK414.out 1
      go_upto_region 14 with (first | ((with_reducible refine gate_callee (f := 42) rfl ?_); refine goesL_ (some 52) rfl rfl Try.func42 (by kernel_rfl) rfl #[.agg #[.int .i64 t410, .slice Ao30 t411.length co30], .int .i64 1] rfl (by (try simp only [List.map_toArray, List.map_cons, List.map_nil]); first | done | rfl | (simp only [List.length_drop, List.length_take]; rfl)) ?_; (with_reducible refine (laws_markDisk.calls kj11 t410 (fun k_ => some k_ = (.slice Ao30 t411.length co30 : Value).ownBlock) (.slice Ao30 t411.length co30) t411 1 t427 t428 w _ ?side1 ?side2 A60.out).mono ?_); (case side1 => repeat (first | (with_reducible first | exact HB.out | apply below_alloc | apply pw_below_drewN | apply below_drew1 | refine below_set ?_ GE398.out | refine below_set ?_ GE409.out | refine below_set ?_ GE414.out | refine below_set ?_ GE420.out) | exact HB.out)); (case side2 => exact Kd.R_tight rfl HO_415001.out); rintro e w70 ⟨rfl, hy0, hb, hkp⟩; refine ⟨_, rfl, ?_⟩; have n0_ := Aside0.mk (Kd.R_mono (ok' := fun k_ => some k_ ≠ (.slice Ao30 t411.length co30 : Value).ownBlock ∧ some k_ ≠ (.slice Ao37 t416.length co37 : Value).ownBlock ∧ some k_ ≠ (.slice Ao64 t423.length co64 : Value).ownBlock) (Kd.R_keptB (HO_410001.out) hkp (fun k_ hk_ hs_ => (hk_.1.1) hs_)) (fun k_ hk_ => ⟨hk_.1.1.1, hk_.1.1.2, hk_.1.2⟩)); have n1_ := Aside0.mk (Kd.R_reok rfl hy0 (fun k_ e_ => HO_415001.out.1 k_ e_)); have n2_ := Aside0.mk (Kd.R_mono (ok' := fun k_ => some k_ ≠ (.slice Ao23 t405.length co23 : Value).ownBlock ∧ some k_ ≠ (.slice Ao30 t411.length co30 : Value).ownBlock ∧ some k_ ≠ (.slice Ao64 t423.length co64 : Value).ownBlock) (Kd.R_keptB (HO_421001.out) hkp (fun k_ hk_ hs_ => (hk_.1.2) hs_)) (fun k_ hk_ => ⟨hk_.1.1.1, hk_.1.1.2, hk_.1.2⟩)); have n3_ := Aside0.mk (blk_kept xblk hkp (fun hs_ => (fun e_ => (Kd.R_ne HO_415001.out BK398.out (by decide)) e_) hs_)); have n4_ := Aside0.mk (blk_kept xblk hkp (fun hs_ => (fun e_ => (Kd.R_ne HO_415001.out BK409.out (by decide)) e_) hs_)); have n5_ := Aside0.mk (blk_kept xblk hkp (fun hs_ => (fun e_ => (Kd.R_ne HO_415001.out BK414.out (by decide)) e_) hs_)); have n6_ := Aside0.mk (blk_kept xblk hkp (fun hs_ => (fun e_ => (Kd.R_ne HO_415001.out BK420.out (by decide)) e_) hs_)); have n7_ := Aside0.mk (Kd.R_mono (ok' := fun k_ => some k_ ≠ (.slice Ao23 t405.length co23 : Value).ownBlock ∧ some k_ ≠ (.slice Ao30 t411.length co30 : Value).ownBlock ∧ some k_ ≠ (.slice Ao37 t416.length co37 : Value).ownBlock) (Kd.R_keptB (HO425.out) hkp (fun k_ hk_ hs_ => (hk_.1.2) hs_)) (fun k_ hk_ => ⟨hk_.1.1.1.2, hk_.1.1.2, hk_.1.2⟩)); have n8_ := Aside0.mk (hb); clear HO_410001; clear HO_415001; clear HO_421001; clear BK398; clear BK409; clear BK414; clear BK420; clear HO425; clear HB; have HO_410001 := n0_; have HO_415001 := n1_; have HO_421001 := n2_; have BK398 := n3_; have BK409 := n4_; have BK414 := n5_; have BK420 := n6_; have HO425 := n7_; have HB := n8_; clear n0_ n1_ n2_ n3_ n4_ n5_ n6_ n7_ n8_; (try clear hb); (try clear hkp); (try clear hy0)))
      (try simp only [Act.put, List.setIfInBounds_toArray, List.set_cons_zero, List.set_cons_succ])
      go_cut [65] (fun v65 wc => ∃ (kq : Nat) (x65_60 : Bool), v65 = .bool x65_60 ∧ Aside0 (laws_FnExactJournalMend.j1 kq a1 t408 x65_60 a0_0 l0_1 t404 t405 t415 t416 = some r) ∧ Aside0 (kq ≤ kj11) ∧ Aside0 (Kd.R k134 134 wc w.heap.size (fun k_ => some k_ ≠ ((.slice Ao30 t411.length co30) : Value).ownBlock ∧ some k_ ≠ ((.slice Ao37 t416.length co37) : Value).ownBlock) (.slice Ao23 t405.length co23) t405) ∧ Aside0 (Kd.R k134 134 wc w.heap.size (fun k_ => some k_ ≠ ((.slice Ao23 t405.length co23) : Value).ownBlock ∧ some k_ ≠ ((.slice Ao37 t416.length co37) : Value).ownBlock) (.slice Ao30 t411.length co30) t428) ∧ Aside0 (Kd.R k134 134 wc w.heap.size (fun k_ => some k_ ≠ ((.slice Ao23 t405.length co23) : Value).ownBlock ∧ some k_ ≠ ((.slice Ao30 t411.length co30) : Value).ownBlock) (.slice Ao37 t416.length co37) t416) ∧ Aside0 (wc.heap[gb398]? = some (.cells #[.int .i64 a0_0, (.slice A0_1 l0_1.length c0_1)] 66 (0, 0))) ∧ Aside0 (wc.heap[gb409]? = some (.cells #[.int .i64 t404, (.slice Ao23 t405.length co23)] 70 (0, 0))) ∧ Aside0 (wc.heap[gb414]? = some (.cells #[.int .i64 t410, (.slice Ao30 t411.length co30)] 70 (0, 0))) ∧ Aside0 (wc.heap[gb420]? = some (.cells #[.int .i64 t415, (.slice Ao37 t416.length co37)] 70 (0, 0))) ∧ Aside0 (Below w.heap.size w wc))
      case first =>
       have H := HC61.out
       clear HC61
       by_cases c71 : t427 < 0
       ·rw [if_pos c71] at H
        have c71b0 : decide (t427 < 0) = true := decide_eq_true c71
        clear c71
        (first | rw [c71b0] | (simp only [i64_w, i32_w]; rw [c71b0]) | skip)
        have H' := Aside0.mk H
        clear H
        go_wp2
        go_meet
        case rel => exact ⟨_, (true), (by first | rfl | (simp; done) | (simp [*]; done)), H', ⟨by have := HJ11.out; first | omega | exact Nat.le_refl _⟩, ⟨by (with_reducible repeat (first | apply Kd.R_alloc | apply Kd.R_drewN | apply Kd.R_drew)); exact Kd.R_mono HO_410001.out (fun _ hk => ⟨hk.1, hk.2.1⟩)⟩, ⟨by (with_reducible repeat (first | apply Kd.R_alloc | apply Kd.R_drewN | apply Kd.R_drew)); exact Kd.R_mono HO_415001.out (fun _ hk => ⟨hk.1.1, hk.1.2⟩)⟩, ⟨by (with_reducible repeat (first | apply Kd.R_alloc | apply Kd.R_drewN | apply Kd.R_drew)); exact Kd.R_mono HO_421001.out (fun _ hk => ⟨hk.1, hk.2.1⟩)⟩, ⟨xblk⟩, ⟨xblk⟩, ⟨xblk⟩, ⟨xblk⟩, ⟨xbg⟩⟩
       ·rw [if_neg c71] at H
        have c71b0 : decide (t427 < 0) = false := decide_eq_false c71
        clear c71
        (first | rw [c71b0] | (simp only [i64_w, i32_w]; rw [c71b0]) | skip)
        replace H := Option.bind_eq_some_iff.mp H
        obtain ⟨t429, A720, H⟩ := H
        replace H : (if t429 = true then (laws_FnExactJournalMend.j1 kj11 a1 t408 (t419 != t408) a0_0 l0_1 t404 t405 t415 t416) else (laws_FnExactJournalMend.j1 kj11 a1 t408 true a0_0 l0_1 t404 t405 t415 t416)) = some r := H
        have A72 := Aside0.mk A720
        clear A720
        by_cases c73 : t429 = true
        ·subst c73
         have H1 : (laws_FnExactJournalMend.j1 kj11 a1 t408 (t419 != t408) a0_0 l0_1 t404 t405 t415 t416) = some r := by rw [if_pos rfl] at H; exact H
         clear H
         have H := H1
         clear H1
         have H' := Aside0.mk H
         clear H
         have hnb74 := NB420_398.out
         have hnc74 := NB398_420.out
         have hnb75 := NB420_409.out
         have hnc75 := NB409_420.out
         have hnb76 := NB420_414.out
         have hnc76 := NB414_420.out
         have hcz77_0 : w70.cell? ⟨gb420, 0, none⟩ = some (.int .i64 t415) := (blk_cell BK420.out 0).trans rfl
         have hcz77_1 : w70.cell? ⟨gb420, 1, none⟩ = some (.slice Ao37 t416.length co37) := (blk_cell BK420.out 1).trans rfl
         have hfz77_0 := blk_frozen BK420.out 0
         have hfz77_1 := blk_frozen BK420.out 1
         have hnb78 := NB409_398.out
         have hnc78 := NB398_409.out
         have hnb79 := NB409_414.out
         have hnc79 := NB414_409.out
         have hcz80_0 : w70.cell? ⟨gb409, 0, none⟩ = some (.int .i64 t404) := (blk_cell BK409.out 0).trans rfl
         have hcz80_1 : w70.cell? ⟨gb409, 1, none⟩ = some (.slice Ao23 t405.length co23) := (blk_cell BK409.out 1).trans rfl
         have hfz80_0 := blk_frozen BK409.out 0
         have hfz80_1 := blk_frozen BK409.out 1
         go_wp2_with (first | (go_at_call 41; (with_reducible refine (laws_eqDisk.calls kj11 t415 _ _ t416 t404 _ _ t405 true _ ?side1 ?side2 ?side3 ?side4 A72.out).mono ?_); (case side1 => repeat (first | exact (Kd.R_reads' HO_421001.out).2.2 | (with_reducible refine Kd.C_alloc ?_ _) | (with_reducible refine Kd.C_drewN ?_ _) | (with_reducible refine Kd.C_drew ?_))); (case side2 => exact (Kd.R_reads' HO_421001.out).2.1); (case side3 => repeat (first | exact (Kd.R_reads' HO_410001.out).2.2 | (with_reducible refine Kd.C_alloc ?_ _) | (with_reducible refine Kd.C_drewN ?_ _) | (with_reducible refine Kd.C_drew ?_))); (case side4 => exact (Kd.R_reads' HO_410001.out).2.1); rintro e w81 ⟨rfl, hb⟩; replace HO_410001 := Aside0.mk (Kd.R_below (by (with_reducible repeat (first | apply Kd.R_alloc | apply Kd.R_drewN | apply Kd.R_drew)); exact HO_410001.out) hb); replace HO_415001 := Aside0.mk (Kd.R_below (by (with_reducible repeat (first | apply Kd.R_alloc | apply Kd.R_drewN | apply Kd.R_drew)); exact HO_415001.out) hb); replace HO_421001 := Aside0.mk (Kd.R_below (by (with_reducible repeat (first | apply Kd.R_alloc | apply Kd.R_drewN | apply Kd.R_drew)); exact HO_421001.out) hb); replace HO425 := Aside0.mk (Kd.R_below (by (with_reducible repeat (first | apply Kd.R_alloc | apply Kd.R_drewN | apply Kd.R_drew)); exact HO425.out) hb); replace BK398 := xbb BK398 hb; replace BK409 := xbb BK409 hb; replace BK414 := xbb BK414 hb; replace BK420 := xbb BK420 hb; replace HB := xbs hb; (try clear hb); (try clear hb2); (try clear hk); (try clear hi)))
         go_meet
         case rel => exact ⟨_, ((t419 != t408)), (by first | rfl | (simp; done) | (simp [*]; done)), H', ⟨by have := HJ11.out; first | omega | exact Nat.le_refl _⟩, ⟨by (with_reducible repeat (first | apply Kd.R_alloc | apply Kd.R_drewN | apply Kd.R_drew)); exact Kd.R_mono HO_410001.out (fun _ hk => ⟨hk.1, hk.2.1⟩)⟩, ⟨by (with_reducible repeat (first | apply Kd.R_alloc | apply Kd.R_drewN | apply Kd.R_drew)); exact Kd.R_mono HO_415001.out (fun _ hk => ⟨hk.1.1, hk.1.2⟩)⟩, ⟨by (with_reducible repeat (first | apply Kd.R_alloc | apply Kd.R_drewN | apply Kd.R_drew)); exact Kd.R_mono HO_421001.out (fun _ hk => ⟨hk.1, hk.2.1⟩)⟩, ⟨xblk⟩, ⟨xblk⟩, ⟨xblk⟩, ⟨xblk⟩, ⟨xbg⟩⟩
        ·replace c73 := Bool.eq_false_iff.mpr c73
         subst c73
         have H1 : (laws_FnExactJournalMend.j1 kj11 a1 t408 true a0_0 l0_1 t404 t405 t415 t416) = some r := by rw [if_neg (show ¬ (false = true) by decide)] at H; exact H
         clear H
         have H := H1
         clear H1
         have H' := Aside0.mk H
         clear H
         have hnb82 := NB420_398.out
         have hnc82 := NB398_420.out
         have hnb83 := NB420_409.out
         have hnc83 := NB409_420.out
         have hnb84 := NB420_414.out
         have hnc84 := NB414_420.out
         have hcz85_0 : w70.cell? ⟨gb420, 0, none⟩ = some (.int .i64 t415) := (blk_cell BK420.out 0).trans rfl
         have hcz85_1 : w70.cell? ⟨gb420, 1, none⟩ = some (.slice Ao37 t416.length co37) := (blk_cell BK420.out 1).trans rfl
         have hfz85_0 := blk_frozen BK420.out 0
         have hfz85_1 := blk_frozen BK420.out 1
         have hnb86 := NB409_398.out
         have hnc86 := NB398_409.out
         have hnb87 := NB409_414.out
         have hnc87 := NB414_409.out
         have hcz88_0 : w70.cell? ⟨gb409, 0, none⟩ = some (.int .i64 t404) := (blk_cell BK409.out 0).trans rfl
         have hcz88_1 : w70.cell? ⟨gb409, 1, none⟩ = some (.slice Ao23 t405.length co23) := (blk_cell BK409.out 1).trans rfl
         have hfz88_0 := blk_frozen BK409.out 0
         have hfz88_1 := blk_frozen BK409.out 1
         go_wp2_with (first | (go_at_call 41; (with_reducible refine (laws_eqDisk.calls kj11 t415 _ _ t416 t404 _ _ t405 false _ ?side1 ?side2 ?side3 ?side4 A72.out).mono ?_); (case side1 => repeat (first | exact (Kd.R_reads' HO_421001.out).2.2 | (with_reducible refine Kd.C_alloc ?_ _) | (with_reducible refine Kd.C_drewN ?_ _) | (with_reducible refine Kd.C_drew ?_))); (case side2 => exact (Kd.R_reads' HO_421001.out).2.1); (case side3 => repeat (first | exact (Kd.R_reads' HO_410001.out).2.2 | (with_reducible refine Kd.C_alloc ?_ _) | (with_reducible refine Kd.C_drewN ?_ _) | (with_reducible refine Kd.C_drew ?_))); (case side4 => exact (Kd.R_reads' HO_410001.out).2.1); rintro e w89 ⟨rfl, hb⟩; replace HO_410001 := Aside0.mk (Kd.R_below (by (with_reducible repeat (first | apply Kd.R_alloc | apply Kd.R_drewN | apply Kd.R_drew)); exact HO_410001.out) hb); replace HO_415001 := Aside0.mk (Kd.R_below (by (with_reducible repeat (first | apply Kd.R_alloc | apply Kd.R_drewN | apply Kd.R_drew)); exact HO_415001.out) hb); replace HO_421001 := Aside0.mk (Kd.R_below (by (with_reducible repeat (first | apply Kd.R_alloc | apply Kd.R_drewN | apply Kd.R_drew)); exact HO_421001.out) hb); replace HO425 := Aside0.mk (Kd.R_below (by (with_reducible repeat (first | apply Kd.R_alloc | apply Kd.R_drewN | apply Kd.R_drew)); exact HO425.out) hb); replace BK398 := xbb BK398 hb; replace BK409 := xbb BK409 hb; replace BK414 := xbb BK414 hb; replace BK420 := xbb BK420 hb; replace HB := xbs hb; (try clear hb); (try clear hb2); (try clear hk); (try clear hi)))
         go_meet
         case rel => exact ⟨_, (true), (by first | rfl | (simp; done) | (simp [*]; done)), H', ⟨by have := HJ11.out; first | omega | exact Nat.le_refl _⟩, ⟨by (with_reducible repeat (first | apply Kd.R_alloc | apply Kd.R_drewN | apply Kd.R_drew)); exact Kd.R_mono HO_410001.out (fun _ hk => ⟨hk.1, hk.2.1⟩)⟩, ⟨by (with_reducible repeat (first | apply Kd.R_alloc | apply Kd.R_drewN | apply Kd.R_drew)); exact Kd.R_mono HO_415001.out (fun _ hk => ⟨hk.1.1, hk.1.2⟩)⟩, ⟨by (with_reducible repeat (first | apply Kd.R_alloc | apply Kd.R_drewN | apply Kd.R_drew)); exact Kd.R_mono HO_421001.out (fun _ hk => ⟨hk.1, hk.2.1⟩)⟩, ⟨xblk⟩, ⟨xblk⟩, ⟨xblk⟩, ⟨xblk⟩, ⟨xbg⟩⟩
      case rest =>
       clear HC61
       try clear c1
       try clear c2
       try clear p2
       try clear c3
       try clear c4
       try clear c4b0
       try clear c5
       try clear c6
       try clear c7
       try clear c8
       try clear c10
       try clear c21
       try clear c27
       try clear c28
       try clear c33
       try clear c34
       try clear c35
       try clear c37
       try clear c39
       try clear c40
       try clear c41
       try clear c42
       try clear c44
       try clear c45
       try clear c48
       try clear c49
       try clear c50
       try clear c52
       try clear c53
       try clear c56
       try clear c57
       try clear c58
       try clear c59
       try clear c66
       try clear c67
       try clear c68
       try clear c71
       try clear c71b0
       try clear c73
       try clear c74
       try clear c75
       try clear c76
       try clear c78
       try clear c79
       try clear c82
       try clear c83
       try clear c84
       try clear c86
       try clear c87
       try clear hcz14_0
       try clear hcz14_1
       try clear hcz16_0
       try clear hcz16_1
       try clear hcz22_0
       try clear hcz22_1
       try clear hcz24_0
       try clear hcz24_1
       try clear hcz29_0
       try clear hcz29_1
       try clear hcz36_0
       try clear hcz36_1
       try clear hcz43_0
       try clear hcz43_1
       try clear hcz46_0
       try clear hcz46_1
       try clear hcz51_0
       try clear hcz51_1
       try clear hcz54_0
       try clear hcz54_1
       try clear hcz69_0
       try clear hcz69_1
       try clear hcz6_0
       try clear hcz6_1
       try clear hcz77_0
       try clear hcz77_1
       try clear hcz80_0
       try clear hcz80_1
       try clear hcz85_0
       try clear hcz85_1
       try clear hcz88_0
       try clear hcz88_1
       try clear hfz14_0
       try clear hfz14_1
       try clear hfz16_0
       try clear hfz16_1
       try clear hfz22_0
       try clear hfz22_1
       try clear hfz24_0
       try clear hfz24_1
       try clear hfz29_0
       try clear hfz29_1
       try clear hfz36_0
       try clear hfz36_1
       try clear hfz43_0
       try clear hfz43_1
       try clear hfz46_0
       try clear hfz46_1
       try clear hfz51_0
       try clear hfz51_1
       try clear hfz54_0
       try clear hfz54_1
       try clear hfz69_0
       try clear hfz69_1
       try clear hfz6_0
       try clear hfz6_1
       try clear hfz77_0
       try clear hfz77_1
       try clear hfz80_0
       try clear hfz80_1
       try clear hfz85_0
       try clear hfz85_1
       try clear hfz88_0
       try clear hfz88_1
       try clear p2
       obtain ⟨kq, x65_60, rfl, HA, HJ60, HO_410001, HO_415001, HO_421001, BK398, BK409, BK414, BK420, HB⟩ := hcut
       have hl415001_60 := (Kd.R_reads' HO_415001.out).1
       rw [hl415001_60] at HO_415001
       (try simp only [hl415001_60])
       (try simp only [hl415001_60] at BK398)
       (try simp only [hl415001_60] at BK409)
       (try simp only [hl415001_60] at BK414)
       (try simp only [hl415001_60] at BK420)
       (try simp only [hl415001_60] at HO_410001)
       (try simp only [hl415001_60] at HO_421001)
       cases kq with
       | zero => exact absurd HA.out (by simp [laws_FnExactJournalMend.j1])
       | succ kj60 =>
        have H := HA.out
        clear HA
        simp only [laws_FnExactJournalMend.j1] at H
        by_cases c90 : x65_60 = true
        ·subst c90
         have H1 : (some false) = some r := by rw [if_pos rfl] at H; exact H
         clear H
         have H := H1
         clear H1
         obtain rfl := Option.some.inj H
         go_wp2
         go_ret
         exact ⟨by first | rfl | (simp [errW_none, errW_some] <;> rfl) | (simp [*, errW_none, errW_some] <;> rfl), xbg⟩
        ·replace c90 := Bool.eq_false_iff.mpr c90
         subst c90
         have H1 : ((laws_markDisk.f kj60 t415 t416 1).bind fun bt430 => ((laws_heldDisk.f kj60 t415 bt430.2 1).bind fun t432 => (if t432 < 0 then (some false) else (if t432 = bt430.1 then ((laws_toDisk.f kj60 a0_0 l0_1).bind fun bt433 => ((impl_JournalMend.f kj60 bt433.1 bt433.2 a1).bind fun bt437 => ((laws_eqDisk.f kj60 bt437.1 bt437.2.1 t404 t405).bind fun t443 => (if t443 = true then (laws_FnExactJournalMend.j2 kj60 bt430.1 (bt437.2.2 != t408) t415 bt430.2) else (laws_FnExactJournalMend.j2 kj60 bt430.1 true t415 bt430.2))))) else (some false))))) = some r := by rw [if_neg (show ¬ (false = true) by decide)] at H; exact H
         clear H
         have H := H1
         clear H1
         replace H := Option.bind_eq_some_iff.mp H
         obtain ⟨⟨t430, t431⟩, A910, H⟩ := H
         replace H : ((laws_heldDisk.f kj60 t415 t431 1).bind fun t432 => (if t432 < 0 then (some false) else (if t432 = t430 then ((laws_toDisk.f kj60 a0_0 l0_1).bind fun bt433 => ((impl_JournalMend.f kj60 bt433.1 bt433.2 a1).bind fun bt437 => ((laws_eqDisk.f kj60 bt437.1 bt437.2.1 t404 t405).bind fun t443 => (if t443 = true then (laws_FnExactJournalMend.j2 kj60 t430 (bt437.2.2 != t408) t415 t431) else (laws_FnExactJournalMend.j2 kj60 t430 true t415 t431))))) else (some false)))) = some r := H
         have A91 := Aside0.mk A910
         clear A910
         replace H := Option.bind_eq_some_iff.mp H
         obtain ⟨t432, A920, H⟩ := H
         replace H : (if t432 < 0 then (some false) else (if t432 = t430 then ((laws_toDisk.f kj60 a0_0 l0_1).bind fun bt433 => ((impl_JournalMend.f kj60 bt433.1 bt433.2 a1).bind fun bt437 => ((laws_eqDisk.f kj60 bt437.1 bt437.2.1 t404 t405).bind fun t443 => (if t443 = true then (laws_FnExactJournalMend.j2 kj60 t430 (bt437.2.2 != t408) t415 t431) else (laws_FnExactJournalMend.j2 kj60 t430 true t415 t431))))) else (some false))) = some r := H
         have A92 := Aside0.mk A920
         clear A920
         by_cases c93 : t432 < 0
         ·rw [if_pos c93] at H
          have c93b0 : decide (t432 < 0) = true := decide_eq_true c93
          clear c93
          obtain rfl := Option.some.inj H
          have hnb94 := NB420_398.out
          have hnc94 := NB398_420.out
          have hnb95 := NB420_409.out
          have hnc95 := NB409_420.out
          have hnb96 := NB420_414.out
          have hnc96 := NB414_420.out
          have hcz97_0 : wc.cell? ⟨gb420, 0, none⟩ = some (.int .i64 t415) := (blk_cell BK420.out 0).trans rfl
          have hcz97_1 : wc.cell? ⟨gb420, 1, none⟩ = some (.slice Ao37 t416.length co37) := (blk_cell BK420.out 1).trans rfl
          have hfz97_0 := blk_frozen BK420.out 0
          have hfz97_1 := blk_frozen BK420.out 1
          go_wp2_with (first | ((with_reducible refine gate_callee (f := 42) rfl ?_); refine goesL_ (some 68) rfl rfl Try.func42 (by kernel_rfl) rfl #[.agg #[.int .i64 t415, .slice Ao37 t416.length co37], .int .i64 1] rfl (by (try simp only [List.map_toArray, List.map_cons, List.map_nil]); first | done | rfl | (simp only [List.length_drop, List.length_take]; rfl)) ?_; (with_reducible refine (laws_markDisk.calls kj60 t415 (fun k_ => some k_ = (.slice Ao37 t416.length co37 : Value).ownBlock) (.slice Ao37 t416.length co37) t416 1 t430 t431 w _ ?side1 ?side2 A91.out).mono ?_); (case side1 => repeat (first | (with_reducible first | exact HB.out | apply below_alloc | apply pw_below_drewN | apply below_drew1 | refine below_set ?_ GE398.out | refine below_set ?_ GE409.out | refine below_set ?_ GE414.out | refine below_set ?_ GE420.out) | exact HB.out)); (case side2 => exact Kd.R_tight rfl HO_421001.out); rintro e w98 ⟨rfl, hy0, hb, hkp⟩; refine ⟨_, rfl, ?_⟩; have n0_ := Aside0.mk (Kd.R_mono (ok' := fun k_ => some k_ ≠ (.slice Ao30 t428.length co30 : Value).ownBlock ∧ some k_ ≠ (.slice Ao37 t416.length co37 : Value).ownBlock) (Kd.R_keptB (HO_410001.out) hkp (fun k_ hk_ hs_ => (hk_.2) hs_)) (fun k_ hk_ => ⟨hk_.1.1, hk_.1.2⟩)); have n1_ := Aside0.mk (Kd.R_mono (ok' := fun k_ => some k_ ≠ (.slice Ao23 t405.length co23 : Value).ownBlock ∧ some k_ ≠ (.slice Ao37 t416.length co37 : Value).ownBlock) (Kd.R_keptB (HO_415001.out) hkp (fun k_ hk_ hs_ => (hk_.2) hs_)) (fun k_ hk_ => ⟨hk_.1.1, hk_.1.2⟩)); have n2_ := Aside0.mk (Kd.R_reok rfl hy0 (fun k_ e_ => HO_421001.out.1 k_ e_)); have n3_ := Aside0.mk (blk_kept xblk hkp (fun hs_ => (fun e_ => (Kd.R_ne HO_421001.out BK398.out (by decide)) e_) hs_)); have n4_ := Aside0.mk (blk_kept xblk hkp (fun hs_ => (fun e_ => (Kd.R_ne HO_421001.out BK409.out (by decide)) e_) hs_)); have n5_ := Aside0.mk (blk_kept xblk hkp (fun hs_ => (fun e_ => (Kd.R_ne HO_421001.out BK414.out (by decide)) e_) hs_)); have n6_ := Aside0.mk (blk_kept xblk hkp (fun hs_ => (fun e_ => (Kd.R_ne HO_421001.out BK420.out (by decide)) e_) hs_)); have n7_ := Aside0.mk (hb); clear HO_410001; clear HO_415001; clear HO_421001; clear BK398; clear BK409; clear BK414; clear BK420; clear HB; have HO_410001 := n0_; have HO_415001 := n1_; have HO_421001 := n2_; have BK398 := n3_; have BK409 := n4_; have BK414 := n5_; have BK420 := n6_; have HB := n7_; clear n0_ n1_ n2_ n3_ n4_ n5_ n6_ n7_; (try clear hb); (try clear hkp); (try clear hy0); have hcz99_0 : w98.cell? ⟨gb420, 0, none⟩ = some (.int .i64 t415) := (blk_cell BK420.out 0).trans rfl; have hcz99_1 : w98.cell? ⟨gb420, 1, none⟩ = some (.slice Ao37 t416.length co37) := (blk_cell BK420.out 1).trans rfl; have hfz99_0 := blk_frozen BK420.out 0; have hfz99_1 := blk_frozen BK420.out 1) | ((with_reducible refine gate_callee (f := 43) rfl ?_); refine goesL_ (some 71) rfl rfl Try.func43 (by kernel_rfl) rfl #[.agg #[.int .i64 t415, .slice Ao37 t431.length co37], .int .i64 1] rfl (by (try simp only [List.map_toArray, List.map_cons, List.map_nil]); first | done | (rw [show t431.length = t416.length from (Kd.R_reads' HO_421001.out).1.symm] <;> rfl) | rfl | (simp only [List.length_drop, List.length_take]; rfl)) ?_; (with_reducible refine (laws_heldDisk.calls kj60 t415 _ _ t431 1 t432 _ ?side1 ?side2 A92.out).mono ?_); (case side1 => repeat (first | exact (Kd.R_reads' HO_421001.out).2.2 | (with_reducible refine Kd.C_alloc ?_ _) | (with_reducible refine Kd.C_drewN ?_ _) | (with_reducible refine Kd.C_drew ?_))); (case side2 => rw [show t431.length = t416.length from (Kd.R_reads' HO_421001.out).1.symm]; exact (Kd.R_reads' HO_421001.out).2.1); rintro e w100 ⟨rfl, hb⟩; refine ⟨_, rfl, ?_⟩; replace HO_410001 := Aside0.mk (Kd.R_below (by (with_reducible repeat (first | apply Kd.R_alloc | apply Kd.R_drewN | apply Kd.R_drew)); exact HO_410001.out) hb); replace HO_415001 := Aside0.mk (Kd.R_below (by (with_reducible repeat (first | apply Kd.R_alloc | apply Kd.R_drewN | apply Kd.R_drew)); exact HO_415001.out) hb); replace HO_421001 := Aside0.mk (Kd.R_below (by (with_reducible repeat (first | apply Kd.R_alloc | apply Kd.R_drewN | apply Kd.R_drew)); exact HO_421001.out) hb); replace BK398 := xbb BK398 hb; replace BK409 := xbb BK409 hb; replace BK414 := xbb BK414 hb; replace BK420 := xbb BK420 hb; replace HB := xbs hb; (try clear hb); (try clear hb2); (try clear hk); (try clear hi)))
          go_ret
          exact ⟨by first | rfl | (simp [errW_none, errW_some] <;> rfl) | (simp [*, errW_none, errW_some] <;> rfl), xbg⟩
         ·rw [if_neg c93] at H
          have c93b0 : decide (t432 < 0) = false := decide_eq_false c93
          clear c93
          by_cases c101 : t432 = t430
          ·rw [if_pos c101] at H
           have c101b0 : (t432 == t430) = true := beq_iff_eq.mpr c101
           have c101b1 : (t432 != t430) = false := bne_eq_false_iff_eq.mpr c101
           clear c101
           replace H := Option.bind_eq_some_iff.mp H
           obtain ⟨⟨t433, t434⟩, A1020, H⟩ := H
           replace H : ((impl_JournalMend.f kj60 t433 t434 a1).bind fun bt437 => ((laws_eqDisk.f kj60 bt437.1 bt437.2.1 t404 t405).bind fun t443 => (if t443 = true then (laws_FnExactJournalMend.j2 kj60 t430 (bt437.2.2 != t408) t415 t431) else (laws_FnExactJournalMend.j2 kj60 t430 true t415 t431)))) = some r := H
           have A102 := Aside0.mk A1020
           clear A1020
           replace H := Option.bind_eq_some_iff.mp H
           obtain ⟨⟨t437, t438, t441⟩, A1030, H⟩ := H
           replace H : ((laws_eqDisk.f kj60 t437 t438 t404 t405).bind fun t443 => (if t443 = true then (laws_FnExactJournalMend.j2 kj60 t430 (t441 != t408) t415 t431) else (laws_FnExactJournalMend.j2 kj60 t430 true t415 t431))) = some r := H
           have A103 := Aside0.mk A1030
           clear A1030
           have HC104 := Aside0.mk H
           clear H
           have hnb105 := NB420_398.out
           have hnc105 := NB398_420.out
           have hnb106 := NB420_409.out
           have hnc106 := NB409_420.out
           have hnb107 := NB420_414.out
           have hnc107 := NB414_420.out
           have hcz108_0 : wc.cell? ⟨gb420, 0, none⟩ = some (.int .i64 t415) := (blk_cell BK420.out 0).trans rfl
           have hcz108_1 : wc.cell? ⟨gb420, 1, none⟩ = some (.slice Ao37 t416.length co37) := (blk_cell BK420.out 1).trans rfl
           have hfz108_0 := blk_frozen BK420.out 0
           have hfz108_1 := blk_frozen BK420.out 1
           go_upto_region 25 with (first | ((with_reducible refine gate_callee (f := 42) rfl ?_); refine goesL_ (some 68) rfl rfl Try.func42 (by kernel_rfl) rfl #[.agg #[.int .i64 t415, .slice Ao37 t416.length co37], .int .i64 1] rfl (by (try simp only [List.map_toArray, List.map_cons, List.map_nil]); first | done | rfl | (simp only [List.length_drop, List.length_take]; rfl)) ?_; (with_reducible refine (laws_markDisk.calls kj60 t415 (fun k_ => some k_ = (.slice Ao37 t416.length co37 : Value).ownBlock) (.slice Ao37 t416.length co37) t416 1 t430 t431 w _ ?side1 ?side2 A91.out).mono ?_); (case side1 => repeat (first | (with_reducible first | exact HB.out | apply below_alloc | apply pw_below_drewN | apply below_drew1 | refine below_set ?_ GE398.out | refine below_set ?_ GE409.out | refine below_set ?_ GE414.out | refine below_set ?_ GE420.out) | exact HB.out)); (case side2 => exact Kd.R_tight rfl HO_421001.out); rintro e w109 ⟨rfl, hy0, hb, hkp⟩; refine ⟨_, rfl, ?_⟩; have n0_ := Aside0.mk (Kd.R_mono (ok' := fun k_ => some k_ ≠ (.slice Ao30 t428.length co30 : Value).ownBlock ∧ some k_ ≠ (.slice Ao37 t416.length co37 : Value).ownBlock) (Kd.R_keptB (HO_410001.out) hkp (fun k_ hk_ hs_ => (hk_.2) hs_)) (fun k_ hk_ => ⟨hk_.1.1, hk_.1.2⟩)); have n1_ := Aside0.mk (Kd.R_mono (ok' := fun k_ => some k_ ≠ (.slice Ao23 t405.length co23 : Value).ownBlock ∧ some k_ ≠ (.slice Ao37 t416.length co37 : Value).ownBlock) (Kd.R_keptB (HO_415001.out) hkp (fun k_ hk_ hs_ => (hk_.2) hs_)) (fun k_ hk_ => ⟨hk_.1.1, hk_.1.2⟩)); have n2_ := Aside0.mk (Kd.R_reok rfl hy0 (fun k_ e_ => HO_421001.out.1 k_ e_)); have n3_ := Aside0.mk (blk_kept xblk hkp (fun hs_ => (fun e_ => (Kd.R_ne HO_421001.out BK398.out (by decide)) e_) hs_)); have n4_ := Aside0.mk (blk_kept xblk hkp (fun hs_ => (fun e_ => (Kd.R_ne HO_421001.out BK409.out (by decide)) e_) hs_)); have n5_ := Aside0.mk (blk_kept xblk hkp (fun hs_ => (fun e_ => (Kd.R_ne HO_421001.out BK414.out (by decide)) e_) hs_)); have n6_ := Aside0.mk (blk_kept xblk hkp (fun hs_ => (fun e_ => (Kd.R_ne HO_421001.out BK420.out (by decide)) e_) hs_)); have n7_ := Aside0.mk (hb); clear HO_410001; clear HO_415001; clear HO_421001; clear BK398; clear BK409; clear BK414; clear BK420; clear HB; have HO_410001 := n0_; have HO_415001 := n1_; have HO_421001 := n2_; have BK398 := n3_; have BK409 := n4_; have BK414 := n5_; have BK420 := n6_; have HB := n7_; clear n0_ n1_ n2_ n3_ n4_ n5_ n6_ n7_; (try clear hb); (try clear hkp); (try clear hy0); have hcz110_0 : w109.cell? ⟨gb420, 0, none⟩ = some (.int .i64 t415) := (blk_cell BK420.out 0).trans rfl; have hcz110_1 : w109.cell? ⟨gb420, 1, none⟩ = some (.slice Ao37 t416.length co37) := (blk_cell BK420.out 1).trans rfl; have hfz110_0 := blk_frozen BK420.out 0; have hfz110_1 := blk_frozen BK420.out 1) | ((with_reducible refine gate_callee (f := 43) rfl ?_); refine goesL_ (some 71) rfl rfl Try.func43 (by kernel_rfl) rfl #[.agg #[.int .i64 t415, .slice Ao37 t431.length co37], .int .i64 1] rfl (by (try simp only [List.map_toArray, List.map_cons, List.map_nil]); first | done | (rw [show t431.length = t416.length from (Kd.R_reads' HO_421001.out).1.symm] <;> rfl) | rfl | (simp only [List.length_drop, List.length_take]; rfl)) ?_; (with_reducible refine (laws_heldDisk.calls kj60 t415 _ _ t431 1 t432 _ ?side1 ?side2 A92.out).mono ?_); (case side1 => repeat (first | exact (Kd.R_reads' HO_421001.out).2.2 | (with_reducible refine Kd.C_alloc ?_ _) | (with_reducible refine Kd.C_drewN ?_ _) | (with_reducible refine Kd.C_drew ?_))); (case side2 => rw [show t431.length = t416.length from (Kd.R_reads' HO_421001.out).1.symm]; exact (Kd.R_reads' HO_421001.out).2.1); rintro e w111 ⟨rfl, hb⟩; refine ⟨_, rfl, ?_⟩; replace HO_410001 := Aside0.mk (Kd.R_below (by (with_reducible repeat (first | apply Kd.R_alloc | apply Kd.R_drewN | apply Kd.R_drew)); exact HO_410001.out) hb); replace HO_415001 := Aside0.mk (Kd.R_below (by (with_reducible repeat (first | apply Kd.R_alloc | apply Kd.R_drewN | apply Kd.R_drew)); exact HO_415001.out) hb); replace HO_421001 := Aside0.mk (Kd.R_below (by (with_reducible repeat (first | apply Kd.R_alloc | apply Kd.R_drewN | apply Kd.R_drew)); exact HO_421001.out) hb); replace BK398 := xbb BK398 hb; replace BK409 := xbb BK409 hb; replace BK414 := xbb BK414 hb; replace BK420 := xbb BK420 hb; replace HB := xbs hb; (try clear hb); (try clear hb2); (try clear hk); (try clear hi); have hnb112 := NB398_409.out; have hnc112 := NB409_398.out; have hnb113 := NB398_414.out; have hnc113 := NB414_398.out; have hcz114_0 : w111.cell? ⟨gb398, 0, none⟩ = some (.int .i64 a0_0) := (blk_cell BK398.out 0).trans rfl; have hcz114_1 : w111.cell? ⟨gb398, 1, none⟩ = some (.slice A0_1 l0_1.length c0_1) := (blk_cell BK398.out 1).trans rfl; have hfz114_0 := blk_frozen BK398.out 0; have hfz114_1 := blk_frozen BK398.out 1) | ((with_reducible refine gate_callee (f := 39) rfl ?_); refine goesL_ (some 79) rfl rfl Try.func39 (by kernel_rfl) rfl #[.agg #[.int .i64 a0_0, .slice A0_1 l0_1.length c0_1]] rfl (by (try simp only [List.map_toArray, List.map_cons, List.map_nil]); first | done | rfl | (simp only [List.length_drop, List.length_take]; rfl)) ?_; (with_reducible refine (laws_toDisk.calls kj60 a0_0 _ _ l0_1 t433 t434 _ ?side1 ?side2 A102.out).mono ?_); (case side1 => exact xcb HR0_1); (case side2 => exact HC0_1.out); rintro e w115 ⟨v435, rfl, ho0, hb⟩; refine ⟨_, rfl, ?_⟩; have HO436 := Aside0.mk (Kd.R_lower (Kd.R_new' (Kd.R_new' (Kd.R_new' ho0 (Kd.R_lt (by (with_reducible repeat (first | apply Kd.R_alloc | apply Kd.R_drewN | apply Kd.R_drew)); exact HO_410001.out))) (Kd.R_lt (by (with_reducible repeat (first | apply Kd.R_alloc | apply Kd.R_drewN | apply Kd.R_drew)); exact HO_415001.out))) (Kd.R_lt (by (with_reducible repeat (first | apply Kd.R_alloc | apply Kd.R_drewN | apply Kd.R_drew)); exact HO_421001.out))) (below_size xbg)); replace HO_410001 := Aside0.mk (Kd.R_elder' (by (with_reducible repeat (first | apply Kd.R_alloc | apply Kd.R_drewN | apply Kd.R_drew)); exact HO_410001.out) (Kd.R_base ho0) hb); replace HO_415001 := Aside0.mk (Kd.R_elder' (by (with_reducible repeat (first | apply Kd.R_alloc | apply Kd.R_drewN | apply Kd.R_drew)); exact HO_415001.out) (Kd.R_base ho0) hb); replace HO_421001 := Aside0.mk (Kd.R_elder' (by (with_reducible repeat (first | apply Kd.R_alloc | apply Kd.R_drewN | apply Kd.R_drew)); exact HO_421001.out) (Kd.R_base ho0) hb); replace BK398 := xbb BK398 hb; replace BK409 := xbb BK409 hb; replace BK414 := xbb BK414 hb; replace BK420 := xbb BK420 hb; replace HB := xbs hb; (try clear hb); (try clear hb2); (try clear hk); (try clear hi); (try clear ho0); obtain ⟨Ao116, co116, eo116⟩ := Kd.R_slice HO436.out; subst eo116) | ((with_reducible refine gate_callee (f := 58) rfl ?_); refine goesL_ (some 81) rfl rfl Try.func58 (by kernel_rfl) rfl #[.agg #[.int .i64 t433, .slice Ao116 t434.length co116], .int .i64 a1] rfl (by (try simp only [List.map_toArray, List.map_cons, List.map_nil]); first | done | rfl | (simp only [List.length_drop, List.length_take]; rfl)) ?_; (with_reducible refine (impl_JournalMend.calls kj60 t433 _ _ t434 a1 t437 t438 t441 _ ?side1 ?side2 A103.out).mono ?_); (case side1 => repeat (first | exact (Kd.R_reads' HO436.out).2.2 | (with_reducible refine Kd.C_alloc ?_ _) | (with_reducible refine Kd.C_drewN ?_ _) | (with_reducible refine Kd.C_drew ?_))); (case side2 => exact (Kd.R_reads' HO436.out).2.1); rintro e w117 ⟨v439, rfl, ho0, hb⟩; refine ⟨_, rfl, ?_⟩; have HO440 := Aside0.mk (Kd.R_lower (Kd.R_new' (Kd.R_new' (Kd.R_new' (Kd.R_new' ho0 (Kd.R_lt (by (with_reducible repeat (first | apply Kd.R_alloc | apply Kd.R_drewN | apply Kd.R_drew)); exact HO_410001.out))) (Kd.R_lt (by (with_reducible repeat (first | apply Kd.R_alloc | apply Kd.R_drewN | apply Kd.R_drew)); exact HO_415001.out))) (Kd.R_lt (by (with_reducible repeat (first | apply Kd.R_alloc | apply Kd.R_drewN | apply Kd.R_drew)); exact HO_421001.out))) (Kd.R_lt (by (with_reducible repeat (first | apply Kd.R_alloc | apply Kd.R_drewN | apply Kd.R_drew)); exact HO436.out))) (below_size xbg)); replace HO_410001 := Aside0.mk (Kd.R_elder' (by (with_reducible repeat (first | apply Kd.R_alloc | apply Kd.R_drewN | apply Kd.R_drew)); exact HO_410001.out) (Kd.R_base ho0) hb); replace HO_415001 := Aside0.mk (Kd.R_elder' (by (with_reducible repeat (first | apply Kd.R_alloc | apply Kd.R_drewN | apply Kd.R_drew)); exact HO_415001.out) (Kd.R_base ho0) hb); replace HO_421001 := Aside0.mk (Kd.R_elder' (by (with_reducible repeat (first | apply Kd.R_alloc | apply Kd.R_drewN | apply Kd.R_drew)); exact HO_421001.out) (Kd.R_base ho0) hb); replace HO436 := Aside0.mk (Kd.R_elder' (by (with_reducible repeat (first | apply Kd.R_alloc | apply Kd.R_drewN | apply Kd.R_drew)); exact HO436.out) (Kd.R_base ho0) hb); replace BK398 := xbb BK398 hb; replace BK409 := xbb BK409 hb; replace BK414 := xbb BK414 hb; replace BK420 := xbb BK420 hb; replace HB := xbs hb; (try clear hb); (try clear hb2); (try clear hk); (try clear hi); (try clear ho0)) | ((with_reducible refine gate_dst (N := 14) rfl ?_); refine box_event ?hg (N := 14) ?hd (cs := #[.int .i64 0, .slice none 0 0]) (t := 70) ?hr ?_; (case hd => rfl); (case hg => rfl); (case hr => first | (go_simp; done) | (go_simp; rfl)); intro gb442 hg w118 hbox hb; replace HO_410001 := Aside0.mk (Kd.R_below (by (with_reducible repeat (first | apply Kd.R_alloc | apply Kd.R_drewN | apply Kd.R_drew)); exact HO_410001.out) hb); replace HO_415001 := Aside0.mk (Kd.R_below (by (with_reducible repeat (first | apply Kd.R_alloc | apply Kd.R_drewN | apply Kd.R_drew)); exact HO_415001.out) hb); replace HO_421001 := Aside0.mk (Kd.R_below (by (with_reducible repeat (first | apply Kd.R_alloc | apply Kd.R_drewN | apply Kd.R_drew)); exact HO_421001.out) hb); replace HO436 := Aside0.mk (Kd.R_below (by (with_reducible repeat (first | apply Kd.R_alloc | apply Kd.R_drewN | apply Kd.R_drew)); exact HO436.out) hb); replace HO440 := Aside0.mk (Kd.R_below (by (with_reducible repeat (first | apply Kd.R_alloc | apply Kd.R_drewN | apply Kd.R_drew)); exact HO440.out) hb); have GW442 := Aside0.mk (xge hg); have GE442 := Aside0.mk (xge hg); replace HB := xbs hb; have NB398_442 := Aside0.mk ((by rw [hg]; exact Nat.ne_of_lt (blk_lt (g := gb398) (o := .cells #[.int .i64 a0_0, .slice A0_1 l0_1.length c0_1] 66 (0, 0)) xblk) : gb398 ≠ gb442)); have NB442_398 := Aside0.mk ((by rw [hg]; exact Nat.ne_of_gt (blk_lt (g := gb398) (o := .cells #[.int .i64 a0_0, .slice A0_1 l0_1.length c0_1] 66 (0, 0)) xblk) : gb442 ≠ gb398)); have NB409_442 := Aside0.mk ((by rw [hg]; exact Nat.ne_of_lt (blk_lt (g := gb409) (o := .cells #[.int .i64 t404, .slice Ao23 t405.length co23] 70 (0, 0)) xblk) : gb409 ≠ gb442)); have NB442_409 := Aside0.mk ((by rw [hg]; exact Nat.ne_of_gt (blk_lt (g := gb409) (o := .cells #[.int .i64 t404, .slice Ao23 t405.length co23] 70 (0, 0)) xblk) : gb442 ≠ gb409)); have NB414_442 := Aside0.mk ((by rw [hg]; exact Nat.ne_of_lt (blk_lt (g := gb414) (o := .cells #[.int .i64 t410, .slice Ao30 t428.length co30] 70 (0, 0)) xblk) : gb414 ≠ gb442)); have NB442_414 := Aside0.mk ((by rw [hg]; exact Nat.ne_of_gt (blk_lt (g := gb414) (o := .cells #[.int .i64 t410, .slice Ao30 t428.length co30] 70 (0, 0)) xblk) : gb442 ≠ gb414)); have NB420_442 := Aside0.mk ((by rw [hg]; exact Nat.ne_of_lt (blk_lt (g := gb420) (o := .cells #[.int .i64 t415, .slice Ao37 t416.length co37] 70 (0, 0)) xblk) : gb420 ≠ gb442)); have NB442_420 := Aside0.mk ((by rw [hg]; exact Nat.ne_of_gt (blk_lt (g := gb420) (o := .cells #[.int .i64 t415, .slice Ao37 t416.length co37] 70 (0, 0)) xblk) : gb442 ≠ gb420)); replace BK398 := xbb BK398 hb; replace BK409 := xbb BK409 hb; replace BK414 := xbb BK414 hb; replace BK420 := xbb BK420 hb; have BK442 := Aside0.mk (hbox); clear hb hbox hg; have hnb119 := NB442_398.out; have hnc119 := NB398_442.out; have hnb120 := NB442_409.out; have hnc120 := NB409_442.out; have hnb121 := NB442_414.out; have hnc121 := NB414_442.out; have hnb122 := NB442_420.out; have hnc122 := NB420_442.out; have hcz123_0 : w118.cell? ⟨gb442, 0, none⟩ = some (.int .i64 0) := (blk_cell BK442.out 0).trans rfl; have hcz123_1 : w118.cell? ⟨gb442, 1, none⟩ = some (.slice none 0 0) := (blk_cell BK442.out 1).trans rfl; have hfz123_0 := blk_frozen BK442.out 0; have hfz123_1 := blk_frozen BK442.out 1; obtain ⟨Ao124, co124, eo124⟩ := Kd.R_slice HO440.out; subst eo124))
           (try simp only [Act.put, List.setIfInBounds_toArray, List.set_cons_zero, List.set_cons_succ])
           go_cut [92] (fun v92 wc => ∃ (kq : Nat) (x92_103 : Bool), v92 = .bool x92_103 ∧ Aside0 (laws_FnExactJournalMend.j2 kq t430 x92_103 t415 t431 = some r) ∧ Aside0 (kq ≤ kj60) ∧ Aside0 (Kd.R k134 134 wc w.heap.size (fun k_ => some k_ ≠ ((.slice Ao30 t428.length co30) : Value).ownBlock ∧ some k_ ≠ ((.slice Ao37 t416.length co37) : Value).ownBlock ∧ some k_ ≠ ((.slice Ao124 t438.length co124) : Value).ownBlock) (.slice Ao23 t405.length co23) t405) ∧ Aside0 (Kd.R k134 134 wc w.heap.size (fun k_ => some k_ ≠ ((.slice Ao23 t405.length co23) : Value).ownBlock ∧ some k_ ≠ ((.slice Ao37 t416.length co37) : Value).ownBlock ∧ some k_ ≠ ((.slice Ao124 t438.length co124) : Value).ownBlock) (.slice Ao30 t428.length co30) t428) ∧ Aside0 (Kd.R k134 134 wc w.heap.size (fun k_ => some k_ ≠ ((.slice Ao23 t405.length co23) : Value).ownBlock ∧ some k_ ≠ ((.slice Ao30 t428.length co30) : Value).ownBlock ∧ some k_ ≠ ((.slice Ao124 t438.length co124) : Value).ownBlock) (.slice Ao37 t416.length co37) t431) ∧ Aside0 (Kd.R k134 134 wc w.heap.size (fun k_ => some k_ ≠ ((.slice Ao23 t405.length co23) : Value).ownBlock ∧ some k_ ≠ ((.slice Ao30 t428.length co30) : Value).ownBlock ∧ some k_ ≠ ((.slice Ao37 t416.length co37) : Value).ownBlock) (.slice Ao124 t438.length co124) t438) ∧ Aside0 (wc.heap[gb398]? = some (.cells #[.int .i64 a0_0, (.slice A0_1 l0_1.length c0_1)] 66 (0, 0))) ∧ Aside0 (wc.heap[gb409]? = some (.cells #[.int .i64 t404, (.slice Ao23 t405.length co23)] 70 (0, 0))) ∧ Aside0 (wc.heap[gb414]? = some (.cells #[.int .i64 t410, (.slice Ao30 t428.length co30)] 70 (0, 0))) ∧ Aside0 (wc.heap[gb420]? = some (.cells #[.int .i64 t415, (.slice Ao37 t416.length co37)] 70 (0, 0))) ∧ Aside0 (wc.heap[gb442]? = some (.cells #[.int .i64 t437, (.slice Ao124 t438.length co124)] 70 (0, 0))) ∧ Aside0 (Below w.heap.size w wc))
           case first =>
            have H := HC104.out
            clear HC104
            replace H := Option.bind_eq_some_iff.mp H
            obtain ⟨t443, A1250, H⟩ := H
            replace H : (if t443 = true then (laws_FnExactJournalMend.j2 kj60 t430 (t441 != t408) t415 t431) else (laws_FnExactJournalMend.j2 kj60 t430 true t415 t431)) = some r := H
            have A125 := Aside0.mk A1250
            clear A1250
            by_cases c126 : t443 = true
            ·subst c126
             have H1 : (laws_FnExactJournalMend.j2 kj60 t430 (t441 != t408) t415 t431) = some r := by rw [if_pos rfl] at H; exact H
             clear H
             have H := H1
             clear H1
             have H' := Aside0.mk H
             clear H
             have hnb127 := NB442_398.out
             have hnc127 := NB398_442.out
             have hnb128 := NB442_409.out
             have hnc128 := NB409_442.out
             have hnb129 := NB442_414.out
             have hnc129 := NB414_442.out
             have hnb130 := NB442_420.out
             have hnc130 := NB420_442.out
             have hcz131_0 : w118.cell? ⟨gb442, 0, none⟩ = some (.int .i64 0) := (blk_cell BK442.out 0).trans rfl
             have hcz131_1 : w118.cell? ⟨gb442, 1, none⟩ = some (.slice none 0 0) := (blk_cell BK442.out 1).trans rfl
             have hfz131_0 := blk_frozen BK442.out 0
             have hfz131_1 := blk_frozen BK442.out 1
             have hnb132 := NB409_398.out
             have hnc132 := NB398_409.out
             have hnb133 := NB409_414.out
             have hnc133 := NB414_409.out
             have hnb134 := NB409_420.out
             have hnc134 := NB420_409.out
             have hcz135_0 : w118.cell? ⟨gb409, 0, none⟩ = some (.int .i64 t404) := (blk_cell BK409.out 0).trans rfl
             have hcz135_1 : w118.cell? ⟨gb409, 1, none⟩ = some (.slice Ao23 t405.length co23) := (blk_cell BK409.out 1).trans rfl
             have hfz135_0 := blk_frozen BK409.out 0
             have hfz135_1 := blk_frozen BK409.out 1
             go_wp2_with (first | ((with_reducible refine gate_callee (f := 41) rfl ?_); refine goesL_ (some 86) rfl rfl Try.func41 (by kernel_rfl) rfl #[.agg #[.int .i64 t437, .slice Ao124 t438.length co124], .agg #[.int .i64 t404, .slice Ao23 t405.length co23]] rfl (by (try simp only [List.map_toArray, List.map_cons, List.map_nil]); first | done | rfl | (simp only [List.length_drop, List.length_take]; rfl)) ?_; (with_reducible refine (laws_eqDisk.calls kj60 t437 _ _ t438 t404 _ _ t405 true _ ?side1 ?side2 ?side3 ?side4 A125.out).mono ?_); (case side1 => refine (Kd.R_reads' (e := 134) (base := w.heap.size) (ok := fun k_ => ((((True ∧ some k_ ≠ (.slice Ao23 t405.length co23 : Value).ownBlock) ∧ some k_ ≠ (.slice Ao30 t428.length co30 : Value).ownBlock) ∧ some k_ ≠ (.slice Ao37 t416.length co37 : Value).ownBlock) ∧ some k_ ≠ (.slice Ao116 t434.length co116 : Value).ownBlock)) (n := t438.length) (c := co124) ?_).2.2; exact (by (with_reducible repeat (first | apply Kd.R_alloc | apply Kd.R_drewN | apply Kd.R_drew)); exact (Kd.R_mono (Kd.R_far (p := ⟨gb442, 1, none⟩) (Kd.R_far (p := ⟨gb442, 0, none⟩) (Kd.R_types HO440.out BK442.out (by decide)) (fun _ hk => hk.2) (.int .i64 t437)) (fun _ hk => hk.2) (.slice Ao124 t438.length co124)) (fun _ h_ => h_.1)))); (case side2 => exact (Kd.R_reads' HO440.out).2.1); (case side3 => refine (Kd.R_reads' (e := 134) (base := w.heap.size) (ok := fun k_ => (((some k_ ≠ (.slice Ao30 t428.length co30 : Value).ownBlock ∧ some k_ ≠ (.slice Ao37 t416.length co37 : Value).ownBlock) ∧ some k_ ≠ (.slice Ao116 t434.length co116 : Value).ownBlock) ∧ some k_ ≠ (.slice Ao124 t438.length co124 : Value).ownBlock)) (n := t405.length) (c := co23) ?_).2.2; exact (by (with_reducible repeat (first | apply Kd.R_alloc | apply Kd.R_drewN | apply Kd.R_drew)); exact (Kd.R_mono (Kd.R_far (p := ⟨gb442, 1, none⟩) (Kd.R_far (p := ⟨gb442, 0, none⟩) (Kd.R_types HO_410001.out BK442.out (by decide)) (fun _ hk => hk.2) (.int .i64 t437)) (fun _ hk => hk.2) (.slice Ao124 t438.length co124)) (fun _ h_ => h_.1)))); (case side4 => exact (Kd.R_reads' HO_410001.out).2.1); rintro e w136 ⟨rfl, hb⟩; refine ⟨_, rfl, ?_⟩; replace HO_410001 := Aside0.mk (Kd.R_below (by (with_reducible repeat (first | apply Kd.R_alloc | apply Kd.R_drewN | apply Kd.R_drew)); exact (Kd.R_mono (Kd.R_far (p := ⟨gb442, 1, none⟩) (Kd.R_far (p := ⟨gb442, 0, none⟩) (Kd.R_types HO_410001.out BK442.out (by decide)) (fun _ hk => hk.2) (.int .i64 t437)) (fun _ hk => hk.2) (.slice Ao124 t438.length co124)) (fun _ h_ => h_.1))) hb); replace HO_415001 := Aside0.mk (Kd.R_below (by (with_reducible repeat (first | apply Kd.R_alloc | apply Kd.R_drewN | apply Kd.R_drew)); exact (Kd.R_mono (Kd.R_far (p := ⟨gb442, 1, none⟩) (Kd.R_far (p := ⟨gb442, 0, none⟩) (Kd.R_types HO_415001.out BK442.out (by decide)) (fun _ hk => hk.2) (.int .i64 t437)) (fun _ hk => hk.2) (.slice Ao124 t438.length co124)) (fun _ h_ => h_.1))) hb); replace HO_421001 := Aside0.mk (Kd.R_below (by (with_reducible repeat (first | apply Kd.R_alloc | apply Kd.R_drewN | apply Kd.R_drew)); exact (Kd.R_mono (Kd.R_far (p := ⟨gb442, 1, none⟩) (Kd.R_far (p := ⟨gb442, 0, none⟩) (Kd.R_types HO_421001.out BK442.out (by decide)) (fun _ hk => hk.2) (.int .i64 t437)) (fun _ hk => hk.2) (.slice Ao124 t438.length co124)) (fun _ h_ => h_.1))) hb); replace HO436 := Aside0.mk (Kd.R_below (by (with_reducible repeat (first | apply Kd.R_alloc | apply Kd.R_drewN | apply Kd.R_drew)); exact (Kd.R_mono (Kd.R_far (p := ⟨gb442, 1, none⟩) (Kd.R_far (p := ⟨gb442, 0, none⟩) (Kd.R_types HO436.out BK442.out (by decide)) (fun _ hk => hk.2) (.int .i64 t437)) (fun _ hk => hk.2) (.slice Ao124 t438.length co124)) (fun _ h_ => h_.1))) hb); replace HO440 := Aside0.mk (Kd.R_below (by (with_reducible repeat (first | apply Kd.R_alloc | apply Kd.R_drewN | apply Kd.R_drew)); exact (Kd.R_mono (Kd.R_far (p := ⟨gb442, 1, none⟩) (Kd.R_far (p := ⟨gb442, 0, none⟩) (Kd.R_types HO440.out BK442.out (by decide)) (fun _ hk => hk.2) (.int .i64 t437)) (fun _ hk => hk.2) (.slice Ao124 t438.length co124)) (fun _ h_ => h_.1))) hb); replace BK398 := Aside0.mk (blk_below (g := gb398) (o := .cells #[.int .i64 a0_0, .slice A0_1 l0_1.length c0_1] 66 (0, 0)) (by (with_reducible repeat (first | refine blk_drewN ?_ _ | refine blk_drew ?_ | refine blk_alloc ?_ _)); refine blk_far ?_ NB398_442.out _; (with_reducible repeat (first | refine blk_drewN ?_ _ | refine blk_drew ?_ | refine blk_alloc ?_ _)); refine blk_far ?_ NB398_442.out _; (with_reducible repeat (first | refine blk_drewN ?_ _ | refine blk_drew ?_ | refine blk_alloc ?_ _)); exact BK398.out) hb); replace BK409 := Aside0.mk (blk_below (g := gb409) (o := .cells #[.int .i64 t404, .slice Ao23 t405.length co23] 70 (0, 0)) (by (with_reducible repeat (first | refine blk_drewN ?_ _ | refine blk_drew ?_ | refine blk_alloc ?_ _)); refine blk_far ?_ NB409_442.out _; (with_reducible repeat (first | refine blk_drewN ?_ _ | refine blk_drew ?_ | refine blk_alloc ?_ _)); refine blk_far ?_ NB409_442.out _; (with_reducible repeat (first | refine blk_drewN ?_ _ | refine blk_drew ?_ | refine blk_alloc ?_ _)); exact BK409.out) hb); replace BK414 := Aside0.mk (blk_below (g := gb414) (o := .cells #[.int .i64 t410, .slice Ao30 t428.length co30] 70 (0, 0)) (by (with_reducible repeat (first | refine blk_drewN ?_ _ | refine blk_drew ?_ | refine blk_alloc ?_ _)); refine blk_far ?_ NB414_442.out _; (with_reducible repeat (first | refine blk_drewN ?_ _ | refine blk_drew ?_ | refine blk_alloc ?_ _)); refine blk_far ?_ NB414_442.out _; (with_reducible repeat (first | refine blk_drewN ?_ _ | refine blk_drew ?_ | refine blk_alloc ?_ _)); exact BK414.out) hb); replace BK420 := Aside0.mk (blk_below (g := gb420) (o := .cells #[.int .i64 t415, .slice Ao37 t416.length co37] 70 (0, 0)) (by (with_reducible repeat (first | refine blk_drewN ?_ _ | refine blk_drew ?_ | refine blk_alloc ?_ _)); refine blk_far ?_ NB420_442.out _; (with_reducible repeat (first | refine blk_drewN ?_ _ | refine blk_drew ?_ | refine blk_alloc ?_ _)); refine blk_far ?_ NB420_442.out _; (with_reducible repeat (first | refine blk_drewN ?_ _ | refine blk_drew ?_ | refine blk_alloc ?_ _)); exact BK420.out) hb); replace BK442 := Aside0.mk (blk_below (g := gb442) (o := .cells #[.int .i64 t437, .slice Ao124 t438.length co124] 70 (0, 0)) (by (with_reducible repeat (first | refine blk_drewN ?_ _ | refine blk_drew ?_ | refine blk_alloc ?_ _)); refine blk_put (cs := #[.int .i64 t437, .slice none 0 0]) ?_ 1 _ rfl; (with_reducible repeat (first | refine blk_drewN ?_ _ | refine blk_drew ?_ | refine blk_alloc ?_ _)); refine blk_put (cs := #[.int .i64 0, .slice none 0 0]) ?_ 0 _ rfl; (with_reducible repeat (first | refine blk_drewN ?_ _ | refine blk_drew ?_ | refine blk_alloc ?_ _)); exact BK442.out) hb); replace HB := xbs hb; (try clear hb); (try clear hb2); (try clear hk); (try clear hi)))
             go_meet
             case rel => exact ⟨_, ((t441 != t408)), (by first | rfl | (simp; done) | (simp [*]; done)), H', ⟨by have := HJ11.out; have := HJ60.out; first | omega | exact Nat.le_refl _⟩, ⟨by (try simp only [hl415001_60]); (with_reducible repeat (first | apply Kd.R_alloc | apply Kd.R_drewN | apply Kd.R_drew)); exact Kd.R_mono HO_410001.out (fun _ hk => ⟨hk.1.1.1, ⟨hk.1.1.2, hk.2⟩⟩)⟩, ⟨by (try simp only [hl415001_60]); (with_reducible repeat (first | apply Kd.R_alloc | apply Kd.R_drewN | apply Kd.R_drew)); exact Kd.R_mono HO_415001.out (fun _ hk => ⟨hk.1.1.1, ⟨hk.1.1.2, hk.2⟩⟩)⟩, ⟨by (try simp only [hl415001_60]); (with_reducible repeat (first | apply Kd.R_alloc | apply Kd.R_drewN | apply Kd.R_drew)); exact Kd.R_mono HO_421001.out (fun _ hk => ⟨hk.1.1.1, ⟨hk.1.1.2, hk.2⟩⟩)⟩, ⟨by (try simp only [hl415001_60]); (with_reducible repeat (first | apply Kd.R_alloc | apply Kd.R_drewN | apply Kd.R_drew)); exact Kd.R_mono HO440.out (fun _ hk => ⟨hk.1.1.1.2, ⟨hk.1.1.2, hk.1.2⟩⟩)⟩, ⟨by (try simp only [hl415001_60]); (with_reducible repeat (first | refine blk_drewN ?_ _ | refine blk_drew ?_ | refine blk_alloc ?_ _)); exact BK398.out⟩, ⟨by (try simp only [hl415001_60]); (with_reducible repeat (first | refine blk_drewN ?_ _ | refine blk_drew ?_ | refine blk_alloc ?_ _)); exact BK409.out⟩, ⟨by (try simp only [hl415001_60]); (with_reducible repeat (first | refine blk_drewN ?_ _ | refine blk_drew ?_ | refine blk_alloc ?_ _)); exact BK414.out⟩, ⟨by (try simp only [hl415001_60]); (with_reducible repeat (first | refine blk_drewN ?_ _ | refine blk_drew ?_ | refine blk_alloc ?_ _)); exact BK420.out⟩, ⟨by (try simp only [hl415001_60]); (with_reducible repeat (first | refine blk_drewN ?_ _ | refine blk_drew ?_ | refine blk_alloc ?_ _)); exact BK442.out⟩, ⟨xbg⟩⟩
            ·replace c126 := Bool.eq_false_iff.mpr c126
             subst c126
             have H1 : (laws_FnExactJournalMend.j2 kj60 t430 true t415 t431) = some r := by rw [if_neg (show ¬ (false = true) by decide)] at H; exact H
             clear H
             have H := H1
             clear H1
             have H' := Aside0.mk H
             clear H
             have hnb137 := NB442_398.out
             have hnc137 := NB398_442.out
             have hnb138 := NB442_409.out
             have hnc138 := NB409_442.out
             have hnb139 := NB442_414.out
             have hnc139 := NB414_442.out
             have hnb140 := NB442_420.out
             have hnc140 := NB420_442.out
             have hcz141_0 : w118.cell? ⟨gb442, 0, none⟩ = some (.int .i64 0) := (blk_cell BK442.out 0).trans rfl
             have hcz141_1 : w118.cell? ⟨gb442, 1, none⟩ = some (.slice none 0 0) := (blk_cell BK442.out 1).trans rfl
             have hfz141_0 := blk_frozen BK442.out 0
             have hfz141_1 := blk_frozen BK442.out 1
             have hnb142 := NB409_398.out
             have hnc142 := NB398_409.out
             have hnb143 := NB409_414.out
             have hnc143 := NB414_409.out
             have hnb144 := NB409_420.out
             have hnc144 := NB420_409.out
             have hcz145_0 : w118.cell? ⟨gb409, 0, none⟩ = some (.int .i64 t404) := (blk_cell BK409.out 0).trans rfl
             have hcz145_1 : w118.cell? ⟨gb409, 1, none⟩ = some (.slice Ao23 t405.length co23) := (blk_cell BK409.out 1).trans rfl
             have hfz145_0 := blk_frozen BK409.out 0
             have hfz145_1 := blk_frozen BK409.out 1
             go_wp2_with (first | ((with_reducible refine gate_callee (f := 41) rfl ?_); refine goesL_ (some 86) rfl rfl Try.func41 (by kernel_rfl) rfl #[.agg #[.int .i64 t437, .slice Ao124 t438.length co124], .agg #[.int .i64 t404, .slice Ao23 t405.length co23]] rfl (by (try simp only [List.map_toArray, List.map_cons, List.map_nil]); first | done | rfl | (simp only [List.length_drop, List.length_take]; rfl)) ?_; (with_reducible refine (laws_eqDisk.calls kj60 t437 _ _ t438 t404 _ _ t405 false _ ?side1 ?side2 ?side3 ?side4 A125.out).mono ?_); (case side1 => refine (Kd.R_reads' (e := 134) (base := w.heap.size) (ok := fun k_ => ((((True ∧ some k_ ≠ (.slice Ao23 t405.length co23 : Value).ownBlock) ∧ some k_ ≠ (.slice Ao30 t428.length co30 : Value).ownBlock) ∧ some k_ ≠ (.slice Ao37 t416.length co37 : Value).ownBlock) ∧ some k_ ≠ (.slice Ao116 t434.length co116 : Value).ownBlock)) (n := t438.length) (c := co124) ?_).2.2; exact (by (with_reducible repeat (first | apply Kd.R_alloc | apply Kd.R_drewN | apply Kd.R_drew)); exact (Kd.R_mono (Kd.R_far (p := ⟨gb442, 1, none⟩) (Kd.R_far (p := ⟨gb442, 0, none⟩) (Kd.R_types HO440.out BK442.out (by decide)) (fun _ hk => hk.2) (.int .i64 t437)) (fun _ hk => hk.2) (.slice Ao124 t438.length co124)) (fun _ h_ => h_.1)))); (case side2 => exact (Kd.R_reads' HO440.out).2.1); (case side3 => refine (Kd.R_reads' (e := 134) (base := w.heap.size) (ok := fun k_ => (((some k_ ≠ (.slice Ao30 t428.length co30 : Value).ownBlock ∧ some k_ ≠ (.slice Ao37 t416.length co37 : Value).ownBlock) ∧ some k_ ≠ (.slice Ao116 t434.length co116 : Value).ownBlock) ∧ some k_ ≠ (.slice Ao124 t438.length co124 : Value).ownBlock)) (n := t405.length) (c := co23) ?_).2.2; exact (by (with_reducible repeat (first | apply Kd.R_alloc | apply Kd.R_drewN | apply Kd.R_drew)); exact (Kd.R_mono (Kd.R_far (p := ⟨gb442, 1, none⟩) (Kd.R_far (p := ⟨gb442, 0, none⟩) (Kd.R_types HO_410001.out BK442.out (by decide)) (fun _ hk => hk.2) (.int .i64 t437)) (fun _ hk => hk.2) (.slice Ao124 t438.length co124)) (fun _ h_ => h_.1)))); (case side4 => exact (Kd.R_reads' HO_410001.out).2.1); rintro e w146 ⟨rfl, hb⟩; refine ⟨_, rfl, ?_⟩; replace HO_410001 := Aside0.mk (Kd.R_below (by (with_reducible repeat (first | apply Kd.R_alloc | apply Kd.R_drewN | apply Kd.R_drew)); exact (Kd.R_mono (Kd.R_far (p := ⟨gb442, 1, none⟩) (Kd.R_far (p := ⟨gb442, 0, none⟩) (Kd.R_types HO_410001.out BK442.out (by decide)) (fun _ hk => hk.2) (.int .i64 t437)) (fun _ hk => hk.2) (.slice Ao124 t438.length co124)) (fun _ h_ => h_.1))) hb); replace HO_415001 := Aside0.mk (Kd.R_below (by (with_reducible repeat (first | apply Kd.R_alloc | apply Kd.R_drewN | apply Kd.R_drew)); exact (Kd.R_mono (Kd.R_far (p := ⟨gb442, 1, none⟩) (Kd.R_far (p := ⟨gb442, 0, none⟩) (Kd.R_types HO_415001.out BK442.out (by decide)) (fun _ hk => hk.2) (.int .i64 t437)) (fun _ hk => hk.2) (.slice Ao124 t438.length co124)) (fun _ h_ => h_.1))) hb); replace HO_421001 := Aside0.mk (Kd.R_below (by (with_reducible repeat (first | apply Kd.R_alloc | apply Kd.R_drewN | apply Kd.R_drew)); exact (Kd.R_mono (Kd.R_far (p := ⟨gb442, 1, none⟩) (Kd.R_far (p := ⟨gb442, 0, none⟩) (Kd.R_types HO_421001.out BK442.out (by decide)) (fun _ hk => hk.2) (.int .i64 t437)) (fun _ hk => hk.2) (.slice Ao124 t438.length co124)) (fun _ h_ => h_.1))) hb); replace HO436 := Aside0.mk (Kd.R_below (by (with_reducible repeat (first | apply Kd.R_alloc | apply Kd.R_drewN | apply Kd.R_drew)); exact (Kd.R_mono (Kd.R_far (p := ⟨gb442, 1, none⟩) (Kd.R_far (p := ⟨gb442, 0, none⟩) (Kd.R_types HO436.out BK442.out (by decide)) (fun _ hk => hk.2) (.int .i64 t437)) (fun _ hk => hk.2) (.slice Ao124 t438.length co124)) (fun _ h_ => h_.1))) hb); replace HO440 := Aside0.mk (Kd.R_below (by (with_reducible repeat (first | apply Kd.R_alloc | apply Kd.R_drewN | apply Kd.R_drew)); exact (Kd.R_mono (Kd.R_far (p := ⟨gb442, 1, none⟩) (Kd.R_far (p := ⟨gb442, 0, none⟩) (Kd.R_types HO440.out BK442.out (by decide)) (fun _ hk => hk.2) (.int .i64 t437)) (fun _ hk => hk.2) (.slice Ao124 t438.length co124)) (fun _ h_ => h_.1))) hb); replace BK398 := Aside0.mk (blk_below (g := gb398) (o := .cells #[.int .i64 a0_0, .slice A0_1 l0_1.length c0_1] 66 (0, 0)) (by (with_reducible repeat (first | refine blk_drewN ?_ _ | refine blk_drew ?_ | refine blk_alloc ?_ _)); refine blk_far ?_ NB398_442.out _; (with_reducible repeat (first | refine blk_drewN ?_ _ | refine blk_drew ?_ | refine blk_alloc ?_ _)); refine blk_far ?_ NB398_442.out _; (with_reducible repeat (first | refine blk_drewN ?_ _ | refine blk_drew ?_ | refine blk_alloc ?_ _)); exact BK398.out) hb); replace BK409 := Aside0.mk (blk_below (g := gb409) (o := .cells #[.int .i64 t404, .slice Ao23 t405.length co23] 70 (0, 0)) (by (with_reducible repeat (first | refine blk_drewN ?_ _ | refine blk_drew ?_ | refine blk_alloc ?_ _)); refine blk_far ?_ NB409_442.out _; (with_reducible repeat (first | refine blk_drewN ?_ _ | refine blk_drew ?_ | refine blk_alloc ?_ _)); refine blk_far ?_ NB409_442.out _; (with_reducible repeat (first | refine blk_drewN ?_ _ | refine blk_drew ?_ | refine blk_alloc ?_ _)); exact BK409.out) hb); replace BK414 := Aside0.mk (blk_below (g := gb414) (o := .cells #[.int .i64 t410, .slice Ao30 t428.length co30] 70 (0, 0)) (by (with_reducible repeat (first | refine blk_drewN ?_ _ | refine blk_drew ?_ | refine blk_alloc ?_ _)); refine blk_far ?_ NB414_442.out _; (with_reducible repeat (first | refine blk_drewN ?_ _ | refine blk_drew ?_ | refine blk_alloc ?_ _)); refine blk_far ?_ NB414_442.out _; (with_reducible repeat (first | refine blk_drewN ?_ _ | refine blk_drew ?_ | refine blk_alloc ?_ _)); exact BK414.out) hb); replace BK420 := Aside0.mk (blk_below (g := gb420) (o := .cells #[.int .i64 t415, .slice Ao37 t416.length co37] 70 (0, 0)) (by (with_reducible repeat (first | refine blk_drewN ?_ _ | refine blk_drew ?_ | refine blk_alloc ?_ _)); refine blk_far ?_ NB420_442.out _; (with_reducible repeat (first | refine blk_drewN ?_ _ | refine blk_drew ?_ | refine blk_alloc ?_ _)); refine blk_far ?_ NB420_442.out _; (with_reducible repeat (first | refine blk_drewN ?_ _ | refine blk_drew ?_ | refine blk_alloc ?_ _)); exact BK420.out) hb); replace BK442 := Aside0.mk (blk_below (g := gb442) (o := .cells #[.int .i64 t437, .slice Ao124 t438.length co124] 70 (0, 0)) (by (with_reducible repeat (first | refine blk_drewN ?_ _ | refine blk_drew ?_ | refine blk_alloc ?_ _)); refine blk_put (cs := #[.int .i64 t437, .slice none 0 0]) ?_ 1 _ rfl; (with_reducible repeat (first | refine blk_drewN ?_ _ | refine blk_drew ?_ | refine blk_alloc ?_ _)); refine blk_put (cs := #[.int .i64 0, .slice none 0 0]) ?_ 0 _ rfl; (with_reducible repeat (first | refine blk_drewN ?_ _ | refine blk_drew ?_ | refine blk_alloc ?_ _)); exact BK442.out) hb); replace HB := xbs hb; (try clear hb); (try clear hb2); (try clear hk); (try clear hi)))
             go_meet
             case rel => exact ⟨_, (true), (by first | rfl | (simp; done) | (simp [*]; done)), H', ⟨by have := HJ11.out; have := HJ60.out; first | omega | exact Nat.le_refl _⟩, ⟨by (try simp only [hl415001_60]); (with_reducible repeat (first | apply Kd.R_alloc | apply Kd.R_drewN | apply Kd.R_drew)); exact Kd.R_mono HO_410001.out (fun _ hk => ⟨hk.1.1.1, ⟨hk.1.1.2, hk.2⟩⟩)⟩, ⟨by (try simp only [hl415001_60]); (with_reducible repeat (first | apply Kd.R_alloc | apply Kd.R_drewN | apply Kd.R_drew)); exact Kd.R_mono HO_415001.out (fun _ hk => ⟨hk.1.1.1, ⟨hk.1.1.2, hk.2⟩⟩)⟩, ⟨by (try simp only [hl415001_60]); (with_reducible repeat (first | apply Kd.R_alloc | apply Kd.R_drewN | apply Kd.R_drew)); exact Kd.R_mono HO_421001.out (fun _ hk => ⟨hk.1.1.1, ⟨hk.1.1.2, hk.2⟩⟩)⟩, ⟨by (try simp only [hl415001_60]); (with_reducible repeat (first | apply Kd.R_alloc | apply Kd.R_drewN | apply Kd.R_drew)); exact Kd.R_mono HO440.out (fun _ hk => ⟨hk.1.1.1.2, ⟨hk.1.1.2, hk.1.2⟩⟩)⟩, ⟨by (try simp only [hl415001_60]); (with_reducible repeat (first | refine blk_drewN ?_ _ | refine blk_drew ?_ | refine blk_alloc ?_ _)); exact BK398.out⟩, ⟨by (try simp only [hl415001_60]); (with_reducible repeat (first | refine blk_drewN ?_ _ | refine blk_drew ?_ | refine blk_alloc ?_ _)); exact BK409.out⟩, ⟨by (try simp only [hl415001_60]); (with_reducible repeat (first | refine blk_drewN ?_ _ | refine blk_drew ?_ | refine blk_alloc ?_ _)); exact BK414.out⟩, ⟨by (try simp only [hl415001_60]); (with_reducible repeat (first | refine blk_drewN ?_ _ | refine blk_drew ?_ | refine blk_alloc ?_ _)); exact BK420.out⟩, ⟨by (try simp only [hl415001_60]); (with_reducible repeat (first | refine blk_drewN ?_ _ | refine blk_drew ?_ | refine blk_alloc ?_ _)); exact BK442.out⟩, ⟨xbg⟩⟩
           case rest =>
            clear HC104
            try clear c1
            try clear c2
            try clear p2
            try clear c3
            try clear c4
            try clear c4b0
            try clear c5
            try clear c6
            try clear c7
            try clear c8
            try clear c9
            try clear c10
            try clear c11
            try clear c12
            try clear c13
            try clear c14
            try clear c21
            try clear c27
            try clear c28
            try clear c33
            try clear c34
            try clear c35
            try clear c37
            try clear c39
            try clear c40
            try clear c41
            try clear c42
            try clear c43
            try clear c44
            try clear c45
            try clear c48
            try clear c49
            try clear c50
            try clear c52
            try clear c53
            try clear c56
            try clear c57
            try clear c58
            try clear c59
            try clear c66
            try clear c67
            try clear c68
            try clear c71
            try clear c71b0
            try clear c73
            try clear c74
            try clear c75
            try clear c76
            try clear c78
            try clear c79
            try clear c82
            try clear c83
            try clear c84
            try clear c86
            try clear c87
            try clear c90
            try clear c93
            try clear c93b0
            try clear c94
            try clear c95
            try clear c96
            try clear c101
            try clear c101b0
            try clear c101b1
            try clear c105
            try clear c106
            try clear c107
            try clear c112
            try clear c113
            try clear c119
            try clear c120
            try clear c121
            try clear c122
            try clear c126
            try clear c127
            try clear c128
            try clear c129
            try clear c130
            try clear c132
            try clear c133
            try clear c134
            try clear c137
            try clear c138
            try clear c139
            try clear c140
            try clear c142
            try clear c143
            try clear c144
            try clear hcz108_0
            try clear hcz108_1
            try clear hcz110_0
            try clear hcz110_1
            try clear hcz114_0
            try clear hcz114_1
            try clear hcz123_0
            try clear hcz123_1
            try clear hcz131_0
            try clear hcz131_1
            try clear hcz135_0
            try clear hcz135_1
            try clear hcz141_0
            try clear hcz141_1
            try clear hcz145_0
            try clear hcz145_1
            try clear hcz14_0
            try clear hcz14_1
            try clear hcz16_0
            try clear hcz16_1
            try clear hcz22_0
            try clear hcz22_1
            try clear hcz24_0
            try clear hcz24_1
            try clear hcz29_0
            try clear hcz29_1
            try clear hcz36_0
            try clear hcz36_1
            try clear hcz43_0
            try clear hcz43_1
            try clear hcz46_0
            try clear hcz46_1
            try clear hcz51_0
            try clear hcz51_1
            try clear hcz54_0
            try clear hcz54_1
            try clear hcz69_0
            try clear hcz69_1
            try clear hcz6_0
            try clear hcz6_1
            try clear hcz77_0
            try clear hcz77_1
            try clear hcz80_0
            try clear hcz80_1
            try clear hcz85_0
            try clear hcz85_1
            try clear hcz88_0
            try clear hcz88_1
            try clear hcz97_0
            try clear hcz97_1
            try clear hcz99_0
            try clear hcz99_1
            try clear hfz108_0
            try clear hfz108_1
            try clear hfz110_0
            try clear hfz110_1
            try clear hfz114_0
            try clear hfz114_1
            try clear hfz123_0
            try clear hfz123_1
            try clear hfz131_0
            try clear hfz131_1
            try clear hfz135_0
            try clear hfz135_1
            try clear hfz141_0
            try clear hfz141_1
            try clear hfz145_0
            try clear hfz145_1
            try clear hfz14_0
            try clear hfz14_1
            try clear hfz16_0
            try clear hfz16_1
            try clear hfz22_0
            try clear hfz22_1
            try clear hfz24_0
            try clear hfz24_1
            try clear hfz29_0
            try clear hfz29_1
            try clear hfz36_0
            try clear hfz36_1
            try clear hfz43_0
            try clear hfz43_1
            try clear hfz46_0
            try clear hfz46_1
            try clear hfz51_0
            try clear hfz51_1
            try clear hfz54_0
            try clear hfz54_1
            try clear hfz69_0
            try clear hfz69_1
            try clear hfz6_0
            try clear hfz6_1
            try clear hfz77_0
            try clear hfz77_1
            try clear hfz80_0
            try clear hfz80_1
            try clear hfz85_0
            try clear hfz85_1
            try clear hfz88_0
            try clear hfz88_1
            try clear hfz97_0
            try clear hfz97_1
            try clear hfz99_0
            try clear hfz99_1
            try clear p2
            obtain ⟨kq, x92_103, rfl, HA, HJ103, HO_410001, HO_415001, HO_421001, HO_443001, BK398, BK409, BK414, BK420, BK442, HB⟩ := hcut
            have hl421001_103 := (Kd.R_reads' HO_421001.out).1
            rw [hl421001_103] at HO_421001
            (try simp only [hl421001_103])
            (try simp only [hl421001_103] at BK398)
            (try simp only [hl421001_103] at BK409)
            (try simp only [hl421001_103] at BK414)
            (try simp only [hl421001_103] at BK420)
            (try simp only [hl421001_103] at BK442)
            (try simp only [hl421001_103] at HO_410001)
            (try simp only [hl421001_103] at HO_415001)
            (try simp only [hl421001_103] at HO_443001)
            cases kq with
            | zero => exact absurd HA.out (by simp [laws_FnExactJournalMend.j2])
            | succ kj103 =>
             have H := HA.out
             clear HA
             simp only [laws_FnExactJournalMend.j2] at H
             by_cases c147 : x92_103 = true
             ·subst c147
              have H1 : (some false) = some r := by rw [if_pos rfl] at H; exact H
              clear H
              have H := H1
              clear H1
              obtain rfl := Option.some.inj H
              go_wp2
              go_ret
              exact ⟨by first | rfl | (simp [errW_none, errW_some] <;> rfl) | (simp [*, errW_none, errW_some] <;> rfl), xbg⟩
             ·replace c147 := Bool.eq_false_iff.mpr c147
              subst c147
              have H1 : ((laws_heldDisk.f kj103 t415 t431 1).bind fun t444 => (if t444 < 0 then (some false) else (if t444 = t430 then (some true) else (some false)))) = some r := by rw [if_neg (show ¬ (false = true) by decide)] at H; exact H
              clear H
              have H := H1
              clear H1
              replace H := Option.bind_eq_some_iff.mp H
              obtain ⟨t444, A1480, H⟩ := H
              replace H : (if t444 < 0 then (some false) else (if t444 = t430 then (some true) else (some false))) = some r := H
              have A148 := Aside0.mk A1480
              clear A1480
              by_cases c149 : t444 < 0
              ·rw [if_pos c149] at H
               have c149b0 : decide (t444 < 0) = true := decide_eq_true c149
               clear c149
               obtain rfl := Option.some.inj H
               have hnb150 := NB420_398.out
               have hnc150 := NB398_420.out
               have hnb151 := NB420_409.out
               have hnc151 := NB409_420.out
               have hnb152 := NB420_414.out
               have hnc152 := NB414_420.out
               have hnb153 := NB420_442.out
               have hnc153 := NB442_420.out
               have hcz154_0 : wc.cell? ⟨gb420, 0, none⟩ = some (.int .i64 t415) := (blk_cell BK420.out 0).trans rfl
               have hcz154_1 : wc.cell? ⟨gb420, 1, none⟩ = some (.slice Ao37 t431.length co37) := (blk_cell BK420.out 1).trans rfl
               have hfz154_0 := blk_frozen BK420.out 0
               have hfz154_1 := blk_frozen BK420.out 1
               go_wp2_with (first | ((with_reducible refine gate_callee (f := 43) rfl ?_); refine goesL_ (some 95) rfl rfl Try.func43 (by kernel_rfl) rfl #[.agg #[.int .i64 t415, .slice Ao37 t431.length co37], .int .i64 1] rfl (by (try simp only [List.map_toArray, List.map_cons, List.map_nil]); first | done | rfl | (simp only [List.length_drop, List.length_take]; rfl)) ?_; (with_reducible refine (laws_heldDisk.calls kj103 t415 _ _ t431 1 t444 _ ?side1 ?side2 A148.out).mono ?_); (case side1 => repeat (first | exact (Kd.R_reads' HO_421001.out).2.2 | (with_reducible refine Kd.C_alloc ?_ _) | (with_reducible refine Kd.C_drewN ?_ _) | (with_reducible refine Kd.C_drew ?_))); (case side2 => exact (Kd.R_reads' HO_421001.out).2.1); rintro e w155 ⟨rfl, hb⟩; refine ⟨_, rfl, ?_⟩; replace HO_410001 := Aside0.mk (Kd.R_below (by (with_reducible repeat (first | apply Kd.R_alloc | apply Kd.R_drewN | apply Kd.R_drew)); exact HO_410001.out) hb); replace HO_415001 := Aside0.mk (Kd.R_below (by (with_reducible repeat (first | apply Kd.R_alloc | apply Kd.R_drewN | apply Kd.R_drew)); exact HO_415001.out) hb); replace HO_421001 := Aside0.mk (Kd.R_below (by (with_reducible repeat (first | apply Kd.R_alloc | apply Kd.R_drewN | apply Kd.R_drew)); exact HO_421001.out) hb); replace HO_443001 := Aside0.mk (Kd.R_below (by (with_reducible repeat (first | apply Kd.R_alloc | apply Kd.R_drewN | apply Kd.R_drew)); exact HO_443001.out) hb); replace BK398 := xbb BK398 hb; replace BK409 := xbb BK409 hb; replace BK414 := xbb BK414 hb; replace BK420 := xbb BK420 hb; replace BK442 := xbb BK442 hb; replace HB := xbs hb; (try clear hb); (try clear hb2); (try clear hk); (try clear hi)))
               go_ret
               exact ⟨by first | rfl | (simp [errW_none, errW_some] <;> rfl) | (simp [*, errW_none, errW_some] <;> rfl), xbg⟩
              ·rw [if_neg c149] at H
               have c149b0 : decide (t444 < 0) = false := decide_eq_false c149
               clear c149
               by_cases c156 : t444 = t430
               ·rw [if_pos c156] at H
                have c156b0 : (t444 == t430) = true := beq_iff_eq.mpr c156
                have c156b1 : (t444 != t430) = false := bne_eq_false_iff_eq.mpr c156
                clear c156
                obtain rfl := Option.some.inj H
                have hnb157 := NB420_398.out
                have hnc157 := NB398_420.out
                have hnb158 := NB420_409.out
                have hnc158 := NB409_420.out
                have hnb159 := NB420_414.out
                have hnc159 := NB414_420.out
                have hnb160 := NB420_442.out
                have hnc160 := NB442_420.out
                have hcz161_0 : wc.cell? ⟨gb420, 0, none⟩ = some (.int .i64 t415) := (blk_cell BK420.out 0).trans rfl
                have hcz161_1 : wc.cell? ⟨gb420, 1, none⟩ = some (.slice Ao37 t431.length co37) := (blk_cell BK420.out 1).trans rfl
                have hfz161_0 := blk_frozen BK420.out 0
                have hfz161_1 := blk_frozen BK420.out 1
                go_wp2_with (first | ((with_reducible refine gate_callee (f := 43) rfl ?_); refine goesL_ (some 95) rfl rfl Try.func43 (by kernel_rfl) rfl #[.agg #[.int .i64 t415, .slice Ao37 t431.length co37], .int .i64 1] rfl (by (try simp only [List.map_toArray, List.map_cons, List.map_nil]); first | done | rfl | (simp only [List.length_drop, List.length_take]; rfl)) ?_; (with_reducible refine (laws_heldDisk.calls kj103 t415 _ _ t431 1 t444 _ ?side1 ?side2 A148.out).mono ?_); (case side1 => repeat (first | exact (Kd.R_reads' HO_421001.out).2.2 | (with_reducible refine Kd.C_alloc ?_ _) | (with_reducible refine Kd.C_drewN ?_ _) | (with_reducible refine Kd.C_drew ?_))); (case side2 => exact (Kd.R_reads' HO_421001.out).2.1); rintro e w162 ⟨rfl, hb⟩; refine ⟨_, rfl, ?_⟩; replace HO_410001 := Aside0.mk (Kd.R_below (by (with_reducible repeat (first | apply Kd.R_alloc | apply Kd.R_drewN | apply Kd.R_drew)); exact HO_410001.out) hb); replace HO_415001 := Aside0.mk (Kd.R_below (by (with_reducible repeat (first | apply Kd.R_alloc | apply Kd.R_drewN | apply Kd.R_drew)); exact HO_415001.out) hb); replace HO_421001 := Aside0.mk (Kd.R_below (by (with_reducible repeat (first | apply Kd.R_alloc | apply Kd.R_drewN | apply Kd.R_drew)); exact HO_421001.out) hb); replace HO_443001 := Aside0.mk (Kd.R_below (by (with_reducible repeat (first | apply Kd.R_alloc | apply Kd.R_drewN | apply Kd.R_drew)); exact HO_443001.out) hb); replace BK398 := xbb BK398 hb; replace BK409 := xbb BK409 hb; replace BK414 := xbb BK414 hb; replace BK420 := xbb BK420 hb; replace BK442 := xbb BK442 hb; replace HB := xbs hb; (try clear hb); (try clear hb2); (try clear hk); (try clear hi)))
                go_ret
                exact ⟨by first | rfl | (simp [errW_none, errW_some] <;> rfl) | (simp [*, errW_none, errW_some] <;> rfl), xbg⟩
               ·rw [if_neg c156] at H
                have c156b0 : (t444 == t430) = false := beq_eq_false_iff_ne.mpr c156
                have c156b1 : (t444 != t430) = true := bne_iff_ne.mpr c156
                obtain rfl := Option.some.inj H
                have hnb163 := NB420_398.out
                have hnc163 := NB398_420.out
                have hnb164 := NB420_409.out
                have hnc164 := NB409_420.out
                have hnb165 := NB420_414.out
                have hnc165 := NB414_420.out
                have hnb166 := NB420_442.out
                have hnc166 := NB442_420.out
                have hcz167_0 : wc.cell? ⟨gb420, 0, none⟩ = some (.int .i64 t415) := (blk_cell BK420.out 0).trans rfl
                have hcz167_1 : wc.cell? ⟨gb420, 1, none⟩ = some (.slice Ao37 t431.length co37) := (blk_cell BK420.out 1).trans rfl
                have hfz167_0 := blk_frozen BK420.out 0
                have hfz167_1 := blk_frozen BK420.out 1
                go_wp2_with (first | ((with_reducible refine gate_callee (f := 43) rfl ?_); refine goesL_ (some 95) rfl rfl Try.func43 (by kernel_rfl) rfl #[.agg #[.int .i64 t415, .slice Ao37 t431.length co37], .int .i64 1] rfl (by (try simp only [List.map_toArray, List.map_cons, List.map_nil]); first | done | rfl | (simp only [List.length_drop, List.length_take]; rfl)) ?_; (with_reducible refine (laws_heldDisk.calls kj103 t415 _ _ t431 1 t444 _ ?side1 ?side2 A148.out).mono ?_); (case side1 => repeat (first | exact (Kd.R_reads' HO_421001.out).2.2 | (with_reducible refine Kd.C_alloc ?_ _) | (with_reducible refine Kd.C_drewN ?_ _) | (with_reducible refine Kd.C_drew ?_))); (case side2 => exact (Kd.R_reads' HO_421001.out).2.1); rintro e w168 ⟨rfl, hb⟩; refine ⟨_, rfl, ?_⟩; replace HO_410001 := Aside0.mk (Kd.R_below (by (with_reducible repeat (first | apply Kd.R_alloc | apply Kd.R_drewN | apply Kd.R_drew)); exact HO_410001.out) hb); replace HO_415001 := Aside0.mk (Kd.R_below (by (with_reducible repeat (first | apply Kd.R_alloc | apply Kd.R_drewN | apply Kd.R_drew)); exact HO_415001.out) hb); replace HO_421001 := Aside0.mk (Kd.R_below (by (with_reducible repeat (first | apply Kd.R_alloc | apply Kd.R_drewN | apply Kd.R_drew)); exact HO_421001.out) hb); replace HO_443001 := Aside0.mk (Kd.R_below (by (with_reducible repeat (first | apply Kd.R_alloc | apply Kd.R_drewN | apply Kd.R_drew)); exact HO_443001.out) hb); replace BK398 := xbb BK398 hb; replace BK409 := xbb BK409 hb; replace BK414 := xbb BK414 hb; replace BK420 := xbb BK420 hb; replace BK442 := xbb BK442 hb; replace HB := xbs hb; (try clear hb); (try clear hb2); (try clear hk); (try clear hi)))
                go_ret
                exact ⟨by first | rfl | (simp [errW_none, errW_some] <;> rfl) | (simp [*, errW_none, errW_some] <;> rfl), xbg⟩
          ·rw [if_neg c101] at H
           have c101b0 : (t432 == t430) = false := beq_eq_false_iff_ne.mpr c101
           have c101b1 : (t432 != t430) = true := bne_iff_ne.mpr c101
           obtain rfl := Option.some.inj H
           have hnb169 := NB420_398.out
           have hnc169 := NB398_420.out
           have hnb170 := NB420_409.out
           have hnc170 := NB409_420.out
           have hnb171 := NB420_414.out
           have hnc171 := NB414_420.out
           have hcz172_0 : wc.cell? ⟨gb420, 0, none⟩ = some (.int .i64 t415) := (blk_cell BK420.out 0).trans rfl
           have hcz172_1 : wc.cell? ⟨gb420, 1, none⟩ = some (.slice Ao37 t416.length co37) := (blk_cell BK420.out 1).trans rfl
           have hfz172_0 := blk_frozen BK420.out 0
           have hfz172_1 := blk_frozen BK420.out 1
           go_wp2_with (first | ((with_reducible refine gate_callee (f := 42) rfl ?_); refine goesL_ (some 68) rfl rfl Try.func42 (by kernel_rfl) rfl #[.agg #[.int .i64 t415, .slice Ao37 t416.length co37], .int .i64 1] rfl (by (try simp only [List.map_toArray, List.map_cons, List.map_nil]); first | done | rfl | (simp only [List.length_drop, List.length_take]; rfl)) ?_; (with_reducible refine (laws_markDisk.calls kj60 t415 (fun k_ => some k_ = (.slice Ao37 t416.length co37 : Value).ownBlock) (.slice Ao37 t416.length co37) t416 1 t430 t431 w _ ?side1 ?side2 A91.out).mono ?_); (case side1 => repeat (first | (with_reducible first | exact HB.out | apply below_alloc | apply pw_below_drewN | apply below_drew1 | refine below_set ?_ GE398.out | refine below_set ?_ GE409.out | refine below_set ?_ GE414.out | refine below_set ?_ GE420.out) | exact HB.out)); (case side2 => exact Kd.R_tight rfl HO_421001.out); rintro e w173 ⟨rfl, hy0, hb, hkp⟩; refine ⟨_, rfl, ?_⟩; have n0_ := Aside0.mk (Kd.R_mono (ok' := fun k_ => some k_ ≠ (.slice Ao30 t428.length co30 : Value).ownBlock ∧ some k_ ≠ (.slice Ao37 t416.length co37 : Value).ownBlock) (Kd.R_keptB (HO_410001.out) hkp (fun k_ hk_ hs_ => (hk_.2) hs_)) (fun k_ hk_ => ⟨hk_.1.1, hk_.1.2⟩)); have n1_ := Aside0.mk (Kd.R_mono (ok' := fun k_ => some k_ ≠ (.slice Ao23 t405.length co23 : Value).ownBlock ∧ some k_ ≠ (.slice Ao37 t416.length co37 : Value).ownBlock) (Kd.R_keptB (HO_415001.out) hkp (fun k_ hk_ hs_ => (hk_.2) hs_)) (fun k_ hk_ => ⟨hk_.1.1, hk_.1.2⟩)); have n2_ := Aside0.mk (Kd.R_reok rfl hy0 (fun k_ e_ => HO_421001.out.1 k_ e_)); have n3_ := Aside0.mk (blk_kept xblk hkp (fun hs_ => (fun e_ => (Kd.R_ne HO_421001.out BK398.out (by decide)) e_) hs_)); have n4_ := Aside0.mk (blk_kept xblk hkp (fun hs_ => (fun e_ => (Kd.R_ne HO_421001.out BK409.out (by decide)) e_) hs_)); have n5_ := Aside0.mk (blk_kept xblk hkp (fun hs_ => (fun e_ => (Kd.R_ne HO_421001.out BK414.out (by decide)) e_) hs_)); have n6_ := Aside0.mk (blk_kept xblk hkp (fun hs_ => (fun e_ => (Kd.R_ne HO_421001.out BK420.out (by decide)) e_) hs_)); have n7_ := Aside0.mk (hb); clear HO_410001; clear HO_415001; clear HO_421001; clear BK398; clear BK409; clear BK414; clear BK420; clear HB; have HO_410001 := n0_; have HO_415001 := n1_; have HO_421001 := n2_; have BK398 := n3_; have BK409 := n4_; have BK414 := n5_; have BK420 := n6_; have HB := n7_; clear n0_ n1_ n2_ n3_ n4_ n5_ n6_ n7_; (try clear hb); (try clear hkp); (try clear hy0); have hcz174_0 : w173.cell? ⟨gb420, 0, none⟩ = some (.int .i64 t415) := (blk_cell BK420.out 0).trans rfl; have hcz174_1 : w173.cell? ⟨gb420, 1, none⟩ = some (.slice Ao37 t416.length co37) := (blk_cell BK420.out 1).trans rfl; have hfz174_0 := blk_frozen BK420.out 0; have hfz174_1 := blk_frozen BK420.out 1) | ((with_reducible refine gate_callee (f := 43) rfl ?_); refine goesL_ (some 71) rfl rfl Try.func43 (by kernel_rfl) rfl #[.agg #[.int .i64 t415, .slice Ao37 t431.length co37], .int .i64 1] rfl (by (try simp only [List.map_toArray, List.map_cons, List.map_nil]); first | done | (rw [show t431.length = t416.length from (Kd.R_reads' HO_421001.out).1.symm] <;> rfl) | rfl | (simp only [List.length_drop, List.length_take]; rfl)) ?_; (with_reducible refine (laws_heldDisk.calls kj60 t415 _ _ t431 1 t432 _ ?side1 ?side2 A92.out).mono ?_); (case side1 => repeat (first | exact (Kd.R_reads' HO_421001.out).2.2 | (with_reducible refine Kd.C_alloc ?_ _) | (with_reducible refine Kd.C_drewN ?_ _) | (with_reducible refine Kd.C_drew ?_))); (case side2 => rw [show t431.length = t416.length from (Kd.R_reads' HO_421001.out).1.symm]; exact (Kd.R_reads' HO_421001.out).2.1); rintro e w175 ⟨rfl, hb⟩; refine ⟨_, rfl, ?_⟩; replace HO_410001 := Aside0.mk (Kd.R_below (by (with_reducible repeat (first | apply Kd.R_alloc | apply Kd.R_drewN | apply Kd.R_drew)); exact HO_410001.out) hb); replace HO_415001 := Aside0.mk (Kd.R_below (by (with_reducible repeat (first | apply Kd.R_alloc | apply Kd.R_drewN | apply Kd.R_drew)); exact HO_415001.out) hb); replace HO_421001 := Aside0.mk (Kd.R_below (by (with_reducible repeat (first | apply Kd.R_alloc | apply Kd.R_drewN | apply Kd.R_drew)); exact HO_421001.out) hb); replace BK398 := xbb BK398 hb; replace BK409 := xbb BK409 hb; replace BK414 := xbb BK414 hb; replace BK420 := xbb BK420 hb; replace HB := xbs hb; (try clear hb); (try clear hb2); (try clear hk); (try clear hi)))
           go_ret
           exact ⟨by first | rfl | (simp [errW_none, errW_some] <;> rfl) | (simp [*, errW_none, errW_some] <;> rfl), xbg⟩
     ·replace c59 := Bool.eq_false_iff.mpr c59
      subst c59
      have H1 : (some false) = some r := by rw [if_neg (show ¬ (false = true) by decide)] at H; exact H
      clear H
      have H := H1
      clear H1
      obtain rfl := Option.some.inj H
      try go_wp2
      replace HO_410001 := Aside0.mk (Kd.R_drew HO_410001.out)
      replace HO_415001 := Aside0.mk (Kd.R_drew HO_415001.out)
      replace HO_421001 := Aside0.mk (Kd.R_drew HO_421001.out)
      replace BK398 := Aside0.mk (blk_drew BK398.out)
      replace BK409 := Aside0.mk (blk_drew BK409.out)
      replace BK414 := Aside0.mk (blk_drew BK414.out)
      replace BK420 := Aside0.mk (blk_drew BK420.out)
      replace HB := Aside0.mk (below_drew1 HB.out)
      refine start_ (n := 5) (S := fun w' => w'.cell? ⟨gb414, 0, none⟩ = some (.int .i64 t410) ∧ w'.cell? ⟨gb414, 1, none⟩ = some (.slice Ao30 t411.length co30) ∧ w'.cell? ⟨gb398, 0, none⟩ = some (.int .i64 a0_0) ∧ w'.cell? ⟨gb398, 1, none⟩ = some (.slice A0_1 l0_1.length c0_1)) (ds := []) #[false, false, false, false, false] (by kernel_rfl) rfl rfl ⟨(blk_cell BK414.out 0).trans rfl, (blk_cell BK414.out 1).trans rfl, (blk_cell BK398.out 0).trans rfl, (blk_cell BK398.out 1).trans rfl⟩ (fun hHeld => ?_)
      generalize wc.drew = w176 at HO_410001 HO_415001 HO_421001 BK398 BK409 BK414 BK420 HB hHeld ⊢
      refine take_ (i := 0) (N := some 45) (v := ?_) (a' := ?_) #[true, false, false, false, false] rfl rfl (by kernel_rfl) (fun _ _ _ h => h) (Or.inl ⟨by rfl, ?_⟩) hHeld ?_ ?_
      rotate_left
      ·rintro w' ⟨s0, s1, s2, s3⟩
       go_simp
       with_reducible rfl
      rotate_left
      ·simp only [Act.put, List.setIfInBounds_toArray, List.set_cons_zero, List.set_cons_succ, i64_w, i32_w]
       rfl
      refine take_ (i := 1) (N := some 46) (v := ?_) (a' := ?_) #[true, true, false, false, false] rfl rfl (by kernel_rfl) (fun _ _ _ h => h) (Or.inl ⟨by rfl, ?_⟩) hHeld ?_ ?_
      rotate_left
      ·rintro w' ⟨s0, s1, s2, s3⟩
       go_simp
       with_reducible rfl
      rotate_left
      ·simp only [Act.put, List.setIfInBounds_toArray, List.set_cons_zero, List.set_cons_succ, i64_w, i32_w]
       rfl
      refine one_ (i := 2) (N := some 47) #[true, true, true, false, false] rfl rfl (by kernel_rfl) (by decide) (fun K hK => ?_)
      refine goes_ Try.func39 (by kernel_rfl) rfl #[.agg #[.int .i64 a0_0, .slice A0_1 l0_1.length c0_1]] (by rfl) rfl rfl (by (try simp only [List.map_toArray, List.map_cons, List.map_nil]); first | done | rfl | (simp only [List.length_drop, List.length_take]; rfl)) ?_
      with_reducible refine (laws_toDisk.calls kj11 a0_0 _ _ l0_1 t422 t423 _ ?side1 ?side2 A57.out).mono ?_
      (case side1 => exact xcb HR0_1)
      (case side2 => exact HC0_1.out)
      rintro e w177 ⟨v424, rfl, ho0, hb⟩
      refine ⟨_, rfl, ?_⟩
      have HO425 := Aside0.mk (Kd.R_lower (Kd.R_new' (Kd.R_new' (Kd.R_new' ho0 (Kd.R_lt (by (with_reducible repeat (first | apply Kd.R_alloc | apply Kd.R_drewN | apply Kd.R_drew)); exact HO_410001.out))) (Kd.R_lt (by (with_reducible repeat (first | apply Kd.R_alloc | apply Kd.R_drewN | apply Kd.R_drew)); exact HO_415001.out))) (Kd.R_lt (by (with_reducible repeat (first | apply Kd.R_alloc | apply Kd.R_drewN | apply Kd.R_drew)); exact HO_421001.out))) (below_size xbg))
      replace HO_410001 := Aside0.mk (Kd.R_elder' (by (with_reducible repeat (first | apply Kd.R_alloc | apply Kd.R_drewN | apply Kd.R_drew)); exact HO_410001.out) (Kd.R_base ho0) hb)
      replace HO_415001 := Aside0.mk (Kd.R_elder' (by (with_reducible repeat (first | apply Kd.R_alloc | apply Kd.R_drewN | apply Kd.R_drew)); exact HO_415001.out) (Kd.R_base ho0) hb)
      replace HO_421001 := Aside0.mk (Kd.R_elder' (by (with_reducible repeat (first | apply Kd.R_alloc | apply Kd.R_drewN | apply Kd.R_drew)); exact HO_421001.out) (Kd.R_base ho0) hb)
      replace BK398 := xbb BK398 hb
      replace BK409 := xbb BK409 hb
      replace BK414 := xbb BK414 hb
      replace BK420 := xbb BK420 hb
      replace HB := xbs hb
      (try clear hb); (try clear hb2); (try clear hk); (try clear hi); (try clear ho0)
      obtain ⟨Ao178, co178, eo178⟩ := Kd.R_slice HO425.out
      (first | subst eo178 | (injection eo178 with f1_ f2_ f3_; have f4_ := f1_.symm; have f5_ := f3_.symm; clear f1_ f2_ f3_; subst f4_; subst f5_))
      refine hK.out _ _ ⟨(blk_cell BK414.out 0).trans rfl, (blk_cell BK414.out 1).trans rfl, (blk_cell BK398.out 0).trans rfl, (blk_cell BK398.out 1).trans rfl⟩ (fun hHeld => ?_)
      clear hK K
      refine norm_ (a' := ?_) ?_ ?_
      rotate_left
      ·show Act.put _ (some 47) _ = _
       simp only [Act.put, List.setIfInBounds_toArray, List.set_cons_zero, List.set_cons_succ, i64_w, i32_w]
       rfl
      refine one_ (i := 3) (N := some 48) #[true, true, true, true, false] rfl rfl (by kernel_rfl) (by decide) (fun K hK => ?_)
      refine goes_ Try.func41 (by kernel_rfl) rfl #[.agg #[.int .i64 t410, .slice Ao30 t411.length co30], .agg #[.int .i64 t422, .slice Ao178 t423.length co178]] (by rfl) rfl rfl (by (try simp only [List.map_toArray, List.map_cons, List.map_nil]); first | done | rfl | (simp only [List.length_drop, List.length_take]; rfl)) ?_
      with_reducible refine (laws_eqDisk.calls kj11 t410 _ _ t411 t422 _ _ t423 false _ ?side1 ?side2 ?side3 ?side4 A58.out).mono ?_
      (case side1 => repeat (first | exact (Kd.R_reads' HO_415001.out).2.2 | (with_reducible refine Kd.C_alloc ?_ _) | (with_reducible refine Kd.C_drewN ?_ _) | (with_reducible refine Kd.C_drew ?_)))
      (case side2 => exact (Kd.R_reads' HO_415001.out).2.1)
      (case side3 => repeat (first | exact (Kd.R_reads' HO425.out).2.2 | (with_reducible refine Kd.C_alloc ?_ _) | (with_reducible refine Kd.C_drewN ?_ _) | (with_reducible refine Kd.C_drew ?_)))
      (case side4 => exact (Kd.R_reads' HO425.out).2.1)
      rintro e w179 ⟨rfl, hb⟩
      refine ⟨_, rfl, ?_⟩
      replace HO_410001 := Aside0.mk (Kd.R_below (by (with_reducible repeat (first | apply Kd.R_alloc | apply Kd.R_drewN | apply Kd.R_drew)); exact HO_410001.out) hb)
      replace HO_415001 := Aside0.mk (Kd.R_below (by (with_reducible repeat (first | apply Kd.R_alloc | apply Kd.R_drewN | apply Kd.R_drew)); exact HO_415001.out) hb)
      replace HO_421001 := Aside0.mk (Kd.R_below (by (with_reducible repeat (first | apply Kd.R_alloc | apply Kd.R_drewN | apply Kd.R_drew)); exact HO_421001.out) hb)
      replace HO425 := Aside0.mk (Kd.R_below (by (with_reducible repeat (first | apply Kd.R_alloc | apply Kd.R_drewN | apply Kd.R_drew)); exact HO425.out) hb)
      replace BK398 := xbb BK398 hb
      replace BK409 := xbb BK409 hb
      replace BK414 := xbb BK414 hb
      replace BK420 := xbb BK420 hb
      replace HB := xbs hb
      (try clear hb); (try clear hb2); (try clear hk); (try clear hi)
      refine hK.out _ _ ⟨(blk_cell BK414.out 0).trans rfl, (blk_cell BK414.out 1).trans rfl, (blk_cell BK398.out 0).trans rfl, (blk_cell BK398.out 1).trans rfl⟩ (fun hHeld => ?_)
      clear hK K
      refine norm_ (a' := ?_) ?_ ?_
      rotate_left
      ·show Act.put _ (some 48) _ = _
       simp only [Act.put, List.setIfInBounds_toArray, List.set_cons_zero, List.set_cons_succ, i64_w, i32_w]
       rfl
      refine pure_ (i := 4) (N := some 49) (v := ?_) (a' := ?_) #[true, true, true, true, true] rfl rfl (by kernel_rfl) (fun _ _ _ h => h) (Or.inl ⟨by rfl, ?_⟩) ?_ ?_
      rotate_left
      ·intro w'
       go_simp
       with_reducible rfl
      rotate_left
      ·simp only [Act.put, List.setIfInBounds_toArray, List.set_cons_zero, List.set_cons_succ, i64_w, i32_w]
       rfl
      refine done_ (by kernel_rfl) ?_
      try go_wp2
      go_ret
      exact ⟨by first | rfl | (simp [errW_none, errW_some] <;> rfl) | (simp [*, errW_none, errW_some] <;> rfl), xbg⟩

/-- THE ONE PURE STATEMENT of laws_FnExactJournalMend. -/
def Q164 (x : S164) : Prop := (Lit.int .i64 x.f0).wf = true ∧ x.f1.size ≤ 140737488351232 ∧ x.f2.size ≤ 140737488351232
def Q66 (x : S66) : Prop := (Lit.int .i64 x.f0).wf = true ∧ (x.f1.length ≤ maxLen ∧ x.f1.length * 40 ≤ 140737488351232 ∧ ∀ x' ∈ x.f1, Q164 x')
def laws_FnExactJournalMend.Pure : Prop := ∀ (a0_0 : Int) (l0_1 : List (S164)) (a1 : Int), (Lit.int .i64 a0_0).wf = true → l0_1.length ≤ maxLen → l0_1.length * 40 ≤ 140737488351232 → (∀ x ∈ l0_1, Q164 x) → (Lit.int .i64 a1).wf = true → ∃ k, laws_FnExactJournalMend.f k a0_0 l0_1 a1 = some true
theorem laws_FnExactJournalMend.walk (P : laws_FnExactJournalMend.Pure) (a0_0 : Int) (A0_1 : Option Addr) (c0_1 : Nat) (l0_1 : List (S164)) (a1 : Int) (w : World) (w0_0 : (Lit.int .i64 a0_0).wf = true) (hr0_1 : Kd.C k164 w A0_1 l0_1.length l0_1) (hc0_1 : l0_1.length ≤ c0_1) (hm0_1 : l0_1.length ≤ maxLen) (hz0_1 : l0_1.length * 40 ≤ 140737488351232) (hw0_1 : ∀ x ∈ l0_1, Q164 x) (w1 : (Lit.int .i64 a1).wf = true) :
 Calls Try.prog 10 #[.agg #[.int .i64 a0_0, .slice A0_1 l0_1.length c0_1], .int .i64 a1] w fun e w' => e = .returned (.bool true) ∧ Below w.heap.size w w' := by
 obtain ⟨k, h⟩ := P a0_0 l0_1 a1 w0_0 hm0_1 hz0_1 hw0_1 w1
 refine (laws_FnExactJournalMend.calls k a0_0 A0_1 c0_1 l0_1 a1 true w hr0_1 hc0_1 h).mono ?_
 rintro e w' ⟨rfl, hd⟩
 exact ⟨rfl, hd⟩

end Go.Proofs.Ytnjpfllmcmomoaa.QFnExactJournalMend
