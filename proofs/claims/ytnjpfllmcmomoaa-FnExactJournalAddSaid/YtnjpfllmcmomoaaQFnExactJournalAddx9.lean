-- A walk, by a program of this session.
import Derived.Test.YtnjpfllmcmomoaaQFnExactJournalAddx0
import Derived.Test.YtnjpfllmcmomoaaQFnExactJournalAddx1
import Derived.Test.YtnjpfllmcmomoaaQFnExactJournalAddx2
import Derived.Test.YtnjpfllmcmomoaaQFnExactJournalAddx5
import Derived.Test.YtnjpfllmcmomoaaQFnExactJournalAddx8
namespace Go.Proofs.Ytnjpfllmcmomoaa.QFnExactJournalAdd
open Go.RowKit Go.Proofs.YtnjpfllmcmomoaaW.PrintWords Go.Proofs.YtnjpfllmcmomoaaW.PrintLast Go.Proofs.YtnjpfllmcmomoaaW.PrintMore
attribute [local go_sem] max2_int min2_int max_two min_two max_three min_three max_four min_four   -- for this text's walks alone
set_option linter.unusedVariables false
set_option linter.unusedSimpArgs false

/-! ### laws_FnExactJournalAdd: function 12 -/
mutual
def laws_FnExactJournalAdd.j0 : Nat → Int → List ByteArray → Int → List ByteArray → Int → Bool → Int → List (S164) → Int → List (S134) → Int → List (S134) → Int → List (S134) → Option (Bool)
 | 0, _, _, _, _, _, _, _, _, _, _, _, _, _, _ => none
 | k + 1, x1, x2, x9, x11, x13, x57, x429000, x429001, x444000, x444001, x449000, x449001, x458000, x458001 => if x57 = true then (some false) else ((laws_toDisk.f k x429000 x429001).bind fun bt459 => ((laws_eqDisk.f k x449000 x449001 bt459.1 bt459.2).bind fun t463 => (if t463 = true then ((laws_toStringS.f k x2).bind fun t464 => ((laws_eqStringS.f k x11 t464).bind fun t467 => (if t467 = true then ((laws_markDisk.f k x449000 x449001 1).bind fun bt468 => ((laws_markStringS.f k x11 bt468.1).bind fun bt470 => (if bt470.1 < 0 then (laws_FnExactJournalAdd.j1 k x1 x2 x9 true x429000 x429001 x444000 x444001 x458000 x458001) else ((laws_eqDisk.f k x458000 x458001 x444000 x444001).bind fun t472 => (if t472 = true then (laws_FnExactJournalAdd.j1 k x1 x2 x9 (x13 != x9) x429000 x429001 x444000 x444001 x458000 x458001) else (laws_FnExactJournalAdd.j1 k x1 x2 x9 true x429000 x429001 x444000 x444001 x458000 x458001)))))) else (some false)))) else (some false))))
def laws_FnExactJournalAdd.j1 : Nat → Int → List ByteArray → Int → Bool → Int → List (S164) → Int → List (S134) → Int → List (S134) → Option (Bool)
 | 0, _, _, _, _, _, _, _, _, _, _ => none
 | k + 1, x1, x2, x9, x86, x429000, x429001, x444000, x444001, x458000, x458001 => if x86 = true then (some false) else ((laws_markDisk.f k x458000 x458001 1).bind fun bt473 => ((laws_heldDisk.f k x458000 bt473.2 1).bind fun t475 => (if t475 < 0 then (some false) else (if t475 = bt473.1 then ((laws_toDisk.f k x429000 x429001).bind fun bt476 => ((laws_toStringS.f k x2).bind fun t480 => ((impl_JournalAdd.f k bt476.1 bt476.2 x1 t480).bind fun bt483 => ((laws_eqDisk.f k bt483.1 bt483.2.1 x444000 x444001).bind fun t489 => (if t489 = true then (laws_FnExactJournalAdd.j2 k bt473.1 (bt483.2.2 != x9) x458000 bt473.2) else (laws_FnExactJournalAdd.j2 k bt473.1 true x458000 bt473.2)))))) else (some false)))))
def laws_FnExactJournalAdd.j2 : Nat → Int → Bool → Int → List (S134) → Option (Bool)
 | 0, _, _, _, _ => none
 | k + 1, x15, x115, x458000, x458001 => if x115 = true then (some false) else ((laws_heldDisk.f k x458000 x458001 1).bind fun t490 => (if t490 < 0 then (some false) else (if t490 = x15 then (some true) else (some false))))
end
def laws_FnExactJournalAdd.f (k : Nat) (a0_0 : Int) (l0_1 : List (S164)) (a1 : Int) (l2 : List ByteArray) : Option (Bool) := (laws_szDisk.f k a0_0 l0_1 1048576).bind fun t429 => (if t429 < 0 then (some true) else ((laws_szStringS.f k l2 t429).bind fun t430 => (if t430 < 0 then (some true) else ((laws_toDisk.f k a0_0 l0_1).bind fun bt431 => ((laws_toStringS.f k l2).bind fun t435 => ((spec_JournalAdd.f k bt431.1 bt431.2 a1 t435).bind fun bt438 => ((laws_toDisk.f k a0_0 l0_1).bind fun bt444 => ((laws_toStringS.f k l2).bind fun t449 => ((impl_JournalAdd.f k bt444.1 bt444.2 a1 t449).bind fun bt452 => ((laws_eqDisk.f k bt452.1 bt452.2.1 bt438.1 bt438.2.1).bind fun t458 => (if t458 = true then (laws_FnExactJournalAdd.j0 k a1 l2 bt438.2.2 t449 bt452.2.2 (bt452.2.2 != bt438.2.2) a0_0 l0_1 bt438.1 bt438.2.1 bt444.1 bt444.2 bt452.1 bt452.2.1) else (laws_FnExactJournalAdd.j0 k a1 l2 bt438.2.2 t449 bt452.2.2 true a0_0 l0_1 bt438.1 bt438.2.1 bt444.1 bt444.2 bt452.1 bt452.2.1))))))))))))
set_option maxRecDepth 100000 in
theorem laws_FnExactJournalAdd.mono_l : ∀ k, (∀ y0 y1 y2 y3 y4 y5 y6 y7 y8 y9 y10 y11 y12 y13, LeO (laws_FnExactJournalAdd.j0 k y0 y1 y2 y3 y4 y5 y6 y7 y8 y9 y10 y11 y12 y13) (laws_FnExactJournalAdd.j0 (k + 1) y0 y1 y2 y3 y4 y5 y6 y7 y8 y9 y10 y11 y12 y13)) ∧ (∀ y0 y1 y2 y3 y4 y5 y6 y7 y8 y9, LeO (laws_FnExactJournalAdd.j1 k y0 y1 y2 y3 y4 y5 y6 y7 y8 y9) (laws_FnExactJournalAdd.j1 (k + 1) y0 y1 y2 y3 y4 y5 y6 y7 y8 y9)) ∧ (∀ y0 y1 y2 y3, LeO (laws_FnExactJournalAdd.j2 k y0 y1 y2 y3) (laws_FnExactJournalAdd.j2 (k + 1) y0 y1 y2 y3))
 | 0 => ⟨fun _ _ _ _ _ _ _ _ _ _ _ _ _ _ r h => by simp [laws_FnExactJournalAdd.j0] at h, fun _ _ _ _ _ _ _ _ _ _ r h => by simp [laws_FnExactJournalAdd.j1] at h, fun _ _ _ _ r h => by simp [laws_FnExactJournalAdd.j2] at h⟩
 | k + 1 => by
  obtain ⟨ih0, ih1, ih2⟩ := laws_FnExactJournalAdd.mono_l k
  refine ⟨?_, ?_, ?_⟩
  ·intro y0 y1 y2 y3 y4 y5 y6 y7 y8 y9 y10 y11 y12 y13
   unfold laws_FnExactJournalAdd.j0
   repeat' first
   | (with_reducible exact ih0 _ _ _ _ _ _ _ _ _ _ _ _ _ _)
   | (with_reducible exact ih1 _ _ _ _ _ _ _ _ _ _)
   | (with_reducible exact ih2 _ _ _ _)
   | (with_reducible exact impl_JournalAdd.mono _ _ _ _ _)
   | (with_reducible exact laws_eqDisk.mono _ _ _ _ _)
   | (with_reducible exact laws_eqStringS.mono _ _ _)
   | (with_reducible exact laws_heldDisk.mono _ _ _ _)
   | (with_reducible exact laws_markDisk.mono _ _ _ _)
   | (with_reducible exact laws_markStringS.mono _ _ _)
   | (with_reducible exact laws_szDisk.mono _ _ _ _)
   | (with_reducible exact laws_szStringS.mono _ _ _)
   | (with_reducible exact laws_toDisk.mono _ _ _)
   | (with_reducible exact laws_toStringS.mono _ _)
   | (with_reducible exact spec_JournalAdd.mono _ _ _ _ _)
   | (with_reducible exact LeO.refl _)
   | (with_reducible exact LeO.none _)
   | (with_reducible refine LeO.ite ?_ ?_)
   | (with_reducible refine LeO.bind ?_ (fun _ => ?_))
   | exact ih0 _ _ _ _ _ _ _ _ _ _ _ _ _ _
   | exact ih1 _ _ _ _ _ _ _ _ _ _
   | exact ih2 _ _ _ _
   | exact impl_JournalAdd.mono _ _ _ _ _
   | exact laws_eqDisk.mono _ _ _ _ _
   | exact laws_eqStringS.mono _ _ _
   | exact laws_heldDisk.mono _ _ _ _
   | exact laws_markDisk.mono _ _ _ _
   | exact laws_markStringS.mono _ _ _
   | exact laws_szDisk.mono _ _ _ _
   | exact laws_szStringS.mono _ _ _
   | exact laws_toDisk.mono _ _ _
   | exact laws_toStringS.mono _ _
   | exact spec_JournalAdd.mono _ _ _ _ _
   | exact LeO.none _
   | refine LeO.ite ?_ ?_
   | refine LeO.bind ?_ (fun _ => ?_)
  ·intro y0 y1 y2 y3 y4 y5 y6 y7 y8 y9
   unfold laws_FnExactJournalAdd.j1
   repeat' first
   | (with_reducible exact ih0 _ _ _ _ _ _ _ _ _ _ _ _ _ _)
   | (with_reducible exact ih1 _ _ _ _ _ _ _ _ _ _)
   | (with_reducible exact ih2 _ _ _ _)
   | (with_reducible exact impl_JournalAdd.mono _ _ _ _ _)
   | (with_reducible exact laws_eqDisk.mono _ _ _ _ _)
   | (with_reducible exact laws_eqStringS.mono _ _ _)
   | (with_reducible exact laws_heldDisk.mono _ _ _ _)
   | (with_reducible exact laws_markDisk.mono _ _ _ _)
   | (with_reducible exact laws_markStringS.mono _ _ _)
   | (with_reducible exact laws_szDisk.mono _ _ _ _)
   | (with_reducible exact laws_szStringS.mono _ _ _)
   | (with_reducible exact laws_toDisk.mono _ _ _)
   | (with_reducible exact laws_toStringS.mono _ _)
   | (with_reducible exact spec_JournalAdd.mono _ _ _ _ _)
   | (with_reducible exact LeO.refl _)
   | (with_reducible exact LeO.none _)
   | (with_reducible refine LeO.ite ?_ ?_)
   | (with_reducible refine LeO.bind ?_ (fun _ => ?_))
   | exact ih0 _ _ _ _ _ _ _ _ _ _ _ _ _ _
   | exact ih1 _ _ _ _ _ _ _ _ _ _
   | exact ih2 _ _ _ _
   | exact impl_JournalAdd.mono _ _ _ _ _
   | exact laws_eqDisk.mono _ _ _ _ _
   | exact laws_eqStringS.mono _ _ _
   | exact laws_heldDisk.mono _ _ _ _
   | exact laws_markDisk.mono _ _ _ _
   | exact laws_markStringS.mono _ _ _
   | exact laws_szDisk.mono _ _ _ _
   | exact laws_szStringS.mono _ _ _
   | exact laws_toDisk.mono _ _ _
   | exact laws_toStringS.mono _ _
   | exact spec_JournalAdd.mono _ _ _ _ _
   | exact LeO.none _
   | refine LeO.ite ?_ ?_
   | refine LeO.bind ?_ (fun _ => ?_)
  ·intro y0 y1 y2 y3
   unfold laws_FnExactJournalAdd.j2
   repeat' first
   | (with_reducible exact ih0 _ _ _ _ _ _ _ _ _ _ _ _ _ _)
   | (with_reducible exact ih1 _ _ _ _ _ _ _ _ _ _)
   | (with_reducible exact ih2 _ _ _ _)
   | (with_reducible exact impl_JournalAdd.mono _ _ _ _ _)
   | (with_reducible exact laws_eqDisk.mono _ _ _ _ _)
   | (with_reducible exact laws_eqStringS.mono _ _ _)
   | (with_reducible exact laws_heldDisk.mono _ _ _ _)
   | (with_reducible exact laws_markDisk.mono _ _ _ _)
   | (with_reducible exact laws_markStringS.mono _ _ _)
   | (with_reducible exact laws_szDisk.mono _ _ _ _)
   | (with_reducible exact laws_szStringS.mono _ _ _)
   | (with_reducible exact laws_toDisk.mono _ _ _)
   | (with_reducible exact laws_toStringS.mono _ _)
   | (with_reducible exact spec_JournalAdd.mono _ _ _ _ _)
   | (with_reducible exact LeO.refl _)
   | (with_reducible exact LeO.none _)
   | (with_reducible refine LeO.ite ?_ ?_)
   | (with_reducible refine LeO.bind ?_ (fun _ => ?_))
   | exact ih0 _ _ _ _ _ _ _ _ _ _ _ _ _ _
   | exact ih1 _ _ _ _ _ _ _ _ _ _
   | exact ih2 _ _ _ _
   | exact impl_JournalAdd.mono _ _ _ _ _
   | exact laws_eqDisk.mono _ _ _ _ _
   | exact laws_eqStringS.mono _ _ _
   | exact laws_heldDisk.mono _ _ _ _
   | exact laws_markDisk.mono _ _ _ _
   | exact laws_markStringS.mono _ _ _
   | exact laws_szDisk.mono _ _ _ _
   | exact laws_szStringS.mono _ _ _
   | exact laws_toDisk.mono _ _ _
   | exact laws_toStringS.mono _ _
   | exact spec_JournalAdd.mono _ _ _ _ _
   | exact LeO.none _
   | refine LeO.ite ?_ ?_
   | refine LeO.bind ?_ (fun _ => ?_)
theorem laws_FnExactJournalAdd.mono : ∀ a0 a1 a2 a3 k, LeO (laws_FnExactJournalAdd.f k a0 a1 a2 a3) (laws_FnExactJournalAdd.f (k + 1) a0 a1 a2 a3) := by
 intro a0 a1 a2 a3 k
 obtain ⟨ih0, ih1, ih2⟩ := laws_FnExactJournalAdd.mono_l k
 unfold laws_FnExactJournalAdd.f
 repeat' first
  | (with_reducible exact ih0 _ _ _ _ _ _ _ _ _ _ _ _ _ _)
  | (with_reducible exact ih1 _ _ _ _ _ _ _ _ _ _)
  | (with_reducible exact ih2 _ _ _ _)
  | (with_reducible exact impl_JournalAdd.mono _ _ _ _ _)
  | (with_reducible exact laws_eqDisk.mono _ _ _ _ _)
  | (with_reducible exact laws_eqStringS.mono _ _ _)
  | (with_reducible exact laws_heldDisk.mono _ _ _ _)
  | (with_reducible exact laws_markDisk.mono _ _ _ _)
  | (with_reducible exact laws_markStringS.mono _ _ _)
  | (with_reducible exact laws_szDisk.mono _ _ _ _)
  | (with_reducible exact laws_szStringS.mono _ _ _)
  | (with_reducible exact laws_toDisk.mono _ _ _)
  | (with_reducible exact laws_toStringS.mono _ _)
  | (with_reducible exact spec_JournalAdd.mono _ _ _ _ _)
  | (with_reducible exact LeO.refl _)
  | (with_reducible exact LeO.none _)
  | (with_reducible refine LeO.ite ?_ ?_)
  | (with_reducible refine LeO.bind ?_ (fun _ => ?_))
  | exact ih0 _ _ _ _ _ _ _ _ _ _ _ _ _ _
  | exact ih1 _ _ _ _ _ _ _ _ _ _
  | exact ih2 _ _ _ _
  | exact impl_JournalAdd.mono _ _ _ _ _
  | exact laws_eqDisk.mono _ _ _ _ _
  | exact laws_eqStringS.mono _ _ _
  | exact laws_heldDisk.mono _ _ _ _
  | exact laws_markDisk.mono _ _ _ _
  | exact laws_markStringS.mono _ _ _
  | exact laws_szDisk.mono _ _ _ _
  | exact laws_szStringS.mono _ _ _
  | exact laws_toDisk.mono _ _ _
  | exact laws_toStringS.mono _ _
  | exact spec_JournalAdd.mono _ _ _ _ _
  | exact LeO.none _
  | refine LeO.ite ?_ ?_
  | refine LeO.bind ?_ (fun _ => ?_)
set_option maxHeartbeats 8000000 in
set_option maxRecDepth 100000 in
theorem laws_FnExactJournalAdd.calls (k : Nat) (a0_0 : Int) (A0_1 : Option Addr) (c0_1 : Nat) (l0_1 : List (S164)) (a1 : Int) (A2 : Option Addr) (c2 : Nat) (l2 : List ByteArray) (r : Bool) (w : World) (hr0_1 : Kd.C k164 w A0_1 l0_1.length l0_1) (hc0_1 : l0_1.length ≤ c0_1) (hr2 : Kd.C Kd.string w A2 l2.length l2) (hc2 : l2.length ≤ c2) (h : laws_FnExactJournalAdd.f k a0_0 l0_1 a1 l2 = some r) :
 Calls Try.prog 12 #[.agg #[.int .i64 a0_0, .slice A0_1 l0_1.length c0_1], .int .i64 a1, .slice A2 l2.length c2] w fun e w' => e = .returned (.bool r) ∧ Below w.heap.size w w' := by
 have hu66 := Try.underlying66
 have hu70 := Try.underlying70
 have HR0_1 := aM hr0_1
 have HC0_1 := aM hc0_1
 clear hr0_1 hc0_1
 have HR2 := aM hr2
 have HC2 := aM hc2
 clear hr2 hc2
 have HB := aM (Below.refl w.heap.size w)
 have H : ((laws_szDisk.f k a0_0 l0_1 1048576).bind fun t429 => (if t429 < 0 then (some true) else ((laws_szStringS.f k l2 t429).bind fun t430 => (if t430 < 0 then (some true) else ((laws_toDisk.f k a0_0 l0_1).bind fun bt431 => ((laws_toStringS.f k l2).bind fun t435 => ((spec_JournalAdd.f k bt431.1 bt431.2 a1 t435).bind fun bt438 => ((laws_toDisk.f k a0_0 l0_1).bind fun bt444 => ((laws_toStringS.f k l2).bind fun t449 => ((impl_JournalAdd.f k bt444.1 bt444.2 a1 t449).bind fun bt452 => ((laws_eqDisk.f k bt452.1 bt452.2.1 bt438.1 bt438.2.1).bind fun t458 => (if t458 = true then (laws_FnExactJournalAdd.j0 k a1 l2 bt438.2.2 t449 bt452.2.2 (bt452.2.2 != bt438.2.2) a0_0 l0_1 bt438.1 bt438.2.1 bt444.1 bt444.2 bt452.1 bt452.2.1) else (laws_FnExactJournalAdd.j0 k a1 l2 bt438.2.2 t449 bt452.2.2 true a0_0 l0_1 bt438.1 bt438.2.1 bt444.1 bt444.2 bt452.1 bt452.2.1))))))))))))) = some r := h
 clear h
 replace H := Option.bind_eq_some_iff.mp H
 obtain ⟨t429, A40, H⟩ := H
 replace H : (if t429 < 0 then (some true) else ((laws_szStringS.f k l2 t429).bind fun t430 => (if t430 < 0 then (some true) else ((laws_toDisk.f k a0_0 l0_1).bind fun bt431 => ((laws_toStringS.f k l2).bind fun t435 => ((spec_JournalAdd.f k bt431.1 bt431.2 a1 t435).bind fun bt438 => ((laws_toDisk.f k a0_0 l0_1).bind fun bt444 => ((laws_toStringS.f k l2).bind fun t449 => ((impl_JournalAdd.f k bt444.1 bt444.2 a1 t449).bind fun bt452 => ((laws_eqDisk.f k bt452.1 bt452.2.1 bt438.1 bt438.2.1).bind fun t458 => (if t458 = true then (laws_FnExactJournalAdd.j0 k a1 l2 bt438.2.2 t449 bt452.2.2 (bt452.2.2 != bt438.2.2) a0_0 l0_1 bt438.1 bt438.2.1 bt444.1 bt444.2 bt452.1 bt452.2.1) else (laws_FnExactJournalAdd.j0 k a1 l2 bt438.2.2 t449 bt452.2.2 true a0_0 l0_1 bt438.1 bt438.2.1 bt444.1 bt444.2 bt452.1 bt452.2.1)))))))))))) = some r := H
 have A4 := aM A40
 clear A40
 by_cases c5 : t429 < 0
 ·rw [if_pos c5] at H
  have c5b0 : decide (t429 < 0) = true := decide_eq_true c5; clear c5
  obtain rfl := Option.some.inj H
  go_enter Try.func12, Try.ntmps12
  go_wp2_with (first | ((with_reducible refine gate_dst (N := 3) rfl ?_); refine box_event ?hg (N := 3) ?hd (cs := #[.int .i64 a0_0, .slice A0_1 l0_1.length c0_1]) (t := 66) ?hr ?_; (case hd => rfl); (case hg => rfl); (case hr => first | (go_simp; done) | (go_simp; rfl)); intro gb428 hg w6 hbox hb; have BK428 := aM (hbox); have GW428 := aM (xge hg); have GE428 := aM (xge hg); replace HB := xbs hb; clear hb hbox hg; have hcz7_0 : w6.cell? ⟨gb428, 0, none⟩ = some (.int .i64 a0_0) := xc BK428 0 rfl; have hcz7_1 : w6.cell? ⟨gb428, 1, none⟩ = some (.slice A0_1 l0_1.length c0_1) := xc BK428 1 rfl; have hfz7_0 := blk_frozen BK428.out 0; have hfz7_1 := blk_frozen BK428.out 1) | ((with_reducible refine gate_callee (f := 37) rfl ?_); refine goesL_ (some 21) rfl rfl Try.func37 (by kernel_rfl) rfl #[.agg #[.int .i64 a0_0, .slice A0_1 l0_1.length c0_1], .int .i64 1048576] rfl (by (try simp only [List.map_toArray, List.map_cons, List.map_nil]); first | done | rfl | (simp only [List.length_drop, List.length_take]; rfl)) ?_; (with_reducible refine (laws_szDisk.calls k a0_0 _ _ l0_1 1048576 t429 _ ?side1 ?side2 A4.out).mono ?_); (case side1 => exact xcb HR0_1); (case side2 => exact HC0_1.out); rintro e w8 ⟨rfl, hb⟩; refine ⟨_, rfl, ?_⟩; replace BK428 := xbb BK428 hb; replace HB := xbs hb; (try clear hb); (try clear hb2); (try clear hk); (try clear hi)))
  go_ret
  exact ⟨by first | rfl | (simp [errW_none, errW_some] <;> rfl) | (simp [*, errW_none, errW_some] <;> rfl), xbg⟩
 ·rw [if_neg c5] at H
  have c5b0 : decide (t429 < 0) = false := decide_eq_false c5; clear c5; replace H := Option.bind_eq_some_iff.mp H
  obtain ⟨t430, A90, H⟩ := H
  replace H : (if t430 < 0 then (some true) else ((laws_toDisk.f k a0_0 l0_1).bind fun bt431 => ((laws_toStringS.f k l2).bind fun t435 => ((spec_JournalAdd.f k bt431.1 bt431.2 a1 t435).bind fun bt438 => ((laws_toDisk.f k a0_0 l0_1).bind fun bt444 => ((laws_toStringS.f k l2).bind fun t449 => ((impl_JournalAdd.f k bt444.1 bt444.2 a1 t449).bind fun bt452 => ((laws_eqDisk.f k bt452.1 bt452.2.1 bt438.1 bt438.2.1).bind fun t458 => (if t458 = true then (laws_FnExactJournalAdd.j0 k a1 l2 bt438.2.2 t449 bt452.2.2 (bt452.2.2 != bt438.2.2) a0_0 l0_1 bt438.1 bt438.2.1 bt444.1 bt444.2 bt452.1 bt452.2.1) else (laws_FnExactJournalAdd.j0 k a1 l2 bt438.2.2 t449 bt452.2.2 true a0_0 l0_1 bt438.1 bt438.2.1 bt444.1 bt444.2 bt452.1 bt452.2.1)))))))))) = some r := H; have A9 := aM A90; clear A90
  by_cases c10 : t430 < 0
  ·rw [if_pos c10] at H
   have c10b0 : decide (t430 < 0) = true := decide_eq_true c10; clear c10
   obtain rfl := Option.some.inj H
   go_enter Try.func12, Try.ntmps12
   go_wp2_with (first | ((with_reducible refine gate_dst (N := 3) rfl ?_); refine box_event ?hg (N := 3) ?hd (cs := #[.int .i64 a0_0, .slice A0_1 l0_1.length c0_1]) (t := 66) ?hr ?_; (case hd => rfl); (case hg => rfl); (case hr => first | (go_simp; done) | (go_simp; rfl)); intro gb428 hg w11 hbox hb; have BK428 := aM (hbox); have GW428 := aM (xge hg); have GE428 := aM (xge hg); replace HB := xbs hb; clear hb hbox hg; have hcz12_0 : w11.cell? ⟨gb428, 0, none⟩ = some (.int .i64 a0_0) := xc BK428 0 rfl; have hcz12_1 : w11.cell? ⟨gb428, 1, none⟩ = some (.slice A0_1 l0_1.length c0_1) := xc BK428 1 rfl; have hfz12_0 := blk_frozen BK428.out 0; have hfz12_1 := blk_frozen BK428.out 1) | ((with_reducible refine gate_callee (f := 37) rfl ?_); refine goesL_ (some 21) rfl rfl Try.func37 (by kernel_rfl) rfl #[.agg #[.int .i64 a0_0, .slice A0_1 l0_1.length c0_1], .int .i64 1048576] rfl (by (try simp only [List.map_toArray, List.map_cons, List.map_nil]); first | done | rfl | (simp only [List.length_drop, List.length_take]; rfl)) ?_; (with_reducible refine (laws_szDisk.calls k a0_0 _ _ l0_1 1048576 t429 _ ?side1 ?side2 A4.out).mono ?_); (case side1 => exact xcb HR0_1); (case side2 => exact HC0_1.out); rintro e w13 ⟨rfl, hb⟩; refine ⟨_, rfl, ?_⟩; replace BK428 := xbb BK428 hb; replace HB := xbs hb; (try clear hb); (try clear hb2); (try clear hk); (try clear hi)) | ((with_reducible refine gate_callee (f := 59) rfl ?_); refine goesL_ (some 26) rfl rfl Try.func59 (by kernel_rfl) rfl #[.slice A2 l2.length c2, .int .i64 t429] rfl (by (try simp only [List.map_toArray, List.map_cons, List.map_nil]); first | done | rfl | (simp only [List.length_drop, List.length_take]; rfl)) ?_; (with_reducible refine (laws_szStringS.calls k _ _ l2 t429 t430 _ ?side1 ?side2 A9.out).mono ?_); (case side1 => exact xcb HR2); (case side2 => exact HC2.out); rintro e w' ⟨rfl, ⟨nd, rfl⟩⟩; refine ⟨_, rfl, ?_⟩))
   go_ret
   exact ⟨by first | rfl | (simp [errW_none, errW_some] <;> rfl) | (simp [*, errW_none, errW_some] <;> rfl), xbg⟩
  ·rw [if_neg c10] at H
   have c10b0 : decide (t430 < 0) = false := decide_eq_false c10; clear c10; replace H := Option.bind_eq_some_iff.mp H
   obtain ⟨⟨t431, t432⟩, A140, H⟩ := H
   replace H : ((laws_toStringS.f k l2).bind fun t435 => ((spec_JournalAdd.f k t431 t432 a1 t435).bind fun bt438 => ((laws_toDisk.f k a0_0 l0_1).bind fun bt444 => ((laws_toStringS.f k l2).bind fun t449 => ((impl_JournalAdd.f k bt444.1 bt444.2 a1 t449).bind fun bt452 => ((laws_eqDisk.f k bt452.1 bt452.2.1 bt438.1 bt438.2.1).bind fun t458 => (if t458 = true then (laws_FnExactJournalAdd.j0 k a1 l2 bt438.2.2 t449 bt452.2.2 (bt452.2.2 != bt438.2.2) a0_0 l0_1 bt438.1 bt438.2.1 bt444.1 bt444.2 bt452.1 bt452.2.1) else (laws_FnExactJournalAdd.j0 k a1 l2 bt438.2.2 t449 bt452.2.2 true a0_0 l0_1 bt438.1 bt438.2.1 bt444.1 bt444.2 bt452.1 bt452.2.1)))))))) = some r := H; have A14 := aM A140; clear A140; replace H := Option.bind_eq_some_iff.mp H
   obtain ⟨t435, A150, H⟩ := H
   replace H : ((spec_JournalAdd.f k t431 t432 a1 t435).bind fun bt438 => ((laws_toDisk.f k a0_0 l0_1).bind fun bt444 => ((laws_toStringS.f k l2).bind fun t449 => ((impl_JournalAdd.f k bt444.1 bt444.2 a1 t449).bind fun bt452 => ((laws_eqDisk.f k bt452.1 bt452.2.1 bt438.1 bt438.2.1).bind fun t458 => (if t458 = true then (laws_FnExactJournalAdd.j0 k a1 l2 bt438.2.2 t449 bt452.2.2 (bt452.2.2 != bt438.2.2) a0_0 l0_1 bt438.1 bt438.2.1 bt444.1 bt444.2 bt452.1 bt452.2.1) else (laws_FnExactJournalAdd.j0 k a1 l2 bt438.2.2 t449 bt452.2.2 true a0_0 l0_1 bt438.1 bt438.2.1 bt444.1 bt444.2 bt452.1 bt452.2.1))))))) = some r := H; have A15 := aM A150; clear A150; replace H := Option.bind_eq_some_iff.mp H
   obtain ⟨⟨t438, t439, t442⟩, A160, H⟩ := H
   replace H : ((laws_toDisk.f k a0_0 l0_1).bind fun bt444 => ((laws_toStringS.f k l2).bind fun t449 => ((impl_JournalAdd.f k bt444.1 bt444.2 a1 t449).bind fun bt452 => ((laws_eqDisk.f k bt452.1 bt452.2.1 t438 t439).bind fun t458 => (if t458 = true then (laws_FnExactJournalAdd.j0 k a1 l2 t442 t449 bt452.2.2 (bt452.2.2 != t442) a0_0 l0_1 t438 t439 bt444.1 bt444.2 bt452.1 bt452.2.1) else (laws_FnExactJournalAdd.j0 k a1 l2 t442 t449 bt452.2.2 true a0_0 l0_1 t438 t439 bt444.1 bt444.2 bt452.1 bt452.2.1)))))) = some r := H; have A16 := aM A160; clear A160; replace H := Option.bind_eq_some_iff.mp H
   obtain ⟨⟨t444, t445⟩, A170, H⟩ := H
   replace H : ((laws_toStringS.f k l2).bind fun t449 => ((impl_JournalAdd.f k t444 t445 a1 t449).bind fun bt452 => ((laws_eqDisk.f k bt452.1 bt452.2.1 t438 t439).bind fun t458 => (if t458 = true then (laws_FnExactJournalAdd.j0 k a1 l2 t442 t449 bt452.2.2 (bt452.2.2 != t442) a0_0 l0_1 t438 t439 t444 t445 bt452.1 bt452.2.1) else (laws_FnExactJournalAdd.j0 k a1 l2 t442 t449 bt452.2.2 true a0_0 l0_1 t438 t439 t444 t445 bt452.1 bt452.2.1))))) = some r := H; have A17 := aM A170; clear A170; replace H := Option.bind_eq_some_iff.mp H
   obtain ⟨t449, A180, H⟩ := H
   replace H : ((impl_JournalAdd.f k t444 t445 a1 t449).bind fun bt452 => ((laws_eqDisk.f k bt452.1 bt452.2.1 t438 t439).bind fun t458 => (if t458 = true then (laws_FnExactJournalAdd.j0 k a1 l2 t442 t449 bt452.2.2 (bt452.2.2 != t442) a0_0 l0_1 t438 t439 t444 t445 bt452.1 bt452.2.1) else (laws_FnExactJournalAdd.j0 k a1 l2 t442 t449 bt452.2.2 true a0_0 l0_1 t438 t439 t444 t445 bt452.1 bt452.2.1)))) = some r := H; have A18 := aM A180; clear A180; replace H := Option.bind_eq_some_iff.mp H
   obtain ⟨⟨t452, t453, t456⟩, A190, H⟩ := H
   replace H : ((laws_eqDisk.f k t452 t453 t438 t439).bind fun t458 => (if t458 = true then (laws_FnExactJournalAdd.j0 k a1 l2 t442 t449 t456 (t456 != t442) a0_0 l0_1 t438 t439 t444 t445 t452 t453) else (laws_FnExactJournalAdd.j0 k a1 l2 t442 t449 t456 true a0_0 l0_1 t438 t439 t444 t445 t452 t453))) = some r := H; have A19 := aM A190; clear A190; have HC20 := aM H; clear H
   go_enter Try.func12, Try.ntmps12
   go_upto_region 12 with (first | ((with_reducible refine gate_dst (N := 3) rfl ?_); refine box_event ?hg (N := 3) ?hd (cs := #[.int .i64 a0_0, .slice A0_1 l0_1.length c0_1]) (t := 66) ?hr ?_; (case hd => rfl); (case hg => rfl); (case hr => first | (go_simp; done) | (go_simp; rfl)); intro gb428 hg w21 hbox hb; have BK428 := aM (hbox); have GW428 := aM (xge hg); have GE428 := aM (xge hg); replace HB := xbs hb; clear hb hbox hg; have hcz22_0 : w21.cell? ⟨gb428, 0, none⟩ = some (.int .i64 a0_0) := xc BK428 0 rfl; have hcz22_1 : w21.cell? ⟨gb428, 1, none⟩ = some (.slice A0_1 l0_1.length c0_1) := xc BK428 1 rfl; have hfz22_0 := blk_frozen BK428.out 0; have hfz22_1 := blk_frozen BK428.out 1) | ((with_reducible refine gate_callee (f := 37) rfl ?_); refine goesL_ (some 21) rfl rfl Try.func37 (by kernel_rfl) rfl #[.agg #[.int .i64 a0_0, .slice A0_1 l0_1.length c0_1], .int .i64 1048576] rfl (by (try simp only [List.map_toArray, List.map_cons, List.map_nil]); first | done | rfl | (simp only [List.length_drop, List.length_take]; rfl)) ?_; (with_reducible refine (laws_szDisk.calls k a0_0 _ _ l0_1 1048576 t429 _ ?side1 ?side2 A4.out).mono ?_); (case side1 => exact xcb HR0_1); (case side2 => exact HC0_1.out); rintro e w23 ⟨rfl, hb⟩; refine ⟨_, rfl, ?_⟩; replace BK428 := xbb BK428 hb; replace HB := xbs hb; (try clear hb); (try clear hb2); (try clear hk); (try clear hi)) | ((with_reducible refine gate_callee (f := 59) rfl ?_); refine goesL_ (some 26) rfl rfl Try.func59 (by kernel_rfl) rfl #[.slice A2 l2.length c2, .int .i64 t429] rfl (by (try simp only [List.map_toArray, List.map_cons, List.map_nil]); first | done | rfl | (simp only [List.length_drop, List.length_take]; rfl)) ?_; (with_reducible refine (laws_szStringS.calls k _ _ l2 t429 t430 _ ?side1 ?side2 A9.out).mono ?_); (case side1 => exact xcb HR2); (case side2 => exact HC2.out); rintro e w' ⟨rfl, ⟨nd, rfl⟩⟩; refine ⟨_, rfl, ?_⟩; (try ((repeat rw [World.drewN_drewN]); rw [drewN_self w23]; generalize hq_ : World.drewN w23 _ = w23; have n0_ := aM (blk_at hq_ BK428.out); have n1_ := aM (below_at hq_ HB.out); clear hq_ BK428 HB; have BK428 := n0_; have HB := n1_; clear n0_ n1_)); have hcz24_0 : w23.cell? ⟨gb428, 0, none⟩ = some (.int .i64 a0_0) := xc BK428 0 rfl; have hcz24_1 : w23.cell? ⟨gb428, 1, none⟩ = some (.slice A0_1 l0_1.length c0_1) := xc BK428 1 rfl; have hfz24_0 := blk_frozen BK428.out 0; have hfz24_1 := blk_frozen BK428.out 1) | ((with_reducible refine gate_callee (f := 39) rfl ?_); refine goesL_ (some 31) rfl rfl Try.func39 (by kernel_rfl) rfl #[.agg #[.int .i64 a0_0, .slice A0_1 l0_1.length c0_1]] rfl (by (try simp only [List.map_toArray, List.map_cons, List.map_nil]); first | done | rfl | (simp only [List.length_drop, List.length_take]; rfl)) ?_; (with_reducible refine (laws_toDisk.calls k a0_0 _ _ l0_1 t431 t432 _ ?side1 ?side2 A14.out).mono ?_); (case side1 => exact xcb HR0_1); (case side2 => exact HC0_1.out); rintro e w25 ⟨v433, rfl, ho0, hb⟩; refine ⟨_, rfl, ?_⟩; have HO434 := aM (Kd.R_lower ho0 (below_size xbg)); replace BK428 := xbb BK428 hb; replace HB := xbs hb; (try clear hb); (try clear hb2); (try clear hk); (try clear hi); (try clear ho0)) | ((with_reducible refine gate_callee (f := 61) rfl ?_); refine goesL_ (some 34) rfl rfl Try.func61 (by kernel_rfl) rfl #[.slice A2 l2.length c2] rfl (by (try simp only [List.map_toArray, List.map_cons, List.map_nil]); first | done | rfl | (simp only [List.length_drop, List.length_take]; rfl)) ?_; (with_reducible refine (laws_toStringS.calls k _ _ l2 t435 _ ?side1 ?side2 A15.out).mono ?_); (case side1 => exact xcb HR2); (case side2 => exact HC2.out); rintro e w26 ⟨v436, rfl, ho0, hb⟩; refine ⟨_, rfl, ?_⟩; replace HO434 := aM (Kd.R_below (xr HO434) hb); have HO437 := aM (Kd.R_lower ho0 (below_size xbg)); replace BK428 := xbb BK428 hb; replace HB := xbs hb; (try clear hb); (try clear hb2); (try clear hk); (try clear hi); (try clear ho0); obtain ⟨Ao27, co27, eo27⟩ := Kd.R_slice HO434.out; subst eo27; obtain ⟨Ao28, co28, eo28⟩ := Kd.R_slice HO437.out; subst eo28) | ((with_reducible refine gate_callee (f := 65) rfl ?_); refine goesL_ (some 35) rfl rfl Try.func65 (by kernel_rfl) rfl #[.agg #[.int .i64 t431, .slice Ao27 t432.length co27], .int .i64 a1, .slice Ao28 t435.length co28] rfl (by (try simp only [List.map_toArray, List.map_cons, List.map_nil]); first | done | rfl | (simp only [List.length_drop, List.length_take]; rfl)) ?_; (with_reducible refine (spec_JournalAdd.calls k t431 _ _ t432 a1 _ _ t435 t438 t439 t442 _ ?side1 ?side2 ?side3 ?side4 A16.out).mono ?_); (case side1 => repeat (first | exact (Kd.R_reads' HO434.out).2.2 | (with_reducible refine Kd.C_alloc ?_ _) | (with_reducible refine Kd.C_drewN ?_ _) | (with_reducible refine Kd.C_drew ?_))); (case side2 => exact (Kd.R_reads' HO434.out).2.1); (case side3 => repeat (first | exact (Kd.R_reads' HO437.out).2.2 | (with_reducible refine Kd.C_alloc ?_ _) | (with_reducible refine Kd.C_drewN ?_ _) | (with_reducible refine Kd.C_drew ?_))); (case side4 => exact (Kd.R_reads' HO437.out).2.1); rintro e w29 ⟨v440, rfl, ho0, hb⟩; refine ⟨_, rfl, ?_⟩; replace HO437 := aM (Kd.R_below (xr HO437) hb); have HO441 := aM (Kd.R_lower (Kd.R_new' ho0 (Kd.R_lt (xr HO434))) (below_size xbg)); replace HO434 := aM (Kd.R_elder' (xr HO434) (Kd.R_base ho0) hb); replace BK428 := xbb BK428 hb; replace HB := xbs hb; (try clear hb); (try clear hb2); (try clear hk); (try clear hi); (try clear ho0)) | ((with_reducible refine gate_dst (N := 8) rfl ?_); refine box_event ?hg (N := 8) ?hd (cs := #[.int .i64 0, .slice none 0 0]) (t := 70) ?hr ?_; (case hd => rfl); (case hg => rfl); (case hr => first | (go_simp; done) | (go_simp; rfl)); intro gb443 hg w30 hbox hb; replace HO434 := aM (Kd.R_below (xr HO434) hb); replace HO437 := aM (Kd.R_below (xr HO437) hb); replace HO441 := aM (Kd.R_below (xr HO441) hb); have GW443 := aM (xge hg); have GE443 := aM (xge hg); replace HB := xbs hb; have NB428_443 := aM ((by rw [hg]; exact Nat.ne_of_lt (blk_lt (g := gb428) (o := .cells #[.int .i64 a0_0, .slice A0_1 l0_1.length c0_1] 66 (0, 0)) xblk) : gb428 ≠ gb443)); have NB443_428 := aM ((by rw [hg]; exact Nat.ne_of_gt (blk_lt (g := gb428) (o := .cells #[.int .i64 a0_0, .slice A0_1 l0_1.length c0_1] 66 (0, 0)) xblk) : gb443 ≠ gb428)); replace BK428 := xbb BK428 hb; have BK443 := aM (hbox); clear hb hbox hg; have hnb31 := NB443_428.out; have hnc31 := NB428_443.out; have hcz32_0 : w30.cell? ⟨gb443, 0, none⟩ = some (.int .i64 0) := xc BK443 0 rfl; have hcz32_1 : w30.cell? ⟨gb443, 1, none⟩ = some (.slice none 0 0) := xc BK443 1 rfl; have hfz32_0 := blk_frozen BK443.out 0; have hfz32_1 := blk_frozen BK443.out 1; obtain ⟨Ao33, co33, eo33⟩ := Kd.R_slice HO441.out; subst eo33; have hcz34_0 : w30.cell? ⟨gb428, 0, none⟩ = some (.int .i64 a0_0) := xc BK428 0 rfl; have hcz34_1 : w30.cell? ⟨gb428, 1, none⟩ = some (.slice A0_1 l0_1.length c0_1) := xc BK428 1 rfl; have hfz34_0 := blk_frozen BK428.out 0; have hfz34_1 := blk_frozen BK428.out 1) | ((with_reducible refine gate_callee (f := 39) rfl ?_); refine goesL_ (some 39) rfl rfl Try.func39 (by kernel_rfl) rfl #[.agg #[.int .i64 a0_0, .slice A0_1 l0_1.length c0_1]] rfl (by (try simp only [List.map_toArray, List.map_cons, List.map_nil]); first | done | rfl | (simp only [List.length_drop, List.length_take]; rfl)) ?_; (with_reducible refine (laws_toDisk.calls k a0_0 _ _ l0_1 t444 t445 _ ?side1 ?side2 A17.out).mono ?_); (case side1 => exact Kd.C_below HR0_1.out xbg); (case side2 => exact HC0_1.out); rintro e w35 ⟨v446, rfl, ho0, hb⟩; refine ⟨_, rfl, ?_⟩; replace HO437 := aM (Kd.R_below (xrt (Kd.R_mono (Kd.R_far (p := ⟨gb443, 1, none⟩) (Kd.R_far (p := ⟨gb443, 0, none⟩) (Kd.R_types HO437.out BK443.out (by decide)) (fun _ hk => hk.2) (.int .i64 t438)) (fun _ hk => hk.2) (.slice Ao33 t439.length co33)) (fun _ h_ => h_.1))) hb); have HO447 := aM (Kd.R_lower (Kd.R_new' (Kd.R_new' ho0 (Kd.R_lt (xrt (Kd.R_mono (Kd.R_far (p := ⟨gb443, 1, none⟩) (Kd.R_far (p := ⟨gb443, 0, none⟩) (Kd.R_types HO434.out BK443.out (by decide)) (fun _ hk => hk.2) (.int .i64 t438)) (fun _ hk => hk.2) (.slice Ao33 t439.length co33)) (fun _ h_ => h_.1))))) (Kd.R_lt (xrt (Kd.R_mono (Kd.R_far (p := ⟨gb443, 1, none⟩) (Kd.R_far (p := ⟨gb443, 0, none⟩) (Kd.R_types HO441.out BK443.out (by decide)) (fun _ hk => hk.2) (.int .i64 t438)) (fun _ hk => hk.2) (.slice Ao33 t439.length co33)) (fun _ h_ => h_.1))))) (below_size xbg)); replace HO434 := aM (Kd.R_elder' (xrt (Kd.R_mono (Kd.R_far (p := ⟨gb443, 1, none⟩) (Kd.R_far (p := ⟨gb443, 0, none⟩) (Kd.R_types HO434.out BK443.out (by decide)) (fun _ hk => hk.2) (.int .i64 t438)) (fun _ hk => hk.2) (.slice Ao33 t439.length co33)) (fun _ h_ => h_.1))) (Kd.R_base ho0) hb); replace HO441 := aM (Kd.R_elder' (xrt (Kd.R_mono (Kd.R_far (p := ⟨gb443, 1, none⟩) (Kd.R_far (p := ⟨gb443, 0, none⟩) (Kd.R_types HO441.out BK443.out (by decide)) (fun _ hk => hk.2) (.int .i64 t438)) (fun _ hk => hk.2) (.slice Ao33 t439.length co33)) (fun _ h_ => h_.1))) (Kd.R_base ho0) hb); replace BK428 := aM (blk_below (g := gb428) (o := .cells #[.int .i64 a0_0, .slice A0_1 l0_1.length c0_1] 66 (0, 0)) (by (with_reducible repeat (first | refine blk_drewN ?_ _ | refine blk_drew ?_ | refine blk_alloc ?_ _)); refine blk_far ?_ NB428_443.out _; (with_reducible repeat (first | refine blk_drewN ?_ _ | refine blk_drew ?_ | refine blk_alloc ?_ _)); refine blk_far ?_ NB428_443.out _; (with_reducible repeat (first | refine blk_drewN ?_ _ | refine blk_drew ?_ | refine blk_alloc ?_ _)); exact BK428.out) hb); replace BK443 := aM (blk_below (g := gb443) (o := .cells #[.int .i64 t438, .slice Ao33 t439.length co33] 70 (0, 0)) (by (with_reducible repeat (first | refine blk_drewN ?_ _ | refine blk_drew ?_ | refine blk_alloc ?_ _)); refine blk_put (cs := #[.int .i64 t438, .slice none 0 0]) ?_ 1 _ rfl; (with_reducible repeat (first | refine blk_drewN ?_ _ | refine blk_drew ?_ | refine blk_alloc ?_ _)); refine blk_put (cs := #[.int .i64 0, .slice none 0 0]) ?_ 0 _ rfl; (with_reducible repeat (first | refine blk_drewN ?_ _ | refine blk_drew ?_ | refine blk_alloc ?_ _)); exact BK443.out) hb); replace HB := xbs hb; (try clear hb); (try clear hb2); (try clear hk); (try clear hi); (try clear ho0)) | ((with_reducible refine gate_dst (N := 10) rfl ?_); refine box_event ?hg (N := 10) ?hd (cs := #[.int .i64 0, .slice none 0 0]) (t := 70) ?hr ?_; (case hd => rfl); (case hg => rfl); (case hr => first | (go_simp; done) | (go_simp; rfl)); intro gb448 hg w36 hbox hb; replace HO434 := aM (Kd.R_below (xr HO434) hb); replace HO437 := aM (Kd.R_below (xr HO437) hb); replace HO441 := aM (Kd.R_below (xr HO441) hb); replace HO447 := aM (Kd.R_below (xr HO447) hb); have GW448 := aM (xge hg); have GE448 := aM (xge hg); replace HB := xbs hb; have NB428_448 := aM ((by rw [hg]; exact Nat.ne_of_lt (blk_lt (g := gb428) (o := .cells #[.int .i64 a0_0, .slice A0_1 l0_1.length c0_1] 66 (0, 0)) xblk) : gb428 ≠ gb448)); have NB448_428 := aM ((by rw [hg]; exact Nat.ne_of_gt (blk_lt (g := gb428) (o := .cells #[.int .i64 a0_0, .slice A0_1 l0_1.length c0_1] 66 (0, 0)) xblk) : gb448 ≠ gb428)); have NB443_448 := aM ((by rw [hg]; exact Nat.ne_of_lt (blk_lt (g := gb443) (o := .cells #[.int .i64 t438, .slice Ao33 t439.length co33] 70 (0, 0)) xblk) : gb443 ≠ gb448)); have NB448_443 := aM ((by rw [hg]; exact Nat.ne_of_gt (blk_lt (g := gb443) (o := .cells #[.int .i64 t438, .slice Ao33 t439.length co33] 70 (0, 0)) xblk) : gb448 ≠ gb443)); replace BK428 := xbb BK428 hb; replace BK443 := xbb BK443 hb; have BK448 := aM (hbox); clear hb hbox hg; have hnb37 := NB448_428.out; have hnc37 := NB428_448.out; have hnb38 := NB448_443.out; have hnc38 := NB443_448.out; have hcz39_0 : w36.cell? ⟨gb448, 0, none⟩ = some (.int .i64 0) := xc BK448 0 rfl; have hcz39_1 : w36.cell? ⟨gb448, 1, none⟩ = some (.slice none 0 0) := xc BK448 1 rfl; have hfz39_0 := blk_frozen BK448.out 0; have hfz39_1 := blk_frozen BK448.out 1; obtain ⟨Ao40, co40, eo40⟩ := Kd.R_slice HO447.out; subst eo40) | ((with_reducible refine gate_callee (f := 61) rfl ?_); refine goesL_ (some 41) rfl rfl Try.func61 (by kernel_rfl) rfl #[.slice A2 l2.length c2] rfl (by (try simp only [List.map_toArray, List.map_cons, List.map_nil]); first | done | rfl | (simp only [List.length_drop, List.length_take]; rfl)) ?_; (with_reducible refine (laws_toStringS.calls k _ _ l2 t449 _ ?side1 ?side2 A18.out).mono ?_); (case side1 => exact Kd.C_below HR2.out xbg); (case side2 => exact HC2.out); rintro e w41 ⟨v450, rfl, ho0, hb⟩; refine ⟨_, rfl, ?_⟩; replace HO434 := aM (Kd.R_below (xrt (Kd.R_mono (Kd.R_far (p := ⟨gb448, 1, none⟩) (Kd.R_far (p := ⟨gb448, 0, none⟩) (Kd.R_types HO434.out BK448.out (by decide)) (fun _ hk => hk.2) (.int .i64 t444)) (fun _ hk => hk.2) (.slice Ao40 t445.length co40)) (fun _ h_ => h_.1))) hb); replace HO441 := aM (Kd.R_below (xrt (Kd.R_mono (Kd.R_far (p := ⟨gb448, 1, none⟩) (Kd.R_far (p := ⟨gb448, 0, none⟩) (Kd.R_types HO441.out BK448.out (by decide)) (fun _ hk => hk.2) (.int .i64 t444)) (fun _ hk => hk.2) (.slice Ao40 t445.length co40)) (fun _ h_ => h_.1))) hb); replace HO447 := aM (Kd.R_below (xrt (Kd.R_mono (Kd.R_far (p := ⟨gb448, 1, none⟩) (Kd.R_far (p := ⟨gb448, 0, none⟩) (Kd.R_types HO447.out BK448.out (by decide)) (fun _ hk => hk.2) (.int .i64 t444)) (fun _ hk => hk.2) (.slice Ao40 t445.length co40)) (fun _ h_ => h_.1))) hb); have HO451 := aM (Kd.R_lower (Kd.R_new' ho0 (Kd.R_lt (xrt (Kd.R_mono (Kd.R_far (p := ⟨gb448, 1, none⟩) (Kd.R_far (p := ⟨gb448, 0, none⟩) (Kd.R_types HO437.out BK448.out (by decide)) (fun _ hk => hk.2) (.int .i64 t444)) (fun _ hk => hk.2) (.slice Ao40 t445.length co40)) (fun _ h_ => h_.1))))) (below_size xbg)); replace HO437 := aM (Kd.R_elder' (xrt (Kd.R_mono (Kd.R_far (p := ⟨gb448, 1, none⟩) (Kd.R_far (p := ⟨gb448, 0, none⟩) (Kd.R_types HO437.out BK448.out (by decide)) (fun _ hk => hk.2) (.int .i64 t444)) (fun _ hk => hk.2) (.slice Ao40 t445.length co40)) (fun _ h_ => h_.1))) (Kd.R_base ho0) hb); replace BK428 := aM (blk_below (g := gb428) (o := .cells #[.int .i64 a0_0, .slice A0_1 l0_1.length c0_1] 66 (0, 0)) (by (with_reducible repeat (first | refine blk_drewN ?_ _ | refine blk_drew ?_ | refine blk_alloc ?_ _)); refine blk_far ?_ NB428_448.out _; (with_reducible repeat (first | refine blk_drewN ?_ _ | refine blk_drew ?_ | refine blk_alloc ?_ _)); refine blk_far ?_ NB428_448.out _; (with_reducible repeat (first | refine blk_drewN ?_ _ | refine blk_drew ?_ | refine blk_alloc ?_ _)); exact BK428.out) hb); replace BK443 := aM (blk_below (g := gb443) (o := .cells #[.int .i64 t438, .slice Ao33 t439.length co33] 70 (0, 0)) (by (with_reducible repeat (first | refine blk_drewN ?_ _ | refine blk_drew ?_ | refine blk_alloc ?_ _)); refine blk_far ?_ NB443_448.out _; (with_reducible repeat (first | refine blk_drewN ?_ _ | refine blk_drew ?_ | refine blk_alloc ?_ _)); refine blk_far ?_ NB443_448.out _; (with_reducible repeat (first | refine blk_drewN ?_ _ | refine blk_drew ?_ | refine blk_alloc ?_ _)); exact BK443.out) hb); replace BK448 := aM (blk_below (g := gb448) (o := .cells #[.int .i64 t444, .slice Ao40 t445.length co40] 70 (0, 0)) (by (with_reducible repeat (first | refine blk_drewN ?_ _ | refine blk_drew ?_ | refine blk_alloc ?_ _)); refine blk_put (cs := #[.int .i64 t444, .slice none 0 0]) ?_ 1 _ rfl; (with_reducible repeat (first | refine blk_drewN ?_ _ | refine blk_drew ?_ | refine blk_alloc ?_ _)); refine blk_put (cs := #[.int .i64 0, .slice none 0 0]) ?_ 0 _ rfl; (with_reducible repeat (first | refine blk_drewN ?_ _ | refine blk_drew ?_ | refine blk_alloc ?_ _)); exact BK448.out) hb); replace HB := xbs hb; (try clear hb); (try clear hb2); (try clear hk); (try clear hi); (try clear ho0); have hcz42_0 : w41.cell? ⟨gb448, 0, none⟩ = some (.int .i64 t444) := xc BK448 0 rfl; have hcz42_1 : w41.cell? ⟨gb448, 1, none⟩ = some (.slice Ao40 t445.length co40) := xc BK448 1 rfl; have hfz42_0 := blk_frozen BK448.out 0; have hfz42_1 := blk_frozen BK448.out 1; obtain ⟨Ao43, co43, eo43⟩ := Kd.R_slice HO451.out; subst eo43) | ((with_reducible refine gate_callee (f := 66) rfl ?_); refine goesL_ (some 46) rfl rfl Try.func66 (by kernel_rfl) rfl #[.agg #[.int .i64 t444, .slice Ao40 t445.length co40], .int .i64 a1, .slice Ao43 t449.length co43] rfl (by (try simp only [List.map_toArray, List.map_cons, List.map_nil]); first | done | rfl | (simp only [List.length_drop, List.length_take]; rfl)) ?_; (with_reducible refine (impl_JournalAdd.calls k t444 _ _ t445 a1 _ _ t449 t452 t453 t456 _ ?side1 ?side2 ?side3 ?side4 A19.out).mono ?_); (case side1 => repeat (first | exact (Kd.R_reads' HO447.out).2.2 | (with_reducible refine Kd.C_alloc ?_ _) | (with_reducible refine Kd.C_drewN ?_ _) | (with_reducible refine Kd.C_drew ?_))); (case side2 => exact (Kd.R_reads' HO447.out).2.1); (case side3 => repeat (first | exact (Kd.R_reads' HO451.out).2.2 | (with_reducible refine Kd.C_alloc ?_ _) | (with_reducible refine Kd.C_drewN ?_ _) | (with_reducible refine Kd.C_drew ?_))); (case side4 => exact (Kd.R_reads' HO451.out).2.1); rintro e w44 ⟨v454, rfl, ho0, hb⟩; refine ⟨_, rfl, ?_⟩; replace HO437 := aM (Kd.R_below (xr HO437) hb); replace HO451 := aM (Kd.R_below (xr HO451) hb); have HO455 := aM (Kd.R_lower (Kd.R_new' (Kd.R_new' (Kd.R_new' ho0 (Kd.R_lt (xr HO434))) (Kd.R_lt (xr HO441))) (Kd.R_lt (xr HO447))) (below_size xbg)); replace HO434 := aM (Kd.R_elder' (xr HO434) (Kd.R_base ho0) hb); replace HO441 := aM (Kd.R_elder' (xr HO441) (Kd.R_base ho0) hb); replace HO447 := aM (Kd.R_elder' (xr HO447) (Kd.R_base ho0) hb); replace BK428 := xbb BK428 hb; replace BK443 := xbb BK443 hb; replace BK448 := xbb BK448 hb; replace HB := xbs hb; (try clear hb); (try clear hb2); (try clear hk); (try clear hi); (try clear ho0)) | ((with_reducible refine gate_dst (N := 12) rfl ?_); refine box_event ?hg (N := 12) ?hd (cs := #[.int .i64 0, .slice none 0 0]) (t := 70) ?hr ?_; (case hd => rfl); (case hg => rfl); (case hr => first | (go_simp; done) | (go_simp; rfl)); intro gb457 hg w45 hbox hb; replace HO434 := aM (Kd.R_below (xr HO434) hb); replace HO437 := aM (Kd.R_below (xr HO437) hb); replace HO441 := aM (Kd.R_below (xr HO441) hb); replace HO447 := aM (Kd.R_below (xr HO447) hb); replace HO451 := aM (Kd.R_below (xr HO451) hb); replace HO455 := aM (Kd.R_below (xr HO455) hb); have GW457 := aM (xge hg); have GE457 := aM (xge hg); replace HB := xbs hb; have NB428_457 := aM ((by rw [hg]; exact Nat.ne_of_lt (blk_lt (g := gb428) (o := .cells #[.int .i64 a0_0, .slice A0_1 l0_1.length c0_1] 66 (0, 0)) xblk) : gb428 ≠ gb457)); have NB457_428 := aM ((by rw [hg]; exact Nat.ne_of_gt (blk_lt (g := gb428) (o := .cells #[.int .i64 a0_0, .slice A0_1 l0_1.length c0_1] 66 (0, 0)) xblk) : gb457 ≠ gb428)); have NB443_457 := aM ((by rw [hg]; exact Nat.ne_of_lt (blk_lt (g := gb443) (o := .cells #[.int .i64 t438, .slice Ao33 t439.length co33] 70 (0, 0)) xblk) : gb443 ≠ gb457)); have NB457_443 := aM ((by rw [hg]; exact Nat.ne_of_gt (blk_lt (g := gb443) (o := .cells #[.int .i64 t438, .slice Ao33 t439.length co33] 70 (0, 0)) xblk) : gb457 ≠ gb443)); have NB448_457 := aM ((by rw [hg]; exact Nat.ne_of_lt (blk_lt (g := gb448) (o := .cells #[.int .i64 t444, .slice Ao40 t445.length co40] 70 (0, 0)) xblk) : gb448 ≠ gb457)); have NB457_448 := aM ((by rw [hg]; exact Nat.ne_of_gt (blk_lt (g := gb448) (o := .cells #[.int .i64 t444, .slice Ao40 t445.length co40] 70 (0, 0)) xblk) : gb457 ≠ gb448)); replace BK428 := xbb BK428 hb; replace BK443 := xbb BK443 hb; replace BK448 := xbb BK448 hb; have BK457 := aM (hbox); clear hb hbox hg; have hnb46 := NB457_428.out; have hnc46 := NB428_457.out; have hnb47 := NB457_443.out; have hnc47 := NB443_457.out; have hnb48 := NB457_448.out; have hnc48 := NB448_457.out; have hcz49_0 : w45.cell? ⟨gb457, 0, none⟩ = some (.int .i64 0) := xc BK457 0 rfl; have hcz49_1 : w45.cell? ⟨gb457, 1, none⟩ = some (.slice none 0 0) := xc BK457 1 rfl; have hfz49_0 := blk_frozen BK457.out 0; have hfz49_1 := blk_frozen BK457.out 1; obtain ⟨Ao50, co50, eo50⟩ := Kd.R_slice HO455.out; subst eo50))
   (try simp only [Act.put, List.setIfInBounds_toArray, List.set_cons_zero, List.set_cons_succ])
   go_cut [57] (fun v57 wc => ∃ (kq : Nat) (x57_19 : Bool), v57 = .bool x57_19 ∧ Aside0 (laws_FnExactJournalAdd.j0 kq a1 l2 t442 t449 t456 x57_19 a0_0 l0_1 t438 t439 t444 t445 t452 t453 = some r) ∧ Aside0 (kq ≤ k) ∧ Aside0 (Kd.R Kd.string 9 wc w.heap.size (fun _ => True) (.slice Ao43 t449.length co43) t449) ∧ Aside0 (Kd.R k134 134 wc w.heap.size (fun k_ => some k_ ≠ ((.slice Ao40 t445.length co40) : Value).ownBlock ∧ some k_ ≠ ((.slice Ao50 t453.length co50) : Value).ownBlock) (.slice Ao33 t439.length co33) t439) ∧ Aside0 (Kd.R k134 134 wc w.heap.size (fun k_ => some k_ ≠ ((.slice Ao33 t439.length co33) : Value).ownBlock ∧ some k_ ≠ ((.slice Ao50 t453.length co50) : Value).ownBlock) (.slice Ao40 t445.length co40) t445) ∧ Aside0 (Kd.R k134 134 wc w.heap.size (fun k_ => some k_ ≠ ((.slice Ao33 t439.length co33) : Value).ownBlock ∧ some k_ ≠ ((.slice Ao40 t445.length co40) : Value).ownBlock) (.slice Ao50 t453.length co50) t453) ∧ Aside0 (wc.heap[gb428]? = some (.cells #[.int .i64 a0_0, (.slice A0_1 l0_1.length c0_1)] 66 (0, 0))) ∧ Aside0 (wc.heap[gb443]? = some (.cells #[.int .i64 t438, (.slice Ao33 t439.length co33)] 70 (0, 0))) ∧ Aside0 (wc.heap[gb448]? = some (.cells #[.int .i64 t444, (.slice Ao40 t445.length co40)] 70 (0, 0))) ∧ Aside0 (wc.heap[gb457]? = some (.cells #[.int .i64 t452, (.slice Ao50 t453.length co50)] 70 (0, 0))) ∧ Aside0 (Below w.heap.size w wc))
   case first =>
    have H := HC20.out; clear HC20; replace H := Option.bind_eq_some_iff.mp H
    obtain ⟨t458, A510, H⟩ := H
    replace H : (if t458 = true then (laws_FnExactJournalAdd.j0 k a1 l2 t442 t449 t456 (t456 != t442) a0_0 l0_1 t438 t439 t444 t445 t452 t453) else (laws_FnExactJournalAdd.j0 k a1 l2 t442 t449 t456 true a0_0 l0_1 t438 t439 t444 t445 t452 t453)) = some r := H; have A51 := aM A510; clear A510
    by_cases c52 : t458 = true
    ·subst c52
     have H1 : (laws_FnExactJournalAdd.j0 k a1 l2 t442 t449 t456 (t456 != t442) a0_0 l0_1 t438 t439 t444 t445 t452 t453) = some r := by rw [if_pos rfl] at H; exact H
     clear H; have H := H1; clear H1
     have H' := aM H
     clear H; have hnb53 := NB457_428.out; have hnc53 := NB428_457.out; have hnb54 := NB457_443.out; have hnc54 := NB443_457.out; have hnb55 := NB457_448.out; have hnc55 := NB448_457.out; have hcz56_0 : w45.cell? ⟨gb457, 0, none⟩ = some (.int .i64 0) := xc BK457 0 rfl; have hcz56_1 : w45.cell? ⟨gb457, 1, none⟩ = some (.slice none 0 0) := xc BK457 1 rfl; have hfz56_0 := blk_frozen BK457.out 0; have hfz56_1 := blk_frozen BK457.out 1; have hnb57 := NB443_428.out; have hnc57 := NB428_443.out; have hnb58 := NB443_448.out; have hnc58 := NB448_443.out; have hcz59_0 : w45.cell? ⟨gb443, 0, none⟩ = some (.int .i64 t438) := xc BK443 0 rfl; have hcz59_1 : w45.cell? ⟨gb443, 1, none⟩ = some (.slice Ao33 t439.length co33) := xc BK443 1 rfl; have hfz59_0 := blk_frozen BK443.out 0; have hfz59_1 := blk_frozen BK443.out 1
     go_wp2_with (first | ((with_reducible refine gate_callee (f := 41) rfl ?_); refine goesL_ (some 51) rfl rfl Try.func41 (by kernel_rfl) rfl #[.agg #[.int .i64 t452, .slice Ao50 t453.length co50], .agg #[.int .i64 t438, .slice Ao33 t439.length co33]] rfl (by (try simp only [List.map_toArray, List.map_cons, List.map_nil]); first | done | rfl | (simp only [List.length_drop, List.length_take]; rfl)) ?_; (with_reducible refine (laws_eqDisk.calls k t452 _ _ t453 t438 _ _ t439 true _ ?side1 ?side2 ?side3 ?side4 A51.out).mono ?_); (case side1 => refine (Kd.R_reads' (e := 134) (base := w.heap.size) (ok := fun k_ => (((True ∧ some k_ ≠ (.slice Ao27 t432.length co27 : Value).ownBlock) ∧ some k_ ≠ (.slice Ao33 t439.length co33 : Value).ownBlock) ∧ some k_ ≠ (.slice Ao40 t445.length co40 : Value).ownBlock)) (n := t453.length) (c := co50) ?_).2.2; exact (xrt (Kd.R_mono (Kd.R_far (p := ⟨gb457, 1, none⟩) (Kd.R_far (p := ⟨gb457, 0, none⟩) (Kd.R_types HO455.out BK457.out (by decide)) (fun _ hk => hk.2) (.int .i64 t452)) (fun _ hk => hk.2) (.slice Ao50 t453.length co50)) (fun _ h_ => h_.1)))); (case side2 => exact (Kd.R_reads' HO455.out).2.1); (case side3 => refine (Kd.R_reads' (e := 134) (base := w.heap.size) (ok := fun k_ => (((True ∧ some k_ ≠ (.slice Ao27 t432.length co27 : Value).ownBlock) ∧ some k_ ≠ (.slice Ao40 t445.length co40 : Value).ownBlock) ∧ some k_ ≠ (.slice Ao50 t453.length co50 : Value).ownBlock)) (n := t439.length) (c := co33) ?_).2.2; exact (xrt (Kd.R_mono (Kd.R_far (p := ⟨gb457, 1, none⟩) (Kd.R_far (p := ⟨gb457, 0, none⟩) (Kd.R_types HO441.out BK457.out (by decide)) (fun _ hk => hk.2) (.int .i64 t452)) (fun _ hk => hk.2) (.slice Ao50 t453.length co50)) (fun _ h_ => h_.1)))); (case side4 => exact (Kd.R_reads' HO441.out).2.1); rintro e w60 ⟨rfl, hb⟩; refine ⟨_, rfl, ?_⟩; replace HO434 := aM (Kd.R_below (xrt (Kd.R_mono (Kd.R_far (p := ⟨gb457, 1, none⟩) (Kd.R_far (p := ⟨gb457, 0, none⟩) (Kd.R_types HO434.out BK457.out (by decide)) (fun _ hk => hk.2) (.int .i64 t452)) (fun _ hk => hk.2) (.slice Ao50 t453.length co50)) (fun _ h_ => h_.1))) hb); replace HO437 := aM (Kd.R_below (xrt (Kd.R_mono (Kd.R_far (p := ⟨gb457, 1, none⟩) (Kd.R_far (p := ⟨gb457, 0, none⟩) (Kd.R_types HO437.out BK457.out (by decide)) (fun _ hk => hk.2) (.int .i64 t452)) (fun _ hk => hk.2) (.slice Ao50 t453.length co50)) (fun _ h_ => h_.1))) hb); replace HO441 := aM (Kd.R_below (xrt (Kd.R_mono (Kd.R_far (p := ⟨gb457, 1, none⟩) (Kd.R_far (p := ⟨gb457, 0, none⟩) (Kd.R_types HO441.out BK457.out (by decide)) (fun _ hk => hk.2) (.int .i64 t452)) (fun _ hk => hk.2) (.slice Ao50 t453.length co50)) (fun _ h_ => h_.1))) hb); replace HO447 := aM (Kd.R_below (xrt (Kd.R_mono (Kd.R_far (p := ⟨gb457, 1, none⟩) (Kd.R_far (p := ⟨gb457, 0, none⟩) (Kd.R_types HO447.out BK457.out (by decide)) (fun _ hk => hk.2) (.int .i64 t452)) (fun _ hk => hk.2) (.slice Ao50 t453.length co50)) (fun _ h_ => h_.1))) hb); replace HO451 := aM (Kd.R_below (xrt (Kd.R_mono (Kd.R_far (p := ⟨gb457, 1, none⟩) (Kd.R_far (p := ⟨gb457, 0, none⟩) (Kd.R_types HO451.out BK457.out (by decide)) (fun _ hk => hk.2) (.int .i64 t452)) (fun _ hk => hk.2) (.slice Ao50 t453.length co50)) (fun _ h_ => h_.1))) hb); replace HO455 := aM (Kd.R_below (xrt (Kd.R_mono (Kd.R_far (p := ⟨gb457, 1, none⟩) (Kd.R_far (p := ⟨gb457, 0, none⟩) (Kd.R_types HO455.out BK457.out (by decide)) (fun _ hk => hk.2) (.int .i64 t452)) (fun _ hk => hk.2) (.slice Ao50 t453.length co50)) (fun _ h_ => h_.1))) hb); replace BK428 := aM (blk_below (g := gb428) (o := .cells #[.int .i64 a0_0, .slice A0_1 l0_1.length c0_1] 66 (0, 0)) (by (with_reducible repeat (first | refine blk_drewN ?_ _ | refine blk_drew ?_ | refine blk_alloc ?_ _)); refine blk_far ?_ NB428_457.out _; (with_reducible repeat (first | refine blk_drewN ?_ _ | refine blk_drew ?_ | refine blk_alloc ?_ _)); refine blk_far ?_ NB428_457.out _; (with_reducible repeat (first | refine blk_drewN ?_ _ | refine blk_drew ?_ | refine blk_alloc ?_ _)); exact BK428.out) hb); replace BK443 := aM (blk_below (g := gb443) (o := .cells #[.int .i64 t438, .slice Ao33 t439.length co33] 70 (0, 0)) (by (with_reducible repeat (first | refine blk_drewN ?_ _ | refine blk_drew ?_ | refine blk_alloc ?_ _)); refine blk_far ?_ NB443_457.out _; (with_reducible repeat (first | refine blk_drewN ?_ _ | refine blk_drew ?_ | refine blk_alloc ?_ _)); refine blk_far ?_ NB443_457.out _; (with_reducible repeat (first | refine blk_drewN ?_ _ | refine blk_drew ?_ | refine blk_alloc ?_ _)); exact BK443.out) hb); replace BK448 := aM (blk_below (g := gb448) (o := .cells #[.int .i64 t444, .slice Ao40 t445.length co40] 70 (0, 0)) (by (with_reducible repeat (first | refine blk_drewN ?_ _ | refine blk_drew ?_ | refine blk_alloc ?_ _)); refine blk_far ?_ NB448_457.out _; (with_reducible repeat (first | refine blk_drewN ?_ _ | refine blk_drew ?_ | refine blk_alloc ?_ _)); refine blk_far ?_ NB448_457.out _; (with_reducible repeat (first | refine blk_drewN ?_ _ | refine blk_drew ?_ | refine blk_alloc ?_ _)); exact BK448.out) hb); replace BK457 := aM (blk_below (g := gb457) (o := .cells #[.int .i64 t452, .slice Ao50 t453.length co50] 70 (0, 0)) (by (with_reducible repeat (first | refine blk_drewN ?_ _ | refine blk_drew ?_ | refine blk_alloc ?_ _)); refine blk_put (cs := #[.int .i64 t452, .slice none 0 0]) ?_ 1 _ rfl; (with_reducible repeat (first | refine blk_drewN ?_ _ | refine blk_drew ?_ | refine blk_alloc ?_ _)); refine blk_put (cs := #[.int .i64 0, .slice none 0 0]) ?_ 0 _ rfl; (with_reducible repeat (first | refine blk_drewN ?_ _ | refine blk_drew ?_ | refine blk_alloc ?_ _)); exact BK457.out) hb); replace HB := xbs hb; (try clear hb); (try clear hb2); (try clear hk); (try clear hi)))
     go_meet
     case rel => exact ⟨_, ((t456 != t442)), (by first | rfl | (simp; done) | (simp [*]; done)), H', ⟨by first | omega | exact Nat.le_refl _⟩, ⟨by (with_reducible repeat (first | apply Kd.R_alloc | apply Kd.R_drewN | apply Kd.R_drew)); exact Kd.R_mono HO451.out (fun _ hk => trivial)⟩, ⟨by (with_reducible repeat (first | apply Kd.R_alloc | apply Kd.R_drewN | apply Kd.R_drew)); exact Kd.R_mono HO441.out (fun _ hk => ⟨hk.1.2, hk.2⟩)⟩, ⟨by (with_reducible repeat (first | apply Kd.R_alloc | apply Kd.R_drewN | apply Kd.R_drew)); exact Kd.R_mono HO447.out (fun _ hk => ⟨hk.1.2, hk.2⟩)⟩, ⟨by (with_reducible repeat (first | apply Kd.R_alloc | apply Kd.R_drewN | apply Kd.R_drew)); exact Kd.R_mono HO455.out (fun _ hk => ⟨hk.1.2, hk.2⟩)⟩, ⟨xblk⟩, ⟨xblk⟩, ⟨xblk⟩, ⟨xblk⟩, ⟨xbg⟩⟩
    ·replace c52 := Bool.eq_false_iff.mpr c52
     subst c52
     have H1 : (laws_FnExactJournalAdd.j0 k a1 l2 t442 t449 t456 true a0_0 l0_1 t438 t439 t444 t445 t452 t453) = some r := by rw [if_neg (show ¬ (false = true) by decide)] at H; exact H
     clear H; have H := H1; clear H1
     have H' := aM H
     clear H; have hnb61 := NB457_428.out; have hnc61 := NB428_457.out; have hnb62 := NB457_443.out; have hnc62 := NB443_457.out; have hnb63 := NB457_448.out; have hnc63 := NB448_457.out; have hcz64_0 : w45.cell? ⟨gb457, 0, none⟩ = some (.int .i64 0) := xc BK457 0 rfl; have hcz64_1 : w45.cell? ⟨gb457, 1, none⟩ = some (.slice none 0 0) := xc BK457 1 rfl; have hfz64_0 := blk_frozen BK457.out 0; have hfz64_1 := blk_frozen BK457.out 1; have hnb65 := NB443_428.out; have hnc65 := NB428_443.out; have hnb66 := NB443_448.out; have hnc66 := NB448_443.out; have hcz67_0 : w45.cell? ⟨gb443, 0, none⟩ = some (.int .i64 t438) := xc BK443 0 rfl; have hcz67_1 : w45.cell? ⟨gb443, 1, none⟩ = some (.slice Ao33 t439.length co33) := xc BK443 1 rfl; have hfz67_0 := blk_frozen BK443.out 0; have hfz67_1 := blk_frozen BK443.out 1
     go_wp2_with (first | ((with_reducible refine gate_callee (f := 41) rfl ?_); refine goesL_ (some 51) rfl rfl Try.func41 (by kernel_rfl) rfl #[.agg #[.int .i64 t452, .slice Ao50 t453.length co50], .agg #[.int .i64 t438, .slice Ao33 t439.length co33]] rfl (by (try simp only [List.map_toArray, List.map_cons, List.map_nil]); first | done | rfl | (simp only [List.length_drop, List.length_take]; rfl)) ?_; (with_reducible refine (laws_eqDisk.calls k t452 _ _ t453 t438 _ _ t439 false _ ?side1 ?side2 ?side3 ?side4 A51.out).mono ?_); (case side1 => refine (Kd.R_reads' (e := 134) (base := w.heap.size) (ok := fun k_ => (((True ∧ some k_ ≠ (.slice Ao27 t432.length co27 : Value).ownBlock) ∧ some k_ ≠ (.slice Ao33 t439.length co33 : Value).ownBlock) ∧ some k_ ≠ (.slice Ao40 t445.length co40 : Value).ownBlock)) (n := t453.length) (c := co50) ?_).2.2; exact (xrt (Kd.R_mono (Kd.R_far (p := ⟨gb457, 1, none⟩) (Kd.R_far (p := ⟨gb457, 0, none⟩) (Kd.R_types HO455.out BK457.out (by decide)) (fun _ hk => hk.2) (.int .i64 t452)) (fun _ hk => hk.2) (.slice Ao50 t453.length co50)) (fun _ h_ => h_.1)))); (case side2 => exact (Kd.R_reads' HO455.out).2.1); (case side3 => refine (Kd.R_reads' (e := 134) (base := w.heap.size) (ok := fun k_ => (((True ∧ some k_ ≠ (.slice Ao27 t432.length co27 : Value).ownBlock) ∧ some k_ ≠ (.slice Ao40 t445.length co40 : Value).ownBlock) ∧ some k_ ≠ (.slice Ao50 t453.length co50 : Value).ownBlock)) (n := t439.length) (c := co33) ?_).2.2; exact (xrt (Kd.R_mono (Kd.R_far (p := ⟨gb457, 1, none⟩) (Kd.R_far (p := ⟨gb457, 0, none⟩) (Kd.R_types HO441.out BK457.out (by decide)) (fun _ hk => hk.2) (.int .i64 t452)) (fun _ hk => hk.2) (.slice Ao50 t453.length co50)) (fun _ h_ => h_.1)))); (case side4 => exact (Kd.R_reads' HO441.out).2.1); rintro e w68 ⟨rfl, hb⟩; refine ⟨_, rfl, ?_⟩; replace HO434 := aM (Kd.R_below (xrt (Kd.R_mono (Kd.R_far (p := ⟨gb457, 1, none⟩) (Kd.R_far (p := ⟨gb457, 0, none⟩) (Kd.R_types HO434.out BK457.out (by decide)) (fun _ hk => hk.2) (.int .i64 t452)) (fun _ hk => hk.2) (.slice Ao50 t453.length co50)) (fun _ h_ => h_.1))) hb); replace HO437 := aM (Kd.R_below (xrt (Kd.R_mono (Kd.R_far (p := ⟨gb457, 1, none⟩) (Kd.R_far (p := ⟨gb457, 0, none⟩) (Kd.R_types HO437.out BK457.out (by decide)) (fun _ hk => hk.2) (.int .i64 t452)) (fun _ hk => hk.2) (.slice Ao50 t453.length co50)) (fun _ h_ => h_.1))) hb); replace HO441 := aM (Kd.R_below (xrt (Kd.R_mono (Kd.R_far (p := ⟨gb457, 1, none⟩) (Kd.R_far (p := ⟨gb457, 0, none⟩) (Kd.R_types HO441.out BK457.out (by decide)) (fun _ hk => hk.2) (.int .i64 t452)) (fun _ hk => hk.2) (.slice Ao50 t453.length co50)) (fun _ h_ => h_.1))) hb); replace HO447 := aM (Kd.R_below (xrt (Kd.R_mono (Kd.R_far (p := ⟨gb457, 1, none⟩) (Kd.R_far (p := ⟨gb457, 0, none⟩) (Kd.R_types HO447.out BK457.out (by decide)) (fun _ hk => hk.2) (.int .i64 t452)) (fun _ hk => hk.2) (.slice Ao50 t453.length co50)) (fun _ h_ => h_.1))) hb); replace HO451 := aM (Kd.R_below (xrt (Kd.R_mono (Kd.R_far (p := ⟨gb457, 1, none⟩) (Kd.R_far (p := ⟨gb457, 0, none⟩) (Kd.R_types HO451.out BK457.out (by decide)) (fun _ hk => hk.2) (.int .i64 t452)) (fun _ hk => hk.2) (.slice Ao50 t453.length co50)) (fun _ h_ => h_.1))) hb); replace HO455 := aM (Kd.R_below (xrt (Kd.R_mono (Kd.R_far (p := ⟨gb457, 1, none⟩) (Kd.R_far (p := ⟨gb457, 0, none⟩) (Kd.R_types HO455.out BK457.out (by decide)) (fun _ hk => hk.2) (.int .i64 t452)) (fun _ hk => hk.2) (.slice Ao50 t453.length co50)) (fun _ h_ => h_.1))) hb); replace BK428 := aM (blk_below (g := gb428) (o := .cells #[.int .i64 a0_0, .slice A0_1 l0_1.length c0_1] 66 (0, 0)) (by (with_reducible repeat (first | refine blk_drewN ?_ _ | refine blk_drew ?_ | refine blk_alloc ?_ _)); refine blk_far ?_ NB428_457.out _; (with_reducible repeat (first | refine blk_drewN ?_ _ | refine blk_drew ?_ | refine blk_alloc ?_ _)); refine blk_far ?_ NB428_457.out _; (with_reducible repeat (first | refine blk_drewN ?_ _ | refine blk_drew ?_ | refine blk_alloc ?_ _)); exact BK428.out) hb); replace BK443 := aM (blk_below (g := gb443) (o := .cells #[.int .i64 t438, .slice Ao33 t439.length co33] 70 (0, 0)) (by (with_reducible repeat (first | refine blk_drewN ?_ _ | refine blk_drew ?_ | refine blk_alloc ?_ _)); refine blk_far ?_ NB443_457.out _; (with_reducible repeat (first | refine blk_drewN ?_ _ | refine blk_drew ?_ | refine blk_alloc ?_ _)); refine blk_far ?_ NB443_457.out _; (with_reducible repeat (first | refine blk_drewN ?_ _ | refine blk_drew ?_ | refine blk_alloc ?_ _)); exact BK443.out) hb); replace BK448 := aM (blk_below (g := gb448) (o := .cells #[.int .i64 t444, .slice Ao40 t445.length co40] 70 (0, 0)) (by (with_reducible repeat (first | refine blk_drewN ?_ _ | refine blk_drew ?_ | refine blk_alloc ?_ _)); refine blk_far ?_ NB448_457.out _; (with_reducible repeat (first | refine blk_drewN ?_ _ | refine blk_drew ?_ | refine blk_alloc ?_ _)); refine blk_far ?_ NB448_457.out _; (with_reducible repeat (first | refine blk_drewN ?_ _ | refine blk_drew ?_ | refine blk_alloc ?_ _)); exact BK448.out) hb); replace BK457 := aM (blk_below (g := gb457) (o := .cells #[.int .i64 t452, .slice Ao50 t453.length co50] 70 (0, 0)) (by (with_reducible repeat (first | refine blk_drewN ?_ _ | refine blk_drew ?_ | refine blk_alloc ?_ _)); refine blk_put (cs := #[.int .i64 t452, .slice none 0 0]) ?_ 1 _ rfl; (with_reducible repeat (first | refine blk_drewN ?_ _ | refine blk_drew ?_ | refine blk_alloc ?_ _)); refine blk_put (cs := #[.int .i64 0, .slice none 0 0]) ?_ 0 _ rfl; (with_reducible repeat (first | refine blk_drewN ?_ _ | refine blk_drew ?_ | refine blk_alloc ?_ _)); exact BK457.out) hb); replace HB := xbs hb; (try clear hb); (try clear hb2); (try clear hk); (try clear hi)))
     go_meet
     case rel => exact ⟨_, (true), (by first | rfl | (simp; done) | (simp [*]; done)), H', ⟨by first | omega | exact Nat.le_refl _⟩, ⟨by (with_reducible repeat (first | apply Kd.R_alloc | apply Kd.R_drewN | apply Kd.R_drew)); exact Kd.R_mono HO451.out (fun _ hk => trivial)⟩, ⟨by (with_reducible repeat (first | apply Kd.R_alloc | apply Kd.R_drewN | apply Kd.R_drew)); exact Kd.R_mono HO441.out (fun _ hk => ⟨hk.1.2, hk.2⟩)⟩, ⟨by (with_reducible repeat (first | apply Kd.R_alloc | apply Kd.R_drewN | apply Kd.R_drew)); exact Kd.R_mono HO447.out (fun _ hk => ⟨hk.1.2, hk.2⟩)⟩, ⟨by (with_reducible repeat (first | apply Kd.R_alloc | apply Kd.R_drewN | apply Kd.R_drew)); exact Kd.R_mono HO455.out (fun _ hk => ⟨hk.1.2, hk.2⟩)⟩, ⟨xblk⟩, ⟨xblk⟩, ⟨xblk⟩, ⟨xblk⟩, ⟨xbg⟩⟩
   case rest =>
    clear HC20
    try clear c1
    try clear c2
    try clear p2
    try clear c3
    try clear c4
    try clear c5
    try clear c5b0
    try clear c6
    try clear c10
    try clear c10b0
    try clear c12
    try clear c31
    try clear c37
    try clear c38
    try clear c39
    try clear c41
    try clear c46
    try clear c47
    try clear c48
    try clear c52
    try clear c53
    try clear c54
    try clear c55
    try clear c57
    try clear c58
    try clear c59
    try clear c61
    try clear c62
    try clear c63
    try clear c65
    try clear c66
    try clear hcz12_0
    try clear hcz12_1
    try clear hcz22_0
    try clear hcz22_1
    try clear hcz24_0
    try clear hcz24_1
    try clear hcz32_0
    try clear hcz32_1
    try clear hcz34_0
    try clear hcz34_1
    try clear hcz39_0
    try clear hcz39_1
    try clear hcz42_0
    try clear hcz42_1
    try clear hcz49_0
    try clear hcz49_1
    try clear hcz56_0
    try clear hcz56_1
    try clear hcz59_0
    try clear hcz59_1
    try clear hcz64_0
    try clear hcz64_1
    try clear hcz67_0
    try clear hcz67_1
    try clear hcz7_0
    try clear hcz7_1
    try clear hfz12_0
    try clear hfz12_1
    try clear hfz22_0
    try clear hfz22_1
    try clear hfz24_0
    try clear hfz24_1
    try clear hfz32_0
    try clear hfz32_1
    try clear hfz34_0
    try clear hfz34_1
    try clear hfz39_0
    try clear hfz39_1
    try clear hfz42_0
    try clear hfz42_1
    try clear hfz49_0
    try clear hfz49_1
    try clear hfz56_0
    try clear hfz56_1
    try clear hfz59_0
    try clear hfz59_1
    try clear hfz64_0
    try clear hfz64_1
    try clear hfz67_0
    try clear hfz67_1
    try clear hfz7_0
    try clear hfz7_1
    obtain ⟨kq, x57_19, rfl, HA, HJ19, HO_11, HO_444001, HO_449001, HO_458001, BK428, BK443, BK448, BK457, HB⟩ := hcut
    cases kq with
    | zero => exact absurd HA.out (by simp [laws_FnExactJournalAdd.j0])
    | succ kj19 =>
     have H := HA.out; clear HA
     simp only [laws_FnExactJournalAdd.j0] at H
     by_cases c69 : x57_19 = true
     ·subst c69
      have H1 : (some false) = some r := by rw [if_pos rfl] at H; exact H
      clear H; have H := H1; clear H1
      obtain rfl := Option.some.inj H
      go_wp2
      go_ret
      exact ⟨by first | rfl | (simp [errW_none, errW_some] <;> rfl) | (simp [*, errW_none, errW_some] <;> rfl), xbg⟩
     ·replace c69 := Bool.eq_false_iff.mpr c69
      subst c69
      have H1 : ((laws_toDisk.f kj19 a0_0 l0_1).bind fun bt459 => ((laws_eqDisk.f kj19 t444 t445 bt459.1 bt459.2).bind fun t463 => (if t463 = true then ((laws_toStringS.f kj19 l2).bind fun t464 => ((laws_eqStringS.f kj19 t449 t464).bind fun t467 => (if t467 = true then ((laws_markDisk.f kj19 t444 t445 1).bind fun bt468 => ((laws_markStringS.f kj19 t449 bt468.1).bind fun bt470 => (if bt470.1 < 0 then (laws_FnExactJournalAdd.j1 kj19 a1 l2 t442 true a0_0 l0_1 t438 t439 t452 t453) else ((laws_eqDisk.f kj19 t452 t453 t438 t439).bind fun t472 => (if t472 = true then (laws_FnExactJournalAdd.j1 kj19 a1 l2 t442 (t456 != t442) a0_0 l0_1 t438 t439 t452 t453) else (laws_FnExactJournalAdd.j1 kj19 a1 l2 t442 true a0_0 l0_1 t438 t439 t452 t453)))))) else (some false)))) else (some false)))) = some r := by rw [if_neg (show ¬ (false = true) by decide)] at H; exact H
      clear H; have H := H1; clear H1; replace H := Option.bind_eq_some_iff.mp H
      obtain ⟨⟨t459, t460⟩, A700, H⟩ := H
      replace H : ((laws_eqDisk.f kj19 t444 t445 t459 t460).bind fun t463 => (if t463 = true then ((laws_toStringS.f kj19 l2).bind fun t464 => ((laws_eqStringS.f kj19 t449 t464).bind fun t467 => (if t467 = true then ((laws_markDisk.f kj19 t444 t445 1).bind fun bt468 => ((laws_markStringS.f kj19 t449 bt468.1).bind fun bt470 => (if bt470.1 < 0 then (laws_FnExactJournalAdd.j1 kj19 a1 l2 t442 true a0_0 l0_1 t438 t439 t452 t453) else ((laws_eqDisk.f kj19 t452 t453 t438 t439).bind fun t472 => (if t472 = true then (laws_FnExactJournalAdd.j1 kj19 a1 l2 t442 (t456 != t442) a0_0 l0_1 t438 t439 t452 t453) else (laws_FnExactJournalAdd.j1 kj19 a1 l2 t442 true a0_0 l0_1 t438 t439 t452 t453)))))) else (some false)))) else (some false))) = some r := H; have A70 := aM A700; clear A700; replace H := Option.bind_eq_some_iff.mp H
      obtain ⟨t463, A710, H⟩ := H
      replace H : (if t463 = true then ((laws_toStringS.f kj19 l2).bind fun t464 => ((laws_eqStringS.f kj19 t449 t464).bind fun t467 => (if t467 = true then ((laws_markDisk.f kj19 t444 t445 1).bind fun bt468 => ((laws_markStringS.f kj19 t449 bt468.1).bind fun bt470 => (if bt470.1 < 0 then (laws_FnExactJournalAdd.j1 kj19 a1 l2 t442 true a0_0 l0_1 t438 t439 t452 t453) else ((laws_eqDisk.f kj19 t452 t453 t438 t439).bind fun t472 => (if t472 = true then (laws_FnExactJournalAdd.j1 kj19 a1 l2 t442 (t456 != t442) a0_0 l0_1 t438 t439 t452 t453) else (laws_FnExactJournalAdd.j1 kj19 a1 l2 t442 true a0_0 l0_1 t438 t439 t452 t453)))))) else (some false)))) else (some false)) = some r := H; have A71 := aM A710; clear A710
      by_cases c72 : t463 = true
      ·subst c72
       have H1 : ((laws_toStringS.f kj19 l2).bind fun t464 => ((laws_eqStringS.f kj19 t449 t464).bind fun t467 => (if t467 = true then ((laws_markDisk.f kj19 t444 t445 1).bind fun bt468 => ((laws_markStringS.f kj19 t449 bt468.1).bind fun bt470 => (if bt470.1 < 0 then (laws_FnExactJournalAdd.j1 kj19 a1 l2 t442 true a0_0 l0_1 t438 t439 t452 t453) else ((laws_eqDisk.f kj19 t452 t453 t438 t439).bind fun t472 => (if t472 = true then (laws_FnExactJournalAdd.j1 kj19 a1 l2 t442 (t456 != t442) a0_0 l0_1 t438 t439 t452 t453) else (laws_FnExactJournalAdd.j1 kj19 a1 l2 t442 true a0_0 l0_1 t438 t439 t452 t453)))))) else (some false)))) = some r := by rw [if_pos rfl] at H; exact H
       clear H; have H := H1; clear H1; replace H := Option.bind_eq_some_iff.mp H
       obtain ⟨t464, A730, H⟩ := H
       replace H : ((laws_eqStringS.f kj19 t449 t464).bind fun t467 => (if t467 = true then ((laws_markDisk.f kj19 t444 t445 1).bind fun bt468 => ((laws_markStringS.f kj19 t449 bt468.1).bind fun bt470 => (if bt470.1 < 0 then (laws_FnExactJournalAdd.j1 kj19 a1 l2 t442 true a0_0 l0_1 t438 t439 t452 t453) else ((laws_eqDisk.f kj19 t452 t453 t438 t439).bind fun t472 => (if t472 = true then (laws_FnExactJournalAdd.j1 kj19 a1 l2 t442 (t456 != t442) a0_0 l0_1 t438 t439 t452 t453) else (laws_FnExactJournalAdd.j1 kj19 a1 l2 t442 true a0_0 l0_1 t438 t439 t452 t453)))))) else (some false))) = some r := H; have A73 := aM A730; clear A730; replace H := Option.bind_eq_some_iff.mp H
       obtain ⟨t467, A740, H⟩ := H
       replace H : (if t467 = true then ((laws_markDisk.f kj19 t444 t445 1).bind fun bt468 => ((laws_markStringS.f kj19 t449 bt468.1).bind fun bt470 => (if bt470.1 < 0 then (laws_FnExactJournalAdd.j1 kj19 a1 l2 t442 true a0_0 l0_1 t438 t439 t452 t453) else ((laws_eqDisk.f kj19 t452 t453 t438 t439).bind fun t472 => (if t472 = true then (laws_FnExactJournalAdd.j1 kj19 a1 l2 t442 (t456 != t442) a0_0 l0_1 t438 t439 t452 t453) else (laws_FnExactJournalAdd.j1 kj19 a1 l2 t442 true a0_0 l0_1 t438 t439 t452 t453)))))) else (some false)) = some r := H; have A74 := aM A740; clear A740
       by_cases c75 : t467 = true
       ·subst c75
        have H1 : ((laws_markDisk.f kj19 t444 t445 1).bind fun bt468 => ((laws_markStringS.f kj19 t449 bt468.1).bind fun bt470 => (if bt470.1 < 0 then (laws_FnExactJournalAdd.j1 kj19 a1 l2 t442 true a0_0 l0_1 t438 t439 t452 t453) else ((laws_eqDisk.f kj19 t452 t453 t438 t439).bind fun t472 => (if t472 = true then (laws_FnExactJournalAdd.j1 kj19 a1 l2 t442 (t456 != t442) a0_0 l0_1 t438 t439 t452 t453) else (laws_FnExactJournalAdd.j1 kj19 a1 l2 t442 true a0_0 l0_1 t438 t439 t452 t453)))))) = some r := by rw [if_pos rfl] at H; exact H
        clear H; have H := H1; clear H1; replace H := Option.bind_eq_some_iff.mp H
        obtain ⟨⟨t468, t469⟩, A760, H⟩ := H
        replace H : ((laws_markStringS.f kj19 t449 t468).bind fun bt470 => (if bt470.1 < 0 then (laws_FnExactJournalAdd.j1 kj19 a1 l2 t442 true a0_0 l0_1 t438 t439 t452 t453) else ((laws_eqDisk.f kj19 t452 t453 t438 t439).bind fun t472 => (if t472 = true then (laws_FnExactJournalAdd.j1 kj19 a1 l2 t442 (t456 != t442) a0_0 l0_1 t438 t439 t452 t453) else (laws_FnExactJournalAdd.j1 kj19 a1 l2 t442 true a0_0 l0_1 t438 t439 t452 t453))))) = some r := H; have A76 := aM A760; clear A760; replace H := Option.bind_eq_some_iff.mp H
        obtain ⟨⟨t470, t471⟩, A770, H⟩ := H
        replace H : (if t470 < 0 then (laws_FnExactJournalAdd.j1 kj19 a1 l2 t442 true a0_0 l0_1 t438 t439 t452 t453) else ((laws_eqDisk.f kj19 t452 t453 t438 t439).bind fun t472 => (if t472 = true then (laws_FnExactJournalAdd.j1 kj19 a1 l2 t442 (t456 != t442) a0_0 l0_1 t438 t439 t452 t453) else (laws_FnExactJournalAdd.j1 kj19 a1 l2 t442 true a0_0 l0_1 t438 t439 t452 t453)))) = some r := H; have A77 := aM A770; clear A770; have HC78 := aM H; clear H
        try go_wp2
        replace HO_11 := aM (Kd.R_drew HO_11.out); replace HO_444001 := aM (Kd.R_drew HO_444001.out); replace HO_449001 := aM (Kd.R_drew HO_449001.out); replace HO_458001 := aM (Kd.R_drew HO_458001.out); replace BK428 := aM (blk_drew BK428.out); replace BK443 := aM (blk_drew BK443.out); replace BK448 := aM (blk_drew BK448.out); replace BK457 := aM (blk_drew BK457.out); replace HB := aM (below_drew1 HB.out)
        refine start_ (n := 5) (S := fun w' => w'.cell? ⟨gb448, 0, none⟩ = some (.int .i64 t444) ∧ w'.cell? ⟨gb448, 1, none⟩ = some (.slice Ao40 t445.length co40) ∧ w'.cell? ⟨gb428, 0, none⟩ = some (.int .i64 a0_0) ∧ w'.cell? ⟨gb428, 1, none⟩ = some (.slice A0_1 l0_1.length c0_1)) (ds := []) #[false, false, false, false, false] (by kernel_rfl) rfl rfl ⟨xc BK448 0 rfl, xc BK448 1 rfl, xc BK428 0 rfl, xc BK428 1 rfl⟩ (fun hHeld => ?_)
        generalize wc.drew = w79 at HO_11 HO_444001 HO_449001 HO_458001 BK428 BK443 BK448 BK457 HB hHeld ⊢
        refine take_ (i := 0) (N := some 58) (v := ?_) (a' := ?_) #[true, false, false, false, false] rfl rfl (by kernel_rfl) (fun _ _ _ h => h) (Or.inl ⟨by rfl, ?_⟩) hHeld ?_ ?_
        rotate_left
        ·rintro w' ⟨s0, s1, s2, s3⟩
         go_simp
         with_reducible rfl
        rotate_left
        ·simp only [Act.put, List.setIfInBounds_toArray, List.set_cons_zero, List.set_cons_succ, i64_w, i32_w]
         rfl
        refine take_ (i := 1) (N := some 59) (v := ?_) (a' := ?_) #[true, true, false, false, false] rfl rfl (by kernel_rfl) (fun _ _ _ h => h) (Or.inl ⟨by rfl, ?_⟩) hHeld ?_ ?_
        rotate_left
        ·rintro w' ⟨s0, s1, s2, s3⟩
         go_simp
         with_reducible rfl
        rotate_left
        ·simp only [Act.put, List.setIfInBounds_toArray, List.set_cons_zero, List.set_cons_succ, i64_w, i32_w]
         rfl
        refine one_ (i := 2) (N := some 60) #[true, true, true, false, false] rfl rfl (by kernel_rfl) (by decide) (fun K hK => ?_)
        refine goesY Try.func39 #[.agg #[.int .i64 a0_0, .slice A0_1 l0_1.length c0_1]] ?_
        with_reducible refine (laws_toDisk.calls kj19 a0_0 _ _ l0_1 t459 t460 _ ?side1 ?side2 A70.out).mono ?_
        (case side1 => exact xcb HR0_1)
        (case side2 => exact HC0_1.out)
        rintro e w80 ⟨v461, rfl, ho0, hb⟩
        refine ⟨_, rfl, ?_⟩
        replace HO_11 := aM (Kd.R_below (xr HO_11) hb); have HO462 := aM (Kd.R_lower (Kd.R_new' (Kd.R_new' (Kd.R_new' ho0 (Kd.R_lt (xr HO_444001))) (Kd.R_lt (xr HO_449001))) (Kd.R_lt (xr HO_458001))) (below_size xbg)); replace HO_444001 := aM (Kd.R_elder' (xr HO_444001) (Kd.R_base ho0) hb); replace HO_449001 := aM (Kd.R_elder' (xr HO_449001) (Kd.R_base ho0) hb); replace HO_458001 := aM (Kd.R_elder' (xr HO_458001) (Kd.R_base ho0) hb); replace BK428 := xbb BK428 hb; replace BK443 := xbb BK443 hb; replace BK448 := xbb BK448 hb; replace BK457 := xbb BK457 hb; replace HB := xbs hb
        (try clear hb); (try clear hb2); (try clear hk); (try clear hi); (try clear ho0)
        obtain ⟨Ao81, co81, eo81⟩ := Kd.R_slice HO462.out
        (first | subst eo81 | (injection eo81 with f1_ f2_ f3_; have f4_ := f1_.symm; have f5_ := f3_.symm; clear f1_ f2_ f3_; subst f4_; subst f5_))
        refine hK.out _ _ ⟨xc BK448 0 rfl, xc BK448 1 rfl, xc BK428 0 rfl, xc BK428 1 rfl⟩ (fun hHeld => ?_)
        clear hK K
        refine norm_ (a' := ?_) ?_ ?_
        rotate_left
        ·show Act.put _ (some 60) _ = _
         simp only [Act.put, List.setIfInBounds_toArray, List.set_cons_zero, List.set_cons_succ, i64_w, i32_w]
         rfl
        refine one_ (i := 3) (N := some 61) #[true, true, true, true, false] rfl rfl (by kernel_rfl) (by decide) (fun K hK => ?_)
        refine goesY Try.func41 #[.agg #[.int .i64 t444, .slice Ao40 t445.length co40], .agg #[.int .i64 t459, .slice Ao81 t460.length co81]] ?_
        with_reducible refine (laws_eqDisk.calls kj19 t444 _ _ t445 t459 _ _ t460 true _ ?side1 ?side2 ?side3 ?side4 A71.out).mono ?_
        (case side1 => repeat (first | exact (Kd.R_reads' HO_449001.out).2.2 | (with_reducible refine Kd.C_alloc ?_ _) | (with_reducible refine Kd.C_drewN ?_ _) | (with_reducible refine Kd.C_drew ?_)))
        (case side2 => exact (Kd.R_reads' HO_449001.out).2.1)
        (case side3 => repeat (first | exact (Kd.R_reads' HO462.out).2.2 | (with_reducible refine Kd.C_alloc ?_ _) | (with_reducible refine Kd.C_drewN ?_ _) | (with_reducible refine Kd.C_drew ?_)))
        (case side4 => exact (Kd.R_reads' HO462.out).2.1)
        rintro e w82 ⟨rfl, hb⟩
        refine ⟨_, rfl, ?_⟩
        replace HO_11 := aM (Kd.R_below (xr HO_11) hb); replace HO_444001 := aM (Kd.R_below (xr HO_444001) hb); replace HO_449001 := aM (Kd.R_below (xr HO_449001) hb); replace HO_458001 := aM (Kd.R_below (xr HO_458001) hb); replace HO462 := aM (Kd.R_below (xr HO462) hb); replace BK428 := xbb BK428 hb; replace BK443 := xbb BK443 hb; replace BK448 := xbb BK448 hb; replace BK457 := xbb BK457 hb; replace HB := xbs hb
        (try clear hb); (try clear hb2); (try clear hk); (try clear hi)
        refine hK.out _ _ ⟨xc BK448 0 rfl, xc BK448 1 rfl, xc BK428 0 rfl, xc BK428 1 rfl⟩ (fun hHeld => ?_)
        clear hK K
        refine norm_ (a' := ?_) ?_ ?_
        rotate_left
        ·show Act.put _ (some 61) _ = _
         simp only [Act.put, List.setIfInBounds_toArray, List.set_cons_zero, List.set_cons_succ, i64_w, i32_w]
         rfl
        refine pure_ (i := 4) (N := some 62) (v := ?_) (a' := ?_) #[true, true, true, true, true] rfl rfl (by kernel_rfl) (fun _ _ _ h => h) (Or.inl ⟨by rfl, ?_⟩) ?_ ?_
        rotate_left
        ·intro w'
         go_simp
         with_reducible rfl
        rotate_left
        ·simp only [Act.put, List.setIfInBounds_toArray, List.set_cons_zero, List.set_cons_succ, i64_w, i32_w]
         rfl
        refine done_ (by kernel_rfl) ?_
        go_upto_region 21 with (first | ((with_reducible refine gate_callee (f := 61) rfl ?_); refine goesL_ (some 65) rfl rfl Try.func61 (by kernel_rfl) rfl #[.slice A2 l2.length c2] rfl (by (try simp only [List.map_toArray, List.map_cons, List.map_nil]); first | done | rfl | (simp only [List.length_drop, List.length_take]; rfl)) ?_; (with_reducible refine (laws_toStringS.calls kj19 _ _ l2 t464 _ ?side1 ?side2 A73.out).mono ?_); (case side1 => exact xcb HR2); (case side2 => exact HC2.out); rintro e w83 ⟨v465, rfl, ho0, hb⟩; refine ⟨_, rfl, ?_⟩; replace HO_444001 := aM (Kd.R_below (xr HO_444001) hb); replace HO_449001 := aM (Kd.R_below (xr HO_449001) hb); replace HO_458001 := aM (Kd.R_below (xr HO_458001) hb); replace HO462 := aM (Kd.R_below (xr HO462) hb); have HO466 := aM (Kd.R_lower (Kd.R_new' ho0 (Kd.R_lt (xr HO_11))) (below_size xbg)); replace HO_11 := aM (Kd.R_elder' (xr HO_11) (Kd.R_base ho0) hb); replace BK428 := xbb BK428 hb; replace BK443 := xbb BK443 hb; replace BK448 := xbb BK448 hb; replace BK457 := xbb BK457 hb; replace HB := xbs hb; (try clear hb); (try clear hb2); (try clear hk); (try clear hi); (try clear ho0); obtain ⟨Ao84, co84, eo84⟩ := Kd.R_slice HO466.out; subst eo84) | ((with_reducible refine gate_callee (f := 63) rfl ?_); refine goesL_ (some 66) rfl rfl Try.func63 (by kernel_rfl) rfl #[.slice Ao43 t449.length co43, .slice Ao84 t464.length co84] rfl (by (try simp only [List.map_toArray, List.map_cons, List.map_nil]); first | done | rfl | (simp only [List.length_drop, List.length_take]; rfl)) ?_; (with_reducible refine (laws_eqStringS.calls kj19 _ _ t449 _ _ t464 true _ ?side1 ?side2 ?side3 ?side4 A74.out).mono ?_); (case side1 => repeat (first | exact (Kd.R_reads' HO_11.out).2.2 | (with_reducible refine Kd.C_alloc ?_ _) | (with_reducible refine Kd.C_drewN ?_ _) | (with_reducible refine Kd.C_drew ?_))); (case side2 => exact (Kd.R_reads' HO_11.out).2.1); (case side3 => repeat (first | exact (Kd.R_reads' HO466.out).2.2 | (with_reducible refine Kd.C_alloc ?_ _) | (with_reducible refine Kd.C_drewN ?_ _) | (with_reducible refine Kd.C_drew ?_))); (case side4 => exact (Kd.R_reads' HO466.out).2.1); rintro e w' ⟨rfl, ⟨nd, rfl⟩⟩; refine ⟨_, rfl, ?_⟩; have hnb85 := NB448_428.out; have hnc85 := NB428_448.out; have hnb86 := NB448_443.out; have hnc86 := NB443_448.out; have hnb87 := NB448_457.out; have hnc87 := NB457_448.out; have hcz88_0 : w83.cell? ⟨gb448, 0, none⟩ = some (.int .i64 t444) := xc BK448 0 rfl; have hcz88_1 : w83.cell? ⟨gb448, 1, none⟩ = some (.slice Ao40 t445.length co40) := xc BK448 1 rfl; have hfz88_0 := blk_frozen BK448.out 0; have hfz88_1 := blk_frozen BK448.out 1) | ((with_reducible refine gate_callee (f := 42) rfl ?_); refine goesL_ (some 70) rfl rfl Try.func42 (by kernel_rfl) rfl #[.agg #[.int .i64 t444, .slice Ao40 t445.length co40], .int .i64 1] rfl (by (try simp only [List.map_toArray, List.map_cons, List.map_nil]); first | done | rfl | (simp only [List.length_drop, List.length_take]; rfl)) ?_; (with_reducible refine (laws_markDisk.calls kj19 t444 (fun k_ => some k_ = (.slice Ao40 t445.length co40 : Value).ownBlock) (.slice Ao40 t445.length co40) t445 1 t468 t469 w _ ?side1 ?side2 A76.out).mono ?_); (case side1 => repeat (first | (with_reducible first | exact HB.out | apply below_alloc | apply pw_below_drewN | apply below_drew1 | refine below_set ?_ GE428.out | refine below_set ?_ GE443.out | refine below_set ?_ GE448.out | refine below_set ?_ GE457.out) | exact HB.out)); (case side2 => exact Kd.R_tight rfl HO_449001.out); rintro e w89 ⟨rfl, hy0, hb, hkp⟩; refine ⟨_, rfl, ?_⟩; have n0_ := aM (Kd.R_mono (ok' := fun k_ => some k_ ≠ (.slice Ao84 t464.length co84 : Value).ownBlock) (Kd.R_keptB ((Kd.R_apart' HO_11.out (Kd.R_typed HO_449001.out) (by decide))) hkp (fun k_ hk_ hs_ => (hk_.2) hs_)) (fun k_ hk_ => hk_.1.1.2)); have n1_ := aM (Kd.R_mono (ok' := fun k_ => some k_ ≠ (.slice Ao40 t445.length co40 : Value).ownBlock ∧ some k_ ≠ (.slice Ao50 t453.length co50 : Value).ownBlock ∧ some k_ ≠ (.slice Ao81 t460.length co81 : Value).ownBlock) (Kd.R_keptB (HO_444001.out) hkp (fun k_ hk_ hs_ => (hk_.1.1) hs_)) (fun k_ hk_ => ⟨hk_.1.1.1, hk_.1.1.2, hk_.1.2⟩)); have n2_ := aM (Kd.R_reok rfl hy0 (fun k_ e_ => HO_449001.out.1 k_ e_)); have n3_ := aM (Kd.R_mono (ok' := fun k_ => some k_ ≠ (.slice Ao33 t439.length co33 : Value).ownBlock ∧ some k_ ≠ (.slice Ao40 t445.length co40 : Value).ownBlock ∧ some k_ ≠ (.slice Ao81 t460.length co81 : Value).ownBlock) (Kd.R_keptB (HO_458001.out) hkp (fun k_ hk_ hs_ => (hk_.1.2) hs_)) (fun k_ hk_ => ⟨hk_.1.1.1, hk_.1.1.2, hk_.1.2⟩)); have n4_ := aM (blk_kept xblk hkp (fun hs_ => (fun e_ => (Kd.R_ne HO_449001.out BK428.out (by decide)) e_) hs_)); have n5_ := aM (blk_kept xblk hkp (fun hs_ => (fun e_ => (Kd.R_ne HO_449001.out BK443.out (by decide)) e_) hs_)); have n6_ := aM (blk_kept xblk hkp (fun hs_ => (fun e_ => (Kd.R_ne HO_449001.out BK448.out (by decide)) e_) hs_)); have n7_ := aM (blk_kept xblk hkp (fun hs_ => (fun e_ => (Kd.R_ne HO_449001.out BK457.out (by decide)) e_) hs_)); have n8_ := aM (Kd.R_mono (ok' := fun k_ => some k_ ≠ (.slice Ao33 t439.length co33 : Value).ownBlock ∧ some k_ ≠ (.slice Ao40 t445.length co40 : Value).ownBlock ∧ some k_ ≠ (.slice Ao50 t453.length co50 : Value).ownBlock) (Kd.R_keptB (HO462.out) hkp (fun k_ hk_ hs_ => (hk_.1.2) hs_)) (fun k_ hk_ => ⟨hk_.1.1.1.2, hk_.1.1.2, hk_.1.2⟩)); have n9_ := aM (Kd.R_mono (ok' := fun k_ => some k_ ≠ (.slice Ao43 t449.length co43 : Value).ownBlock) (Kd.R_keptB ((Kd.R_apart' HO466.out (Kd.R_typed HO_449001.out) (by decide))) hkp (fun k_ hk_ hs_ => (hk_.2) hs_)) (fun k_ hk_ => hk_.1.1.2)); have n10_ := aM (hb); clear HO_11; clear HO_444001; clear HO_449001; clear HO_458001; clear BK428; clear BK443; clear BK448; clear BK457; clear HO462; clear HO466; clear HB; have HO_11 := n0_; have HO_444001 := n1_; have HO_449001 := n2_; have HO_458001 := n3_; have BK428 := n4_; have BK443 := n5_; have BK448 := n6_; have BK457 := n7_; have HO462 := n8_; have HO466 := n9_; have HB := n10_; clear n0_ n1_ n2_ n3_ n4_ n5_ n6_ n7_ n8_ n9_ n10_; (try clear hb); (try clear hkp); (try clear hy0)) | ((with_reducible refine gate_callee (f := 64) rfl ?_); refine goesL_ (some 73) rfl rfl Try.func64 (by kernel_rfl) rfl #[.slice Ao43 t449.length co43, .int .i64 t468] rfl (by (try simp only [List.map_toArray, List.map_cons, List.map_nil]); first | done | rfl | (simp only [List.length_drop, List.length_take]; rfl)) ?_; (with_reducible refine (laws_markStringS.calls kj19 (fun k_ => some k_ = (.slice Ao43 t449.length co43 : Value).ownBlock) (.slice Ao43 t449.length co43) t449 t468 t470 t471 w _ ?side1 ?side2 A77.out).mono ?_); (case side1 => repeat (first | (with_reducible first | exact HB.out | apply below_alloc | apply pw_below_drewN | apply below_drew1 | refine below_set ?_ GE428.out | refine below_set ?_ GE443.out | refine below_set ?_ GE448.out | refine below_set ?_ GE457.out) | exact HB.out)); (case side2 => exact Kd.R_tight rfl HO_11.out); rintro e w90 ⟨rfl, hy0, hb, hkp⟩; refine ⟨_, rfl, ?_⟩; have n0_ := aM (Kd.R_reok rfl hy0 (fun k_ e_ => HO_11.out.1 k_ e_)); have n1_ := aM (Kd.R_mono (ok' := fun k_ => some k_ ≠ (.slice Ao40 t445.length co40 : Value).ownBlock ∧ some k_ ≠ (.slice Ao50 t453.length co50 : Value).ownBlock ∧ some k_ ≠ (.slice Ao81 t460.length co81 : Value).ownBlock) (Kd.R_keptB ((Kd.R_apart' HO_444001.out (Kd.R_typed HO_11.out) (by decide))) hkp (fun k_ hk_ hs_ => (hk_.2) hs_)) (fun k_ hk_ => ⟨hk_.1.1.1, hk_.1.1.2.1, hk_.1.1.2.2⟩)); have n2_ := aM (Kd.R_mono (ok' := fun k_ => some k_ ≠ (.slice Ao33 t439.length co33 : Value).ownBlock ∧ some k_ ≠ (.slice Ao50 t453.length co50 : Value).ownBlock ∧ some k_ ≠ (.slice Ao81 t460.length co81 : Value).ownBlock) (Kd.R_keptB ((Kd.R_apart' HO_449001.out (Kd.R_typed HO_11.out) (by decide))) hkp (fun k_ hk_ hs_ => (hk_.2) hs_)) (fun k_ hk_ => ⟨hk_.1.1.1.1, hk_.1.1.1.2, hk_.1.1.2⟩)); have n3_ := aM (Kd.R_mono (ok' := fun k_ => some k_ ≠ (.slice Ao33 t439.length co33 : Value).ownBlock ∧ some k_ ≠ (.slice Ao40 t445.length co40 : Value).ownBlock ∧ some k_ ≠ (.slice Ao81 t460.length co81 : Value).ownBlock) (Kd.R_keptB ((Kd.R_apart' HO_458001.out (Kd.R_typed HO_11.out) (by decide))) hkp (fun k_ hk_ hs_ => (hk_.2) hs_)) (fun k_ hk_ => ⟨hk_.1.1.1, hk_.1.1.2.1, hk_.1.1.2.2⟩)); have n4_ := aM (blk_kept xblk hkp (fun hs_ => (fun e_ => (Kd.R_ne HO_11.out BK428.out (by decide)) e_) hs_)); have n5_ := aM (blk_kept xblk hkp (fun hs_ => (fun e_ => (Kd.R_ne HO_11.out BK443.out (by decide)) e_) hs_)); have n6_ := aM (blk_kept xblk hkp (fun hs_ => (fun e_ => (Kd.R_ne HO_11.out BK448.out (by decide)) e_) hs_)); have n7_ := aM (blk_kept xblk hkp (fun hs_ => (fun e_ => (Kd.R_ne HO_11.out BK457.out (by decide)) e_) hs_)); have n8_ := aM (Kd.R_mono (ok' := fun k_ => some k_ ≠ (.slice Ao33 t439.length co33 : Value).ownBlock ∧ some k_ ≠ (.slice Ao40 t445.length co40 : Value).ownBlock ∧ some k_ ≠ (.slice Ao50 t453.length co50 : Value).ownBlock) (Kd.R_keptB ((Kd.R_apart' HO462.out (Kd.R_typed HO_11.out) (by decide))) hkp (fun k_ hk_ hs_ => (hk_.2) hs_)) (fun k_ hk_ => ⟨hk_.1.1.1, hk_.1.1.2.1, hk_.1.1.2.2⟩)); have n9_ := aM (Kd.R_mono (ok' := fun k_ => some k_ ≠ (.slice Ao43 t449.length co43 : Value).ownBlock) (Kd.R_keptB (HO466.out) hkp (fun k_ hk_ hs_ => (hk_) hs_)) (fun k_ hk_ => hk_.1)); have n10_ := aM (hb); clear HO_11; clear HO_444001; clear HO_449001; clear HO_458001; clear BK428; clear BK443; clear BK448; clear BK457; clear HO462; clear HO466; clear HB; have HO_11 := n0_; have HO_444001 := n1_; have HO_449001 := n2_; have HO_458001 := n3_; have BK428 := n4_; have BK443 := n5_; have BK448 := n6_; have BK457 := n7_; have HO462 := n8_; have HO466 := n9_; have HB := n10_; clear n0_ n1_ n2_ n3_ n4_ n5_ n6_ n7_ n8_ n9_ n10_; (try clear hb); (try clear hkp); (try clear hy0)))
        (try simp only [Act.put, List.setIfInBounds_toArray, List.set_cons_zero, List.set_cons_succ])
        go_cut [86] (fun v86 wc => ∃ (kq : Nat) (x86_77 : Bool), v86 = .bool x86_77 ∧ Aside0 (laws_FnExactJournalAdd.j1 kq a1 l2 t442 x86_77 a0_0 l0_1 t438 t439 t452 t453 = some r) ∧ Aside0 (kq ≤ kj19) ∧ Aside0 (Kd.R k134 134 wc w.heap.size (fun k_ => some k_ ≠ ((.slice Ao40 t445.length co40) : Value).ownBlock ∧ some k_ ≠ ((.slice Ao50 t453.length co50) : Value).ownBlock) (.slice Ao33 t439.length co33) t439) ∧ Aside0 (Kd.R k134 134 wc w.heap.size (fun k_ => some k_ ≠ ((.slice Ao33 t439.length co33) : Value).ownBlock ∧ some k_ ≠ ((.slice Ao50 t453.length co50) : Value).ownBlock) (.slice Ao40 t445.length co40) t469) ∧ Aside0 (Kd.R k134 134 wc w.heap.size (fun k_ => some k_ ≠ ((.slice Ao33 t439.length co33) : Value).ownBlock ∧ some k_ ≠ ((.slice Ao40 t445.length co40) : Value).ownBlock) (.slice Ao50 t453.length co50) t453) ∧ Aside0 (wc.heap[gb428]? = some (.cells #[.int .i64 a0_0, (.slice A0_1 l0_1.length c0_1)] 66 (0, 0))) ∧ Aside0 (wc.heap[gb443]? = some (.cells #[.int .i64 t438, (.slice Ao33 t439.length co33)] 70 (0, 0))) ∧ Aside0 (wc.heap[gb448]? = some (.cells #[.int .i64 t444, (.slice Ao40 t445.length co40)] 70 (0, 0))) ∧ Aside0 (wc.heap[gb457]? = some (.cells #[.int .i64 t452, (.slice Ao50 t453.length co50)] 70 (0, 0))) ∧ Aside0 (Below w.heap.size w wc))
        case first =>
         have H := HC78.out; clear HC78
         by_cases c91 : t470 < 0
         ·rw [if_pos c91] at H
          have c91b0 : decide (t470 < 0) = true := decide_eq_true c91; clear c91
          (first | rw [c91b0] | (simp only [i64_w, i32_w]; rw [c91b0]) | skip)
          have H' := aM H
          clear H
          go_wp2
          go_meet
          case rel => exact ⟨_, (true), (by first | rfl | (simp; done) | (simp [*]; done)), H', ⟨by have := HJ19.out; first | omega | exact Nat.le_refl _⟩, ⟨by (with_reducible repeat (first | apply Kd.R_alloc | apply Kd.R_drewN | apply Kd.R_drew)); exact Kd.R_mono HO_444001.out (fun _ hk => ⟨hk.1, hk.2.1⟩)⟩, ⟨by (with_reducible repeat (first | apply Kd.R_alloc | apply Kd.R_drewN | apply Kd.R_drew)); exact Kd.R_mono HO_449001.out (fun _ hk => ⟨hk.1, hk.2.1⟩)⟩, ⟨by (with_reducible repeat (first | apply Kd.R_alloc | apply Kd.R_drewN | apply Kd.R_drew)); exact Kd.R_mono HO_458001.out (fun _ hk => ⟨hk.1, hk.2.1⟩)⟩, ⟨xblk⟩, ⟨xblk⟩, ⟨xblk⟩, ⟨xblk⟩, ⟨xbg⟩⟩
         ·rw [if_neg c91] at H
          have c91b0 : decide (t470 < 0) = false := decide_eq_false c91; clear c91
          (first | rw [c91b0] | (simp only [i64_w, i32_w]; rw [c91b0]) | skip)
          replace H := Option.bind_eq_some_iff.mp H
          obtain ⟨t472, A920, H⟩ := H
          replace H : (if t472 = true then (laws_FnExactJournalAdd.j1 kj19 a1 l2 t442 (t456 != t442) a0_0 l0_1 t438 t439 t452 t453) else (laws_FnExactJournalAdd.j1 kj19 a1 l2 t442 true a0_0 l0_1 t438 t439 t452 t453)) = some r := H; have A92 := aM A920; clear A920
          by_cases c93 : t472 = true
          ·subst c93
           have H1 : (laws_FnExactJournalAdd.j1 kj19 a1 l2 t442 (t456 != t442) a0_0 l0_1 t438 t439 t452 t453) = some r := by rw [if_pos rfl] at H; exact H
           clear H; have H := H1; clear H1
           have H' := aM H
           clear H; have hnb94 := NB457_428.out; have hnc94 := NB428_457.out; have hnb95 := NB457_443.out; have hnc95 := NB443_457.out; have hnb96 := NB457_448.out; have hnc96 := NB448_457.out; have hcz97_0 : w90.cell? ⟨gb457, 0, none⟩ = some (.int .i64 t452) := xc BK457 0 rfl; have hcz97_1 : w90.cell? ⟨gb457, 1, none⟩ = some (.slice Ao50 t453.length co50) := xc BK457 1 rfl; have hfz97_0 := blk_frozen BK457.out 0; have hfz97_1 := blk_frozen BK457.out 1; have hnb98 := NB443_428.out; have hnc98 := NB428_443.out; have hnb99 := NB443_448.out; have hnc99 := NB448_443.out; have hcz100_0 : w90.cell? ⟨gb443, 0, none⟩ = some (.int .i64 t438) := xc BK443 0 rfl; have hcz100_1 : w90.cell? ⟨gb443, 1, none⟩ = some (.slice Ao33 t439.length co33) := xc BK443 1 rfl; have hfz100_0 := blk_frozen BK443.out 0; have hfz100_1 := blk_frozen BK443.out 1
           go_wp2_with (first | (go_at_call 41; (with_reducible refine (laws_eqDisk.calls kj19 t452 _ _ t453 t438 _ _ t439 true _ ?side1 ?side2 ?side3 ?side4 A92.out).mono ?_); (case side1 => repeat (first | exact (Kd.R_reads' HO_458001.out).2.2 | (with_reducible refine Kd.C_alloc ?_ _) | (with_reducible refine Kd.C_drewN ?_ _) | (with_reducible refine Kd.C_drew ?_))); (case side2 => exact (Kd.R_reads' HO_458001.out).2.1); (case side3 => repeat (first | exact (Kd.R_reads' HO_444001.out).2.2 | (with_reducible refine Kd.C_alloc ?_ _) | (with_reducible refine Kd.C_drewN ?_ _) | (with_reducible refine Kd.C_drew ?_))); (case side4 => exact (Kd.R_reads' HO_444001.out).2.1); rintro e w101 ⟨rfl, hb⟩; replace HO_11 := aM (Kd.R_below (xr HO_11) hb); replace HO_444001 := aM (Kd.R_below (xr HO_444001) hb); replace HO_449001 := aM (Kd.R_below (xr HO_449001) hb); replace HO_458001 := aM (Kd.R_below (xr HO_458001) hb); replace HO462 := aM (Kd.R_below (xr HO462) hb); replace HO466 := aM (Kd.R_below (xr HO466) hb); replace BK428 := xbb BK428 hb; replace BK443 := xbb BK443 hb; replace BK448 := xbb BK448 hb; replace BK457 := xbb BK457 hb; replace HB := xbs hb; (try clear hb); (try clear hb2); (try clear hk); (try clear hi)))
           go_meet
           case rel => exact ⟨_, ((t456 != t442)), (by first | rfl | (simp; done) | (simp [*]; done)), H', ⟨by have := HJ19.out; first | omega | exact Nat.le_refl _⟩, ⟨by (with_reducible repeat (first | apply Kd.R_alloc | apply Kd.R_drewN | apply Kd.R_drew)); exact Kd.R_mono HO_444001.out (fun _ hk => ⟨hk.1, hk.2.1⟩)⟩, ⟨by (with_reducible repeat (first | apply Kd.R_alloc | apply Kd.R_drewN | apply Kd.R_drew)); exact Kd.R_mono HO_449001.out (fun _ hk => ⟨hk.1, hk.2.1⟩)⟩, ⟨by (with_reducible repeat (first | apply Kd.R_alloc | apply Kd.R_drewN | apply Kd.R_drew)); exact Kd.R_mono HO_458001.out (fun _ hk => ⟨hk.1, hk.2.1⟩)⟩, ⟨xblk⟩, ⟨xblk⟩, ⟨xblk⟩, ⟨xblk⟩, ⟨xbg⟩⟩
          ·replace c93 := Bool.eq_false_iff.mpr c93
           subst c93
           have H1 : (laws_FnExactJournalAdd.j1 kj19 a1 l2 t442 true a0_0 l0_1 t438 t439 t452 t453) = some r := by rw [if_neg (show ¬ (false = true) by decide)] at H; exact H
           clear H; have H := H1; clear H1
           have H' := aM H
           clear H; have hnb102 := NB457_428.out; have hnc102 := NB428_457.out; have hnb103 := NB457_443.out; have hnc103 := NB443_457.out; have hnb104 := NB457_448.out; have hnc104 := NB448_457.out; have hcz105_0 : w90.cell? ⟨gb457, 0, none⟩ = some (.int .i64 t452) := xc BK457 0 rfl; have hcz105_1 : w90.cell? ⟨gb457, 1, none⟩ = some (.slice Ao50 t453.length co50) := xc BK457 1 rfl; have hfz105_0 := blk_frozen BK457.out 0; have hfz105_1 := blk_frozen BK457.out 1; have hnb106 := NB443_428.out; have hnc106 := NB428_443.out; have hnb107 := NB443_448.out; have hnc107 := NB448_443.out; have hcz108_0 : w90.cell? ⟨gb443, 0, none⟩ = some (.int .i64 t438) := xc BK443 0 rfl; have hcz108_1 : w90.cell? ⟨gb443, 1, none⟩ = some (.slice Ao33 t439.length co33) := xc BK443 1 rfl; have hfz108_0 := blk_frozen BK443.out 0; have hfz108_1 := blk_frozen BK443.out 1
           go_wp2_with (first | (go_at_call 41; (with_reducible refine (laws_eqDisk.calls kj19 t452 _ _ t453 t438 _ _ t439 false _ ?side1 ?side2 ?side3 ?side4 A92.out).mono ?_); (case side1 => repeat (first | exact (Kd.R_reads' HO_458001.out).2.2 | (with_reducible refine Kd.C_alloc ?_ _) | (with_reducible refine Kd.C_drewN ?_ _) | (with_reducible refine Kd.C_drew ?_))); (case side2 => exact (Kd.R_reads' HO_458001.out).2.1); (case side3 => repeat (first | exact (Kd.R_reads' HO_444001.out).2.2 | (with_reducible refine Kd.C_alloc ?_ _) | (with_reducible refine Kd.C_drewN ?_ _) | (with_reducible refine Kd.C_drew ?_))); (case side4 => exact (Kd.R_reads' HO_444001.out).2.1); rintro e w109 ⟨rfl, hb⟩; replace HO_11 := aM (Kd.R_below (xr HO_11) hb); replace HO_444001 := aM (Kd.R_below (xr HO_444001) hb); replace HO_449001 := aM (Kd.R_below (xr HO_449001) hb); replace HO_458001 := aM (Kd.R_below (xr HO_458001) hb); replace HO462 := aM (Kd.R_below (xr HO462) hb); replace HO466 := aM (Kd.R_below (xr HO466) hb); replace BK428 := xbb BK428 hb; replace BK443 := xbb BK443 hb; replace BK448 := xbb BK448 hb; replace BK457 := xbb BK457 hb; replace HB := xbs hb; (try clear hb); (try clear hb2); (try clear hk); (try clear hi)))
           go_meet
           case rel => exact ⟨_, (true), (by first | rfl | (simp; done) | (simp [*]; done)), H', ⟨by have := HJ19.out; first | omega | exact Nat.le_refl _⟩, ⟨by (with_reducible repeat (first | apply Kd.R_alloc | apply Kd.R_drewN | apply Kd.R_drew)); exact Kd.R_mono HO_444001.out (fun _ hk => ⟨hk.1, hk.2.1⟩)⟩, ⟨by (with_reducible repeat (first | apply Kd.R_alloc | apply Kd.R_drewN | apply Kd.R_drew)); exact Kd.R_mono HO_449001.out (fun _ hk => ⟨hk.1, hk.2.1⟩)⟩, ⟨by (with_reducible repeat (first | apply Kd.R_alloc | apply Kd.R_drewN | apply Kd.R_drew)); exact Kd.R_mono HO_458001.out (fun _ hk => ⟨hk.1, hk.2.1⟩)⟩, ⟨xblk⟩, ⟨xblk⟩, ⟨xblk⟩, ⟨xblk⟩, ⟨xbg⟩⟩
        case rest =>
         clear HC78
         try clear c1
         try clear c2
         try clear p2
         try clear c3
         try clear c4
         try clear c5
         try clear c5b0
         try clear c6
         try clear c7
         try clear c8
         try clear c9
         try clear c10
         try clear c10b0
         try clear c12
         try clear c31
         try clear c37
         try clear c38
         try clear c39
         try clear c41
         try clear c42
         try clear c46
         try clear c47
         try clear c48
         try clear c52
         try clear c53
         try clear c54
         try clear c55
         try clear c57
         try clear c58
         try clear c59
         try clear c61
         try clear c62
         try clear c63
         try clear c64
         try clear c65
         try clear c66
         try clear c69
         try clear c72
         try clear c75
         try clear c85
         try clear c86
         try clear c87
         try clear c91
         try clear c91b0
         try clear c93
         try clear c94
         try clear c95
         try clear c96
         try clear c98
         try clear c99
         try clear c102
         try clear c103
         try clear c104
         try clear c106
         try clear c107
         try clear hcz100_0
         try clear hcz100_1
         try clear hcz105_0
         try clear hcz105_1
         try clear hcz108_0
         try clear hcz108_1
         try clear hcz12_0
         try clear hcz12_1
         try clear hcz22_0
         try clear hcz22_1
         try clear hcz24_0
         try clear hcz24_1
         try clear hcz32_0
         try clear hcz32_1
         try clear hcz34_0
         try clear hcz34_1
         try clear hcz39_0
         try clear hcz39_1
         try clear hcz42_0
         try clear hcz42_1
         try clear hcz49_0
         try clear hcz49_1
         try clear hcz56_0
         try clear hcz56_1
         try clear hcz59_0
         try clear hcz59_1
         try clear hcz64_0
         try clear hcz64_1
         try clear hcz67_0
         try clear hcz67_1
         try clear hcz7_0
         try clear hcz7_1
         try clear hcz88_0
         try clear hcz88_1
         try clear hcz97_0
         try clear hcz97_1
         try clear hfz100_0
         try clear hfz100_1
         try clear hfz105_0
         try clear hfz105_1
         try clear hfz108_0
         try clear hfz108_1
         try clear hfz12_0
         try clear hfz12_1
         try clear hfz22_0
         try clear hfz22_1
         try clear hfz24_0
         try clear hfz24_1
         try clear hfz32_0
         try clear hfz32_1
         try clear hfz34_0
         try clear hfz34_1
         try clear hfz39_0
         try clear hfz39_1
         try clear hfz42_0
         try clear hfz42_1
         try clear hfz49_0
         try clear hfz49_1
         try clear hfz56_0
         try clear hfz56_1
         try clear hfz59_0
         try clear hfz59_1
         try clear hfz64_0
         try clear hfz64_1
         try clear hfz67_0
         try clear hfz67_1
         try clear hfz7_0
         try clear hfz7_1
         try clear hfz88_0
         try clear hfz88_1
         try clear hfz97_0
         try clear hfz97_1
         try clear p2
         obtain ⟨kq, x86_77, rfl, HA, HJ77, HO_444001, HO_449001, HO_458001, BK428, BK443, BK448, BK457, HB⟩ := hcut
         have hl449001_77 := (Kd.R_reads' HO_449001.out).1
         rw [hl449001_77] at HO_449001
         (try simp only [hl449001_77])
         (try simp only [hl449001_77] at BK428)
         (try simp only [hl449001_77] at BK443)
         (try simp only [hl449001_77] at BK448)
         (try simp only [hl449001_77] at BK457)
         (try simp only [hl449001_77] at HO_444001)
         (try simp only [hl449001_77] at HO_458001)
         cases kq with
         | zero => exact absurd HA.out (by simp [laws_FnExactJournalAdd.j1])
         | succ kj77 =>
          have H := HA.out; clear HA
          simp only [laws_FnExactJournalAdd.j1] at H
          by_cases c110 : x86_77 = true
          ·subst c110
           have H1 : (some false) = some r := by rw [if_pos rfl] at H; exact H
           clear H; have H := H1; clear H1
           obtain rfl := Option.some.inj H
           go_wp2
           go_ret
           exact ⟨by first | rfl | (simp [errW_none, errW_some] <;> rfl) | (simp [*, errW_none, errW_some] <;> rfl), xbg⟩
          ·replace c110 := Bool.eq_false_iff.mpr c110
           subst c110
           have H1 : ((laws_markDisk.f kj77 t452 t453 1).bind fun bt473 => ((laws_heldDisk.f kj77 t452 bt473.2 1).bind fun t475 => (if t475 < 0 then (some false) else (if t475 = bt473.1 then ((laws_toDisk.f kj77 a0_0 l0_1).bind fun bt476 => ((laws_toStringS.f kj77 l2).bind fun t480 => ((impl_JournalAdd.f kj77 bt476.1 bt476.2 a1 t480).bind fun bt483 => ((laws_eqDisk.f kj77 bt483.1 bt483.2.1 t438 t439).bind fun t489 => (if t489 = true then (laws_FnExactJournalAdd.j2 kj77 bt473.1 (bt483.2.2 != t442) t452 bt473.2) else (laws_FnExactJournalAdd.j2 kj77 bt473.1 true t452 bt473.2)))))) else (some false))))) = some r := by rw [if_neg (show ¬ (false = true) by decide)] at H; exact H
           clear H; have H := H1; clear H1; replace H := Option.bind_eq_some_iff.mp H
           obtain ⟨⟨t473, t474⟩, A1110, H⟩ := H
           replace H : ((laws_heldDisk.f kj77 t452 t474 1).bind fun t475 => (if t475 < 0 then (some false) else (if t475 = t473 then ((laws_toDisk.f kj77 a0_0 l0_1).bind fun bt476 => ((laws_toStringS.f kj77 l2).bind fun t480 => ((impl_JournalAdd.f kj77 bt476.1 bt476.2 a1 t480).bind fun bt483 => ((laws_eqDisk.f kj77 bt483.1 bt483.2.1 t438 t439).bind fun t489 => (if t489 = true then (laws_FnExactJournalAdd.j2 kj77 t473 (bt483.2.2 != t442) t452 t474) else (laws_FnExactJournalAdd.j2 kj77 t473 true t452 t474)))))) else (some false)))) = some r := H; have A111 := aM A1110; clear A1110; replace H := Option.bind_eq_some_iff.mp H
           obtain ⟨t475, A1120, H⟩ := H
           replace H : (if t475 < 0 then (some false) else (if t475 = t473 then ((laws_toDisk.f kj77 a0_0 l0_1).bind fun bt476 => ((laws_toStringS.f kj77 l2).bind fun t480 => ((impl_JournalAdd.f kj77 bt476.1 bt476.2 a1 t480).bind fun bt483 => ((laws_eqDisk.f kj77 bt483.1 bt483.2.1 t438 t439).bind fun t489 => (if t489 = true then (laws_FnExactJournalAdd.j2 kj77 t473 (bt483.2.2 != t442) t452 t474) else (laws_FnExactJournalAdd.j2 kj77 t473 true t452 t474)))))) else (some false))) = some r := H; have A112 := aM A1120; clear A1120
           by_cases c113 : t475 < 0
           ·rw [if_pos c113] at H
            have c113b0 : decide (t475 < 0) = true := decide_eq_true c113; clear c113
            obtain rfl := Option.some.inj H
            have hnb114 := NB457_428.out; have hnc114 := NB428_457.out; have hnb115 := NB457_443.out; have hnc115 := NB443_457.out; have hnb116 := NB457_448.out; have hnc116 := NB448_457.out; have hcz117_0 : wc.cell? ⟨gb457, 0, none⟩ = some (.int .i64 t452) := xc BK457 0 rfl; have hcz117_1 : wc.cell? ⟨gb457, 1, none⟩ = some (.slice Ao50 t453.length co50) := xc BK457 1 rfl; have hfz117_0 := blk_frozen BK457.out 0; have hfz117_1 := blk_frozen BK457.out 1
            go_wp2_with (first | ((with_reducible refine gate_callee (f := 42) rfl ?_); refine goesL_ (some 89) rfl rfl Try.func42 (by kernel_rfl) rfl #[.agg #[.int .i64 t452, .slice Ao50 t453.length co50], .int .i64 1] rfl (by (try simp only [List.map_toArray, List.map_cons, List.map_nil]); first | done | rfl | (simp only [List.length_drop, List.length_take]; rfl)) ?_; (with_reducible refine (laws_markDisk.calls kj77 t452 (fun k_ => some k_ = (.slice Ao50 t453.length co50 : Value).ownBlock) (.slice Ao50 t453.length co50) t453 1 t473 t474 w _ ?side1 ?side2 A111.out).mono ?_); (case side1 => repeat (first | (with_reducible first | exact HB.out | apply below_alloc | apply pw_below_drewN | apply below_drew1 | refine below_set ?_ GE428.out | refine below_set ?_ GE443.out | refine below_set ?_ GE448.out | refine below_set ?_ GE457.out) | exact HB.out)); (case side2 => exact Kd.R_tight rfl HO_458001.out); rintro e w118 ⟨rfl, hy0, hb, hkp⟩; refine ⟨_, rfl, ?_⟩; have n0_ := aM (Kd.R_mono (ok' := fun k_ => some k_ ≠ (.slice Ao40 t469.length co40 : Value).ownBlock ∧ some k_ ≠ (.slice Ao50 t453.length co50 : Value).ownBlock) (Kd.R_keptB (HO_444001.out) hkp (fun k_ hk_ hs_ => (hk_.2) hs_)) (fun k_ hk_ => ⟨hk_.1.1, hk_.1.2⟩)); have n1_ := aM (Kd.R_mono (ok' := fun k_ => some k_ ≠ (.slice Ao33 t439.length co33 : Value).ownBlock ∧ some k_ ≠ (.slice Ao50 t453.length co50 : Value).ownBlock) (Kd.R_keptB (HO_449001.out) hkp (fun k_ hk_ hs_ => (hk_.2) hs_)) (fun k_ hk_ => ⟨hk_.1.1, hk_.1.2⟩)); have n2_ := aM (Kd.R_reok rfl hy0 (fun k_ e_ => HO_458001.out.1 k_ e_)); have n3_ := aM (blk_kept xblk hkp (fun hs_ => (fun e_ => (Kd.R_ne HO_458001.out BK428.out (by decide)) e_) hs_)); have n4_ := aM (blk_kept xblk hkp (fun hs_ => (fun e_ => (Kd.R_ne HO_458001.out BK443.out (by decide)) e_) hs_)); have n5_ := aM (blk_kept xblk hkp (fun hs_ => (fun e_ => (Kd.R_ne HO_458001.out BK448.out (by decide)) e_) hs_)); have n6_ := aM (blk_kept xblk hkp (fun hs_ => (fun e_ => (Kd.R_ne HO_458001.out BK457.out (by decide)) e_) hs_)); have n7_ := aM (hb); clear HO_444001; clear HO_449001; clear HO_458001; clear BK428; clear BK443; clear BK448; clear BK457; clear HB; have HO_444001 := n0_; have HO_449001 := n1_; have HO_458001 := n2_; have BK428 := n3_; have BK443 := n4_; have BK448 := n5_; have BK457 := n6_; have HB := n7_; clear n0_ n1_ n2_ n3_ n4_ n5_ n6_ n7_; (try clear hb); (try clear hkp); (try clear hy0); have hcz119_0 : w118.cell? ⟨gb457, 0, none⟩ = some (.int .i64 t452) := xc BK457 0 rfl; have hcz119_1 : w118.cell? ⟨gb457, 1, none⟩ = some (.slice Ao50 t453.length co50) := xc BK457 1 rfl; have hfz119_0 := blk_frozen BK457.out 0; have hfz119_1 := blk_frozen BK457.out 1) | ((with_reducible refine gate_callee (f := 43) rfl ?_); refine goesL_ (some 92) rfl rfl Try.func43 (by kernel_rfl) rfl #[.agg #[.int .i64 t452, .slice Ao50 t474.length co50], .int .i64 1] rfl (by (try simp only [List.map_toArray, List.map_cons, List.map_nil]); first | done | (rw [show t474.length = t453.length from (Kd.R_reads' HO_458001.out).1.symm] <;> rfl) | rfl | (simp only [List.length_drop, List.length_take]; rfl)) ?_; (with_reducible refine (laws_heldDisk.calls kj77 t452 _ _ t474 1 t475 _ ?side1 ?side2 A112.out).mono ?_); (case side1 => repeat (first | exact (Kd.R_reads' HO_458001.out).2.2 | (with_reducible refine Kd.C_alloc ?_ _) | (with_reducible refine Kd.C_drewN ?_ _) | (with_reducible refine Kd.C_drew ?_))); (case side2 => rw [show t474.length = t453.length from (Kd.R_reads' HO_458001.out).1.symm]; exact (Kd.R_reads' HO_458001.out).2.1); rintro e w120 ⟨rfl, hb⟩; refine ⟨_, rfl, ?_⟩; replace HO_444001 := aM (Kd.R_below (xr HO_444001) hb); replace HO_449001 := aM (Kd.R_below (xr HO_449001) hb); replace HO_458001 := aM (Kd.R_below (xr HO_458001) hb); replace BK428 := xbb BK428 hb; replace BK443 := xbb BK443 hb; replace BK448 := xbb BK448 hb; replace BK457 := xbb BK457 hb; replace HB := xbs hb; (try clear hb); (try clear hb2); (try clear hk); (try clear hi)))
            go_ret
            exact ⟨by first | rfl | (simp [errW_none, errW_some] <;> rfl) | (simp [*, errW_none, errW_some] <;> rfl), xbg⟩
           ·rw [if_neg c113] at H
            have c113b0 : decide (t475 < 0) = false := decide_eq_false c113; clear c113
            by_cases c121 : t475 = t473
            ·rw [if_pos c121] at H
             have c121b0 : (t475 == t473) = true := beq_iff_eq.mpr c121; have c121b1 : (t475 != t473) = false := bne_eq_false_iff_eq.mpr c121; clear c121; replace H := Option.bind_eq_some_iff.mp H
             obtain ⟨⟨t476, t477⟩, A1220, H⟩ := H
             replace H : ((laws_toStringS.f kj77 l2).bind fun t480 => ((impl_JournalAdd.f kj77 t476 t477 a1 t480).bind fun bt483 => ((laws_eqDisk.f kj77 bt483.1 bt483.2.1 t438 t439).bind fun t489 => (if t489 = true then (laws_FnExactJournalAdd.j2 kj77 t473 (bt483.2.2 != t442) t452 t474) else (laws_FnExactJournalAdd.j2 kj77 t473 true t452 t474))))) = some r := H; have A122 := aM A1220; clear A1220; replace H := Option.bind_eq_some_iff.mp H
             obtain ⟨t480, A1230, H⟩ := H
             replace H : ((impl_JournalAdd.f kj77 t476 t477 a1 t480).bind fun bt483 => ((laws_eqDisk.f kj77 bt483.1 bt483.2.1 t438 t439).bind fun t489 => (if t489 = true then (laws_FnExactJournalAdd.j2 kj77 t473 (bt483.2.2 != t442) t452 t474) else (laws_FnExactJournalAdd.j2 kj77 t473 true t452 t474)))) = some r := H; have A123 := aM A1230; clear A1230; replace H := Option.bind_eq_some_iff.mp H
             obtain ⟨⟨t483, t484, t487⟩, A1240, H⟩ := H
             replace H : ((laws_eqDisk.f kj77 t483 t484 t438 t439).bind fun t489 => (if t489 = true then (laws_FnExactJournalAdd.j2 kj77 t473 (t487 != t442) t452 t474) else (laws_FnExactJournalAdd.j2 kj77 t473 true t452 t474))) = some r := H; have A124 := aM A1240; clear A1240; have HC125 := aM H; clear H; have hnb126 := NB457_428.out; have hnc126 := NB428_457.out; have hnb127 := NB457_443.out; have hnc127 := NB443_457.out; have hnb128 := NB457_448.out; have hnc128 := NB448_457.out; have hcz129_0 : wc.cell? ⟨gb457, 0, none⟩ = some (.int .i64 t452) := xc BK457 0 rfl; have hcz129_1 : wc.cell? ⟨gb457, 1, none⟩ = some (.slice Ao50 t453.length co50) := xc BK457 1 rfl; have hfz129_0 := blk_frozen BK457.out 0; have hfz129_1 := blk_frozen BK457.out 1
             go_upto_region 32 with (first | ((with_reducible refine gate_callee (f := 42) rfl ?_); refine goesL_ (some 89) rfl rfl Try.func42 (by kernel_rfl) rfl #[.agg #[.int .i64 t452, .slice Ao50 t453.length co50], .int .i64 1] rfl (by (try simp only [List.map_toArray, List.map_cons, List.map_nil]); first | done | rfl | (simp only [List.length_drop, List.length_take]; rfl)) ?_; (with_reducible refine (laws_markDisk.calls kj77 t452 (fun k_ => some k_ = (.slice Ao50 t453.length co50 : Value).ownBlock) (.slice Ao50 t453.length co50) t453 1 t473 t474 w _ ?side1 ?side2 A111.out).mono ?_); (case side1 => repeat (first | (with_reducible first | exact HB.out | apply below_alloc | apply pw_below_drewN | apply below_drew1 | refine below_set ?_ GE428.out | refine below_set ?_ GE443.out | refine below_set ?_ GE448.out | refine below_set ?_ GE457.out) | exact HB.out)); (case side2 => exact Kd.R_tight rfl HO_458001.out); rintro e w130 ⟨rfl, hy0, hb, hkp⟩; refine ⟨_, rfl, ?_⟩; have n0_ := aM (Kd.R_mono (ok' := fun k_ => some k_ ≠ (.slice Ao40 t469.length co40 : Value).ownBlock ∧ some k_ ≠ (.slice Ao50 t453.length co50 : Value).ownBlock) (Kd.R_keptB (HO_444001.out) hkp (fun k_ hk_ hs_ => (hk_.2) hs_)) (fun k_ hk_ => ⟨hk_.1.1, hk_.1.2⟩)); have n1_ := aM (Kd.R_mono (ok' := fun k_ => some k_ ≠ (.slice Ao33 t439.length co33 : Value).ownBlock ∧ some k_ ≠ (.slice Ao50 t453.length co50 : Value).ownBlock) (Kd.R_keptB (HO_449001.out) hkp (fun k_ hk_ hs_ => (hk_.2) hs_)) (fun k_ hk_ => ⟨hk_.1.1, hk_.1.2⟩)); have n2_ := aM (Kd.R_reok rfl hy0 (fun k_ e_ => HO_458001.out.1 k_ e_)); have n3_ := aM (blk_kept xblk hkp (fun hs_ => (fun e_ => (Kd.R_ne HO_458001.out BK428.out (by decide)) e_) hs_)); have n4_ := aM (blk_kept xblk hkp (fun hs_ => (fun e_ => (Kd.R_ne HO_458001.out BK443.out (by decide)) e_) hs_)); have n5_ := aM (blk_kept xblk hkp (fun hs_ => (fun e_ => (Kd.R_ne HO_458001.out BK448.out (by decide)) e_) hs_)); have n6_ := aM (blk_kept xblk hkp (fun hs_ => (fun e_ => (Kd.R_ne HO_458001.out BK457.out (by decide)) e_) hs_)); have n7_ := aM (hb); clear HO_444001; clear HO_449001; clear HO_458001; clear BK428; clear BK443; clear BK448; clear BK457; clear HB; have HO_444001 := n0_; have HO_449001 := n1_; have HO_458001 := n2_; have BK428 := n3_; have BK443 := n4_; have BK448 := n5_; have BK457 := n6_; have HB := n7_; clear n0_ n1_ n2_ n3_ n4_ n5_ n6_ n7_; (try clear hb); (try clear hkp); (try clear hy0); have hcz131_0 : w130.cell? ⟨gb457, 0, none⟩ = some (.int .i64 t452) := xc BK457 0 rfl; have hcz131_1 : w130.cell? ⟨gb457, 1, none⟩ = some (.slice Ao50 t453.length co50) := xc BK457 1 rfl; have hfz131_0 := blk_frozen BK457.out 0; have hfz131_1 := blk_frozen BK457.out 1) | ((with_reducible refine gate_callee (f := 43) rfl ?_); refine goesL_ (some 92) rfl rfl Try.func43 (by kernel_rfl) rfl #[.agg #[.int .i64 t452, .slice Ao50 t474.length co50], .int .i64 1] rfl (by (try simp only [List.map_toArray, List.map_cons, List.map_nil]); first | done | (rw [show t474.length = t453.length from (Kd.R_reads' HO_458001.out).1.symm] <;> rfl) | rfl | (simp only [List.length_drop, List.length_take]; rfl)) ?_; (with_reducible refine (laws_heldDisk.calls kj77 t452 _ _ t474 1 t475 _ ?side1 ?side2 A112.out).mono ?_); (case side1 => repeat (first | exact (Kd.R_reads' HO_458001.out).2.2 | (with_reducible refine Kd.C_alloc ?_ _) | (with_reducible refine Kd.C_drewN ?_ _) | (with_reducible refine Kd.C_drew ?_))); (case side2 => rw [show t474.length = t453.length from (Kd.R_reads' HO_458001.out).1.symm]; exact (Kd.R_reads' HO_458001.out).2.1); rintro e w132 ⟨rfl, hb⟩; refine ⟨_, rfl, ?_⟩; replace HO_444001 := aM (Kd.R_below (xr HO_444001) hb); replace HO_449001 := aM (Kd.R_below (xr HO_449001) hb); replace HO_458001 := aM (Kd.R_below (xr HO_458001) hb); replace BK428 := xbb BK428 hb; replace BK443 := xbb BK443 hb; replace BK448 := xbb BK448 hb; replace BK457 := xbb BK457 hb; replace HB := xbs hb; (try clear hb); (try clear hb2); (try clear hk); (try clear hi); have hnb133 := NB428_443.out; have hnc133 := NB443_428.out; have hnb134 := NB428_448.out; have hnc134 := NB448_428.out; have hcz135_0 : w132.cell? ⟨gb428, 0, none⟩ = some (.int .i64 a0_0) := xc BK428 0 rfl; have hcz135_1 : w132.cell? ⟨gb428, 1, none⟩ = some (.slice A0_1 l0_1.length c0_1) := xc BK428 1 rfl; have hfz135_0 := blk_frozen BK428.out 0; have hfz135_1 := blk_frozen BK428.out 1) | ((with_reducible refine gate_callee (f := 39) rfl ?_); refine goesL_ (some 100) rfl rfl Try.func39 (by kernel_rfl) rfl #[.agg #[.int .i64 a0_0, .slice A0_1 l0_1.length c0_1]] rfl (by (try simp only [List.map_toArray, List.map_cons, List.map_nil]); first | done | rfl | (simp only [List.length_drop, List.length_take]; rfl)) ?_; (with_reducible refine (laws_toDisk.calls kj77 a0_0 _ _ l0_1 t476 t477 _ ?side1 ?side2 A122.out).mono ?_); (case side1 => exact xcb HR0_1); (case side2 => exact HC0_1.out); rintro e w136 ⟨v478, rfl, ho0, hb⟩; refine ⟨_, rfl, ?_⟩; have HO479 := aM (Kd.R_lower (Kd.R_new' (Kd.R_new' (Kd.R_new' ho0 (Kd.R_lt (xr HO_444001))) (Kd.R_lt (xr HO_449001))) (Kd.R_lt (xr HO_458001))) (below_size xbg)); replace HO_444001 := aM (Kd.R_elder' (xr HO_444001) (Kd.R_base ho0) hb); replace HO_449001 := aM (Kd.R_elder' (xr HO_449001) (Kd.R_base ho0) hb); replace HO_458001 := aM (Kd.R_elder' (xr HO_458001) (Kd.R_base ho0) hb); replace BK428 := xbb BK428 hb; replace BK443 := xbb BK443 hb; replace BK448 := xbb BK448 hb; replace BK457 := xbb BK457 hb; replace HB := xbs hb; (try clear hb); (try clear hb2); (try clear hk); (try clear hi); (try clear ho0)) | ((with_reducible refine gate_callee (f := 61) rfl ?_); refine goesL_ (some 103) rfl rfl Try.func61 (by kernel_rfl) rfl #[.slice A2 l2.length c2] rfl (by (try simp only [List.map_toArray, List.map_cons, List.map_nil]); first | done | rfl | (simp only [List.length_drop, List.length_take]; rfl)) ?_; (with_reducible refine (laws_toStringS.calls kj77 _ _ l2 t480 _ ?side1 ?side2 A123.out).mono ?_); (case side1 => exact xcb HR2); (case side2 => exact HC2.out); rintro e w137 ⟨v481, rfl, ho0, hb⟩; refine ⟨_, rfl, ?_⟩; replace HO_444001 := aM (Kd.R_below (xr HO_444001) hb); replace HO_449001 := aM (Kd.R_below (xr HO_449001) hb); replace HO_458001 := aM (Kd.R_below (xr HO_458001) hb); replace HO479 := aM (Kd.R_below (xr HO479) hb); have HO482 := aM (Kd.R_lower ho0 (below_size xbg)); replace BK428 := xbb BK428 hb; replace BK443 := xbb BK443 hb; replace BK448 := xbb BK448 hb; replace BK457 := xbb BK457 hb; replace HB := xbs hb; (try clear hb); (try clear hb2); (try clear hk); (try clear hi); (try clear ho0); obtain ⟨Ao138, co138, eo138⟩ := Kd.R_slice HO479.out; subst eo138; obtain ⟨Ao139, co139, eo139⟩ := Kd.R_slice HO482.out; subst eo139) | ((with_reducible refine gate_callee (f := 66) rfl ?_); refine goesL_ (some 104) rfl rfl Try.func66 (by kernel_rfl) rfl #[.agg #[.int .i64 t476, .slice Ao138 t477.length co138], .int .i64 a1, .slice Ao139 t480.length co139] rfl (by (try simp only [List.map_toArray, List.map_cons, List.map_nil]); first | done | rfl | (simp only [List.length_drop, List.length_take]; rfl)) ?_; (with_reducible refine (impl_JournalAdd.calls kj77 t476 _ _ t477 a1 _ _ t480 t483 t484 t487 _ ?side1 ?side2 ?side3 ?side4 A124.out).mono ?_); (case side1 => repeat (first | exact (Kd.R_reads' HO479.out).2.2 | (with_reducible refine Kd.C_alloc ?_ _) | (with_reducible refine Kd.C_drewN ?_ _) | (with_reducible refine Kd.C_drew ?_))); (case side2 => exact (Kd.R_reads' HO479.out).2.1); (case side3 => repeat (first | exact (Kd.R_reads' HO482.out).2.2 | (with_reducible refine Kd.C_alloc ?_ _) | (with_reducible refine Kd.C_drewN ?_ _) | (with_reducible refine Kd.C_drew ?_))); (case side4 => exact (Kd.R_reads' HO482.out).2.1); rintro e w140 ⟨v485, rfl, ho0, hb⟩; refine ⟨_, rfl, ?_⟩; replace HO482 := aM (Kd.R_below (xr HO482) hb); have HO486 := aM (Kd.R_lower (Kd.R_new' (Kd.R_new' (Kd.R_new' (Kd.R_new' ho0 (Kd.R_lt (xr HO_444001))) (Kd.R_lt (xr HO_449001))) (Kd.R_lt (xr HO_458001))) (Kd.R_lt (xr HO479))) (below_size xbg)); replace HO_444001 := aM (Kd.R_elder' (xr HO_444001) (Kd.R_base ho0) hb); replace HO_449001 := aM (Kd.R_elder' (xr HO_449001) (Kd.R_base ho0) hb); replace HO_458001 := aM (Kd.R_elder' (xr HO_458001) (Kd.R_base ho0) hb); replace HO479 := aM (Kd.R_elder' (xr HO479) (Kd.R_base ho0) hb); replace BK428 := xbb BK428 hb; replace BK443 := xbb BK443 hb; replace BK448 := xbb BK448 hb; replace BK457 := xbb BK457 hb; replace HB := xbs hb; (try clear hb); (try clear hb2); (try clear hk); (try clear hi); (try clear ho0)) | ((with_reducible refine gate_dst (N := 17) rfl ?_); refine box_event ?hg (N := 17) ?hd (cs := #[.int .i64 0, .slice none 0 0]) (t := 70) ?hr ?_; (case hd => rfl); (case hg => rfl); (case hr => first | (go_simp; done) | (go_simp; rfl)); intro gb488 hg w141 hbox hb; replace HO_444001 := aM (Kd.R_below (xr HO_444001) hb); replace HO_449001 := aM (Kd.R_below (xr HO_449001) hb); replace HO_458001 := aM (Kd.R_below (xr HO_458001) hb); replace HO479 := aM (Kd.R_below (xr HO479) hb); replace HO482 := aM (Kd.R_below (xr HO482) hb); replace HO486 := aM (Kd.R_below (xr HO486) hb); have GW488 := aM (xge hg); have GE488 := aM (xge hg); replace HB := xbs hb; have NB428_488 := aM ((by rw [hg]; exact Nat.ne_of_lt (blk_lt (g := gb428) (o := .cells #[.int .i64 a0_0, .slice A0_1 l0_1.length c0_1] 66 (0, 0)) xblk) : gb428 ≠ gb488)); have NB488_428 := aM ((by rw [hg]; exact Nat.ne_of_gt (blk_lt (g := gb428) (o := .cells #[.int .i64 a0_0, .slice A0_1 l0_1.length c0_1] 66 (0, 0)) xblk) : gb488 ≠ gb428)); have NB443_488 := aM ((by rw [hg]; exact Nat.ne_of_lt (blk_lt (g := gb443) (o := .cells #[.int .i64 t438, .slice Ao33 t439.length co33] 70 (0, 0)) xblk) : gb443 ≠ gb488)); have NB488_443 := aM ((by rw [hg]; exact Nat.ne_of_gt (blk_lt (g := gb443) (o := .cells #[.int .i64 t438, .slice Ao33 t439.length co33] 70 (0, 0)) xblk) : gb488 ≠ gb443)); have NB448_488 := aM ((by rw [hg]; exact Nat.ne_of_lt (blk_lt (g := gb448) (o := .cells #[.int .i64 t444, .slice Ao40 t469.length co40] 70 (0, 0)) xblk) : gb448 ≠ gb488)); have NB488_448 := aM ((by rw [hg]; exact Nat.ne_of_gt (blk_lt (g := gb448) (o := .cells #[.int .i64 t444, .slice Ao40 t469.length co40] 70 (0, 0)) xblk) : gb488 ≠ gb448)); have NB457_488 := aM ((by rw [hg]; exact Nat.ne_of_lt (blk_lt (g := gb457) (o := .cells #[.int .i64 t452, .slice Ao50 t453.length co50] 70 (0, 0)) xblk) : gb457 ≠ gb488)); have NB488_457 := aM ((by rw [hg]; exact Nat.ne_of_gt (blk_lt (g := gb457) (o := .cells #[.int .i64 t452, .slice Ao50 t453.length co50] 70 (0, 0)) xblk) : gb488 ≠ gb457)); replace BK428 := xbb BK428 hb; replace BK443 := xbb BK443 hb; replace BK448 := xbb BK448 hb; replace BK457 := xbb BK457 hb; have BK488 := aM (hbox); clear hb hbox hg; have hnb142 := NB488_428.out; have hnc142 := NB428_488.out; have hnb143 := NB488_443.out; have hnc143 := NB443_488.out; have hnb144 := NB488_448.out; have hnc144 := NB448_488.out; have hnb145 := NB488_457.out; have hnc145 := NB457_488.out; have hcz146_0 : w141.cell? ⟨gb488, 0, none⟩ = some (.int .i64 0) := xc BK488 0 rfl; have hcz146_1 : w141.cell? ⟨gb488, 1, none⟩ = some (.slice none 0 0) := xc BK488 1 rfl; have hfz146_0 := blk_frozen BK488.out 0; have hfz146_1 := blk_frozen BK488.out 1; obtain ⟨Ao147, co147, eo147⟩ := Kd.R_slice HO486.out; subst eo147))
             (try simp only [Act.put, List.setIfInBounds_toArray, List.set_cons_zero, List.set_cons_succ])
             go_cut [115] (fun v115 wc => ∃ (kq : Nat) (x115_124 : Bool), v115 = .bool x115_124 ∧ Aside0 (laws_FnExactJournalAdd.j2 kq t473 x115_124 t452 t474 = some r) ∧ Aside0 (kq ≤ kj77) ∧ Aside0 (Kd.R k134 134 wc w.heap.size (fun k_ => some k_ ≠ ((.slice Ao40 t469.length co40) : Value).ownBlock ∧ some k_ ≠ ((.slice Ao50 t453.length co50) : Value).ownBlock ∧ some k_ ≠ ((.slice Ao147 t484.length co147) : Value).ownBlock) (.slice Ao33 t439.length co33) t439) ∧ Aside0 (Kd.R k134 134 wc w.heap.size (fun k_ => some k_ ≠ ((.slice Ao33 t439.length co33) : Value).ownBlock ∧ some k_ ≠ ((.slice Ao50 t453.length co50) : Value).ownBlock ∧ some k_ ≠ ((.slice Ao147 t484.length co147) : Value).ownBlock) (.slice Ao40 t469.length co40) t469) ∧ Aside0 (Kd.R k134 134 wc w.heap.size (fun k_ => some k_ ≠ ((.slice Ao33 t439.length co33) : Value).ownBlock ∧ some k_ ≠ ((.slice Ao40 t469.length co40) : Value).ownBlock ∧ some k_ ≠ ((.slice Ao147 t484.length co147) : Value).ownBlock) (.slice Ao50 t453.length co50) t474) ∧ Aside0 (Kd.R k134 134 wc w.heap.size (fun k_ => some k_ ≠ ((.slice Ao33 t439.length co33) : Value).ownBlock ∧ some k_ ≠ ((.slice Ao40 t469.length co40) : Value).ownBlock ∧ some k_ ≠ ((.slice Ao50 t453.length co50) : Value).ownBlock) (.slice Ao147 t484.length co147) t484) ∧ Aside0 (wc.heap[gb428]? = some (.cells #[.int .i64 a0_0, (.slice A0_1 l0_1.length c0_1)] 66 (0, 0))) ∧ Aside0 (wc.heap[gb443]? = some (.cells #[.int .i64 t438, (.slice Ao33 t439.length co33)] 70 (0, 0))) ∧ Aside0 (wc.heap[gb448]? = some (.cells #[.int .i64 t444, (.slice Ao40 t469.length co40)] 70 (0, 0))) ∧ Aside0 (wc.heap[gb457]? = some (.cells #[.int .i64 t452, (.slice Ao50 t453.length co50)] 70 (0, 0))) ∧ Aside0 (wc.heap[gb488]? = some (.cells #[.int .i64 t483, (.slice Ao147 t484.length co147)] 70 (0, 0))) ∧ Aside0 (Below w.heap.size w wc))
             case first =>
              have H := HC125.out; clear HC125; replace H := Option.bind_eq_some_iff.mp H
              obtain ⟨t489, A1480, H⟩ := H
              replace H : (if t489 = true then (laws_FnExactJournalAdd.j2 kj77 t473 (t487 != t442) t452 t474) else (laws_FnExactJournalAdd.j2 kj77 t473 true t452 t474)) = some r := H; have A148 := aM A1480; clear A1480
              by_cases c149 : t489 = true
              ·subst c149
               have H1 : (laws_FnExactJournalAdd.j2 kj77 t473 (t487 != t442) t452 t474) = some r := by rw [if_pos rfl] at H; exact H
               clear H; have H := H1; clear H1
               have H' := aM H
               clear H; have hnb150 := NB488_428.out; have hnc150 := NB428_488.out; have hnb151 := NB488_443.out; have hnc151 := NB443_488.out; have hnb152 := NB488_448.out; have hnc152 := NB448_488.out; have hnb153 := NB488_457.out; have hnc153 := NB457_488.out; have hcz154_0 : w141.cell? ⟨gb488, 0, none⟩ = some (.int .i64 0) := xc BK488 0 rfl; have hcz154_1 : w141.cell? ⟨gb488, 1, none⟩ = some (.slice none 0 0) := xc BK488 1 rfl; have hfz154_0 := blk_frozen BK488.out 0; have hfz154_1 := blk_frozen BK488.out 1; have hnb155 := NB443_428.out; have hnc155 := NB428_443.out; have hnb156 := NB443_448.out; have hnc156 := NB448_443.out; have hnb157 := NB443_457.out; have hnc157 := NB457_443.out; have hcz158_0 : w141.cell? ⟨gb443, 0, none⟩ = some (.int .i64 t438) := xc BK443 0 rfl; have hcz158_1 : w141.cell? ⟨gb443, 1, none⟩ = some (.slice Ao33 t439.length co33) := xc BK443 1 rfl; have hfz158_0 := blk_frozen BK443.out 0; have hfz158_1 := blk_frozen BK443.out 1
               go_wp2_with (first | ((with_reducible refine gate_callee (f := 41) rfl ?_); refine goesL_ (some 109) rfl rfl Try.func41 (by kernel_rfl) rfl #[.agg #[.int .i64 t483, .slice Ao147 t484.length co147], .agg #[.int .i64 t438, .slice Ao33 t439.length co33]] rfl (by (try simp only [List.map_toArray, List.map_cons, List.map_nil]); first | done | rfl | (simp only [List.length_drop, List.length_take]; rfl)) ?_; (with_reducible refine (laws_eqDisk.calls kj77 t483 _ _ t484 t438 _ _ t439 true _ ?side1 ?side2 ?side3 ?side4 A148.out).mono ?_); (case side1 => refine (Kd.R_reads' (e := 134) (base := w.heap.size) (ok := fun k_ => ((((True ∧ some k_ ≠ (.slice Ao33 t439.length co33 : Value).ownBlock) ∧ some k_ ≠ (.slice Ao40 t469.length co40 : Value).ownBlock) ∧ some k_ ≠ (.slice Ao50 t453.length co50 : Value).ownBlock) ∧ some k_ ≠ (.slice Ao138 t477.length co138 : Value).ownBlock)) (n := t484.length) (c := co147) ?_).2.2; exact (xrt (Kd.R_mono (Kd.R_far (p := ⟨gb488, 1, none⟩) (Kd.R_far (p := ⟨gb488, 0, none⟩) (Kd.R_types HO486.out BK488.out (by decide)) (fun _ hk => hk.2) (.int .i64 t483)) (fun _ hk => hk.2) (.slice Ao147 t484.length co147)) (fun _ h_ => h_.1)))); (case side2 => exact (Kd.R_reads' HO486.out).2.1); (case side3 => refine (Kd.R_reads' (e := 134) (base := w.heap.size) (ok := fun k_ => (((some k_ ≠ (.slice Ao40 t469.length co40 : Value).ownBlock ∧ some k_ ≠ (.slice Ao50 t453.length co50 : Value).ownBlock) ∧ some k_ ≠ (.slice Ao138 t477.length co138 : Value).ownBlock) ∧ some k_ ≠ (.slice Ao147 t484.length co147 : Value).ownBlock)) (n := t439.length) (c := co33) ?_).2.2; exact (xrt (Kd.R_mono (Kd.R_far (p := ⟨gb488, 1, none⟩) (Kd.R_far (p := ⟨gb488, 0, none⟩) (Kd.R_types HO_444001.out BK488.out (by decide)) (fun _ hk => hk.2) (.int .i64 t483)) (fun _ hk => hk.2) (.slice Ao147 t484.length co147)) (fun _ h_ => h_.1)))); (case side4 => exact (Kd.R_reads' HO_444001.out).2.1); rintro e w159 ⟨rfl, hb⟩; refine ⟨_, rfl, ?_⟩; replace HO_444001 := aM (Kd.R_below (xrt (Kd.R_mono (Kd.R_far (p := ⟨gb488, 1, none⟩) (Kd.R_far (p := ⟨gb488, 0, none⟩) (Kd.R_types HO_444001.out BK488.out (by decide)) (fun _ hk => hk.2) (.int .i64 t483)) (fun _ hk => hk.2) (.slice Ao147 t484.length co147)) (fun _ h_ => h_.1))) hb); replace HO_449001 := aM (Kd.R_below (xrt (Kd.R_mono (Kd.R_far (p := ⟨gb488, 1, none⟩) (Kd.R_far (p := ⟨gb488, 0, none⟩) (Kd.R_types HO_449001.out BK488.out (by decide)) (fun _ hk => hk.2) (.int .i64 t483)) (fun _ hk => hk.2) (.slice Ao147 t484.length co147)) (fun _ h_ => h_.1))) hb); replace HO_458001 := aM (Kd.R_below (xrt (Kd.R_mono (Kd.R_far (p := ⟨gb488, 1, none⟩) (Kd.R_far (p := ⟨gb488, 0, none⟩) (Kd.R_types HO_458001.out BK488.out (by decide)) (fun _ hk => hk.2) (.int .i64 t483)) (fun _ hk => hk.2) (.slice Ao147 t484.length co147)) (fun _ h_ => h_.1))) hb); replace HO479 := aM (Kd.R_below (xrt (Kd.R_mono (Kd.R_far (p := ⟨gb488, 1, none⟩) (Kd.R_far (p := ⟨gb488, 0, none⟩) (Kd.R_types HO479.out BK488.out (by decide)) (fun _ hk => hk.2) (.int .i64 t483)) (fun _ hk => hk.2) (.slice Ao147 t484.length co147)) (fun _ h_ => h_.1))) hb); replace HO482 := aM (Kd.R_below (xrt (Kd.R_mono (Kd.R_far (p := ⟨gb488, 1, none⟩) (Kd.R_far (p := ⟨gb488, 0, none⟩) (Kd.R_types HO482.out BK488.out (by decide)) (fun _ hk => hk.2) (.int .i64 t483)) (fun _ hk => hk.2) (.slice Ao147 t484.length co147)) (fun _ h_ => h_.1))) hb); replace HO486 := aM (Kd.R_below (xrt (Kd.R_mono (Kd.R_far (p := ⟨gb488, 1, none⟩) (Kd.R_far (p := ⟨gb488, 0, none⟩) (Kd.R_types HO486.out BK488.out (by decide)) (fun _ hk => hk.2) (.int .i64 t483)) (fun _ hk => hk.2) (.slice Ao147 t484.length co147)) (fun _ h_ => h_.1))) hb); replace BK428 := aM (blk_below (g := gb428) (o := .cells #[.int .i64 a0_0, .slice A0_1 l0_1.length c0_1] 66 (0, 0)) (by (with_reducible repeat (first | refine blk_drewN ?_ _ | refine blk_drew ?_ | refine blk_alloc ?_ _)); refine blk_far ?_ NB428_488.out _; (with_reducible repeat (first | refine blk_drewN ?_ _ | refine blk_drew ?_ | refine blk_alloc ?_ _)); refine blk_far ?_ NB428_488.out _; (with_reducible repeat (first | refine blk_drewN ?_ _ | refine blk_drew ?_ | refine blk_alloc ?_ _)); exact BK428.out) hb); replace BK443 := aM (blk_below (g := gb443) (o := .cells #[.int .i64 t438, .slice Ao33 t439.length co33] 70 (0, 0)) (by (with_reducible repeat (first | refine blk_drewN ?_ _ | refine blk_drew ?_ | refine blk_alloc ?_ _)); refine blk_far ?_ NB443_488.out _; (with_reducible repeat (first | refine blk_drewN ?_ _ | refine blk_drew ?_ | refine blk_alloc ?_ _)); refine blk_far ?_ NB443_488.out _; (with_reducible repeat (first | refine blk_drewN ?_ _ | refine blk_drew ?_ | refine blk_alloc ?_ _)); exact BK443.out) hb); replace BK448 := aM (blk_below (g := gb448) (o := .cells #[.int .i64 t444, .slice Ao40 t469.length co40] 70 (0, 0)) (by (with_reducible repeat (first | refine blk_drewN ?_ _ | refine blk_drew ?_ | refine blk_alloc ?_ _)); refine blk_far ?_ NB448_488.out _; (with_reducible repeat (first | refine blk_drewN ?_ _ | refine blk_drew ?_ | refine blk_alloc ?_ _)); refine blk_far ?_ NB448_488.out _; (with_reducible repeat (first | refine blk_drewN ?_ _ | refine blk_drew ?_ | refine blk_alloc ?_ _)); exact BK448.out) hb); replace BK457 := aM (blk_below (g := gb457) (o := .cells #[.int .i64 t452, .slice Ao50 t453.length co50] 70 (0, 0)) (by (with_reducible repeat (first | refine blk_drewN ?_ _ | refine blk_drew ?_ | refine blk_alloc ?_ _)); refine blk_far ?_ NB457_488.out _; (with_reducible repeat (first | refine blk_drewN ?_ _ | refine blk_drew ?_ | refine blk_alloc ?_ _)); refine blk_far ?_ NB457_488.out _; (with_reducible repeat (first | refine blk_drewN ?_ _ | refine blk_drew ?_ | refine blk_alloc ?_ _)); exact BK457.out) hb); replace BK488 := aM (blk_below (g := gb488) (o := .cells #[.int .i64 t483, .slice Ao147 t484.length co147] 70 (0, 0)) (by (with_reducible repeat (first | refine blk_drewN ?_ _ | refine blk_drew ?_ | refine blk_alloc ?_ _)); refine blk_put (cs := #[.int .i64 t483, .slice none 0 0]) ?_ 1 _ rfl; (with_reducible repeat (first | refine blk_drewN ?_ _ | refine blk_drew ?_ | refine blk_alloc ?_ _)); refine blk_put (cs := #[.int .i64 0, .slice none 0 0]) ?_ 0 _ rfl; (with_reducible repeat (first | refine blk_drewN ?_ _ | refine blk_drew ?_ | refine blk_alloc ?_ _)); exact BK488.out) hb); replace HB := xbs hb; (try clear hb); (try clear hb2); (try clear hk); (try clear hi)))
               go_meet
               case rel => exact ⟨_, ((t487 != t442)), (by first | rfl | (simp; done) | (simp [*]; done)), H', ⟨by have := HJ19.out; have := HJ77.out; first | omega | exact Nat.le_refl _⟩, ⟨by (try simp only [hl449001_77]); (with_reducible repeat (first | apply Kd.R_alloc | apply Kd.R_drewN | apply Kd.R_drew)); exact Kd.R_mono HO_444001.out (fun _ hk => ⟨hk.1.1.1, ⟨hk.1.1.2, hk.2⟩⟩)⟩, ⟨by (try simp only [hl449001_77]); (with_reducible repeat (first | apply Kd.R_alloc | apply Kd.R_drewN | apply Kd.R_drew)); exact Kd.R_mono HO_449001.out (fun _ hk => ⟨hk.1.1.1, ⟨hk.1.1.2, hk.2⟩⟩)⟩, ⟨by (try simp only [hl449001_77]); (with_reducible repeat (first | apply Kd.R_alloc | apply Kd.R_drewN | apply Kd.R_drew)); exact Kd.R_mono HO_458001.out (fun _ hk => ⟨hk.1.1.1, ⟨hk.1.1.2, hk.2⟩⟩)⟩, ⟨by (try simp only [hl449001_77]); (with_reducible repeat (first | apply Kd.R_alloc | apply Kd.R_drewN | apply Kd.R_drew)); exact Kd.R_mono HO486.out (fun _ hk => ⟨hk.1.1.1.2, ⟨hk.1.1.2, hk.1.2⟩⟩)⟩, ⟨by (try simp only [hl449001_77]); (with_reducible repeat (first | refine blk_drewN ?_ _ | refine blk_drew ?_ | refine blk_alloc ?_ _)); exact BK428.out⟩, ⟨by (try simp only [hl449001_77]); (with_reducible repeat (first | refine blk_drewN ?_ _ | refine blk_drew ?_ | refine blk_alloc ?_ _)); exact BK443.out⟩, ⟨by (try simp only [hl449001_77]); (with_reducible repeat (first | refine blk_drewN ?_ _ | refine blk_drew ?_ | refine blk_alloc ?_ _)); exact BK448.out⟩, ⟨by (try simp only [hl449001_77]); (with_reducible repeat (first | refine blk_drewN ?_ _ | refine blk_drew ?_ | refine blk_alloc ?_ _)); exact BK457.out⟩, ⟨by (try simp only [hl449001_77]); (with_reducible repeat (first | refine blk_drewN ?_ _ | refine blk_drew ?_ | refine blk_alloc ?_ _)); exact BK488.out⟩, ⟨xbg⟩⟩
              ·replace c149 := Bool.eq_false_iff.mpr c149
               subst c149
               have H1 : (laws_FnExactJournalAdd.j2 kj77 t473 true t452 t474) = some r := by rw [if_neg (show ¬ (false = true) by decide)] at H; exact H
               clear H; have H := H1; clear H1
               have H' := aM H
               clear H; have hnb160 := NB488_428.out; have hnc160 := NB428_488.out; have hnb161 := NB488_443.out; have hnc161 := NB443_488.out; have hnb162 := NB488_448.out; have hnc162 := NB448_488.out; have hnb163 := NB488_457.out; have hnc163 := NB457_488.out; have hcz164_0 : w141.cell? ⟨gb488, 0, none⟩ = some (.int .i64 0) := xc BK488 0 rfl; have hcz164_1 : w141.cell? ⟨gb488, 1, none⟩ = some (.slice none 0 0) := xc BK488 1 rfl; have hfz164_0 := blk_frozen BK488.out 0; have hfz164_1 := blk_frozen BK488.out 1; have hnb165 := NB443_428.out; have hnc165 := NB428_443.out; have hnb166 := NB443_448.out; have hnc166 := NB448_443.out; have hnb167 := NB443_457.out; have hnc167 := NB457_443.out; have hcz168_0 : w141.cell? ⟨gb443, 0, none⟩ = some (.int .i64 t438) := xc BK443 0 rfl; have hcz168_1 : w141.cell? ⟨gb443, 1, none⟩ = some (.slice Ao33 t439.length co33) := xc BK443 1 rfl; have hfz168_0 := blk_frozen BK443.out 0; have hfz168_1 := blk_frozen BK443.out 1
               go_wp2_with (first | ((with_reducible refine gate_callee (f := 41) rfl ?_); refine goesL_ (some 109) rfl rfl Try.func41 (by kernel_rfl) rfl #[.agg #[.int .i64 t483, .slice Ao147 t484.length co147], .agg #[.int .i64 t438, .slice Ao33 t439.length co33]] rfl (by (try simp only [List.map_toArray, List.map_cons, List.map_nil]); first | done | rfl | (simp only [List.length_drop, List.length_take]; rfl)) ?_; (with_reducible refine (laws_eqDisk.calls kj77 t483 _ _ t484 t438 _ _ t439 false _ ?side1 ?side2 ?side3 ?side4 A148.out).mono ?_); (case side1 => refine (Kd.R_reads' (e := 134) (base := w.heap.size) (ok := fun k_ => ((((True ∧ some k_ ≠ (.slice Ao33 t439.length co33 : Value).ownBlock) ∧ some k_ ≠ (.slice Ao40 t469.length co40 : Value).ownBlock) ∧ some k_ ≠ (.slice Ao50 t453.length co50 : Value).ownBlock) ∧ some k_ ≠ (.slice Ao138 t477.length co138 : Value).ownBlock)) (n := t484.length) (c := co147) ?_).2.2; exact (xrt (Kd.R_mono (Kd.R_far (p := ⟨gb488, 1, none⟩) (Kd.R_far (p := ⟨gb488, 0, none⟩) (Kd.R_types HO486.out BK488.out (by decide)) (fun _ hk => hk.2) (.int .i64 t483)) (fun _ hk => hk.2) (.slice Ao147 t484.length co147)) (fun _ h_ => h_.1)))); (case side2 => exact (Kd.R_reads' HO486.out).2.1); (case side3 => refine (Kd.R_reads' (e := 134) (base := w.heap.size) (ok := fun k_ => (((some k_ ≠ (.slice Ao40 t469.length co40 : Value).ownBlock ∧ some k_ ≠ (.slice Ao50 t453.length co50 : Value).ownBlock) ∧ some k_ ≠ (.slice Ao138 t477.length co138 : Value).ownBlock) ∧ some k_ ≠ (.slice Ao147 t484.length co147 : Value).ownBlock)) (n := t439.length) (c := co33) ?_).2.2; exact (xrt (Kd.R_mono (Kd.R_far (p := ⟨gb488, 1, none⟩) (Kd.R_far (p := ⟨gb488, 0, none⟩) (Kd.R_types HO_444001.out BK488.out (by decide)) (fun _ hk => hk.2) (.int .i64 t483)) (fun _ hk => hk.2) (.slice Ao147 t484.length co147)) (fun _ h_ => h_.1)))); (case side4 => exact (Kd.R_reads' HO_444001.out).2.1); rintro e w169 ⟨rfl, hb⟩; refine ⟨_, rfl, ?_⟩; replace HO_444001 := aM (Kd.R_below (xrt (Kd.R_mono (Kd.R_far (p := ⟨gb488, 1, none⟩) (Kd.R_far (p := ⟨gb488, 0, none⟩) (Kd.R_types HO_444001.out BK488.out (by decide)) (fun _ hk => hk.2) (.int .i64 t483)) (fun _ hk => hk.2) (.slice Ao147 t484.length co147)) (fun _ h_ => h_.1))) hb); replace HO_449001 := aM (Kd.R_below (xrt (Kd.R_mono (Kd.R_far (p := ⟨gb488, 1, none⟩) (Kd.R_far (p := ⟨gb488, 0, none⟩) (Kd.R_types HO_449001.out BK488.out (by decide)) (fun _ hk => hk.2) (.int .i64 t483)) (fun _ hk => hk.2) (.slice Ao147 t484.length co147)) (fun _ h_ => h_.1))) hb); replace HO_458001 := aM (Kd.R_below (xrt (Kd.R_mono (Kd.R_far (p := ⟨gb488, 1, none⟩) (Kd.R_far (p := ⟨gb488, 0, none⟩) (Kd.R_types HO_458001.out BK488.out (by decide)) (fun _ hk => hk.2) (.int .i64 t483)) (fun _ hk => hk.2) (.slice Ao147 t484.length co147)) (fun _ h_ => h_.1))) hb); replace HO479 := aM (Kd.R_below (xrt (Kd.R_mono (Kd.R_far (p := ⟨gb488, 1, none⟩) (Kd.R_far (p := ⟨gb488, 0, none⟩) (Kd.R_types HO479.out BK488.out (by decide)) (fun _ hk => hk.2) (.int .i64 t483)) (fun _ hk => hk.2) (.slice Ao147 t484.length co147)) (fun _ h_ => h_.1))) hb); replace HO482 := aM (Kd.R_below (xrt (Kd.R_mono (Kd.R_far (p := ⟨gb488, 1, none⟩) (Kd.R_far (p := ⟨gb488, 0, none⟩) (Kd.R_types HO482.out BK488.out (by decide)) (fun _ hk => hk.2) (.int .i64 t483)) (fun _ hk => hk.2) (.slice Ao147 t484.length co147)) (fun _ h_ => h_.1))) hb); replace HO486 := aM (Kd.R_below (xrt (Kd.R_mono (Kd.R_far (p := ⟨gb488, 1, none⟩) (Kd.R_far (p := ⟨gb488, 0, none⟩) (Kd.R_types HO486.out BK488.out (by decide)) (fun _ hk => hk.2) (.int .i64 t483)) (fun _ hk => hk.2) (.slice Ao147 t484.length co147)) (fun _ h_ => h_.1))) hb); replace BK428 := aM (blk_below (g := gb428) (o := .cells #[.int .i64 a0_0, .slice A0_1 l0_1.length c0_1] 66 (0, 0)) (by (with_reducible repeat (first | refine blk_drewN ?_ _ | refine blk_drew ?_ | refine blk_alloc ?_ _)); refine blk_far ?_ NB428_488.out _; (with_reducible repeat (first | refine blk_drewN ?_ _ | refine blk_drew ?_ | refine blk_alloc ?_ _)); refine blk_far ?_ NB428_488.out _; (with_reducible repeat (first | refine blk_drewN ?_ _ | refine blk_drew ?_ | refine blk_alloc ?_ _)); exact BK428.out) hb); replace BK443 := aM (blk_below (g := gb443) (o := .cells #[.int .i64 t438, .slice Ao33 t439.length co33] 70 (0, 0)) (by (with_reducible repeat (first | refine blk_drewN ?_ _ | refine blk_drew ?_ | refine blk_alloc ?_ _)); refine blk_far ?_ NB443_488.out _; (with_reducible repeat (first | refine blk_drewN ?_ _ | refine blk_drew ?_ | refine blk_alloc ?_ _)); refine blk_far ?_ NB443_488.out _; (with_reducible repeat (first | refine blk_drewN ?_ _ | refine blk_drew ?_ | refine blk_alloc ?_ _)); exact BK443.out) hb); replace BK448 := aM (blk_below (g := gb448) (o := .cells #[.int .i64 t444, .slice Ao40 t469.length co40] 70 (0, 0)) (by (with_reducible repeat (first | refine blk_drewN ?_ _ | refine blk_drew ?_ | refine blk_alloc ?_ _)); refine blk_far ?_ NB448_488.out _; (with_reducible repeat (first | refine blk_drewN ?_ _ | refine blk_drew ?_ | refine blk_alloc ?_ _)); refine blk_far ?_ NB448_488.out _; (with_reducible repeat (first | refine blk_drewN ?_ _ | refine blk_drew ?_ | refine blk_alloc ?_ _)); exact BK448.out) hb); replace BK457 := aM (blk_below (g := gb457) (o := .cells #[.int .i64 t452, .slice Ao50 t453.length co50] 70 (0, 0)) (by (with_reducible repeat (first | refine blk_drewN ?_ _ | refine blk_drew ?_ | refine blk_alloc ?_ _)); refine blk_far ?_ NB457_488.out _; (with_reducible repeat (first | refine blk_drewN ?_ _ | refine blk_drew ?_ | refine blk_alloc ?_ _)); refine blk_far ?_ NB457_488.out _; (with_reducible repeat (first | refine blk_drewN ?_ _ | refine blk_drew ?_ | refine blk_alloc ?_ _)); exact BK457.out) hb); replace BK488 := aM (blk_below (g := gb488) (o := .cells #[.int .i64 t483, .slice Ao147 t484.length co147] 70 (0, 0)) (by (with_reducible repeat (first | refine blk_drewN ?_ _ | refine blk_drew ?_ | refine blk_alloc ?_ _)); refine blk_put (cs := #[.int .i64 t483, .slice none 0 0]) ?_ 1 _ rfl; (with_reducible repeat (first | refine blk_drewN ?_ _ | refine blk_drew ?_ | refine blk_alloc ?_ _)); refine blk_put (cs := #[.int .i64 0, .slice none 0 0]) ?_ 0 _ rfl; (with_reducible repeat (first | refine blk_drewN ?_ _ | refine blk_drew ?_ | refine blk_alloc ?_ _)); exact BK488.out) hb); replace HB := xbs hb; (try clear hb); (try clear hb2); (try clear hk); (try clear hi)))
               go_meet
               case rel => exact ⟨_, (true), (by first | rfl | (simp; done) | (simp [*]; done)), H', ⟨by have := HJ19.out; have := HJ77.out; first | omega | exact Nat.le_refl _⟩, ⟨by (try simp only [hl449001_77]); (with_reducible repeat (first | apply Kd.R_alloc | apply Kd.R_drewN | apply Kd.R_drew)); exact Kd.R_mono HO_444001.out (fun _ hk => ⟨hk.1.1.1, ⟨hk.1.1.2, hk.2⟩⟩)⟩, ⟨by (try simp only [hl449001_77]); (with_reducible repeat (first | apply Kd.R_alloc | apply Kd.R_drewN | apply Kd.R_drew)); exact Kd.R_mono HO_449001.out (fun _ hk => ⟨hk.1.1.1, ⟨hk.1.1.2, hk.2⟩⟩)⟩, ⟨by (try simp only [hl449001_77]); (with_reducible repeat (first | apply Kd.R_alloc | apply Kd.R_drewN | apply Kd.R_drew)); exact Kd.R_mono HO_458001.out (fun _ hk => ⟨hk.1.1.1, ⟨hk.1.1.2, hk.2⟩⟩)⟩, ⟨by (try simp only [hl449001_77]); (with_reducible repeat (first | apply Kd.R_alloc | apply Kd.R_drewN | apply Kd.R_drew)); exact Kd.R_mono HO486.out (fun _ hk => ⟨hk.1.1.1.2, ⟨hk.1.1.2, hk.1.2⟩⟩)⟩, ⟨by (try simp only [hl449001_77]); (with_reducible repeat (first | refine blk_drewN ?_ _ | refine blk_drew ?_ | refine blk_alloc ?_ _)); exact BK428.out⟩, ⟨by (try simp only [hl449001_77]); (with_reducible repeat (first | refine blk_drewN ?_ _ | refine blk_drew ?_ | refine blk_alloc ?_ _)); exact BK443.out⟩, ⟨by (try simp only [hl449001_77]); (with_reducible repeat (first | refine blk_drewN ?_ _ | refine blk_drew ?_ | refine blk_alloc ?_ _)); exact BK448.out⟩, ⟨by (try simp only [hl449001_77]); (with_reducible repeat (first | refine blk_drewN ?_ _ | refine blk_drew ?_ | refine blk_alloc ?_ _)); exact BK457.out⟩, ⟨by (try simp only [hl449001_77]); (with_reducible repeat (first | refine blk_drewN ?_ _ | refine blk_drew ?_ | refine blk_alloc ?_ _)); exact BK488.out⟩, ⟨xbg⟩⟩
             case rest =>
              clear HC125
              try clear c1
              try clear c2
              try clear p2
              try clear c3
              try clear c4
              try clear c5
              try clear c5b0
              try clear c6
              try clear c7
              try clear c8
              try clear c9
              try clear c10
              try clear c10b0
              try clear c11
              try clear c12
              try clear c13
              try clear c14
              try clear c15
              try clear c16
              try clear c31
              try clear c37
              try clear c38
              try clear c39
              try clear c41
              try clear c42
              try clear c43
              try clear c46
              try clear c47
              try clear c48
              try clear c52
              try clear c53
              try clear c54
              try clear c55
              try clear c57
              try clear c58
              try clear c59
              try clear c61
              try clear c62
              try clear c63
              try clear c64
              try clear c65
              try clear c66
              try clear c69
              try clear c72
              try clear c75
              try clear c85
              try clear c86
              try clear c87
              try clear c91
              try clear c91b0
              try clear c93
              try clear c94
              try clear c95
              try clear c96
              try clear c98
              try clear c99
              try clear c102
              try clear c103
              try clear c104
              try clear c106
              try clear c107
              try clear c110
              try clear c113
              try clear c113b0
              try clear c114
              try clear c115
              try clear c116
              try clear c121
              try clear c121b0
              try clear c121b1
              try clear c126
              try clear c127
              try clear c128
              try clear c133
              try clear c134
              try clear c142
              try clear c143
              try clear c144
              try clear c145
              try clear c149
              try clear c150
              try clear c151
              try clear c152
              try clear c153
              try clear c155
              try clear c156
              try clear c157
              try clear c160
              try clear c161
              try clear c162
              try clear c163
              try clear c165
              try clear c166
              try clear c167
              try clear hcz100_0
              try clear hcz100_1
              try clear hcz105_0
              try clear hcz105_1
              try clear hcz108_0
              try clear hcz108_1
              try clear hcz117_0
              try clear hcz117_1
              try clear hcz119_0
              try clear hcz119_1
              try clear hcz129_0
              try clear hcz129_1
              try clear hcz12_0
              try clear hcz12_1
              try clear hcz131_0
              try clear hcz131_1
              try clear hcz135_0
              try clear hcz135_1
              try clear hcz146_0
              try clear hcz146_1
              try clear hcz154_0
              try clear hcz154_1
              try clear hcz158_0
              try clear hcz158_1
              try clear hcz164_0
              try clear hcz164_1
              try clear hcz168_0
              try clear hcz168_1
              try clear hcz22_0
              try clear hcz22_1
              try clear hcz24_0
              try clear hcz24_1
              try clear hcz32_0
              try clear hcz32_1
              try clear hcz34_0
              try clear hcz34_1
              try clear hcz39_0
              try clear hcz39_1
              try clear hcz42_0
              try clear hcz42_1
              try clear hcz49_0
              try clear hcz49_1
              try clear hcz56_0
              try clear hcz56_1
              try clear hcz59_0
              try clear hcz59_1
              try clear hcz64_0
              try clear hcz64_1
              try clear hcz67_0
              try clear hcz67_1
              try clear hcz7_0
              try clear hcz7_1
              try clear hcz88_0
              try clear hcz88_1
              try clear hcz97_0
              try clear hcz97_1
              try clear hfz100_0
              try clear hfz100_1
              try clear hfz105_0
              try clear hfz105_1
              try clear hfz108_0
              try clear hfz108_1
              try clear hfz117_0
              try clear hfz117_1
              try clear hfz119_0
              try clear hfz119_1
              try clear hfz129_0
              try clear hfz129_1
              try clear hfz12_0
              try clear hfz12_1
              try clear hfz131_0
              try clear hfz131_1
              try clear hfz135_0
              try clear hfz135_1
              try clear hfz146_0
              try clear hfz146_1
              try clear hfz154_0
              try clear hfz154_1
              try clear hfz158_0
              try clear hfz158_1
              try clear hfz164_0
              try clear hfz164_1
              try clear hfz168_0
              try clear hfz168_1
              try clear hfz22_0
              try clear hfz22_1
              try clear hfz24_0
              try clear hfz24_1
              try clear hfz32_0
              try clear hfz32_1
              try clear hfz34_0
              try clear hfz34_1
              try clear hfz39_0
              try clear hfz39_1
              try clear hfz42_0
              try clear hfz42_1
              try clear hfz49_0
              try clear hfz49_1
              try clear hfz56_0
              try clear hfz56_1
              try clear hfz59_0
              try clear hfz59_1
              try clear hfz64_0
              try clear hfz64_1
              try clear hfz67_0
              try clear hfz67_1
              try clear hfz7_0
              try clear hfz7_1
              try clear hfz88_0
              try clear hfz88_1
              try clear hfz97_0
              try clear hfz97_1
              try clear p2
              obtain ⟨kq, x115_124, rfl, HA, HJ124, HO_444001, HO_449001, HO_458001, HO_489001, BK428, BK443, BK448, BK457, BK488, HB⟩ := hcut
              have hl458001_124 := (Kd.R_reads' HO_458001.out).1
              rw [hl458001_124] at HO_458001
              (try simp only [hl458001_124])
              (try simp only [hl458001_124] at BK428)
              (try simp only [hl458001_124] at BK443)
              (try simp only [hl458001_124] at BK448)
              (try simp only [hl458001_124] at BK457)
              (try simp only [hl458001_124] at BK488)
              (try simp only [hl458001_124] at HO_444001)
              (try simp only [hl458001_124] at HO_449001)
              (try simp only [hl458001_124] at HO_489001)
              cases kq with
              | zero => exact absurd HA.out (by simp [laws_FnExactJournalAdd.j2])
              | succ kj124 =>
               have H := HA.out; clear HA
               simp only [laws_FnExactJournalAdd.j2] at H
               by_cases c170 : x115_124 = true
               ·subst c170
                have H1 : (some false) = some r := by rw [if_pos rfl] at H; exact H
                clear H; have H := H1; clear H1
                obtain rfl := Option.some.inj H
                go_wp2
                go_ret
                exact ⟨by first | rfl | (simp [errW_none, errW_some] <;> rfl) | (simp [*, errW_none, errW_some] <;> rfl), xbg⟩
               ·replace c170 := Bool.eq_false_iff.mpr c170
                subst c170
                have H1 : ((laws_heldDisk.f kj124 t452 t474 1).bind fun t490 => (if t490 < 0 then (some false) else (if t490 = t473 then (some true) else (some false)))) = some r := by rw [if_neg (show ¬ (false = true) by decide)] at H; exact H
                clear H; have H := H1; clear H1; replace H := Option.bind_eq_some_iff.mp H
                obtain ⟨t490, A1710, H⟩ := H
                replace H : (if t490 < 0 then (some false) else (if t490 = t473 then (some true) else (some false))) = some r := H; have A171 := aM A1710; clear A1710
                by_cases c172 : t490 < 0
                ·rw [if_pos c172] at H
                 have c172b0 : decide (t490 < 0) = true := decide_eq_true c172; clear c172
                 obtain rfl := Option.some.inj H
                 have hnb173 := NB457_428.out; have hnc173 := NB428_457.out; have hnb174 := NB457_443.out; have hnc174 := NB443_457.out; have hnb175 := NB457_448.out; have hnc175 := NB448_457.out; have hnb176 := NB457_488.out; have hnc176 := NB488_457.out; have hcz177_0 : wc.cell? ⟨gb457, 0, none⟩ = some (.int .i64 t452) := xc BK457 0 rfl; have hcz177_1 : wc.cell? ⟨gb457, 1, none⟩ = some (.slice Ao50 t474.length co50) := xc BK457 1 rfl; have hfz177_0 := blk_frozen BK457.out 0; have hfz177_1 := blk_frozen BK457.out 1
                 go_wp2_with (first | ((with_reducible refine gate_callee (f := 43) rfl ?_); refine goesL_ (some 118) rfl rfl Try.func43 (by kernel_rfl) rfl #[.agg #[.int .i64 t452, .slice Ao50 t474.length co50], .int .i64 1] rfl (by (try simp only [List.map_toArray, List.map_cons, List.map_nil]); first | done | rfl | (simp only [List.length_drop, List.length_take]; rfl)) ?_; (with_reducible refine (laws_heldDisk.calls kj124 t452 _ _ t474 1 t490 _ ?side1 ?side2 A171.out).mono ?_); (case side1 => repeat (first | exact (Kd.R_reads' HO_458001.out).2.2 | (with_reducible refine Kd.C_alloc ?_ _) | (with_reducible refine Kd.C_drewN ?_ _) | (with_reducible refine Kd.C_drew ?_))); (case side2 => exact (Kd.R_reads' HO_458001.out).2.1); rintro e w178 ⟨rfl, hb⟩; refine ⟨_, rfl, ?_⟩; replace HO_444001 := aM (Kd.R_below (xr HO_444001) hb); replace HO_449001 := aM (Kd.R_below (xr HO_449001) hb); replace HO_458001 := aM (Kd.R_below (xr HO_458001) hb); replace HO_489001 := aM (Kd.R_below (xr HO_489001) hb); replace BK428 := xbb BK428 hb; replace BK443 := xbb BK443 hb; replace BK448 := xbb BK448 hb; replace BK457 := xbb BK457 hb; replace BK488 := xbb BK488 hb; replace HB := xbs hb; (try clear hb); (try clear hb2); (try clear hk); (try clear hi)))
                 go_ret
                 exact ⟨by first | rfl | (simp [errW_none, errW_some] <;> rfl) | (simp [*, errW_none, errW_some] <;> rfl), xbg⟩
                ·rw [if_neg c172] at H
                 have c172b0 : decide (t490 < 0) = false := decide_eq_false c172; clear c172
                 by_cases c179 : t490 = t473
                 ·rw [if_pos c179] at H
                  have c179b0 : (t490 == t473) = true := beq_iff_eq.mpr c179; have c179b1 : (t490 != t473) = false := bne_eq_false_iff_eq.mpr c179; clear c179
                  obtain rfl := Option.some.inj H
                  have hnb180 := NB457_428.out; have hnc180 := NB428_457.out; have hnb181 := NB457_443.out; have hnc181 := NB443_457.out; have hnb182 := NB457_448.out; have hnc182 := NB448_457.out; have hnb183 := NB457_488.out; have hnc183 := NB488_457.out; have hcz184_0 : wc.cell? ⟨gb457, 0, none⟩ = some (.int .i64 t452) := xc BK457 0 rfl; have hcz184_1 : wc.cell? ⟨gb457, 1, none⟩ = some (.slice Ao50 t474.length co50) := xc BK457 1 rfl; have hfz184_0 := blk_frozen BK457.out 0; have hfz184_1 := blk_frozen BK457.out 1
                  go_wp2_with (first | ((with_reducible refine gate_callee (f := 43) rfl ?_); refine goesL_ (some 118) rfl rfl Try.func43 (by kernel_rfl) rfl #[.agg #[.int .i64 t452, .slice Ao50 t474.length co50], .int .i64 1] rfl (by (try simp only [List.map_toArray, List.map_cons, List.map_nil]); first | done | rfl | (simp only [List.length_drop, List.length_take]; rfl)) ?_; (with_reducible refine (laws_heldDisk.calls kj124 t452 _ _ t474 1 t490 _ ?side1 ?side2 A171.out).mono ?_); (case side1 => repeat (first | exact (Kd.R_reads' HO_458001.out).2.2 | (with_reducible refine Kd.C_alloc ?_ _) | (with_reducible refine Kd.C_drewN ?_ _) | (with_reducible refine Kd.C_drew ?_))); (case side2 => exact (Kd.R_reads' HO_458001.out).2.1); rintro e w185 ⟨rfl, hb⟩; refine ⟨_, rfl, ?_⟩; replace HO_444001 := aM (Kd.R_below (xr HO_444001) hb); replace HO_449001 := aM (Kd.R_below (xr HO_449001) hb); replace HO_458001 := aM (Kd.R_below (xr HO_458001) hb); replace HO_489001 := aM (Kd.R_below (xr HO_489001) hb); replace BK428 := xbb BK428 hb; replace BK443 := xbb BK443 hb; replace BK448 := xbb BK448 hb; replace BK457 := xbb BK457 hb; replace BK488 := xbb BK488 hb; replace HB := xbs hb; (try clear hb); (try clear hb2); (try clear hk); (try clear hi)))
                  go_ret
                  exact ⟨by first | rfl | (simp [errW_none, errW_some] <;> rfl) | (simp [*, errW_none, errW_some] <;> rfl), xbg⟩
                 ·rw [if_neg c179] at H
                  have c179b0 : (t490 == t473) = false := beq_eq_false_iff_ne.mpr c179; have c179b1 : (t490 != t473) = true := bne_iff_ne.mpr c179
                  obtain rfl := Option.some.inj H
                  have hnb186 := NB457_428.out; have hnc186 := NB428_457.out; have hnb187 := NB457_443.out; have hnc187 := NB443_457.out; have hnb188 := NB457_448.out; have hnc188 := NB448_457.out; have hnb189 := NB457_488.out; have hnc189 := NB488_457.out; have hcz190_0 : wc.cell? ⟨gb457, 0, none⟩ = some (.int .i64 t452) := xc BK457 0 rfl; have hcz190_1 : wc.cell? ⟨gb457, 1, none⟩ = some (.slice Ao50 t474.length co50) := xc BK457 1 rfl; have hfz190_0 := blk_frozen BK457.out 0; have hfz190_1 := blk_frozen BK457.out 1
                  go_wp2_with (first | ((with_reducible refine gate_callee (f := 43) rfl ?_); refine goesL_ (some 118) rfl rfl Try.func43 (by kernel_rfl) rfl #[.agg #[.int .i64 t452, .slice Ao50 t474.length co50], .int .i64 1] rfl (by (try simp only [List.map_toArray, List.map_cons, List.map_nil]); first | done | rfl | (simp only [List.length_drop, List.length_take]; rfl)) ?_; (with_reducible refine (laws_heldDisk.calls kj124 t452 _ _ t474 1 t490 _ ?side1 ?side2 A171.out).mono ?_); (case side1 => repeat (first | exact (Kd.R_reads' HO_458001.out).2.2 | (with_reducible refine Kd.C_alloc ?_ _) | (with_reducible refine Kd.C_drewN ?_ _) | (with_reducible refine Kd.C_drew ?_))); (case side2 => exact (Kd.R_reads' HO_458001.out).2.1); rintro e w191 ⟨rfl, hb⟩; refine ⟨_, rfl, ?_⟩; replace HO_444001 := aM (Kd.R_below (xr HO_444001) hb); replace HO_449001 := aM (Kd.R_below (xr HO_449001) hb); replace HO_458001 := aM (Kd.R_below (xr HO_458001) hb); replace HO_489001 := aM (Kd.R_below (xr HO_489001) hb); replace BK428 := xbb BK428 hb; replace BK443 := xbb BK443 hb; replace BK448 := xbb BK448 hb; replace BK457 := xbb BK457 hb; replace BK488 := xbb BK488 hb; replace HB := xbs hb; (try clear hb); (try clear hb2); (try clear hk); (try clear hi)))
                  go_ret
                  exact ⟨by first | rfl | (simp [errW_none, errW_some] <;> rfl) | (simp [*, errW_none, errW_some] <;> rfl), xbg⟩
            ·rw [if_neg c121] at H
             have c121b0 : (t475 == t473) = false := beq_eq_false_iff_ne.mpr c121; have c121b1 : (t475 != t473) = true := bne_iff_ne.mpr c121
             obtain rfl := Option.some.inj H
             have hnb192 := NB457_428.out; have hnc192 := NB428_457.out; have hnb193 := NB457_443.out; have hnc193 := NB443_457.out; have hnb194 := NB457_448.out; have hnc194 := NB448_457.out; have hcz195_0 : wc.cell? ⟨gb457, 0, none⟩ = some (.int .i64 t452) := xc BK457 0 rfl; have hcz195_1 : wc.cell? ⟨gb457, 1, none⟩ = some (.slice Ao50 t453.length co50) := xc BK457 1 rfl; have hfz195_0 := blk_frozen BK457.out 0; have hfz195_1 := blk_frozen BK457.out 1
             go_wp2_with (first | ((with_reducible refine gate_callee (f := 42) rfl ?_); refine goesL_ (some 89) rfl rfl Try.func42 (by kernel_rfl) rfl #[.agg #[.int .i64 t452, .slice Ao50 t453.length co50], .int .i64 1] rfl (by (try simp only [List.map_toArray, List.map_cons, List.map_nil]); first | done | rfl | (simp only [List.length_drop, List.length_take]; rfl)) ?_; (with_reducible refine (laws_markDisk.calls kj77 t452 (fun k_ => some k_ = (.slice Ao50 t453.length co50 : Value).ownBlock) (.slice Ao50 t453.length co50) t453 1 t473 t474 w _ ?side1 ?side2 A111.out).mono ?_); (case side1 => repeat (first | (with_reducible first | exact HB.out | apply below_alloc | apply pw_below_drewN | apply below_drew1 | refine below_set ?_ GE428.out | refine below_set ?_ GE443.out | refine below_set ?_ GE448.out | refine below_set ?_ GE457.out) | exact HB.out)); (case side2 => exact Kd.R_tight rfl HO_458001.out); rintro e w196 ⟨rfl, hy0, hb, hkp⟩; refine ⟨_, rfl, ?_⟩; have n0_ := aM (Kd.R_mono (ok' := fun k_ => some k_ ≠ (.slice Ao40 t469.length co40 : Value).ownBlock ∧ some k_ ≠ (.slice Ao50 t453.length co50 : Value).ownBlock) (Kd.R_keptB (HO_444001.out) hkp (fun k_ hk_ hs_ => (hk_.2) hs_)) (fun k_ hk_ => ⟨hk_.1.1, hk_.1.2⟩)); have n1_ := aM (Kd.R_mono (ok' := fun k_ => some k_ ≠ (.slice Ao33 t439.length co33 : Value).ownBlock ∧ some k_ ≠ (.slice Ao50 t453.length co50 : Value).ownBlock) (Kd.R_keptB (HO_449001.out) hkp (fun k_ hk_ hs_ => (hk_.2) hs_)) (fun k_ hk_ => ⟨hk_.1.1, hk_.1.2⟩)); have n2_ := aM (Kd.R_reok rfl hy0 (fun k_ e_ => HO_458001.out.1 k_ e_)); have n3_ := aM (blk_kept xblk hkp (fun hs_ => (fun e_ => (Kd.R_ne HO_458001.out BK428.out (by decide)) e_) hs_)); have n4_ := aM (blk_kept xblk hkp (fun hs_ => (fun e_ => (Kd.R_ne HO_458001.out BK443.out (by decide)) e_) hs_)); have n5_ := aM (blk_kept xblk hkp (fun hs_ => (fun e_ => (Kd.R_ne HO_458001.out BK448.out (by decide)) e_) hs_)); have n6_ := aM (blk_kept xblk hkp (fun hs_ => (fun e_ => (Kd.R_ne HO_458001.out BK457.out (by decide)) e_) hs_)); have n7_ := aM (hb); clear HO_444001; clear HO_449001; clear HO_458001; clear BK428; clear BK443; clear BK448; clear BK457; clear HB; have HO_444001 := n0_; have HO_449001 := n1_; have HO_458001 := n2_; have BK428 := n3_; have BK443 := n4_; have BK448 := n5_; have BK457 := n6_; have HB := n7_; clear n0_ n1_ n2_ n3_ n4_ n5_ n6_ n7_; (try clear hb); (try clear hkp); (try clear hy0); have hcz197_0 : w196.cell? ⟨gb457, 0, none⟩ = some (.int .i64 t452) := xc BK457 0 rfl; have hcz197_1 : w196.cell? ⟨gb457, 1, none⟩ = some (.slice Ao50 t453.length co50) := xc BK457 1 rfl; have hfz197_0 := blk_frozen BK457.out 0; have hfz197_1 := blk_frozen BK457.out 1) | ((with_reducible refine gate_callee (f := 43) rfl ?_); refine goesL_ (some 92) rfl rfl Try.func43 (by kernel_rfl) rfl #[.agg #[.int .i64 t452, .slice Ao50 t474.length co50], .int .i64 1] rfl (by (try simp only [List.map_toArray, List.map_cons, List.map_nil]); first | done | (rw [show t474.length = t453.length from (Kd.R_reads' HO_458001.out).1.symm] <;> rfl) | rfl | (simp only [List.length_drop, List.length_take]; rfl)) ?_; (with_reducible refine (laws_heldDisk.calls kj77 t452 _ _ t474 1 t475 _ ?side1 ?side2 A112.out).mono ?_); (case side1 => repeat (first | exact (Kd.R_reads' HO_458001.out).2.2 | (with_reducible refine Kd.C_alloc ?_ _) | (with_reducible refine Kd.C_drewN ?_ _) | (with_reducible refine Kd.C_drew ?_))); (case side2 => rw [show t474.length = t453.length from (Kd.R_reads' HO_458001.out).1.symm]; exact (Kd.R_reads' HO_458001.out).2.1); rintro e w198 ⟨rfl, hb⟩; refine ⟨_, rfl, ?_⟩; replace HO_444001 := aM (Kd.R_below (xr HO_444001) hb); replace HO_449001 := aM (Kd.R_below (xr HO_449001) hb); replace HO_458001 := aM (Kd.R_below (xr HO_458001) hb); replace BK428 := xbb BK428 hb; replace BK443 := xbb BK443 hb; replace BK448 := xbb BK448 hb; replace BK457 := xbb BK457 hb; replace HB := xbs hb; (try clear hb); (try clear hb2); (try clear hk); (try clear hi)))
             go_ret
             exact ⟨by first | rfl | (simp [errW_none, errW_some] <;> rfl) | (simp [*, errW_none, errW_some] <;> rfl), xbg⟩
       ·replace c75 := Bool.eq_false_iff.mpr c75
        subst c75
        have H1 : (some false) = some r := by rw [if_neg (show ¬ (false = true) by decide)] at H; exact H
        clear H; have H := H1; clear H1
        obtain rfl := Option.some.inj H
        try go_wp2
        replace HO_11 := aM (Kd.R_drew HO_11.out); replace HO_444001 := aM (Kd.R_drew HO_444001.out); replace HO_449001 := aM (Kd.R_drew HO_449001.out); replace HO_458001 := aM (Kd.R_drew HO_458001.out); replace BK428 := aM (blk_drew BK428.out); replace BK443 := aM (blk_drew BK443.out); replace BK448 := aM (blk_drew BK448.out); replace BK457 := aM (blk_drew BK457.out); replace HB := aM (below_drew1 HB.out)
        refine start_ (n := 5) (S := fun w' => w'.cell? ⟨gb448, 0, none⟩ = some (.int .i64 t444) ∧ w'.cell? ⟨gb448, 1, none⟩ = some (.slice Ao40 t445.length co40) ∧ w'.cell? ⟨gb428, 0, none⟩ = some (.int .i64 a0_0) ∧ w'.cell? ⟨gb428, 1, none⟩ = some (.slice A0_1 l0_1.length c0_1)) (ds := []) #[false, false, false, false, false] (by kernel_rfl) rfl rfl ⟨xc BK448 0 rfl, xc BK448 1 rfl, xc BK428 0 rfl, xc BK428 1 rfl⟩ (fun hHeld => ?_)
        generalize wc.drew = w199 at HO_11 HO_444001 HO_449001 HO_458001 BK428 BK443 BK448 BK457 HB hHeld ⊢
        refine take_ (i := 0) (N := some 58) (v := ?_) (a' := ?_) #[true, false, false, false, false] rfl rfl (by kernel_rfl) (fun _ _ _ h => h) (Or.inl ⟨by rfl, ?_⟩) hHeld ?_ ?_
        rotate_left
        ·rintro w' ⟨s0, s1, s2, s3⟩
         go_simp
         with_reducible rfl
        rotate_left
        ·simp only [Act.put, List.setIfInBounds_toArray, List.set_cons_zero, List.set_cons_succ, i64_w, i32_w]
         rfl
        refine take_ (i := 1) (N := some 59) (v := ?_) (a' := ?_) #[true, true, false, false, false] rfl rfl (by kernel_rfl) (fun _ _ _ h => h) (Or.inl ⟨by rfl, ?_⟩) hHeld ?_ ?_
        rotate_left
        ·rintro w' ⟨s0, s1, s2, s3⟩
         go_simp
         with_reducible rfl
        rotate_left
        ·simp only [Act.put, List.setIfInBounds_toArray, List.set_cons_zero, List.set_cons_succ, i64_w, i32_w]
         rfl
        refine one_ (i := 2) (N := some 60) #[true, true, true, false, false] rfl rfl (by kernel_rfl) (by decide) (fun K hK => ?_)
        refine goesY Try.func39 #[.agg #[.int .i64 a0_0, .slice A0_1 l0_1.length c0_1]] ?_
        with_reducible refine (laws_toDisk.calls kj19 a0_0 _ _ l0_1 t459 t460 _ ?side1 ?side2 A70.out).mono ?_
        (case side1 => exact xcb HR0_1)
        (case side2 => exact HC0_1.out)
        rintro e w200 ⟨v461, rfl, ho0, hb⟩
        refine ⟨_, rfl, ?_⟩
        replace HO_11 := aM (Kd.R_below (xr HO_11) hb); have HO462 := aM (Kd.R_lower (Kd.R_new' (Kd.R_new' (Kd.R_new' ho0 (Kd.R_lt (xr HO_444001))) (Kd.R_lt (xr HO_449001))) (Kd.R_lt (xr HO_458001))) (below_size xbg)); replace HO_444001 := aM (Kd.R_elder' (xr HO_444001) (Kd.R_base ho0) hb); replace HO_449001 := aM (Kd.R_elder' (xr HO_449001) (Kd.R_base ho0) hb); replace HO_458001 := aM (Kd.R_elder' (xr HO_458001) (Kd.R_base ho0) hb); replace BK428 := xbb BK428 hb; replace BK443 := xbb BK443 hb; replace BK448 := xbb BK448 hb; replace BK457 := xbb BK457 hb; replace HB := xbs hb
        (try clear hb); (try clear hb2); (try clear hk); (try clear hi); (try clear ho0)
        obtain ⟨Ao201, co201, eo201⟩ := Kd.R_slice HO462.out
        (first | subst eo201 | (injection eo201 with f1_ f2_ f3_; have f4_ := f1_.symm; have f5_ := f3_.symm; clear f1_ f2_ f3_; subst f4_; subst f5_))
        refine hK.out _ _ ⟨xc BK448 0 rfl, xc BK448 1 rfl, xc BK428 0 rfl, xc BK428 1 rfl⟩ (fun hHeld => ?_)
        clear hK K
        refine norm_ (a' := ?_) ?_ ?_
        rotate_left
        ·show Act.put _ (some 60) _ = _
         simp only [Act.put, List.setIfInBounds_toArray, List.set_cons_zero, List.set_cons_succ, i64_w, i32_w]
         rfl
        refine one_ (i := 3) (N := some 61) #[true, true, true, true, false] rfl rfl (by kernel_rfl) (by decide) (fun K hK => ?_)
        refine goesY Try.func41 #[.agg #[.int .i64 t444, .slice Ao40 t445.length co40], .agg #[.int .i64 t459, .slice Ao201 t460.length co201]] ?_
        with_reducible refine (laws_eqDisk.calls kj19 t444 _ _ t445 t459 _ _ t460 true _ ?side1 ?side2 ?side3 ?side4 A71.out).mono ?_
        (case side1 => repeat (first | exact (Kd.R_reads' HO_449001.out).2.2 | (with_reducible refine Kd.C_alloc ?_ _) | (with_reducible refine Kd.C_drewN ?_ _) | (with_reducible refine Kd.C_drew ?_)))
        (case side2 => exact (Kd.R_reads' HO_449001.out).2.1)
        (case side3 => repeat (first | exact (Kd.R_reads' HO462.out).2.2 | (with_reducible refine Kd.C_alloc ?_ _) | (with_reducible refine Kd.C_drewN ?_ _) | (with_reducible refine Kd.C_drew ?_)))
        (case side4 => exact (Kd.R_reads' HO462.out).2.1)
        rintro e w202 ⟨rfl, hb⟩
        refine ⟨_, rfl, ?_⟩
        replace HO_11 := aM (Kd.R_below (xr HO_11) hb); replace HO_444001 := aM (Kd.R_below (xr HO_444001) hb); replace HO_449001 := aM (Kd.R_below (xr HO_449001) hb); replace HO_458001 := aM (Kd.R_below (xr HO_458001) hb); replace HO462 := aM (Kd.R_below (xr HO462) hb); replace BK428 := xbb BK428 hb; replace BK443 := xbb BK443 hb; replace BK448 := xbb BK448 hb; replace BK457 := xbb BK457 hb; replace HB := xbs hb
        (try clear hb); (try clear hb2); (try clear hk); (try clear hi)
        refine hK.out _ _ ⟨xc BK448 0 rfl, xc BK448 1 rfl, xc BK428 0 rfl, xc BK428 1 rfl⟩ (fun hHeld => ?_)
        clear hK K
        refine norm_ (a' := ?_) ?_ ?_
        rotate_left
        ·show Act.put _ (some 61) _ = _
         simp only [Act.put, List.setIfInBounds_toArray, List.set_cons_zero, List.set_cons_succ, i64_w, i32_w]
         rfl
        refine pure_ (i := 4) (N := some 62) (v := ?_) (a' := ?_) #[true, true, true, true, true] rfl rfl (by kernel_rfl) (fun _ _ _ h => h) (Or.inl ⟨by rfl, ?_⟩) ?_ ?_
        rotate_left
        ·intro w'
         go_simp
         with_reducible rfl
        rotate_left
        ·simp only [Act.put, List.setIfInBounds_toArray, List.set_cons_zero, List.set_cons_succ, i64_w, i32_w]
         rfl
        refine done_ (by kernel_rfl) ?_
        try go_wp2_with (first | ((with_reducible refine gate_callee (f := 61) rfl ?_); refine goesL_ (some 65) rfl rfl Try.func61 (by kernel_rfl) rfl #[.slice A2 l2.length c2] rfl (by (try simp only [List.map_toArray, List.map_cons, List.map_nil]); first | done | rfl | (simp only [List.length_drop, List.length_take]; rfl)) ?_; (with_reducible refine (laws_toStringS.calls kj19 _ _ l2 t464 _ ?side1 ?side2 A73.out).mono ?_); (case side1 => exact xcb HR2); (case side2 => exact HC2.out); rintro e w203 ⟨v465, rfl, ho0, hb⟩; refine ⟨_, rfl, ?_⟩; replace HO_444001 := aM (Kd.R_below (xr HO_444001) hb); replace HO_449001 := aM (Kd.R_below (xr HO_449001) hb); replace HO_458001 := aM (Kd.R_below (xr HO_458001) hb); replace HO462 := aM (Kd.R_below (xr HO462) hb); have HO466 := aM (Kd.R_lower (Kd.R_new' ho0 (Kd.R_lt (xr HO_11))) (below_size xbg)); replace HO_11 := aM (Kd.R_elder' (xr HO_11) (Kd.R_base ho0) hb); replace BK428 := xbb BK428 hb; replace BK443 := xbb BK443 hb; replace BK448 := xbb BK448 hb; replace BK457 := xbb BK457 hb; replace HB := xbs hb; (try clear hb); (try clear hb2); (try clear hk); (try clear hi); (try clear ho0); obtain ⟨Ao204, co204, eo204⟩ := Kd.R_slice HO466.out; subst eo204) | ((with_reducible refine gate_callee (f := 63) rfl ?_); refine goesL_ (some 66) rfl rfl Try.func63 (by kernel_rfl) rfl #[.slice Ao43 t449.length co43, .slice Ao204 t464.length co204] rfl (by (try simp only [List.map_toArray, List.map_cons, List.map_nil]); first | done | rfl | (simp only [List.length_drop, List.length_take]; rfl)) ?_; (with_reducible refine (laws_eqStringS.calls kj19 _ _ t449 _ _ t464 false _ ?side1 ?side2 ?side3 ?side4 A74.out).mono ?_); (case side1 => repeat (first | exact (Kd.R_reads' HO_11.out).2.2 | (with_reducible refine Kd.C_alloc ?_ _) | (with_reducible refine Kd.C_drewN ?_ _) | (with_reducible refine Kd.C_drew ?_))); (case side2 => exact (Kd.R_reads' HO_11.out).2.1); (case side3 => repeat (first | exact (Kd.R_reads' HO466.out).2.2 | (with_reducible refine Kd.C_alloc ?_ _) | (with_reducible refine Kd.C_drewN ?_ _) | (with_reducible refine Kd.C_drew ?_))); (case side4 => exact (Kd.R_reads' HO466.out).2.1); rintro e w' ⟨rfl, ⟨nd, rfl⟩⟩; refine ⟨_, rfl, ?_⟩))
        go_ret
        exact ⟨by first | rfl | (simp [errW_none, errW_some] <;> rfl) | (simp [*, errW_none, errW_some] <;> rfl), xbg⟩
      ·replace c72 := Bool.eq_false_iff.mpr c72
       subst c72
       have H1 : (some false) = some r := by rw [if_neg (show ¬ (false = true) by decide)] at H; exact H
       clear H; have H := H1; clear H1
       obtain rfl := Option.some.inj H
       try go_wp2
       replace HO_11 := aM (Kd.R_drew HO_11.out); replace HO_444001 := aM (Kd.R_drew HO_444001.out); replace HO_449001 := aM (Kd.R_drew HO_449001.out); replace HO_458001 := aM (Kd.R_drew HO_458001.out); replace BK428 := aM (blk_drew BK428.out); replace BK443 := aM (blk_drew BK443.out); replace BK448 := aM (blk_drew BK448.out); replace BK457 := aM (blk_drew BK457.out); replace HB := aM (below_drew1 HB.out)
       refine start_ (n := 5) (S := fun w' => w'.cell? ⟨gb448, 0, none⟩ = some (.int .i64 t444) ∧ w'.cell? ⟨gb448, 1, none⟩ = some (.slice Ao40 t445.length co40) ∧ w'.cell? ⟨gb428, 0, none⟩ = some (.int .i64 a0_0) ∧ w'.cell? ⟨gb428, 1, none⟩ = some (.slice A0_1 l0_1.length c0_1)) (ds := []) #[false, false, false, false, false] (by kernel_rfl) rfl rfl ⟨xc BK448 0 rfl, xc BK448 1 rfl, xc BK428 0 rfl, xc BK428 1 rfl⟩ (fun hHeld => ?_)
       generalize wc.drew = w205 at HO_11 HO_444001 HO_449001 HO_458001 BK428 BK443 BK448 BK457 HB hHeld ⊢
       refine take_ (i := 0) (N := some 58) (v := ?_) (a' := ?_) #[true, false, false, false, false] rfl rfl (by kernel_rfl) (fun _ _ _ h => h) (Or.inl ⟨by rfl, ?_⟩) hHeld ?_ ?_
       rotate_left
       ·rintro w' ⟨s0, s1, s2, s3⟩
        go_simp
        with_reducible rfl
       rotate_left
       ·simp only [Act.put, List.setIfInBounds_toArray, List.set_cons_zero, List.set_cons_succ, i64_w, i32_w]
        rfl
       refine take_ (i := 1) (N := some 59) (v := ?_) (a' := ?_) #[true, true, false, false, false] rfl rfl (by kernel_rfl) (fun _ _ _ h => h) (Or.inl ⟨by rfl, ?_⟩) hHeld ?_ ?_
       rotate_left
       ·rintro w' ⟨s0, s1, s2, s3⟩
        go_simp
        with_reducible rfl
       rotate_left
       ·simp only [Act.put, List.setIfInBounds_toArray, List.set_cons_zero, List.set_cons_succ, i64_w, i32_w]
        rfl
       refine one_ (i := 2) (N := some 60) #[true, true, true, false, false] rfl rfl (by kernel_rfl) (by decide) (fun K hK => ?_)
       refine goesY Try.func39 #[.agg #[.int .i64 a0_0, .slice A0_1 l0_1.length c0_1]] ?_
       with_reducible refine (laws_toDisk.calls kj19 a0_0 _ _ l0_1 t459 t460 _ ?side1 ?side2 A70.out).mono ?_
       (case side1 => exact xcb HR0_1)
       (case side2 => exact HC0_1.out)
       rintro e w206 ⟨v461, rfl, ho0, hb⟩
       refine ⟨_, rfl, ?_⟩
       replace HO_11 := aM (Kd.R_below (xr HO_11) hb); have HO462 := aM (Kd.R_lower (Kd.R_new' (Kd.R_new' (Kd.R_new' ho0 (Kd.R_lt (xr HO_444001))) (Kd.R_lt (xr HO_449001))) (Kd.R_lt (xr HO_458001))) (below_size xbg)); replace HO_444001 := aM (Kd.R_elder' (xr HO_444001) (Kd.R_base ho0) hb); replace HO_449001 := aM (Kd.R_elder' (xr HO_449001) (Kd.R_base ho0) hb); replace HO_458001 := aM (Kd.R_elder' (xr HO_458001) (Kd.R_base ho0) hb); replace BK428 := xbb BK428 hb; replace BK443 := xbb BK443 hb; replace BK448 := xbb BK448 hb; replace BK457 := xbb BK457 hb; replace HB := xbs hb
       (try clear hb); (try clear hb2); (try clear hk); (try clear hi); (try clear ho0)
       obtain ⟨Ao207, co207, eo207⟩ := Kd.R_slice HO462.out
       (first | subst eo207 | (injection eo207 with f1_ f2_ f3_; have f4_ := f1_.symm; have f5_ := f3_.symm; clear f1_ f2_ f3_; subst f4_; subst f5_))
       refine hK.out _ _ ⟨xc BK448 0 rfl, xc BK448 1 rfl, xc BK428 0 rfl, xc BK428 1 rfl⟩ (fun hHeld => ?_)
       clear hK K
       refine norm_ (a' := ?_) ?_ ?_
       rotate_left
       ·show Act.put _ (some 60) _ = _
        simp only [Act.put, List.setIfInBounds_toArray, List.set_cons_zero, List.set_cons_succ, i64_w, i32_w]
        rfl
       refine one_ (i := 3) (N := some 61) #[true, true, true, true, false] rfl rfl (by kernel_rfl) (by decide) (fun K hK => ?_)
       refine goesY Try.func41 #[.agg #[.int .i64 t444, .slice Ao40 t445.length co40], .agg #[.int .i64 t459, .slice Ao207 t460.length co207]] ?_
       with_reducible refine (laws_eqDisk.calls kj19 t444 _ _ t445 t459 _ _ t460 false _ ?side1 ?side2 ?side3 ?side4 A71.out).mono ?_
       (case side1 => repeat (first | exact (Kd.R_reads' HO_449001.out).2.2 | (with_reducible refine Kd.C_alloc ?_ _) | (with_reducible refine Kd.C_drewN ?_ _) | (with_reducible refine Kd.C_drew ?_)))
       (case side2 => exact (Kd.R_reads' HO_449001.out).2.1)
       (case side3 => repeat (first | exact (Kd.R_reads' HO462.out).2.2 | (with_reducible refine Kd.C_alloc ?_ _) | (with_reducible refine Kd.C_drewN ?_ _) | (with_reducible refine Kd.C_drew ?_)))
       (case side4 => exact (Kd.R_reads' HO462.out).2.1)
       rintro e w208 ⟨rfl, hb⟩
       refine ⟨_, rfl, ?_⟩
       replace HO_11 := aM (Kd.R_below (xr HO_11) hb); replace HO_444001 := aM (Kd.R_below (xr HO_444001) hb); replace HO_449001 := aM (Kd.R_below (xr HO_449001) hb); replace HO_458001 := aM (Kd.R_below (xr HO_458001) hb); replace HO462 := aM (Kd.R_below (xr HO462) hb); replace BK428 := xbb BK428 hb; replace BK443 := xbb BK443 hb; replace BK448 := xbb BK448 hb; replace BK457 := xbb BK457 hb; replace HB := xbs hb
       (try clear hb); (try clear hb2); (try clear hk); (try clear hi)
       refine hK.out _ _ ⟨xc BK448 0 rfl, xc BK448 1 rfl, xc BK428 0 rfl, xc BK428 1 rfl⟩ (fun hHeld => ?_)
       clear hK K
       refine norm_ (a' := ?_) ?_ ?_
       rotate_left
       ·show Act.put _ (some 61) _ = _
        simp only [Act.put, List.setIfInBounds_toArray, List.set_cons_zero, List.set_cons_succ, i64_w, i32_w]
        rfl
       refine pure_ (i := 4) (N := some 62) (v := ?_) (a' := ?_) #[true, true, true, true, true] rfl rfl (by kernel_rfl) (fun _ _ _ h => h) (Or.inl ⟨by rfl, ?_⟩) ?_ ?_
       rotate_left
       ·intro w'
        go_simp
        with_reducible rfl
       rotate_left
       ·simp only [Act.put, List.setIfInBounds_toArray, List.set_cons_zero, List.set_cons_succ, i64_w, i32_w]
        rfl
       refine done_ (by kernel_rfl) ?_
       try go_wp2
       go_ret
       exact ⟨by first | rfl | (simp [errW_none, errW_some] <;> rfl) | (simp [*, errW_none, errW_some] <;> rfl), xbg⟩

/-- THE ONE PURE STATEMENT of laws_FnExactJournalAdd. -/
def Q164 (x : S164) : Prop := (Lit.int .i64 x.f0).wf = true ∧ x.f1.size ≤ 140737488351232 ∧ x.f2.size ≤ 140737488351232
def Q66 (x : S66) : Prop := (Lit.int .i64 x.f0).wf = true ∧ (x.f1.length ≤ maxLen ∧ x.f1.length * 40 ≤ 140737488351232 ∧ ∀ x' ∈ x.f1, Q164 x')
def laws_FnExactJournalAdd.Pure : Prop := ∀ (a0_0 : Int) (l0_1 : List (S164)) (a1 : Int) (l2 : List ByteArray), (Lit.int .i64 a0_0).wf = true → l0_1.length ≤ maxLen → l0_1.length * 40 ≤ 140737488351232 → (∀ x ∈ l0_1, Q164 x) → (Lit.int .i64 a1).wf = true → l2.length ≤ maxLen → l2.length * 16 ≤ 140737488351232 → (∀ x ∈ l2, x.size ≤ 140737488351232) → ∃ k, laws_FnExactJournalAdd.f k a0_0 l0_1 a1 l2 = some true
theorem laws_FnExactJournalAdd.walk (P : laws_FnExactJournalAdd.Pure) (a0_0 : Int) (A0_1 : Option Addr) (c0_1 : Nat) (l0_1 : List (S164)) (a1 : Int) (A2 : Option Addr) (c2 : Nat) (l2 : List ByteArray) (w : World) (w0_0 : (Lit.int .i64 a0_0).wf = true) (hr0_1 : Kd.C k164 w A0_1 l0_1.length l0_1) (hc0_1 : l0_1.length ≤ c0_1) (hm0_1 : l0_1.length ≤ maxLen) (hz0_1 : l0_1.length * 40 ≤ 140737488351232) (hw0_1 : ∀ x ∈ l0_1, Q164 x) (w1 : (Lit.int .i64 a1).wf = true) (hr2 : Kd.C Kd.string w A2 l2.length l2) (hc2 : l2.length ≤ c2) (hm2 : l2.length ≤ maxLen) (hz2 : l2.length * 16 ≤ 140737488351232) (hw2 : ∀ x ∈ l2, x.size ≤ 140737488351232) :
 Calls Try.prog 12 #[.agg #[.int .i64 a0_0, .slice A0_1 l0_1.length c0_1], .int .i64 a1, .slice A2 l2.length c2] w fun e w' => e = .returned (.bool true) ∧ Below w.heap.size w w' := by
 obtain ⟨k, h⟩ := P a0_0 l0_1 a1 l2 w0_0 hm0_1 hz0_1 hw0_1 w1 hm2 hz2 hw2
 refine (laws_FnExactJournalAdd.calls k a0_0 A0_1 c0_1 l0_1 a1 A2 c2 l2 true w hr0_1 hc0_1 hr2 hc2 h).mono ?_
 rintro e w' ⟨rfl, hd⟩
 exact ⟨rfl, hd⟩

end Go.Proofs.Ytnjpfllmcmomoaa.QFnExactJournalAdd
