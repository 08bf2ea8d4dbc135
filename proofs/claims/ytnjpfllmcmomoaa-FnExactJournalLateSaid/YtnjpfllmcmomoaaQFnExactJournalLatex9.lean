-- A walk, by a program of this session.
import Derived.Test.YtnjpfllmcmomoaaQFnExactJournalLatex0
import Derived.Test.YtnjpfllmcmomoaaQFnExactJournalLatex1
import Derived.Test.YtnjpfllmcmomoaaQFnExactJournalLatex2
import Derived.Test.YtnjpfllmcmomoaaQFnExactJournalLatex5
import Derived.Test.YtnjpfllmcmomoaaQFnExactJournalLatex8
namespace Go.Proofs.Ytnjpfllmcmomoaa.QFnExactJournalLate
open Go.RowKit Go.Proofs.YtnjpfllmcmomoaaW.PrintWords Go.Proofs.YtnjpfllmcmomoaaW.PrintLast Go.Proofs.YtnjpfllmcmomoaaW.PrintMore
attribute [local go_sem] max2_int min2_int max_two min_two max_three min_three max_four min_four   -- for this text's walks alone
set_option linter.unusedVariables false
set_option linter.unusedSimpArgs false

/-! ### laws_FnExactJournalLate: function 11 -/
mutual
def laws_FnExactJournalLate.j0 : Nat → Int → List ByteArray → Int → List ByteArray → Int → Bool → Int → List (S164) → Int → List (S134) → Int → List (S134) → Int → List (S134) → Option (Bool)
 | 0, _, _, _, _, _, _, _, _, _, _, _, _, _, _ => none
 | k + 1, x1, x2, x9, x11, x13, x57, x375000, x375001, x390000, x390001, x395000, x395001, x404000, x404001 => if x57 = true then (some false) else ((laws_toDisk.f k x375000 x375001).bind fun bt405 => ((laws_eqDisk.f k x395000 x395001 bt405.1 bt405.2).bind fun t409 => (if t409 = true then ((laws_toStringS.f k x2).bind fun t410 => ((laws_eqStringS.f k x11 t410).bind fun t413 => (if t413 = true then ((laws_markDisk.f k x395000 x395001 1).bind fun bt414 => ((laws_markStringS.f k x11 bt414.1).bind fun bt416 => (if bt416.1 < 0 then (laws_FnExactJournalLate.j1 k x1 x2 x9 true x375000 x375001 x390000 x390001 x404000 x404001) else ((laws_eqDisk.f k x404000 x404001 x390000 x390001).bind fun t418 => (if t418 = true then (laws_FnExactJournalLate.j1 k x1 x2 x9 (x13 != x9) x375000 x375001 x390000 x390001 x404000 x404001) else (laws_FnExactJournalLate.j1 k x1 x2 x9 true x375000 x375001 x390000 x390001 x404000 x404001)))))) else (some false)))) else (some false))))
def laws_FnExactJournalLate.j1 : Nat → Int → List ByteArray → Int → Bool → Int → List (S164) → Int → List (S134) → Int → List (S134) → Option (Bool)
 | 0, _, _, _, _, _, _, _, _, _, _ => none
 | k + 1, x1, x2, x9, x86, x375000, x375001, x390000, x390001, x404000, x404001 => if x86 = true then (some false) else ((laws_markDisk.f k x404000 x404001 1).bind fun bt419 => ((laws_heldDisk.f k x404000 bt419.2 1).bind fun t421 => (if t421 < 0 then (some false) else (if t421 = bt419.1 then ((laws_toDisk.f k x375000 x375001).bind fun bt422 => ((laws_toStringS.f k x2).bind fun t426 => ((impl_JournalLate.f k bt422.1 bt422.2 x1 t426).bind fun bt429 => ((laws_eqDisk.f k bt429.1 bt429.2.1 x390000 x390001).bind fun t435 => (if t435 = true then (laws_FnExactJournalLate.j2 k bt419.1 (bt429.2.2 != x9) x404000 bt419.2) else (laws_FnExactJournalLate.j2 k bt419.1 true x404000 bt419.2)))))) else (some false)))))
def laws_FnExactJournalLate.j2 : Nat → Int → Bool → Int → List (S134) → Option (Bool)
 | 0, _, _, _, _ => none
 | k + 1, x15, x115, x404000, x404001 => if x115 = true then (some false) else ((laws_heldDisk.f k x404000 x404001 1).bind fun t436 => (if t436 < 0 then (some false) else (if t436 = x15 then (some true) else (some false))))
end
def laws_FnExactJournalLate.f (k : Nat) (a0_0 : Int) (l0_1 : List (S164)) (a1 : Int) (l2 : List ByteArray) : Option (Bool) := (laws_szDisk.f k a0_0 l0_1 1048576).bind fun t375 => (if t375 < 0 then (some true) else ((laws_szStringS.f k l2 t375).bind fun t376 => (if t376 < 0 then (some true) else ((laws_toDisk.f k a0_0 l0_1).bind fun bt377 => ((laws_toStringS.f k l2).bind fun t381 => ((spec_JournalLate.f k bt377.1 bt377.2 a1 t381).bind fun bt384 => ((laws_toDisk.f k a0_0 l0_1).bind fun bt390 => ((laws_toStringS.f k l2).bind fun t395 => ((impl_JournalLate.f k bt390.1 bt390.2 a1 t395).bind fun bt398 => ((laws_eqDisk.f k bt398.1 bt398.2.1 bt384.1 bt384.2.1).bind fun t404 => (if t404 = true then (laws_FnExactJournalLate.j0 k a1 l2 bt384.2.2 t395 bt398.2.2 (bt398.2.2 != bt384.2.2) a0_0 l0_1 bt384.1 bt384.2.1 bt390.1 bt390.2 bt398.1 bt398.2.1) else (laws_FnExactJournalLate.j0 k a1 l2 bt384.2.2 t395 bt398.2.2 true a0_0 l0_1 bt384.1 bt384.2.1 bt390.1 bt390.2 bt398.1 bt398.2.1))))))))))))
set_option maxRecDepth 100000 in
theorem laws_FnExactJournalLate.mono_l : ∀ k, (∀ y0 y1 y2 y3 y4 y5 y6 y7 y8 y9 y10 y11 y12 y13, LeO (laws_FnExactJournalLate.j0 k y0 y1 y2 y3 y4 y5 y6 y7 y8 y9 y10 y11 y12 y13) (laws_FnExactJournalLate.j0 (k + 1) y0 y1 y2 y3 y4 y5 y6 y7 y8 y9 y10 y11 y12 y13)) ∧ (∀ y0 y1 y2 y3 y4 y5 y6 y7 y8 y9, LeO (laws_FnExactJournalLate.j1 k y0 y1 y2 y3 y4 y5 y6 y7 y8 y9) (laws_FnExactJournalLate.j1 (k + 1) y0 y1 y2 y3 y4 y5 y6 y7 y8 y9)) ∧ (∀ y0 y1 y2 y3, LeO (laws_FnExactJournalLate.j2 k y0 y1 y2 y3) (laws_FnExactJournalLate.j2 (k + 1) y0 y1 y2 y3))
 | 0 => ⟨fun _ _ _ _ _ _ _ _ _ _ _ _ _ _ r h => by simp [laws_FnExactJournalLate.j0] at h, fun _ _ _ _ _ _ _ _ _ _ r h => by simp [laws_FnExactJournalLate.j1] at h, fun _ _ _ _ r h => by simp [laws_FnExactJournalLate.j2] at h⟩
 | k + 1 => by
  obtain ⟨ih0, ih1, ih2⟩ := laws_FnExactJournalLate.mono_l k
  refine ⟨?_, ?_, ?_⟩
  ·intro y0 y1 y2 y3 y4 y5 y6 y7 y8 y9 y10 y11 y12 y13
   unfold laws_FnExactJournalLate.j0
   repeat' first
   | (with_reducible exact ih0 _ _ _ _ _ _ _ _ _ _ _ _ _ _)
   | (with_reducible exact ih1 _ _ _ _ _ _ _ _ _ _)
   | (with_reducible exact ih2 _ _ _ _)
   | (with_reducible exact impl_JournalLate.mono _ _ _ _ _)
   | (with_reducible exact laws_eqDisk.mono _ _ _ _ _)
   | (with_reducible exact laws_eqStringS.mono _ _ _)
   | (with_reducible exact laws_heldDisk.mono _ _ _ _)
   | (with_reducible exact laws_markDisk.mono _ _ _ _)
   | (with_reducible exact laws_markStringS.mono _ _ _)
   | (with_reducible exact laws_szDisk.mono _ _ _ _)
   | (with_reducible exact laws_szStringS.mono _ _ _)
   | (with_reducible exact laws_toDisk.mono _ _ _)
   | (with_reducible exact laws_toStringS.mono _ _)
   | (with_reducible exact spec_JournalLate.mono _ _ _ _ _)
   | (with_reducible exact LeO.refl _)
   | (with_reducible exact LeO.none _)
   | (with_reducible refine LeO.ite ?_ ?_)
   | (with_reducible refine LeO.bind ?_ (fun _ => ?_))
   | exact ih0 _ _ _ _ _ _ _ _ _ _ _ _ _ _
   | exact ih1 _ _ _ _ _ _ _ _ _ _
   | exact ih2 _ _ _ _
   | exact impl_JournalLate.mono _ _ _ _ _
   | exact laws_eqDisk.mono _ _ _ _ _
   | exact laws_eqStringS.mono _ _ _
   | exact laws_heldDisk.mono _ _ _ _
   | exact laws_markDisk.mono _ _ _ _
   | exact laws_markStringS.mono _ _ _
   | exact laws_szDisk.mono _ _ _ _
   | exact laws_szStringS.mono _ _ _
   | exact laws_toDisk.mono _ _ _
   | exact laws_toStringS.mono _ _
   | exact spec_JournalLate.mono _ _ _ _ _
   | exact LeO.none _
   | refine LeO.ite ?_ ?_
   | refine LeO.bind ?_ (fun _ => ?_)
  ·intro y0 y1 y2 y3 y4 y5 y6 y7 y8 y9
   unfold laws_FnExactJournalLate.j1
   repeat' first
   | (with_reducible exact ih0 _ _ _ _ _ _ _ _ _ _ _ _ _ _)
   | (with_reducible exact ih1 _ _ _ _ _ _ _ _ _ _)
   | (with_reducible exact ih2 _ _ _ _)
   | (with_reducible exact impl_JournalLate.mono _ _ _ _ _)
   | (with_reducible exact laws_eqDisk.mono _ _ _ _ _)
   | (with_reducible exact laws_eqStringS.mono _ _ _)
   | (with_reducible exact laws_heldDisk.mono _ _ _ _)
   | (with_reducible exact laws_markDisk.mono _ _ _ _)
   | (with_reducible exact laws_markStringS.mono _ _ _)
   | (with_reducible exact laws_szDisk.mono _ _ _ _)
   | (with_reducible exact laws_szStringS.mono _ _ _)
   | (with_reducible exact laws_toDisk.mono _ _ _)
   | (with_reducible exact laws_toStringS.mono _ _)
   | (with_reducible exact spec_JournalLate.mono _ _ _ _ _)
   | (with_reducible exact LeO.refl _)
   | (with_reducible exact LeO.none _)
   | (with_reducible refine LeO.ite ?_ ?_)
   | (with_reducible refine LeO.bind ?_ (fun _ => ?_))
   | exact ih0 _ _ _ _ _ _ _ _ _ _ _ _ _ _
   | exact ih1 _ _ _ _ _ _ _ _ _ _
   | exact ih2 _ _ _ _
   | exact impl_JournalLate.mono _ _ _ _ _
   | exact laws_eqDisk.mono _ _ _ _ _
   | exact laws_eqStringS.mono _ _ _
   | exact laws_heldDisk.mono _ _ _ _
   | exact laws_markDisk.mono _ _ _ _
   | exact laws_markStringS.mono _ _ _
   | exact laws_szDisk.mono _ _ _ _
   | exact laws_szStringS.mono _ _ _
   | exact laws_toDisk.mono _ _ _
   | exact laws_toStringS.mono _ _
   | exact spec_JournalLate.mono _ _ _ _ _
   | exact LeO.none _
   | refine LeO.ite ?_ ?_
   | refine LeO.bind ?_ (fun _ => ?_)
  ·intro y0 y1 y2 y3
   unfold laws_FnExactJournalLate.j2
   repeat' first
   | (with_reducible exact ih0 _ _ _ _ _ _ _ _ _ _ _ _ _ _)
   | (with_reducible exact ih1 _ _ _ _ _ _ _ _ _ _)
   | (with_reducible exact ih2 _ _ _ _)
   | (with_reducible exact impl_JournalLate.mono _ _ _ _ _)
   | (with_reducible exact laws_eqDisk.mono _ _ _ _ _)
   | (with_reducible exact laws_eqStringS.mono _ _ _)
   | (with_reducible exact laws_heldDisk.mono _ _ _ _)
   | (with_reducible exact laws_markDisk.mono _ _ _ _)
   | (with_reducible exact laws_markStringS.mono _ _ _)
   | (with_reducible exact laws_szDisk.mono _ _ _ _)
   | (with_reducible exact laws_szStringS.mono _ _ _)
   | (with_reducible exact laws_toDisk.mono _ _ _)
   | (with_reducible exact laws_toStringS.mono _ _)
   | (with_reducible exact spec_JournalLate.mono _ _ _ _ _)
   | (with_reducible exact LeO.refl _)
   | (with_reducible exact LeO.none _)
   | (with_reducible refine LeO.ite ?_ ?_)
   | (with_reducible refine LeO.bind ?_ (fun _ => ?_))
   | exact ih0 _ _ _ _ _ _ _ _ _ _ _ _ _ _
   | exact ih1 _ _ _ _ _ _ _ _ _ _
   | exact ih2 _ _ _ _
   | exact impl_JournalLate.mono _ _ _ _ _
   | exact laws_eqDisk.mono _ _ _ _ _
   | exact laws_eqStringS.mono _ _ _
   | exact laws_heldDisk.mono _ _ _ _
   | exact laws_markDisk.mono _ _ _ _
   | exact laws_markStringS.mono _ _ _
   | exact laws_szDisk.mono _ _ _ _
   | exact laws_szStringS.mono _ _ _
   | exact laws_toDisk.mono _ _ _
   | exact laws_toStringS.mono _ _
   | exact spec_JournalLate.mono _ _ _ _ _
   | exact LeO.none _
   | refine LeO.ite ?_ ?_
   | refine LeO.bind ?_ (fun _ => ?_)
theorem laws_FnExactJournalLate.mono : ∀ a0 a1 a2 a3 k, LeO (laws_FnExactJournalLate.f k a0 a1 a2 a3) (laws_FnExactJournalLate.f (k + 1) a0 a1 a2 a3) := by
 intro a0 a1 a2 a3 k
 obtain ⟨ih0, ih1, ih2⟩ := laws_FnExactJournalLate.mono_l k
 unfold laws_FnExactJournalLate.f
 repeat' first
  | (with_reducible exact ih0 _ _ _ _ _ _ _ _ _ _ _ _ _ _)
  | (with_reducible exact ih1 _ _ _ _ _ _ _ _ _ _)
  | (with_reducible exact ih2 _ _ _ _)
  | (with_reducible exact impl_JournalLate.mono _ _ _ _ _)
  | (with_reducible exact laws_eqDisk.mono _ _ _ _ _)
  | (with_reducible exact laws_eqStringS.mono _ _ _)
  | (with_reducible exact laws_heldDisk.mono _ _ _ _)
  | (with_reducible exact laws_markDisk.mono _ _ _ _)
  | (with_reducible exact laws_markStringS.mono _ _ _)
  | (with_reducible exact laws_szDisk.mono _ _ _ _)
  | (with_reducible exact laws_szStringS.mono _ _ _)
  | (with_reducible exact laws_toDisk.mono _ _ _)
  | (with_reducible exact laws_toStringS.mono _ _)
  | (with_reducible exact spec_JournalLate.mono _ _ _ _ _)
  | (with_reducible exact LeO.refl _)
  | (with_reducible exact LeO.none _)
  | (with_reducible refine LeO.ite ?_ ?_)
  | (with_reducible refine LeO.bind ?_ (fun _ => ?_))
  | exact ih0 _ _ _ _ _ _ _ _ _ _ _ _ _ _
  | exact ih1 _ _ _ _ _ _ _ _ _ _
  | exact ih2 _ _ _ _
  | exact impl_JournalLate.mono _ _ _ _ _
  | exact laws_eqDisk.mono _ _ _ _ _
  | exact laws_eqStringS.mono _ _ _
  | exact laws_heldDisk.mono _ _ _ _
  | exact laws_markDisk.mono _ _ _ _
  | exact laws_markStringS.mono _ _ _
  | exact laws_szDisk.mono _ _ _ _
  | exact laws_szStringS.mono _ _ _
  | exact laws_toDisk.mono _ _ _
  | exact laws_toStringS.mono _ _
  | exact spec_JournalLate.mono _ _ _ _ _
  | exact LeO.none _
  | refine LeO.ite ?_ ?_
  | refine LeO.bind ?_ (fun _ => ?_)
set_option maxHeartbeats 8000000 in
set_option maxRecDepth 100000 in
theorem laws_FnExactJournalLate.calls (k : Nat) (a0_0 : Int) (A0_1 : Option Addr) (c0_1 : Nat) (l0_1 : List (S164)) (a1 : Int) (A2 : Option Addr) (c2 : Nat) (l2 : List ByteArray) (r : Bool) (w : World) (hr0_1 : Kd.C k164 w A0_1 l0_1.length l0_1) (hc0_1 : l0_1.length ≤ c0_1) (hr2 : Kd.C Kd.string w A2 l2.length l2) (hc2 : l2.length ≤ c2) (h : laws_FnExactJournalLate.f k a0_0 l0_1 a1 l2 = some r) :
 Calls Try.prog 11 #[.agg #[.int .i64 a0_0, .slice A0_1 l0_1.length c0_1], .int .i64 a1, .slice A2 l2.length c2] w fun e w' => e = .returned (.bool r) ∧ Below w.heap.size w w' := by
 have hu66 := Try.underlying66
 have hu70 := Try.underlying70
 have HR0_1 := aM hr0_1
 have HC0_1 := aM hc0_1
 clear hr0_1 hc0_1
 have HR2 := aM hr2
 have HC2 := aM hc2
 clear hr2 hc2
 have HB := aM (Below.refl w.heap.size w)
 have H : ((laws_szDisk.f k a0_0 l0_1 1048576).bind fun t375 => (if t375 < 0 then (some true) else ((laws_szStringS.f k l2 t375).bind fun t376 => (if t376 < 0 then (some true) else ((laws_toDisk.f k a0_0 l0_1).bind fun bt377 => ((laws_toStringS.f k l2).bind fun t381 => ((spec_JournalLate.f k bt377.1 bt377.2 a1 t381).bind fun bt384 => ((laws_toDisk.f k a0_0 l0_1).bind fun bt390 => ((laws_toStringS.f k l2).bind fun t395 => ((impl_JournalLate.f k bt390.1 bt390.2 a1 t395).bind fun bt398 => ((laws_eqDisk.f k bt398.1 bt398.2.1 bt384.1 bt384.2.1).bind fun t404 => (if t404 = true then (laws_FnExactJournalLate.j0 k a1 l2 bt384.2.2 t395 bt398.2.2 (bt398.2.2 != bt384.2.2) a0_0 l0_1 bt384.1 bt384.2.1 bt390.1 bt390.2 bt398.1 bt398.2.1) else (laws_FnExactJournalLate.j0 k a1 l2 bt384.2.2 t395 bt398.2.2 true a0_0 l0_1 bt384.1 bt384.2.1 bt390.1 bt390.2 bt398.1 bt398.2.1))))))))))))) = some r := h
 clear h
 replace H := Option.bind_eq_some_iff.mp H
 obtain ⟨t375, A40, H⟩ := H
 replace H : (if t375 < 0 then (some true) else ((laws_szStringS.f k l2 t375).bind fun t376 => (if t376 < 0 then (some true) else ((laws_toDisk.f k a0_0 l0_1).bind fun bt377 => ((laws_toStringS.f k l2).bind fun t381 => ((spec_JournalLate.f k bt377.1 bt377.2 a1 t381).bind fun bt384 => ((laws_toDisk.f k a0_0 l0_1).bind fun bt390 => ((laws_toStringS.f k l2).bind fun t395 => ((impl_JournalLate.f k bt390.1 bt390.2 a1 t395).bind fun bt398 => ((laws_eqDisk.f k bt398.1 bt398.2.1 bt384.1 bt384.2.1).bind fun t404 => (if t404 = true then (laws_FnExactJournalLate.j0 k a1 l2 bt384.2.2 t395 bt398.2.2 (bt398.2.2 != bt384.2.2) a0_0 l0_1 bt384.1 bt384.2.1 bt390.1 bt390.2 bt398.1 bt398.2.1) else (laws_FnExactJournalLate.j0 k a1 l2 bt384.2.2 t395 bt398.2.2 true a0_0 l0_1 bt384.1 bt384.2.1 bt390.1 bt390.2 bt398.1 bt398.2.1)))))))))))) = some r := H
 have A4 := aM A40
 clear A40
 by_cases c5 : t375 < 0
 ·rw [if_pos c5] at H
  have c5b0 : decide (t375 < 0) = true := decide_eq_true c5; clear c5
  obtain rfl := Option.some.inj H
  go_enter Try.func11, Try.ntmps11
  go_wp2_with (first | ((with_reducible refine gate_dst (N := 3) rfl ?_); refine box_event ?hg (N := 3) ?hd (cs := #[.int .i64 a0_0, .slice A0_1 l0_1.length c0_1]) (t := 66) ?hr ?_; (case hd => rfl); (case hg => rfl); (case hr => first | (go_simp; done) | (go_simp; rfl)); intro gb374 hg w6 hbox hb; have BK374 := aM (hbox); have GW374 := aM (xge hg); have GE374 := aM (xge hg); replace HB := xbs hb; clear hb hbox hg; have hcz7_0 : w6.cell? ⟨gb374, 0, none⟩ = some (.int .i64 a0_0) := xc BK374 0 rfl; have hcz7_1 : w6.cell? ⟨gb374, 1, none⟩ = some (.slice A0_1 l0_1.length c0_1) := xc BK374 1 rfl; have hfz7_0 := blk_frozen BK374.out 0; have hfz7_1 := blk_frozen BK374.out 1) | ((with_reducible refine gate_callee (f := 37) rfl ?_); refine goesL_ (some 21) rfl rfl Try.func37 (by kernel_rfl) rfl #[.agg #[.int .i64 a0_0, .slice A0_1 l0_1.length c0_1], .int .i64 1048576] rfl (by (try simp only [List.map_toArray, List.map_cons, List.map_nil]); first | done | rfl | (simp only [List.length_drop, List.length_take]; rfl)) ?_; (with_reducible refine (laws_szDisk.calls k a0_0 _ _ l0_1 1048576 t375 _ ?side1 ?side2 A4.out).mono ?_); (case side1 => exact xcb HR0_1); (case side2 => exact HC0_1.out); rintro e w8 ⟨rfl, hb⟩; refine ⟨_, rfl, ?_⟩; replace BK374 := xbb BK374 hb; replace HB := xbs hb; (try clear hb); (try clear hb2); (try clear hk); (try clear hi)))
  go_ret
  exact ⟨by first | rfl | (simp [errW_none, errW_some] <;> rfl) | (simp [*, errW_none, errW_some] <;> rfl), xbg⟩
 ·rw [if_neg c5] at H
  have c5b0 : decide (t375 < 0) = false := decide_eq_false c5; clear c5; replace H := Option.bind_eq_some_iff.mp H
  obtain ⟨t376, A90, H⟩ := H
  replace H : (if t376 < 0 then (some true) else ((laws_toDisk.f k a0_0 l0_1).bind fun bt377 => ((laws_toStringS.f k l2).bind fun t381 => ((spec_JournalLate.f k bt377.1 bt377.2 a1 t381).bind fun bt384 => ((laws_toDisk.f k a0_0 l0_1).bind fun bt390 => ((laws_toStringS.f k l2).bind fun t395 => ((impl_JournalLate.f k bt390.1 bt390.2 a1 t395).bind fun bt398 => ((laws_eqDisk.f k bt398.1 bt398.2.1 bt384.1 bt384.2.1).bind fun t404 => (if t404 = true then (laws_FnExactJournalLate.j0 k a1 l2 bt384.2.2 t395 bt398.2.2 (bt398.2.2 != bt384.2.2) a0_0 l0_1 bt384.1 bt384.2.1 bt390.1 bt390.2 bt398.1 bt398.2.1) else (laws_FnExactJournalLate.j0 k a1 l2 bt384.2.2 t395 bt398.2.2 true a0_0 l0_1 bt384.1 bt384.2.1 bt390.1 bt390.2 bt398.1 bt398.2.1)))))))))) = some r := H; have A9 := aM A90; clear A90
  by_cases c10 : t376 < 0
  ·rw [if_pos c10] at H
   have c10b0 : decide (t376 < 0) = true := decide_eq_true c10; clear c10
   obtain rfl := Option.some.inj H
   go_enter Try.func11, Try.ntmps11
   go_wp2_with (first | ((with_reducible refine gate_dst (N := 3) rfl ?_); refine box_event ?hg (N := 3) ?hd (cs := #[.int .i64 a0_0, .slice A0_1 l0_1.length c0_1]) (t := 66) ?hr ?_; (case hd => rfl); (case hg => rfl); (case hr => first | (go_simp; done) | (go_simp; rfl)); intro gb374 hg w11 hbox hb; have BK374 := aM (hbox); have GW374 := aM (xge hg); have GE374 := aM (xge hg); replace HB := xbs hb; clear hb hbox hg; have hcz12_0 : w11.cell? ⟨gb374, 0, none⟩ = some (.int .i64 a0_0) := xc BK374 0 rfl; have hcz12_1 : w11.cell? ⟨gb374, 1, none⟩ = some (.slice A0_1 l0_1.length c0_1) := xc BK374 1 rfl; have hfz12_0 := blk_frozen BK374.out 0; have hfz12_1 := blk_frozen BK374.out 1) | ((with_reducible refine gate_callee (f := 37) rfl ?_); refine goesL_ (some 21) rfl rfl Try.func37 (by kernel_rfl) rfl #[.agg #[.int .i64 a0_0, .slice A0_1 l0_1.length c0_1], .int .i64 1048576] rfl (by (try simp only [List.map_toArray, List.map_cons, List.map_nil]); first | done | rfl | (simp only [List.length_drop, List.length_take]; rfl)) ?_; (with_reducible refine (laws_szDisk.calls k a0_0 _ _ l0_1 1048576 t375 _ ?side1 ?side2 A4.out).mono ?_); (case side1 => exact xcb HR0_1); (case side2 => exact HC0_1.out); rintro e w13 ⟨rfl, hb⟩; refine ⟨_, rfl, ?_⟩; replace BK374 := xbb BK374 hb; replace HB := xbs hb; (try clear hb); (try clear hb2); (try clear hk); (try clear hi)) | ((with_reducible refine gate_callee (f := 59) rfl ?_); refine goesL_ (some 26) rfl rfl Try.func59 (by kernel_rfl) rfl #[.slice A2 l2.length c2, .int .i64 t375] rfl (by (try simp only [List.map_toArray, List.map_cons, List.map_nil]); first | done | rfl | (simp only [List.length_drop, List.length_take]; rfl)) ?_; (with_reducible refine (laws_szStringS.calls k _ _ l2 t375 t376 _ ?side1 ?side2 A9.out).mono ?_); (case side1 => exact xcb HR2); (case side2 => exact HC2.out); rintro e w' ⟨rfl, ⟨nd, rfl⟩⟩; refine ⟨_, rfl, ?_⟩))
   go_ret
   exact ⟨by first | rfl | (simp [errW_none, errW_some] <;> rfl) | (simp [*, errW_none, errW_some] <;> rfl), xbg⟩
  ·rw [if_neg c10] at H
   have c10b0 : decide (t376 < 0) = false := decide_eq_false c10; clear c10; replace H := Option.bind_eq_some_iff.mp H
   obtain ⟨⟨t377, t378⟩, A140, H⟩ := H
   replace H : ((laws_toStringS.f k l2).bind fun t381 => ((spec_JournalLate.f k t377 t378 a1 t381).bind fun bt384 => ((laws_toDisk.f k a0_0 l0_1).bind fun bt390 => ((laws_toStringS.f k l2).bind fun t395 => ((impl_JournalLate.f k bt390.1 bt390.2 a1 t395).bind fun bt398 => ((laws_eqDisk.f k bt398.1 bt398.2.1 bt384.1 bt384.2.1).bind fun t404 => (if t404 = true then (laws_FnExactJournalLate.j0 k a1 l2 bt384.2.2 t395 bt398.2.2 (bt398.2.2 != bt384.2.2) a0_0 l0_1 bt384.1 bt384.2.1 bt390.1 bt390.2 bt398.1 bt398.2.1) else (laws_FnExactJournalLate.j0 k a1 l2 bt384.2.2 t395 bt398.2.2 true a0_0 l0_1 bt384.1 bt384.2.1 bt390.1 bt390.2 bt398.1 bt398.2.1)))))))) = some r := H; have A14 := aM A140; clear A140; replace H := Option.bind_eq_some_iff.mp H
   obtain ⟨t381, A150, H⟩ := H
   replace H : ((spec_JournalLate.f k t377 t378 a1 t381).bind fun bt384 => ((laws_toDisk.f k a0_0 l0_1).bind fun bt390 => ((laws_toStringS.f k l2).bind fun t395 => ((impl_JournalLate.f k bt390.1 bt390.2 a1 t395).bind fun bt398 => ((laws_eqDisk.f k bt398.1 bt398.2.1 bt384.1 bt384.2.1).bind fun t404 => (if t404 = true then (laws_FnExactJournalLate.j0 k a1 l2 bt384.2.2 t395 bt398.2.2 (bt398.2.2 != bt384.2.2) a0_0 l0_1 bt384.1 bt384.2.1 bt390.1 bt390.2 bt398.1 bt398.2.1) else (laws_FnExactJournalLate.j0 k a1 l2 bt384.2.2 t395 bt398.2.2 true a0_0 l0_1 bt384.1 bt384.2.1 bt390.1 bt390.2 bt398.1 bt398.2.1))))))) = some r := H; have A15 := aM A150; clear A150; replace H := Option.bind_eq_some_iff.mp H
   obtain ⟨⟨t384, t385, t388⟩, A160, H⟩ := H
   replace H : ((laws_toDisk.f k a0_0 l0_1).bind fun bt390 => ((laws_toStringS.f k l2).bind fun t395 => ((impl_JournalLate.f k bt390.1 bt390.2 a1 t395).bind fun bt398 => ((laws_eqDisk.f k bt398.1 bt398.2.1 t384 t385).bind fun t404 => (if t404 = true then (laws_FnExactJournalLate.j0 k a1 l2 t388 t395 bt398.2.2 (bt398.2.2 != t388) a0_0 l0_1 t384 t385 bt390.1 bt390.2 bt398.1 bt398.2.1) else (laws_FnExactJournalLate.j0 k a1 l2 t388 t395 bt398.2.2 true a0_0 l0_1 t384 t385 bt390.1 bt390.2 bt398.1 bt398.2.1)))))) = some r := H; have A16 := aM A160; clear A160; replace H := Option.bind_eq_some_iff.mp H
   obtain ⟨⟨t390, t391⟩, A170, H⟩ := H
   replace H : ((laws_toStringS.f k l2).bind fun t395 => ((impl_JournalLate.f k t390 t391 a1 t395).bind fun bt398 => ((laws_eqDisk.f k bt398.1 bt398.2.1 t384 t385).bind fun t404 => (if t404 = true then (laws_FnExactJournalLate.j0 k a1 l2 t388 t395 bt398.2.2 (bt398.2.2 != t388) a0_0 l0_1 t384 t385 t390 t391 bt398.1 bt398.2.1) else (laws_FnExactJournalLate.j0 k a1 l2 t388 t395 bt398.2.2 true a0_0 l0_1 t384 t385 t390 t391 bt398.1 bt398.2.1))))) = some r := H; have A17 := aM A170; clear A170; replace H := Option.bind_eq_some_iff.mp H
   obtain ⟨t395, A180, H⟩ := H
   replace H : ((impl_JournalLate.f k t390 t391 a1 t395).bind fun bt398 => ((laws_eqDisk.f k bt398.1 bt398.2.1 t384 t385).bind fun t404 => (if t404 = true then (laws_FnExactJournalLate.j0 k a1 l2 t388 t395 bt398.2.2 (bt398.2.2 != t388) a0_0 l0_1 t384 t385 t390 t391 bt398.1 bt398.2.1) else (laws_FnExactJournalLate.j0 k a1 l2 t388 t395 bt398.2.2 true a0_0 l0_1 t384 t385 t390 t391 bt398.1 bt398.2.1)))) = some r := H; have A18 := aM A180; clear A180; replace H := Option.bind_eq_some_iff.mp H
   obtain ⟨⟨t398, t399, t402⟩, A190, H⟩ := H
   replace H : ((laws_eqDisk.f k t398 t399 t384 t385).bind fun t404 => (if t404 = true then (laws_FnExactJournalLate.j0 k a1 l2 t388 t395 t402 (t402 != t388) a0_0 l0_1 t384 t385 t390 t391 t398 t399) else (laws_FnExactJournalLate.j0 k a1 l2 t388 t395 t402 true a0_0 l0_1 t384 t385 t390 t391 t398 t399))) = some r := H; have A19 := aM A190; clear A190; have HC20 := aM H; clear H
   go_enter Try.func11, Try.ntmps11
   go_upto_region 12 with (first | ((with_reducible refine gate_dst (N := 3) rfl ?_); refine box_event ?hg (N := 3) ?hd (cs := #[.int .i64 a0_0, .slice A0_1 l0_1.length c0_1]) (t := 66) ?hr ?_; (case hd => rfl); (case hg => rfl); (case hr => first | (go_simp; done) | (go_simp; rfl)); intro gb374 hg w21 hbox hb; have BK374 := aM (hbox); have GW374 := aM (xge hg); have GE374 := aM (xge hg); replace HB := xbs hb; clear hb hbox hg; have hcz22_0 : w21.cell? ⟨gb374, 0, none⟩ = some (.int .i64 a0_0) := xc BK374 0 rfl; have hcz22_1 : w21.cell? ⟨gb374, 1, none⟩ = some (.slice A0_1 l0_1.length c0_1) := xc BK374 1 rfl; have hfz22_0 := blk_frozen BK374.out 0; have hfz22_1 := blk_frozen BK374.out 1) | ((with_reducible refine gate_callee (f := 37) rfl ?_); refine goesL_ (some 21) rfl rfl Try.func37 (by kernel_rfl) rfl #[.agg #[.int .i64 a0_0, .slice A0_1 l0_1.length c0_1], .int .i64 1048576] rfl (by (try simp only [List.map_toArray, List.map_cons, List.map_nil]); first | done | rfl | (simp only [List.length_drop, List.length_take]; rfl)) ?_; (with_reducible refine (laws_szDisk.calls k a0_0 _ _ l0_1 1048576 t375 _ ?side1 ?side2 A4.out).mono ?_); (case side1 => exact xcb HR0_1); (case side2 => exact HC0_1.out); rintro e w23 ⟨rfl, hb⟩; refine ⟨_, rfl, ?_⟩; replace BK374 := xbb BK374 hb; replace HB := xbs hb; (try clear hb); (try clear hb2); (try clear hk); (try clear hi)) | ((with_reducible refine gate_callee (f := 59) rfl ?_); refine goesL_ (some 26) rfl rfl Try.func59 (by kernel_rfl) rfl #[.slice A2 l2.length c2, .int .i64 t375] rfl (by (try simp only [List.map_toArray, List.map_cons, List.map_nil]); first | done | rfl | (simp only [List.length_drop, List.length_take]; rfl)) ?_; (with_reducible refine (laws_szStringS.calls k _ _ l2 t375 t376 _ ?side1 ?side2 A9.out).mono ?_); (case side1 => exact xcb HR2); (case side2 => exact HC2.out); rintro e w' ⟨rfl, ⟨nd, rfl⟩⟩; refine ⟨_, rfl, ?_⟩; (try ((repeat rw [World.drewN_drewN]); rw [drewN_self w23]; generalize hq_ : World.drewN w23 _ = w23; have n0_ := aM (blk_at hq_ BK374.out); have n1_ := aM (below_at hq_ HB.out); clear hq_ BK374 HB; have BK374 := n0_; have HB := n1_; clear n0_ n1_)); have hcz24_0 : w23.cell? ⟨gb374, 0, none⟩ = some (.int .i64 a0_0) := xc BK374 0 rfl; have hcz24_1 : w23.cell? ⟨gb374, 1, none⟩ = some (.slice A0_1 l0_1.length c0_1) := xc BK374 1 rfl; have hfz24_0 := blk_frozen BK374.out 0; have hfz24_1 := blk_frozen BK374.out 1) | ((with_reducible refine gate_callee (f := 39) rfl ?_); refine goesL_ (some 31) rfl rfl Try.func39 (by kernel_rfl) rfl #[.agg #[.int .i64 a0_0, .slice A0_1 l0_1.length c0_1]] rfl (by (try simp only [List.map_toArray, List.map_cons, List.map_nil]); first | done | rfl | (simp only [List.length_drop, List.length_take]; rfl)) ?_; (with_reducible refine (laws_toDisk.calls k a0_0 _ _ l0_1 t377 t378 _ ?side1 ?side2 A14.out).mono ?_); (case side1 => exact xcb HR0_1); (case side2 => exact HC0_1.out); rintro e w25 ⟨v379, rfl, ho0, hb⟩; refine ⟨_, rfl, ?_⟩; have HO380 := aM (Kd.R_lower ho0 (below_size xbg)); replace BK374 := xbb BK374 hb; replace HB := xbs hb; (try clear hb); (try clear hb2); (try clear hk); (try clear hi); (try clear ho0)) | ((with_reducible refine gate_callee (f := 61) rfl ?_); refine goesL_ (some 34) rfl rfl Try.func61 (by kernel_rfl) rfl #[.slice A2 l2.length c2] rfl (by (try simp only [List.map_toArray, List.map_cons, List.map_nil]); first | done | rfl | (simp only [List.length_drop, List.length_take]; rfl)) ?_; (with_reducible refine (laws_toStringS.calls k _ _ l2 t381 _ ?side1 ?side2 A15.out).mono ?_); (case side1 => exact xcb HR2); (case side2 => exact HC2.out); rintro e w26 ⟨v382, rfl, ho0, hb⟩; refine ⟨_, rfl, ?_⟩; replace HO380 := aM (Kd.R_below (xr HO380) hb); have HO383 := aM (Kd.R_lower ho0 (below_size xbg)); replace BK374 := xbb BK374 hb; replace HB := xbs hb; (try clear hb); (try clear hb2); (try clear hk); (try clear hi); (try clear ho0); obtain ⟨Ao27, co27, eo27⟩ := Kd.R_slice HO380.out; subst eo27; obtain ⟨Ao28, co28, eo28⟩ := Kd.R_slice HO383.out; subst eo28) | ((with_reducible refine gate_callee (f := 60) rfl ?_); refine goesL_ (some 35) rfl rfl Try.func60 (by kernel_rfl) rfl #[.agg #[.int .i64 t377, .slice Ao27 t378.length co27], .int .i64 a1, .slice Ao28 t381.length co28] rfl (by (try simp only [List.map_toArray, List.map_cons, List.map_nil]); first | done | rfl | (simp only [List.length_drop, List.length_take]; rfl)) ?_; (with_reducible refine (spec_JournalLate.calls k t377 _ _ t378 a1 _ _ t381 t384 t385 t388 _ ?side1 ?side2 ?side3 ?side4 A16.out).mono ?_); (case side1 => repeat (first | exact (Kd.R_reads' HO380.out).2.2 | (with_reducible refine Kd.C_alloc ?_ _) | (with_reducible refine Kd.C_drewN ?_ _) | (with_reducible refine Kd.C_drew ?_))); (case side2 => exact (Kd.R_reads' HO380.out).2.1); (case side3 => repeat (first | exact (Kd.R_reads' HO383.out).2.2 | (with_reducible refine Kd.C_alloc ?_ _) | (with_reducible refine Kd.C_drewN ?_ _) | (with_reducible refine Kd.C_drew ?_))); (case side4 => exact (Kd.R_reads' HO383.out).2.1); rintro e w29 ⟨v386, rfl, ho0, hb⟩; refine ⟨_, rfl, ?_⟩; replace HO383 := aM (Kd.R_below (xr HO383) hb); have HO387 := aM (Kd.R_lower (Kd.R_new' ho0 (Kd.R_lt (xr HO380))) (below_size xbg)); replace HO380 := aM (Kd.R_elder' (xr HO380) (Kd.R_base ho0) hb); replace BK374 := xbb BK374 hb; replace HB := xbs hb; (try clear hb); (try clear hb2); (try clear hk); (try clear hi); (try clear ho0)) | ((with_reducible refine gate_dst (N := 8) rfl ?_); refine box_event ?hg (N := 8) ?hd (cs := #[.int .i64 0, .slice none 0 0]) (t := 70) ?hr ?_; (case hd => rfl); (case hg => rfl); (case hr => first | (go_simp; done) | (go_simp; rfl)); intro gb389 hg w30 hbox hb; replace HO380 := aM (Kd.R_below (xr HO380) hb); replace HO383 := aM (Kd.R_below (xr HO383) hb); replace HO387 := aM (Kd.R_below (xr HO387) hb); have GW389 := aM (xge hg); have GE389 := aM (xge hg); replace HB := xbs hb; have NB374_389 := aM ((by rw [hg]; exact Nat.ne_of_lt (blk_lt (g := gb374) (o := .cells #[.int .i64 a0_0, .slice A0_1 l0_1.length c0_1] 66 (0, 0)) xblk) : gb374 ≠ gb389)); have NB389_374 := aM ((by rw [hg]; exact Nat.ne_of_gt (blk_lt (g := gb374) (o := .cells #[.int .i64 a0_0, .slice A0_1 l0_1.length c0_1] 66 (0, 0)) xblk) : gb389 ≠ gb374)); replace BK374 := xbb BK374 hb; have BK389 := aM (hbox); clear hb hbox hg; have hnb31 := NB389_374.out; have hnc31 := NB374_389.out; have hcz32_0 : w30.cell? ⟨gb389, 0, none⟩ = some (.int .i64 0) := xc BK389 0 rfl; have hcz32_1 : w30.cell? ⟨gb389, 1, none⟩ = some (.slice none 0 0) := xc BK389 1 rfl; have hfz32_0 := blk_frozen BK389.out 0; have hfz32_1 := blk_frozen BK389.out 1; obtain ⟨Ao33, co33, eo33⟩ := Kd.R_slice HO387.out; subst eo33; have hcz34_0 : w30.cell? ⟨gb374, 0, none⟩ = some (.int .i64 a0_0) := xc BK374 0 rfl; have hcz34_1 : w30.cell? ⟨gb374, 1, none⟩ = some (.slice A0_1 l0_1.length c0_1) := xc BK374 1 rfl; have hfz34_0 := blk_frozen BK374.out 0; have hfz34_1 := blk_frozen BK374.out 1) | ((with_reducible refine gate_callee (f := 39) rfl ?_); refine goesL_ (some 39) rfl rfl Try.func39 (by kernel_rfl) rfl #[.agg #[.int .i64 a0_0, .slice A0_1 l0_1.length c0_1]] rfl (by (try simp only [List.map_toArray, List.map_cons, List.map_nil]); first | done | rfl | (simp only [List.length_drop, List.length_take]; rfl)) ?_; (with_reducible refine (laws_toDisk.calls k a0_0 _ _ l0_1 t390 t391 _ ?side1 ?side2 A17.out).mono ?_); (case side1 => exact Kd.C_below HR0_1.out xbg); (case side2 => exact HC0_1.out); rintro e w35 ⟨v392, rfl, ho0, hb⟩; refine ⟨_, rfl, ?_⟩; replace HO383 := aM (Kd.R_below (xrt (Kd.R_mono (Kd.R_far (p := ⟨gb389, 1, none⟩) (Kd.R_far (p := ⟨gb389, 0, none⟩) (Kd.R_types HO383.out BK389.out (by decide)) (fun _ hk => hk.2) (.int .i64 t384)) (fun _ hk => hk.2) (.slice Ao33 t385.length co33)) (fun _ h_ => h_.1))) hb); have HO393 := aM (Kd.R_lower (Kd.R_new' (Kd.R_new' ho0 (Kd.R_lt (xrt (Kd.R_mono (Kd.R_far (p := ⟨gb389, 1, none⟩) (Kd.R_far (p := ⟨gb389, 0, none⟩) (Kd.R_types HO380.out BK389.out (by decide)) (fun _ hk => hk.2) (.int .i64 t384)) (fun _ hk => hk.2) (.slice Ao33 t385.length co33)) (fun _ h_ => h_.1))))) (Kd.R_lt (xrt (Kd.R_mono (Kd.R_far (p := ⟨gb389, 1, none⟩) (Kd.R_far (p := ⟨gb389, 0, none⟩) (Kd.R_types HO387.out BK389.out (by decide)) (fun _ hk => hk.2) (.int .i64 t384)) (fun _ hk => hk.2) (.slice Ao33 t385.length co33)) (fun _ h_ => h_.1))))) (below_size xbg)); replace HO380 := aM (Kd.R_elder' (xrt (Kd.R_mono (Kd.R_far (p := ⟨gb389, 1, none⟩) (Kd.R_far (p := ⟨gb389, 0, none⟩) (Kd.R_types HO380.out BK389.out (by decide)) (fun _ hk => hk.2) (.int .i64 t384)) (fun _ hk => hk.2) (.slice Ao33 t385.length co33)) (fun _ h_ => h_.1))) (Kd.R_base ho0) hb); replace HO387 := aM (Kd.R_elder' (xrt (Kd.R_mono (Kd.R_far (p := ⟨gb389, 1, none⟩) (Kd.R_far (p := ⟨gb389, 0, none⟩) (Kd.R_types HO387.out BK389.out (by decide)) (fun _ hk => hk.2) (.int .i64 t384)) (fun _ hk => hk.2) (.slice Ao33 t385.length co33)) (fun _ h_ => h_.1))) (Kd.R_base ho0) hb); replace BK374 := aM (blk_below (g := gb374) (o := .cells #[.int .i64 a0_0, .slice A0_1 l0_1.length c0_1] 66 (0, 0)) (by (with_reducible repeat (first | refine blk_drewN ?_ _ | refine blk_drew ?_ | refine blk_alloc ?_ _)); refine blk_far ?_ NB374_389.out _; (with_reducible repeat (first | refine blk_drewN ?_ _ | refine blk_drew ?_ | refine blk_alloc ?_ _)); refine blk_far ?_ NB374_389.out _; (with_reducible repeat (first | refine blk_drewN ?_ _ | refine blk_drew ?_ | refine blk_alloc ?_ _)); exact BK374.out) hb); replace BK389 := aM (blk_below (g := gb389) (o := .cells #[.int .i64 t384, .slice Ao33 t385.length co33] 70 (0, 0)) (by (with_reducible repeat (first | refine blk_drewN ?_ _ | refine blk_drew ?_ | refine blk_alloc ?_ _)); refine blk_put (cs := #[.int .i64 t384, .slice none 0 0]) ?_ 1 _ rfl; (with_reducible repeat (first | refine blk_drewN ?_ _ | refine blk_drew ?_ | refine blk_alloc ?_ _)); refine blk_put (cs := #[.int .i64 0, .slice none 0 0]) ?_ 0 _ rfl; (with_reducible repeat (first | refine blk_drewN ?_ _ | refine blk_drew ?_ | refine blk_alloc ?_ _)); exact BK389.out) hb); replace HB := xbs hb; (try clear hb); (try clear hb2); (try clear hk); (try clear hi); (try clear ho0)) | ((with_reducible refine gate_dst (N := 10) rfl ?_); refine box_event ?hg (N := 10) ?hd (cs := #[.int .i64 0, .slice none 0 0]) (t := 70) ?hr ?_; (case hd => rfl); (case hg => rfl); (case hr => first | (go_simp; done) | (go_simp; rfl)); intro gb394 hg w36 hbox hb; replace HO380 := aM (Kd.R_below (xr HO380) hb); replace HO383 := aM (Kd.R_below (xr HO383) hb); replace HO387 := aM (Kd.R_below (xr HO387) hb); replace HO393 := aM (Kd.R_below (xr HO393) hb); have GW394 := aM (xge hg); have GE394 := aM (xge hg); replace HB := xbs hb; have NB374_394 := aM ((by rw [hg]; exact Nat.ne_of_lt (blk_lt (g := gb374) (o := .cells #[.int .i64 a0_0, .slice A0_1 l0_1.length c0_1] 66 (0, 0)) xblk) : gb374 ≠ gb394)); have NB394_374 := aM ((by rw [hg]; exact Nat.ne_of_gt (blk_lt (g := gb374) (o := .cells #[.int .i64 a0_0, .slice A0_1 l0_1.length c0_1] 66 (0, 0)) xblk) : gb394 ≠ gb374)); have NB389_394 := aM ((by rw [hg]; exact Nat.ne_of_lt (blk_lt (g := gb389) (o := .cells #[.int .i64 t384, .slice Ao33 t385.length co33] 70 (0, 0)) xblk) : gb389 ≠ gb394)); have NB394_389 := aM ((by rw [hg]; exact Nat.ne_of_gt (blk_lt (g := gb389) (o := .cells #[.int .i64 t384, .slice Ao33 t385.length co33] 70 (0, 0)) xblk) : gb394 ≠ gb389)); replace BK374 := xbb BK374 hb; replace BK389 := xbb BK389 hb; have BK394 := aM (hbox); clear hb hbox hg; have hnb37 := NB394_374.out; have hnc37 := NB374_394.out; have hnb38 := NB394_389.out; have hnc38 := NB389_394.out; have hcz39_0 : w36.cell? ⟨gb394, 0, none⟩ = some (.int .i64 0) := xc BK394 0 rfl; have hcz39_1 : w36.cell? ⟨gb394, 1, none⟩ = some (.slice none 0 0) := xc BK394 1 rfl; have hfz39_0 := blk_frozen BK394.out 0; have hfz39_1 := blk_frozen BK394.out 1; obtain ⟨Ao40, co40, eo40⟩ := Kd.R_slice HO393.out; subst eo40) | ((with_reducible refine gate_callee (f := 61) rfl ?_); refine goesL_ (some 41) rfl rfl Try.func61 (by kernel_rfl) rfl #[.slice A2 l2.length c2] rfl (by (try simp only [List.map_toArray, List.map_cons, List.map_nil]); first | done | rfl | (simp only [List.length_drop, List.length_take]; rfl)) ?_; (with_reducible refine (laws_toStringS.calls k _ _ l2 t395 _ ?side1 ?side2 A18.out).mono ?_); (case side1 => exact Kd.C_below HR2.out xbg); (case side2 => exact HC2.out); rintro e w41 ⟨v396, rfl, ho0, hb⟩; refine ⟨_, rfl, ?_⟩; replace HO380 := aM (Kd.R_below (xrt (Kd.R_mono (Kd.R_far (p := ⟨gb394, 1, none⟩) (Kd.R_far (p := ⟨gb394, 0, none⟩) (Kd.R_types HO380.out BK394.out (by decide)) (fun _ hk => hk.2) (.int .i64 t390)) (fun _ hk => hk.2) (.slice Ao40 t391.length co40)) (fun _ h_ => h_.1))) hb); replace HO387 := aM (Kd.R_below (xrt (Kd.R_mono (Kd.R_far (p := ⟨gb394, 1, none⟩) (Kd.R_far (p := ⟨gb394, 0, none⟩) (Kd.R_types HO387.out BK394.out (by decide)) (fun _ hk => hk.2) (.int .i64 t390)) (fun _ hk => hk.2) (.slice Ao40 t391.length co40)) (fun _ h_ => h_.1))) hb); replace HO393 := aM (Kd.R_below (xrt (Kd.R_mono (Kd.R_far (p := ⟨gb394, 1, none⟩) (Kd.R_far (p := ⟨gb394, 0, none⟩) (Kd.R_types HO393.out BK394.out (by decide)) (fun _ hk => hk.2) (.int .i64 t390)) (fun _ hk => hk.2) (.slice Ao40 t391.length co40)) (fun _ h_ => h_.1))) hb); have HO397 := aM (Kd.R_lower (Kd.R_new' ho0 (Kd.R_lt (xrt (Kd.R_mono (Kd.R_far (p := ⟨gb394, 1, none⟩) (Kd.R_far (p := ⟨gb394, 0, none⟩) (Kd.R_types HO383.out BK394.out (by decide)) (fun _ hk => hk.2) (.int .i64 t390)) (fun _ hk => hk.2) (.slice Ao40 t391.length co40)) (fun _ h_ => h_.1))))) (below_size xbg)); replace HO383 := aM (Kd.R_elder' (xrt (Kd.R_mono (Kd.R_far (p := ⟨gb394, 1, none⟩) (Kd.R_far (p := ⟨gb394, 0, none⟩) (Kd.R_types HO383.out BK394.out (by decide)) (fun _ hk => hk.2) (.int .i64 t390)) (fun _ hk => hk.2) (.slice Ao40 t391.length co40)) (fun _ h_ => h_.1))) (Kd.R_base ho0) hb); replace BK374 := aM (blk_below (g := gb374) (o := .cells #[.int .i64 a0_0, .slice A0_1 l0_1.length c0_1] 66 (0, 0)) (by (with_reducible repeat (first | refine blk_drewN ?_ _ | refine blk_drew ?_ | refine blk_alloc ?_ _)); refine blk_far ?_ NB374_394.out _; (with_reducible repeat (first | refine blk_drewN ?_ _ | refine blk_drew ?_ | refine blk_alloc ?_ _)); refine blk_far ?_ NB374_394.out _; (with_reducible repeat (first | refine blk_drewN ?_ _ | refine blk_drew ?_ | refine blk_alloc ?_ _)); exact BK374.out) hb); replace BK389 := aM (blk_below (g := gb389) (o := .cells #[.int .i64 t384, .slice Ao33 t385.length co33] 70 (0, 0)) (by (with_reducible repeat (first | refine blk_drewN ?_ _ | refine blk_drew ?_ | refine blk_alloc ?_ _)); refine blk_far ?_ NB389_394.out _; (with_reducible repeat (first | refine blk_drewN ?_ _ | refine blk_drew ?_ | refine blk_alloc ?_ _)); refine blk_far ?_ NB389_394.out _; (with_reducible repeat (first | refine blk_drewN ?_ _ | refine blk_drew ?_ | refine blk_alloc ?_ _)); exact BK389.out) hb); replace BK394 := aM (blk_below (g := gb394) (o := .cells #[.int .i64 t390, .slice Ao40 t391.length co40] 70 (0, 0)) (by (with_reducible repeat (first | refine blk_drewN ?_ _ | refine blk_drew ?_ | refine blk_alloc ?_ _)); refine blk_put (cs := #[.int .i64 t390, .slice none 0 0]) ?_ 1 _ rfl; (with_reducible repeat (first | refine blk_drewN ?_ _ | refine blk_drew ?_ | refine blk_alloc ?_ _)); refine blk_put (cs := #[.int .i64 0, .slice none 0 0]) ?_ 0 _ rfl; (with_reducible repeat (first | refine blk_drewN ?_ _ | refine blk_drew ?_ | refine blk_alloc ?_ _)); exact BK394.out) hb); replace HB := xbs hb; (try clear hb); (try clear hb2); (try clear hk); (try clear hi); (try clear ho0); have hcz42_0 : w41.cell? ⟨gb394, 0, none⟩ = some (.int .i64 t390) := xc BK394 0 rfl; have hcz42_1 : w41.cell? ⟨gb394, 1, none⟩ = some (.slice Ao40 t391.length co40) := xc BK394 1 rfl; have hfz42_0 := blk_frozen BK394.out 0; have hfz42_1 := blk_frozen BK394.out 1; obtain ⟨Ao43, co43, eo43⟩ := Kd.R_slice HO397.out; subst eo43) | ((with_reducible refine gate_callee (f := 62) rfl ?_); refine goesL_ (some 46) rfl rfl Try.func62 (by kernel_rfl) rfl #[.agg #[.int .i64 t390, .slice Ao40 t391.length co40], .int .i64 a1, .slice Ao43 t395.length co43] rfl (by (try simp only [List.map_toArray, List.map_cons, List.map_nil]); first | done | rfl | (simp only [List.length_drop, List.length_take]; rfl)) ?_; (with_reducible refine (impl_JournalLate.calls k t390 _ _ t391 a1 _ _ t395 t398 t399 t402 _ ?side1 ?side2 ?side3 ?side4 A19.out).mono ?_); (case side1 => repeat (first | exact (Kd.R_reads' HO393.out).2.2 | (with_reducible refine Kd.C_alloc ?_ _) | (with_reducible refine Kd.C_drewN ?_ _) | (with_reducible refine Kd.C_drew ?_))); (case side2 => exact (Kd.R_reads' HO393.out).2.1); (case side3 => repeat (first | exact (Kd.R_reads' HO397.out).2.2 | (with_reducible refine Kd.C_alloc ?_ _) | (with_reducible refine Kd.C_drewN ?_ _) | (with_reducible refine Kd.C_drew ?_))); (case side4 => exact (Kd.R_reads' HO397.out).2.1); rintro e w44 ⟨v400, rfl, ho0, hb⟩; refine ⟨_, rfl, ?_⟩; replace HO383 := aM (Kd.R_below (xr HO383) hb); replace HO397 := aM (Kd.R_below (xr HO397) hb); have HO401 := aM (Kd.R_lower (Kd.R_new' (Kd.R_new' (Kd.R_new' ho0 (Kd.R_lt (xr HO380))) (Kd.R_lt (xr HO387))) (Kd.R_lt (xr HO393))) (below_size xbg)); replace HO380 := aM (Kd.R_elder' (xr HO380) (Kd.R_base ho0) hb); replace HO387 := aM (Kd.R_elder' (xr HO387) (Kd.R_base ho0) hb); replace HO393 := aM (Kd.R_elder' (xr HO393) (Kd.R_base ho0) hb); replace BK374 := xbb BK374 hb; replace BK389 := xbb BK389 hb; replace BK394 := xbb BK394 hb; replace HB := xbs hb; (try clear hb); (try clear hb2); (try clear hk); (try clear hi); (try clear ho0)) | ((with_reducible refine gate_dst (N := 12) rfl ?_); refine box_event ?hg (N := 12) ?hd (cs := #[.int .i64 0, .slice none 0 0]) (t := 70) ?hr ?_; (case hd => rfl); (case hg => rfl); (case hr => first | (go_simp; done) | (go_simp; rfl)); intro gb403 hg w45 hbox hb; replace HO380 := aM (Kd.R_below (xr HO380) hb); replace HO383 := aM (Kd.R_below (xr HO383) hb); replace HO387 := aM (Kd.R_below (xr HO387) hb); replace HO393 := aM (Kd.R_below (xr HO393) hb); replace HO397 := aM (Kd.R_below (xr HO397) hb); replace HO401 := aM (Kd.R_below (xr HO401) hb); have GW403 := aM (xge hg); have GE403 := aM (xge hg); replace HB := xbs hb; have NB374_403 := aM ((by rw [hg]; exact Nat.ne_of_lt (blk_lt (g := gb374) (o := .cells #[.int .i64 a0_0, .slice A0_1 l0_1.length c0_1] 66 (0, 0)) xblk) : gb374 ≠ gb403)); have NB403_374 := aM ((by rw [hg]; exact Nat.ne_of_gt (blk_lt (g := gb374) (o := .cells #[.int .i64 a0_0, .slice A0_1 l0_1.length c0_1] 66 (0, 0)) xblk) : gb403 ≠ gb374)); have NB389_403 := aM ((by rw [hg]; exact Nat.ne_of_lt (blk_lt (g := gb389) (o := .cells #[.int .i64 t384, .slice Ao33 t385.length co33] 70 (0, 0)) xblk) : gb389 ≠ gb403)); have NB403_389 := aM ((by rw [hg]; exact Nat.ne_of_gt (blk_lt (g := gb389) (o := .cells #[.int .i64 t384, .slice Ao33 t385.length co33] 70 (0, 0)) xblk) : gb403 ≠ gb389)); have NB394_403 := aM ((by rw [hg]; exact Nat.ne_of_lt (blk_lt (g := gb394) (o := .cells #[.int .i64 t390, .slice Ao40 t391.length co40] 70 (0, 0)) xblk) : gb394 ≠ gb403)); have NB403_394 := aM ((by rw [hg]; exact Nat.ne_of_gt (blk_lt (g := gb394) (o := .cells #[.int .i64 t390, .slice Ao40 t391.length co40] 70 (0, 0)) xblk) : gb403 ≠ gb394)); replace BK374 := xbb BK374 hb; replace BK389 := xbb BK389 hb; replace BK394 := xbb BK394 hb; have BK403 := aM (hbox); clear hb hbox hg; have hnb46 := NB403_374.out; have hnc46 := NB374_403.out; have hnb47 := NB403_389.out; have hnc47 := NB389_403.out; have hnb48 := NB403_394.out; have hnc48 := NB394_403.out; have hcz49_0 : w45.cell? ⟨gb403, 0, none⟩ = some (.int .i64 0) := xc BK403 0 rfl; have hcz49_1 : w45.cell? ⟨gb403, 1, none⟩ = some (.slice none 0 0) := xc BK403 1 rfl; have hfz49_0 := blk_frozen BK403.out 0; have hfz49_1 := blk_frozen BK403.out 1; obtain ⟨Ao50, co50, eo50⟩ := Kd.R_slice HO401.out; subst eo50))
   (try simp only [Act.put, List.setIfInBounds_toArray, List.set_cons_zero, List.set_cons_succ])
   go_cut [57] (fun v57 wc => ∃ (kq : Nat) (x57_19 : Bool), v57 = .bool x57_19 ∧ Aside0 (laws_FnExactJournalLate.j0 kq a1 l2 t388 t395 t402 x57_19 a0_0 l0_1 t384 t385 t390 t391 t398 t399 = some r) ∧ Aside0 (kq ≤ k) ∧ Aside0 (Kd.R Kd.string 9 wc w.heap.size (fun _ => True) (.slice Ao43 t395.length co43) t395) ∧ Aside0 (Kd.R k134 134 wc w.heap.size (fun k_ => some k_ ≠ ((.slice Ao40 t391.length co40) : Value).ownBlock ∧ some k_ ≠ ((.slice Ao50 t399.length co50) : Value).ownBlock) (.slice Ao33 t385.length co33) t385) ∧ Aside0 (Kd.R k134 134 wc w.heap.size (fun k_ => some k_ ≠ ((.slice Ao33 t385.length co33) : Value).ownBlock ∧ some k_ ≠ ((.slice Ao50 t399.length co50) : Value).ownBlock) (.slice Ao40 t391.length co40) t391) ∧ Aside0 (Kd.R k134 134 wc w.heap.size (fun k_ => some k_ ≠ ((.slice Ao33 t385.length co33) : Value).ownBlock ∧ some k_ ≠ ((.slice Ao40 t391.length co40) : Value).ownBlock) (.slice Ao50 t399.length co50) t399) ∧ Aside0 (wc.heap[gb374]? = some (.cells #[.int .i64 a0_0, (.slice A0_1 l0_1.length c0_1)] 66 (0, 0))) ∧ Aside0 (wc.heap[gb389]? = some (.cells #[.int .i64 t384, (.slice Ao33 t385.length co33)] 70 (0, 0))) ∧ Aside0 (wc.heap[gb394]? = some (.cells #[.int .i64 t390, (.slice Ao40 t391.length co40)] 70 (0, 0))) ∧ Aside0 (wc.heap[gb403]? = some (.cells #[.int .i64 t398, (.slice Ao50 t399.length co50)] 70 (0, 0))) ∧ Aside0 (Below w.heap.size w wc))
   case first =>
    have H := HC20.out; clear HC20; replace H := Option.bind_eq_some_iff.mp H
    obtain ⟨t404, A510, H⟩ := H
    replace H : (if t404 = true then (laws_FnExactJournalLate.j0 k a1 l2 t388 t395 t402 (t402 != t388) a0_0 l0_1 t384 t385 t390 t391 t398 t399) else (laws_FnExactJournalLate.j0 k a1 l2 t388 t395 t402 true a0_0 l0_1 t384 t385 t390 t391 t398 t399)) = some r := H; have A51 := aM A510; clear A510
    by_cases c52 : t404 = true
    ·subst c52
     have H1 : (laws_FnExactJournalLate.j0 k a1 l2 t388 t395 t402 (t402 != t388) a0_0 l0_1 t384 t385 t390 t391 t398 t399) = some r := by rw [if_pos rfl] at H; exact H
     clear H; have H := H1; clear H1
     have H' := aM H
     clear H; have hnb53 := NB403_374.out; have hnc53 := NB374_403.out; have hnb54 := NB403_389.out; have hnc54 := NB389_403.out; have hnb55 := NB403_394.out; have hnc55 := NB394_403.out; have hcz56_0 : w45.cell? ⟨gb403, 0, none⟩ = some (.int .i64 0) := xc BK403 0 rfl; have hcz56_1 : w45.cell? ⟨gb403, 1, none⟩ = some (.slice none 0 0) := xc BK403 1 rfl; have hfz56_0 := blk_frozen BK403.out 0; have hfz56_1 := blk_frozen BK403.out 1; have hnb57 := NB389_374.out; have hnc57 := NB374_389.out; have hnb58 := NB389_394.out; have hnc58 := NB394_389.out; have hcz59_0 : w45.cell? ⟨gb389, 0, none⟩ = some (.int .i64 t384) := xc BK389 0 rfl; have hcz59_1 : w45.cell? ⟨gb389, 1, none⟩ = some (.slice Ao33 t385.length co33) := xc BK389 1 rfl; have hfz59_0 := blk_frozen BK389.out 0; have hfz59_1 := blk_frozen BK389.out 1
     go_wp2_with (first | ((with_reducible refine gate_callee (f := 41) rfl ?_); refine goesL_ (some 51) rfl rfl Try.func41 (by kernel_rfl) rfl #[.agg #[.int .i64 t398, .slice Ao50 t399.length co50], .agg #[.int .i64 t384, .slice Ao33 t385.length co33]] rfl (by (try simp only [List.map_toArray, List.map_cons, List.map_nil]); first | done | rfl | (simp only [List.length_drop, List.length_take]; rfl)) ?_; (with_reducible refine (laws_eqDisk.calls k t398 _ _ t399 t384 _ _ t385 true _ ?side1 ?side2 ?side3 ?side4 A51.out).mono ?_); (case side1 => refine (Kd.R_reads' (e := 134) (base := w.heap.size) (ok := fun k_ => (((True ∧ some k_ ≠ (.slice Ao27 t378.length co27 : Value).ownBlock) ∧ some k_ ≠ (.slice Ao33 t385.length co33 : Value).ownBlock) ∧ some k_ ≠ (.slice Ao40 t391.length co40 : Value).ownBlock)) (n := t399.length) (c := co50) ?_).2.2; exact (xrt (Kd.R_mono (Kd.R_far (p := ⟨gb403, 1, none⟩) (Kd.R_far (p := ⟨gb403, 0, none⟩) (Kd.R_types HO401.out BK403.out (by decide)) (fun _ hk => hk.2) (.int .i64 t398)) (fun _ hk => hk.2) (.slice Ao50 t399.length co50)) (fun _ h_ => h_.1)))); (case side2 => exact (Kd.R_reads' HO401.out).2.1); (case side3 => refine (Kd.R_reads' (e := 134) (base := w.heap.size) (ok := fun k_ => (((True ∧ some k_ ≠ (.slice Ao27 t378.length co27 : Value).ownBlock) ∧ some k_ ≠ (.slice Ao40 t391.length co40 : Value).ownBlock) ∧ some k_ ≠ (.slice Ao50 t399.length co50 : Value).ownBlock)) (n := t385.length) (c := co33) ?_).2.2; exact (xrt (Kd.R_mono (Kd.R_far (p := ⟨gb403, 1, none⟩) (Kd.R_far (p := ⟨gb403, 0, none⟩) (Kd.R_types HO387.out BK403.out (by decide)) (fun _ hk => hk.2) (.int .i64 t398)) (fun _ hk => hk.2) (.slice Ao50 t399.length co50)) (fun _ h_ => h_.1)))); (case side4 => exact (Kd.R_reads' HO387.out).2.1); rintro e w60 ⟨rfl, hb⟩; refine ⟨_, rfl, ?_⟩; replace HO380 := aM (Kd.R_below (xrt (Kd.R_mono (Kd.R_far (p := ⟨gb403, 1, none⟩) (Kd.R_far (p := ⟨gb403, 0, none⟩) (Kd.R_types HO380.out BK403.out (by decide)) (fun _ hk => hk.2) (.int .i64 t398)) (fun _ hk => hk.2) (.slice Ao50 t399.length co50)) (fun _ h_ => h_.1))) hb); replace HO383 := aM (Kd.R_below (xrt (Kd.R_mono (Kd.R_far (p := ⟨gb403, 1, none⟩) (Kd.R_far (p := ⟨gb403, 0, none⟩) (Kd.R_types HO383.out BK403.out (by decide)) (fun _ hk => hk.2) (.int .i64 t398)) (fun _ hk => hk.2) (.slice Ao50 t399.length co50)) (fun _ h_ => h_.1))) hb); replace HO387 := aM (Kd.R_below (xrt (Kd.R_mono (Kd.R_far (p := ⟨gb403, 1, none⟩) (Kd.R_far (p := ⟨gb403, 0, none⟩) (Kd.R_types HO387.out BK403.out (by decide)) (fun _ hk => hk.2) (.int .i64 t398)) (fun _ hk => hk.2) (.slice Ao50 t399.length co50)) (fun _ h_ => h_.1))) hb); replace HO393 := aM (Kd.R_below (xrt (Kd.R_mono (Kd.R_far (p := ⟨gb403, 1, none⟩) (Kd.R_far (p := ⟨gb403, 0, none⟩) (Kd.R_types HO393.out BK403.out (by decide)) (fun _ hk => hk.2) (.int .i64 t398)) (fun _ hk => hk.2) (.slice Ao50 t399.length co50)) (fun _ h_ => h_.1))) hb); replace HO397 := aM (Kd.R_below (xrt (Kd.R_mono (Kd.R_far (p := ⟨gb403, 1, none⟩) (Kd.R_far (p := ⟨gb403, 0, none⟩) (Kd.R_types HO397.out BK403.out (by decide)) (fun _ hk => hk.2) (.int .i64 t398)) (fun _ hk => hk.2) (.slice Ao50 t399.length co50)) (fun _ h_ => h_.1))) hb); replace HO401 := aM (Kd.R_below (xrt (Kd.R_mono (Kd.R_far (p := ⟨gb403, 1, none⟩) (Kd.R_far (p := ⟨gb403, 0, none⟩) (Kd.R_types HO401.out BK403.out (by decide)) (fun _ hk => hk.2) (.int .i64 t398)) (fun _ hk => hk.2) (.slice Ao50 t399.length co50)) (fun _ h_ => h_.1))) hb); replace BK374 := aM (blk_below (g := gb374) (o := .cells #[.int .i64 a0_0, .slice A0_1 l0_1.length c0_1] 66 (0, 0)) (by (with_reducible repeat (first | refine blk_drewN ?_ _ | refine blk_drew ?_ | refine blk_alloc ?_ _)); refine blk_far ?_ NB374_403.out _; (with_reducible repeat (first | refine blk_drewN ?_ _ | refine blk_drew ?_ | refine blk_alloc ?_ _)); refine blk_far ?_ NB374_403.out _; (with_reducible repeat (first | refine blk_drewN ?_ _ | refine blk_drew ?_ | refine blk_alloc ?_ _)); exact BK374.out) hb); replace BK389 := aM (blk_below (g := gb389) (o := .cells #[.int .i64 t384, .slice Ao33 t385.length co33] 70 (0, 0)) (by (with_reducible repeat (first | refine blk_drewN ?_ _ | refine blk_drew ?_ | refine blk_alloc ?_ _)); refine blk_far ?_ NB389_403.out _; (with_reducible repeat (first | refine blk_drewN ?_ _ | refine blk_drew ?_ | refine blk_alloc ?_ _)); refine blk_far ?_ NB389_403.out _; (with_reducible repeat (first | refine blk_drewN ?_ _ | refine blk_drew ?_ | refine blk_alloc ?_ _)); exact BK389.out) hb); replace BK394 := aM (blk_below (g := gb394) (o := .cells #[.int .i64 t390, .slice Ao40 t391.length co40] 70 (0, 0)) (by (with_reducible repeat (first | refine blk_drewN ?_ _ | refine blk_drew ?_ | refine blk_alloc ?_ _)); refine blk_far ?_ NB394_403.out _; (with_reducible repeat (first | refine blk_drewN ?_ _ | refine blk_drew ?_ | refine blk_alloc ?_ _)); refine blk_far ?_ NB394_403.out _; (with_reducible repeat (first | refine blk_drewN ?_ _ | refine blk_drew ?_ | refine blk_alloc ?_ _)); exact BK394.out) hb); replace BK403 := aM (blk_below (g := gb403) (o := .cells #[.int .i64 t398, .slice Ao50 t399.length co50] 70 (0, 0)) (by (with_reducible repeat (first | refine blk_drewN ?_ _ | refine blk_drew ?_ | refine blk_alloc ?_ _)); refine blk_put (cs := #[.int .i64 t398, .slice none 0 0]) ?_ 1 _ rfl; (with_reducible repeat (first | refine blk_drewN ?_ _ | refine blk_drew ?_ | refine blk_alloc ?_ _)); refine blk_put (cs := #[.int .i64 0, .slice none 0 0]) ?_ 0 _ rfl; (with_reducible repeat (first | refine blk_drewN ?_ _ | refine blk_drew ?_ | refine blk_alloc ?_ _)); exact BK403.out) hb); replace HB := xbs hb; (try clear hb); (try clear hb2); (try clear hk); (try clear hi)))
     go_meet
     case rel => exact ⟨_, ((t402 != t388)), (by first | rfl | (simp; done) | (simp [*]; done)), H', ⟨by first | omega | exact Nat.le_refl _⟩, ⟨by (with_reducible repeat (first | apply Kd.R_alloc | apply Kd.R_drewN | apply Kd.R_drew)); exact Kd.R_mono HO397.out (fun _ hk => trivial)⟩, ⟨by (with_reducible repeat (first | apply Kd.R_alloc | apply Kd.R_drewN | apply Kd.R_drew)); exact Kd.R_mono HO387.out (fun _ hk => ⟨hk.1.2, hk.2⟩)⟩, ⟨by (with_reducible repeat (first | apply Kd.R_alloc | apply Kd.R_drewN | apply Kd.R_drew)); exact Kd.R_mono HO393.out (fun _ hk => ⟨hk.1.2, hk.2⟩)⟩, ⟨by (with_reducible repeat (first | apply Kd.R_alloc | apply Kd.R_drewN | apply Kd.R_drew)); exact Kd.R_mono HO401.out (fun _ hk => ⟨hk.1.2, hk.2⟩)⟩, ⟨xblk⟩, ⟨xblk⟩, ⟨xblk⟩, ⟨xblk⟩, ⟨xbg⟩⟩
    ·replace c52 := Bool.eq_false_iff.mpr c52
     subst c52
     have H1 : (laws_FnExactJournalLate.j0 k a1 l2 t388 t395 t402 true a0_0 l0_1 t384 t385 t390 t391 t398 t399) = some r := by rw [if_neg (show ¬ (false = true) by decide)] at H; exact H
     clear H; have H := H1; clear H1
     have H' := aM H
     clear H; have hnb61 := NB403_374.out; have hnc61 := NB374_403.out; have hnb62 := NB403_389.out; have hnc62 := NB389_403.out; have hnb63 := NB403_394.out; have hnc63 := NB394_403.out; have hcz64_0 : w45.cell? ⟨gb403, 0, none⟩ = some (.int .i64 0) := xc BK403 0 rfl; have hcz64_1 : w45.cell? ⟨gb403, 1, none⟩ = some (.slice none 0 0) := xc BK403 1 rfl; have hfz64_0 := blk_frozen BK403.out 0; have hfz64_1 := blk_frozen BK403.out 1; have hnb65 := NB389_374.out; have hnc65 := NB374_389.out; have hnb66 := NB389_394.out; have hnc66 := NB394_389.out; have hcz67_0 : w45.cell? ⟨gb389, 0, none⟩ = some (.int .i64 t384) := xc BK389 0 rfl; have hcz67_1 : w45.cell? ⟨gb389, 1, none⟩ = some (.slice Ao33 t385.length co33) := xc BK389 1 rfl; have hfz67_0 := blk_frozen BK389.out 0; have hfz67_1 := blk_frozen BK389.out 1
     go_wp2_with (first | ((with_reducible refine gate_callee (f := 41) rfl ?_); refine goesL_ (some 51) rfl rfl Try.func41 (by kernel_rfl) rfl #[.agg #[.int .i64 t398, .slice Ao50 t399.length co50], .agg #[.int .i64 t384, .slice Ao33 t385.length co33]] rfl (by (try simp only [List.map_toArray, List.map_cons, List.map_nil]); first | done | rfl | (simp only [List.length_drop, List.length_take]; rfl)) ?_; (with_reducible refine (laws_eqDisk.calls k t398 _ _ t399 t384 _ _ t385 false _ ?side1 ?side2 ?side3 ?side4 A51.out).mono ?_); (case side1 => refine (Kd.R_reads' (e := 134) (base := w.heap.size) (ok := fun k_ => (((True ∧ some k_ ≠ (.slice Ao27 t378.length co27 : Value).ownBlock) ∧ some k_ ≠ (.slice Ao33 t385.length co33 : Value).ownBlock) ∧ some k_ ≠ (.slice Ao40 t391.length co40 : Value).ownBlock)) (n := t399.length) (c := co50) ?_).2.2; exact (xrt (Kd.R_mono (Kd.R_far (p := ⟨gb403, 1, none⟩) (Kd.R_far (p := ⟨gb403, 0, none⟩) (Kd.R_types HO401.out BK403.out (by decide)) (fun _ hk => hk.2) (.int .i64 t398)) (fun _ hk => hk.2) (.slice Ao50 t399.length co50)) (fun _ h_ => h_.1)))); (case side2 => exact (Kd.R_reads' HO401.out).2.1); (case side3 => refine (Kd.R_reads' (e := 134) (base := w.heap.size) (ok := fun k_ => (((True ∧ some k_ ≠ (.slice Ao27 t378.length co27 : Value).ownBlock) ∧ some k_ ≠ (.slice Ao40 t391.length co40 : Value).ownBlock) ∧ some k_ ≠ (.slice Ao50 t399.length co50 : Value).ownBlock)) (n := t385.length) (c := co33) ?_).2.2; exact (xrt (Kd.R_mono (Kd.R_far (p := ⟨gb403, 1, none⟩) (Kd.R_far (p := ⟨gb403, 0, none⟩) (Kd.R_types HO387.out BK403.out (by decide)) (fun _ hk => hk.2) (.int .i64 t398)) (fun _ hk => hk.2) (.slice Ao50 t399.length co50)) (fun _ h_ => h_.1)))); (case side4 => exact (Kd.R_reads' HO387.out).2.1); rintro e w68 ⟨rfl, hb⟩; refine ⟨_, rfl, ?_⟩; replace HO380 := aM (Kd.R_below (xrt (Kd.R_mono (Kd.R_far (p := ⟨gb403, 1, none⟩) (Kd.R_far (p := ⟨gb403, 0, none⟩) (Kd.R_types HO380.out BK403.out (by decide)) (fun _ hk => hk.2) (.int .i64 t398)) (fun _ hk => hk.2) (.slice Ao50 t399.length co50)) (fun _ h_ => h_.1))) hb); replace HO383 := aM (Kd.R_below (xrt (Kd.R_mono (Kd.R_far (p := ⟨gb403, 1, none⟩) (Kd.R_far (p := ⟨gb403, 0, none⟩) (Kd.R_types HO383.out BK403.out (by decide)) (fun _ hk => hk.2) (.int .i64 t398)) (fun _ hk => hk.2) (.slice Ao50 t399.length co50)) (fun _ h_ => h_.1))) hb); replace HO387 := aM (Kd.R_below (xrt (Kd.R_mono (Kd.R_far (p := ⟨gb403, 1, none⟩) (Kd.R_far (p := ⟨gb403, 0, none⟩) (Kd.R_types HO387.out BK403.out (by decide)) (fun _ hk => hk.2) (.int .i64 t398)) (fun _ hk => hk.2) (.slice Ao50 t399.length co50)) (fun _ h_ => h_.1))) hb); replace HO393 := aM (Kd.R_below (xrt (Kd.R_mono (Kd.R_far (p := ⟨gb403, 1, none⟩) (Kd.R_far (p := ⟨gb403, 0, none⟩) (Kd.R_types HO393.out BK403.out (by decide)) (fun _ hk => hk.2) (.int .i64 t398)) (fun _ hk => hk.2) (.slice Ao50 t399.length co50)) (fun _ h_ => h_.1))) hb); replace HO397 := aM (Kd.R_below (xrt (Kd.R_mono (Kd.R_far (p := ⟨gb403, 1, none⟩) (Kd.R_far (p := ⟨gb403, 0, none⟩) (Kd.R_types HO397.out BK403.out (by decide)) (fun _ hk => hk.2) (.int .i64 t398)) (fun _ hk => hk.2) (.slice Ao50 t399.length co50)) (fun _ h_ => h_.1))) hb); replace HO401 := aM (Kd.R_below (xrt (Kd.R_mono (Kd.R_far (p := ⟨gb403, 1, none⟩) (Kd.R_far (p := ⟨gb403, 0, none⟩) (Kd.R_types HO401.out BK403.out (by decide)) (fun _ hk => hk.2) (.int .i64 t398)) (fun _ hk => hk.2) (.slice Ao50 t399.length co50)) (fun _ h_ => h_.1))) hb); replace BK374 := aM (blk_below (g := gb374) (o := .cells #[.int .i64 a0_0, .slice A0_1 l0_1.length c0_1] 66 (0, 0)) (by (with_reducible repeat (first | refine blk_drewN ?_ _ | refine blk_drew ?_ | refine blk_alloc ?_ _)); refine blk_far ?_ NB374_403.out _; (with_reducible repeat (first | refine blk_drewN ?_ _ | refine blk_drew ?_ | refine blk_alloc ?_ _)); refine blk_far ?_ NB374_403.out _; (with_reducible repeat (first | refine blk_drewN ?_ _ | refine blk_drew ?_ | refine blk_alloc ?_ _)); exact BK374.out) hb); replace BK389 := aM (blk_below (g := gb389) (o := .cells #[.int .i64 t384, .slice Ao33 t385.length co33] 70 (0, 0)) (by (with_reducible repeat (first | refine blk_drewN ?_ _ | refine blk_drew ?_ | refine blk_alloc ?_ _)); refine blk_far ?_ NB389_403.out _; (with_reducible repeat (first | refine blk_drewN ?_ _ | refine blk_drew ?_ | refine blk_alloc ?_ _)); refine blk_far ?_ NB389_403.out _; (with_reducible repeat (first | refine blk_drewN ?_ _ | refine blk_drew ?_ | refine blk_alloc ?_ _)); exact BK389.out) hb); replace BK394 := aM (blk_below (g := gb394) (o := .cells #[.int .i64 t390, .slice Ao40 t391.length co40] 70 (0, 0)) (by (with_reducible repeat (first | refine blk_drewN ?_ _ | refine blk_drew ?_ | refine blk_alloc ?_ _)); refine blk_far ?_ NB394_403.out _; (with_reducible repeat (first | refine blk_drewN ?_ _ | refine blk_drew ?_ | refine blk_alloc ?_ _)); refine blk_far ?_ NB394_403.out _; (with_reducible repeat (first | refine blk_drewN ?_ _ | refine blk_drew ?_ | refine blk_alloc ?_ _)); exact BK394.out) hb); replace BK403 := aM (blk_below (g := gb403) (o := .cells #[.int .i64 t398, .slice Ao50 t399.length co50] 70 (0, 0)) (by (with_reducible repeat (first | refine blk_drewN ?_ _ | refine blk_drew ?_ | refine blk_alloc ?_ _)); refine blk_put (cs := #[.int .i64 t398, .slice none 0 0]) ?_ 1 _ rfl; (with_reducible repeat (first | refine blk_drewN ?_ _ | refine blk_drew ?_ | refine blk_alloc ?_ _)); refine blk_put (cs := #[.int .i64 0, .slice none 0 0]) ?_ 0 _ rfl; (with_reducible repeat (first | refine blk_drewN ?_ _ | refine blk_drew ?_ | refine blk_alloc ?_ _)); exact BK403.out) hb); replace HB := xbs hb; (try clear hb); (try clear hb2); (try clear hk); (try clear hi)))
     go_meet
     case rel => exact ⟨_, (true), (by first | rfl | (simp; done) | (simp [*]; done)), H', ⟨by first | omega | exact Nat.le_refl _⟩, ⟨by (with_reducible repeat (first | apply Kd.R_alloc | apply Kd.R_drewN | apply Kd.R_drew)); exact Kd.R_mono HO397.out (fun _ hk => trivial)⟩, ⟨by (with_reducible repeat (first | apply Kd.R_alloc | apply Kd.R_drewN | apply Kd.R_drew)); exact Kd.R_mono HO387.out (fun _ hk => ⟨hk.1.2, hk.2⟩)⟩, ⟨by (with_reducible repeat (first | apply Kd.R_alloc | apply Kd.R_drewN | apply Kd.R_drew)); exact Kd.R_mono HO393.out (fun _ hk => ⟨hk.1.2, hk.2⟩)⟩, ⟨by (with_reducible repeat (first | apply Kd.R_alloc | apply Kd.R_drewN | apply Kd.R_drew)); exact Kd.R_mono HO401.out (fun _ hk => ⟨hk.1.2, hk.2⟩)⟩, ⟨xblk⟩, ⟨xblk⟩, ⟨xblk⟩, ⟨xblk⟩, ⟨xbg⟩⟩
   case rest =>
    clear HC20
    try clear c1
    try clear c2
    try clear p2
    try clear c3
    try clear c4
    try clear c5
    try clear c5b0
    try clear c6
    try clear c10
    try clear c10b0
    try clear c11
    try clear c31
    try clear c37
    try clear c38
    try clear c39
    try clear c41
    try clear c46
    try clear c47
    try clear c48
    try clear c52
    try clear c53
    try clear c54
    try clear c55
    try clear c57
    try clear c58
    try clear c59
    try clear c60
    try clear c61
    try clear c62
    try clear c63
    try clear c65
    try clear c66
    try clear hcz12_0
    try clear hcz12_1
    try clear hcz22_0
    try clear hcz22_1
    try clear hcz24_0
    try clear hcz24_1
    try clear hcz32_0
    try clear hcz32_1
    try clear hcz34_0
    try clear hcz34_1
    try clear hcz39_0
    try clear hcz39_1
    try clear hcz42_0
    try clear hcz42_1
    try clear hcz49_0
    try clear hcz49_1
    try clear hcz56_0
    try clear hcz56_1
    try clear hcz59_0
    try clear hcz59_1
    try clear hcz64_0
    try clear hcz64_1
    try clear hcz67_0
    try clear hcz67_1
    try clear hcz7_0
    try clear hcz7_1
    try clear hfz12_0
    try clear hfz12_1
    try clear hfz22_0
    try clear hfz22_1
    try clear hfz24_0
    try clear hfz24_1
    try clear hfz32_0
    try clear hfz32_1
    try clear hfz34_0
    try clear hfz34_1
    try clear hfz39_0
    try clear hfz39_1
    try clear hfz42_0
    try clear hfz42_1
    try clear hfz49_0
    try clear hfz49_1
    try clear hfz56_0
    try clear hfz56_1
    try clear hfz59_0
    try clear hfz59_1
    try clear hfz64_0
    try clear hfz64_1
    try clear hfz67_0
    try clear hfz67_1
    try clear hfz7_0
    try clear hfz7_1
    obtain ⟨kq, x57_19, rfl, HA, HJ19, HO_11, HO_390001, HO_395001, HO_404001, BK374, BK389, BK394, BK403, HB⟩ := hcut
    cases kq with
    | zero => exact absurd HA.out (by simp [laws_FnExactJournalLate.j0])
    | succ kj19 =>
     have H := HA.out; clear HA
     simp only [laws_FnExactJournalLate.j0] at H
     by_cases c69 : x57_19 = true
     ·subst c69
      have H1 : (some false) = some r := by rw [if_pos rfl] at H; exact H
      clear H; have H := H1; clear H1
      obtain rfl := Option.some.inj H
      go_wp2
      go_ret
      exact ⟨by first | rfl | (simp [errW_none, errW_some] <;> rfl) | (simp [*, errW_none, errW_some] <;> rfl), xbg⟩
     ·replace c69 := Bool.eq_false_iff.mpr c69
      subst c69
      have H1 : ((laws_toDisk.f kj19 a0_0 l0_1).bind fun bt405 => ((laws_eqDisk.f kj19 t390 t391 bt405.1 bt405.2).bind fun t409 => (if t409 = true then ((laws_toStringS.f kj19 l2).bind fun t410 => ((laws_eqStringS.f kj19 t395 t410).bind fun t413 => (if t413 = true then ((laws_markDisk.f kj19 t390 t391 1).bind fun bt414 => ((laws_markStringS.f kj19 t395 bt414.1).bind fun bt416 => (if bt416.1 < 0 then (laws_FnExactJournalLate.j1 kj19 a1 l2 t388 true a0_0 l0_1 t384 t385 t398 t399) else ((laws_eqDisk.f kj19 t398 t399 t384 t385).bind fun t418 => (if t418 = true then (laws_FnExactJournalLate.j1 kj19 a1 l2 t388 (t402 != t388) a0_0 l0_1 t384 t385 t398 t399) else (laws_FnExactJournalLate.j1 kj19 a1 l2 t388 true a0_0 l0_1 t384 t385 t398 t399)))))) else (some false)))) else (some false)))) = some r := by rw [if_neg (show ¬ (false = true) by decide)] at H; exact H
      clear H; have H := H1; clear H1; replace H := Option.bind_eq_some_iff.mp H
      obtain ⟨⟨t405, t406⟩, A700, H⟩ := H
      replace H : ((laws_eqDisk.f kj19 t390 t391 t405 t406).bind fun t409 => (if t409 = true then ((laws_toStringS.f kj19 l2).bind fun t410 => ((laws_eqStringS.f kj19 t395 t410).bind fun t413 => (if t413 = true then ((laws_markDisk.f kj19 t390 t391 1).bind fun bt414 => ((laws_markStringS.f kj19 t395 bt414.1).bind fun bt416 => (if bt416.1 < 0 then (laws_FnExactJournalLate.j1 kj19 a1 l2 t388 true a0_0 l0_1 t384 t385 t398 t399) else ((laws_eqDisk.f kj19 t398 t399 t384 t385).bind fun t418 => (if t418 = true then (laws_FnExactJournalLate.j1 kj19 a1 l2 t388 (t402 != t388) a0_0 l0_1 t384 t385 t398 t399) else (laws_FnExactJournalLate.j1 kj19 a1 l2 t388 true a0_0 l0_1 t384 t385 t398 t399)))))) else (some false)))) else (some false))) = some r := H; have A70 := aM A700; clear A700; replace H := Option.bind_eq_some_iff.mp H
      obtain ⟨t409, A710, H⟩ := H
      replace H : (if t409 = true then ((laws_toStringS.f kj19 l2).bind fun t410 => ((laws_eqStringS.f kj19 t395 t410).bind fun t413 => (if t413 = true then ((laws_markDisk.f kj19 t390 t391 1).bind fun bt414 => ((laws_markStringS.f kj19 t395 bt414.1).bind fun bt416 => (if bt416.1 < 0 then (laws_FnExactJournalLate.j1 kj19 a1 l2 t388 true a0_0 l0_1 t384 t385 t398 t399) else ((laws_eqDisk.f kj19 t398 t399 t384 t385).bind fun t418 => (if t418 = true then (laws_FnExactJournalLate.j1 kj19 a1 l2 t388 (t402 != t388) a0_0 l0_1 t384 t385 t398 t399) else (laws_FnExactJournalLate.j1 kj19 a1 l2 t388 true a0_0 l0_1 t384 t385 t398 t399)))))) else (some false)))) else (some false)) = some r := H; have A71 := aM A710; clear A710
      by_cases c72 : t409 = true
      ·subst c72
       have H1 : ((laws_toStringS.f kj19 l2).bind fun t410 => ((laws_eqStringS.f kj19 t395 t410).bind fun t413 => (if t413 = true then ((laws_markDisk.f kj19 t390 t391 1).bind fun bt414 => ((laws_markStringS.f kj19 t395 bt414.1).bind fun bt416 => (if bt416.1 < 0 then (laws_FnExactJournalLate.j1 kj19 a1 l2 t388 true a0_0 l0_1 t384 t385 t398 t399) else ((laws_eqDisk.f kj19 t398 t399 t384 t385).bind fun t418 => (if t418 = true then (laws_FnExactJournalLate.j1 kj19 a1 l2 t388 (t402 != t388) a0_0 l0_1 t384 t385 t398 t399) else (laws_FnExactJournalLate.j1 kj19 a1 l2 t388 true a0_0 l0_1 t384 t385 t398 t399)))))) else (some false)))) = some r := by rw [if_pos rfl] at H; exact H
       clear H; have H := H1; clear H1; replace H := Option.bind_eq_some_iff.mp H
       obtain ⟨t410, A730, H⟩ := H
       replace H : ((laws_eqStringS.f kj19 t395 t410).bind fun t413 => (if t413 = true then ((laws_markDisk.f kj19 t390 t391 1).bind fun bt414 => ((laws_markStringS.f kj19 t395 bt414.1).bind fun bt416 => (if bt416.1 < 0 then (laws_FnExactJournalLate.j1 kj19 a1 l2 t388 true a0_0 l0_1 t384 t385 t398 t399) else ((laws_eqDisk.f kj19 t398 t399 t384 t385).bind fun t418 => (if t418 = true then (laws_FnExactJournalLate.j1 kj19 a1 l2 t388 (t402 != t388) a0_0 l0_1 t384 t385 t398 t399) else (laws_FnExactJournalLate.j1 kj19 a1 l2 t388 true a0_0 l0_1 t384 t385 t398 t399)))))) else (some false))) = some r := H; have A73 := aM A730; clear A730; replace H := Option.bind_eq_some_iff.mp H
       obtain ⟨t413, A740, H⟩ := H
       replace H : (if t413 = true then ((laws_markDisk.f kj19 t390 t391 1).bind fun bt414 => ((laws_markStringS.f kj19 t395 bt414.1).bind fun bt416 => (if bt416.1 < 0 then (laws_FnExactJournalLate.j1 kj19 a1 l2 t388 true a0_0 l0_1 t384 t385 t398 t399) else ((laws_eqDisk.f kj19 t398 t399 t384 t385).bind fun t418 => (if t418 = true then (laws_FnExactJournalLate.j1 kj19 a1 l2 t388 (t402 != t388) a0_0 l0_1 t384 t385 t398 t399) else (laws_FnExactJournalLate.j1 kj19 a1 l2 t388 true a0_0 l0_1 t384 t385 t398 t399)))))) else (some false)) = some r := H; have A74 := aM A740; clear A740
       by_cases c75 : t413 = true
       ·subst c75
        have H1 : ((laws_markDisk.f kj19 t390 t391 1).bind fun bt414 => ((laws_markStringS.f kj19 t395 bt414.1).bind fun bt416 => (if bt416.1 < 0 then (laws_FnExactJournalLate.j1 kj19 a1 l2 t388 true a0_0 l0_1 t384 t385 t398 t399) else ((laws_eqDisk.f kj19 t398 t399 t384 t385).bind fun t418 => (if t418 = true then (laws_FnExactJournalLate.j1 kj19 a1 l2 t388 (t402 != t388) a0_0 l0_1 t384 t385 t398 t399) else (laws_FnExactJournalLate.j1 kj19 a1 l2 t388 true a0_0 l0_1 t384 t385 t398 t399)))))) = some r := by rw [if_pos rfl] at H; exact H
        clear H; have H := H1; clear H1; replace H := Option.bind_eq_some_iff.mp H
        obtain ⟨⟨t414, t415⟩, A760, H⟩ := H
        replace H : ((laws_markStringS.f kj19 t395 t414).bind fun bt416 => (if bt416.1 < 0 then (laws_FnExactJournalLate.j1 kj19 a1 l2 t388 true a0_0 l0_1 t384 t385 t398 t399) else ((laws_eqDisk.f kj19 t398 t399 t384 t385).bind fun t418 => (if t418 = true then (laws_FnExactJournalLate.j1 kj19 a1 l2 t388 (t402 != t388) a0_0 l0_1 t384 t385 t398 t399) else (laws_FnExactJournalLate.j1 kj19 a1 l2 t388 true a0_0 l0_1 t384 t385 t398 t399))))) = some r := H; have A76 := aM A760; clear A760; replace H := Option.bind_eq_some_iff.mp H
        obtain ⟨⟨t416, t417⟩, A770, H⟩ := H
        replace H : (if t416 < 0 then (laws_FnExactJournalLate.j1 kj19 a1 l2 t388 true a0_0 l0_1 t384 t385 t398 t399) else ((laws_eqDisk.f kj19 t398 t399 t384 t385).bind fun t418 => (if t418 = true then (laws_FnExactJournalLate.j1 kj19 a1 l2 t388 (t402 != t388) a0_0 l0_1 t384 t385 t398 t399) else (laws_FnExactJournalLate.j1 kj19 a1 l2 t388 true a0_0 l0_1 t384 t385 t398 t399)))) = some r := H; have A77 := aM A770; clear A770; have HC78 := aM H; clear H
        try go_wp2
        replace HO_11 := aM (Kd.R_drew HO_11.out); replace HO_390001 := aM (Kd.R_drew HO_390001.out); replace HO_395001 := aM (Kd.R_drew HO_395001.out); replace HO_404001 := aM (Kd.R_drew HO_404001.out); replace BK374 := aM (blk_drew BK374.out); replace BK389 := aM (blk_drew BK389.out); replace BK394 := aM (blk_drew BK394.out); replace BK403 := aM (blk_drew BK403.out); replace HB := aM (below_drew1 HB.out)
        refine start_ (n := 5) (S := fun w' => w'.cell? ⟨gb394, 0, none⟩ = some (.int .i64 t390) ∧ w'.cell? ⟨gb394, 1, none⟩ = some (.slice Ao40 t391.length co40) ∧ w'.cell? ⟨gb374, 0, none⟩ = some (.int .i64 a0_0) ∧ w'.cell? ⟨gb374, 1, none⟩ = some (.slice A0_1 l0_1.length c0_1)) (ds := []) #[false, false, false, false, false] (by kernel_rfl) rfl rfl ⟨xc BK394 0 rfl, xc BK394 1 rfl, xc BK374 0 rfl, xc BK374 1 rfl⟩ (fun hHeld => ?_)
        generalize wc.drew = w79 at HO_11 HO_390001 HO_395001 HO_404001 BK374 BK389 BK394 BK403 HB hHeld ⊢
        refine take_ (i := 0) (N := some 58) (v := ?_) (a' := ?_) #[true, false, false, false, false] rfl rfl (by kernel_rfl) (fun _ _ _ h => h) (Or.inl ⟨by rfl, ?_⟩) hHeld ?_ ?_
        rotate_left
        ·rintro w' ⟨s0, s1, s2, s3⟩
         go_simp
         with_reducible rfl
        rotate_left
        ·simp only [Act.put, List.setIfInBounds_toArray, List.set_cons_zero, List.set_cons_succ, i64_w, i32_w]
         rfl
        refine take_ (i := 1) (N := some 59) (v := ?_) (a' := ?_) #[true, true, false, false, false] rfl rfl (by kernel_rfl) (fun _ _ _ h => h) (Or.inl ⟨by rfl, ?_⟩) hHeld ?_ ?_
        rotate_left
        ·rintro w' ⟨s0, s1, s2, s3⟩
         go_simp
         with_reducible rfl
        rotate_left
        ·simp only [Act.put, List.setIfInBounds_toArray, List.set_cons_zero, List.set_cons_succ, i64_w, i32_w]
         rfl
        refine one_ (i := 2) (N := some 60) #[true, true, true, false, false] rfl rfl (by kernel_rfl) (by decide) (fun K hK => ?_)
        refine goesY Try.func39 #[.agg #[.int .i64 a0_0, .slice A0_1 l0_1.length c0_1]] ?_
        with_reducible refine (laws_toDisk.calls kj19 a0_0 _ _ l0_1 t405 t406 _ ?side1 ?side2 A70.out).mono ?_
        (case side1 => exact xcb HR0_1)
        (case side2 => exact HC0_1.out)
        rintro e w80 ⟨v407, rfl, ho0, hb⟩
        refine ⟨_, rfl, ?_⟩
        replace HO_11 := aM (Kd.R_below (xr HO_11) hb); have HO408 := aM (Kd.R_lower (Kd.R_new' (Kd.R_new' (Kd.R_new' ho0 (Kd.R_lt (xr HO_390001))) (Kd.R_lt (xr HO_395001))) (Kd.R_lt (xr HO_404001))) (below_size xbg)); replace HO_390001 := aM (Kd.R_elder' (xr HO_390001) (Kd.R_base ho0) hb); replace HO_395001 := aM (Kd.R_elder' (xr HO_395001) (Kd.R_base ho0) hb); replace HO_404001 := aM (Kd.R_elder' (xr HO_404001) (Kd.R_base ho0) hb); replace BK374 := xbb BK374 hb; replace BK389 := xbb BK389 hb; replace BK394 := xbb BK394 hb; replace BK403 := xbb BK403 hb; replace HB := xbs hb
        (try clear hb); (try clear hb2); (try clear hk); (try clear hi); (try clear ho0)
        obtain ⟨Ao81, co81, eo81⟩ := Kd.R_slice HO408.out
        (first | subst eo81 | (injection eo81 with f1_ f2_ f3_; have f4_ := f1_.symm; have f5_ := f3_.symm; clear f1_ f2_ f3_; subst f4_; subst f5_))
        refine hK.out _ _ ⟨xc BK394 0 rfl, xc BK394 1 rfl, xc BK374 0 rfl, xc BK374 1 rfl⟩ (fun hHeld => ?_)
        clear hK K
        refine norm_ (a' := ?_) ?_ ?_
        rotate_left
        ·show Act.put _ (some 60) _ = _
         simp only [Act.put, List.setIfInBounds_toArray, List.set_cons_zero, List.set_cons_succ, i64_w, i32_w]
         rfl
        refine one_ (i := 3) (N := some 61) #[true, true, true, true, false] rfl rfl (by kernel_rfl) (by decide) (fun K hK => ?_)
        refine goesY Try.func41 #[.agg #[.int .i64 t390, .slice Ao40 t391.length co40], .agg #[.int .i64 t405, .slice Ao81 t406.length co81]] ?_
        with_reducible refine (laws_eqDisk.calls kj19 t390 _ _ t391 t405 _ _ t406 true _ ?side1 ?side2 ?side3 ?side4 A71.out).mono ?_
        (case side1 => repeat (first | exact (Kd.R_reads' HO_395001.out).2.2 | (with_reducible refine Kd.C_alloc ?_ _) | (with_reducible refine Kd.C_drewN ?_ _) | (with_reducible refine Kd.C_drew ?_)))
        (case side2 => exact (Kd.R_reads' HO_395001.out).2.1)
        (case side3 => repeat (first | exact (Kd.R_reads' HO408.out).2.2 | (with_reducible refine Kd.C_alloc ?_ _) | (with_reducible refine Kd.C_drewN ?_ _) | (with_reducible refine Kd.C_drew ?_)))
        (case side4 => exact (Kd.R_reads' HO408.out).2.1)
        rintro e w82 ⟨rfl, hb⟩
        refine ⟨_, rfl, ?_⟩
        replace HO_11 := aM (Kd.R_below (xr HO_11) hb); replace HO_390001 := aM (Kd.R_below (xr HO_390001) hb); replace HO_395001 := aM (Kd.R_below (xr HO_395001) hb); replace HO_404001 := aM (Kd.R_below (xr HO_404001) hb); replace HO408 := aM (Kd.R_below (xr HO408) hb); replace BK374 := xbb BK374 hb; replace BK389 := xbb BK389 hb; replace BK394 := xbb BK394 hb; replace BK403 := xbb BK403 hb; replace HB := xbs hb
        (try clear hb); (try clear hb2); (try clear hk); (try clear hi)
        refine hK.out _ _ ⟨xc BK394 0 rfl, xc BK394 1 rfl, xc BK374 0 rfl, xc BK374 1 rfl⟩ (fun hHeld => ?_)
        clear hK K
        refine norm_ (a' := ?_) ?_ ?_
        rotate_left
        ·show Act.put _ (some 61) _ = _
         simp only [Act.put, List.setIfInBounds_toArray, List.set_cons_zero, List.set_cons_succ, i64_w, i32_w]
         rfl
        refine pure_ (i := 4) (N := some 62) (v := ?_) (a' := ?_) #[true, true, true, true, true] rfl rfl (by kernel_rfl) (fun _ _ _ h => h) (Or.inl ⟨by rfl, ?_⟩) ?_ ?_
        rotate_left
        ·intro w'
         go_simp
         with_reducible rfl
        rotate_left
        ·simp only [Act.put, List.setIfInBounds_toArray, List.set_cons_zero, List.set_cons_succ, i64_w, i32_w]
         rfl
        refine done_ (by kernel_rfl) ?_
        go_upto_region 21 with (first | ((with_reducible refine gate_callee (f := 61) rfl ?_); refine goesL_ (some 65) rfl rfl Try.func61 (by kernel_rfl) rfl #[.slice A2 l2.length c2] rfl (by (try simp only [List.map_toArray, List.map_cons, List.map_nil]); first | done | rfl | (simp only [List.length_drop, List.length_take]; rfl)) ?_; (with_reducible refine (laws_toStringS.calls kj19 _ _ l2 t410 _ ?side1 ?side2 A73.out).mono ?_); (case side1 => exact xcb HR2); (case side2 => exact HC2.out); rintro e w83 ⟨v411, rfl, ho0, hb⟩; refine ⟨_, rfl, ?_⟩; replace HO_390001 := aM (Kd.R_below (xr HO_390001) hb); replace HO_395001 := aM (Kd.R_below (xr HO_395001) hb); replace HO_404001 := aM (Kd.R_below (xr HO_404001) hb); replace HO408 := aM (Kd.R_below (xr HO408) hb); have HO412 := aM (Kd.R_lower (Kd.R_new' ho0 (Kd.R_lt (xr HO_11))) (below_size xbg)); replace HO_11 := aM (Kd.R_elder' (xr HO_11) (Kd.R_base ho0) hb); replace BK374 := xbb BK374 hb; replace BK389 := xbb BK389 hb; replace BK394 := xbb BK394 hb; replace BK403 := xbb BK403 hb; replace HB := xbs hb; (try clear hb); (try clear hb2); (try clear hk); (try clear hi); (try clear ho0); obtain ⟨Ao84, co84, eo84⟩ := Kd.R_slice HO412.out; subst eo84) | ((with_reducible refine gate_callee (f := 63) rfl ?_); refine goesL_ (some 66) rfl rfl Try.func63 (by kernel_rfl) rfl #[.slice Ao43 t395.length co43, .slice Ao84 t410.length co84] rfl (by (try simp only [List.map_toArray, List.map_cons, List.map_nil]); first | done | rfl | (simp only [List.length_drop, List.length_take]; rfl)) ?_; (with_reducible refine (laws_eqStringS.calls kj19 _ _ t395 _ _ t410 true _ ?side1 ?side2 ?side3 ?side4 A74.out).mono ?_); (case side1 => repeat (first | exact (Kd.R_reads' HO_11.out).2.2 | (with_reducible refine Kd.C_alloc ?_ _) | (with_reducible refine Kd.C_drewN ?_ _) | (with_reducible refine Kd.C_drew ?_))); (case side2 => exact (Kd.R_reads' HO_11.out).2.1); (case side3 => repeat (first | exact (Kd.R_reads' HO412.out).2.2 | (with_reducible refine Kd.C_alloc ?_ _) | (with_reducible refine Kd.C_drewN ?_ _) | (with_reducible refine Kd.C_drew ?_))); (case side4 => exact (Kd.R_reads' HO412.out).2.1); rintro e w' ⟨rfl, ⟨nd, rfl⟩⟩; refine ⟨_, rfl, ?_⟩; have hnb85 := NB394_374.out; have hnc85 := NB374_394.out; have hnb86 := NB394_389.out; have hnc86 := NB389_394.out; have hnb87 := NB394_403.out; have hnc87 := NB403_394.out; have hcz88_0 : w83.cell? ⟨gb394, 0, none⟩ = some (.int .i64 t390) := xc BK394 0 rfl; have hcz88_1 : w83.cell? ⟨gb394, 1, none⟩ = some (.slice Ao40 t391.length co40) := xc BK394 1 rfl; have hfz88_0 := blk_frozen BK394.out 0; have hfz88_1 := blk_frozen BK394.out 1) | ((with_reducible refine gate_callee (f := 42) rfl ?_); refine goesL_ (some 70) rfl rfl Try.func42 (by kernel_rfl) rfl #[.agg #[.int .i64 t390, .slice Ao40 t391.length co40], .int .i64 1] rfl (by (try simp only [List.map_toArray, List.map_cons, List.map_nil]); first | done | rfl | (simp only [List.length_drop, List.length_take]; rfl)) ?_; (with_reducible refine (laws_markDisk.calls kj19 t390 (fun k_ => some k_ = (.slice Ao40 t391.length co40 : Value).ownBlock) (.slice Ao40 t391.length co40) t391 1 t414 t415 w _ ?side1 ?side2 A76.out).mono ?_); (case side1 => repeat (first | (with_reducible first | exact HB.out | apply below_alloc | apply pw_below_drewN | apply below_drew1 | refine below_set ?_ GE374.out | refine below_set ?_ GE389.out | refine below_set ?_ GE394.out | refine below_set ?_ GE403.out) | exact HB.out)); (case side2 => exact Kd.R_tight rfl HO_395001.out); rintro e w89 ⟨rfl, hy0, hb, hkp⟩; refine ⟨_, rfl, ?_⟩; have n0_ := aM (Kd.R_mono (ok' := fun k_ => some k_ ≠ (.slice Ao84 t410.length co84 : Value).ownBlock) (Kd.R_keptB ((Kd.R_apart' HO_11.out (Kd.R_typed HO_395001.out) (by decide))) hkp (fun k_ hk_ hs_ => (hk_.2) hs_)) (fun k_ hk_ => hk_.1.1.2)); have n1_ := aM (Kd.R_mono (ok' := fun k_ => some k_ ≠ (.slice Ao40 t391.length co40 : Value).ownBlock ∧ some k_ ≠ (.slice Ao50 t399.length co50 : Value).ownBlock ∧ some k_ ≠ (.slice Ao81 t406.length co81 : Value).ownBlock) (Kd.R_keptB (HO_390001.out) hkp (fun k_ hk_ hs_ => (hk_.1.1) hs_)) (fun k_ hk_ => ⟨hk_.1.1.1, hk_.1.1.2, hk_.1.2⟩)); have n2_ := aM (Kd.R_reok rfl hy0 (fun k_ e_ => HO_395001.out.1 k_ e_)); have n3_ := aM (Kd.R_mono (ok' := fun k_ => some k_ ≠ (.slice Ao33 t385.length co33 : Value).ownBlock ∧ some k_ ≠ (.slice Ao40 t391.length co40 : Value).ownBlock ∧ some k_ ≠ (.slice Ao81 t406.length co81 : Value).ownBlock) (Kd.R_keptB (HO_404001.out) hkp (fun k_ hk_ hs_ => (hk_.1.2) hs_)) (fun k_ hk_ => ⟨hk_.1.1.1, hk_.1.1.2, hk_.1.2⟩)); have n4_ := aM (blk_kept xblk hkp (fun hs_ => (fun e_ => (Kd.R_ne HO_395001.out BK374.out (by decide)) e_) hs_)); have n5_ := aM (blk_kept xblk hkp (fun hs_ => (fun e_ => (Kd.R_ne HO_395001.out BK389.out (by decide)) e_) hs_)); have n6_ := aM (blk_kept xblk hkp (fun hs_ => (fun e_ => (Kd.R_ne HO_395001.out BK394.out (by decide)) e_) hs_)); have n7_ := aM (blk_kept xblk hkp (fun hs_ => (fun e_ => (Kd.R_ne HO_395001.out BK403.out (by decide)) e_) hs_)); have n8_ := aM (Kd.R_mono (ok' := fun k_ => some k_ ≠ (.slice Ao33 t385.length co33 : Value).ownBlock ∧ some k_ ≠ (.slice Ao40 t391.length co40 : Value).ownBlock ∧ some k_ ≠ (.slice Ao50 t399.length co50 : Value).ownBlock) (Kd.R_keptB (HO408.out) hkp (fun k_ hk_ hs_ => (hk_.1.2) hs_)) (fun k_ hk_ => ⟨hk_.1.1.1.2, hk_.1.1.2, hk_.1.2⟩)); have n9_ := aM (Kd.R_mono (ok' := fun k_ => some k_ ≠ (.slice Ao43 t395.length co43 : Value).ownBlock) (Kd.R_keptB ((Kd.R_apart' HO412.out (Kd.R_typed HO_395001.out) (by decide))) hkp (fun k_ hk_ hs_ => (hk_.2) hs_)) (fun k_ hk_ => hk_.1.1.2)); have n10_ := aM (hb); clear HO_11; clear HO_390001; clear HO_395001; clear HO_404001; clear BK374; clear BK389; clear BK394; clear BK403; clear HO408; clear HO412; clear HB; have HO_11 := n0_; have HO_390001 := n1_; have HO_395001 := n2_; have HO_404001 := n3_; have BK374 := n4_; have BK389 := n5_; have BK394 := n6_; have BK403 := n7_; have HO408 := n8_; have HO412 := n9_; have HB := n10_; clear n0_ n1_ n2_ n3_ n4_ n5_ n6_ n7_ n8_ n9_ n10_; (try clear hb); (try clear hkp); (try clear hy0)) | ((with_reducible refine gate_callee (f := 64) rfl ?_); refine goesL_ (some 73) rfl rfl Try.func64 (by kernel_rfl) rfl #[.slice Ao43 t395.length co43, .int .i64 t414] rfl (by (try simp only [List.map_toArray, List.map_cons, List.map_nil]); first | done | rfl | (simp only [List.length_drop, List.length_take]; rfl)) ?_; (with_reducible refine (laws_markStringS.calls kj19 (fun k_ => some k_ = (.slice Ao43 t395.length co43 : Value).ownBlock) (.slice Ao43 t395.length co43) t395 t414 t416 t417 w _ ?side1 ?side2 A77.out).mono ?_); (case side1 => repeat (first | (with_reducible first | exact HB.out | apply below_alloc | apply pw_below_drewN | apply below_drew1 | refine below_set ?_ GE374.out | refine below_set ?_ GE389.out | refine below_set ?_ GE394.out | refine below_set ?_ GE403.out) | exact HB.out)); (case side2 => exact Kd.R_tight rfl HO_11.out); rintro e w90 ⟨rfl, hy0, hb, hkp⟩; refine ⟨_, rfl, ?_⟩; have n0_ := aM (Kd.R_reok rfl hy0 (fun k_ e_ => HO_11.out.1 k_ e_)); have n1_ := aM (Kd.R_mono (ok' := fun k_ => some k_ ≠ (.slice Ao40 t391.length co40 : Value).ownBlock ∧ some k_ ≠ (.slice Ao50 t399.length co50 : Value).ownBlock ∧ some k_ ≠ (.slice Ao81 t406.length co81 : Value).ownBlock) (Kd.R_keptB ((Kd.R_apart' HO_390001.out (Kd.R_typed HO_11.out) (by decide))) hkp (fun k_ hk_ hs_ => (hk_.2) hs_)) (fun k_ hk_ => ⟨hk_.1.1.1, hk_.1.1.2.1, hk_.1.1.2.2⟩)); have n2_ := aM (Kd.R_mono (ok' := fun k_ => some k_ ≠ (.slice Ao33 t385.length co33 : Value).ownBlock ∧ some k_ ≠ (.slice Ao50 t399.length co50 : Value).ownBlock ∧ some k_ ≠ (.slice Ao81 t406.length co81 : Value).ownBlock) (Kd.R_keptB ((Kd.R_apart' HO_395001.out (Kd.R_typed HO_11.out) (by decide))) hkp (fun k_ hk_ hs_ => (hk_.2) hs_)) (fun k_ hk_ => ⟨hk_.1.1.1.1, hk_.1.1.1.2, hk_.1.1.2⟩)); have n3_ := aM (Kd.R_mono (ok' := fun k_ => some k_ ≠ (.slice Ao33 t385.length co33 : Value).ownBlock ∧ some k_ ≠ (.slice Ao40 t391.length co40 : Value).ownBlock ∧ some k_ ≠ (.slice Ao81 t406.length co81 : Value).ownBlock) (Kd.R_keptB ((Kd.R_apart' HO_404001.out (Kd.R_typed HO_11.out) (by decide))) hkp (fun k_ hk_ hs_ => (hk_.2) hs_)) (fun k_ hk_ => ⟨hk_.1.1.1, hk_.1.1.2.1, hk_.1.1.2.2⟩)); have n4_ := aM (blk_kept xblk hkp (fun hs_ => (fun e_ => (Kd.R_ne HO_11.out BK374.out (by decide)) e_) hs_)); have n5_ := aM (blk_kept xblk hkp (fun hs_ => (fun e_ => (Kd.R_ne HO_11.out BK389.out (by decide)) e_) hs_)); have n6_ := aM (blk_kept xblk hkp (fun hs_ => (fun e_ => (Kd.R_ne HO_11.out BK394.out (by decide)) e_) hs_)); have n7_ := aM (blk_kept xblk hkp (fun hs_ => (fun e_ => (Kd.R_ne HO_11.out BK403.out (by decide)) e_) hs_)); have n8_ := aM (Kd.R_mono (ok' := fun k_ => some k_ ≠ (.slice Ao33 t385.length co33 : Value).ownBlock ∧ some k_ ≠ (.slice Ao40 t391.length co40 : Value).ownBlock ∧ some k_ ≠ (.slice Ao50 t399.length co50 : Value).ownBlock) (Kd.R_keptB ((Kd.R_apart' HO408.out (Kd.R_typed HO_11.out) (by decide))) hkp (fun k_ hk_ hs_ => (hk_.2) hs_)) (fun k_ hk_ => ⟨hk_.1.1.1, hk_.1.1.2.1, hk_.1.1.2.2⟩)); have n9_ := aM (Kd.R_mono (ok' := fun k_ => some k_ ≠ (.slice Ao43 t395.length co43 : Value).ownBlock) (Kd.R_keptB (HO412.out) hkp (fun k_ hk_ hs_ => (hk_) hs_)) (fun k_ hk_ => hk_.1)); have n10_ := aM (hb); clear HO_11; clear HO_390001; clear HO_395001; clear HO_404001; clear BK374; clear BK389; clear BK394; clear BK403; clear HO408; clear HO412; clear HB; have HO_11 := n0_; have HO_390001 := n1_; have HO_395001 := n2_; have HO_404001 := n3_; have BK374 := n4_; have BK389 := n5_; have BK394 := n6_; have BK403 := n7_; have HO408 := n8_; have HO412 := n9_; have HB := n10_; clear n0_ n1_ n2_ n3_ n4_ n5_ n6_ n7_ n8_ n9_ n10_; (try clear hb); (try clear hkp); (try clear hy0)))
        (try simp only [Act.put, List.setIfInBounds_toArray, List.set_cons_zero, List.set_cons_succ])
        go_cut [86] (fun v86 wc => ∃ (kq : Nat) (x86_77 : Bool), v86 = .bool x86_77 ∧ Aside0 (laws_FnExactJournalLate.j1 kq a1 l2 t388 x86_77 a0_0 l0_1 t384 t385 t398 t399 = some r) ∧ Aside0 (kq ≤ kj19) ∧ Aside0 (Kd.R k134 134 wc w.heap.size (fun k_ => some k_ ≠ ((.slice Ao40 t391.length co40) : Value).ownBlock ∧ some k_ ≠ ((.slice Ao50 t399.length co50) : Value).ownBlock) (.slice Ao33 t385.length co33) t385) ∧ Aside0 (Kd.R k134 134 wc w.heap.size (fun k_ => some k_ ≠ ((.slice Ao33 t385.length co33) : Value).ownBlock ∧ some k_ ≠ ((.slice Ao50 t399.length co50) : Value).ownBlock) (.slice Ao40 t391.length co40) t415) ∧ Aside0 (Kd.R k134 134 wc w.heap.size (fun k_ => some k_ ≠ ((.slice Ao33 t385.length co33) : Value).ownBlock ∧ some k_ ≠ ((.slice Ao40 t391.length co40) : Value).ownBlock) (.slice Ao50 t399.length co50) t399) ∧ Aside0 (wc.heap[gb374]? = some (.cells #[.int .i64 a0_0, (.slice A0_1 l0_1.length c0_1)] 66 (0, 0))) ∧ Aside0 (wc.heap[gb389]? = some (.cells #[.int .i64 t384, (.slice Ao33 t385.length co33)] 70 (0, 0))) ∧ Aside0 (wc.heap[gb394]? = some (.cells #[.int .i64 t390, (.slice Ao40 t391.length co40)] 70 (0, 0))) ∧ Aside0 (wc.heap[gb403]? = some (.cells #[.int .i64 t398, (.slice Ao50 t399.length co50)] 70 (0, 0))) ∧ Aside0 (Below w.heap.size w wc))
        case first =>
         have H := HC78.out; clear HC78
         by_cases c91 : t416 < 0
         ·rw [if_pos c91] at H
          have c91b0 : decide (t416 < 0) = true := decide_eq_true c91; clear c91
          (first | rw [c91b0] | (simp only [i64_w, i32_w]; rw [c91b0]) | skip)
          have H' := aM H
          clear H
          go_wp2
          go_meet
          case rel => exact ⟨_, (true), (by first | rfl | (simp; done) | (simp [*]; done)), H', ⟨by have := HJ19.out; first | omega | exact Nat.le_refl _⟩, ⟨by (with_reducible repeat (first | apply Kd.R_alloc | apply Kd.R_drewN | apply Kd.R_drew)); exact Kd.R_mono HO_390001.out (fun _ hk => ⟨hk.1, hk.2.1⟩)⟩, ⟨by (with_reducible repeat (first | apply Kd.R_alloc | apply Kd.R_drewN | apply Kd.R_drew)); exact Kd.R_mono HO_395001.out (fun _ hk => ⟨hk.1, hk.2.1⟩)⟩, ⟨by (with_reducible repeat (first | apply Kd.R_alloc | apply Kd.R_drewN | apply Kd.R_drew)); exact Kd.R_mono HO_404001.out (fun _ hk => ⟨hk.1, hk.2.1⟩)⟩, ⟨xblk⟩, ⟨xblk⟩, ⟨xblk⟩, ⟨xblk⟩, ⟨xbg⟩⟩
         ·rw [if_neg c91] at H
          have c91b0 : decide (t416 < 0) = false := decide_eq_false c91; clear c91
          (first | rw [c91b0] | (simp only [i64_w, i32_w]; rw [c91b0]) | skip)
          replace H := Option.bind_eq_some_iff.mp H
          obtain ⟨t418, A920, H⟩ := H
          replace H : (if t418 = true then (laws_FnExactJournalLate.j1 kj19 a1 l2 t388 (t402 != t388) a0_0 l0_1 t384 t385 t398 t399) else (laws_FnExactJournalLate.j1 kj19 a1 l2 t388 true a0_0 l0_1 t384 t385 t398 t399)) = some r := H; have A92 := aM A920; clear A920
          by_cases c93 : t418 = true
          ·subst c93
           have H1 : (laws_FnExactJournalLate.j1 kj19 a1 l2 t388 (t402 != t388) a0_0 l0_1 t384 t385 t398 t399) = some r := by rw [if_pos rfl] at H; exact H
           clear H; have H := H1; clear H1
           have H' := aM H
           clear H; have hnb94 := NB403_374.out; have hnc94 := NB374_403.out; have hnb95 := NB403_389.out; have hnc95 := NB389_403.out; have hnb96 := NB403_394.out; have hnc96 := NB394_403.out; have hcz97_0 : w90.cell? ⟨gb403, 0, none⟩ = some (.int .i64 t398) := xc BK403 0 rfl; have hcz97_1 : w90.cell? ⟨gb403, 1, none⟩ = some (.slice Ao50 t399.length co50) := xc BK403 1 rfl; have hfz97_0 := blk_frozen BK403.out 0; have hfz97_1 := blk_frozen BK403.out 1; have hnb98 := NB389_374.out; have hnc98 := NB374_389.out; have hnb99 := NB389_394.out; have hnc99 := NB394_389.out; have hcz100_0 : w90.cell? ⟨gb389, 0, none⟩ = some (.int .i64 t384) := xc BK389 0 rfl; have hcz100_1 : w90.cell? ⟨gb389, 1, none⟩ = some (.slice Ao33 t385.length co33) := xc BK389 1 rfl; have hfz100_0 := blk_frozen BK389.out 0; have hfz100_1 := blk_frozen BK389.out 1
           go_wp2_with (first | (go_at_call 41; (with_reducible refine (laws_eqDisk.calls kj19 t398 _ _ t399 t384 _ _ t385 true _ ?side1 ?side2 ?side3 ?side4 A92.out).mono ?_); (case side1 => repeat (first | exact (Kd.R_reads' HO_404001.out).2.2 | (with_reducible refine Kd.C_alloc ?_ _) | (with_reducible refine Kd.C_drewN ?_ _) | (with_reducible refine Kd.C_drew ?_))); (case side2 => exact (Kd.R_reads' HO_404001.out).2.1); (case side3 => repeat (first | exact (Kd.R_reads' HO_390001.out).2.2 | (with_reducible refine Kd.C_alloc ?_ _) | (with_reducible refine Kd.C_drewN ?_ _) | (with_reducible refine Kd.C_drew ?_))); (case side4 => exact (Kd.R_reads' HO_390001.out).2.1); rintro e w101 ⟨rfl, hb⟩; replace HO_11 := aM (Kd.R_below (xr HO_11) hb); replace HO_390001 := aM (Kd.R_below (xr HO_390001) hb); replace HO_395001 := aM (Kd.R_below (xr HO_395001) hb); replace HO_404001 := aM (Kd.R_below (xr HO_404001) hb); replace HO408 := aM (Kd.R_below (xr HO408) hb); replace HO412 := aM (Kd.R_below (xr HO412) hb); replace BK374 := xbb BK374 hb; replace BK389 := xbb BK389 hb; replace BK394 := xbb BK394 hb; replace BK403 := xbb BK403 hb; replace HB := xbs hb; (try clear hb); (try clear hb2); (try clear hk); (try clear hi)))
           go_meet
           case rel => exact ⟨_, ((t402 != t388)), (by first | rfl | (simp; done) | (simp [*]; done)), H', ⟨by have := HJ19.out; first | omega | exact Nat.le_refl _⟩, ⟨by (with_reducible repeat (first | apply Kd.R_alloc | apply Kd.R_drewN | apply Kd.R_drew)); exact Kd.R_mono HO_390001.out (fun _ hk => ⟨hk.1, hk.2.1⟩)⟩, ⟨by (with_reducible repeat (first | apply Kd.R_alloc | apply Kd.R_drewN | apply Kd.R_drew)); exact Kd.R_mono HO_395001.out (fun _ hk => ⟨hk.1, hk.2.1⟩)⟩, ⟨by (with_reducible repeat (first | apply Kd.R_alloc | apply Kd.R_drewN | apply Kd.R_drew)); exact Kd.R_mono HO_404001.out (fun _ hk => ⟨hk.1, hk.2.1⟩)⟩, ⟨xblk⟩, ⟨xblk⟩, ⟨xblk⟩, ⟨xblk⟩, ⟨xbg⟩⟩
          ·replace c93 := Bool.eq_false_iff.mpr c93
           subst c93
           have H1 : (laws_FnExactJournalLate.j1 kj19 a1 l2 t388 true a0_0 l0_1 t384 t385 t398 t399) = some r := by rw [if_neg (show ¬ (false = true) by decide)] at H; exact H
           clear H; have H := H1; clear H1
           have H' := aM H
           clear H; have hnb102 := NB403_374.out; have hnc102 := NB374_403.out; have hnb103 := NB403_389.out; have hnc103 := NB389_403.out; have hnb104 := NB403_394.out; have hnc104 := NB394_403.out; have hcz105_0 : w90.cell? ⟨gb403, 0, none⟩ = some (.int .i64 t398) := xc BK403 0 rfl; have hcz105_1 : w90.cell? ⟨gb403, 1, none⟩ = some (.slice Ao50 t399.length co50) := xc BK403 1 rfl; have hfz105_0 := blk_frozen BK403.out 0; have hfz105_1 := blk_frozen BK403.out 1; have hnb106 := NB389_374.out; have hnc106 := NB374_389.out; have hnb107 := NB389_394.out; have hnc107 := NB394_389.out; have hcz108_0 : w90.cell? ⟨gb389, 0, none⟩ = some (.int .i64 t384) := xc BK389 0 rfl; have hcz108_1 : w90.cell? ⟨gb389, 1, none⟩ = some (.slice Ao33 t385.length co33) := xc BK389 1 rfl; have hfz108_0 := blk_frozen BK389.out 0; have hfz108_1 := blk_frozen BK389.out 1
           go_wp2_with (first | (go_at_call 41; (with_reducible refine (laws_eqDisk.calls kj19 t398 _ _ t399 t384 _ _ t385 false _ ?side1 ?side2 ?side3 ?side4 A92.out).mono ?_); (case side1 => repeat (first | exact (Kd.R_reads' HO_404001.out).2.2 | (with_reducible refine Kd.C_alloc ?_ _) | (with_reducible refine Kd.C_drewN ?_ _) | (with_reducible refine Kd.C_drew ?_))); (case side2 => exact (Kd.R_reads' HO_404001.out).2.1); (case side3 => repeat (first | exact (Kd.R_reads' HO_390001.out).2.2 | (with_reducible refine Kd.C_alloc ?_ _) | (with_reducible refine Kd.C_drewN ?_ _) | (with_reducible refine Kd.C_drew ?_))); (case side4 => exact (Kd.R_reads' HO_390001.out).2.1); rintro e w109 ⟨rfl, hb⟩; replace HO_11 := aM (Kd.R_below (xr HO_11) hb); replace HO_390001 := aM (Kd.R_below (xr HO_390001) hb); replace HO_395001 := aM (Kd.R_below (xr HO_395001) hb); replace HO_404001 := aM (Kd.R_below (xr HO_404001) hb); replace HO408 := aM (Kd.R_below (xr HO408) hb); replace HO412 := aM (Kd.R_below (xr HO412) hb); replace BK374 := xbb BK374 hb; replace BK389 := xbb BK389 hb; replace BK394 := xbb BK394 hb; replace BK403 := xbb BK403 hb; replace HB := xbs hb; (try clear hb); (try clear hb2); (try clear hk); (try clear hi)))
           go_meet
           case rel => exact ⟨_, (true), (by first | rfl | (simp; done) | (simp [*]; done)), H', ⟨by have := HJ19.out; first | omega | exact Nat.le_refl _⟩, ⟨by (with_reducible repeat (first | apply Kd.R_alloc | apply Kd.R_drewN | apply Kd.R_drew)); exact Kd.R_mono HO_390001.out (fun _ hk => ⟨hk.1, hk.2.1⟩)⟩, ⟨by (with_reducible repeat (first | apply Kd.R_alloc | apply Kd.R_drewN | apply Kd.R_drew)); exact Kd.R_mono HO_395001.out (fun _ hk => ⟨hk.1, hk.2.1⟩)⟩, ⟨by (with_reducible repeat (first | apply Kd.R_alloc | apply Kd.R_drewN | apply Kd.R_drew)); exact Kd.R_mono HO_404001.out (fun _ hk => ⟨hk.1, hk.2.1⟩)⟩, ⟨xblk⟩, ⟨xblk⟩, ⟨xblk⟩, ⟨xblk⟩, ⟨xbg⟩⟩
        case rest =>
         clear HC78
         try clear c1
         try clear c2
         try clear p2
         try clear c3
         try clear c4
         try clear c5
         try clear c5b0
         try clear c6
         try clear c7
         try clear c8
         try clear c9
         try clear c10
         try clear c10b0
         try clear c11
         try clear c31
         try clear c37
         try clear c38
         try clear c39
         try clear c41
         try clear c42
         try clear c46
         try clear c47
         try clear c48
         try clear c52
         try clear c53
         try clear c54
         try clear c55
         try clear c57
         try clear c58
         try clear c59
         try clear c60
         try clear c61
         try clear c62
         try clear c63
         try clear c64
         try clear c65
         try clear c66
         try clear c69
         try clear c72
         try clear c75
         try clear c85
         try clear c86
         try clear c87
         try clear c91
         try clear c91b0
         try clear c93
         try clear c94
         try clear c95
         try clear c96
         try clear c98
         try clear c99
         try clear c102
         try clear c103
         try clear c104
         try clear c106
         try clear c107
         try clear hcz100_0
         try clear hcz100_1
         try clear hcz105_0
         try clear hcz105_1
         try clear hcz108_0
         try clear hcz108_1
         try clear hcz12_0
         try clear hcz12_1
         try clear hcz22_0
         try clear hcz22_1
         try clear hcz24_0
         try clear hcz24_1
         try clear hcz32_0
         try clear hcz32_1
         try clear hcz34_0
         try clear hcz34_1
         try clear hcz39_0
         try clear hcz39_1
         try clear hcz42_0
         try clear hcz42_1
         try clear hcz49_0
         try clear hcz49_1
         try clear hcz56_0
         try clear hcz56_1
         try clear hcz59_0
         try clear hcz59_1
         try clear hcz64_0
         try clear hcz64_1
         try clear hcz67_0
         try clear hcz67_1
         try clear hcz7_0
         try clear hcz7_1
         try clear hcz88_0
         try clear hcz88_1
         try clear hcz97_0
         try clear hcz97_1
         try clear hfz100_0
         try clear hfz100_1
         try clear hfz105_0
         try clear hfz105_1
         try clear hfz108_0
         try clear hfz108_1
         try clear hfz12_0
         try clear hfz12_1
         try clear hfz22_0
         try clear hfz22_1
         try clear hfz24_0
         try clear hfz24_1
         try clear hfz32_0
         try clear hfz32_1
         try clear hfz34_0
         try clear hfz34_1
         try clear hfz39_0
         try clear hfz39_1
         try clear hfz42_0
         try clear hfz42_1
         try clear hfz49_0
         try clear hfz49_1
         try clear hfz56_0
         try clear hfz56_1
         try clear hfz59_0
         try clear hfz59_1
         try clear hfz64_0
         try clear hfz64_1
         try clear hfz67_0
         try clear hfz67_1
         try clear hfz7_0
         try clear hfz7_1
         try clear hfz88_0
         try clear hfz88_1
         try clear hfz97_0
         try clear hfz97_1
         try clear p2
         obtain ⟨kq, x86_77, rfl, HA, HJ77, HO_390001, HO_395001, HO_404001, BK374, BK389, BK394, BK403, HB⟩ := hcut
         have hl395001_77 := (Kd.R_reads' HO_395001.out).1
         rw [hl395001_77] at HO_395001
         (try simp only [hl395001_77])
         (try simp only [hl395001_77] at BK374)
         (try simp only [hl395001_77] at BK389)
         (try simp only [hl395001_77] at BK394)
         (try simp only [hl395001_77] at BK403)
         (try simp only [hl395001_77] at HO_390001)
         (try simp only [hl395001_77] at HO_404001)
         cases kq with
         | zero => exact absurd HA.out (by simp [laws_FnExactJournalLate.j1])
         | succ kj77 =>
          have H := HA.out; clear HA
          simp only [laws_FnExactJournalLate.j1] at H
          by_cases c110 : x86_77 = true
          ·subst c110
           have H1 : (some false) = some r := by rw [if_pos rfl] at H; exact H
           clear H; have H := H1; clear H1
           obtain rfl := Option.some.inj H
           go_wp2
           go_ret
           exact ⟨by first | rfl | (simp [errW_none, errW_some] <;> rfl) | (simp [*, errW_none, errW_some] <;> rfl), xbg⟩
          ·replace c110 := Bool.eq_false_iff.mpr c110
           subst c110
           have H1 : ((laws_markDisk.f kj77 t398 t399 1).bind fun bt419 => ((laws_heldDisk.f kj77 t398 bt419.2 1).bind fun t421 => (if t421 < 0 then (some false) else (if t421 = bt419.1 then ((laws_toDisk.f kj77 a0_0 l0_1).bind fun bt422 => ((laws_toStringS.f kj77 l2).bind fun t426 => ((impl_JournalLate.f kj77 bt422.1 bt422.2 a1 t426).bind fun bt429 => ((laws_eqDisk.f kj77 bt429.1 bt429.2.1 t384 t385).bind fun t435 => (if t435 = true then (laws_FnExactJournalLate.j2 kj77 bt419.1 (bt429.2.2 != t388) t398 bt419.2) else (laws_FnExactJournalLate.j2 kj77 bt419.1 true t398 bt419.2)))))) else (some false))))) = some r := by rw [if_neg (show ¬ (false = true) by decide)] at H; exact H
           clear H; have H := H1; clear H1; replace H := Option.bind_eq_some_iff.mp H
           obtain ⟨⟨t419, t420⟩, A1110, H⟩ := H
           replace H : ((laws_heldDisk.f kj77 t398 t420 1).bind fun t421 => (if t421 < 0 then (some false) else (if t421 = t419 then ((laws_toDisk.f kj77 a0_0 l0_1).bind fun bt422 => ((laws_toStringS.f kj77 l2).bind fun t426 => ((impl_JournalLate.f kj77 bt422.1 bt422.2 a1 t426).bind fun bt429 => ((laws_eqDisk.f kj77 bt429.1 bt429.2.1 t384 t385).bind fun t435 => (if t435 = true then (laws_FnExactJournalLate.j2 kj77 t419 (bt429.2.2 != t388) t398 t420) else (laws_FnExactJournalLate.j2 kj77 t419 true t398 t420)))))) else (some false)))) = some r := H; have A111 := aM A1110; clear A1110; replace H := Option.bind_eq_some_iff.mp H
           obtain ⟨t421, A1120, H⟩ := H
           replace H : (if t421 < 0 then (some false) else (if t421 = t419 then ((laws_toDisk.f kj77 a0_0 l0_1).bind fun bt422 => ((laws_toStringS.f kj77 l2).bind fun t426 => ((impl_JournalLate.f kj77 bt422.1 bt422.2 a1 t426).bind fun bt429 => ((laws_eqDisk.f kj77 bt429.1 bt429.2.1 t384 t385).bind fun t435 => (if t435 = true then (laws_FnExactJournalLate.j2 kj77 t419 (bt429.2.2 != t388) t398 t420) else (laws_FnExactJournalLate.j2 kj77 t419 true t398 t420)))))) else (some false))) = some r := H; have A112 := aM A1120; clear A1120
           by_cases c113 : t421 < 0
           ·rw [if_pos c113] at H
            have c113b0 : decide (t421 < 0) = true := decide_eq_true c113; clear c113
            obtain rfl := Option.some.inj H
            have hnb114 := NB403_374.out; have hnc114 := NB374_403.out; have hnb115 := NB403_389.out; have hnc115 := NB389_403.out; have hnb116 := NB403_394.out; have hnc116 := NB394_403.out; have hcz117_0 : wc.cell? ⟨gb403, 0, none⟩ = some (.int .i64 t398) := xc BK403 0 rfl; have hcz117_1 : wc.cell? ⟨gb403, 1, none⟩ = some (.slice Ao50 t399.length co50) := xc BK403 1 rfl; have hfz117_0 := blk_frozen BK403.out 0; have hfz117_1 := blk_frozen BK403.out 1
            go_wp2_with (first | ((with_reducible refine gate_callee (f := 42) rfl ?_); refine goesL_ (some 89) rfl rfl Try.func42 (by kernel_rfl) rfl #[.agg #[.int .i64 t398, .slice Ao50 t399.length co50], .int .i64 1] rfl (by (try simp only [List.map_toArray, List.map_cons, List.map_nil]); first | done | rfl | (simp only [List.length_drop, List.length_take]; rfl)) ?_; (with_reducible refine (laws_markDisk.calls kj77 t398 (fun k_ => some k_ = (.slice Ao50 t399.length co50 : Value).ownBlock) (.slice Ao50 t399.length co50) t399 1 t419 t420 w _ ?side1 ?side2 A111.out).mono ?_); (case side1 => repeat (first | (with_reducible first | exact HB.out | apply below_alloc | apply pw_below_drewN | apply below_drew1 | refine below_set ?_ GE374.out | refine below_set ?_ GE389.out | refine below_set ?_ GE394.out | refine below_set ?_ GE403.out) | exact HB.out)); (case side2 => exact Kd.R_tight rfl HO_404001.out); rintro e w118 ⟨rfl, hy0, hb, hkp⟩; refine ⟨_, rfl, ?_⟩; have n0_ := aM (Kd.R_mono (ok' := fun k_ => some k_ ≠ (.slice Ao40 t415.length co40 : Value).ownBlock ∧ some k_ ≠ (.slice Ao50 t399.length co50 : Value).ownBlock) (Kd.R_keptB (HO_390001.out) hkp (fun k_ hk_ hs_ => (hk_.2) hs_)) (fun k_ hk_ => ⟨hk_.1.1, hk_.1.2⟩)); have n1_ := aM (Kd.R_mono (ok' := fun k_ => some k_ ≠ (.slice Ao33 t385.length co33 : Value).ownBlock ∧ some k_ ≠ (.slice Ao50 t399.length co50 : Value).ownBlock) (Kd.R_keptB (HO_395001.out) hkp (fun k_ hk_ hs_ => (hk_.2) hs_)) (fun k_ hk_ => ⟨hk_.1.1, hk_.1.2⟩)); have n2_ := aM (Kd.R_reok rfl hy0 (fun k_ e_ => HO_404001.out.1 k_ e_)); have n3_ := aM (blk_kept xblk hkp (fun hs_ => (fun e_ => (Kd.R_ne HO_404001.out BK374.out (by decide)) e_) hs_)); have n4_ := aM (blk_kept xblk hkp (fun hs_ => (fun e_ => (Kd.R_ne HO_404001.out BK389.out (by decide)) e_) hs_)); have n5_ := aM (blk_kept xblk hkp (fun hs_ => (fun e_ => (Kd.R_ne HO_404001.out BK394.out (by decide)) e_) hs_)); have n6_ := aM (blk_kept xblk hkp (fun hs_ => (fun e_ => (Kd.R_ne HO_404001.out BK403.out (by decide)) e_) hs_)); have n7_ := aM (hb); clear HO_390001; clear HO_395001; clear HO_404001; clear BK374; clear BK389; clear BK394; clear BK403; clear HB; have HO_390001 := n0_; have HO_395001 := n1_; have HO_404001 := n2_; have BK374 := n3_; have BK389 := n4_; have BK394 := n5_; have BK403 := n6_; have HB := n7_; clear n0_ n1_ n2_ n3_ n4_ n5_ n6_ n7_; (try clear hb); (try clear hkp); (try clear hy0); have hcz119_0 : w118.cell? ⟨gb403, 0, none⟩ = some (.int .i64 t398) := xc BK403 0 rfl; have hcz119_1 : w118.cell? ⟨gb403, 1, none⟩ = some (.slice Ao50 t399.length co50) := xc BK403 1 rfl; have hfz119_0 := blk_frozen BK403.out 0; have hfz119_1 := blk_frozen BK403.out 1) | ((with_reducible refine gate_callee (f := 43) rfl ?_); refine goesL_ (some 92) rfl rfl Try.func43 (by kernel_rfl) rfl #[.agg #[.int .i64 t398, .slice Ao50 t420.length co50], .int .i64 1] rfl (by (try simp only [List.map_toArray, List.map_cons, List.map_nil]); first | done | (rw [show t420.length = t399.length from (Kd.R_reads' HO_404001.out).1.symm] <;> rfl) | rfl | (simp only [List.length_drop, List.length_take]; rfl)) ?_; (with_reducible refine (laws_heldDisk.calls kj77 t398 _ _ t420 1 t421 _ ?side1 ?side2 A112.out).mono ?_); (case side1 => repeat (first | exact (Kd.R_reads' HO_404001.out).2.2 | (with_reducible refine Kd.C_alloc ?_ _) | (with_reducible refine Kd.C_drewN ?_ _) | (with_reducible refine Kd.C_drew ?_))); (case side2 => rw [show t420.length = t399.length from (Kd.R_reads' HO_404001.out).1.symm]; exact (Kd.R_reads' HO_404001.out).2.1); rintro e w120 ⟨rfl, hb⟩; refine ⟨_, rfl, ?_⟩; replace HO_390001 := aM (Kd.R_below (xr HO_390001) hb); replace HO_395001 := aM (Kd.R_below (xr HO_395001) hb); replace HO_404001 := aM (Kd.R_below (xr HO_404001) hb); replace BK374 := xbb BK374 hb; replace BK389 := xbb BK389 hb; replace BK394 := xbb BK394 hb; replace BK403 := xbb BK403 hb; replace HB := xbs hb; (try clear hb); (try clear hb2); (try clear hk); (try clear hi)))
            go_ret
            exact ⟨by first | rfl | (simp [errW_none, errW_some] <;> rfl) | (simp [*, errW_none, errW_some] <;> rfl), xbg⟩
           ·rw [if_neg c113] at H
            have c113b0 : decide (t421 < 0) = false := decide_eq_false c113; clear c113
            by_cases c121 : t421 = t419
            ·rw [if_pos c121] at H
             have c121b0 : (t421 == t419) = true := beq_iff_eq.mpr c121; have c121b1 : (t421 != t419) = false := bne_eq_false_iff_eq.mpr c121; clear c121; replace H := Option.bind_eq_some_iff.mp H
             obtain ⟨⟨t422, t423⟩, A1220, H⟩ := H
             replace H : ((laws_toStringS.f kj77 l2).bind fun t426 => ((impl_JournalLate.f kj77 t422 t423 a1 t426).bind fun bt429 => ((laws_eqDisk.f kj77 bt429.1 bt429.2.1 t384 t385).bind fun t435 => (if t435 = true then (laws_FnExactJournalLate.j2 kj77 t419 (bt429.2.2 != t388) t398 t420) else (laws_FnExactJournalLate.j2 kj77 t419 true t398 t420))))) = some r := H; have A122 := aM A1220; clear A1220; replace H := Option.bind_eq_some_iff.mp H
             obtain ⟨t426, A1230, H⟩ := H
             replace H : ((impl_JournalLate.f kj77 t422 t423 a1 t426).bind fun bt429 => ((laws_eqDisk.f kj77 bt429.1 bt429.2.1 t384 t385).bind fun t435 => (if t435 = true then (laws_FnExactJournalLate.j2 kj77 t419 (bt429.2.2 != t388) t398 t420) else (laws_FnExactJournalLate.j2 kj77 t419 true t398 t420)))) = some r := H; have A123 := aM A1230; clear A1230; replace H := Option.bind_eq_some_iff.mp H
             obtain ⟨⟨t429, t430, t433⟩, A1240, H⟩ := H
             replace H : ((laws_eqDisk.f kj77 t429 t430 t384 t385).bind fun t435 => (if t435 = true then (laws_FnExactJournalLate.j2 kj77 t419 (t433 != t388) t398 t420) else (laws_FnExactJournalLate.j2 kj77 t419 true t398 t420))) = some r := H; have A124 := aM A1240; clear A1240; have HC125 := aM H; clear H; have hnb126 := NB403_374.out; have hnc126 := NB374_403.out; have hnb127 := NB403_389.out; have hnc127 := NB389_403.out; have hnb128 := NB403_394.out; have hnc128 := NB394_403.out; have hcz129_0 : wc.cell? ⟨gb403, 0, none⟩ = some (.int .i64 t398) := xc BK403 0 rfl; have hcz129_1 : wc.cell? ⟨gb403, 1, none⟩ = some (.slice Ao50 t399.length co50) := xc BK403 1 rfl; have hfz129_0 := blk_frozen BK403.out 0; have hfz129_1 := blk_frozen BK403.out 1
             go_upto_region 32 with (first | ((with_reducible refine gate_callee (f := 42) rfl ?_); refine goesL_ (some 89) rfl rfl Try.func42 (by kernel_rfl) rfl #[.agg #[.int .i64 t398, .slice Ao50 t399.length co50], .int .i64 1] rfl (by (try simp only [List.map_toArray, List.map_cons, List.map_nil]); first | done | rfl | (simp only [List.length_drop, List.length_take]; rfl)) ?_; (with_reducible refine (laws_markDisk.calls kj77 t398 (fun k_ => some k_ = (.slice Ao50 t399.length co50 : Value).ownBlock) (.slice Ao50 t399.length co50) t399 1 t419 t420 w _ ?side1 ?side2 A111.out).mono ?_); (case side1 => repeat (first | (with_reducible first | exact HB.out | apply below_alloc | apply pw_below_drewN | apply below_drew1 | refine below_set ?_ GE374.out | refine below_set ?_ GE389.out | refine below_set ?_ GE394.out | refine below_set ?_ GE403.out) | exact HB.out)); (case side2 => exact Kd.R_tight rfl HO_404001.out); rintro e w130 ⟨rfl, hy0, hb, hkp⟩; refine ⟨_, rfl, ?_⟩; have n0_ := aM (Kd.R_mono (ok' := fun k_ => some k_ ≠ (.slice Ao40 t415.length co40 : Value).ownBlock ∧ some k_ ≠ (.slice Ao50 t399.length co50 : Value).ownBlock) (Kd.R_keptB (HO_390001.out) hkp (fun k_ hk_ hs_ => (hk_.2) hs_)) (fun k_ hk_ => ⟨hk_.1.1, hk_.1.2⟩)); have n1_ := aM (Kd.R_mono (ok' := fun k_ => some k_ ≠ (.slice Ao33 t385.length co33 : Value).ownBlock ∧ some k_ ≠ (.slice Ao50 t399.length co50 : Value).ownBlock) (Kd.R_keptB (HO_395001.out) hkp (fun k_ hk_ hs_ => (hk_.2) hs_)) (fun k_ hk_ => ⟨hk_.1.1, hk_.1.2⟩)); have n2_ := aM (Kd.R_reok rfl hy0 (fun k_ e_ => HO_404001.out.1 k_ e_)); have n3_ := aM (blk_kept xblk hkp (fun hs_ => (fun e_ => (Kd.R_ne HO_404001.out BK374.out (by decide)) e_) hs_)); have n4_ := aM (blk_kept xblk hkp (fun hs_ => (fun e_ => (Kd.R_ne HO_404001.out BK389.out (by decide)) e_) hs_)); have n5_ := aM (blk_kept xblk hkp (fun hs_ => (fun e_ => (Kd.R_ne HO_404001.out BK394.out (by decide)) e_) hs_)); have n6_ := aM (blk_kept xblk hkp (fun hs_ => (fun e_ => (Kd.R_ne HO_404001.out BK403.out (by decide)) e_) hs_)); have n7_ := aM (hb); clear HO_390001; clear HO_395001; clear HO_404001; clear BK374; clear BK389; clear BK394; clear BK403; clear HB; have HO_390001 := n0_; have HO_395001 := n1_; have HO_404001 := n2_; have BK374 := n3_; have BK389 := n4_; have BK394 := n5_; have BK403 := n6_; have HB := n7_; clear n0_ n1_ n2_ n3_ n4_ n5_ n6_ n7_; (try clear hb); (try clear hkp); (try clear hy0); have hcz131_0 : w130.cell? ⟨gb403, 0, none⟩ = some (.int .i64 t398) := xc BK403 0 rfl; have hcz131_1 : w130.cell? ⟨gb403, 1, none⟩ = some (.slice Ao50 t399.length co50) := xc BK403 1 rfl; have hfz131_0 := blk_frozen BK403.out 0; have hfz131_1 := blk_frozen BK403.out 1) | ((with_reducible refine gate_callee (f := 43) rfl ?_); refine goesL_ (some 92) rfl rfl Try.func43 (by kernel_rfl) rfl #[.agg #[.int .i64 t398, .slice Ao50 t420.length co50], .int .i64 1] rfl (by (try simp only [List.map_toArray, List.map_cons, List.map_nil]); first | done | (rw [show t420.length = t399.length from (Kd.R_reads' HO_404001.out).1.symm] <;> rfl) | rfl | (simp only [List.length_drop, List.length_take]; rfl)) ?_; (with_reducible refine (laws_heldDisk.calls kj77 t398 _ _ t420 1 t421 _ ?side1 ?side2 A112.out).mono ?_); (case side1 => repeat (first | exact (Kd.R_reads' HO_404001.out).2.2 | (with_reducible refine Kd.C_alloc ?_ _) | (with_reducible refine Kd.C_drewN ?_ _) | (with_reducible refine Kd.C_drew ?_))); (case side2 => rw [show t420.length = t399.length from (Kd.R_reads' HO_404001.out).1.symm]; exact (Kd.R_reads' HO_404001.out).2.1); rintro e w132 ⟨rfl, hb⟩; refine ⟨_, rfl, ?_⟩; replace HO_390001 := aM (Kd.R_below (xr HO_390001) hb); replace HO_395001 := aM (Kd.R_below (xr HO_395001) hb); replace HO_404001 := aM (Kd.R_below (xr HO_404001) hb); replace BK374 := xbb BK374 hb; replace BK389 := xbb BK389 hb; replace BK394 := xbb BK394 hb; replace BK403 := xbb BK403 hb; replace HB := xbs hb; (try clear hb); (try clear hb2); (try clear hk); (try clear hi); have hnb133 := NB374_389.out; have hnc133 := NB389_374.out; have hnb134 := NB374_394.out; have hnc134 := NB394_374.out; have hcz135_0 : w132.cell? ⟨gb374, 0, none⟩ = some (.int .i64 a0_0) := xc BK374 0 rfl; have hcz135_1 : w132.cell? ⟨gb374, 1, none⟩ = some (.slice A0_1 l0_1.length c0_1) := xc BK374 1 rfl; have hfz135_0 := blk_frozen BK374.out 0; have hfz135_1 := blk_frozen BK374.out 1) | ((with_reducible refine gate_callee (f := 39) rfl ?_); refine goesL_ (some 100) rfl rfl Try.func39 (by kernel_rfl) rfl #[.agg #[.int .i64 a0_0, .slice A0_1 l0_1.length c0_1]] rfl (by (try simp only [List.map_toArray, List.map_cons, List.map_nil]); first | done | rfl | (simp only [List.length_drop, List.length_take]; rfl)) ?_; (with_reducible refine (laws_toDisk.calls kj77 a0_0 _ _ l0_1 t422 t423 _ ?side1 ?side2 A122.out).mono ?_); (case side1 => exact xcb HR0_1); (case side2 => exact HC0_1.out); rintro e w136 ⟨v424, rfl, ho0, hb⟩; refine ⟨_, rfl, ?_⟩; have HO425 := aM (Kd.R_lower (Kd.R_new' (Kd.R_new' (Kd.R_new' ho0 (Kd.R_lt (xr HO_390001))) (Kd.R_lt (xr HO_395001))) (Kd.R_lt (xr HO_404001))) (below_size xbg)); replace HO_390001 := aM (Kd.R_elder' (xr HO_390001) (Kd.R_base ho0) hb); replace HO_395001 := aM (Kd.R_elder' (xr HO_395001) (Kd.R_base ho0) hb); replace HO_404001 := aM (Kd.R_elder' (xr HO_404001) (Kd.R_base ho0) hb); replace BK374 := xbb BK374 hb; replace BK389 := xbb BK389 hb; replace BK394 := xbb BK394 hb; replace BK403 := xbb BK403 hb; replace HB := xbs hb; (try clear hb); (try clear hb2); (try clear hk); (try clear hi); (try clear ho0)) | ((with_reducible refine gate_callee (f := 61) rfl ?_); refine goesL_ (some 103) rfl rfl Try.func61 (by kernel_rfl) rfl #[.slice A2 l2.length c2] rfl (by (try simp only [List.map_toArray, List.map_cons, List.map_nil]); first | done | rfl | (simp only [List.length_drop, List.length_take]; rfl)) ?_; (with_reducible refine (laws_toStringS.calls kj77 _ _ l2 t426 _ ?side1 ?side2 A123.out).mono ?_); (case side1 => exact xcb HR2); (case side2 => exact HC2.out); rintro e w137 ⟨v427, rfl, ho0, hb⟩; refine ⟨_, rfl, ?_⟩; replace HO_390001 := aM (Kd.R_below (xr HO_390001) hb); replace HO_395001 := aM (Kd.R_below (xr HO_395001) hb); replace HO_404001 := aM (Kd.R_below (xr HO_404001) hb); replace HO425 := aM (Kd.R_below (xr HO425) hb); have HO428 := aM (Kd.R_lower ho0 (below_size xbg)); replace BK374 := xbb BK374 hb; replace BK389 := xbb BK389 hb; replace BK394 := xbb BK394 hb; replace BK403 := xbb BK403 hb; replace HB := xbs hb; (try clear hb); (try clear hb2); (try clear hk); (try clear hi); (try clear ho0); obtain ⟨Ao138, co138, eo138⟩ := Kd.R_slice HO425.out; subst eo138; obtain ⟨Ao139, co139, eo139⟩ := Kd.R_slice HO428.out; subst eo139) | ((with_reducible refine gate_callee (f := 62) rfl ?_); refine goesL_ (some 104) rfl rfl Try.func62 (by kernel_rfl) rfl #[.agg #[.int .i64 t422, .slice Ao138 t423.length co138], .int .i64 a1, .slice Ao139 t426.length co139] rfl (by (try simp only [List.map_toArray, List.map_cons, List.map_nil]); first | done | rfl | (simp only [List.length_drop, List.length_take]; rfl)) ?_; (with_reducible refine (impl_JournalLate.calls kj77 t422 _ _ t423 a1 _ _ t426 t429 t430 t433 _ ?side1 ?side2 ?side3 ?side4 A124.out).mono ?_); (case side1 => repeat (first | exact (Kd.R_reads' HO425.out).2.2 | (with_reducible refine Kd.C_alloc ?_ _) | (with_reducible refine Kd.C_drewN ?_ _) | (with_reducible refine Kd.C_drew ?_))); (case side2 => exact (Kd.R_reads' HO425.out).2.1); (case side3 => repeat (first | exact (Kd.R_reads' HO428.out).2.2 | (with_reducible refine Kd.C_alloc ?_ _) | (with_reducible refine Kd.C_drewN ?_ _) | (with_reducible refine Kd.C_drew ?_))); (case side4 => exact (Kd.R_reads' HO428.out).2.1); rintro e w140 ⟨v431, rfl, ho0, hb⟩; refine ⟨_, rfl, ?_⟩; replace HO428 := aM (Kd.R_below (xr HO428) hb); have HO432 := aM (Kd.R_lower (Kd.R_new' (Kd.R_new' (Kd.R_new' (Kd.R_new' ho0 (Kd.R_lt (xr HO_390001))) (Kd.R_lt (xr HO_395001))) (Kd.R_lt (xr HO_404001))) (Kd.R_lt (xr HO425))) (below_size xbg)); replace HO_390001 := aM (Kd.R_elder' (xr HO_390001) (Kd.R_base ho0) hb); replace HO_395001 := aM (Kd.R_elder' (xr HO_395001) (Kd.R_base ho0) hb); replace HO_404001 := aM (Kd.R_elder' (xr HO_404001) (Kd.R_base ho0) hb); replace HO425 := aM (Kd.R_elder' (xr HO425) (Kd.R_base ho0) hb); replace BK374 := xbb BK374 hb; replace BK389 := xbb BK389 hb; replace BK394 := xbb BK394 hb; replace BK403 := xbb BK403 hb; replace HB := xbs hb; (try clear hb); (try clear hb2); (try clear hk); (try clear hi); (try clear ho0)) | ((with_reducible refine gate_dst (N := 17) rfl ?_); refine box_event ?hg (N := 17) ?hd (cs := #[.int .i64 0, .slice none 0 0]) (t := 70) ?hr ?_; (case hd => rfl); (case hg => rfl); (case hr => first | (go_simp; done) | (go_simp; rfl)); intro gb434 hg w141 hbox hb; replace HO_390001 := aM (Kd.R_below (xr HO_390001) hb); replace HO_395001 := aM (Kd.R_below (xr HO_395001) hb); replace HO_404001 := aM (Kd.R_below (xr HO_404001) hb); replace HO425 := aM (Kd.R_below (xr HO425) hb); replace HO428 := aM (Kd.R_below (xr HO428) hb); replace HO432 := aM (Kd.R_below (xr HO432) hb); have GW434 := aM (xge hg); have GE434 := aM (xge hg); replace HB := xbs hb; have NB374_434 := aM ((by rw [hg]; exact Nat.ne_of_lt (blk_lt (g := gb374) (o := .cells #[.int .i64 a0_0, .slice A0_1 l0_1.length c0_1] 66 (0, 0)) xblk) : gb374 ≠ gb434)); have NB434_374 := aM ((by rw [hg]; exact Nat.ne_of_gt (blk_lt (g := gb374) (o := .cells #[.int .i64 a0_0, .slice A0_1 l0_1.length c0_1] 66 (0, 0)) xblk) : gb434 ≠ gb374)); have NB389_434 := aM ((by rw [hg]; exact Nat.ne_of_lt (blk_lt (g := gb389) (o := .cells #[.int .i64 t384, .slice Ao33 t385.length co33] 70 (0, 0)) xblk) : gb389 ≠ gb434)); have NB434_389 := aM ((by rw [hg]; exact Nat.ne_of_gt (blk_lt (g := gb389) (o := .cells #[.int .i64 t384, .slice Ao33 t385.length co33] 70 (0, 0)) xblk) : gb434 ≠ gb389)); have NB394_434 := aM ((by rw [hg]; exact Nat.ne_of_lt (blk_lt (g := gb394) (o := .cells #[.int .i64 t390, .slice Ao40 t415.length co40] 70 (0, 0)) xblk) : gb394 ≠ gb434)); have NB434_394 := aM ((by rw [hg]; exact Nat.ne_of_gt (blk_lt (g := gb394) (o := .cells #[.int .i64 t390, .slice Ao40 t415.length co40] 70 (0, 0)) xblk) : gb434 ≠ gb394)); have NB403_434 := aM ((by rw [hg]; exact Nat.ne_of_lt (blk_lt (g := gb403) (o := .cells #[.int .i64 t398, .slice Ao50 t399.length co50] 70 (0, 0)) xblk) : gb403 ≠ gb434)); have NB434_403 := aM ((by rw [hg]; exact Nat.ne_of_gt (blk_lt (g := gb403) (o := .cells #[.int .i64 t398, .slice Ao50 t399.length co50] 70 (0, 0)) xblk) : gb434 ≠ gb403)); replace BK374 := xbb BK374 hb; replace BK389 := xbb BK389 hb; replace BK394 := xbb BK394 hb; replace BK403 := xbb BK403 hb; have BK434 := aM (hbox); clear hb hbox hg; have hnb142 := NB434_374.out; have hnc142 := NB374_434.out; have hnb143 := NB434_389.out; have hnc143 := NB389_434.out; have hnb144 := NB434_394.out; have hnc144 := NB394_434.out; have hnb145 := NB434_403.out; have hnc145 := NB403_434.out; have hcz146_0 : w141.cell? ⟨gb434, 0, none⟩ = some (.int .i64 0) := xc BK434 0 rfl; have hcz146_1 : w141.cell? ⟨gb434, 1, none⟩ = some (.slice none 0 0) := xc BK434 1 rfl; have hfz146_0 := blk_frozen BK434.out 0; have hfz146_1 := blk_frozen BK434.out 1; obtain ⟨Ao147, co147, eo147⟩ := Kd.R_slice HO432.out; subst eo147))
             (try simp only [Act.put, List.setIfInBounds_toArray, List.set_cons_zero, List.set_cons_succ])
             go_cut [115] (fun v115 wc => ∃ (kq : Nat) (x115_124 : Bool), v115 = .bool x115_124 ∧ Aside0 (laws_FnExactJournalLate.j2 kq t419 x115_124 t398 t420 = some r) ∧ Aside0 (kq ≤ kj77) ∧ Aside0 (Kd.R k134 134 wc w.heap.size (fun k_ => some k_ ≠ ((.slice Ao40 t415.length co40) : Value).ownBlock ∧ some k_ ≠ ((.slice Ao50 t399.length co50) : Value).ownBlock ∧ some k_ ≠ ((.slice Ao147 t430.length co147) : Value).ownBlock) (.slice Ao33 t385.length co33) t385) ∧ Aside0 (Kd.R k134 134 wc w.heap.size (fun k_ => some k_ ≠ ((.slice Ao33 t385.length co33) : Value).ownBlock ∧ some k_ ≠ ((.slice Ao50 t399.length co50) : Value).ownBlock ∧ some k_ ≠ ((.slice Ao147 t430.length co147) : Value).ownBlock) (.slice Ao40 t415.length co40) t415) ∧ Aside0 (Kd.R k134 134 wc w.heap.size (fun k_ => some k_ ≠ ((.slice Ao33 t385.length co33) : Value).ownBlock ∧ some k_ ≠ ((.slice Ao40 t415.length co40) : Value).ownBlock ∧ some k_ ≠ ((.slice Ao147 t430.length co147) : Value).ownBlock) (.slice Ao50 t399.length co50) t420) ∧ Aside0 (Kd.R k134 134 wc w.heap.size (fun k_ => some k_ ≠ ((.slice Ao33 t385.length co33) : Value).ownBlock ∧ some k_ ≠ ((.slice Ao40 t415.length co40) : Value).ownBlock ∧ some k_ ≠ ((.slice Ao50 t399.length co50) : Value).ownBlock) (.slice Ao147 t430.length co147) t430) ∧ Aside0 (wc.heap[gb374]? = some (.cells #[.int .i64 a0_0, (.slice A0_1 l0_1.length c0_1)] 66 (0, 0))) ∧ Aside0 (wc.heap[gb389]? = some (.cells #[.int .i64 t384, (.slice Ao33 t385.length co33)] 70 (0, 0))) ∧ Aside0 (wc.heap[gb394]? = some (.cells #[.int .i64 t390, (.slice Ao40 t415.length co40)] 70 (0, 0))) ∧ Aside0 (wc.heap[gb403]? = some (.cells #[.int .i64 t398, (.slice Ao50 t399.length co50)] 70 (0, 0))) ∧ Aside0 (wc.heap[gb434]? = some (.cells #[.int .i64 t429, (.slice Ao147 t430.length co147)] 70 (0, 0))) ∧ Aside0 (Below w.heap.size w wc))
             case first =>
              have H := HC125.out; clear HC125; replace H := Option.bind_eq_some_iff.mp H
              obtain ⟨t435, A1480, H⟩ := H
              replace H : (if t435 = true then (laws_FnExactJournalLate.j2 kj77 t419 (t433 != t388) t398 t420) else (laws_FnExactJournalLate.j2 kj77 t419 true t398 t420)) = some r := H; have A148 := aM A1480; clear A1480
              by_cases c149 : t435 = true
              ·subst c149
               have H1 : (laws_FnExactJournalLate.j2 kj77 t419 (t433 != t388) t398 t420) = some r := by rw [if_pos rfl] at H; exact H
               clear H; have H := H1; clear H1
               have H' := aM H
               clear H; have hnb150 := NB434_374.out; have hnc150 := NB374_434.out; have hnb151 := NB434_389.out; have hnc151 := NB389_434.out; have hnb152 := NB434_394.out; have hnc152 := NB394_434.out; have hnb153 := NB434_403.out; have hnc153 := NB403_434.out; have hcz154_0 : w141.cell? ⟨gb434, 0, none⟩ = some (.int .i64 0) := xc BK434 0 rfl; have hcz154_1 : w141.cell? ⟨gb434, 1, none⟩ = some (.slice none 0 0) := xc BK434 1 rfl; have hfz154_0 := blk_frozen BK434.out 0; have hfz154_1 := blk_frozen BK434.out 1; have hnb155 := NB389_374.out; have hnc155 := NB374_389.out; have hnb156 := NB389_394.out; have hnc156 := NB394_389.out; have hnb157 := NB389_403.out; have hnc157 := NB403_389.out; have hcz158_0 : w141.cell? ⟨gb389, 0, none⟩ = some (.int .i64 t384) := xc BK389 0 rfl; have hcz158_1 : w141.cell? ⟨gb389, 1, none⟩ = some (.slice Ao33 t385.length co33) := xc BK389 1 rfl; have hfz158_0 := blk_frozen BK389.out 0; have hfz158_1 := blk_frozen BK389.out 1
               go_wp2_with (first | ((with_reducible refine gate_callee (f := 41) rfl ?_); refine goesL_ (some 109) rfl rfl Try.func41 (by kernel_rfl) rfl #[.agg #[.int .i64 t429, .slice Ao147 t430.length co147], .agg #[.int .i64 t384, .slice Ao33 t385.length co33]] rfl (by (try simp only [List.map_toArray, List.map_cons, List.map_nil]); first | done | rfl | (simp only [List.length_drop, List.length_take]; rfl)) ?_; (with_reducible refine (laws_eqDisk.calls kj77 t429 _ _ t430 t384 _ _ t385 true _ ?side1 ?side2 ?side3 ?side4 A148.out).mono ?_); (case side1 => refine (Kd.R_reads' (e := 134) (base := w.heap.size) (ok := fun k_ => ((((True ∧ some k_ ≠ (.slice Ao33 t385.length co33 : Value).ownBlock) ∧ some k_ ≠ (.slice Ao40 t415.length co40 : Value).ownBlock) ∧ some k_ ≠ (.slice Ao50 t399.length co50 : Value).ownBlock) ∧ some k_ ≠ (.slice Ao138 t423.length co138 : Value).ownBlock)) (n := t430.length) (c := co147) ?_).2.2; exact (xrt (Kd.R_mono (Kd.R_far (p := ⟨gb434, 1, none⟩) (Kd.R_far (p := ⟨gb434, 0, none⟩) (Kd.R_types HO432.out BK434.out (by decide)) (fun _ hk => hk.2) (.int .i64 t429)) (fun _ hk => hk.2) (.slice Ao147 t430.length co147)) (fun _ h_ => h_.1)))); (case side2 => exact (Kd.R_reads' HO432.out).2.1); (case side3 => refine (Kd.R_reads' (e := 134) (base := w.heap.size) (ok := fun k_ => (((some k_ ≠ (.slice Ao40 t415.length co40 : Value).ownBlock ∧ some k_ ≠ (.slice Ao50 t399.length co50 : Value).ownBlock) ∧ some k_ ≠ (.slice Ao138 t423.length co138 : Value).ownBlock) ∧ some k_ ≠ (.slice Ao147 t430.length co147 : Value).ownBlock)) (n := t385.length) (c := co33) ?_).2.2; exact (xrt (Kd.R_mono (Kd.R_far (p := ⟨gb434, 1, none⟩) (Kd.R_far (p := ⟨gb434, 0, none⟩) (Kd.R_types HO_390001.out BK434.out (by decide)) (fun _ hk => hk.2) (.int .i64 t429)) (fun _ hk => hk.2) (.slice Ao147 t430.length co147)) (fun _ h_ => h_.1)))); (case side4 => exact (Kd.R_reads' HO_390001.out).2.1); rintro e w159 ⟨rfl, hb⟩; refine ⟨_, rfl, ?_⟩; replace HO_390001 := aM (Kd.R_below (xrt (Kd.R_mono (Kd.R_far (p := ⟨gb434, 1, none⟩) (Kd.R_far (p := ⟨gb434, 0, none⟩) (Kd.R_types HO_390001.out BK434.out (by decide)) (fun _ hk => hk.2) (.int .i64 t429)) (fun _ hk => hk.2) (.slice Ao147 t430.length co147)) (fun _ h_ => h_.1))) hb); replace HO_395001 := aM (Kd.R_below (xrt (Kd.R_mono (Kd.R_far (p := ⟨gb434, 1, none⟩) (Kd.R_far (p := ⟨gb434, 0, none⟩) (Kd.R_types HO_395001.out BK434.out (by decide)) (fun _ hk => hk.2) (.int .i64 t429)) (fun _ hk => hk.2) (.slice Ao147 t430.length co147)) (fun _ h_ => h_.1))) hb); replace HO_404001 := aM (Kd.R_below (xrt (Kd.R_mono (Kd.R_far (p := ⟨gb434, 1, none⟩) (Kd.R_far (p := ⟨gb434, 0, none⟩) (Kd.R_types HO_404001.out BK434.out (by decide)) (fun _ hk => hk.2) (.int .i64 t429)) (fun _ hk => hk.2) (.slice Ao147 t430.length co147)) (fun _ h_ => h_.1))) hb); replace HO425 := aM (Kd.R_below (xrt (Kd.R_mono (Kd.R_far (p := ⟨gb434, 1, none⟩) (Kd.R_far (p := ⟨gb434, 0, none⟩) (Kd.R_types HO425.out BK434.out (by decide)) (fun _ hk => hk.2) (.int .i64 t429)) (fun _ hk => hk.2) (.slice Ao147 t430.length co147)) (fun _ h_ => h_.1))) hb); replace HO428 := aM (Kd.R_below (xrt (Kd.R_mono (Kd.R_far (p := ⟨gb434, 1, none⟩) (Kd.R_far (p := ⟨gb434, 0, none⟩) (Kd.R_types HO428.out BK434.out (by decide)) (fun _ hk => hk.2) (.int .i64 t429)) (fun _ hk => hk.2) (.slice Ao147 t430.length co147)) (fun _ h_ => h_.1))) hb); replace HO432 := aM (Kd.R_below (xrt (Kd.R_mono (Kd.R_far (p := ⟨gb434, 1, none⟩) (Kd.R_far (p := ⟨gb434, 0, none⟩) (Kd.R_types HO432.out BK434.out (by decide)) (fun _ hk => hk.2) (.int .i64 t429)) (fun _ hk => hk.2) (.slice Ao147 t430.length co147)) (fun _ h_ => h_.1))) hb); replace BK374 := aM (blk_below (g := gb374) (o := .cells #[.int .i64 a0_0, .slice A0_1 l0_1.length c0_1] 66 (0, 0)) (by (with_reducible repeat (first | refine blk_drewN ?_ _ | refine blk_drew ?_ | refine blk_alloc ?_ _)); refine blk_far ?_ NB374_434.out _; (with_reducible repeat (first | refine blk_drewN ?_ _ | refine blk_drew ?_ | refine blk_alloc ?_ _)); refine blk_far ?_ NB374_434.out _; (with_reducible repeat (first | refine blk_drewN ?_ _ | refine blk_drew ?_ | refine blk_alloc ?_ _)); exact BK374.out) hb); replace BK389 := aM (blk_below (g := gb389) (o := .cells #[.int .i64 t384, .slice Ao33 t385.length co33] 70 (0, 0)) (by (with_reducible repeat (first | refine blk_drewN ?_ _ | refine blk_drew ?_ | refine blk_alloc ?_ _)); refine blk_far ?_ NB389_434.out _; (with_reducible repeat (first | refine blk_drewN ?_ _ | refine blk_drew ?_ | refine blk_alloc ?_ _)); refine blk_far ?_ NB389_434.out _; (with_reducible repeat (first | refine blk_drewN ?_ _ | refine blk_drew ?_ | refine blk_alloc ?_ _)); exact BK389.out) hb); replace BK394 := aM (blk_below (g := gb394) (o := .cells #[.int .i64 t390, .slice Ao40 t415.length co40] 70 (0, 0)) (by (with_reducible repeat (first | refine blk_drewN ?_ _ | refine blk_drew ?_ | refine blk_alloc ?_ _)); refine blk_far ?_ NB394_434.out _; (with_reducible repeat (first | refine blk_drewN ?_ _ | refine blk_drew ?_ | refine blk_alloc ?_ _)); refine blk_far ?_ NB394_434.out _; (with_reducible repeat (first | refine blk_drewN ?_ _ | refine blk_drew ?_ | refine blk_alloc ?_ _)); exact BK394.out) hb); replace BK403 := aM (blk_below (g := gb403) (o := .cells #[.int .i64 t398, .slice Ao50 t399.length co50] 70 (0, 0)) (by (with_reducible repeat (first | refine blk_drewN ?_ _ | refine blk_drew ?_ | refine blk_alloc ?_ _)); refine blk_far ?_ NB403_434.out _; (with_reducible repeat (first | refine blk_drewN ?_ _ | refine blk_drew ?_ | refine blk_alloc ?_ _)); refine blk_far ?_ NB403_434.out _; (with_reducible repeat (first | refine blk_drewN ?_ _ | refine blk_drew ?_ | refine blk_alloc ?_ _)); exact BK403.out) hb); replace BK434 := aM (blk_below (g := gb434) (o := .cells #[.int .i64 t429, .slice Ao147 t430.length co147] 70 (0, 0)) (by (with_reducible repeat (first | refine blk_drewN ?_ _ | refine blk_drew ?_ | refine blk_alloc ?_ _)); refine blk_put (cs := #[.int .i64 t429, .slice none 0 0]) ?_ 1 _ rfl; (with_reducible repeat (first | refine blk_drewN ?_ _ | refine blk_drew ?_ | refine blk_alloc ?_ _)); refine blk_put (cs := #[.int .i64 0, .slice none 0 0]) ?_ 0 _ rfl; (with_reducible repeat (first | refine blk_drewN ?_ _ | refine blk_drew ?_ | refine blk_alloc ?_ _)); exact BK434.out) hb); replace HB := xbs hb; (try clear hb); (try clear hb2); (try clear hk); (try clear hi)))
               go_meet
               case rel => exact ⟨_, ((t433 != t388)), (by first | rfl | (simp; done) | (simp [*]; done)), H', ⟨by have := HJ19.out; have := HJ77.out; first | omega | exact Nat.le_refl _⟩, ⟨by (try simp only [hl395001_77]); (with_reducible repeat (first | apply Kd.R_alloc | apply Kd.R_drewN | apply Kd.R_drew)); exact Kd.R_mono HO_390001.out (fun _ hk => ⟨hk.1.1.1, ⟨hk.1.1.2, hk.2⟩⟩)⟩, ⟨by (try simp only [hl395001_77]); (with_reducible repeat (first | apply Kd.R_alloc | apply Kd.R_drewN | apply Kd.R_drew)); exact Kd.R_mono HO_395001.out (fun _ hk => ⟨hk.1.1.1, ⟨hk.1.1.2, hk.2⟩⟩)⟩, ⟨by (try simp only [hl395001_77]); (with_reducible repeat (first | apply Kd.R_alloc | apply Kd.R_drewN | apply Kd.R_drew)); exact Kd.R_mono HO_404001.out (fun _ hk => ⟨hk.1.1.1, ⟨hk.1.1.2, hk.2⟩⟩)⟩, ⟨by (try simp only [hl395001_77]); (with_reducible repeat (first | apply Kd.R_alloc | apply Kd.R_drewN | apply Kd.R_drew)); exact Kd.R_mono HO432.out (fun _ hk => ⟨hk.1.1.1.2, ⟨hk.1.1.2, hk.1.2⟩⟩)⟩, ⟨by (try simp only [hl395001_77]); (with_reducible repeat (first | refine blk_drewN ?_ _ | refine blk_drew ?_ | refine blk_alloc ?_ _)); exact BK374.out⟩, ⟨by (try simp only [hl395001_77]); (with_reducible repeat (first | refine blk_drewN ?_ _ | refine blk_drew ?_ | refine blk_alloc ?_ _)); exact BK389.out⟩, ⟨by (try simp only [hl395001_77]); (with_reducible repeat (first | refine blk_drewN ?_ _ | refine blk_drew ?_ | refine blk_alloc ?_ _)); exact BK394.out⟩, ⟨by (try simp only [hl395001_77]); (with_reducible repeat (first | refine blk_drewN ?_ _ | refine blk_drew ?_ | refine blk_alloc ?_ _)); exact BK403.out⟩, ⟨by (try simp only [hl395001_77]); (with_reducible repeat (first | refine blk_drewN ?_ _ | refine blk_drew ?_ | refine blk_alloc ?_ _)); exact BK434.out⟩, ⟨xbg⟩⟩
              ·replace c149 := Bool.eq_false_iff.mpr c149
               subst c149
               have H1 : (laws_FnExactJournalLate.j2 kj77 t419 true t398 t420) = some r := by rw [if_neg (show ¬ (false = true) by decide)] at H; exact H
               clear H; have H := H1; clear H1
               have H' := aM H
               clear H; have hnb160 := NB434_374.out; have hnc160 := NB374_434.out; have hnb161 := NB434_389.out; have hnc161 := NB389_434.out; have hnb162 := NB434_394.out; have hnc162 := NB394_434.out; have hnb163 := NB434_403.out; have hnc163 := NB403_434.out; have hcz164_0 : w141.cell? ⟨gb434, 0, none⟩ = some (.int .i64 0) := xc BK434 0 rfl; have hcz164_1 : w141.cell? ⟨gb434, 1, none⟩ = some (.slice none 0 0) := xc BK434 1 rfl; have hfz164_0 := blk_frozen BK434.out 0; have hfz164_1 := blk_frozen BK434.out 1; have hnb165 := NB389_374.out; have hnc165 := NB374_389.out; have hnb166 := NB389_394.out; have hnc166 := NB394_389.out; have hnb167 := NB389_403.out; have hnc167 := NB403_389.out; have hcz168_0 : w141.cell? ⟨gb389, 0, none⟩ = some (.int .i64 t384) := xc BK389 0 rfl; have hcz168_1 : w141.cell? ⟨gb389, 1, none⟩ = some (.slice Ao33 t385.length co33) := xc BK389 1 rfl; have hfz168_0 := blk_frozen BK389.out 0; have hfz168_1 := blk_frozen BK389.out 1
               go_wp2_with (first | ((with_reducible refine gate_callee (f := 41) rfl ?_); refine goesL_ (some 109) rfl rfl Try.func41 (by kernel_rfl) rfl #[.agg #[.int .i64 t429, .slice Ao147 t430.length co147], .agg #[.int .i64 t384, .slice Ao33 t385.length co33]] rfl (by (try simp only [List.map_toArray, List.map_cons, List.map_nil]); first | done | rfl | (simp only [List.length_drop, List.length_take]; rfl)) ?_; (with_reducible refine (laws_eqDisk.calls kj77 t429 _ _ t430 t384 _ _ t385 false _ ?side1 ?side2 ?side3 ?side4 A148.out).mono ?_); (case side1 => refine (Kd.R_reads' (e := 134) (base := w.heap.size) (ok := fun k_ => ((((True ∧ some k_ ≠ (.slice Ao33 t385.length co33 : Value).ownBlock) ∧ some k_ ≠ (.slice Ao40 t415.length co40 : Value).ownBlock) ∧ some k_ ≠ (.slice Ao50 t399.length co50 : Value).ownBlock) ∧ some k_ ≠ (.slice Ao138 t423.length co138 : Value).ownBlock)) (n := t430.length) (c := co147) ?_).2.2; exact (xrt (Kd.R_mono (Kd.R_far (p := ⟨gb434, 1, none⟩) (Kd.R_far (p := ⟨gb434, 0, none⟩) (Kd.R_types HO432.out BK434.out (by decide)) (fun _ hk => hk.2) (.int .i64 t429)) (fun _ hk => hk.2) (.slice Ao147 t430.length co147)) (fun _ h_ => h_.1)))); (case side2 => exact (Kd.R_reads' HO432.out).2.1); (case side3 => refine (Kd.R_reads' (e := 134) (base := w.heap.size) (ok := fun k_ => (((some k_ ≠ (.slice Ao40 t415.length co40 : Value).ownBlock ∧ some k_ ≠ (.slice Ao50 t399.length co50 : Value).ownBlock) ∧ some k_ ≠ (.slice Ao138 t423.length co138 : Value).ownBlock) ∧ some k_ ≠ (.slice Ao147 t430.length co147 : Value).ownBlock)) (n := t385.length) (c := co33) ?_).2.2; exact (xrt (Kd.R_mono (Kd.R_far (p := ⟨gb434, 1, none⟩) (Kd.R_far (p := ⟨gb434, 0, none⟩) (Kd.R_types HO_390001.out BK434.out (by decide)) (fun _ hk => hk.2) (.int .i64 t429)) (fun _ hk => hk.2) (.slice Ao147 t430.length co147)) (fun _ h_ => h_.1)))); (case side4 => exact (Kd.R_reads' HO_390001.out).2.1); rintro e w169 ⟨rfl, hb⟩; refine ⟨_, rfl, ?_⟩; replace HO_390001 := aM (Kd.R_below (xrt (Kd.R_mono (Kd.R_far (p := ⟨gb434, 1, none⟩) (Kd.R_far (p := ⟨gb434, 0, none⟩) (Kd.R_types HO_390001.out BK434.out (by decide)) (fun _ hk => hk.2) (.int .i64 t429)) (fun _ hk => hk.2) (.slice Ao147 t430.length co147)) (fun _ h_ => h_.1))) hb); replace HO_395001 := aM (Kd.R_below (xrt (Kd.R_mono (Kd.R_far (p := ⟨gb434, 1, none⟩) (Kd.R_far (p := ⟨gb434, 0, none⟩) (Kd.R_types HO_395001.out BK434.out (by decide)) (fun _ hk => hk.2) (.int .i64 t429)) (fun _ hk => hk.2) (.slice Ao147 t430.length co147)) (fun _ h_ => h_.1))) hb); replace HO_404001 := aM (Kd.R_below (xrt (Kd.R_mono (Kd.R_far (p := ⟨gb434, 1, none⟩) (Kd.R_far (p := ⟨gb434, 0, none⟩) (Kd.R_types HO_404001.out BK434.out (by decide)) (fun _ hk => hk.2) (.int .i64 t429)) (fun _ hk => hk.2) (.slice Ao147 t430.length co147)) (fun _ h_ => h_.1))) hb); replace HO425 := aM (Kd.R_below (xrt (Kd.R_mono (Kd.R_far (p := ⟨gb434, 1, none⟩) (Kd.R_far (p := ⟨gb434, 0, none⟩) (Kd.R_types HO425.out BK434.out (by decide)) (fun _ hk => hk.2) (.int .i64 t429)) (fun _ hk => hk.2) (.slice Ao147 t430.length co147)) (fun _ h_ => h_.1))) hb); replace HO428 := aM (Kd.R_below (xrt (Kd.R_mono (Kd.R_far (p := ⟨gb434, 1, none⟩) (Kd.R_far (p := ⟨gb434, 0, none⟩) (Kd.R_types HO428.out BK434.out (by decide)) (fun _ hk => hk.2) (.int .i64 t429)) (fun _ hk => hk.2) (.slice Ao147 t430.length co147)) (fun _ h_ => h_.1))) hb); replace HO432 := aM (Kd.R_below (xrt (Kd.R_mono (Kd.R_far (p := ⟨gb434, 1, none⟩) (Kd.R_far (p := ⟨gb434, 0, none⟩) (Kd.R_types HO432.out BK434.out (by decide)) (fun _ hk => hk.2) (.int .i64 t429)) (fun _ hk => hk.2) (.slice Ao147 t430.length co147)) (fun _ h_ => h_.1))) hb); replace BK374 := aM (blk_below (g := gb374) (o := .cells #[.int .i64 a0_0, .slice A0_1 l0_1.length c0_1] 66 (0, 0)) (by (with_reducible repeat (first | refine blk_drewN ?_ _ | refine blk_drew ?_ | refine blk_alloc ?_ _)); refine blk_far ?_ NB374_434.out _; (with_reducible repeat (first | refine blk_drewN ?_ _ | refine blk_drew ?_ | refine blk_alloc ?_ _)); refine blk_far ?_ NB374_434.out _; (with_reducible repeat (first | refine blk_drewN ?_ _ | refine blk_drew ?_ | refine blk_alloc ?_ _)); exact BK374.out) hb); replace BK389 := aM (blk_below (g := gb389) (o := .cells #[.int .i64 t384, .slice Ao33 t385.length co33] 70 (0, 0)) (by (with_reducible repeat (first | refine blk_drewN ?_ _ | refine blk_drew ?_ | refine blk_alloc ?_ _)); refine blk_far ?_ NB389_434.out _; (with_reducible repeat (first | refine blk_drewN ?_ _ | refine blk_drew ?_ | refine blk_alloc ?_ _)); refine blk_far ?_ NB389_434.out _; (with_reducible repeat (first | refine blk_drewN ?_ _ | refine blk_drew ?_ | refine blk_alloc ?_ _)); exact BK389.out) hb); replace BK394 := aM (blk_below (g := gb394) (o := .cells #[.int .i64 t390, .slice Ao40 t415.length co40] 70 (0, 0)) (by (with_reducible repeat (first | refine blk_drewN ?_ _ | refine blk_drew ?_ | refine blk_alloc ?_ _)); refine blk_far ?_ NB394_434.out _; (with_reducible repeat (first | refine blk_drewN ?_ _ | refine blk_drew ?_ | refine blk_alloc ?_ _)); refine blk_far ?_ NB394_434.out _; (with_reducible repeat (first | refine blk_drewN ?_ _ | refine blk_drew ?_ | refine blk_alloc ?_ _)); exact BK394.out) hb); replace BK403 := aM (blk_below (g := gb403) (o := .cells #[.int .i64 t398, .slice Ao50 t399.length co50] 70 (0, 0)) (by (with_reducible repeat (first | refine blk_drewN ?_ _ | refine blk_drew ?_ | refine blk_alloc ?_ _)); refine blk_far ?_ NB403_434.out _; (with_reducible repeat (first | refine blk_drewN ?_ _ | refine blk_drew ?_ | refine blk_alloc ?_ _)); refine blk_far ?_ NB403_434.out _; (with_reducible repeat (first | refine blk_drewN ?_ _ | refine blk_drew ?_ | refine blk_alloc ?_ _)); exact BK403.out) hb); replace BK434 := aM (blk_below (g := gb434) (o := .cells #[.int .i64 t429, .slice Ao147 t430.length co147] 70 (0, 0)) (by (with_reducible repeat (first | refine blk_drewN ?_ _ | refine blk_drew ?_ | refine blk_alloc ?_ _)); refine blk_put (cs := #[.int .i64 t429, .slice none 0 0]) ?_ 1 _ rfl; (with_reducible repeat (first | refine blk_drewN ?_ _ | refine blk_drew ?_ | refine blk_alloc ?_ _)); refine blk_put (cs := #[.int .i64 0, .slice none 0 0]) ?_ 0 _ rfl; (with_reducible repeat (first | refine blk_drewN ?_ _ | refine blk_drew ?_ | refine blk_alloc ?_ _)); exact BK434.out) hb); replace HB := xbs hb; (try clear hb); (try clear hb2); (try clear hk); (try clear hi)))
               go_meet
               case rel => exact ⟨_, (true), (by first | rfl | (simp; done) | (simp [*]; done)), H', ⟨by have := HJ19.out; have := HJ77.out; first | omega | exact Nat.le_refl _⟩, ⟨by (try simp only [hl395001_77]); (with_reducible repeat (first | apply Kd.R_alloc | apply Kd.R_drewN | apply Kd.R_drew)); exact Kd.R_mono HO_390001.out (fun _ hk => ⟨hk.1.1.1, ⟨hk.1.1.2, hk.2⟩⟩)⟩, ⟨by (try simp only [hl395001_77]); (with_reducible repeat (first | apply Kd.R_alloc | apply Kd.R_drewN | apply Kd.R_drew)); exact Kd.R_mono HO_395001.out (fun _ hk => ⟨hk.1.1.1, ⟨hk.1.1.2, hk.2⟩⟩)⟩, ⟨by (try simp only [hl395001_77]); (with_reducible repeat (first | apply Kd.R_alloc | apply Kd.R_drewN | apply Kd.R_drew)); exact Kd.R_mono HO_404001.out (fun _ hk => ⟨hk.1.1.1, ⟨hk.1.1.2, hk.2⟩⟩)⟩, ⟨by (try simp only [hl395001_77]); (with_reducible repeat (first | apply Kd.R_alloc | apply Kd.R_drewN | apply Kd.R_drew)); exact Kd.R_mono HO432.out (fun _ hk => ⟨hk.1.1.1.2, ⟨hk.1.1.2, hk.1.2⟩⟩)⟩, ⟨by (try simp only [hl395001_77]); (with_reducible repeat (first | refine blk_drewN ?_ _ | refine blk_drew ?_ | refine blk_alloc ?_ _)); exact BK374.out⟩, ⟨by (try simp only [hl395001_77]); (with_reducible repeat (first | refine blk_drewN ?_ _ | refine blk_drew ?_ | refine blk_alloc ?_ _)); exact BK389.out⟩, ⟨by (try simp only [hl395001_77]); (with_reducible repeat (first | refine blk_drewN ?_ _ | refine blk_drew ?_ | refine blk_alloc ?_ _)); exact BK394.out⟩, ⟨by (try simp only [hl395001_77]); (with_reducible repeat (first | refine blk_drewN ?_ _ | refine blk_drew ?_ | refine blk_alloc ?_ _)); exact BK403.out⟩, ⟨by (try simp only [hl395001_77]); (with_reducible repeat (first | refine blk_drewN ?_ _ | refine blk_drew ?_ | refine blk_alloc ?_ _)); exact BK434.out⟩, ⟨xbg⟩⟩
             case rest =>
              clear HC125
              try clear c1
              try clear c2
              try clear p2
              try clear c3
              try clear c4
              try clear c5
              try clear c5b0
              try clear c6
              try clear c7
              try clear c8
              try clear c9
              try clear c10
              try clear c10b0
              try clear c11
              try clear c12
              try clear c13
              try clear c14
              try clear c15
              try clear c16
              try clear c31
              try clear c37
              try clear c38
              try clear c39
              try clear c41
              try clear c42
              try clear c43
              try clear c46
              try clear c47
              try clear c48
              try clear c52
              try clear c53
              try clear c54
              try clear c55
              try clear c57
              try clear c58
              try clear c59
              try clear c60
              try clear c61
              try clear c62
              try clear c63
              try clear c64
              try clear c65
              try clear c66
              try clear c69
              try clear c72
              try clear c75
              try clear c85
              try clear c86
              try clear c87
              try clear c91
              try clear c91b0
              try clear c93
              try clear c94
              try clear c95
              try clear c96
              try clear c98
              try clear c99
              try clear c102
              try clear c103
              try clear c104
              try clear c106
              try clear c107
              try clear c110
              try clear c113
              try clear c113b0
              try clear c114
              try clear c115
              try clear c116
              try clear c121
              try clear c121b0
              try clear c121b1
              try clear c126
              try clear c127
              try clear c128
              try clear c133
              try clear c134
              try clear c142
              try clear c143
              try clear c144
              try clear c145
              try clear c149
              try clear c150
              try clear c151
              try clear c152
              try clear c153
              try clear c155
              try clear c156
              try clear c157
              try clear c160
              try clear c161
              try clear c162
              try clear c163
              try clear c165
              try clear c166
              try clear c167
              try clear hcz100_0
              try clear hcz100_1
              try clear hcz105_0
              try clear hcz105_1
              try clear hcz108_0
              try clear hcz108_1
              try clear hcz117_0
              try clear hcz117_1
              try clear hcz119_0
              try clear hcz119_1
              try clear hcz129_0
              try clear hcz129_1
              try clear hcz12_0
              try clear hcz12_1
              try clear hcz131_0
              try clear hcz131_1
              try clear hcz135_0
              try clear hcz135_1
              try clear hcz146_0
              try clear hcz146_1
              try clear hcz154_0
              try clear hcz154_1
              try clear hcz158_0
              try clear hcz158_1
              try clear hcz164_0
              try clear hcz164_1
              try clear hcz168_0
              try clear hcz168_1
              try clear hcz22_0
              try clear hcz22_1
              try clear hcz24_0
              try clear hcz24_1
              try clear hcz32_0
              try clear hcz32_1
              try clear hcz34_0
              try clear hcz34_1
              try clear hcz39_0
              try clear hcz39_1
              try clear hcz42_0
              try clear hcz42_1
              try clear hcz49_0
              try clear hcz49_1
              try clear hcz56_0
              try clear hcz56_1
              try clear hcz59_0
              try clear hcz59_1
              try clear hcz64_0
              try clear hcz64_1
              try clear hcz67_0
              try clear hcz67_1
              try clear hcz7_0
              try clear hcz7_1
              try clear hcz88_0
              try clear hcz88_1
              try clear hcz97_0
              try clear hcz97_1
              try clear hfz100_0
              try clear hfz100_1
              try clear hfz105_0
              try clear hfz105_1
              try clear hfz108_0
              try clear hfz108_1
              try clear hfz117_0
              try clear hfz117_1
              try clear hfz119_0
              try clear hfz119_1
              try clear hfz129_0
              try clear hfz129_1
              try clear hfz12_0
              try clear hfz12_1
              try clear hfz131_0
              try clear hfz131_1
              try clear hfz135_0
              try clear hfz135_1
              try clear hfz146_0
              try clear hfz146_1
              try clear hfz154_0
              try clear hfz154_1
              try clear hfz158_0
              try clear hfz158_1
              try clear hfz164_0
              try clear hfz164_1
              try clear hfz168_0
              try clear hfz168_1
              try clear hfz22_0
              try clear hfz22_1
              try clear hfz24_0
              try clear hfz24_1
              try clear hfz32_0
              try clear hfz32_1
              try clear hfz34_0
              try clear hfz34_1
              try clear hfz39_0
              try clear hfz39_1
              try clear hfz42_0
              try clear hfz42_1
              try clear hfz49_0
              try clear hfz49_1
              try clear hfz56_0
              try clear hfz56_1
              try clear hfz59_0
              try clear hfz59_1
              try clear hfz64_0
              try clear hfz64_1
              try clear hfz67_0
              try clear hfz67_1
              try clear hfz7_0
              try clear hfz7_1
              try clear hfz88_0
              try clear hfz88_1
              try clear hfz97_0
              try clear hfz97_1
              try clear p2
              obtain ⟨kq, x115_124, rfl, HA, HJ124, HO_390001, HO_395001, HO_404001, HO_435001, BK374, BK389, BK394, BK403, BK434, HB⟩ := hcut
              have hl404001_124 := (Kd.R_reads' HO_404001.out).1
              rw [hl404001_124] at HO_404001
              (try simp only [hl404001_124])
              (try simp only [hl404001_124] at BK374)
              (try simp only [hl404001_124] at BK389)
              (try simp only [hl404001_124] at BK394)
              (try simp only [hl404001_124] at BK403)
              (try simp only [hl404001_124] at BK434)
              (try simp only [hl404001_124] at HO_390001)
              (try simp only [hl404001_124] at HO_395001)
              (try simp only [hl404001_124] at HO_435001)
              cases kq with
              | zero => exact absurd HA.out (by simp [laws_FnExactJournalLate.j2])
              | succ kj124 =>
               have H := HA.out; clear HA
               simp only [laws_FnExactJournalLate.j2] at H
               by_cases c170 : x115_124 = true
               ·subst c170
                have H1 : (some false) = some r := by rw [if_pos rfl] at H; exact H
                clear H; have H := H1; clear H1
                obtain rfl := Option.some.inj H
                go_wp2
                go_ret
                exact ⟨by first | rfl | (simp [errW_none, errW_some] <;> rfl) | (simp [*, errW_none, errW_some] <;> rfl), xbg⟩
               ·replace c170 := Bool.eq_false_iff.mpr c170
                subst c170
                have H1 : ((laws_heldDisk.f kj124 t398 t420 1).bind fun t436 => (if t436 < 0 then (some false) else (if t436 = t419 then (some true) else (some false)))) = some r := by rw [if_neg (show ¬ (false = true) by decide)] at H; exact H
                clear H; have H := H1; clear H1; replace H := Option.bind_eq_some_iff.mp H
                obtain ⟨t436, A1710, H⟩ := H
                replace H : (if t436 < 0 then (some false) else (if t436 = t419 then (some true) else (some false))) = some r := H; have A171 := aM A1710; clear A1710
                by_cases c172 : t436 < 0
                ·rw [if_pos c172] at H
                 have c172b0 : decide (t436 < 0) = true := decide_eq_true c172; clear c172
                 obtain rfl := Option.some.inj H
                 have hnb173 := NB403_374.out; have hnc173 := NB374_403.out; have hnb174 := NB403_389.out; have hnc174 := NB389_403.out; have hnb175 := NB403_394.out; have hnc175 := NB394_403.out; have hnb176 := NB403_434.out; have hnc176 := NB434_403.out; have hcz177_0 : wc.cell? ⟨gb403, 0, none⟩ = some (.int .i64 t398) := xc BK403 0 rfl; have hcz177_1 : wc.cell? ⟨gb403, 1, none⟩ = some (.slice Ao50 t420.length co50) := xc BK403 1 rfl; have hfz177_0 := blk_frozen BK403.out 0; have hfz177_1 := blk_frozen BK403.out 1
                 go_wp2_with (first | ((with_reducible refine gate_callee (f := 43) rfl ?_); refine goesL_ (some 118) rfl rfl Try.func43 (by kernel_rfl) rfl #[.agg #[.int .i64 t398, .slice Ao50 t420.length co50], .int .i64 1] rfl (by (try simp only [List.map_toArray, List.map_cons, List.map_nil]); first | done | rfl | (simp only [List.length_drop, List.length_take]; rfl)) ?_; (with_reducible refine (laws_heldDisk.calls kj124 t398 _ _ t420 1 t436 _ ?side1 ?side2 A171.out).mono ?_); (case side1 => repeat (first | exact (Kd.R_reads' HO_404001.out).2.2 | (with_reducible refine Kd.C_alloc ?_ _) | (with_reducible refine Kd.C_drewN ?_ _) | (with_reducible refine Kd.C_drew ?_))); (case side2 => exact (Kd.R_reads' HO_404001.out).2.1); rintro e w178 ⟨rfl, hb⟩; refine ⟨_, rfl, ?_⟩; replace HO_390001 := aM (Kd.R_below (xr HO_390001) hb); replace HO_395001 := aM (Kd.R_below (xr HO_395001) hb); replace HO_404001 := aM (Kd.R_below (xr HO_404001) hb); replace HO_435001 := aM (Kd.R_below (xr HO_435001) hb); replace BK374 := xbb BK374 hb; replace BK389 := xbb BK389 hb; replace BK394 := xbb BK394 hb; replace BK403 := xbb BK403 hb; replace BK434 := xbb BK434 hb; replace HB := xbs hb; (try clear hb); (try clear hb2); (try clear hk); (try clear hi)))
                 go_ret
                 exact ⟨by first | rfl | (simp [errW_none, errW_some] <;> rfl) | (simp [*, errW_none, errW_some] <;> rfl), xbg⟩
                ·rw [if_neg c172] at H
                 have c172b0 : decide (t436 < 0) = false := decide_eq_false c172; clear c172
                 by_cases c179 : t436 = t419
                 ·rw [if_pos c179] at H
                  have c179b0 : (t436 == t419) = true := beq_iff_eq.mpr c179; have c179b1 : (t436 != t419) = false := bne_eq_false_iff_eq.mpr c179; clear c179
                  obtain rfl := Option.some.inj H
                  have hnb180 := NB403_374.out; have hnc180 := NB374_403.out; have hnb181 := NB403_389.out; have hnc181 := NB389_403.out; have hnb182 := NB403_394.out; have hnc182 := NB394_403.out; have hnb183 := NB403_434.out; have hnc183 := NB434_403.out; have hcz184_0 : wc.cell? ⟨gb403, 0, none⟩ = some (.int .i64 t398) := xc BK403 0 rfl; have hcz184_1 : wc.cell? ⟨gb403, 1, none⟩ = some (.slice Ao50 t420.length co50) := xc BK403 1 rfl; have hfz184_0 := blk_frozen BK403.out 0; have hfz184_1 := blk_frozen BK403.out 1
                  go_wp2_with (first | ((with_reducible refine gate_callee (f := 43) rfl ?_); refine goesL_ (some 118) rfl rfl Try.func43 (by kernel_rfl) rfl #[.agg #[.int .i64 t398, .slice Ao50 t420.length co50], .int .i64 1] rfl (by (try simp only [List.map_toArray, List.map_cons, List.map_nil]); first | done | rfl | (simp only [List.length_drop, List.length_take]; rfl)) ?_; (with_reducible refine (laws_heldDisk.calls kj124 t398 _ _ t420 1 t436 _ ?side1 ?side2 A171.out).mono ?_); (case side1 => repeat (first | exact (Kd.R_reads' HO_404001.out).2.2 | (with_reducible refine Kd.C_alloc ?_ _) | (with_reducible refine Kd.C_drewN ?_ _) | (with_reducible refine Kd.C_drew ?_))); (case side2 => exact (Kd.R_reads' HO_404001.out).2.1); rintro e w185 ⟨rfl, hb⟩; refine ⟨_, rfl, ?_⟩; replace HO_390001 := aM (Kd.R_below (xr HO_390001) hb); replace HO_395001 := aM (Kd.R_below (xr HO_395001) hb); replace HO_404001 := aM (Kd.R_below (xr HO_404001) hb); replace HO_435001 := aM (Kd.R_below (xr HO_435001) hb); replace BK374 := xbb BK374 hb; replace BK389 := xbb BK389 hb; replace BK394 := xbb BK394 hb; replace BK403 := xbb BK403 hb; replace BK434 := xbb BK434 hb; replace HB := xbs hb; (try clear hb); (try clear hb2); (try clear hk); (try clear hi)))
                  go_ret
                  exact ⟨by first | rfl | (simp [errW_none, errW_some] <;> rfl) | (simp [*, errW_none, errW_some] <;> rfl), xbg⟩
                 ·rw [if_neg c179] at H
                  have c179b0 : (t436 == t419) = false := beq_eq_false_iff_ne.mpr c179; have c179b1 : (t436 != t419) = true := bne_iff_ne.mpr c179
                  obtain rfl := Option.some.inj H
                  have hnb186 := NB403_374.out; have hnc186 := NB374_403.out; have hnb187 := NB403_389.out; have hnc187 := NB389_403.out; have hnb188 := NB403_394.out; have hnc188 := NB394_403.out; have hnb189 := NB403_434.out; have hnc189 := NB434_403.out; have hcz190_0 : wc.cell? ⟨gb403, 0, none⟩ = some (.int .i64 t398) := xc BK403 0 rfl; have hcz190_1 : wc.cell? ⟨gb403, 1, none⟩ = some (.slice Ao50 t420.length co50) := xc BK403 1 rfl; have hfz190_0 := blk_frozen BK403.out 0; have hfz190_1 := blk_frozen BK403.out 1
                  go_wp2_with (first | ((with_reducible refine gate_callee (f := 43) rfl ?_); refine goesL_ (some 118) rfl rfl Try.func43 (by kernel_rfl) rfl #[.agg #[.int .i64 t398, .slice Ao50 t420.length co50], .int .i64 1] rfl (by (try simp only [List.map_toArray, List.map_cons, List.map_nil]); first | done | rfl | (simp only [List.length_drop, List.length_take]; rfl)) ?_; (with_reducible refine (laws_heldDisk.calls kj124 t398 _ _ t420 1 t436 _ ?side1 ?side2 A171.out).mono ?_); (case side1 => repeat (first | exact (Kd.R_reads' HO_404001.out).2.2 | (with_reducible refine Kd.C_alloc ?_ _) | (with_reducible refine Kd.C_drewN ?_ _) | (with_reducible refine Kd.C_drew ?_))); (case side2 => exact (Kd.R_reads' HO_404001.out).2.1); rintro e w191 ⟨rfl, hb⟩; refine ⟨_, rfl, ?_⟩; replace HO_390001 := aM (Kd.R_below (xr HO_390001) hb); replace HO_395001 := aM (Kd.R_below (xr HO_395001) hb); replace HO_404001 := aM (Kd.R_below (xr HO_404001) hb); replace HO_435001 := aM (Kd.R_below (xr HO_435001) hb); replace BK374 := xbb BK374 hb; replace BK389 := xbb BK389 hb; replace BK394 := xbb BK394 hb; replace BK403 := xbb BK403 hb; replace BK434 := xbb BK434 hb; replace HB := xbs hb; (try clear hb); (try clear hb2); (try clear hk); (try clear hi)))
                  go_ret
                  exact ⟨by first | rfl | (simp [errW_none, errW_some] <;> rfl) | (simp [*, errW_none, errW_some] <;> rfl), xbg⟩
            ·rw [if_neg c121] at H
             have c121b0 : (t421 == t419) = false := beq_eq_false_iff_ne.mpr c121; have c121b1 : (t421 != t419) = true := bne_iff_ne.mpr c121
             obtain rfl := Option.some.inj H
             have hnb192 := NB403_374.out; have hnc192 := NB374_403.out; have hnb193 := NB403_389.out; have hnc193 := NB389_403.out; have hnb194 := NB403_394.out; have hnc194 := NB394_403.out; have hcz195_0 : wc.cell? ⟨gb403, 0, none⟩ = some (.int .i64 t398) := xc BK403 0 rfl; have hcz195_1 : wc.cell? ⟨gb403, 1, none⟩ = some (.slice Ao50 t399.length co50) := xc BK403 1 rfl; have hfz195_0 := blk_frozen BK403.out 0; have hfz195_1 := blk_frozen BK403.out 1
             go_wp2_with (first | ((with_reducible refine gate_callee (f := 42) rfl ?_); refine goesL_ (some 89) rfl rfl Try.func42 (by kernel_rfl) rfl #[.agg #[.int .i64 t398, .slice Ao50 t399.length co50], .int .i64 1] rfl (by (try simp only [List.map_toArray, List.map_cons, List.map_nil]); first | done | rfl | (simp only [List.length_drop, List.length_take]; rfl)) ?_; (with_reducible refine (laws_markDisk.calls kj77 t398 (fun k_ => some k_ = (.slice Ao50 t399.length co50 : Value).ownBlock) (.slice Ao50 t399.length co50) t399 1 t419 t420 w _ ?side1 ?side2 A111.out).mono ?_); (case side1 => repeat (first | (with_reducible first | exact HB.out | apply below_alloc | apply pw_below_drewN | apply below_drew1 | refine below_set ?_ GE374.out | refine below_set ?_ GE389.out | refine below_set ?_ GE394.out | refine below_set ?_ GE403.out) | exact HB.out)); (case side2 => exact Kd.R_tight rfl HO_404001.out); rintro e w196 ⟨rfl, hy0, hb, hkp⟩; refine ⟨_, rfl, ?_⟩; have n0_ := aM (Kd.R_mono (ok' := fun k_ => some k_ ≠ (.slice Ao40 t415.length co40 : Value).ownBlock ∧ some k_ ≠ (.slice Ao50 t399.length co50 : Value).ownBlock) (Kd.R_keptB (HO_390001.out) hkp (fun k_ hk_ hs_ => (hk_.2) hs_)) (fun k_ hk_ => ⟨hk_.1.1, hk_.1.2⟩)); have n1_ := aM (Kd.R_mono (ok' := fun k_ => some k_ ≠ (.slice Ao33 t385.length co33 : Value).ownBlock ∧ some k_ ≠ (.slice Ao50 t399.length co50 : Value).ownBlock) (Kd.R_keptB (HO_395001.out) hkp (fun k_ hk_ hs_ => (hk_.2) hs_)) (fun k_ hk_ => ⟨hk_.1.1, hk_.1.2⟩)); have n2_ := aM (Kd.R_reok rfl hy0 (fun k_ e_ => HO_404001.out.1 k_ e_)); have n3_ := aM (blk_kept xblk hkp (fun hs_ => (fun e_ => (Kd.R_ne HO_404001.out BK374.out (by decide)) e_) hs_)); have n4_ := aM (blk_kept xblk hkp (fun hs_ => (fun e_ => (Kd.R_ne HO_404001.out BK389.out (by decide)) e_) hs_)); have n5_ := aM (blk_kept xblk hkp (fun hs_ => (fun e_ => (Kd.R_ne HO_404001.out BK394.out (by decide)) e_) hs_)); have n6_ := aM (blk_kept xblk hkp (fun hs_ => (fun e_ => (Kd.R_ne HO_404001.out BK403.out (by decide)) e_) hs_)); have n7_ := aM (hb); clear HO_390001; clear HO_395001; clear HO_404001; clear BK374; clear BK389; clear BK394; clear BK403; clear HB; have HO_390001 := n0_; have HO_395001 := n1_; have HO_404001 := n2_; have BK374 := n3_; have BK389 := n4_; have BK394 := n5_; have BK403 := n6_; have HB := n7_; clear n0_ n1_ n2_ n3_ n4_ n5_ n6_ n7_; (try clear hb); (try clear hkp); (try clear hy0); have hcz197_0 : w196.cell? ⟨gb403, 0, none⟩ = some (.int .i64 t398) := xc BK403 0 rfl; have hcz197_1 : w196.cell? ⟨gb403, 1, none⟩ = some (.slice Ao50 t399.length co50) := xc BK403 1 rfl; have hfz197_0 := blk_frozen BK403.out 0; have hfz197_1 := blk_frozen BK403.out 1) | ((with_reducible refine gate_callee (f := 43) rfl ?_); refine goesL_ (some 92) rfl rfl Try.func43 (by kernel_rfl) rfl #[.agg #[.int .i64 t398, .slice Ao50 t420.length co50], .int .i64 1] rfl (by (try simp only [List.map_toArray, List.map_cons, List.map_nil]); first | done | (rw [show t420.length = t399.length from (Kd.R_reads' HO_404001.out).1.symm] <;> rfl) | rfl | (simp only [List.length_drop, List.length_take]; rfl)) ?_; (with_reducible refine (laws_heldDisk.calls kj77 t398 _ _ t420 1 t421 _ ?side1 ?side2 A112.out).mono ?_); (case side1 => repeat (first | exact (Kd.R_reads' HO_404001.out).2.2 | (with_reducible refine Kd.C_alloc ?_ _) | (with_reducible refine Kd.C_drewN ?_ _) | (with_reducible refine Kd.C_drew ?_))); (case side2 => rw [show t420.length = t399.length from (Kd.R_reads' HO_404001.out).1.symm]; exact (Kd.R_reads' HO_404001.out).2.1); rintro e w198 ⟨rfl, hb⟩; refine ⟨_, rfl, ?_⟩; replace HO_390001 := aM (Kd.R_below (xr HO_390001) hb); replace HO_395001 := aM (Kd.R_below (xr HO_395001) hb); replace HO_404001 := aM (Kd.R_below (xr HO_404001) hb); replace BK374 := xbb BK374 hb; replace BK389 := xbb BK389 hb; replace BK394 := xbb BK394 hb; replace BK403 := xbb BK403 hb; replace HB := xbs hb; (try clear hb); (try clear hb2); (try clear hk); (try clear hi)))
             go_ret
             exact ⟨by first | rfl | (simp [errW_none, errW_some] <;> rfl) | (simp [*, errW_none, errW_some] <;> rfl), xbg⟩
       ·replace c75 := Bool.eq_false_iff.mpr c75
        subst c75
        have H1 : (some false) = some r := by rw [if_neg (show ¬ (false = true) by decide)] at H; exact H
        clear H; have H := H1; clear H1
        obtain rfl := Option.some.inj H
        try go_wp2
        replace HO_11 := aM (Kd.R_drew HO_11.out); replace HO_390001 := aM (Kd.R_drew HO_390001.out); replace HO_395001 := aM (Kd.R_drew HO_395001.out); replace HO_404001 := aM (Kd.R_drew HO_404001.out); replace BK374 := aM (blk_drew BK374.out); replace BK389 := aM (blk_drew BK389.out); replace BK394 := aM (blk_drew BK394.out); replace BK403 := aM (blk_drew BK403.out); replace HB := aM (below_drew1 HB.out)
        refine start_ (n := 5) (S := fun w' => w'.cell? ⟨gb394, 0, none⟩ = some (.int .i64 t390) ∧ w'.cell? ⟨gb394, 1, none⟩ = some (.slice Ao40 t391.length co40) ∧ w'.cell? ⟨gb374, 0, none⟩ = some (.int .i64 a0_0) ∧ w'.cell? ⟨gb374, 1, none⟩ = some (.slice A0_1 l0_1.length c0_1)) (ds := []) #[false, false, false, false, false] (by kernel_rfl) rfl rfl ⟨xc BK394 0 rfl, xc BK394 1 rfl, xc BK374 0 rfl, xc BK374 1 rfl⟩ (fun hHeld => ?_)
        generalize wc.drew = w199 at HO_11 HO_390001 HO_395001 HO_404001 BK374 BK389 BK394 BK403 HB hHeld ⊢
        refine take_ (i := 0) (N := some 58) (v := ?_) (a' := ?_) #[true, false, false, false, false] rfl rfl (by kernel_rfl) (fun _ _ _ h => h) (Or.inl ⟨by rfl, ?_⟩) hHeld ?_ ?_
        rotate_left
        ·rintro w' ⟨s0, s1, s2, s3⟩
         go_simp
         with_reducible rfl
        rotate_left
        ·simp only [Act.put, List.setIfInBounds_toArray, List.set_cons_zero, List.set_cons_succ, i64_w, i32_w]
         rfl
        refine take_ (i := 1) (N := some 59) (v := ?_) (a' := ?_) #[true, true, false, false, false] rfl rfl (by kernel_rfl) (fun _ _ _ h => h) (Or.inl ⟨by rfl, ?_⟩) hHeld ?_ ?_
        rotate_left
        ·rintro w' ⟨s0, s1, s2, s3⟩
         go_simp
         with_reducible rfl
        rotate_left
        ·simp only [Act.put, List.setIfInBounds_toArray, List.set_cons_zero, List.set_cons_succ, i64_w, i32_w]
         rfl
        refine one_ (i := 2) (N := some 60) #[true, true, true, false, false] rfl rfl (by kernel_rfl) (by decide) (fun K hK => ?_)
        refine goesY Try.func39 #[.agg #[.int .i64 a0_0, .slice A0_1 l0_1.length c0_1]] ?_
        with_reducible refine (laws_toDisk.calls kj19 a0_0 _ _ l0_1 t405 t406 _ ?side1 ?side2 A70.out).mono ?_
        (case side1 => exact xcb HR0_1)
        (case side2 => exact HC0_1.out)
        rintro e w200 ⟨v407, rfl, ho0, hb⟩
        refine ⟨_, rfl, ?_⟩
        replace HO_11 := aM (Kd.R_below (xr HO_11) hb); have HO408 := aM (Kd.R_lower (Kd.R_new' (Kd.R_new' (Kd.R_new' ho0 (Kd.R_lt (xr HO_390001))) (Kd.R_lt (xr HO_395001))) (Kd.R_lt (xr HO_404001))) (below_size xbg)); replace HO_390001 := aM (Kd.R_elder' (xr HO_390001) (Kd.R_base ho0) hb); replace HO_395001 := aM (Kd.R_elder' (xr HO_395001) (Kd.R_base ho0) hb); replace HO_404001 := aM (Kd.R_elder' (xr HO_404001) (Kd.R_base ho0) hb); replace BK374 := xbb BK374 hb; replace BK389 := xbb BK389 hb; replace BK394 := xbb BK394 hb; replace BK403 := xbb BK403 hb; replace HB := xbs hb
        (try clear hb); (try clear hb2); (try clear hk); (try clear hi); (try clear ho0)
        obtain ⟨Ao201, co201, eo201⟩ := Kd.R_slice HO408.out
        (first | subst eo201 | (injection eo201 with f1_ f2_ f3_; have f4_ := f1_.symm; have f5_ := f3_.symm; clear f1_ f2_ f3_; subst f4_; subst f5_))
        refine hK.out _ _ ⟨xc BK394 0 rfl, xc BK394 1 rfl, xc BK374 0 rfl, xc BK374 1 rfl⟩ (fun hHeld => ?_)
        clear hK K
        refine norm_ (a' := ?_) ?_ ?_
        rotate_left
        ·show Act.put _ (some 60) _ = _
         simp only [Act.put, List.setIfInBounds_toArray, List.set_cons_zero, List.set_cons_succ, i64_w, i32_w]
         rfl
        refine one_ (i := 3) (N := some 61) #[true, true, true, true, false] rfl rfl (by kernel_rfl) (by decide) (fun K hK => ?_)
        refine goesY Try.func41 #[.agg #[.int .i64 t390, .slice Ao40 t391.length co40], .agg #[.int .i64 t405, .slice Ao201 t406.length co201]] ?_
        with_reducible refine (laws_eqDisk.calls kj19 t390 _ _ t391 t405 _ _ t406 true _ ?side1 ?side2 ?side3 ?side4 A71.out).mono ?_
        (case side1 => repeat (first | exact (Kd.R_reads' HO_395001.out).2.2 | (with_reducible refine Kd.C_alloc ?_ _) | (with_reducible refine Kd.C_drewN ?_ _) | (with_reducible refine Kd.C_drew ?_)))
        (case side2 => exact (Kd.R_reads' HO_395001.out).2.1)
        (case side3 => repeat (first | exact (Kd.R_reads' HO408.out).2.2 | (with_reducible refine Kd.C_alloc ?_ _) | (with_reducible refine Kd.C_drewN ?_ _) | (with_reducible refine Kd.C_drew ?_)))
        (case side4 => exact (Kd.R_reads' HO408.out).2.1)
        rintro e w202 ⟨rfl, hb⟩
        refine ⟨_, rfl, ?_⟩
        replace HO_11 := aM (Kd.R_below (xr HO_11) hb); replace HO_390001 := aM (Kd.R_below (xr HO_390001) hb); replace HO_395001 := aM (Kd.R_below (xr HO_395001) hb); replace HO_404001 := aM (Kd.R_below (xr HO_404001) hb); replace HO408 := aM (Kd.R_below (xr HO408) hb); replace BK374 := xbb BK374 hb; replace BK389 := xbb BK389 hb; replace BK394 := xbb BK394 hb; replace BK403 := xbb BK403 hb; replace HB := xbs hb
        (try clear hb); (try clear hb2); (try clear hk); (try clear hi)
        refine hK.out _ _ ⟨xc BK394 0 rfl, xc BK394 1 rfl, xc BK374 0 rfl, xc BK374 1 rfl⟩ (fun hHeld => ?_)
        clear hK K
        refine norm_ (a' := ?_) ?_ ?_
        rotate_left
        ·show Act.put _ (some 61) _ = _
         simp only [Act.put, List.setIfInBounds_toArray, List.set_cons_zero, List.set_cons_succ, i64_w, i32_w]
         rfl
        refine pure_ (i := 4) (N := some 62) (v := ?_) (a' := ?_) #[true, true, true, true, true] rfl rfl (by kernel_rfl) (fun _ _ _ h => h) (Or.inl ⟨by rfl, ?_⟩) ?_ ?_
        rotate_left
        ·intro w'
         go_simp
         with_reducible rfl
        rotate_left
        ·simp only [Act.put, List.setIfInBounds_toArray, List.set_cons_zero, List.set_cons_succ, i64_w, i32_w]
         rfl
        refine done_ (by kernel_rfl) ?_
        try go_wp2_with (first | ((with_reducible refine gate_callee (f := 61) rfl ?_); refine goesL_ (some 65) rfl rfl Try.func61 (by kernel_rfl) rfl #[.slice A2 l2.length c2] rfl (by (try simp only [List.map_toArray, List.map_cons, List.map_nil]); first | done | rfl | (simp only [List.length_drop, List.length_take]; rfl)) ?_; (with_reducible refine (laws_toStringS.calls kj19 _ _ l2 t410 _ ?side1 ?side2 A73.out).mono ?_); (case side1 => exact xcb HR2); (case side2 => exact HC2.out); rintro e w203 ⟨v411, rfl, ho0, hb⟩; refine ⟨_, rfl, ?_⟩; replace HO_390001 := aM (Kd.R_below (xr HO_390001) hb); replace HO_395001 := aM (Kd.R_below (xr HO_395001) hb); replace HO_404001 := aM (Kd.R_below (xr HO_404001) hb); replace HO408 := aM (Kd.R_below (xr HO408) hb); have HO412 := aM (Kd.R_lower (Kd.R_new' ho0 (Kd.R_lt (xr HO_11))) (below_size xbg)); replace HO_11 := aM (Kd.R_elder' (xr HO_11) (Kd.R_base ho0) hb); replace BK374 := xbb BK374 hb; replace BK389 := xbb BK389 hb; replace BK394 := xbb BK394 hb; replace BK403 := xbb BK403 hb; replace HB := xbs hb; (try clear hb); (try clear hb2); (try clear hk); (try clear hi); (try clear ho0); obtain ⟨Ao204, co204, eo204⟩ := Kd.R_slice HO412.out; subst eo204) | ((with_reducible refine gate_callee (f := 63) rfl ?_); refine goesL_ (some 66) rfl rfl Try.func63 (by kernel_rfl) rfl #[.slice Ao43 t395.length co43, .slice Ao204 t410.length co204] rfl (by (try simp only [List.map_toArray, List.map_cons, List.map_nil]); first | done | rfl | (simp only [List.length_drop, List.length_take]; rfl)) ?_; (with_reducible refine (laws_eqStringS.calls kj19 _ _ t395 _ _ t410 false _ ?side1 ?side2 ?side3 ?side4 A74.out).mono ?_); (case side1 => repeat (first | exact (Kd.R_reads' HO_11.out).2.2 | (with_reducible refine Kd.C_alloc ?_ _) | (with_reducible refine Kd.C_drewN ?_ _) | (with_reducible refine Kd.C_drew ?_))); (case side2 => exact (Kd.R_reads' HO_11.out).2.1); (case side3 => repeat (first | exact (Kd.R_reads' HO412.out).2.2 | (with_reducible refine Kd.C_alloc ?_ _) | (with_reducible refine Kd.C_drewN ?_ _) | (with_reducible refine Kd.C_drew ?_))); (case side4 => exact (Kd.R_reads' HO412.out).2.1); rintro e w' ⟨rfl, ⟨nd, rfl⟩⟩; refine ⟨_, rfl, ?_⟩))
        go_ret
        exact ⟨by first | rfl | (simp [errW_none, errW_some] <;> rfl) | (simp [*, errW_none, errW_some] <;> rfl), xbg⟩
      ·replace c72 := Bool.eq_false_iff.mpr c72
       subst c72
       have H1 : (some false) = some r := by rw [if_neg (show ¬ (false = true) by decide)] at H; exact H
       clear H; have H := H1; clear H1
       obtain rfl := Option.some.inj H
       try go_wp2
       replace HO_11 := aM (Kd.R_drew HO_11.out); replace HO_390001 := aM (Kd.R_drew HO_390001.out); replace HO_395001 := aM (Kd.R_drew HO_395001.out); replace HO_404001 := aM (Kd.R_drew HO_404001.out); replace BK374 := aM (blk_drew BK374.out); replace BK389 := aM (blk_drew BK389.out); replace BK394 := aM (blk_drew BK394.out); replace BK403 := aM (blk_drew BK403.out); replace HB := aM (below_drew1 HB.out)
       refine start_ (n := 5) (S := fun w' => w'.cell? ⟨gb394, 0, none⟩ = some (.int .i64 t390) ∧ w'.cell? ⟨gb394, 1, none⟩ = some (.slice Ao40 t391.length co40) ∧ w'.cell? ⟨gb374, 0, none⟩ = some (.int .i64 a0_0) ∧ w'.cell? ⟨gb374, 1, none⟩ = some (.slice A0_1 l0_1.length c0_1)) (ds := []) #[false, false, false, false, false] (by kernel_rfl) rfl rfl ⟨xc BK394 0 rfl, xc BK394 1 rfl, xc BK374 0 rfl, xc BK374 1 rfl⟩ (fun hHeld => ?_)
       generalize wc.drew = w205 at HO_11 HO_390001 HO_395001 HO_404001 BK374 BK389 BK394 BK403 HB hHeld ⊢
       refine take_ (i := 0) (N := some 58) (v := ?_) (a' := ?_) #[true, false, false, false, false] rfl rfl (by kernel_rfl) (fun _ _ _ h => h) (Or.inl ⟨by rfl, ?_⟩) hHeld ?_ ?_
       rotate_left
       ·rintro w' ⟨s0, s1, s2, s3⟩
        go_simp
        with_reducible rfl
       rotate_left
       ·simp only [Act.put, List.setIfInBounds_toArray, List.set_cons_zero, List.set_cons_succ, i64_w, i32_w]
        rfl
       refine take_ (i := 1) (N := some 59) (v := ?_) (a' := ?_) #[true, true, false, false, false] rfl rfl (by kernel_rfl) (fun _ _ _ h => h) (Or.inl ⟨by rfl, ?_⟩) hHeld ?_ ?_
       rotate_left
       ·rintro w' ⟨s0, s1, s2, s3⟩
        go_simp
        with_reducible rfl
       rotate_left
       ·simp only [Act.put, List.setIfInBounds_toArray, List.set_cons_zero, List.set_cons_succ, i64_w, i32_w]
        rfl
       refine one_ (i := 2) (N := some 60) #[true, true, true, false, false] rfl rfl (by kernel_rfl) (by decide) (fun K hK => ?_)
       refine goesY Try.func39 #[.agg #[.int .i64 a0_0, .slice A0_1 l0_1.length c0_1]] ?_
       with_reducible refine (laws_toDisk.calls kj19 a0_0 _ _ l0_1 t405 t406 _ ?side1 ?side2 A70.out).mono ?_
       (case side1 => exact xcb HR0_1)
       (case side2 => exact HC0_1.out)
       rintro e w206 ⟨v407, rfl, ho0, hb⟩
       refine ⟨_, rfl, ?_⟩
       replace HO_11 := aM (Kd.R_below (xr HO_11) hb); have HO408 := aM (Kd.R_lower (Kd.R_new' (Kd.R_new' (Kd.R_new' ho0 (Kd.R_lt (xr HO_390001))) (Kd.R_lt (xr HO_395001))) (Kd.R_lt (xr HO_404001))) (below_size xbg)); replace HO_390001 := aM (Kd.R_elder' (xr HO_390001) (Kd.R_base ho0) hb); replace HO_395001 := aM (Kd.R_elder' (xr HO_395001) (Kd.R_base ho0) hb); replace HO_404001 := aM (Kd.R_elder' (xr HO_404001) (Kd.R_base ho0) hb); replace BK374 := xbb BK374 hb; replace BK389 := xbb BK389 hb; replace BK394 := xbb BK394 hb; replace BK403 := xbb BK403 hb; replace HB := xbs hb
       (try clear hb); (try clear hb2); (try clear hk); (try clear hi); (try clear ho0)
       obtain ⟨Ao207, co207, eo207⟩ := Kd.R_slice HO408.out
       (first | subst eo207 | (injection eo207 with f1_ f2_ f3_; have f4_ := f1_.symm; have f5_ := f3_.symm; clear f1_ f2_ f3_; subst f4_; subst f5_))
       refine hK.out _ _ ⟨xc BK394 0 rfl, xc BK394 1 rfl, xc BK374 0 rfl, xc BK374 1 rfl⟩ (fun hHeld => ?_)
       clear hK K
       refine norm_ (a' := ?_) ?_ ?_
       rotate_left
       ·show Act.put _ (some 60) _ = _
        simp only [Act.put, List.setIfInBounds_toArray, List.set_cons_zero, List.set_cons_succ, i64_w, i32_w]
        rfl
       refine one_ (i := 3) (N := some 61) #[true, true, true, true, false] rfl rfl (by kernel_rfl) (by decide) (fun K hK => ?_)
       refine goesY Try.func41 #[.agg #[.int .i64 t390, .slice Ao40 t391.length co40], .agg #[.int .i64 t405, .slice Ao207 t406.length co207]] ?_
       with_reducible refine (laws_eqDisk.calls kj19 t390 _ _ t391 t405 _ _ t406 false _ ?side1 ?side2 ?side3 ?side4 A71.out).mono ?_
       (case side1 => repeat (first | exact (Kd.R_reads' HO_395001.out).2.2 | (with_reducible refine Kd.C_alloc ?_ _) | (with_reducible refine Kd.C_drewN ?_ _) | (with_reducible refine Kd.C_drew ?_)))
       (case side2 => exact (Kd.R_reads' HO_395001.out).2.1)
       (case side3 => repeat (first | exact (Kd.R_reads' HO408.out).2.2 | (with_reducible refine Kd.C_alloc ?_ _) | (with_reducible refine Kd.C_drewN ?_ _) | (with_reducible refine Kd.C_drew ?_)))
       (case side4 => exact (Kd.R_reads' HO408.out).2.1)
       rintro e w208 ⟨rfl, hb⟩
       refine ⟨_, rfl, ?_⟩
       replace HO_11 := aM (Kd.R_below (xr HO_11) hb); replace HO_390001 := aM (Kd.R_below (xr HO_390001) hb); replace HO_395001 := aM (Kd.R_below (xr HO_395001) hb); replace HO_404001 := aM (Kd.R_below (xr HO_404001) hb); replace HO408 := aM (Kd.R_below (xr HO408) hb); replace BK374 := xbb BK374 hb; replace BK389 := xbb BK389 hb; replace BK394 := xbb BK394 hb; replace BK403 := xbb BK403 hb; replace HB := xbs hb
       (try clear hb); (try clear hb2); (try clear hk); (try clear hi)
       refine hK.out _ _ ⟨xc BK394 0 rfl, xc BK394 1 rfl, xc BK374 0 rfl, xc BK374 1 rfl⟩ (fun hHeld => ?_)
       clear hK K
       refine norm_ (a' := ?_) ?_ ?_
       rotate_left
       ·show Act.put _ (some 61) _ = _
        simp only [Act.put, List.setIfInBounds_toArray, List.set_cons_zero, List.set_cons_succ, i64_w, i32_w]
        rfl
       refine pure_ (i := 4) (N := some 62) (v := ?_) (a' := ?_) #[true, true, true, true, true] rfl rfl (by kernel_rfl) (fun _ _ _ h => h) (Or.inl ⟨by rfl, ?_⟩) ?_ ?_
       rotate_left
       ·intro w'
        go_simp
        with_reducible rfl
       rotate_left
       ·simp only [Act.put, List.setIfInBounds_toArray, List.set_cons_zero, List.set_cons_succ, i64_w, i32_w]
        rfl
       refine done_ (by kernel_rfl) ?_
       try go_wp2
       go_ret
       exact ⟨by first | rfl | (simp [errW_none, errW_some] <;> rfl) | (simp [*, errW_none, errW_some] <;> rfl), xbg⟩

/-- THE ONE PURE STATEMENT of laws_FnExactJournalLate. -/
def Q164 (x : S164) : Prop := (Lit.int .i64 x.f0).wf = true ∧ x.f1.size ≤ 140737488351232 ∧ x.f2.size ≤ 140737488351232
def Q66 (x : S66) : Prop := (Lit.int .i64 x.f0).wf = true ∧ (x.f1.length ≤ maxLen ∧ x.f1.length * 40 ≤ 140737488351232 ∧ ∀ x' ∈ x.f1, Q164 x')
def laws_FnExactJournalLate.Pure : Prop := ∀ (a0_0 : Int) (l0_1 : List (S164)) (a1 : Int) (l2 : List ByteArray), (Lit.int .i64 a0_0).wf = true → l0_1.length ≤ maxLen → l0_1.length * 40 ≤ 140737488351232 → (∀ x ∈ l0_1, Q164 x) → (Lit.int .i64 a1).wf = true → l2.length ≤ maxLen → l2.length * 16 ≤ 140737488351232 → (∀ x ∈ l2, x.size ≤ 140737488351232) → ∃ k, laws_FnExactJournalLate.f k a0_0 l0_1 a1 l2 = some true
theorem laws_FnExactJournalLate.walk (P : laws_FnExactJournalLate.Pure) (a0_0 : Int) (A0_1 : Option Addr) (c0_1 : Nat) (l0_1 : List (S164)) (a1 : Int) (A2 : Option Addr) (c2 : Nat) (l2 : List ByteArray) (w : World) (w0_0 : (Lit.int .i64 a0_0).wf = true) (hr0_1 : Kd.C k164 w A0_1 l0_1.length l0_1) (hc0_1 : l0_1.length ≤ c0_1) (hm0_1 : l0_1.length ≤ maxLen) (hz0_1 : l0_1.length * 40 ≤ 140737488351232) (hw0_1 : ∀ x ∈ l0_1, Q164 x) (w1 : (Lit.int .i64 a1).wf = true) (hr2 : Kd.C Kd.string w A2 l2.length l2) (hc2 : l2.length ≤ c2) (hm2 : l2.length ≤ maxLen) (hz2 : l2.length * 16 ≤ 140737488351232) (hw2 : ∀ x ∈ l2, x.size ≤ 140737488351232) :
 Calls Try.prog 11 #[.agg #[.int .i64 a0_0, .slice A0_1 l0_1.length c0_1], .int .i64 a1, .slice A2 l2.length c2] w fun e w' => e = .returned (.bool true) ∧ Below w.heap.size w w' := by
 obtain ⟨k, h⟩ := P a0_0 l0_1 a1 l2 w0_0 hm0_1 hz0_1 hw0_1 w1 hm2 hz2 hw2
 refine (laws_FnExactJournalLate.calls k a0_0 A0_1 c0_1 l0_1 a1 A2 c2 l2 true w hr0_1 hc0_1 hr2 hc2 h).mono ?_
 rintro e w' ⟨rfl, hd⟩
 exact ⟨rfl, hd⟩

end Go.Proofs.Ytnjpfllmcmomoaa.QFnExactJournalLate
