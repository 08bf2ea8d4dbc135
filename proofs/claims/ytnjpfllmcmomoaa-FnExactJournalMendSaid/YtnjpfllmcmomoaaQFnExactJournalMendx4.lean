-- A walk, by a program of this session.
import Derived.Test.YtnjpfllmcmomoaaQFnExactJournalMendx0
import Derived.Test.YtnjpfllmcmomoaaQFnExactJournalMendx3
namespace Go.Proofs.Ytnjpfllmcmomoaa.QFnExactJournalMend
open Go.RowKit Go.Proofs.YtnjpfllmcmomoaaW.PrintWords Go.Proofs.YtnjpfllmcmomoaaW.PrintLast Go.Proofs.YtnjpfllmcmomoaaW.PrintMore
attribute [local go_sem] max2_int min2_int max_two min_two max_three min_three max_four min_four   -- for this text's walks alone
set_option linter.unusedVariables false
set_option linter.unusedSimpArgs false

/-! ### spec_DiskRead: function 48 -/
def spec_DiskRead.f (k : Nat) (a0_0 : Int) (l0_1 : List (S134)) (a1 : Int) : Option (ByteArray × Bool) := (spec_l3Find.f k a0_0 l0_1 a1).bind fun t163 => ((spec_DiskOk.f k a0_0 l0_1).bind fun t164 => (if t164 = true then (if t163 < 0 then (some ((⟨#[]⟩ : ByteArray), false)) else (if 0 ≤ t163 then (if t163 < (l0_1.length : Int) then (if ((rd_T134 l0_1 t163).f1).size + ((rd_T134 l0_1 t163).f2).size ≤ 9223372036854775807 then (some (((rd_T134 l0_1 t163).f1) ++ ((rd_T134 l0_1 t163).f2), true)) else (none)) else (none)) else (none))) else (some ((⟨#[]⟩ : ByteArray), false))))
theorem spec_DiskRead.mono : ∀ a0 a1 a2 k, LeO (spec_DiskRead.f k a0 a1 a2) (spec_DiskRead.f (k + 1) a0 a1 a2) := by
 intro a0 a1 a2 k
 unfold spec_DiskRead.f
 repeat' first
  | (with_reducible exact spec_DiskOk.mono _ _ _)
  | (with_reducible exact spec_l3Find.mono _ _ _ _)
  | (with_reducible exact LeO.refl _)
  | (with_reducible exact LeO.none _)
  | (with_reducible refine LeO.ite ?_ ?_)
  | (with_reducible refine LeO.bind ?_ (fun _ => ?_))
  | exact spec_DiskOk.mono _ _ _
  | exact spec_l3Find.mono _ _ _ _
  | exact LeO.none _
  | refine LeO.ite ?_ ?_
  | refine LeO.bind ?_ (fun _ => ?_)
set_option maxHeartbeats 8000000 in
set_option maxRecDepth 100000 in
theorem spec_DiskRead.calls (k : Nat) (a0_0 : Int) (A0_1 : Option Addr) (c0_1 : Nat) (l0_1 : List (S134)) (a1 : Int) (r1 : ByteArray) (r2 : Bool) (w : World) (hr0_1 : Kd.C k134 w A0_1 l0_1.length l0_1) (hc0_1 : l0_1.length ≤ c0_1) (h : spec_DiskRead.f k a0_0 l0_1 a1 = some (r1, r2)) :
 Calls Try.prog 48 #[.agg #[.int .i64 a0_0, .slice A0_1 l0_1.length c0_1], .int .i64 a1] w fun e w' => e = .returned (.tuple #[.string r1, .bool r2]) ∧ Below w.heap.size w w' := by
 have hu70 := Try.underlying70
 have HR0_1 := Aside0.mk hr0_1
 have HC0_1 := Aside0.mk hc0_1
 clear hr0_1 hc0_1
 have HB := Aside0.mk (Below.refl w.heap.size w)
 have H : ((spec_l3Find.f k a0_0 l0_1 a1).bind fun t163 => ((spec_DiskOk.f k a0_0 l0_1).bind fun t164 => (if t164 = true then (if t163 < 0 then (some ((⟨#[]⟩ : ByteArray), false)) else (if 0 ≤ t163 then (if t163 < (l0_1.length : Int) then (if ((rd_T134 l0_1 t163).f1).size + ((rd_T134 l0_1 t163).f2).size ≤ 9223372036854775807 then (some (((rd_T134 l0_1 t163).f1) ++ ((rd_T134 l0_1 t163).f2), true)) else (none)) else (none)) else (none))) else (some ((⟨#[]⟩ : ByteArray), false))))) = some (r1, r2) := h
 clear h
 replace H := Option.bind_eq_some_iff.mp H
 obtain ⟨t163, A30, H⟩ := H
 replace H : ((spec_DiskOk.f k a0_0 l0_1).bind fun t164 => (if t164 = true then (if t163 < 0 then (some ((⟨#[]⟩ : ByteArray), false)) else (if 0 ≤ t163 then (if t163 < (l0_1.length : Int) then (if ((rd_T134 l0_1 t163).f1).size + ((rd_T134 l0_1 t163).f2).size ≤ 9223372036854775807 then (some (((rd_T134 l0_1 t163).f1) ++ ((rd_T134 l0_1 t163).f2), true)) else (none)) else (none)) else (none))) else (some ((⟨#[]⟩ : ByteArray), false)))) = some (r1, r2) := H
 have A3 := Aside0.mk A30
 clear A30
 replace H := Option.bind_eq_some_iff.mp H
 obtain ⟨t164, A40, H⟩ := H
 replace H : (if t164 = true then (if t163 < 0 then (some ((⟨#[]⟩ : ByteArray), false)) else (if 0 ≤ t163 then (if t163 < (l0_1.length : Int) then (if ((rd_T134 l0_1 t163).f1).size + ((rd_T134 l0_1 t163).f2).size ≤ 9223372036854775807 then (some (((rd_T134 l0_1 t163).f1) ++ ((rd_T134 l0_1 t163).f2), true)) else (none)) else (none)) else (none))) else (some ((⟨#[]⟩ : ByteArray), false))) = some (r1, r2) := H
 have A4 := Aside0.mk A40
 clear A40
 by_cases c5 : t164 = true
 ·subst c5
  have H1 : (if t163 < 0 then (some ((⟨#[]⟩ : ByteArray), false)) else (if 0 ≤ t163 then (if t163 < (l0_1.length : Int) then (if ((rd_T134 l0_1 t163).f1).size + ((rd_T134 l0_1 t163).f2).size ≤ 9223372036854775807 then (some (((rd_T134 l0_1 t163).f1) ++ ((rd_T134 l0_1 t163).f2), true)) else (none)) else (none)) else (none))) = some (r1, r2) := by rw [if_pos rfl] at H; exact H
  clear H
  have H := H1
  clear H1
  by_cases c6 : t163 < 0
  ·rw [if_pos c6] at H
   have c6b0 : decide (t163 < 0) = true := decide_eq_true c6
   clear c6
   simp only [Option.some.injEq, Prod.mk.injEq] at H
   obtain ⟨rfl, rfl⟩ := H
   go_enter Try.func48, Try.ntmps48
   go_wp2_with (first | ((with_reducible refine gate_dst (N := 2) rfl ?_); refine box_event ?hg (N := 2) ?hd (cs := #[.int .i64 a0_0, .slice A0_1 l0_1.length c0_1]) (t := 70) ?hr ?_; (case hd => rfl); (case hg => rfl); (case hr => first | (go_simp; done) | (go_simp; rfl)); intro gb162 hg w7 hbox hb; have BK162 := Aside0.mk (hbox); have GW162 := Aside0.mk (xge hg); have GE162 := Aside0.mk (xge hg); replace HB := xbs hb; clear hb hbox hg; have hcz8_0 : w7.cell? ⟨gb162, 0, none⟩ = some (.int .i64 a0_0) := (blk_cell BK162.out 0).trans rfl; have hcz8_1 : w7.cell? ⟨gb162, 1, none⟩ = some (.slice A0_1 l0_1.length c0_1) := (blk_cell BK162.out 1).trans rfl; have hfz8_0 := blk_frozen BK162.out 0; have hfz8_1 := blk_frozen BK162.out 1) | (go_at_call 110; (with_reducible refine (spec_l3Find.calls k a0_0 _ _ l0_1 a1 t163 _ ?side1 ?side2 A3.out).mono ?_); (case side1 => exact xcb HR0_1); (case side2 => exact HC0_1.out); rintro e w9 ⟨rfl, hb⟩; replace BK162 := xbb BK162 hb; replace HB := xbs hb; (try clear hb); (try clear hb2); (try clear hk); (try clear hi); have hcz10_0 : w9.cell? ⟨gb162, 0, none⟩ = some (.int .i64 a0_0) := (blk_cell BK162.out 0).trans rfl; have hcz10_1 : w9.cell? ⟨gb162, 1, none⟩ = some (.slice A0_1 l0_1.length c0_1) := (blk_cell BK162.out 1).trans rfl; have hfz10_0 := blk_frozen BK162.out 0; have hfz10_1 := blk_frozen BK162.out 1) | (go_at_call 106; (with_reducible refine (spec_DiskOk.calls k a0_0 _ _ l0_1 true _ ?side1 ?side2 A4.out).mono ?_); (case side1 => exact xcb HR0_1); (case side2 => exact HC0_1.out); rintro e w11 ⟨rfl, hb⟩; replace BK162 := xbb BK162 hb; replace HB := xbs hb; (try clear hb); (try clear hb2); (try clear hk); (try clear hi)))
   repeat (go_quiet (first | ((with_reducible refine gate_dst (N := 2) rfl ?_); refine box_event ?hg (N := 2) ?hd (cs := #[.int .i64 a0_0, .slice A0_1 l0_1.length c0_1]) (t := 70) ?hr ?_; (case hd => rfl); (case hg => rfl); (case hr => first | (go_simp; done) | (go_simp; rfl)); intro gb162 hg w7 hbox hb; have BK162 := Aside0.mk (hbox); have GW162 := Aside0.mk (xge hg); have GE162 := Aside0.mk (xge hg); replace HB := xbs hb; clear hb hbox hg; have hcz8_0 : w7.cell? ⟨gb162, 0, none⟩ = some (.int .i64 a0_0) := (blk_cell BK162.out 0).trans rfl; have hcz8_1 : w7.cell? ⟨gb162, 1, none⟩ = some (.slice A0_1 l0_1.length c0_1) := (blk_cell BK162.out 1).trans rfl; have hfz8_0 := blk_frozen BK162.out 0; have hfz8_1 := blk_frozen BK162.out 1) | (go_at_call 110; (with_reducible refine (spec_l3Find.calls k a0_0 _ _ l0_1 a1 t163 _ ?side1 ?side2 A3.out).mono ?_); (case side1 => exact xcb HR0_1); (case side2 => exact HC0_1.out); rintro e w9 ⟨rfl, hb⟩; replace BK162 := xbb BK162 hb; replace HB := xbs hb; (try clear hb); (try clear hb2); (try clear hk); (try clear hi); have hcz10_0 : w9.cell? ⟨gb162, 0, none⟩ = some (.int .i64 a0_0) := (blk_cell BK162.out 0).trans rfl; have hcz10_1 : w9.cell? ⟨gb162, 1, none⟩ = some (.slice A0_1 l0_1.length c0_1) := (blk_cell BK162.out 1).trans rfl; have hfz10_0 := blk_frozen BK162.out 0; have hfz10_1 := blk_frozen BK162.out 1) | (go_at_call 106; (with_reducible refine (spec_DiskOk.calls k a0_0 _ _ l0_1 true _ ?side1 ?side2 A4.out).mono ?_); (case side1 => exact xcb HR0_1); (case side2 => exact HC0_1.out); rintro e w11 ⟨rfl, hb⟩; replace BK162 := xbb BK162 hb; replace HB := xbs hb; (try clear hb); (try clear hb2); (try clear hk); (try clear hi))); try go_wp2_with (first | ((with_reducible refine gate_dst (N := 2) rfl ?_); refine box_event ?hg (N := 2) ?hd (cs := #[.int .i64 a0_0, .slice A0_1 l0_1.length c0_1]) (t := 70) ?hr ?_; (case hd => rfl); (case hg => rfl); (case hr => first | (go_simp; done) | (go_simp; rfl)); intro gb162 hg w7 hbox hb; have BK162 := Aside0.mk (hbox); have GW162 := Aside0.mk (xge hg); have GE162 := Aside0.mk (xge hg); replace HB := xbs hb; clear hb hbox hg; have hcz8_0 : w7.cell? ⟨gb162, 0, none⟩ = some (.int .i64 a0_0) := (blk_cell BK162.out 0).trans rfl; have hcz8_1 : w7.cell? ⟨gb162, 1, none⟩ = some (.slice A0_1 l0_1.length c0_1) := (blk_cell BK162.out 1).trans rfl; have hfz8_0 := blk_frozen BK162.out 0; have hfz8_1 := blk_frozen BK162.out 1) | (go_at_call 110; (with_reducible refine (spec_l3Find.calls k a0_0 _ _ l0_1 a1 t163 _ ?side1 ?side2 A3.out).mono ?_); (case side1 => exact xcb HR0_1); (case side2 => exact HC0_1.out); rintro e w9 ⟨rfl, hb⟩; replace BK162 := xbb BK162 hb; replace HB := xbs hb; (try clear hb); (try clear hb2); (try clear hk); (try clear hi); have hcz10_0 : w9.cell? ⟨gb162, 0, none⟩ = some (.int .i64 a0_0) := (blk_cell BK162.out 0).trans rfl; have hcz10_1 : w9.cell? ⟨gb162, 1, none⟩ = some (.slice A0_1 l0_1.length c0_1) := (blk_cell BK162.out 1).trans rfl; have hfz10_0 := blk_frozen BK162.out 0; have hfz10_1 := blk_frozen BK162.out 1) | (go_at_call 106; (with_reducible refine (spec_DiskOk.calls k a0_0 _ _ l0_1 true _ ?side1 ?side2 A4.out).mono ?_); (case side1 => exact xcb HR0_1); (case side2 => exact HC0_1.out); rintro e w11 ⟨rfl, hb⟩; replace BK162 := xbb BK162 hb; replace HB := xbs hb; (try clear hb); (try clear hb2); (try clear hk); (try clear hi))))
   go_ret2
   exact ⟨by first | rfl | (simp [errW_none, errW_some] <;> rfl) | (simp [*, errW_none, errW_some] <;> rfl), xbg⟩
  ·rw [if_neg c6] at H
   have c6b0 : decide (t163 < 0) = false := decide_eq_false c6
   clear c6
   by_cases c12 : 0 ≤ t163
   ·rw [if_pos c12] at H
    have c12b0 : decide (0 ≤ t163) = true := decide_eq_true c12
    clear c12
    by_cases c13 : t163 < (l0_1.length : Int)
    ·rw [if_pos c13] at H
     have c13b0 : decide (t163 < (l0_1.length : Int)) = true := decide_eq_true c13
     clear c13
     by_cases c14 : ((rd_T134 l0_1 t163).f1).size + ((rd_T134 l0_1 t163).f2).size ≤ 9223372036854775807
     ·rw [if_pos c14] at H
      have c14b0 := eq_true c14
      have c14b1 : decide (((rd_T134 l0_1 t163).f1).size + ((rd_T134 l0_1 t163).f2).size ≤ 9223372036854775807) = true := decide_eq_true c14
      try have c14b2 : (9223372036854775807 < ((rd_T134 l0_1 t163).f1).size + ((rd_T134 l0_1 t163).f2).size) = False := eq_false (Nat.not_lt.2 c14)
      simp only [Option.some.injEq, Prod.mk.injEq] at H
      obtain ⟨rfl, rfl⟩ := H
      go_enter Try.func48, Try.ntmps48
      go_wp2_with (first | ((with_reducible refine gate_dst (N := 2) rfl ?_); refine box_event ?hg (N := 2) ?hd (cs := #[.int .i64 a0_0, .slice A0_1 l0_1.length c0_1]) (t := 70) ?hr ?_; (case hd => rfl); (case hg => rfl); (case hr => first | (go_simp; done) | (go_simp; rfl)); intro gb162 hg w15 hbox hb; have BK162 := Aside0.mk (hbox); have GW162 := Aside0.mk (xge hg); have GE162 := Aside0.mk (xge hg); replace HB := xbs hb; clear hb hbox hg; have hcz16_0 : w15.cell? ⟨gb162, 0, none⟩ = some (.int .i64 a0_0) := (blk_cell BK162.out 0).trans rfl; have hcz16_1 : w15.cell? ⟨gb162, 1, none⟩ = some (.slice A0_1 l0_1.length c0_1) := (blk_cell BK162.out 1).trans rfl; have hfz16_0 := blk_frozen BK162.out 0; have hfz16_1 := blk_frozen BK162.out 1) | (go_at_call 110; (with_reducible refine (spec_l3Find.calls k a0_0 _ _ l0_1 a1 t163 _ ?side1 ?side2 A3.out).mono ?_); (case side1 => exact xcb HR0_1); (case side2 => exact HC0_1.out); rintro e w17 ⟨rfl, hb⟩; replace BK162 := xbb BK162 hb; replace HB := xbs hb; (try clear hb); (try clear hb2); (try clear hk); (try clear hi); have hcz18_0 : w17.cell? ⟨gb162, 0, none⟩ = some (.int .i64 a0_0) := (blk_cell BK162.out 0).trans rfl; have hcz18_1 : w17.cell? ⟨gb162, 1, none⟩ = some (.slice A0_1 l0_1.length c0_1) := (blk_cell BK162.out 1).trans rfl; have hfz18_0 := blk_frozen BK162.out 0; have hfz18_1 := blk_frozen BK162.out 1) | (go_at_call 106; (with_reducible refine (spec_DiskOk.calls k a0_0 _ _ l0_1 true _ ?side1 ?side2 A4.out).mono ?_); (case side1 => exact xcb HR0_1); (case side2 => exact HC0_1.out); rintro e w19 ⟨rfl, hb⟩; replace BK162 := xbb BK162 hb; replace HB := xbs hb; (try clear hb); (try clear hb2); (try clear hk); (try clear hi); have hcz20_0 : w19.cell? ⟨gb162, 0, none⟩ = some (.int .i64 a0_0) := (blk_cell BK162.out 0).trans rfl; have hcz20_1 : w19.cell? ⟨gb162, 1, none⟩ = some (.slice A0_1 l0_1.length c0_1) := (blk_cell BK162.out 1).trans rfl; have hfz20_0 := blk_frozen BK162.out 0; have hfz20_1 := blk_frozen BK162.out 1; have p165 : 0 ≤ (t163 : Int) := of_decide_eq_true (by first | (with_reducible assumption) | assumption); have q165 : t163 < (l0_1.length : Int) := of_decide_eq_true (by first | (with_reducible assumption) | assumption); obtain ⟨ad165, e165, hx165_0, hx165_1, hx165_2⟩ := at_T134 HR0_1.out t163 p165 q165; cases e165; replace hx165_0 := xce HB hx165_0; replace hx165_1 := xce HB hx165_1; replace hx165_2 := xce HB hx165_2; replace p165 := eq_true p165; replace q165 := eq_true q165; have p166 : 0 ≤ (t163 : Int) := of_decide_eq_true (by first | (with_reducible assumption) | assumption); have q166 : t163 < (l0_1.length : Int) := of_decide_eq_true (by first | (with_reducible assumption) | assumption); obtain ⟨ad166, e166, hx166_0, hx166_1, hx166_2⟩ := at_T134 HR0_1.out t163 p166 q166; obtain rfl : ad165 = ad166 := (by injection e166); replace hx166_0 := xce HB hx166_0; replace hx166_1 := xce HB hx166_1; replace hx166_2 := xce HB hx166_2; replace p166 := eq_true p166; replace q166 := eq_true q166))
      repeat (go_quiet (first | ((with_reducible refine gate_dst (N := 2) rfl ?_); refine box_event ?hg (N := 2) ?hd (cs := #[.int .i64 a0_0, .slice A0_1 l0_1.length c0_1]) (t := 70) ?hr ?_; (case hd => rfl); (case hg => rfl); (case hr => first | (go_simp; done) | (go_simp; rfl)); intro gb162 hg w15 hbox hb; have BK162 := Aside0.mk (hbox); have GW162 := Aside0.mk (xge hg); have GE162 := Aside0.mk (xge hg); replace HB := xbs hb; clear hb hbox hg; have hcz16_0 : w15.cell? ⟨gb162, 0, none⟩ = some (.int .i64 a0_0) := (blk_cell BK162.out 0).trans rfl; have hcz16_1 : w15.cell? ⟨gb162, 1, none⟩ = some (.slice A0_1 l0_1.length c0_1) := (blk_cell BK162.out 1).trans rfl; have hfz16_0 := blk_frozen BK162.out 0; have hfz16_1 := blk_frozen BK162.out 1) | (go_at_call 110; (with_reducible refine (spec_l3Find.calls k a0_0 _ _ l0_1 a1 t163 _ ?side1 ?side2 A3.out).mono ?_); (case side1 => exact xcb HR0_1); (case side2 => exact HC0_1.out); rintro e w17 ⟨rfl, hb⟩; replace BK162 := xbb BK162 hb; replace HB := xbs hb; (try clear hb); (try clear hb2); (try clear hk); (try clear hi); have hcz18_0 : w17.cell? ⟨gb162, 0, none⟩ = some (.int .i64 a0_0) := (blk_cell BK162.out 0).trans rfl; have hcz18_1 : w17.cell? ⟨gb162, 1, none⟩ = some (.slice A0_1 l0_1.length c0_1) := (blk_cell BK162.out 1).trans rfl; have hfz18_0 := blk_frozen BK162.out 0; have hfz18_1 := blk_frozen BK162.out 1) | (go_at_call 106; (with_reducible refine (spec_DiskOk.calls k a0_0 _ _ l0_1 true _ ?side1 ?side2 A4.out).mono ?_); (case side1 => exact xcb HR0_1); (case side2 => exact HC0_1.out); rintro e w19 ⟨rfl, hb⟩; replace BK162 := xbb BK162 hb; replace HB := xbs hb; (try clear hb); (try clear hb2); (try clear hk); (try clear hi); have hcz20_0 : w19.cell? ⟨gb162, 0, none⟩ = some (.int .i64 a0_0) := (blk_cell BK162.out 0).trans rfl; have hcz20_1 : w19.cell? ⟨gb162, 1, none⟩ = some (.slice A0_1 l0_1.length c0_1) := (blk_cell BK162.out 1).trans rfl; have hfz20_0 := blk_frozen BK162.out 0; have hfz20_1 := blk_frozen BK162.out 1; have p165 : 0 ≤ (t163 : Int) := of_decide_eq_true (by first | (with_reducible assumption) | assumption); have q165 : t163 < (l0_1.length : Int) := of_decide_eq_true (by first | (with_reducible assumption) | assumption); obtain ⟨ad165, e165, hx165_0, hx165_1, hx165_2⟩ := at_T134 HR0_1.out t163 p165 q165; cases e165; replace hx165_0 := xce HB hx165_0; replace hx165_1 := xce HB hx165_1; replace hx165_2 := xce HB hx165_2; replace p165 := eq_true p165; replace q165 := eq_true q165; have p166 : 0 ≤ (t163 : Int) := of_decide_eq_true (by first | (with_reducible assumption) | assumption); have q166 : t163 < (l0_1.length : Int) := of_decide_eq_true (by first | (with_reducible assumption) | assumption); obtain ⟨ad166, e166, hx166_0, hx166_1, hx166_2⟩ := at_T134 HR0_1.out t163 p166 q166; obtain rfl : ad165 = ad166 := (by injection e166); replace hx166_0 := xce HB hx166_0; replace hx166_1 := xce HB hx166_1; replace hx166_2 := xce HB hx166_2; replace p166 := eq_true p166; replace q166 := eq_true q166)); try go_wp2_with (first | ((with_reducible refine gate_dst (N := 2) rfl ?_); refine box_event ?hg (N := 2) ?hd (cs := #[.int .i64 a0_0, .slice A0_1 l0_1.length c0_1]) (t := 70) ?hr ?_; (case hd => rfl); (case hg => rfl); (case hr => first | (go_simp; done) | (go_simp; rfl)); intro gb162 hg w15 hbox hb; have BK162 := Aside0.mk (hbox); have GW162 := Aside0.mk (xge hg); have GE162 := Aside0.mk (xge hg); replace HB := xbs hb; clear hb hbox hg; have hcz16_0 : w15.cell? ⟨gb162, 0, none⟩ = some (.int .i64 a0_0) := (blk_cell BK162.out 0).trans rfl; have hcz16_1 : w15.cell? ⟨gb162, 1, none⟩ = some (.slice A0_1 l0_1.length c0_1) := (blk_cell BK162.out 1).trans rfl; have hfz16_0 := blk_frozen BK162.out 0; have hfz16_1 := blk_frozen BK162.out 1) | (go_at_call 110; (with_reducible refine (spec_l3Find.calls k a0_0 _ _ l0_1 a1 t163 _ ?side1 ?side2 A3.out).mono ?_); (case side1 => exact xcb HR0_1); (case side2 => exact HC0_1.out); rintro e w17 ⟨rfl, hb⟩; replace BK162 := xbb BK162 hb; replace HB := xbs hb; (try clear hb); (try clear hb2); (try clear hk); (try clear hi); have hcz18_0 : w17.cell? ⟨gb162, 0, none⟩ = some (.int .i64 a0_0) := (blk_cell BK162.out 0).trans rfl; have hcz18_1 : w17.cell? ⟨gb162, 1, none⟩ = some (.slice A0_1 l0_1.length c0_1) := (blk_cell BK162.out 1).trans rfl; have hfz18_0 := blk_frozen BK162.out 0; have hfz18_1 := blk_frozen BK162.out 1) | (go_at_call 106; (with_reducible refine (spec_DiskOk.calls k a0_0 _ _ l0_1 true _ ?side1 ?side2 A4.out).mono ?_); (case side1 => exact xcb HR0_1); (case side2 => exact HC0_1.out); rintro e w19 ⟨rfl, hb⟩; replace BK162 := xbb BK162 hb; replace HB := xbs hb; (try clear hb); (try clear hb2); (try clear hk); (try clear hi); have hcz20_0 : w19.cell? ⟨gb162, 0, none⟩ = some (.int .i64 a0_0) := (blk_cell BK162.out 0).trans rfl; have hcz20_1 : w19.cell? ⟨gb162, 1, none⟩ = some (.slice A0_1 l0_1.length c0_1) := (blk_cell BK162.out 1).trans rfl; have hfz20_0 := blk_frozen BK162.out 0; have hfz20_1 := blk_frozen BK162.out 1; have p165 : 0 ≤ (t163 : Int) := of_decide_eq_true (by first | (with_reducible assumption) | assumption); have q165 : t163 < (l0_1.length : Int) := of_decide_eq_true (by first | (with_reducible assumption) | assumption); obtain ⟨ad165, e165, hx165_0, hx165_1, hx165_2⟩ := at_T134 HR0_1.out t163 p165 q165; cases e165; replace hx165_0 := xce HB hx165_0; replace hx165_1 := xce HB hx165_1; replace hx165_2 := xce HB hx165_2; replace p165 := eq_true p165; replace q165 := eq_true q165; have p166 : 0 ≤ (t163 : Int) := of_decide_eq_true (by first | (with_reducible assumption) | assumption); have q166 : t163 < (l0_1.length : Int) := of_decide_eq_true (by first | (with_reducible assumption) | assumption); obtain ⟨ad166, e166, hx166_0, hx166_1, hx166_2⟩ := at_T134 HR0_1.out t163 p166 q166; obtain rfl : ad165 = ad166 := (by injection e166); replace hx166_0 := xce HB hx166_0; replace hx166_1 := xce HB hx166_1; replace hx166_2 := xce HB hx166_2; replace p166 := eq_true p166; replace q166 := eq_true q166)))
      go_ret2
      exact ⟨by first | rfl | (simp [errW_none, errW_some] <;> rfl) | (simp [*, errW_none, errW_some] <;> rfl), xbg⟩
     ·rw [if_neg c14] at H
      exact absurd H (by simp)
    ·rw [if_neg c13] at H
     exact absurd H (by simp)
   ·rw [if_neg c12] at H
    exact absurd H (by simp)
 ·replace c5 := Bool.eq_false_iff.mpr c5
  subst c5
  have H1 : (some ((⟨#[]⟩ : ByteArray), false)) = some (r1, r2) := by rw [if_neg (show ¬ (false = true) by decide)] at H; exact H
  clear H
  have H := H1
  clear H1
  simp only [Option.some.injEq, Prod.mk.injEq] at H
  obtain ⟨rfl, rfl⟩ := H
  go_enter Try.func48, Try.ntmps48
  go_wp2_with (first | ((with_reducible refine gate_dst (N := 2) rfl ?_); refine box_event ?hg (N := 2) ?hd (cs := #[.int .i64 a0_0, .slice A0_1 l0_1.length c0_1]) (t := 70) ?hr ?_; (case hd => rfl); (case hg => rfl); (case hr => first | (go_simp; done) | (go_simp; rfl)); intro gb162 hg w21 hbox hb; have BK162 := Aside0.mk (hbox); have GW162 := Aside0.mk (xge hg); have GE162 := Aside0.mk (xge hg); replace HB := xbs hb; clear hb hbox hg; have hcz22_0 : w21.cell? ⟨gb162, 0, none⟩ = some (.int .i64 a0_0) := (blk_cell BK162.out 0).trans rfl; have hcz22_1 : w21.cell? ⟨gb162, 1, none⟩ = some (.slice A0_1 l0_1.length c0_1) := (blk_cell BK162.out 1).trans rfl; have hfz22_0 := blk_frozen BK162.out 0; have hfz22_1 := blk_frozen BK162.out 1) | (go_at_call 110; (with_reducible refine (spec_l3Find.calls k a0_0 _ _ l0_1 a1 t163 _ ?side1 ?side2 A3.out).mono ?_); (case side1 => exact xcb HR0_1); (case side2 => exact HC0_1.out); rintro e w23 ⟨rfl, hb⟩; replace BK162 := xbb BK162 hb; replace HB := xbs hb; (try clear hb); (try clear hb2); (try clear hk); (try clear hi); have hcz24_0 : w23.cell? ⟨gb162, 0, none⟩ = some (.int .i64 a0_0) := (blk_cell BK162.out 0).trans rfl; have hcz24_1 : w23.cell? ⟨gb162, 1, none⟩ = some (.slice A0_1 l0_1.length c0_1) := (blk_cell BK162.out 1).trans rfl; have hfz24_0 := blk_frozen BK162.out 0; have hfz24_1 := blk_frozen BK162.out 1) | (go_at_call 106; (with_reducible refine (spec_DiskOk.calls k a0_0 _ _ l0_1 false _ ?side1 ?side2 A4.out).mono ?_); (case side1 => exact xcb HR0_1); (case side2 => exact HC0_1.out); rintro e w25 ⟨rfl, hb⟩; replace BK162 := xbb BK162 hb; replace HB := xbs hb; (try clear hb); (try clear hb2); (try clear hk); (try clear hi)))
  repeat (go_quiet (first | ((with_reducible refine gate_dst (N := 2) rfl ?_); refine box_event ?hg (N := 2) ?hd (cs := #[.int .i64 a0_0, .slice A0_1 l0_1.length c0_1]) (t := 70) ?hr ?_; (case hd => rfl); (case hg => rfl); (case hr => first | (go_simp; done) | (go_simp; rfl)); intro gb162 hg w21 hbox hb; have BK162 := Aside0.mk (hbox); have GW162 := Aside0.mk (xge hg); have GE162 := Aside0.mk (xge hg); replace HB := xbs hb; clear hb hbox hg; have hcz22_0 : w21.cell? ⟨gb162, 0, none⟩ = some (.int .i64 a0_0) := (blk_cell BK162.out 0).trans rfl; have hcz22_1 : w21.cell? ⟨gb162, 1, none⟩ = some (.slice A0_1 l0_1.length c0_1) := (blk_cell BK162.out 1).trans rfl; have hfz22_0 := blk_frozen BK162.out 0; have hfz22_1 := blk_frozen BK162.out 1) | (go_at_call 110; (with_reducible refine (spec_l3Find.calls k a0_0 _ _ l0_1 a1 t163 _ ?side1 ?side2 A3.out).mono ?_); (case side1 => exact xcb HR0_1); (case side2 => exact HC0_1.out); rintro e w23 ⟨rfl, hb⟩; replace BK162 := xbb BK162 hb; replace HB := xbs hb; (try clear hb); (try clear hb2); (try clear hk); (try clear hi); have hcz24_0 : w23.cell? ⟨gb162, 0, none⟩ = some (.int .i64 a0_0) := (blk_cell BK162.out 0).trans rfl; have hcz24_1 : w23.cell? ⟨gb162, 1, none⟩ = some (.slice A0_1 l0_1.length c0_1) := (blk_cell BK162.out 1).trans rfl; have hfz24_0 := blk_frozen BK162.out 0; have hfz24_1 := blk_frozen BK162.out 1) | (go_at_call 106; (with_reducible refine (spec_DiskOk.calls k a0_0 _ _ l0_1 false _ ?side1 ?side2 A4.out).mono ?_); (case side1 => exact xcb HR0_1); (case side2 => exact HC0_1.out); rintro e w25 ⟨rfl, hb⟩; replace BK162 := xbb BK162 hb; replace HB := xbs hb; (try clear hb); (try clear hb2); (try clear hk); (try clear hi))); try go_wp2_with (first | ((with_reducible refine gate_dst (N := 2) rfl ?_); refine box_event ?hg (N := 2) ?hd (cs := #[.int .i64 a0_0, .slice A0_1 l0_1.length c0_1]) (t := 70) ?hr ?_; (case hd => rfl); (case hg => rfl); (case hr => first | (go_simp; done) | (go_simp; rfl)); intro gb162 hg w21 hbox hb; have BK162 := Aside0.mk (hbox); have GW162 := Aside0.mk (xge hg); have GE162 := Aside0.mk (xge hg); replace HB := xbs hb; clear hb hbox hg; have hcz22_0 : w21.cell? ⟨gb162, 0, none⟩ = some (.int .i64 a0_0) := (blk_cell BK162.out 0).trans rfl; have hcz22_1 : w21.cell? ⟨gb162, 1, none⟩ = some (.slice A0_1 l0_1.length c0_1) := (blk_cell BK162.out 1).trans rfl; have hfz22_0 := blk_frozen BK162.out 0; have hfz22_1 := blk_frozen BK162.out 1) | (go_at_call 110; (with_reducible refine (spec_l3Find.calls k a0_0 _ _ l0_1 a1 t163 _ ?side1 ?side2 A3.out).mono ?_); (case side1 => exact xcb HR0_1); (case side2 => exact HC0_1.out); rintro e w23 ⟨rfl, hb⟩; replace BK162 := xbb BK162 hb; replace HB := xbs hb; (try clear hb); (try clear hb2); (try clear hk); (try clear hi); have hcz24_0 : w23.cell? ⟨gb162, 0, none⟩ = some (.int .i64 a0_0) := (blk_cell BK162.out 0).trans rfl; have hcz24_1 : w23.cell? ⟨gb162, 1, none⟩ = some (.slice A0_1 l0_1.length c0_1) := (blk_cell BK162.out 1).trans rfl; have hfz24_0 := blk_frozen BK162.out 0; have hfz24_1 := blk_frozen BK162.out 1) | (go_at_call 106; (with_reducible refine (spec_DiskOk.calls k a0_0 _ _ l0_1 false _ ?side1 ?side2 A4.out).mono ?_); (case side1 => exact xcb HR0_1); (case side2 => exact HC0_1.out); rintro e w25 ⟨rfl, hb⟩; replace BK162 := xbb BK162 hb; replace HB := xbs hb; (try clear hb); (try clear hb2); (try clear hk); (try clear hi))))
  go_ret2
  exact ⟨by first | rfl | (simp [errW_none, errW_some] <;> rfl) | (simp [*, errW_none, errW_some] <;> rfl), xbg⟩

/-! ### spec_GetNum: function 92 -/
mutual
def spec_GetNum.j0 : Nat → List Int → Int → Bool → Option (Int × Int × Bool)
 | 0, _, _, _ => none
 | k + 1, x0, x1, x18 => if x18 = true then (some (0, 0, false)) else (spec_GetNum.l0 k x0 x1 0 1 0)
def spec_GetNum.l0 : Nat → List Int → Int → Int → Int → Int → Option (Int × Int × Bool)
 | 0, _, _, _, _, _ => none
 | k + 1, x0, x1, x7, x8, x9 => if x9 < 9 then (spec_GetNum.j2 k x0 x1 x7 x8 x9 (decide ((wrap64 (x1 + x9)) < (x0.length : Int)))) else (spec_GetNum.j2 k x0 x1 x7 x8 x9 false)
def spec_GetNum.j2 : Nat → List Int → Int → Int → Int → Int → Bool → Option (Int × Int × Bool)
 | 0, _, _, _, _, _, _ => none
 | k + 1, x0, x1, x7, x8, x9, x28 => if x28 = true then (if 0 ≤ (wrap64 (x1 + x9)) then (if (wrap64 (x1 + x9)) < (x0.length : Int) then (if (wrap64 (rd x0 (wrap64 (x1 + x9)))) < 128 then (if (wrap64 (rd x0 (wrap64 (x1 + x9)))) = 0 then (if x9 > 0 then (some (0, 0, false)) else (some (wrap64 (x7 + (wrap64 ((Int.tmod (wrap64 (rd x0 (wrap64 (x1 + x9)))) 128) * x8))), wrap64 ((wrap64 (x1 + x9)) + 1), true))) else (some (wrap64 (x7 + (wrap64 ((Int.tmod (wrap64 (rd x0 (wrap64 (x1 + x9)))) 128) * x8))), wrap64 ((wrap64 (x1 + x9)) + 1), true))) else (spec_GetNum.l0 k x0 x1 (wrap64 (x7 + (wrap64 ((Int.tmod (wrap64 (rd x0 (wrap64 (x1 + x9)))) 128) * x8)))) (wrap64 (x8 * 128)) (wrap64 (x9 + 1)))) else (none)) else (none)) else (some (0, 0, false))
end
def spec_GetNum.f (k : Nat) (l0 : List Int) (a1 : Int) : Option (Int × Int × Bool) := if a1 < 0 then (spec_GetNum.j0 k l0 a1 true) else (spec_GetNum.j0 k l0 a1 (decide (a1 ≥ (l0.length : Int))))
set_option maxRecDepth 100000 in
theorem spec_GetNum.mono_l : ∀ k, (∀ y0 y1 y2, LeO (spec_GetNum.j0 k y0 y1 y2) (spec_GetNum.j0 (k + 1) y0 y1 y2)) ∧ (∀ y0 y1 y2 y3 y4, LeO (spec_GetNum.l0 k y0 y1 y2 y3 y4) (spec_GetNum.l0 (k + 1) y0 y1 y2 y3 y4)) ∧ (∀ y0 y1 y2 y3 y4 y5, LeO (spec_GetNum.j2 k y0 y1 y2 y3 y4 y5) (spec_GetNum.j2 (k + 1) y0 y1 y2 y3 y4 y5))
 | 0 => ⟨fun _ _ _ r h => by simp [spec_GetNum.j0] at h, fun _ _ _ _ _ r h => by simp [spec_GetNum.l0] at h, fun _ _ _ _ _ _ r h => by simp [spec_GetNum.j2] at h⟩
 | k + 1 => by
  obtain ⟨ih0, ih1, ih2⟩ := spec_GetNum.mono_l k
  refine ⟨?_, ?_, ?_⟩
  ·intro y0 y1 y2
   unfold spec_GetNum.j0
   repeat' first
   | (with_reducible exact ih0 _ _ _)
   | (with_reducible exact ih1 _ _ _ _ _)
   | (with_reducible exact ih2 _ _ _ _ _ _)
   | (with_reducible exact LeO.refl _)
   | (with_reducible exact LeO.none _)
   | (with_reducible refine LeO.ite ?_ ?_)
   | (with_reducible refine LeO.bind ?_ (fun _ => ?_))
   | exact ih0 _ _ _
   | exact ih1 _ _ _ _ _
   | exact ih2 _ _ _ _ _ _
   | exact LeO.none _
   | refine LeO.ite ?_ ?_
   | refine LeO.bind ?_ (fun _ => ?_)
  ·intro y0 y1 y2 y3 y4
   unfold spec_GetNum.l0
   repeat' first
   | (with_reducible exact ih0 _ _ _)
   | (with_reducible exact ih1 _ _ _ _ _)
   | (with_reducible exact ih2 _ _ _ _ _ _)
   | (with_reducible exact LeO.refl _)
   | (with_reducible exact LeO.none _)
   | (with_reducible refine LeO.ite ?_ ?_)
   | (with_reducible refine LeO.bind ?_ (fun _ => ?_))
   | exact ih0 _ _ _
   | exact ih1 _ _ _ _ _
   | exact ih2 _ _ _ _ _ _
   | exact LeO.none _
   | refine LeO.ite ?_ ?_
   | refine LeO.bind ?_ (fun _ => ?_)
  ·intro y0 y1 y2 y3 y4 y5
   unfold spec_GetNum.j2
   repeat' first
   | (with_reducible exact ih0 _ _ _)
   | (with_reducible exact ih1 _ _ _ _ _)
   | (with_reducible exact ih2 _ _ _ _ _ _)
   | (with_reducible exact LeO.refl _)
   | (with_reducible exact LeO.none _)
   | (with_reducible refine LeO.ite ?_ ?_)
   | (with_reducible refine LeO.bind ?_ (fun _ => ?_))
   | exact ih0 _ _ _
   | exact ih1 _ _ _ _ _
   | exact ih2 _ _ _ _ _ _
   | exact LeO.none _
   | refine LeO.ite ?_ ?_
   | refine LeO.bind ?_ (fun _ => ?_)
theorem spec_GetNum.mono : ∀ a0 a1 k, LeO (spec_GetNum.f k a0 a1) (spec_GetNum.f (k + 1) a0 a1) := by
 intro a0 a1 k
 obtain ⟨ih0, ih1, ih2⟩ := spec_GetNum.mono_l k
 unfold spec_GetNum.f
 repeat' first
  | (with_reducible exact ih0 _ _ _)
  | (with_reducible exact ih1 _ _ _ _ _)
  | (with_reducible exact ih2 _ _ _ _ _ _)
  | (with_reducible exact LeO.refl _)
  | (with_reducible exact LeO.none _)
  | (with_reducible refine LeO.ite ?_ ?_)
  | (with_reducible refine LeO.bind ?_ (fun _ => ?_))
  | exact ih0 _ _ _
  | exact ih1 _ _ _ _ _
  | exact ih2 _ _ _ _ _ _
  | exact LeO.none _
  | refine LeO.ite ?_ ?_
  | refine LeO.bind ?_ (fun _ => ?_)
set_option maxHeartbeats 8000000 in
set_option maxRecDepth 100000 in
theorem spec_GetNum.calls (k : Nat) (A0 : Option Addr) (c0 : Nat) (l0 : List Int) (a1 : Int) (r1 : Int) (r2 : Int) (r3 : Bool) (w : World) (hr0 : Kd.C (Kd.int .u8) w A0 l0.length l0) (hc0 : l0.length ≤ c0) (h : spec_GetNum.f k l0 a1 = some (r1, r2, r3)) :
 Calls Try.prog 92 #[.slice A0 l0.length c0, .int .i64 a1] w fun e w' => e = .returned (.tuple #[.int .i64 r1, .int .i64 r2, .bool r3]) ∧ Drawn0 w w' := by
 have HR0 := Aside0.mk hr0
 have HC0 := Aside0.mk hc0
 clear hr0 hc0
 have H : (if a1 < 0 then (spec_GetNum.j0 k l0 a1 true) else (spec_GetNum.j0 k l0 a1 (decide (a1 ≥ (l0.length : Int))))) = some (r1, r2, r3) := h
 clear h
 have HC3 := Aside0.mk H
 clear H
 go_enter Try.func92, Try.ntmps92
 go_upto_region 1 with (fail)
 go_cut [18] (fun v18 wc => ∃ (kq : Nat) (x18_2 : Bool), v18 = .bool x18_2 ∧ Aside0 (spec_GetNum.j0 kq l0 a1 x18_2 = some (r1, r2, r3)) ∧ Aside0 (kq ≤ k) ∧ Drawn0 w wc)
 case first =>
  have H := HC3.out
  clear HC3
  by_cases c4 : a1 < 0
  ·rw [if_pos c4] at H
   have c4b0 : decide (a1 < 0) = true := decide_eq_true c4
   clear c4
   (first | rw [c4b0] | (simp only [i64_w, i32_w]; rw [c4b0]) | skip)
   have H' := Aside0.mk H
   clear H
   go_wp2
   go_meet
   case rel => exact ⟨_, (true), (by first | rfl | (simp; done) | (simp [*]; done)), H', ⟨by first | omega | exact Nat.le_refl _⟩, by repeat (first | exact Drawn0.refl _ | apply Drawn0.step)⟩
  ·rw [if_neg c4] at H
   have c4b0 : decide (a1 < 0) = false := decide_eq_false c4
   clear c4
   (first | rw [c4b0] | (simp only [i64_w, i32_w]; rw [c4b0]) | skip)
   have H' := Aside0.mk H
   clear H
   go_wp2
   go_meet
   case rel => exact ⟨_, (decide (a1 ≥ (l0.length : Int))), (by first | rfl | (simp; done) | (simp [*]; done)), H', ⟨by first | omega | exact Nat.le_refl _⟩, by repeat (first | exact Drawn0.refl _ | apply Drawn0.step)⟩
 case rest =>
  clear HC3
  try clear p2
  try clear c4
  try clear c4b0
  obtain ⟨kq, x18_2, rfl, HA, HJ2, ⟨mc2, rfl⟩⟩ := hcut
  cases kq with
  | zero => exact absurd HA.out (by simp [spec_GetNum.j0])
  | succ kj2 =>
   have H := HA.out
   clear HA
   simp only [spec_GetNum.j0] at H
   by_cases c5 : x18_2 = true
   ·subst c5
    have H1 : (some (0, 0, false)) = some (r1, r2, r3) := by rw [if_pos rfl] at H; exact H
    clear H
    have H := H1
    clear H1
    simp only [Option.some.injEq, Prod.mk.injEq] at H
    obtain ⟨rfl, rfl, rfl⟩ := H
    go_wp2
    go_ret3
    exact ⟨by first | rfl | (simp; done) | (simp [*]; done), by repeat (first | exact Drawn0.refl _ | apply Drawn0.step)⟩
   ·replace c5 := Bool.eq_false_iff.mpr c5
    subst c5
    have H1 : (spec_GetNum.l0 kj2 l0 a1 0 1 0) = some (r1, r2, r3) := by rw [if_neg (show ¬ (false = true) by decide)] at H; exact H
    clear H
    have H := H1
    clear H1
    have H' := Aside0.mk H
    clear H
    go_wp2
    go_loopg [7, 8, 9] kj2 (fun kq v7 v8 v9 w' => ∃ (x7_2 : Int) (x8_2 : Int) (x9_2 : Int), v7 = .int .i64 x7_2 ∧ v8 = .int .i64 x8_2 ∧ v9 = .int .i64 x9_2 ∧ Aside0 (spec_GetNum.l0 kq l0 a1 x7_2 x8_2 x9_2 = some (r1, r2, r3)) ∧ Aside0 (kq ≤ kj2) ∧ Drawn0 w w')
    case atStart => exact ⟨(0), (1), (0), (by first | rfl | (simp; done) | (simp [*]; done)), (by first | rfl | (simp; done) | (simp [*]; done)), (by first | rfl | (simp; done) | (simp [*]; done)), H', ⟨Nat.le_refl _⟩, by repeat (first | exact Drawn0.refl _ | apply Drawn0.step)⟩
    case round =>
     clear H'
     try clear c2
     try clear p2
     try clear c4
     try clear c4b0
     try clear c5
     try clear p2
     obtain ⟨x7_2, x8_2, x9_2, rfl, rfl, rfl, HA, HK2, ⟨m2, rfl⟩⟩ := hrel
     cases gk with
     | zero => exact absurd HA.out (by simp [spec_GetNum.l0])
     | succ k2 =>
      have H := HA.out
      clear HA
      simp only [spec_GetNum.l0] at H
      have HC6 := Aside0.mk H
      clear H
      go_upto_region 6 with (fail)
      go_cut [28] (fun v28 wc => ∃ (kq : Nat) (x28_5 : Bool), v28 = .bool x28_5 ∧ Aside0 (spec_GetNum.j2 kq l0 a1 x7_2 x8_2 x9_2 x28_5 = some (r1, r2, r3)) ∧ Aside0 (kq ≤ k2) ∧ Drawn0 w wc)
      case first =>
       have H := HC6.out
       clear HC6
       by_cases c7 : x9_2 < 9
       ·rw [if_pos c7] at H
        have c7b0 : decide (x9_2 < 9) = true := decide_eq_true c7
        clear c7
        (first | rw [c7b0] | (simp only [i64_w, i32_w]; rw [c7b0]) | skip)
        have H' := Aside0.mk H
        clear H
        go_wp2
        go_meet
        case rel => exact ⟨_, (decide ((wrap64 (a1 + x9_2)) < (l0.length : Int))), (by first | rfl | (simp; done) | (simp [*]; done)), H', ⟨by have := HJ2.out; have := HK2.out; first | omega | exact Nat.le_refl _⟩, by repeat (first | exact Drawn0.refl _ | apply Drawn0.step)⟩
       ·rw [if_neg c7] at H
        have c7b0 : decide (x9_2 < 9) = false := decide_eq_false c7
        clear c7
        (first | rw [c7b0] | (simp only [i64_w, i32_w]; rw [c7b0]) | skip)
        have H' := Aside0.mk H
        clear H
        go_wp2
        go_meet
        case rel => exact ⟨_, (false), (by first | rfl | (simp; done) | (simp [*]; done)), H', ⟨by have := HJ2.out; have := HK2.out; first | omega | exact Nat.le_refl _⟩, by repeat (first | exact Drawn0.refl _ | apply Drawn0.step)⟩
      case rest =>
       clear HC6
       try clear c2
       try clear p2
       try clear c4
       try clear c4b0
       try clear c5
       try clear p6
       try clear c7
       try clear c7b0
       try clear p2
       obtain ⟨kq, x28_5, rfl, HA, HJ5, ⟨mc5, rfl⟩⟩ := hcut
       cases kq with
       | zero => exact absurd HA.out (by simp [spec_GetNum.j2])
       | succ kj5 =>
        have H := HA.out
        clear HA
        simp only [spec_GetNum.j2] at H
        by_cases c8 : x28_5 = true
        ·subst c8
         have H1 : (if 0 ≤ (wrap64 (a1 + x9_2)) then (if (wrap64 (a1 + x9_2)) < (l0.length : Int) then (if (wrap64 (rd l0 (wrap64 (a1 + x9_2)))) < 128 then (if (wrap64 (rd l0 (wrap64 (a1 + x9_2)))) = 0 then (if x9_2 > 0 then (some (0, 0, false)) else (some (wrap64 (x7_2 + (wrap64 ((Int.tmod (wrap64 (rd l0 (wrap64 (a1 + x9_2)))) 128) * x8_2))), wrap64 ((wrap64 (a1 + x9_2)) + 1), true))) else (some (wrap64 (x7_2 + (wrap64 ((Int.tmod (wrap64 (rd l0 (wrap64 (a1 + x9_2)))) 128) * x8_2))), wrap64 ((wrap64 (a1 + x9_2)) + 1), true))) else (spec_GetNum.l0 kj5 l0 a1 (wrap64 (x7_2 + (wrap64 ((Int.tmod (wrap64 (rd l0 (wrap64 (a1 + x9_2)))) 128) * x8_2)))) (wrap64 (x8_2 * 128)) (wrap64 (x9_2 + 1)))) else (none)) else (none)) = some (r1, r2, r3) := by rw [if_pos rfl] at H; exact H
         clear H
         have H := H1
         clear H1
         obtain ⟨ji9, hji9⟩ : ∃ j_ : Int, (wrap64 (a1 + x9_2)) = j_ := ⟨_, rfl⟩
         replace H : (if 0 ≤ (ji9) then (if (ji9) < (l0.length : Int) then (if (wrap64 (rd l0 (ji9))) < 128 then (if (wrap64 (rd l0 (ji9))) = 0 then (if x9_2 > 0 then (some (0, 0, false)) else (some (wrap64 (x7_2 + (wrap64 ((Int.tmod (wrap64 (rd l0 (ji9))) 128) * x8_2))), wrap64 ((ji9) + 1), true))) else (some (wrap64 (x7_2 + (wrap64 ((Int.tmod (wrap64 (rd l0 (ji9))) 128) * x8_2))), wrap64 ((ji9) + 1), true))) else (spec_GetNum.l0 kj5 l0 a1 (wrap64 (x7_2 + (wrap64 ((Int.tmod (wrap64 (rd l0 (ji9))) 128) * x8_2)))) (wrap64 (x8_2 * 128)) (wrap64 (x9_2 + 1)))) else (none)) else (none)) = some (r1, r2, r3) := by first | (rw [hji9] at H; exact H) | (simp only [hji9] at H ⊢; exact H)
         have hji9w : (IntKind.i64.wrap (a1 + x9_2)) = ji9 := (i64_w _).trans hji9
         by_cases c10 : 0 ≤ (ji9)
         ·rw [if_pos c10] at H
          have c10b0 : decide (0 ≤ (ji9)) = true := decide_eq_true c10
          clear c10
          by_cases c11 : (ji9) < (l0.length : Int)
          ·rw [if_pos c11] at H
           have c11b0 : decide ((ji9) < (l0.length : Int)) = true := decide_eq_true c11
           clear c11
           by_cases c12 : (wrap64 (rd l0 (ji9))) < 128
           ·rw [if_pos c12] at H
            have c12b0 : decide ((wrap64 (rd l0 (ji9))) < 128) = true := decide_eq_true c12
            clear c12
            by_cases c13 : (wrap64 (rd l0 (ji9))) = 0
            ·rw [if_pos c13] at H
             have c13b0 : ((wrap64 (rd l0 (ji9))) == 0) = true := beq_iff_eq.mpr c13
             have c13b1 : ((wrap64 (rd l0 (ji9))) != 0) = false := bne_eq_false_iff_eq.mpr c13
             clear c13
             by_cases c14 : x9_2 > 0
             ·rw [if_pos c14] at H
              have c14b0 : decide (0 < x9_2) = true := decide_eq_true c14
              clear c14
              simp only [Option.some.injEq, Prod.mk.injEq] at H
              obtain ⟨rfl, rfl, rfl⟩ := H
              have p167 : 0 ≤ ((ji9) : Int) := of_decide_eq_true (by first | (with_reducible assumption) | assumption)
              have q167 : (ji9) < (l0.length : Int) := of_decide_eq_true (by first | (with_reducible assumption) | assumption)
              obtain ⟨ad167, e167, hx167_0⟩ := Kd.at_int HR0.out (ji9) p167 q167
              cases e167
              replace p167 := eq_true p167
              replace q167 := eq_true q167
              go_wp2
              go_ret3
              exact ⟨by first | rfl | (simp; done) | (simp only [← hji9] <;> (first | rfl | simp)) | (simp [*]; done), by repeat (first | exact Drawn0.refl _ | apply Drawn0.step)⟩
             ·rw [if_neg c14] at H
              have c14b0 : decide (0 < x9_2) = false := decide_eq_false c14
              clear c14
              simp only [Option.some.injEq, Prod.mk.injEq] at H
              obtain ⟨rfl, rfl, rfl⟩ := H
              have p167 : 0 ≤ ((ji9) : Int) := of_decide_eq_true (by first | (with_reducible assumption) | assumption)
              have q167 : (ji9) < (l0.length : Int) := of_decide_eq_true (by first | (with_reducible assumption) | assumption)
              obtain ⟨ad167, e167, hx167_0⟩ := Kd.at_int HR0.out (ji9) p167 q167
              cases e167
              replace p167 := eq_true p167
              replace q167 := eq_true q167
              go_wp2
              go_ret3
              exact ⟨by first | rfl | (simp; done) | (simp only [← hji9] <;> (first | rfl | simp)) | (simp [*]; done), by repeat (first | exact Drawn0.refl _ | apply Drawn0.step)⟩
            ·rw [if_neg c13] at H
             have c13b0 : ((wrap64 (rd l0 (ji9))) == 0) = false := beq_eq_false_iff_ne.mpr c13
             have c13b1 : ((wrap64 (rd l0 (ji9))) != 0) = true := bne_iff_ne.mpr c13
             simp only [Option.some.injEq, Prod.mk.injEq] at H
             obtain ⟨rfl, rfl, rfl⟩ := H
             have p167 : 0 ≤ ((ji9) : Int) := of_decide_eq_true (by first | (with_reducible assumption) | assumption)
             have q167 : (ji9) < (l0.length : Int) := of_decide_eq_true (by first | (with_reducible assumption) | assumption)
             obtain ⟨ad167, e167, hx167_0⟩ := Kd.at_int HR0.out (ji9) p167 q167
             cases e167
             replace p167 := eq_true p167
             replace q167 := eq_true q167
             go_wp2
             go_ret3
             exact ⟨by first | rfl | (simp; done) | (simp only [← hji9] <;> (first | rfl | simp)) | (simp [*]; done), by repeat (first | exact Drawn0.refl _ | apply Drawn0.step)⟩
           ·rw [if_neg c12] at H
            have c12b0 : decide ((wrap64 (rd l0 (ji9))) < 128) = false := decide_eq_false c12
            clear c12
            have H' := Aside0.mk H
            clear H
            have p167 : 0 ≤ ((ji9) : Int) := of_decide_eq_true (by first | (with_reducible assumption) | assumption)
            have q167 : (ji9) < (l0.length : Int) := of_decide_eq_true (by first | (with_reducible assumption) | assumption)
            obtain ⟨ad167, e167, hx167_0⟩ := Kd.at_int HR0.out (ji9) p167 q167
            cases e167
            replace p167 := eq_true p167
            replace q167 := eq_true q167
            go_wp2
            go_roundg kj5
            case measure => have := HJ2.out; have := HK2.out; have := HJ5.out; omega
            case rel => exact ⟨(wrap64 (x7_2 + (wrap64 ((Int.tmod (wrap64 (rd l0 (ji9))) 128) * x8_2)))), (wrap64 (x8_2 * 128)), (wrap64 (x9_2 + 1)), (by first | rfl | (simp; done) | (simp only [← hji9] <;> (first | rfl | simp)) | (simp [*]; done)), (by first | rfl | (simp; done) | (simp [*]; done)), (by first | rfl | (simp; done) | (simp [*]; done)), H', ⟨by have := HJ2.out; have := HK2.out; have := HJ5.out; omega⟩, by repeat (first | exact Drawn0.refl _ | apply Drawn0.step)⟩
          ·rw [if_neg c11] at H
           exact absurd H (by simp)
         ·rw [if_neg c10] at H
          exact absurd H (by simp)
        ·replace c8 := Bool.eq_false_iff.mpr c8
         subst c8
         have H1 : (some (0, 0, false)) = some (r1, r2, r3) := by rw [if_neg (show ¬ (false = true) by decide)] at H; exact H
         clear H
         have H := H1
         clear H1
         simp only [Option.some.injEq, Prod.mk.injEq] at H
         obtain ⟨rfl, rfl, rfl⟩ := H
         go_wp2
         go_ret3
         exact ⟨by first | rfl | (simp; done) | (simp [*]; done), by repeat (first | exact Drawn0.refl _ | apply Drawn0.step)⟩

/-! ### spec_Sum: function 171 -/
def spec_Sum.l0 : Nat → List Int → Int → Int → Int → Option (Int)
 | 0, _, _, _, _ => none
 | k + 1, x0, x3, x4, x5 => if x5 < (x0.length : Int) then (if 0 ≤ x5 then (spec_Sum.l0 k x0 (Int.tmod (wrap64 (x3 + (wrap64 (rd x0 x5)))) 65521) (Int.tmod (wrap64 (x4 + (Int.tmod (wrap64 (x3 + (wrap64 (rd x0 x5)))) 65521))) 65521) (wrap64 (x5 + 1))) else (none)) else (some (wrap64 ((wrap64 (65536 * x4)) + x3)))
def spec_Sum.f (k : Nat) (l0 : List Int) : Option (Int) := spec_Sum.l0 k l0 1 0 0
set_option maxRecDepth 100000 in
theorem spec_Sum.mono_l : ∀ k, (∀ y0 y1 y2 y3, LeO (spec_Sum.l0 k y0 y1 y2 y3) (spec_Sum.l0 (k + 1) y0 y1 y2 y3))
 | 0 => fun _ _ _ _ r h => by simp [spec_Sum.l0] at h
 | k + 1 => by
  have ih0 := spec_Sum.mono_l k
  ·intro y0 y1 y2 y3
   unfold spec_Sum.l0
   repeat' first
   | (with_reducible exact ih0 _ _ _ _)
   | (with_reducible exact LeO.refl _)
   | (with_reducible exact LeO.none _)
   | (with_reducible refine LeO.ite ?_ ?_)
   | (with_reducible refine LeO.bind ?_ (fun _ => ?_))
   | exact ih0 _ _ _ _
   | exact LeO.none _
   | refine LeO.ite ?_ ?_
   | refine LeO.bind ?_ (fun _ => ?_)
theorem spec_Sum.mono : ∀ a0 k, LeO (spec_Sum.f k a0) (spec_Sum.f (k + 1) a0) := by
 intro a0 k
 have ih0 := spec_Sum.mono_l k
 unfold spec_Sum.f
 repeat' first
  | (with_reducible exact ih0 _ _ _ _)
  | (with_reducible exact LeO.refl _)
  | (with_reducible exact LeO.none _)
  | (with_reducible refine LeO.ite ?_ ?_)
  | (with_reducible refine LeO.bind ?_ (fun _ => ?_))
  | exact ih0 _ _ _ _
  | exact LeO.none _
  | refine LeO.ite ?_ ?_
  | refine LeO.bind ?_ (fun _ => ?_)
set_option maxHeartbeats 8000000 in
set_option maxRecDepth 100000 in
theorem spec_Sum.calls (k : Nat) (A0 : Option Addr) (c0 : Nat) (l0 : List Int) (r : Int) (w : World) (hr0 : Kd.C (Kd.int .u8) w A0 l0.length l0) (hc0 : l0.length ≤ c0) (h : spec_Sum.f k l0 = some r) :
 Calls Try.prog 171 #[.slice A0 l0.length c0] w fun e w' => e = .returned (.int .i64 r) ∧ Drawn0 w w' := by
 have HR0 := Aside0.mk hr0
 have HC0 := Aside0.mk hc0
 clear hr0 hc0
 have H : (spec_Sum.l0 k l0 1 0 0) = some r := h
 clear h
 have H' := Aside0.mk H
 clear H
 go_enter Try.func171, Try.ntmps171
 go_wp2
 go_loopg [3, 4, 5] k (fun kq v3 v4 v5 w' => ∃ (x3_1 : Int) (x4_1 : Int) (x5_1 : Int), v3 = .int .i64 x3_1 ∧ v4 = .int .i64 x4_1 ∧ v5 = .int .i64 x5_1 ∧ Aside0 (spec_Sum.l0 kq l0 x3_1 x4_1 x5_1 = some r) ∧ Aside0 (kq ≤ k) ∧ Drawn0 w w')
 case atStart => exact ⟨(1), (0), (0), (by first | rfl | (simp; done) | (simp [*]; done)), (by first | rfl | (simp; done) | (simp [*]; done)), (by first | rfl | (simp; done) | (simp [*]; done)), H', ⟨Nat.le_refl _⟩, by repeat (first | exact Drawn0.refl _ | apply Drawn0.step)⟩
 case round =>
  clear H'
  try clear c1
  obtain ⟨x3_1, x4_1, x5_1, rfl, rfl, rfl, HA, HK1, ⟨m1, rfl⟩⟩ := hrel
  cases gk with
  | zero => exact absurd HA.out (by simp [spec_Sum.l0])
  | succ k1 =>
   have H := HA.out
   clear HA
   simp only [spec_Sum.l0] at H
   by_cases c2 : x5_1 < (l0.length : Int)
   ·rw [if_pos c2] at H
    have c2b0 : decide (x5_1 < (l0.length : Int)) = true := decide_eq_true c2
    clear c2
    by_cases c3 : 0 ≤ x5_1
    ·rw [if_pos c3] at H
     have c3b0 : decide (0 ≤ x5_1) = true := decide_eq_true c3
     clear c3
     have H' := Aside0.mk H
     clear H
     have p168 : 0 ≤ (x5_1 : Int) := of_decide_eq_true (by first | (with_reducible assumption) | assumption)
     have q168 : x5_1 < (l0.length : Int) := of_decide_eq_true (by first | (with_reducible assumption) | assumption)
     obtain ⟨ad168, e168, hx168_0⟩ := Kd.at_int HR0.out x5_1 p168 q168
     cases e168
     replace p168 := eq_true p168
     replace q168 := eq_true q168
     go_wp2
     go_roundg k1
     case measure => have := HK1.out; omega
     case rel => exact ⟨(Int.tmod (wrap64 (x3_1 + (wrap64 (rd l0 x5_1)))) 65521), (Int.tmod (wrap64 (x4_1 + (Int.tmod (wrap64 (x3_1 + (wrap64 (rd l0 x5_1)))) 65521))) 65521), (wrap64 (x5_1 + 1)), (by first | rfl | (simp; done) | (simp [*]; done)), (by first | rfl | (simp; done) | (simp [*]; done)), (by first | rfl | (simp; done) | (simp [*]; done)), H', ⟨by have := HK1.out; omega⟩, by repeat (first | exact Drawn0.refl _ | apply Drawn0.step)⟩
    ·rw [if_neg c3] at H
     exact absurd H (by simp)
   ·rw [if_neg c2] at H
    have c2b0 : decide (x5_1 < (l0.length : Int)) = false := decide_eq_false c2
    clear c2
    obtain rfl := Option.some.inj H
    go_wp2
    go_ret
    exact ⟨by first | rfl | (simp; done) | (simp [*]; done), by repeat (first | exact Drawn0.refl _ | apply Drawn0.step)⟩

/-! ### spec_Unseal: function 160 -/
def spec_Unseal.j0 : Nat → List Int → Int → Int → Bool → Option (List Int × Int × Int)
 | 0, _, _, _, _ => none
 | k + 1, x0, x7, x8, x24 => if x24 = true then (some ((([] : List Int)), 0, 1)) else (if (wrap64 ((x0.length : Int) - x8)) < (wrap64 (x7 + 4)) then (some ((([] : List Int)), 0, 2)) else ((some (([] : List Int) : List Int)).bind fun y178 => (if 0 ≤ x8 then (if x8 ≤ (wrap64 (x8 + x7)) then (if (wrap64 (x8 + x7)) ≤ (x0.length : Int) then (if y178.length + ((x0.take ((wrap64 (x8 + x7)) : Int).toNat).drop (x8 : Int).toNat).length < 140737488355328 then ((some (y178 ++ ((x0.take ((wrap64 (x8 + x7)) : Int).toNat).drop (x8 : Int).toNat) : List Int)).bind fun y182 => (if 0 ≤ (wrap64 (x8 + x7)) then (if (wrap64 (x8 + x7)) ≤ (wrap64 ((wrap64 (x8 + x7)) + 4)) then (if (wrap64 ((wrap64 (x8 + x7)) + 4)) ≤ (x0.length : Int) then ((spec_Sum.f k y182).bind fun t186 => (if 0 < (((x0.take ((wrap64 ((wrap64 (x8 + x7)) + 4)) : Int).toNat).drop ((wrap64 (x8 + x7)) : Int).toNat).length : Int) then (if 1 < (((x0.take ((wrap64 ((wrap64 (x8 + x7)) + 4)) : Int).toNat).drop ((wrap64 (x8 + x7)) : Int).toNat).length : Int) then (if 2 < (((x0.take ((wrap64 ((wrap64 (x8 + x7)) + 4)) : Int).toNat).drop ((wrap64 (x8 + x7)) : Int).toNat).length : Int) then (if 3 < (((x0.take ((wrap64 ((wrap64 (x8 + x7)) + 4)) : Int).toNat).drop ((wrap64 (x8 + x7)) : Int).toNat).length : Int) then (if t186 = (wrap64 ((wrap64 ((wrap64 ((wrap64 (rd ((x0.take ((wrap64 ((wrap64 (x8 + x7)) + 4)) : Int).toNat).drop ((wrap64 (x8 + x7)) : Int).toNat) 0)) + (wrap64 ((wrap64 (rd ((x0.take ((wrap64 ((wrap64 (x8 + x7)) + 4)) : Int).toNat).drop ((wrap64 (x8 + x7)) : Int).toNat) 1)) * 256)))) + (wrap64 ((wrap64 (rd ((x0.take ((wrap64 ((wrap64 (x8 + x7)) + 4)) : Int).toNat).drop ((wrap64 (x8 + x7)) : Int).toNat) 2)) * 65536)))) + (wrap64 ((wrap64 (rd ((x0.take ((wrap64 ((wrap64 (x8 + x7)) + 4)) : Int).toNat).drop ((wrap64 (x8 + x7)) : Int).toNat) 3)) * 16777216)))) then (some (y182, wrap64 ((wrap64 (x8 + x7)) + 4), 0)) else (some ((([] : List Int)), 0, 3))) else (none)) else (none)) else (none)) else (none))) else (none)) else (none)) else (none))) else (none)) else (none)) else (none)) else (none))))
def spec_Unseal.f (k : Nat) (l0 : List Int) (a1 : Int) : Option (List Int × Int × Int) := (spec_GetNum.f k l0 a1).bind fun bt169 => (if bt169.2.2 = true then (spec_Unseal.j0 k l0 bt169.1 bt169.2.1 (decide (bt169.1 > 3000))) else (spec_Unseal.j0 k l0 bt169.1 bt169.2.1 true))
set_option maxRecDepth 100000 in
theorem spec_Unseal.mono_l : ∀ k, (∀ y0 y1 y2 y3, LeO (spec_Unseal.j0 k y0 y1 y2 y3) (spec_Unseal.j0 (k + 1) y0 y1 y2 y3))
 | 0 => fun _ _ _ _ r h => by simp [spec_Unseal.j0] at h
 | k + 1 => by
  have ih0 := spec_Unseal.mono_l k
  ·intro y0 y1 y2 y3
   unfold spec_Unseal.j0
   repeat' first
   | (with_reducible exact ih0 _ _ _ _)
   | (with_reducible exact spec_GetNum.mono _ _ _)
   | (with_reducible exact spec_Sum.mono _ _)
   | (with_reducible exact LeO.refl _)
   | (with_reducible exact LeO.none _)
   | (with_reducible refine LeO.ite ?_ ?_)
   | (with_reducible refine LeO.bind ?_ (fun _ => ?_))
   | exact ih0 _ _ _ _
   | exact spec_GetNum.mono _ _ _
   | exact spec_Sum.mono _ _
   | exact LeO.none _
   | refine LeO.ite ?_ ?_
   | refine LeO.bind ?_ (fun _ => ?_)
theorem spec_Unseal.mono : ∀ a0 a1 k, LeO (spec_Unseal.f k a0 a1) (spec_Unseal.f (k + 1) a0 a1) := by
 intro a0 a1 k
 have ih0 := spec_Unseal.mono_l k
 unfold spec_Unseal.f
 repeat' first
  | (with_reducible exact ih0 _ _ _ _)
  | (with_reducible exact spec_GetNum.mono _ _ _)
  | (with_reducible exact spec_Sum.mono _ _)
  | (with_reducible exact LeO.refl _)
  | (with_reducible exact LeO.none _)
  | (with_reducible refine LeO.ite ?_ ?_)
  | (with_reducible refine LeO.bind ?_ (fun _ => ?_))
  | exact ih0 _ _ _ _
  | exact spec_GetNum.mono _ _ _
  | exact spec_Sum.mono _ _
  | exact LeO.none _
  | refine LeO.ite ?_ ?_
  | refine LeO.bind ?_ (fun _ => ?_)
set_option maxHeartbeats 8000000 in
set_option maxRecDepth 100000 in
theorem spec_Unseal.calls (k : Nat) (A0 : Option Addr) (c0 : Nat) (l0 : List Int) (a1 : Int) (r1 : List Int) (r2 : Int) (r3 : Int) (w : World) (hr0 : Kd.C (Kd.int .u8) w A0 l0.length l0) (hc0 : l0.length ≤ c0) (h : spec_Unseal.f k l0 a1 = some (r1, r2, r3)) :
 Calls Try.prog 160 #[.slice A0 l0.length c0, .int .i64 a1] w fun e w' => ∃ v0_ : Value, e = .returned (.tuple #[v0_, .int .i64 r2, .int .i64 r3]) ∧ Kd.R (Kd.int .u8) 5 w' w.heap.size (fun _ => True) v0_ r1 ∧ Below w.heap.size w w' := by
 have HR0 := Aside0.mk hr0
 have HC0 := Aside0.mk hc0
 clear hr0 hc0
 have HB := Aside0.mk (Below.refl w.heap.size w)
 have H : ((spec_GetNum.f k l0 a1).bind fun bt169 => (if bt169.2.2 = true then (spec_Unseal.j0 k l0 bt169.1 bt169.2.1 (decide (bt169.1 > 3000))) else (spec_Unseal.j0 k l0 bt169.1 bt169.2.1 true))) = some (r1, r2, r3) := h
 clear h
 replace H := Option.bind_eq_some_iff.mp H
 obtain ⟨⟨t169, t170, t171⟩, A30, H⟩ := H
 replace H : (if t171 = true then (spec_Unseal.j0 k l0 t169 t170 (decide (t169 > 3000))) else (spec_Unseal.j0 k l0 t169 t170 true)) = some (r1, r2, r3) := H
 have A3 := Aside0.mk A30
 clear A30
 have HC4 := Aside0.mk H
 clear H
 go_enter Try.func160, Try.ntmps160
 go_upto_region 2 with (first | (go_at_call 92; (with_reducible refine (spec_GetNum.calls k _ _ l0 a1 t169 t170 t171 _ ?side1 ?side2 A3.out).mono ?_); (case side1 => repeat (first | exact HR0.out | (with_reducible refine Kd.C_alloc ?_ _) | (with_reducible refine Kd.C_drewN ?_ _) | (with_reducible refine Kd.C_drew ?_))); (case side2 => exact HC0.out); rintro e w' ⟨rfl, ⟨nd, rfl⟩⟩; (try first | exact ⟨rfl, _, World.drewN_drewN _ _ _⟩ | exact ⟨rfl, _, Eq.trans (World.drewN_drewN _ _ _) (congrArg (World.drewN _) (Nat.add_assoc _ _ _))⟩)))
 repeat (go_quiet (first | (go_at_call 92; (with_reducible refine (spec_GetNum.calls k _ _ l0 a1 t169 t170 t171 _ ?side1 ?side2 A3.out).mono ?_); (case side1 => repeat (first | exact HR0.out | (with_reducible refine Kd.C_alloc ?_ _) | (with_reducible refine Kd.C_drewN ?_ _) | (with_reducible refine Kd.C_drew ?_))); (case side2 => exact HC0.out); rintro e w' ⟨rfl, ⟨nd, rfl⟩⟩; (try first | exact ⟨rfl, _, World.drewN_drewN _ _ _⟩ | exact ⟨rfl, _, Eq.trans (World.drewN_drewN _ _ _) (congrArg (World.drewN _) (Nat.add_assoc _ _ _))⟩))); go_upto_region 2 with (first | (go_at_call 92; (with_reducible refine (spec_GetNum.calls k _ _ l0 a1 t169 t170 t171 _ ?side1 ?side2 A3.out).mono ?_); (case side1 => repeat (first | exact HR0.out | (with_reducible refine Kd.C_alloc ?_ _) | (with_reducible refine Kd.C_drewN ?_ _) | (with_reducible refine Kd.C_drew ?_))); (case side2 => exact HC0.out); rintro e w' ⟨rfl, ⟨nd, rfl⟩⟩; (try first | exact ⟨rfl, _, World.drewN_drewN _ _ _⟩ | exact ⟨rfl, _, Eq.trans (World.drewN_drewN _ _ _) (congrArg (World.drewN _) (Nat.add_assoc _ _ _))⟩))))
 (try simp only [Act.put, List.setIfInBounds_toArray, List.set_cons_zero, List.set_cons_succ])
 go_cut [24] (fun v24 wc => ∃ (kq : Nat) (x24_3 : Bool), v24 = .bool x24_3 ∧ Aside0 (spec_Unseal.j0 kq l0 t169 t170 x24_3 = some (r1, r2, r3)) ∧ Aside0 (kq ≤ k) ∧ Aside0 (Below w.heap.size w wc))
 case first =>
  have H := HC4.out
  clear HC4
  by_cases c5 : t171 = true
  ·subst c5
   have H1 : (spec_Unseal.j0 k l0 t169 t170 (decide (t169 > 3000))) = some (r1, r2, r3) := by rw [if_pos rfl] at H; exact H
   clear H
   have H := H1
   clear H1
   have H' := Aside0.mk H
   clear H
   go_wp2
   repeat (go_quiet (fail); try go_wp2)
   go_meet
   case rel => exact ⟨_, (decide (t169 > 3000)), (by first | rfl | (simp; done) | (simp [*]; done)), H', ⟨by first | omega | exact Nat.le_refl _⟩, ⟨xbel⟩⟩
  ·replace c5 := Bool.eq_false_iff.mpr c5
   subst c5
   have H1 : (spec_Unseal.j0 k l0 t169 t170 true) = some (r1, r2, r3) := by rw [if_neg (show ¬ (false = true) by decide)] at H; exact H
   clear H
   have H := H1
   clear H1
   have H' := Aside0.mk H
   clear H
   go_wp2
   repeat (go_quiet (fail); try go_wp2)
   go_meet
   case rel => exact ⟨_, (true), (by first | rfl | (simp; done) | (simp [*]; done)), H', ⟨by first | omega | exact Nat.le_refl _⟩, ⟨xbel⟩⟩
 case rest =>
  clear HC4
  try clear c1
  try clear p2
  try clear c5
  obtain ⟨kq, x24_3, rfl, HA, HJ3, HB⟩ := hcut
  cases kq with
  | zero => exact absurd HA.out (by simp [spec_Unseal.j0])
  | succ kj3 =>
   have H := HA.out
   clear HA
   simp only [spec_Unseal.j0] at H
   by_cases c6 : x24_3 = true
   ·subst c6
    have H1 : (some ((([] : List Int)), 0, 1)) = some (r1, r2, r3) := by rw [if_pos rfl] at H; exact H
    clear H
    have H := H1
    clear H1
    obtain ⟨y172, hy172⟩ : ∃ y_ : List Int, y_ = (([] : List Int)) := ⟨_, rfl⟩
    replace H : (some (y172, 0, 1)) = some (r1, r2, r3) := by first | (rw [hy172]; with_reducible exact H) | (have H2_ := (Option.bind_some _ _).symm.trans H; rw [hy172]; with_reducible exact H2_) | (have H2_ := (Option.bind_some _ _).symm.trans H; with_reducible exact H2_) | with_reducible exact H | (rw [hy172]; exact H) | exact H
    have Ny172 := Aside0.mk hy172
    clear hy172
    simp only [Option.some.injEq, Prod.mk.injEq] at H
    obtain ⟨rfl, rfl, rfl⟩ := H
    go_wp2_with (first | ((with_reducible refine gate_dst (N := 25) rfl ?_); refine Kd.R_lit (Kd.int .u8) _ 5 ?hg (N := 25) ?hd (xs := ([] : List Int)) (inner := []) (ok := fun _ => True) (okp := fun _ => True) ?hr ?hp (fun _ hk => hk) trivial (Below.refl _ _) (Nat.le_refl _) (by simp) ?_; (case hd => rfl); (case hg => rfl); (case hr => first | (go_simp; done) | (go_simp; rfl)); (case hp => exact (Reps.none _ _)); intro v173 w7 ho8 hb hg_ hnew_; clear hg_ hnew_; (first | rw [← Ny172.out] at ho8 | (simp only [Int.reduceToNat] at ho8; rw [← Ny172.out] at ho8)); have HO174 := Aside0.mk (Kd.R_lower ho8 (below_size xbel)); replace HB := xbs hb; clear hb ho8))
    repeat (go_quiet (first | ((with_reducible refine gate_dst (N := 25) rfl ?_); refine Kd.R_lit (Kd.int .u8) _ 5 ?hg (N := 25) ?hd (xs := ([] : List Int)) (inner := []) (ok := fun _ => True) (okp := fun _ => True) ?hr ?hp (fun _ hk => hk) trivial (Below.refl _ _) (Nat.le_refl _) (by simp) ?_; (case hd => rfl); (case hg => rfl); (case hr => first | (go_simp; done) | (go_simp; rfl)); (case hp => exact (Reps.none _ _)); intro v173 w7 ho8 hb hg_ hnew_; clear hg_ hnew_; (first | rw [← Ny172.out] at ho8 | (simp only [Int.reduceToNat] at ho8; rw [← Ny172.out] at ho8)); have HO174 := Aside0.mk (Kd.R_lower ho8 (below_size xbel)); replace HB := xbs hb; clear hb ho8)); try go_wp2_with (first | ((with_reducible refine gate_dst (N := 25) rfl ?_); refine Kd.R_lit (Kd.int .u8) _ 5 ?hg (N := 25) ?hd (xs := ([] : List Int)) (inner := []) (ok := fun _ => True) (okp := fun _ => True) ?hr ?hp (fun _ hk => hk) trivial (Below.refl _ _) (Nat.le_refl _) (by simp) ?_; (case hd => rfl); (case hg => rfl); (case hr => first | (go_simp; done) | (go_simp; rfl)); (case hp => exact (Reps.none _ _)); intro v173 w7 ho8 hb hg_ hnew_; clear hg_ hnew_; (first | rw [← Ny172.out] at ho8 | (simp only [Int.reduceToNat] at ho8; rw [← Ny172.out] at ho8)); have HO174 := Aside0.mk (Kd.R_lower ho8 (below_size xbel)); replace HB := xbs hb; clear hb ho8)))
    go_ret3
    exact ⟨_, by first | rfl | (simp [errW_none, errW_some] <;> rfl) | (simp [*, errW_none, errW_some] <;> rfl), by (with_reducible repeat (first | apply Kd.R_alloc | apply Kd.R_drewN | apply Kd.R_drew)); exact HO174.out, xbel⟩
   ·replace c6 := Bool.eq_false_iff.mpr c6
    subst c6
    have H1 : (if (wrap64 ((l0.length : Int) - t170)) < (wrap64 (t169 + 4)) then (some ((([] : List Int)), 0, 2)) else ((some (([] : List Int) : List Int)).bind fun y178 => (if 0 ≤ t170 then (if t170 ≤ (wrap64 (t170 + t169)) then (if (wrap64 (t170 + t169)) ≤ (l0.length : Int) then (if y178.length + ((l0.take ((wrap64 (t170 + t169)) : Int).toNat).drop (t170 : Int).toNat).length < 140737488355328 then ((some (y178 ++ ((l0.take ((wrap64 (t170 + t169)) : Int).toNat).drop (t170 : Int).toNat) : List Int)).bind fun y182 => (if 0 ≤ (wrap64 (t170 + t169)) then (if (wrap64 (t170 + t169)) ≤ (wrap64 ((wrap64 (t170 + t169)) + 4)) then (if (wrap64 ((wrap64 (t170 + t169)) + 4)) ≤ (l0.length : Int) then ((spec_Sum.f kj3 y182).bind fun t186 => (if 0 < (((l0.take ((wrap64 ((wrap64 (t170 + t169)) + 4)) : Int).toNat).drop ((wrap64 (t170 + t169)) : Int).toNat).length : Int) then (if 1 < (((l0.take ((wrap64 ((wrap64 (t170 + t169)) + 4)) : Int).toNat).drop ((wrap64 (t170 + t169)) : Int).toNat).length : Int) then (if 2 < (((l0.take ((wrap64 ((wrap64 (t170 + t169)) + 4)) : Int).toNat).drop ((wrap64 (t170 + t169)) : Int).toNat).length : Int) then (if 3 < (((l0.take ((wrap64 ((wrap64 (t170 + t169)) + 4)) : Int).toNat).drop ((wrap64 (t170 + t169)) : Int).toNat).length : Int) then (if t186 = (wrap64 ((wrap64 ((wrap64 ((wrap64 (rd ((l0.take ((wrap64 ((wrap64 (t170 + t169)) + 4)) : Int).toNat).drop ((wrap64 (t170 + t169)) : Int).toNat) 0)) + (wrap64 ((wrap64 (rd ((l0.take ((wrap64 ((wrap64 (t170 + t169)) + 4)) : Int).toNat).drop ((wrap64 (t170 + t169)) : Int).toNat) 1)) * 256)))) + (wrap64 ((wrap64 (rd ((l0.take ((wrap64 ((wrap64 (t170 + t169)) + 4)) : Int).toNat).drop ((wrap64 (t170 + t169)) : Int).toNat) 2)) * 65536)))) + (wrap64 ((wrap64 (rd ((l0.take ((wrap64 ((wrap64 (t170 + t169)) + 4)) : Int).toNat).drop ((wrap64 (t170 + t169)) : Int).toNat) 3)) * 16777216)))) then (some (y182, wrap64 ((wrap64 (t170 + t169)) + 4), 0)) else (some ((([] : List Int)), 0, 3))) else (none)) else (none)) else (none)) else (none))) else (none)) else (none)) else (none))) else (none)) else (none)) else (none)) else (none)))) = some (r1, r2, r3) := by rw [if_neg (show ¬ (false = true) by decide)] at H; exact H
    clear H
    have H := H1
    clear H1
    by_cases c9 : (wrap64 ((l0.length : Int) - t170)) < (wrap64 (t169 + 4))
    ·rw [if_pos c9] at H
     have c9b0 : decide ((wrap64 ((l0.length : Int) - t170)) < (wrap64 (t169 + 4))) = true := decide_eq_true c9
     clear c9
     obtain ⟨y175, hy175⟩ : ∃ y_ : List Int, y_ = (([] : List Int)) := ⟨_, rfl⟩
     replace H : (some (y175, 0, 2)) = some (r1, r2, r3) := by first | (rw [hy175]; with_reducible exact H) | (have H2_ := (Option.bind_some _ _).symm.trans H; rw [hy175]; with_reducible exact H2_) | (have H2_ := (Option.bind_some _ _).symm.trans H; with_reducible exact H2_) | with_reducible exact H | (rw [hy175]; exact H) | exact H
     have Ny175 := Aside0.mk hy175
     clear hy175
     simp only [Option.some.injEq, Prod.mk.injEq] at H
     obtain ⟨rfl, rfl, rfl⟩ := H
     go_wp2_with (first | ((with_reducible refine gate_dst (N := 33) rfl ?_); refine Kd.R_lit (Kd.int .u8) _ 5 ?hg (N := 33) ?hd (xs := ([] : List Int)) (inner := []) (ok := fun _ => True) (okp := fun _ => True) ?hr ?hp (fun _ hk => hk) trivial (Below.refl _ _) (Nat.le_refl _) (by simp) ?_; (case hd => rfl); (case hg => rfl); (case hr => first | (go_simp; done) | (go_simp; rfl)); (case hp => exact (Reps.none _ _)); intro v176 w10 ho11 hb hg_ hnew_; clear hg_ hnew_; (first | rw [← Ny175.out] at ho11 | (simp only [Int.reduceToNat] at ho11; rw [← Ny175.out] at ho11)); have HO177 := Aside0.mk (Kd.R_lower ho11 (below_size xbel)); replace HB := xbs hb; clear hb ho11))
     repeat (go_quiet (first | ((with_reducible refine gate_dst (N := 33) rfl ?_); refine Kd.R_lit (Kd.int .u8) _ 5 ?hg (N := 33) ?hd (xs := ([] : List Int)) (inner := []) (ok := fun _ => True) (okp := fun _ => True) ?hr ?hp (fun _ hk => hk) trivial (Below.refl _ _) (Nat.le_refl _) (by simp) ?_; (case hd => rfl); (case hg => rfl); (case hr => first | (go_simp; done) | (go_simp; rfl)); (case hp => exact (Reps.none _ _)); intro v176 w10 ho11 hb hg_ hnew_; clear hg_ hnew_; (first | rw [← Ny175.out] at ho11 | (simp only [Int.reduceToNat] at ho11; rw [← Ny175.out] at ho11)); have HO177 := Aside0.mk (Kd.R_lower ho11 (below_size xbel)); replace HB := xbs hb; clear hb ho11)); try go_wp2_with (first | ((with_reducible refine gate_dst (N := 33) rfl ?_); refine Kd.R_lit (Kd.int .u8) _ 5 ?hg (N := 33) ?hd (xs := ([] : List Int)) (inner := []) (ok := fun _ => True) (okp := fun _ => True) ?hr ?hp (fun _ hk => hk) trivial (Below.refl _ _) (Nat.le_refl _) (by simp) ?_; (case hd => rfl); (case hg => rfl); (case hr => first | (go_simp; done) | (go_simp; rfl)); (case hp => exact (Reps.none _ _)); intro v176 w10 ho11 hb hg_ hnew_; clear hg_ hnew_; (first | rw [← Ny175.out] at ho11 | (simp only [Int.reduceToNat] at ho11; rw [← Ny175.out] at ho11)); have HO177 := Aside0.mk (Kd.R_lower ho11 (below_size xbel)); replace HB := xbs hb; clear hb ho11)))
     go_ret3
     exact ⟨_, by first | rfl | (simp [errW_none, errW_some] <;> rfl) | (simp [*, errW_none, errW_some] <;> rfl), by (with_reducible repeat (first | apply Kd.R_alloc | apply Kd.R_drewN | apply Kd.R_drew)); exact HO177.out, xbel⟩
    ·rw [if_neg c9] at H
     have c9b0 : decide ((wrap64 ((l0.length : Int) - t170)) < (wrap64 (t169 + 4))) = false := decide_eq_false c9
     clear c9
     obtain ⟨y178, hy178⟩ : ∃ y_ : List Int, y_ = (([] : List Int)) := ⟨_, rfl⟩
     replace H : (if 0 ≤ t170 then (if t170 ≤ (wrap64 (t170 + t169)) then (if (wrap64 (t170 + t169)) ≤ (l0.length : Int) then (if y178.length + ((l0.take ((wrap64 (t170 + t169)) : Int).toNat).drop (t170 : Int).toNat).length < 140737488355328 then ((some (y178 ++ ((l0.take ((wrap64 (t170 + t169)) : Int).toNat).drop (t170 : Int).toNat) : List Int)).bind fun y182 => (if 0 ≤ (wrap64 (t170 + t169)) then (if (wrap64 (t170 + t169)) ≤ (wrap64 ((wrap64 (t170 + t169)) + 4)) then (if (wrap64 ((wrap64 (t170 + t169)) + 4)) ≤ (l0.length : Int) then ((spec_Sum.f kj3 y182).bind fun t186 => (if 0 < (((l0.take ((wrap64 ((wrap64 (t170 + t169)) + 4)) : Int).toNat).drop ((wrap64 (t170 + t169)) : Int).toNat).length : Int) then (if 1 < (((l0.take ((wrap64 ((wrap64 (t170 + t169)) + 4)) : Int).toNat).drop ((wrap64 (t170 + t169)) : Int).toNat).length : Int) then (if 2 < (((l0.take ((wrap64 ((wrap64 (t170 + t169)) + 4)) : Int).toNat).drop ((wrap64 (t170 + t169)) : Int).toNat).length : Int) then (if 3 < (((l0.take ((wrap64 ((wrap64 (t170 + t169)) + 4)) : Int).toNat).drop ((wrap64 (t170 + t169)) : Int).toNat).length : Int) then (if t186 = (wrap64 ((wrap64 ((wrap64 ((wrap64 (rd ((l0.take ((wrap64 ((wrap64 (t170 + t169)) + 4)) : Int).toNat).drop ((wrap64 (t170 + t169)) : Int).toNat) 0)) + (wrap64 ((wrap64 (rd ((l0.take ((wrap64 ((wrap64 (t170 + t169)) + 4)) : Int).toNat).drop ((wrap64 (t170 + t169)) : Int).toNat) 1)) * 256)))) + (wrap64 ((wrap64 (rd ((l0.take ((wrap64 ((wrap64 (t170 + t169)) + 4)) : Int).toNat).drop ((wrap64 (t170 + t169)) : Int).toNat) 2)) * 65536)))) + (wrap64 ((wrap64 (rd ((l0.take ((wrap64 ((wrap64 (t170 + t169)) + 4)) : Int).toNat).drop ((wrap64 (t170 + t169)) : Int).toNat) 3)) * 16777216)))) then (some (y182, wrap64 ((wrap64 (t170 + t169)) + 4), 0)) else (some ((([] : List Int)), 0, 3))) else (none)) else (none)) else (none)) else (none))) else (none)) else (none)) else (none))) else (none)) else (none)) else (none)) else (none)) = some (r1, r2, r3) := by first | (rw [hy178]; with_reducible exact H) | (have H2_ := (Option.bind_some _ _).symm.trans H; rw [hy178]; with_reducible exact H2_) | (have H2_ := (Option.bind_some _ _).symm.trans H; with_reducible exact H2_) | with_reducible exact H | (rw [hy178]; exact H) | exact H
     have Ny178 := Aside0.mk hy178
     clear hy178
     by_cases c12 : 0 ≤ t170
     ·rw [if_pos c12] at H
      have c12b0 := eq_true c12
      have c12b1 : decide (0 ≤ t170) = true := decide_eq_true c12
      clear c12
      by_cases c13 : t170 ≤ (wrap64 (t170 + t169))
      ·rw [if_pos c13] at H
       have c13b0 := eq_true c13
       have c13b1 : decide (t170 ≤ (wrap64 (t170 + t169))) = true := decide_eq_true c13
       by_cases c14 : (wrap64 (t170 + t169)) ≤ (l0.length : Int)
       ·rw [if_pos c14] at H
        have c14b0 := eq_true c14
        have c14b1 : decide ((wrap64 (t170 + t169)) ≤ (l0.length : Int)) = true := decide_eq_true c14
        by_cases c15 : y178.length + ((l0.take ((wrap64 (t170 + t169)) : Int).toNat).drop (t170 : Int).toNat).length < 140737488355328
        ·rw [if_pos c15] at H
         have LMc15 := Aside0.mk c15
         clear c15
         obtain ⟨y182, hy182⟩ : ∃ y_ : List Int, y_ = (y178 ++ ((l0.take ((wrap64 (t170 + t169)) : Int).toNat).drop (t170 : Int).toNat)) := ⟨_, rfl⟩
         replace H : (if 0 ≤ (wrap64 (t170 + t169)) then (if (wrap64 (t170 + t169)) ≤ (wrap64 ((wrap64 (t170 + t169)) + 4)) then (if (wrap64 ((wrap64 (t170 + t169)) + 4)) ≤ (l0.length : Int) then ((spec_Sum.f kj3 y182).bind fun t186 => (if 0 < (((l0.take ((wrap64 ((wrap64 (t170 + t169)) + 4)) : Int).toNat).drop ((wrap64 (t170 + t169)) : Int).toNat).length : Int) then (if 1 < (((l0.take ((wrap64 ((wrap64 (t170 + t169)) + 4)) : Int).toNat).drop ((wrap64 (t170 + t169)) : Int).toNat).length : Int) then (if 2 < (((l0.take ((wrap64 ((wrap64 (t170 + t169)) + 4)) : Int).toNat).drop ((wrap64 (t170 + t169)) : Int).toNat).length : Int) then (if 3 < (((l0.take ((wrap64 ((wrap64 (t170 + t169)) + 4)) : Int).toNat).drop ((wrap64 (t170 + t169)) : Int).toNat).length : Int) then (if t186 = (wrap64 ((wrap64 ((wrap64 ((wrap64 (rd ((l0.take ((wrap64 ((wrap64 (t170 + t169)) + 4)) : Int).toNat).drop ((wrap64 (t170 + t169)) : Int).toNat) 0)) + (wrap64 ((wrap64 (rd ((l0.take ((wrap64 ((wrap64 (t170 + t169)) + 4)) : Int).toNat).drop ((wrap64 (t170 + t169)) : Int).toNat) 1)) * 256)))) + (wrap64 ((wrap64 (rd ((l0.take ((wrap64 ((wrap64 (t170 + t169)) + 4)) : Int).toNat).drop ((wrap64 (t170 + t169)) : Int).toNat) 2)) * 65536)))) + (wrap64 ((wrap64 (rd ((l0.take ((wrap64 ((wrap64 (t170 + t169)) + 4)) : Int).toNat).drop ((wrap64 (t170 + t169)) : Int).toNat) 3)) * 16777216)))) then (some (y182, wrap64 ((wrap64 (t170 + t169)) + 4), 0)) else (some ((([] : List Int)), 0, 3))) else (none)) else (none)) else (none)) else (none))) else (none)) else (none)) else (none)) = some (r1, r2, r3) := by first | (rw [hy182]; with_reducible exact H) | (have H2_ := (Option.bind_some _ _).symm.trans H; rw [hy182]; with_reducible exact H2_) | (have H2_ := (Option.bind_some _ _).symm.trans H; with_reducible exact H2_) | with_reducible exact H | (rw [hy182]; exact H) | exact H
         have Ny182 := Aside0.mk hy182
         clear hy182
         obtain ⟨ji16, hji16⟩ : ∃ j_ : Int, (wrap64 (t170 + t169)) = j_ := ⟨_, rfl⟩
         replace H : (if 0 ≤ (ji16) then (if (ji16) ≤ (wrap64 ((ji16) + 4)) then (if (wrap64 ((ji16) + 4)) ≤ (l0.length : Int) then ((spec_Sum.f kj3 y182).bind fun t186 => (if 0 < (((l0.take ((wrap64 ((ji16) + 4)) : Int).toNat).drop ((ji16) : Int).toNat).length : Int) then (if 1 < (((l0.take ((wrap64 ((ji16) + 4)) : Int).toNat).drop ((ji16) : Int).toNat).length : Int) then (if 2 < (((l0.take ((wrap64 ((ji16) + 4)) : Int).toNat).drop ((ji16) : Int).toNat).length : Int) then (if 3 < (((l0.take ((wrap64 ((ji16) + 4)) : Int).toNat).drop ((ji16) : Int).toNat).length : Int) then (if t186 = (wrap64 ((wrap64 ((wrap64 ((wrap64 (rd ((l0.take ((wrap64 ((ji16) + 4)) : Int).toNat).drop ((ji16) : Int).toNat) 0)) + (wrap64 ((wrap64 (rd ((l0.take ((wrap64 ((ji16) + 4)) : Int).toNat).drop ((ji16) : Int).toNat) 1)) * 256)))) + (wrap64 ((wrap64 (rd ((l0.take ((wrap64 ((ji16) + 4)) : Int).toNat).drop ((ji16) : Int).toNat) 2)) * 65536)))) + (wrap64 ((wrap64 (rd ((l0.take ((wrap64 ((ji16) + 4)) : Int).toNat).drop ((ji16) : Int).toNat) 3)) * 16777216)))) then (some (y182, wrap64 ((ji16) + 4), 0)) else (some ((([] : List Int)), 0, 3))) else (none)) else (none)) else (none)) else (none))) else (none)) else (none)) else (none)) = some (r1, r2, r3) := by first | (rw [hji16] at H; exact H) | (simp only [hji16] at H ⊢; exact H)
         (try rw [hji16] at c13b0)
         (try rw [hji16] at c13b1)
         (try rw [hji16] at c13)
         (try rw [hji16] at c14b0)
         (try rw [hji16] at c14b1)
         (try rw [hji16] at c14)
         (try rw [hji16] at LMc15)
         (try rw [hji16] at Ny182)
         have hji16w : (IntKind.i64.wrap (t170 + t169)) = ji16 := (i64_w _).trans hji16
         by_cases c17 : 0 ≤ (ji16)
         ·rw [if_pos c17] at H
          have c17b0 := eq_true c17
          have c17b1 : decide (0 ≤ (ji16)) = true := decide_eq_true c17
          clear c17
          by_cases c18 : (ji16) ≤ (wrap64 ((ji16) + 4))
          ·rw [if_pos c18] at H
           have c18b0 := eq_true c18
           have c18b1 : decide ((ji16) ≤ (wrap64 ((ji16) + 4))) = true := decide_eq_true c18
           by_cases c19 : (wrap64 ((ji16) + 4)) ≤ (l0.length : Int)
           ·rw [if_pos c19] at H
            have c19b0 := eq_true c19
            have c19b1 : decide ((wrap64 ((ji16) + 4)) ≤ (l0.length : Int)) = true := decide_eq_true c19
            replace H := Option.bind_eq_some_iff.mp H
            obtain ⟨t186, A200, H⟩ := H
            replace H : (if 0 < (((l0.take ((wrap64 ((ji16) + 4)) : Int).toNat).drop ((ji16) : Int).toNat).length : Int) then (if 1 < (((l0.take ((wrap64 ((ji16) + 4)) : Int).toNat).drop ((ji16) : Int).toNat).length : Int) then (if 2 < (((l0.take ((wrap64 ((ji16) + 4)) : Int).toNat).drop ((ji16) : Int).toNat).length : Int) then (if 3 < (((l0.take ((wrap64 ((ji16) + 4)) : Int).toNat).drop ((ji16) : Int).toNat).length : Int) then (if t186 = (wrap64 ((wrap64 ((wrap64 ((wrap64 (rd ((l0.take ((wrap64 ((ji16) + 4)) : Int).toNat).drop ((ji16) : Int).toNat) 0)) + (wrap64 ((wrap64 (rd ((l0.take ((wrap64 ((ji16) + 4)) : Int).toNat).drop ((ji16) : Int).toNat) 1)) * 256)))) + (wrap64 ((wrap64 (rd ((l0.take ((wrap64 ((ji16) + 4)) : Int).toNat).drop ((ji16) : Int).toNat) 2)) * 65536)))) + (wrap64 ((wrap64 (rd ((l0.take ((wrap64 ((ji16) + 4)) : Int).toNat).drop ((ji16) : Int).toNat) 3)) * 16777216)))) then (some (y182, wrap64 ((ji16) + 4), 0)) else (some ((([] : List Int)), 0, 3))) else (none)) else (none)) else (none)) else (none)) = some (r1, r2, r3) := H
            have A20 := Aside0.mk A200
            clear A200
            by_cases c21 : 0 < (((l0.take ((wrap64 ((ji16) + 4)) : Int).toNat).drop ((ji16) : Int).toNat).length : Int)
            ·rw [if_pos c21] at H
             have c21b0 : decide (0 < (((l0.take ((wrap64 ((ji16) + 4)) : Int).toNat).drop ((ji16) : Int).toNat).length : Int)) = true := decide_eq_true c21
             have c21b1 : decide (0 < ((l0.take ((wrap64 ((ji16) + 4)) : Int).toNat).drop ((ji16) : Int).toNat).length) = true := decide_eq_true (by omega)
             clear c21
             by_cases c22 : 1 < (((l0.take ((wrap64 ((ji16) + 4)) : Int).toNat).drop ((ji16) : Int).toNat).length : Int)
             ·rw [if_pos c22] at H
              have c22b0 : decide (1 < (((l0.take ((wrap64 ((ji16) + 4)) : Int).toNat).drop ((ji16) : Int).toNat).length : Int)) = true := decide_eq_true c22
              have c22b1 : decide (1 < ((l0.take ((wrap64 ((ji16) + 4)) : Int).toNat).drop ((ji16) : Int).toNat).length) = true := decide_eq_true (by omega)
              clear c22
              by_cases c23 : 2 < (((l0.take ((wrap64 ((ji16) + 4)) : Int).toNat).drop ((ji16) : Int).toNat).length : Int)
              ·rw [if_pos c23] at H
               have c23b0 : decide (2 < (((l0.take ((wrap64 ((ji16) + 4)) : Int).toNat).drop ((ji16) : Int).toNat).length : Int)) = true := decide_eq_true c23
               have c23b1 : decide (2 < ((l0.take ((wrap64 ((ji16) + 4)) : Int).toNat).drop ((ji16) : Int).toNat).length) = true := decide_eq_true (by omega)
               clear c23
               by_cases c24 : 3 < (((l0.take ((wrap64 ((ji16) + 4)) : Int).toNat).drop ((ji16) : Int).toNat).length : Int)
               ·rw [if_pos c24] at H
                have c24b0 : decide (3 < (((l0.take ((wrap64 ((ji16) + 4)) : Int).toNat).drop ((ji16) : Int).toNat).length : Int)) = true := decide_eq_true c24
                have c24b1 : decide (3 < ((l0.take ((wrap64 ((ji16) + 4)) : Int).toNat).drop ((ji16) : Int).toNat).length) = true := decide_eq_true (by omega)
                clear c24
                by_cases c25 : t186 = (wrap64 ((wrap64 ((wrap64 ((wrap64 (rd ((l0.take ((wrap64 ((ji16) + 4)) : Int).toNat).drop ((ji16) : Int).toNat) 0)) + (wrap64 ((wrap64 (rd ((l0.take ((wrap64 ((ji16) + 4)) : Int).toNat).drop ((ji16) : Int).toNat) 1)) * 256)))) + (wrap64 ((wrap64 (rd ((l0.take ((wrap64 ((ji16) + 4)) : Int).toNat).drop ((ji16) : Int).toNat) 2)) * 65536)))) + (wrap64 ((wrap64 (rd ((l0.take ((wrap64 ((ji16) + 4)) : Int).toNat).drop ((ji16) : Int).toNat) 3)) * 16777216))))
                ·rw [if_pos c25] at H
                 have c25b0 : (t186 == (wrap64 ((wrap64 ((wrap64 ((wrap64 (rd ((l0.take ((wrap64 ((ji16) + 4)) : Int).toNat).drop ((ji16) : Int).toNat) 0)) + (wrap64 ((wrap64 (rd ((l0.take ((wrap64 ((ji16) + 4)) : Int).toNat).drop ((ji16) : Int).toNat) 1)) * 256)))) + (wrap64 ((wrap64 (rd ((l0.take ((wrap64 ((ji16) + 4)) : Int).toNat).drop ((ji16) : Int).toNat) 2)) * 65536)))) + (wrap64 ((wrap64 (rd ((l0.take ((wrap64 ((ji16) + 4)) : Int).toNat).drop ((ji16) : Int).toNat) 3)) * 16777216))))) = true := beq_iff_eq.mpr c25
                 have c25b1 : (t186 != (wrap64 ((wrap64 ((wrap64 ((wrap64 (rd ((l0.take ((wrap64 ((ji16) + 4)) : Int).toNat).drop ((ji16) : Int).toNat) 0)) + (wrap64 ((wrap64 (rd ((l0.take ((wrap64 ((ji16) + 4)) : Int).toNat).drop ((ji16) : Int).toNat) 1)) * 256)))) + (wrap64 ((wrap64 (rd ((l0.take ((wrap64 ((ji16) + 4)) : Int).toNat).drop ((ji16) : Int).toNat) 2)) * 65536)))) + (wrap64 ((wrap64 (rd ((l0.take ((wrap64 ((ji16) + 4)) : Int).toNat).drop ((ji16) : Int).toNat) 3)) * 16777216))))) = false := bne_eq_false_iff_eq.mpr c25
                 clear c25
                 simp only [Option.some.injEq, Prod.mk.injEq] at H
                 obtain ⟨rfl, rfl, rfl⟩ := H
                 go_wp2_with (first | ((with_reducible refine gate_dst (N := 34) rfl ?_); refine Kd.R_lit (Kd.int .u8) _ 5 ?hg (N := 34) ?hd (xs := ([] : List Int)) (inner := []) (ok := fun _ => True) (okp := fun _ => True) ?hr ?hp (fun _ hk => hk) trivial (Below.refl _ _) (Nat.le_refl _) (by simp) ?_; (case hd => rfl); (case hg => rfl); (case hr => first | (go_simp; done) | (go_simp; rfl)); (case hp => exact (Reps.none _ _)); intro v179 w26 ho27 hb hg_ hnew_; clear hg_ hnew_; (first | rw [← Ny178.out] at ho27 | (simp only [Int.reduceToNat] at ho27; rw [← Ny178.out] at ho27)); have HO180 := Aside0.mk (Kd.R_lower ho27 (below_size xbel)); replace HB := xbs hb; clear hb ho27; obtain ⟨i028, hi028, _, hsz28, _⟩ := info_parts info5; obtain ⟨A28, hcut28, hA28, hC28⟩ := print_mid_of (P := Try.prog) (Value.int .u8) 0 22 5 .i64 .i64 Try.underlying22 hi028 hsz28 A0 c0 l0 t170 (ji16) (of_decide_eq_true (by first | (with_reducible assumption) | assumption)) (by first | omega | exact of_decide_eq_true (by first | (with_reducible assumption) | assumption)) (of_decide_eq_true (by first | (with_reducible assumption) | assumption)) HC0.out; have HR181 := Aside0.mk (Kd.C_of_reads (h1 := fun _ => rfl) (hA28 _ (Kd.reads_of_C HR0.out))); have HC181 := Aside0.mk hC28; clear hA28 hC28 hi028 hsz28; (try rw [← show ((l0.take ((ji16) : Int).toNat).drop (t170 : Int).toNat).length = ((ji16).toNat - t170.toNat) from (by rw [List.length_drop, List.length_take]; have h_ : ((ji16) : Int) ≤ (l0.length : Int) := of_decide_eq_true (by first | (with_reducible assumption) | assumption); omega)] at hcut28)) | ((with_reducible refine gate_builtin (b := .append) (xs := #[.tmp 34, .tmp 40]) rfl ?_); at_builtin; refine Kd.R_append_rows (Kd.int .u8) (w0 := w) w.heap.size rfl (.tmp 34) (.tmp 40) 22 5 (.int .u8 0) 1 rfl Try.underlying22 info5 rfl (by decide) (by omega) v179 y178 ((l0.take ((ji16) : Int).toNat).drop (t170 : Int).toNat) _ _ _ (fun _ => True) (fun _ => False) rfl rfl ?aO ?aR (fun _ _ h => h) (fun _ h => h.elim) ?aF ?aB ?aS ?aL ?_; (case aR => first | (rw [← show ((l0.take ((ji16) : Int).toNat).drop (t170 : Int).toNat).length = ((ji16).toNat - t170.toNat) from (by rw [List.length_drop, List.length_take]; have h_ : ((ji16) : Int) ≤ (l0.length : Int) := of_decide_eq_true (by first | (with_reducible assumption) | assumption); omega)]; exact xcb HR181) | (exact xcb HR181)); (case aB => exact xbel); (case aF => exact (fun _ _ => trivial)); (case aO => exact (by (with_reducible repeat (first | apply Kd.R_alloc | apply Kd.R_drewN | apply Kd.R_drew)); exact HO180.out)); (case aS => exact (below_size xbel)); (case aL => have := LMc15.out; have hlx_ := (show ((l0.take ((ji16) : Int).toNat).drop (t170 : Int).toNat).length = ((ji16).toNat - t170.toNat) from (by rw [List.length_drop, List.length_take]; have h_ : ((ji16) : Int) ≤ (l0.length : Int) := of_decide_eq_true (by first | (with_reducible assumption) | assumption); omega)); omega); intro v183 w29 ho hb hg hat; rw [← Ny182.out] at ho; replace HB := Aside0.mk (hb); have HO184 := Aside0.mk (ho); clear HO180; clear ho hb hg hat; obtain ⟨i030, hi030, _, hsz30, _⟩ := info_parts info5; obtain ⟨A30, hcut30, hA30, hC30⟩ := print_mid_of (P := Try.prog) (Value.int .u8) 0 22 5 .i64 .i64 Try.underlying22 hi030 hsz30 A0 c0 l0 (ji16) (wrap64 ((ji16) + 4)) (of_decide_eq_true (by first | (with_reducible assumption) | assumption)) (by first | omega | exact of_decide_eq_true (by first | (with_reducible assumption) | assumption)) (of_decide_eq_true (by first | (with_reducible assumption) | assumption)) HC0.out; have HR185 := Aside0.mk (Kd.C_of_reads (h1 := fun _ => rfl) (hA30 _ (Kd.reads_of_C HR0.out))); have HC185 := Aside0.mk hC30; clear hA30 hC30 hi030 hsz30; (try rw [← show ((l0.take ((wrap64 ((ji16) + 4)) : Int).toNat).drop ((ji16) : Int).toNat).length = ((wrap64 ((ji16) + 4)).toNat - (ji16).toNat) from (by rw [List.length_drop, List.length_take]; have h_ : ((wrap64 ((ji16) + 4)) : Int) ≤ (l0.length : Int) := of_decide_eq_true (by first | (with_reducible assumption) | assumption); omega)] at hcut30); obtain ⟨Ao31, co31, eo31⟩ := Kd.R_slice HO184.out; subst eo31; have p187 : 0 ≤ (0 : Int) := (by omega); have q187 : 0 < (((l0.take ((wrap64 ((ji16) + 4)) : Int).toNat).drop ((ji16) : Int).toNat).length : Int) := of_decide_eq_true (by first | (with_reducible assumption) | assumption); obtain ⟨ad187, e187, hx187_0⟩ := Kd.at_int HR185.out 0 p187 q187; cases e187; have qi187 : (0 < ((l0.take ((wrap64 ((ji16) + 4)) : Int).toNat).drop ((ji16) : Int).toNat).length) = True := eq_true (by omega); (try rw [show ((0 : Int)).toNat = 0 from rfl] at hx187_0); (try rw [Addr.add_zero'] at hx187_0); replace hx187_0 := xce HB hx187_0; replace p187 := eq_true p187; replace q187 := eq_true q187; (try have qm187 : (0 < ((((wrap64 ((ji16) + 4)).toNat - (ji16).toNat) : Nat) : Int)) = True := eq_true (by have h_ := (show ((l0.take ((wrap64 ((ji16) + 4)) : Int).toNat).drop ((ji16) : Int).toNat).length = ((wrap64 ((ji16) + 4)).toNat - (ji16).toNat) from (by rw [List.length_drop, List.length_take]; have h_ : ((wrap64 ((ji16) + 4)) : Int) ≤ (l0.length : Int) := of_decide_eq_true (by first | (with_reducible assumption) | assumption); omega)); have h2_ := of_eq_true q187; omega)); (try have qn187 : (0 < ((wrap64 ((ji16) + 4)).toNat - (ji16).toNat)) = True := eq_true (by have h_ := (show ((l0.take ((wrap64 ((ji16) + 4)) : Int).toNat).drop ((ji16) : Int).toNat).length = ((wrap64 ((ji16) + 4)).toNat - (ji16).toNat) from (by rw [List.length_drop, List.length_take]; have h_ : ((wrap64 ((ji16) + 4)) : Int) ≤ (l0.length : Int) := of_decide_eq_true (by first | (with_reducible assumption) | assumption); omega)); have h2_ := of_eq_true qi187; omega)); have p188 : 0 ≤ (1 : Int) := (by omega); have q188 : 1 < (((l0.take ((wrap64 ((ji16) + 4)) : Int).toNat).drop ((ji16) : Int).toNat).length : Int) := of_decide_eq_true (by first | (with_reducible assumption) | assumption); obtain ⟨ad188, e188, hx188_0⟩ := Kd.at_int HR185.out 1 p188 q188; obtain rfl : ad187 = ad188 := (by injection e188); (try simp only [show (1 : Int).toNat = 1 from rfl, Nat.reduceMul, Nat.reduceEqDiff, Go.Addr.add, ↓reduceIte] at hx188_0); have qi188 : (1 < ((l0.take ((wrap64 ((ji16) + 4)) : Int).toNat).drop ((ji16) : Int).toNat).length) = True := eq_true (by omega); (try rw [show ((1 : Int)).toNat = 1 from rfl] at hx188_0); replace hx188_0 := xce HB hx188_0; replace p188 := eq_true p188; replace q188 := eq_true q188; (try have qm188 : (1 < ((((wrap64 ((ji16) + 4)).toNat - (ji16).toNat) : Nat) : Int)) = True := eq_true (by have h_ := (show ((l0.take ((wrap64 ((ji16) + 4)) : Int).toNat).drop ((ji16) : Int).toNat).length = ((wrap64 ((ji16) + 4)).toNat - (ji16).toNat) from (by rw [List.length_drop, List.length_take]; have h_ : ((wrap64 ((ji16) + 4)) : Int) ≤ (l0.length : Int) := of_decide_eq_true (by first | (with_reducible assumption) | assumption); omega)); have h2_ := of_eq_true q188; omega)); (try have qn188 : (1 < ((wrap64 ((ji16) + 4)).toNat - (ji16).toNat)) = True := eq_true (by have h_ := (show ((l0.take ((wrap64 ((ji16) + 4)) : Int).toNat).drop ((ji16) : Int).toNat).length = ((wrap64 ((ji16) + 4)).toNat - (ji16).toNat) from (by rw [List.length_drop, List.length_take]; have h_ : ((wrap64 ((ji16) + 4)) : Int) ≤ (l0.length : Int) := of_decide_eq_true (by first | (with_reducible assumption) | assumption); omega)); have h2_ := of_eq_true qi188; omega)); have p189 : 0 ≤ (2 : Int) := (by omega); have q189 : 2 < (((l0.take ((wrap64 ((ji16) + 4)) : Int).toNat).drop ((ji16) : Int).toNat).length : Int) := of_decide_eq_true (by first | (with_reducible assumption) | assumption); obtain ⟨ad189, e189, hx189_0⟩ := Kd.at_int HR185.out 2 p189 q189; obtain rfl : ad187 = ad189 := (by injection e189); (try simp only [show (2 : Int).toNat = 2 from rfl, Nat.reduceMul, Nat.reduceEqDiff, Go.Addr.add, ↓reduceIte] at hx189_0); have qi189 : (2 < ((l0.take ((wrap64 ((ji16) + 4)) : Int).toNat).drop ((ji16) : Int).toNat).length) = True := eq_true (by omega); (try rw [show ((2 : Int)).toNat = 2 from rfl] at hx189_0); replace hx189_0 := xce HB hx189_0; replace p189 := eq_true p189; replace q189 := eq_true q189; (try have qm189 : (2 < ((((wrap64 ((ji16) + 4)).toNat - (ji16).toNat) : Nat) : Int)) = True := eq_true (by have h_ := (show ((l0.take ((wrap64 ((ji16) + 4)) : Int).toNat).drop ((ji16) : Int).toNat).length = ((wrap64 ((ji16) + 4)).toNat - (ji16).toNat) from (by rw [List.length_drop, List.length_take]; have h_ : ((wrap64 ((ji16) + 4)) : Int) ≤ (l0.length : Int) := of_decide_eq_true (by first | (with_reducible assumption) | assumption); omega)); have h2_ := of_eq_true q189; omega)); (try have qn189 : (2 < ((wrap64 ((ji16) + 4)).toNat - (ji16).toNat)) = True := eq_true (by have h_ := (show ((l0.take ((wrap64 ((ji16) + 4)) : Int).toNat).drop ((ji16) : Int).toNat).length = ((wrap64 ((ji16) + 4)).toNat - (ji16).toNat) from (by rw [List.length_drop, List.length_take]; have h_ : ((wrap64 ((ji16) + 4)) : Int) ≤ (l0.length : Int) := of_decide_eq_true (by first | (with_reducible assumption) | assumption); omega)); have h2_ := of_eq_true qi189; omega)); have p190 : 0 ≤ (3 : Int) := (by omega); have q190 : 3 < (((l0.take ((wrap64 ((ji16) + 4)) : Int).toNat).drop ((ji16) : Int).toNat).length : Int) := of_decide_eq_true (by first | (with_reducible assumption) | assumption); obtain ⟨ad190, e190, hx190_0⟩ := Kd.at_int HR185.out 3 p190 q190; obtain rfl : ad187 = ad190 := (by injection e190); (try simp only [show (3 : Int).toNat = 3 from rfl, Nat.reduceMul, Nat.reduceEqDiff, Go.Addr.add, ↓reduceIte] at hx190_0); have qi190 : (3 < ((l0.take ((wrap64 ((ji16) + 4)) : Int).toNat).drop ((ji16) : Int).toNat).length) = True := eq_true (by omega); (try rw [show ((3 : Int)).toNat = 3 from rfl] at hx190_0); replace hx190_0 := xce HB hx190_0; replace p190 := eq_true p190; replace q190 := eq_true q190; (try have qm190 : (3 < ((((wrap64 ((ji16) + 4)).toNat - (ji16).toNat) : Nat) : Int)) = True := eq_true (by have h_ := (show ((l0.take ((wrap64 ((ji16) + 4)) : Int).toNat).drop ((ji16) : Int).toNat).length = ((wrap64 ((ji16) + 4)).toNat - (ji16).toNat) from (by rw [List.length_drop, List.length_take]; have h_ : ((wrap64 ((ji16) + 4)) : Int) ≤ (l0.length : Int) := of_decide_eq_true (by first | (with_reducible assumption) | assumption); omega)); have h2_ := of_eq_true q190; omega)); (try have qn190 : (3 < ((wrap64 ((ji16) + 4)).toNat - (ji16).toNat)) = True := eq_true (by have h_ := (show ((l0.take ((wrap64 ((ji16) + 4)) : Int).toNat).drop ((ji16) : Int).toNat).length = ((wrap64 ((ji16) + 4)).toNat - (ji16).toNat) from (by rw [List.length_drop, List.length_take]; have h_ : ((wrap64 ((ji16) + 4)) : Int) ≤ (l0.length : Int) := of_decide_eq_true (by first | (with_reducible assumption) | assumption); omega)); have h2_ := of_eq_true qi190; omega))) | (go_at_call 171; (with_reducible refine (spec_Sum.calls kj3 _ _ y182 t186 _ ?side1 ?side2 A20.out).mono ?_); (case side1 => repeat (first | exact (Kd.R_reads' HO184.out).2.2 | (with_reducible refine Kd.C_alloc ?_ _) | (with_reducible refine Kd.C_drewN ?_ _) | (with_reducible refine Kd.C_drew ?_))); (case side2 => exact (Kd.R_reads' HO184.out).2.1); rintro e w' ⟨rfl, ⟨nd, rfl⟩⟩; (try first | exact ⟨rfl, _, World.drewN_drewN _ _ _⟩ | exact ⟨rfl, _, Eq.trans (World.drewN_drewN _ _ _) (congrArg (World.drewN _) (Nat.add_assoc _ _ _))⟩)))
                 repeat (go_quiet (first | ((with_reducible refine gate_dst (N := 34) rfl ?_); refine Kd.R_lit (Kd.int .u8) _ 5 ?hg (N := 34) ?hd (xs := ([] : List Int)) (inner := []) (ok := fun _ => True) (okp := fun _ => True) ?hr ?hp (fun _ hk => hk) trivial (Below.refl _ _) (Nat.le_refl _) (by simp) ?_; (case hd => rfl); (case hg => rfl); (case hr => first | (go_simp; done) | (go_simp; rfl)); (case hp => exact (Reps.none _ _)); intro v179 w26 ho27 hb hg_ hnew_; clear hg_ hnew_; (first | rw [← Ny178.out] at ho27 | (simp only [Int.reduceToNat] at ho27; rw [← Ny178.out] at ho27)); have HO180 := Aside0.mk (Kd.R_lower ho27 (below_size xbel)); replace HB := xbs hb; clear hb ho27; obtain ⟨i028, hi028, _, hsz28, _⟩ := info_parts info5; obtain ⟨A28, hcut28, hA28, hC28⟩ := print_mid_of (P := Try.prog) (Value.int .u8) 0 22 5 .i64 .i64 Try.underlying22 hi028 hsz28 A0 c0 l0 t170 (ji16) (of_decide_eq_true (by first | (with_reducible assumption) | assumption)) (by first | omega | exact of_decide_eq_true (by first | (with_reducible assumption) | assumption)) (of_decide_eq_true (by first | (with_reducible assumption) | assumption)) HC0.out; have HR181 := Aside0.mk (Kd.C_of_reads (h1 := fun _ => rfl) (hA28 _ (Kd.reads_of_C HR0.out))); have HC181 := Aside0.mk hC28; clear hA28 hC28 hi028 hsz28; (try rw [← show ((l0.take ((ji16) : Int).toNat).drop (t170 : Int).toNat).length = ((ji16).toNat - t170.toNat) from (by rw [List.length_drop, List.length_take]; have h_ : ((ji16) : Int) ≤ (l0.length : Int) := of_decide_eq_true (by first | (with_reducible assumption) | assumption); omega)] at hcut28)) | ((with_reducible refine gate_builtin (b := .append) (xs := #[.tmp 34, .tmp 40]) rfl ?_); at_builtin; refine Kd.R_append_rows (Kd.int .u8) (w0 := w) w.heap.size rfl (.tmp 34) (.tmp 40) 22 5 (.int .u8 0) 1 rfl Try.underlying22 info5 rfl (by decide) (by omega) v179 y178 ((l0.take ((ji16) : Int).toNat).drop (t170 : Int).toNat) _ _ _ (fun _ => True) (fun _ => False) rfl rfl ?aO ?aR (fun _ _ h => h) (fun _ h => h.elim) ?aF ?aB ?aS ?aL ?_; (case aR => first | (rw [← show ((l0.take ((ji16) : Int).toNat).drop (t170 : Int).toNat).length = ((ji16).toNat - t170.toNat) from (by rw [List.length_drop, List.length_take]; have h_ : ((ji16) : Int) ≤ (l0.length : Int) := of_decide_eq_true (by first | (with_reducible assumption) | assumption); omega)]; exact xcb HR181) | (exact xcb HR181)); (case aB => exact xbel); (case aF => exact (fun _ _ => trivial)); (case aO => exact (by (with_reducible repeat (first | apply Kd.R_alloc | apply Kd.R_drewN | apply Kd.R_drew)); exact HO180.out)); (case aS => exact (below_size xbel)); (case aL => have := LMc15.out; have hlx_ := (show ((l0.take ((ji16) : Int).toNat).drop (t170 : Int).toNat).length = ((ji16).toNat - t170.toNat) from (by rw [List.length_drop, List.length_take]; have h_ : ((ji16) : Int) ≤ (l0.length : Int) := of_decide_eq_true (by first | (with_reducible assumption) | assumption); omega)); omega); intro v183 w29 ho hb hg hat; rw [← Ny182.out] at ho; replace HB := Aside0.mk (hb); have HO184 := Aside0.mk (ho); clear HO180; clear ho hb hg hat; obtain ⟨i030, hi030, _, hsz30, _⟩ := info_parts info5; obtain ⟨A30, hcut30, hA30, hC30⟩ := print_mid_of (P := Try.prog) (Value.int .u8) 0 22 5 .i64 .i64 Try.underlying22 hi030 hsz30 A0 c0 l0 (ji16) (wrap64 ((ji16) + 4)) (of_decide_eq_true (by first | (with_reducible assumption) | assumption)) (by first | omega | exact of_decide_eq_true (by first | (with_reducible assumption) | assumption)) (of_decide_eq_true (by first | (with_reducible assumption) | assumption)) HC0.out; have HR185 := Aside0.mk (Kd.C_of_reads (h1 := fun _ => rfl) (hA30 _ (Kd.reads_of_C HR0.out))); have HC185 := Aside0.mk hC30; clear hA30 hC30 hi030 hsz30; (try rw [← show ((l0.take ((wrap64 ((ji16) + 4)) : Int).toNat).drop ((ji16) : Int).toNat).length = ((wrap64 ((ji16) + 4)).toNat - (ji16).toNat) from (by rw [List.length_drop, List.length_take]; have h_ : ((wrap64 ((ji16) + 4)) : Int) ≤ (l0.length : Int) := of_decide_eq_true (by first | (with_reducible assumption) | assumption); omega)] at hcut30); obtain ⟨Ao31, co31, eo31⟩ := Kd.R_slice HO184.out; subst eo31; have p187 : 0 ≤ (0 : Int) := (by omega); have q187 : 0 < (((l0.take ((wrap64 ((ji16) + 4)) : Int).toNat).drop ((ji16) : Int).toNat).length : Int) := of_decide_eq_true (by first | (with_reducible assumption) | assumption); obtain ⟨ad187, e187, hx187_0⟩ := Kd.at_int HR185.out 0 p187 q187; cases e187; have qi187 : (0 < ((l0.take ((wrap64 ((ji16) + 4)) : Int).toNat).drop ((ji16) : Int).toNat).length) = True := eq_true (by omega); (try rw [show ((0 : Int)).toNat = 0 from rfl] at hx187_0); (try rw [Addr.add_zero'] at hx187_0); replace hx187_0 := xce HB hx187_0; replace p187 := eq_true p187; replace q187 := eq_true q187; (try have qm187 : (0 < ((((wrap64 ((ji16) + 4)).toNat - (ji16).toNat) : Nat) : Int)) = True := eq_true (by have h_ := (show ((l0.take ((wrap64 ((ji16) + 4)) : Int).toNat).drop ((ji16) : Int).toNat).length = ((wrap64 ((ji16) + 4)).toNat - (ji16).toNat) from (by rw [List.length_drop, List.length_take]; have h_ : ((wrap64 ((ji16) + 4)) : Int) ≤ (l0.length : Int) := of_decide_eq_true (by first | (with_reducible assumption) | assumption); omega)); have h2_ := of_eq_true q187; omega)); (try have qn187 : (0 < ((wrap64 ((ji16) + 4)).toNat - (ji16).toNat)) = True := eq_true (by have h_ := (show ((l0.take ((wrap64 ((ji16) + 4)) : Int).toNat).drop ((ji16) : Int).toNat).length = ((wrap64 ((ji16) + 4)).toNat - (ji16).toNat) from (by rw [List.length_drop, List.length_take]; have h_ : ((wrap64 ((ji16) + 4)) : Int) ≤ (l0.length : Int) := of_decide_eq_true (by first | (with_reducible assumption) | assumption); omega)); have h2_ := of_eq_true qi187; omega)); have p188 : 0 ≤ (1 : Int) := (by omega); have q188 : 1 < (((l0.take ((wrap64 ((ji16) + 4)) : Int).toNat).drop ((ji16) : Int).toNat).length : Int) := of_decide_eq_true (by first | (with_reducible assumption) | assumption); obtain ⟨ad188, e188, hx188_0⟩ := Kd.at_int HR185.out 1 p188 q188; obtain rfl : ad187 = ad188 := (by injection e188); (try simp only [show (1 : Int).toNat = 1 from rfl, Nat.reduceMul, Nat.reduceEqDiff, Go.Addr.add, ↓reduceIte] at hx188_0); have qi188 : (1 < ((l0.take ((wrap64 ((ji16) + 4)) : Int).toNat).drop ((ji16) : Int).toNat).length) = True := eq_true (by omega); (try rw [show ((1 : Int)).toNat = 1 from rfl] at hx188_0); replace hx188_0 := xce HB hx188_0; replace p188 := eq_true p188; replace q188 := eq_true q188; (try have qm188 : (1 < ((((wrap64 ((ji16) + 4)).toNat - (ji16).toNat) : Nat) : Int)) = True := eq_true (by have h_ := (show ((l0.take ((wrap64 ((ji16) + 4)) : Int).toNat).drop ((ji16) : Int).toNat).length = ((wrap64 ((ji16) + 4)).toNat - (ji16).toNat) from (by rw [List.length_drop, List.length_take]; have h_ : ((wrap64 ((ji16) + 4)) : Int) ≤ (l0.length : Int) := of_decide_eq_true (by first | (with_reducible assumption) | assumption); omega)); have h2_ := of_eq_true q188; omega)); (try have qn188 : (1 < ((wrap64 ((ji16) + 4)).toNat - (ji16).toNat)) = True := eq_true (by have h_ := (show ((l0.take ((wrap64 ((ji16) + 4)) : Int).toNat).drop ((ji16) : Int).toNat).length = ((wrap64 ((ji16) + 4)).toNat - (ji16).toNat) from (by rw [List.length_drop, List.length_take]; have h_ : ((wrap64 ((ji16) + 4)) : Int) ≤ (l0.length : Int) := of_decide_eq_true (by first | (with_reducible assumption) | assumption); omega)); have h2_ := of_eq_true qi188; omega)); have p189 : 0 ≤ (2 : Int) := (by omega); have q189 : 2 < (((l0.take ((wrap64 ((ji16) + 4)) : Int).toNat).drop ((ji16) : Int).toNat).length : Int) := of_decide_eq_true (by first | (with_reducible assumption) | assumption); obtain ⟨ad189, e189, hx189_0⟩ := Kd.at_int HR185.out 2 p189 q189; obtain rfl : ad187 = ad189 := (by injection e189); (try simp only [show (2 : Int).toNat = 2 from rfl, Nat.reduceMul, Nat.reduceEqDiff, Go.Addr.add, ↓reduceIte] at hx189_0); have qi189 : (2 < ((l0.take ((wrap64 ((ji16) + 4)) : Int).toNat).drop ((ji16) : Int).toNat).length) = True := eq_true (by omega); (try rw [show ((2 : Int)).toNat = 2 from rfl] at hx189_0); replace hx189_0 := xce HB hx189_0; replace p189 := eq_true p189; replace q189 := eq_true q189; (try have qm189 : (2 < ((((wrap64 ((ji16) + 4)).toNat - (ji16).toNat) : Nat) : Int)) = True := eq_true (by have h_ := (show ((l0.take ((wrap64 ((ji16) + 4)) : Int).toNat).drop ((ji16) : Int).toNat).length = ((wrap64 ((ji16) + 4)).toNat - (ji16).toNat) from (by rw [List.length_drop, List.length_take]; have h_ : ((wrap64 ((ji16) + 4)) : Int) ≤ (l0.length : Int) := of_decide_eq_true (by first | (with_reducible assumption) | assumption); omega)); have h2_ := of_eq_true q189; omega)); (try have qn189 : (2 < ((wrap64 ((ji16) + 4)).toNat - (ji16).toNat)) = True := eq_true (by have h_ := (show ((l0.take ((wrap64 ((ji16) + 4)) : Int).toNat).drop ((ji16) : Int).toNat).length = ((wrap64 ((ji16) + 4)).toNat - (ji16).toNat) from (by rw [List.length_drop, List.length_take]; have h_ : ((wrap64 ((ji16) + 4)) : Int) ≤ (l0.length : Int) := of_decide_eq_true (by first | (with_reducible assumption) | assumption); omega)); have h2_ := of_eq_true qi189; omega)); have p190 : 0 ≤ (3 : Int) := (by omega); have q190 : 3 < (((l0.take ((wrap64 ((ji16) + 4)) : Int).toNat).drop ((ji16) : Int).toNat).length : Int) := of_decide_eq_true (by first | (with_reducible assumption) | assumption); obtain ⟨ad190, e190, hx190_0⟩ := Kd.at_int HR185.out 3 p190 q190; obtain rfl : ad187 = ad190 := (by injection e190); (try simp only [show (3 : Int).toNat = 3 from rfl, Nat.reduceMul, Nat.reduceEqDiff, Go.Addr.add, ↓reduceIte] at hx190_0); have qi190 : (3 < ((l0.take ((wrap64 ((ji16) + 4)) : Int).toNat).drop ((ji16) : Int).toNat).length) = True := eq_true (by omega); (try rw [show ((3 : Int)).toNat = 3 from rfl] at hx190_0); replace hx190_0 := xce HB hx190_0; replace p190 := eq_true p190; replace q190 := eq_true q190; (try have qm190 : (3 < ((((wrap64 ((ji16) + 4)).toNat - (ji16).toNat) : Nat) : Int)) = True := eq_true (by have h_ := (show ((l0.take ((wrap64 ((ji16) + 4)) : Int).toNat).drop ((ji16) : Int).toNat).length = ((wrap64 ((ji16) + 4)).toNat - (ji16).toNat) from (by rw [List.length_drop, List.length_take]; have h_ : ((wrap64 ((ji16) + 4)) : Int) ≤ (l0.length : Int) := of_decide_eq_true (by first | (with_reducible assumption) | assumption); omega)); have h2_ := of_eq_true q190; omega)); (try have qn190 : (3 < ((wrap64 ((ji16) + 4)).toNat - (ji16).toNat)) = True := eq_true (by have h_ := (show ((l0.take ((wrap64 ((ji16) + 4)) : Int).toNat).drop ((ji16) : Int).toNat).length = ((wrap64 ((ji16) + 4)).toNat - (ji16).toNat) from (by rw [List.length_drop, List.length_take]; have h_ : ((wrap64 ((ji16) + 4)) : Int) ≤ (l0.length : Int) := of_decide_eq_true (by first | (with_reducible assumption) | assumption); omega)); have h2_ := of_eq_true qi190; omega))) | (go_at_call 171; (with_reducible refine (spec_Sum.calls kj3 _ _ y182 t186 _ ?side1 ?side2 A20.out).mono ?_); (case side1 => repeat (first | exact (Kd.R_reads' HO184.out).2.2 | (with_reducible refine Kd.C_alloc ?_ _) | (with_reducible refine Kd.C_drewN ?_ _) | (with_reducible refine Kd.C_drew ?_))); (case side2 => exact (Kd.R_reads' HO184.out).2.1); rintro e w' ⟨rfl, ⟨nd, rfl⟩⟩; (try first | exact ⟨rfl, _, World.drewN_drewN _ _ _⟩ | exact ⟨rfl, _, Eq.trans (World.drewN_drewN _ _ _) (congrArg (World.drewN _) (Nat.add_assoc _ _ _))⟩))); try go_wp2_with (first | ((with_reducible refine gate_dst (N := 34) rfl ?_); refine Kd.R_lit (Kd.int .u8) _ 5 ?hg (N := 34) ?hd (xs := ([] : List Int)) (inner := []) (ok := fun _ => True) (okp := fun _ => True) ?hr ?hp (fun _ hk => hk) trivial (Below.refl _ _) (Nat.le_refl _) (by simp) ?_; (case hd => rfl); (case hg => rfl); (case hr => first | (go_simp; done) | (go_simp; rfl)); (case hp => exact (Reps.none _ _)); intro v179 w26 ho27 hb hg_ hnew_; clear hg_ hnew_; (first | rw [← Ny178.out] at ho27 | (simp only [Int.reduceToNat] at ho27; rw [← Ny178.out] at ho27)); have HO180 := Aside0.mk (Kd.R_lower ho27 (below_size xbel)); replace HB := xbs hb; clear hb ho27; obtain ⟨i028, hi028, _, hsz28, _⟩ := info_parts info5; obtain ⟨A28, hcut28, hA28, hC28⟩ := print_mid_of (P := Try.prog) (Value.int .u8) 0 22 5 .i64 .i64 Try.underlying22 hi028 hsz28 A0 c0 l0 t170 (ji16) (of_decide_eq_true (by first | (with_reducible assumption) | assumption)) (by first | omega | exact of_decide_eq_true (by first | (with_reducible assumption) | assumption)) (of_decide_eq_true (by first | (with_reducible assumption) | assumption)) HC0.out; have HR181 := Aside0.mk (Kd.C_of_reads (h1 := fun _ => rfl) (hA28 _ (Kd.reads_of_C HR0.out))); have HC181 := Aside0.mk hC28; clear hA28 hC28 hi028 hsz28; (try rw [← show ((l0.take ((ji16) : Int).toNat).drop (t170 : Int).toNat).length = ((ji16).toNat - t170.toNat) from (by rw [List.length_drop, List.length_take]; have h_ : ((ji16) : Int) ≤ (l0.length : Int) := of_decide_eq_true (by first | (with_reducible assumption) | assumption); omega)] at hcut28)) | ((with_reducible refine gate_builtin (b := .append) (xs := #[.tmp 34, .tmp 40]) rfl ?_); at_builtin; refine Kd.R_append_rows (Kd.int .u8) (w0 := w) w.heap.size rfl (.tmp 34) (.tmp 40) 22 5 (.int .u8 0) 1 rfl Try.underlying22 info5 rfl (by decide) (by omega) v179 y178 ((l0.take ((ji16) : Int).toNat).drop (t170 : Int).toNat) _ _ _ (fun _ => True) (fun _ => False) rfl rfl ?aO ?aR (fun _ _ h => h) (fun _ h => h.elim) ?aF ?aB ?aS ?aL ?_; (case aR => first | (rw [← show ((l0.take ((ji16) : Int).toNat).drop (t170 : Int).toNat).length = ((ji16).toNat - t170.toNat) from (by rw [List.length_drop, List.length_take]; have h_ : ((ji16) : Int) ≤ (l0.length : Int) := of_decide_eq_true (by first | (with_reducible assumption) | assumption); omega)]; exact xcb HR181) | (exact xcb HR181)); (case aB => exact xbel); (case aF => exact (fun _ _ => trivial)); (case aO => exact (by (with_reducible repeat (first | apply Kd.R_alloc | apply Kd.R_drewN | apply Kd.R_drew)); exact HO180.out)); (case aS => exact (below_size xbel)); (case aL => have := LMc15.out; have hlx_ := (show ((l0.take ((ji16) : Int).toNat).drop (t170 : Int).toNat).length = ((ji16).toNat - t170.toNat) from (by rw [List.length_drop, List.length_take]; have h_ : ((ji16) : Int) ≤ (l0.length : Int) := of_decide_eq_true (by first | (with_reducible assumption) | assumption); omega)); omega); intro v183 w29 ho hb hg hat; rw [← Ny182.out] at ho; replace HB := Aside0.mk (hb); have HO184 := Aside0.mk (ho); clear HO180; clear ho hb hg hat; obtain ⟨i030, hi030, _, hsz30, _⟩ := info_parts info5; obtain ⟨A30, hcut30, hA30, hC30⟩ := print_mid_of (P := Try.prog) (Value.int .u8) 0 22 5 .i64 .i64 Try.underlying22 hi030 hsz30 A0 c0 l0 (ji16) (wrap64 ((ji16) + 4)) (of_decide_eq_true (by first | (with_reducible assumption) | assumption)) (by first | omega | exact of_decide_eq_true (by first | (with_reducible assumption) | assumption)) (of_decide_eq_true (by first | (with_reducible assumption) | assumption)) HC0.out; have HR185 := Aside0.mk (Kd.C_of_reads (h1 := fun _ => rfl) (hA30 _ (Kd.reads_of_C HR0.out))); have HC185 := Aside0.mk hC30; clear hA30 hC30 hi030 hsz30; (try rw [← show ((l0.take ((wrap64 ((ji16) + 4)) : Int).toNat).drop ((ji16) : Int).toNat).length = ((wrap64 ((ji16) + 4)).toNat - (ji16).toNat) from (by rw [List.length_drop, List.length_take]; have h_ : ((wrap64 ((ji16) + 4)) : Int) ≤ (l0.length : Int) := of_decide_eq_true (by first | (with_reducible assumption) | assumption); omega)] at hcut30); obtain ⟨Ao31, co31, eo31⟩ := Kd.R_slice HO184.out; subst eo31; have p187 : 0 ≤ (0 : Int) := (by omega); have q187 : 0 < (((l0.take ((wrap64 ((ji16) + 4)) : Int).toNat).drop ((ji16) : Int).toNat).length : Int) := of_decide_eq_true (by first | (with_reducible assumption) | assumption); obtain ⟨ad187, e187, hx187_0⟩ := Kd.at_int HR185.out 0 p187 q187; cases e187; have qi187 : (0 < ((l0.take ((wrap64 ((ji16) + 4)) : Int).toNat).drop ((ji16) : Int).toNat).length) = True := eq_true (by omega); (try rw [show ((0 : Int)).toNat = 0 from rfl] at hx187_0); (try rw [Addr.add_zero'] at hx187_0); replace hx187_0 := xce HB hx187_0; replace p187 := eq_true p187; replace q187 := eq_true q187; (try have qm187 : (0 < ((((wrap64 ((ji16) + 4)).toNat - (ji16).toNat) : Nat) : Int)) = True := eq_true (by have h_ := (show ((l0.take ((wrap64 ((ji16) + 4)) : Int).toNat).drop ((ji16) : Int).toNat).length = ((wrap64 ((ji16) + 4)).toNat - (ji16).toNat) from (by rw [List.length_drop, List.length_take]; have h_ : ((wrap64 ((ji16) + 4)) : Int) ≤ (l0.length : Int) := of_decide_eq_true (by first | (with_reducible assumption) | assumption); omega)); have h2_ := of_eq_true q187; omega)); (try have qn187 : (0 < ((wrap64 ((ji16) + 4)).toNat - (ji16).toNat)) = True := eq_true (by have h_ := (show ((l0.take ((wrap64 ((ji16) + 4)) : Int).toNat).drop ((ji16) : Int).toNat).length = ((wrap64 ((ji16) + 4)).toNat - (ji16).toNat) from (by rw [List.length_drop, List.length_take]; have h_ : ((wrap64 ((ji16) + 4)) : Int) ≤ (l0.length : Int) := of_decide_eq_true (by first | (with_reducible assumption) | assumption); omega)); have h2_ := of_eq_true qi187; omega)); have p188 : 0 ≤ (1 : Int) := (by omega); have q188 : 1 < (((l0.take ((wrap64 ((ji16) + 4)) : Int).toNat).drop ((ji16) : Int).toNat).length : Int) := of_decide_eq_true (by first | (with_reducible assumption) | assumption); obtain ⟨ad188, e188, hx188_0⟩ := Kd.at_int HR185.out 1 p188 q188; obtain rfl : ad187 = ad188 := (by injection e188); (try simp only [show (1 : Int).toNat = 1 from rfl, Nat.reduceMul, Nat.reduceEqDiff, Go.Addr.add, ↓reduceIte] at hx188_0); have qi188 : (1 < ((l0.take ((wrap64 ((ji16) + 4)) : Int).toNat).drop ((ji16) : Int).toNat).length) = True := eq_true (by omega); (try rw [show ((1 : Int)).toNat = 1 from rfl] at hx188_0); replace hx188_0 := xce HB hx188_0; replace p188 := eq_true p188; replace q188 := eq_true q188; (try have qm188 : (1 < ((((wrap64 ((ji16) + 4)).toNat - (ji16).toNat) : Nat) : Int)) = True := eq_true (by have h_ := (show ((l0.take ((wrap64 ((ji16) + 4)) : Int).toNat).drop ((ji16) : Int).toNat).length = ((wrap64 ((ji16) + 4)).toNat - (ji16).toNat) from (by rw [List.length_drop, List.length_take]; have h_ : ((wrap64 ((ji16) + 4)) : Int) ≤ (l0.length : Int) := of_decide_eq_true (by first | (with_reducible assumption) | assumption); omega)); have h2_ := of_eq_true q188; omega)); (try have qn188 : (1 < ((wrap64 ((ji16) + 4)).toNat - (ji16).toNat)) = True := eq_true (by have h_ := (show ((l0.take ((wrap64 ((ji16) + 4)) : Int).toNat).drop ((ji16) : Int).toNat).length = ((wrap64 ((ji16) + 4)).toNat - (ji16).toNat) from (by rw [List.length_drop, List.length_take]; have h_ : ((wrap64 ((ji16) + 4)) : Int) ≤ (l0.length : Int) := of_decide_eq_true (by first | (with_reducible assumption) | assumption); omega)); have h2_ := of_eq_true qi188; omega)); have p189 : 0 ≤ (2 : Int) := (by omega); have q189 : 2 < (((l0.take ((wrap64 ((ji16) + 4)) : Int).toNat).drop ((ji16) : Int).toNat).length : Int) := of_decide_eq_true (by first | (with_reducible assumption) | assumption); obtain ⟨ad189, e189, hx189_0⟩ := Kd.at_int HR185.out 2 p189 q189; obtain rfl : ad187 = ad189 := (by injection e189); (try simp only [show (2 : Int).toNat = 2 from rfl, Nat.reduceMul, Nat.reduceEqDiff, Go.Addr.add, ↓reduceIte] at hx189_0); have qi189 : (2 < ((l0.take ((wrap64 ((ji16) + 4)) : Int).toNat).drop ((ji16) : Int).toNat).length) = True := eq_true (by omega); (try rw [show ((2 : Int)).toNat = 2 from rfl] at hx189_0); replace hx189_0 := xce HB hx189_0; replace p189 := eq_true p189; replace q189 := eq_true q189; (try have qm189 : (2 < ((((wrap64 ((ji16) + 4)).toNat - (ji16).toNat) : Nat) : Int)) = True := eq_true (by have h_ := (show ((l0.take ((wrap64 ((ji16) + 4)) : Int).toNat).drop ((ji16) : Int).toNat).length = ((wrap64 ((ji16) + 4)).toNat - (ji16).toNat) from (by rw [List.length_drop, List.length_take]; have h_ : ((wrap64 ((ji16) + 4)) : Int) ≤ (l0.length : Int) := of_decide_eq_true (by first | (with_reducible assumption) | assumption); omega)); have h2_ := of_eq_true q189; omega)); (try have qn189 : (2 < ((wrap64 ((ji16) + 4)).toNat - (ji16).toNat)) = True := eq_true (by have h_ := (show ((l0.take ((wrap64 ((ji16) + 4)) : Int).toNat).drop ((ji16) : Int).toNat).length = ((wrap64 ((ji16) + 4)).toNat - (ji16).toNat) from (by rw [List.length_drop, List.length_take]; have h_ : ((wrap64 ((ji16) + 4)) : Int) ≤ (l0.length : Int) := of_decide_eq_true (by first | (with_reducible assumption) | assumption); omega)); have h2_ := of_eq_true qi189; omega)); have p190 : 0 ≤ (3 : Int) := (by omega); have q190 : 3 < (((l0.take ((wrap64 ((ji16) + 4)) : Int).toNat).drop ((ji16) : Int).toNat).length : Int) := of_decide_eq_true (by first | (with_reducible assumption) | assumption); obtain ⟨ad190, e190, hx190_0⟩ := Kd.at_int HR185.out 3 p190 q190; obtain rfl : ad187 = ad190 := (by injection e190); (try simp only [show (3 : Int).toNat = 3 from rfl, Nat.reduceMul, Nat.reduceEqDiff, Go.Addr.add, ↓reduceIte] at hx190_0); have qi190 : (3 < ((l0.take ((wrap64 ((ji16) + 4)) : Int).toNat).drop ((ji16) : Int).toNat).length) = True := eq_true (by omega); (try rw [show ((3 : Int)).toNat = 3 from rfl] at hx190_0); replace hx190_0 := xce HB hx190_0; replace p190 := eq_true p190; replace q190 := eq_true q190; (try have qm190 : (3 < ((((wrap64 ((ji16) + 4)).toNat - (ji16).toNat) : Nat) : Int)) = True := eq_true (by have h_ := (show ((l0.take ((wrap64 ((ji16) + 4)) : Int).toNat).drop ((ji16) : Int).toNat).length = ((wrap64 ((ji16) + 4)).toNat - (ji16).toNat) from (by rw [List.length_drop, List.length_take]; have h_ : ((wrap64 ((ji16) + 4)) : Int) ≤ (l0.length : Int) := of_decide_eq_true (by first | (with_reducible assumption) | assumption); omega)); have h2_ := of_eq_true q190; omega)); (try have qn190 : (3 < ((wrap64 ((ji16) + 4)).toNat - (ji16).toNat)) = True := eq_true (by have h_ := (show ((l0.take ((wrap64 ((ji16) + 4)) : Int).toNat).drop ((ji16) : Int).toNat).length = ((wrap64 ((ji16) + 4)).toNat - (ji16).toNat) from (by rw [List.length_drop, List.length_take]; have h_ : ((wrap64 ((ji16) + 4)) : Int) ≤ (l0.length : Int) := of_decide_eq_true (by first | (with_reducible assumption) | assumption); omega)); have h2_ := of_eq_true qi190; omega))) | (go_at_call 171; (with_reducible refine (spec_Sum.calls kj3 _ _ y182 t186 _ ?side1 ?side2 A20.out).mono ?_); (case side1 => repeat (first | exact (Kd.R_reads' HO184.out).2.2 | (with_reducible refine Kd.C_alloc ?_ _) | (with_reducible refine Kd.C_drewN ?_ _) | (with_reducible refine Kd.C_drew ?_))); (case side2 => exact (Kd.R_reads' HO184.out).2.1); rintro e w' ⟨rfl, ⟨nd, rfl⟩⟩; (try first | exact ⟨rfl, _, World.drewN_drewN _ _ _⟩ | exact ⟨rfl, _, Eq.trans (World.drewN_drewN _ _ _) (congrArg (World.drewN _) (Nat.add_assoc _ _ _))⟩))))
                 go_ret3
                 exact ⟨_, by first | rfl | (simp [errW_none, errW_some] <;> rfl) | (simp only [← hji16]; first | rfl | (simp [errW_none, errW_some] <;> rfl)) | (simp [*, errW_none, errW_some] <;> rfl), by (with_reducible repeat (first | apply Kd.R_alloc | apply Kd.R_drewN | apply Kd.R_drew)); exact HO184.out, xbel⟩
                ·rw [if_neg c25] at H
                 have c25b0 : (t186 == (wrap64 ((wrap64 ((wrap64 ((wrap64 (rd ((l0.take ((wrap64 ((ji16) + 4)) : Int).toNat).drop ((ji16) : Int).toNat) 0)) + (wrap64 ((wrap64 (rd ((l0.take ((wrap64 ((ji16) + 4)) : Int).toNat).drop ((ji16) : Int).toNat) 1)) * 256)))) + (wrap64 ((wrap64 (rd ((l0.take ((wrap64 ((ji16) + 4)) : Int).toNat).drop ((ji16) : Int).toNat) 2)) * 65536)))) + (wrap64 ((wrap64 (rd ((l0.take ((wrap64 ((ji16) + 4)) : Int).toNat).drop ((ji16) : Int).toNat) 3)) * 16777216))))) = false := beq_eq_false_iff_ne.mpr c25
                 have c25b1 : (t186 != (wrap64 ((wrap64 ((wrap64 ((wrap64 (rd ((l0.take ((wrap64 ((ji16) + 4)) : Int).toNat).drop ((ji16) : Int).toNat) 0)) + (wrap64 ((wrap64 (rd ((l0.take ((wrap64 ((ji16) + 4)) : Int).toNat).drop ((ji16) : Int).toNat) 1)) * 256)))) + (wrap64 ((wrap64 (rd ((l0.take ((wrap64 ((ji16) + 4)) : Int).toNat).drop ((ji16) : Int).toNat) 2)) * 65536)))) + (wrap64 ((wrap64 (rd ((l0.take ((wrap64 ((ji16) + 4)) : Int).toNat).drop ((ji16) : Int).toNat) 3)) * 16777216))))) = true := bne_iff_ne.mpr c25
                 obtain ⟨y191, hy191⟩ : ∃ y_ : List Int, y_ = (([] : List Int)) := ⟨_, rfl⟩
                 replace H : (some (y191, 0, 3)) = some (r1, r2, r3) := by first | (rw [hy191]; with_reducible exact H) | (have H2_ := (Option.bind_some _ _).symm.trans H; rw [hy191]; with_reducible exact H2_) | (have H2_ := (Option.bind_some _ _).symm.trans H; with_reducible exact H2_) | with_reducible exact H | (rw [hy191]; exact H) | exact H
                 have Ny191 := Aside0.mk hy191
                 clear hy191
                 simp only [Option.some.injEq, Prod.mk.injEq] at H
                 obtain ⟨rfl, rfl, rfl⟩ := H
                 go_wp2_with (first | ((with_reducible refine gate_dst (N := 34) rfl ?_); refine Kd.R_lit (Kd.int .u8) _ 5 ?hg (N := 34) ?hd (xs := ([] : List Int)) (inner := []) (ok := fun _ => True) (okp := fun _ => True) ?hr ?hp (fun _ hk => hk) trivial (Below.refl _ _) (Nat.le_refl _) (by simp) ?_; (case hd => rfl); (case hg => rfl); (case hr => first | (go_simp; done) | (go_simp; rfl)); (case hp => exact (Reps.none _ _)); intro v179 w32 ho33 hb hg_ hnew_; clear hg_ hnew_; (first | rw [← Ny178.out] at ho33 | (simp only [Int.reduceToNat] at ho33; rw [← Ny178.out] at ho33)); have HO180 := Aside0.mk (Kd.R_lower ho33 (below_size xbel)); replace HB := xbs hb; clear hb ho33; obtain ⟨i034, hi034, _, hsz34, _⟩ := info_parts info5; obtain ⟨A34, hcut34, hA34, hC34⟩ := print_mid_of (P := Try.prog) (Value.int .u8) 0 22 5 .i64 .i64 Try.underlying22 hi034 hsz34 A0 c0 l0 t170 (ji16) (of_decide_eq_true (by first | (with_reducible assumption) | assumption)) (by first | omega | exact of_decide_eq_true (by first | (with_reducible assumption) | assumption)) (of_decide_eq_true (by first | (with_reducible assumption) | assumption)) HC0.out; have HR181 := Aside0.mk (Kd.C_of_reads (h1 := fun _ => rfl) (hA34 _ (Kd.reads_of_C HR0.out))); have HC181 := Aside0.mk hC34; clear hA34 hC34 hi034 hsz34; (try rw [← show ((l0.take ((ji16) : Int).toNat).drop (t170 : Int).toNat).length = ((ji16).toNat - t170.toNat) from (by rw [List.length_drop, List.length_take]; have h_ : ((ji16) : Int) ≤ (l0.length : Int) := of_decide_eq_true (by first | (with_reducible assumption) | assumption); omega)] at hcut34)) | ((with_reducible refine gate_builtin (b := .append) (xs := #[.tmp 34, .tmp 40]) rfl ?_); at_builtin; refine Kd.R_append_rows (Kd.int .u8) (w0 := w) w.heap.size rfl (.tmp 34) (.tmp 40) 22 5 (.int .u8 0) 1 rfl Try.underlying22 info5 rfl (by decide) (by omega) v179 y178 ((l0.take ((ji16) : Int).toNat).drop (t170 : Int).toNat) _ _ _ (fun _ => True) (fun _ => False) rfl rfl ?aO ?aR (fun _ _ h => h) (fun _ h => h.elim) ?aF ?aB ?aS ?aL ?_; (case aR => first | (rw [← show ((l0.take ((ji16) : Int).toNat).drop (t170 : Int).toNat).length = ((ji16).toNat - t170.toNat) from (by rw [List.length_drop, List.length_take]; have h_ : ((ji16) : Int) ≤ (l0.length : Int) := of_decide_eq_true (by first | (with_reducible assumption) | assumption); omega)]; exact xcb HR181) | (exact xcb HR181)); (case aB => exact xbel); (case aF => exact (fun _ _ => trivial)); (case aO => exact (by (with_reducible repeat (first | apply Kd.R_alloc | apply Kd.R_drewN | apply Kd.R_drew)); exact HO180.out)); (case aS => exact (below_size xbel)); (case aL => have := LMc15.out; have hlx_ := (show ((l0.take ((ji16) : Int).toNat).drop (t170 : Int).toNat).length = ((ji16).toNat - t170.toNat) from (by rw [List.length_drop, List.length_take]; have h_ : ((ji16) : Int) ≤ (l0.length : Int) := of_decide_eq_true (by first | (with_reducible assumption) | assumption); omega)); omega); intro v183 w35 ho hb hg hat; rw [← Ny182.out] at ho; replace HB := Aside0.mk (hb); have HO184 := Aside0.mk (ho); clear HO180; clear ho hb hg hat; obtain ⟨i036, hi036, _, hsz36, _⟩ := info_parts info5; obtain ⟨A36, hcut36, hA36, hC36⟩ := print_mid_of (P := Try.prog) (Value.int .u8) 0 22 5 .i64 .i64 Try.underlying22 hi036 hsz36 A0 c0 l0 (ji16) (wrap64 ((ji16) + 4)) (of_decide_eq_true (by first | (with_reducible assumption) | assumption)) (by first | omega | exact of_decide_eq_true (by first | (with_reducible assumption) | assumption)) (of_decide_eq_true (by first | (with_reducible assumption) | assumption)) HC0.out; have HR185 := Aside0.mk (Kd.C_of_reads (h1 := fun _ => rfl) (hA36 _ (Kd.reads_of_C HR0.out))); have HC185 := Aside0.mk hC36; clear hA36 hC36 hi036 hsz36; (try rw [← show ((l0.take ((wrap64 ((ji16) + 4)) : Int).toNat).drop ((ji16) : Int).toNat).length = ((wrap64 ((ji16) + 4)).toNat - (ji16).toNat) from (by rw [List.length_drop, List.length_take]; have h_ : ((wrap64 ((ji16) + 4)) : Int) ≤ (l0.length : Int) := of_decide_eq_true (by first | (with_reducible assumption) | assumption); omega)] at hcut36); obtain ⟨Ao37, co37, eo37⟩ := Kd.R_slice HO184.out; subst eo37; have p187 : 0 ≤ (0 : Int) := (by omega); have q187 : 0 < (((l0.take ((wrap64 ((ji16) + 4)) : Int).toNat).drop ((ji16) : Int).toNat).length : Int) := of_decide_eq_true (by first | (with_reducible assumption) | assumption); obtain ⟨ad187, e187, hx187_0⟩ := Kd.at_int HR185.out 0 p187 q187; cases e187; have qi187 : (0 < ((l0.take ((wrap64 ((ji16) + 4)) : Int).toNat).drop ((ji16) : Int).toNat).length) = True := eq_true (by omega); (try rw [show ((0 : Int)).toNat = 0 from rfl] at hx187_0); (try rw [Addr.add_zero'] at hx187_0); replace hx187_0 := xce HB hx187_0; replace p187 := eq_true p187; replace q187 := eq_true q187; (try have qm187 : (0 < ((((wrap64 ((ji16) + 4)).toNat - (ji16).toNat) : Nat) : Int)) = True := eq_true (by have h_ := (show ((l0.take ((wrap64 ((ji16) + 4)) : Int).toNat).drop ((ji16) : Int).toNat).length = ((wrap64 ((ji16) + 4)).toNat - (ji16).toNat) from (by rw [List.length_drop, List.length_take]; have h_ : ((wrap64 ((ji16) + 4)) : Int) ≤ (l0.length : Int) := of_decide_eq_true (by first | (with_reducible assumption) | assumption); omega)); have h2_ := of_eq_true q187; omega)); (try have qn187 : (0 < ((wrap64 ((ji16) + 4)).toNat - (ji16).toNat)) = True := eq_true (by have h_ := (show ((l0.take ((wrap64 ((ji16) + 4)) : Int).toNat).drop ((ji16) : Int).toNat).length = ((wrap64 ((ji16) + 4)).toNat - (ji16).toNat) from (by rw [List.length_drop, List.length_take]; have h_ : ((wrap64 ((ji16) + 4)) : Int) ≤ (l0.length : Int) := of_decide_eq_true (by first | (with_reducible assumption) | assumption); omega)); have h2_ := of_eq_true qi187; omega)); have p188 : 0 ≤ (1 : Int) := (by omega); have q188 : 1 < (((l0.take ((wrap64 ((ji16) + 4)) : Int).toNat).drop ((ji16) : Int).toNat).length : Int) := of_decide_eq_true (by first | (with_reducible assumption) | assumption); obtain ⟨ad188, e188, hx188_0⟩ := Kd.at_int HR185.out 1 p188 q188; obtain rfl : ad187 = ad188 := (by injection e188); (try simp only [show (1 : Int).toNat = 1 from rfl, Nat.reduceMul, Nat.reduceEqDiff, Go.Addr.add, ↓reduceIte] at hx188_0); have qi188 : (1 < ((l0.take ((wrap64 ((ji16) + 4)) : Int).toNat).drop ((ji16) : Int).toNat).length) = True := eq_true (by omega); (try rw [show ((1 : Int)).toNat = 1 from rfl] at hx188_0); replace hx188_0 := xce HB hx188_0; replace p188 := eq_true p188; replace q188 := eq_true q188; (try have qm188 : (1 < ((((wrap64 ((ji16) + 4)).toNat - (ji16).toNat) : Nat) : Int)) = True := eq_true (by have h_ := (show ((l0.take ((wrap64 ((ji16) + 4)) : Int).toNat).drop ((ji16) : Int).toNat).length = ((wrap64 ((ji16) + 4)).toNat - (ji16).toNat) from (by rw [List.length_drop, List.length_take]; have h_ : ((wrap64 ((ji16) + 4)) : Int) ≤ (l0.length : Int) := of_decide_eq_true (by first | (with_reducible assumption) | assumption); omega)); have h2_ := of_eq_true q188; omega)); (try have qn188 : (1 < ((wrap64 ((ji16) + 4)).toNat - (ji16).toNat)) = True := eq_true (by have h_ := (show ((l0.take ((wrap64 ((ji16) + 4)) : Int).toNat).drop ((ji16) : Int).toNat).length = ((wrap64 ((ji16) + 4)).toNat - (ji16).toNat) from (by rw [List.length_drop, List.length_take]; have h_ : ((wrap64 ((ji16) + 4)) : Int) ≤ (l0.length : Int) := of_decide_eq_true (by first | (with_reducible assumption) | assumption); omega)); have h2_ := of_eq_true qi188; omega)); have p189 : 0 ≤ (2 : Int) := (by omega); have q189 : 2 < (((l0.take ((wrap64 ((ji16) + 4)) : Int).toNat).drop ((ji16) : Int).toNat).length : Int) := of_decide_eq_true (by first | (with_reducible assumption) | assumption); obtain ⟨ad189, e189, hx189_0⟩ := Kd.at_int HR185.out 2 p189 q189; obtain rfl : ad187 = ad189 := (by injection e189); (try simp only [show (2 : Int).toNat = 2 from rfl, Nat.reduceMul, Nat.reduceEqDiff, Go.Addr.add, ↓reduceIte] at hx189_0); have qi189 : (2 < ((l0.take ((wrap64 ((ji16) + 4)) : Int).toNat).drop ((ji16) : Int).toNat).length) = True := eq_true (by omega); (try rw [show ((2 : Int)).toNat = 2 from rfl] at hx189_0); replace hx189_0 := xce HB hx189_0; replace p189 := eq_true p189; replace q189 := eq_true q189; (try have qm189 : (2 < ((((wrap64 ((ji16) + 4)).toNat - (ji16).toNat) : Nat) : Int)) = True := eq_true (by have h_ := (show ((l0.take ((wrap64 ((ji16) + 4)) : Int).toNat).drop ((ji16) : Int).toNat).length = ((wrap64 ((ji16) + 4)).toNat - (ji16).toNat) from (by rw [List.length_drop, List.length_take]; have h_ : ((wrap64 ((ji16) + 4)) : Int) ≤ (l0.length : Int) := of_decide_eq_true (by first | (with_reducible assumption) | assumption); omega)); have h2_ := of_eq_true q189; omega)); (try have qn189 : (2 < ((wrap64 ((ji16) + 4)).toNat - (ji16).toNat)) = True := eq_true (by have h_ := (show ((l0.take ((wrap64 ((ji16) + 4)) : Int).toNat).drop ((ji16) : Int).toNat).length = ((wrap64 ((ji16) + 4)).toNat - (ji16).toNat) from (by rw [List.length_drop, List.length_take]; have h_ : ((wrap64 ((ji16) + 4)) : Int) ≤ (l0.length : Int) := of_decide_eq_true (by first | (with_reducible assumption) | assumption); omega)); have h2_ := of_eq_true qi189; omega)); have p190 : 0 ≤ (3 : Int) := (by omega); have q190 : 3 < (((l0.take ((wrap64 ((ji16) + 4)) : Int).toNat).drop ((ji16) : Int).toNat).length : Int) := of_decide_eq_true (by first | (with_reducible assumption) | assumption); obtain ⟨ad190, e190, hx190_0⟩ := Kd.at_int HR185.out 3 p190 q190; obtain rfl : ad187 = ad190 := (by injection e190); (try simp only [show (3 : Int).toNat = 3 from rfl, Nat.reduceMul, Nat.reduceEqDiff, Go.Addr.add, ↓reduceIte] at hx190_0); have qi190 : (3 < ((l0.take ((wrap64 ((ji16) + 4)) : Int).toNat).drop ((ji16) : Int).toNat).length) = True := eq_true (by omega); (try rw [show ((3 : Int)).toNat = 3 from rfl] at hx190_0); replace hx190_0 := xce HB hx190_0; replace p190 := eq_true p190; replace q190 := eq_true q190; (try have qm190 : (3 < ((((wrap64 ((ji16) + 4)).toNat - (ji16).toNat) : Nat) : Int)) = True := eq_true (by have h_ := (show ((l0.take ((wrap64 ((ji16) + 4)) : Int).toNat).drop ((ji16) : Int).toNat).length = ((wrap64 ((ji16) + 4)).toNat - (ji16).toNat) from (by rw [List.length_drop, List.length_take]; have h_ : ((wrap64 ((ji16) + 4)) : Int) ≤ (l0.length : Int) := of_decide_eq_true (by first | (with_reducible assumption) | assumption); omega)); have h2_ := of_eq_true q190; omega)); (try have qn190 : (3 < ((wrap64 ((ji16) + 4)).toNat - (ji16).toNat)) = True := eq_true (by have h_ := (show ((l0.take ((wrap64 ((ji16) + 4)) : Int).toNat).drop ((ji16) : Int).toNat).length = ((wrap64 ((ji16) + 4)).toNat - (ji16).toNat) from (by rw [List.length_drop, List.length_take]; have h_ : ((wrap64 ((ji16) + 4)) : Int) ≤ (l0.length : Int) := of_decide_eq_true (by first | (with_reducible assumption) | assumption); omega)); have h2_ := of_eq_true qi190; omega))) | (go_at_call 171; (with_reducible refine (spec_Sum.calls kj3 _ _ y182 t186 _ ?side1 ?side2 A20.out).mono ?_); (case side1 => repeat (first | exact (Kd.R_reads' HO184.out).2.2 | (with_reducible refine Kd.C_alloc ?_ _) | (with_reducible refine Kd.C_drewN ?_ _) | (with_reducible refine Kd.C_drew ?_))); (case side2 => exact (Kd.R_reads' HO184.out).2.1); rintro e w' ⟨rfl, ⟨nd, rfl⟩⟩; (try first | exact ⟨rfl, _, World.drewN_drewN _ _ _⟩ | exact ⟨rfl, _, Eq.trans (World.drewN_drewN _ _ _) (congrArg (World.drewN _) (Nat.add_assoc _ _ _))⟩)) | ((with_reducible refine gate_dst (N := 76) rfl ?_); refine Kd.R_lit (Kd.int .u8) _ 5 ?hg (N := 76) ?hd (xs := ([] : List Int)) (inner := []) (ok := fun _ => True) (okp := fun _ => True) ?hr ?hp (fun _ hk => hk) trivial (Below.refl _ _) (Nat.le_refl _) (by simp) ?_; (case hd => rfl); (case hg => rfl); (case hr => first | (go_simp; done) | (go_simp; rfl)); (case hp => exact (Reps.none _ _)); intro v192 w38 ho39 hb hg_ hnew_; clear hg_ hnew_; (first | rw [← Ny191.out] at ho39 | (simp only [Int.reduceToNat] at ho39; rw [← Ny191.out] at ho39)); have HO193 := Aside0.mk (Kd.R_lower (Kd.R_new' ho39 (Kd.R_lt (by (with_reducible repeat (first | apply Kd.R_alloc | apply Kd.R_drewN | apply Kd.R_drew)); exact HO184.out))) (below_size xbel)); replace HO184 := Aside0.mk (Kd.R_elder' (by (with_reducible repeat (first | apply Kd.R_alloc | apply Kd.R_drewN | apply Kd.R_drew)); exact HO184.out) (Kd.R_base ho39) hb); replace HB := xbs hb; clear hb ho39))
                 repeat (go_quiet (first | ((with_reducible refine gate_dst (N := 34) rfl ?_); refine Kd.R_lit (Kd.int .u8) _ 5 ?hg (N := 34) ?hd (xs := ([] : List Int)) (inner := []) (ok := fun _ => True) (okp := fun _ => True) ?hr ?hp (fun _ hk => hk) trivial (Below.refl _ _) (Nat.le_refl _) (by simp) ?_; (case hd => rfl); (case hg => rfl); (case hr => first | (go_simp; done) | (go_simp; rfl)); (case hp => exact (Reps.none _ _)); intro v179 w32 ho33 hb hg_ hnew_; clear hg_ hnew_; (first | rw [← Ny178.out] at ho33 | (simp only [Int.reduceToNat] at ho33; rw [← Ny178.out] at ho33)); have HO180 := Aside0.mk (Kd.R_lower ho33 (below_size xbel)); replace HB := xbs hb; clear hb ho33; obtain ⟨i034, hi034, _, hsz34, _⟩ := info_parts info5; obtain ⟨A34, hcut34, hA34, hC34⟩ := print_mid_of (P := Try.prog) (Value.int .u8) 0 22 5 .i64 .i64 Try.underlying22 hi034 hsz34 A0 c0 l0 t170 (ji16) (of_decide_eq_true (by first | (with_reducible assumption) | assumption)) (by first | omega | exact of_decide_eq_true (by first | (with_reducible assumption) | assumption)) (of_decide_eq_true (by first | (with_reducible assumption) | assumption)) HC0.out; have HR181 := Aside0.mk (Kd.C_of_reads (h1 := fun _ => rfl) (hA34 _ (Kd.reads_of_C HR0.out))); have HC181 := Aside0.mk hC34; clear hA34 hC34 hi034 hsz34; (try rw [← show ((l0.take ((ji16) : Int).toNat).drop (t170 : Int).toNat).length = ((ji16).toNat - t170.toNat) from (by rw [List.length_drop, List.length_take]; have h_ : ((ji16) : Int) ≤ (l0.length : Int) := of_decide_eq_true (by first | (with_reducible assumption) | assumption); omega)] at hcut34)) | ((with_reducible refine gate_builtin (b := .append) (xs := #[.tmp 34, .tmp 40]) rfl ?_); at_builtin; refine Kd.R_append_rows (Kd.int .u8) (w0 := w) w.heap.size rfl (.tmp 34) (.tmp 40) 22 5 (.int .u8 0) 1 rfl Try.underlying22 info5 rfl (by decide) (by omega) v179 y178 ((l0.take ((ji16) : Int).toNat).drop (t170 : Int).toNat) _ _ _ (fun _ => True) (fun _ => False) rfl rfl ?aO ?aR (fun _ _ h => h) (fun _ h => h.elim) ?aF ?aB ?aS ?aL ?_; (case aR => first | (rw [← show ((l0.take ((ji16) : Int).toNat).drop (t170 : Int).toNat).length = ((ji16).toNat - t170.toNat) from (by rw [List.length_drop, List.length_take]; have h_ : ((ji16) : Int) ≤ (l0.length : Int) := of_decide_eq_true (by first | (with_reducible assumption) | assumption); omega)]; exact xcb HR181) | (exact xcb HR181)); (case aB => exact xbel); (case aF => exact (fun _ _ => trivial)); (case aO => exact (by (with_reducible repeat (first | apply Kd.R_alloc | apply Kd.R_drewN | apply Kd.R_drew)); exact HO180.out)); (case aS => exact (below_size xbel)); (case aL => have := LMc15.out; have hlx_ := (show ((l0.take ((ji16) : Int).toNat).drop (t170 : Int).toNat).length = ((ji16).toNat - t170.toNat) from (by rw [List.length_drop, List.length_take]; have h_ : ((ji16) : Int) ≤ (l0.length : Int) := of_decide_eq_true (by first | (with_reducible assumption) | assumption); omega)); omega); intro v183 w35 ho hb hg hat; rw [← Ny182.out] at ho; replace HB := Aside0.mk (hb); have HO184 := Aside0.mk (ho); clear HO180; clear ho hb hg hat; obtain ⟨i036, hi036, _, hsz36, _⟩ := info_parts info5; obtain ⟨A36, hcut36, hA36, hC36⟩ := print_mid_of (P := Try.prog) (Value.int .u8) 0 22 5 .i64 .i64 Try.underlying22 hi036 hsz36 A0 c0 l0 (ji16) (wrap64 ((ji16) + 4)) (of_decide_eq_true (by first | (with_reducible assumption) | assumption)) (by first | omega | exact of_decide_eq_true (by first | (with_reducible assumption) | assumption)) (of_decide_eq_true (by first | (with_reducible assumption) | assumption)) HC0.out; have HR185 := Aside0.mk (Kd.C_of_reads (h1 := fun _ => rfl) (hA36 _ (Kd.reads_of_C HR0.out))); have HC185 := Aside0.mk hC36; clear hA36 hC36 hi036 hsz36; (try rw [← show ((l0.take ((wrap64 ((ji16) + 4)) : Int).toNat).drop ((ji16) : Int).toNat).length = ((wrap64 ((ji16) + 4)).toNat - (ji16).toNat) from (by rw [List.length_drop, List.length_take]; have h_ : ((wrap64 ((ji16) + 4)) : Int) ≤ (l0.length : Int) := of_decide_eq_true (by first | (with_reducible assumption) | assumption); omega)] at hcut36); obtain ⟨Ao37, co37, eo37⟩ := Kd.R_slice HO184.out; subst eo37; have p187 : 0 ≤ (0 : Int) := (by omega); have q187 : 0 < (((l0.take ((wrap64 ((ji16) + 4)) : Int).toNat).drop ((ji16) : Int).toNat).length : Int) := of_decide_eq_true (by first | (with_reducible assumption) | assumption); obtain ⟨ad187, e187, hx187_0⟩ := Kd.at_int HR185.out 0 p187 q187; cases e187; have qi187 : (0 < ((l0.take ((wrap64 ((ji16) + 4)) : Int).toNat).drop ((ji16) : Int).toNat).length) = True := eq_true (by omega); (try rw [show ((0 : Int)).toNat = 0 from rfl] at hx187_0); (try rw [Addr.add_zero'] at hx187_0); replace hx187_0 := xce HB hx187_0; replace p187 := eq_true p187; replace q187 := eq_true q187; (try have qm187 : (0 < ((((wrap64 ((ji16) + 4)).toNat - (ji16).toNat) : Nat) : Int)) = True := eq_true (by have h_ := (show ((l0.take ((wrap64 ((ji16) + 4)) : Int).toNat).drop ((ji16) : Int).toNat).length = ((wrap64 ((ji16) + 4)).toNat - (ji16).toNat) from (by rw [List.length_drop, List.length_take]; have h_ : ((wrap64 ((ji16) + 4)) : Int) ≤ (l0.length : Int) := of_decide_eq_true (by first | (with_reducible assumption) | assumption); omega)); have h2_ := of_eq_true q187; omega)); (try have qn187 : (0 < ((wrap64 ((ji16) + 4)).toNat - (ji16).toNat)) = True := eq_true (by have h_ := (show ((l0.take ((wrap64 ((ji16) + 4)) : Int).toNat).drop ((ji16) : Int).toNat).length = ((wrap64 ((ji16) + 4)).toNat - (ji16).toNat) from (by rw [List.length_drop, List.length_take]; have h_ : ((wrap64 ((ji16) + 4)) : Int) ≤ (l0.length : Int) := of_decide_eq_true (by first | (with_reducible assumption) | assumption); omega)); have h2_ := of_eq_true qi187; omega)); have p188 : 0 ≤ (1 : Int) := (by omega); have q188 : 1 < (((l0.take ((wrap64 ((ji16) + 4)) : Int).toNat).drop ((ji16) : Int).toNat).length : Int) := of_decide_eq_true (by first | (with_reducible assumption) | assumption); obtain ⟨ad188, e188, hx188_0⟩ := Kd.at_int HR185.out 1 p188 q188; obtain rfl : ad187 = ad188 := (by injection e188); (try simp only [show (1 : Int).toNat = 1 from rfl, Nat.reduceMul, Nat.reduceEqDiff, Go.Addr.add, ↓reduceIte] at hx188_0); have qi188 : (1 < ((l0.take ((wrap64 ((ji16) + 4)) : Int).toNat).drop ((ji16) : Int).toNat).length) = True := eq_true (by omega); (try rw [show ((1 : Int)).toNat = 1 from rfl] at hx188_0); replace hx188_0 := xce HB hx188_0; replace p188 := eq_true p188; replace q188 := eq_true q188; (try have qm188 : (1 < ((((wrap64 ((ji16) + 4)).toNat - (ji16).toNat) : Nat) : Int)) = True := eq_true (by have h_ := (show ((l0.take ((wrap64 ((ji16) + 4)) : Int).toNat).drop ((ji16) : Int).toNat).length = ((wrap64 ((ji16) + 4)).toNat - (ji16).toNat) from (by rw [List.length_drop, List.length_take]; have h_ : ((wrap64 ((ji16) + 4)) : Int) ≤ (l0.length : Int) := of_decide_eq_true (by first | (with_reducible assumption) | assumption); omega)); have h2_ := of_eq_true q188; omega)); (try have qn188 : (1 < ((wrap64 ((ji16) + 4)).toNat - (ji16).toNat)) = True := eq_true (by have h_ := (show ((l0.take ((wrap64 ((ji16) + 4)) : Int).toNat).drop ((ji16) : Int).toNat).length = ((wrap64 ((ji16) + 4)).toNat - (ji16).toNat) from (by rw [List.length_drop, List.length_take]; have h_ : ((wrap64 ((ji16) + 4)) : Int) ≤ (l0.length : Int) := of_decide_eq_true (by first | (with_reducible assumption) | assumption); omega)); have h2_ := of_eq_true qi188; omega)); have p189 : 0 ≤ (2 : Int) := (by omega); have q189 : 2 < (((l0.take ((wrap64 ((ji16) + 4)) : Int).toNat).drop ((ji16) : Int).toNat).length : Int) := of_decide_eq_true (by first | (with_reducible assumption) | assumption); obtain ⟨ad189, e189, hx189_0⟩ := Kd.at_int HR185.out 2 p189 q189; obtain rfl : ad187 = ad189 := (by injection e189); (try simp only [show (2 : Int).toNat = 2 from rfl, Nat.reduceMul, Nat.reduceEqDiff, Go.Addr.add, ↓reduceIte] at hx189_0); have qi189 : (2 < ((l0.take ((wrap64 ((ji16) + 4)) : Int).toNat).drop ((ji16) : Int).toNat).length) = True := eq_true (by omega); (try rw [show ((2 : Int)).toNat = 2 from rfl] at hx189_0); replace hx189_0 := xce HB hx189_0; replace p189 := eq_true p189; replace q189 := eq_true q189; (try have qm189 : (2 < ((((wrap64 ((ji16) + 4)).toNat - (ji16).toNat) : Nat) : Int)) = True := eq_true (by have h_ := (show ((l0.take ((wrap64 ((ji16) + 4)) : Int).toNat).drop ((ji16) : Int).toNat).length = ((wrap64 ((ji16) + 4)).toNat - (ji16).toNat) from (by rw [List.length_drop, List.length_take]; have h_ : ((wrap64 ((ji16) + 4)) : Int) ≤ (l0.length : Int) := of_decide_eq_true (by first | (with_reducible assumption) | assumption); omega)); have h2_ := of_eq_true q189; omega)); (try have qn189 : (2 < ((wrap64 ((ji16) + 4)).toNat - (ji16).toNat)) = True := eq_true (by have h_ := (show ((l0.take ((wrap64 ((ji16) + 4)) : Int).toNat).drop ((ji16) : Int).toNat).length = ((wrap64 ((ji16) + 4)).toNat - (ji16).toNat) from (by rw [List.length_drop, List.length_take]; have h_ : ((wrap64 ((ji16) + 4)) : Int) ≤ (l0.length : Int) := of_decide_eq_true (by first | (with_reducible assumption) | assumption); omega)); have h2_ := of_eq_true qi189; omega)); have p190 : 0 ≤ (3 : Int) := (by omega); have q190 : 3 < (((l0.take ((wrap64 ((ji16) + 4)) : Int).toNat).drop ((ji16) : Int).toNat).length : Int) := of_decide_eq_true (by first | (with_reducible assumption) | assumption); obtain ⟨ad190, e190, hx190_0⟩ := Kd.at_int HR185.out 3 p190 q190; obtain rfl : ad187 = ad190 := (by injection e190); (try simp only [show (3 : Int).toNat = 3 from rfl, Nat.reduceMul, Nat.reduceEqDiff, Go.Addr.add, ↓reduceIte] at hx190_0); have qi190 : (3 < ((l0.take ((wrap64 ((ji16) + 4)) : Int).toNat).drop ((ji16) : Int).toNat).length) = True := eq_true (by omega); (try rw [show ((3 : Int)).toNat = 3 from rfl] at hx190_0); replace hx190_0 := xce HB hx190_0; replace p190 := eq_true p190; replace q190 := eq_true q190; (try have qm190 : (3 < ((((wrap64 ((ji16) + 4)).toNat - (ji16).toNat) : Nat) : Int)) = True := eq_true (by have h_ := (show ((l0.take ((wrap64 ((ji16) + 4)) : Int).toNat).drop ((ji16) : Int).toNat).length = ((wrap64 ((ji16) + 4)).toNat - (ji16).toNat) from (by rw [List.length_drop, List.length_take]; have h_ : ((wrap64 ((ji16) + 4)) : Int) ≤ (l0.length : Int) := of_decide_eq_true (by first | (with_reducible assumption) | assumption); omega)); have h2_ := of_eq_true q190; omega)); (try have qn190 : (3 < ((wrap64 ((ji16) + 4)).toNat - (ji16).toNat)) = True := eq_true (by have h_ := (show ((l0.take ((wrap64 ((ji16) + 4)) : Int).toNat).drop ((ji16) : Int).toNat).length = ((wrap64 ((ji16) + 4)).toNat - (ji16).toNat) from (by rw [List.length_drop, List.length_take]; have h_ : ((wrap64 ((ji16) + 4)) : Int) ≤ (l0.length : Int) := of_decide_eq_true (by first | (with_reducible assumption) | assumption); omega)); have h2_ := of_eq_true qi190; omega))) | (go_at_call 171; (with_reducible refine (spec_Sum.calls kj3 _ _ y182 t186 _ ?side1 ?side2 A20.out).mono ?_); (case side1 => repeat (first | exact (Kd.R_reads' HO184.out).2.2 | (with_reducible refine Kd.C_alloc ?_ _) | (with_reducible refine Kd.C_drewN ?_ _) | (with_reducible refine Kd.C_drew ?_))); (case side2 => exact (Kd.R_reads' HO184.out).2.1); rintro e w' ⟨rfl, ⟨nd, rfl⟩⟩; (try first | exact ⟨rfl, _, World.drewN_drewN _ _ _⟩ | exact ⟨rfl, _, Eq.trans (World.drewN_drewN _ _ _) (congrArg (World.drewN _) (Nat.add_assoc _ _ _))⟩)) | ((with_reducible refine gate_dst (N := 76) rfl ?_); refine Kd.R_lit (Kd.int .u8) _ 5 ?hg (N := 76) ?hd (xs := ([] : List Int)) (inner := []) (ok := fun _ => True) (okp := fun _ => True) ?hr ?hp (fun _ hk => hk) trivial (Below.refl _ _) (Nat.le_refl _) (by simp) ?_; (case hd => rfl); (case hg => rfl); (case hr => first | (go_simp; done) | (go_simp; rfl)); (case hp => exact (Reps.none _ _)); intro v192 w38 ho39 hb hg_ hnew_; clear hg_ hnew_; (first | rw [← Ny191.out] at ho39 | (simp only [Int.reduceToNat] at ho39; rw [← Ny191.out] at ho39)); have HO193 := Aside0.mk (Kd.R_lower (Kd.R_new' ho39 (Kd.R_lt (by (with_reducible repeat (first | apply Kd.R_alloc | apply Kd.R_drewN | apply Kd.R_drew)); exact HO184.out))) (below_size xbel)); replace HO184 := Aside0.mk (Kd.R_elder' (by (with_reducible repeat (first | apply Kd.R_alloc | apply Kd.R_drewN | apply Kd.R_drew)); exact HO184.out) (Kd.R_base ho39) hb); replace HB := xbs hb; clear hb ho39)); try go_wp2_with (first | ((with_reducible refine gate_dst (N := 34) rfl ?_); refine Kd.R_lit (Kd.int .u8) _ 5 ?hg (N := 34) ?hd (xs := ([] : List Int)) (inner := []) (ok := fun _ => True) (okp := fun _ => True) ?hr ?hp (fun _ hk => hk) trivial (Below.refl _ _) (Nat.le_refl _) (by simp) ?_; (case hd => rfl); (case hg => rfl); (case hr => first | (go_simp; done) | (go_simp; rfl)); (case hp => exact (Reps.none _ _)); intro v179 w32 ho33 hb hg_ hnew_; clear hg_ hnew_; (first | rw [← Ny178.out] at ho33 | (simp only [Int.reduceToNat] at ho33; rw [← Ny178.out] at ho33)); have HO180 := Aside0.mk (Kd.R_lower ho33 (below_size xbel)); replace HB := xbs hb; clear hb ho33; obtain ⟨i034, hi034, _, hsz34, _⟩ := info_parts info5; obtain ⟨A34, hcut34, hA34, hC34⟩ := print_mid_of (P := Try.prog) (Value.int .u8) 0 22 5 .i64 .i64 Try.underlying22 hi034 hsz34 A0 c0 l0 t170 (ji16) (of_decide_eq_true (by first | (with_reducible assumption) | assumption)) (by first | omega | exact of_decide_eq_true (by first | (with_reducible assumption) | assumption)) (of_decide_eq_true (by first | (with_reducible assumption) | assumption)) HC0.out; have HR181 := Aside0.mk (Kd.C_of_reads (h1 := fun _ => rfl) (hA34 _ (Kd.reads_of_C HR0.out))); have HC181 := Aside0.mk hC34; clear hA34 hC34 hi034 hsz34; (try rw [← show ((l0.take ((ji16) : Int).toNat).drop (t170 : Int).toNat).length = ((ji16).toNat - t170.toNat) from (by rw [List.length_drop, List.length_take]; have h_ : ((ji16) : Int) ≤ (l0.length : Int) := of_decide_eq_true (by first | (with_reducible assumption) | assumption); omega)] at hcut34)) | ((with_reducible refine gate_builtin (b := .append) (xs := #[.tmp 34, .tmp 40]) rfl ?_); at_builtin; refine Kd.R_append_rows (Kd.int .u8) (w0 := w) w.heap.size rfl (.tmp 34) (.tmp 40) 22 5 (.int .u8 0) 1 rfl Try.underlying22 info5 rfl (by decide) (by omega) v179 y178 ((l0.take ((ji16) : Int).toNat).drop (t170 : Int).toNat) _ _ _ (fun _ => True) (fun _ => False) rfl rfl ?aO ?aR (fun _ _ h => h) (fun _ h => h.elim) ?aF ?aB ?aS ?aL ?_; (case aR => first | (rw [← show ((l0.take ((ji16) : Int).toNat).drop (t170 : Int).toNat).length = ((ji16).toNat - t170.toNat) from (by rw [List.length_drop, List.length_take]; have h_ : ((ji16) : Int) ≤ (l0.length : Int) := of_decide_eq_true (by first | (with_reducible assumption) | assumption); omega)]; exact xcb HR181) | (exact xcb HR181)); (case aB => exact xbel); (case aF => exact (fun _ _ => trivial)); (case aO => exact (by (with_reducible repeat (first | apply Kd.R_alloc | apply Kd.R_drewN | apply Kd.R_drew)); exact HO180.out)); (case aS => exact (below_size xbel)); (case aL => have := LMc15.out; have hlx_ := (show ((l0.take ((ji16) : Int).toNat).drop (t170 : Int).toNat).length = ((ji16).toNat - t170.toNat) from (by rw [List.length_drop, List.length_take]; have h_ : ((ji16) : Int) ≤ (l0.length : Int) := of_decide_eq_true (by first | (with_reducible assumption) | assumption); omega)); omega); intro v183 w35 ho hb hg hat; rw [← Ny182.out] at ho; replace HB := Aside0.mk (hb); have HO184 := Aside0.mk (ho); clear HO180; clear ho hb hg hat; obtain ⟨i036, hi036, _, hsz36, _⟩ := info_parts info5; obtain ⟨A36, hcut36, hA36, hC36⟩ := print_mid_of (P := Try.prog) (Value.int .u8) 0 22 5 .i64 .i64 Try.underlying22 hi036 hsz36 A0 c0 l0 (ji16) (wrap64 ((ji16) + 4)) (of_decide_eq_true (by first | (with_reducible assumption) | assumption)) (by first | omega | exact of_decide_eq_true (by first | (with_reducible assumption) | assumption)) (of_decide_eq_true (by first | (with_reducible assumption) | assumption)) HC0.out; have HR185 := Aside0.mk (Kd.C_of_reads (h1 := fun _ => rfl) (hA36 _ (Kd.reads_of_C HR0.out))); have HC185 := Aside0.mk hC36; clear hA36 hC36 hi036 hsz36; (try rw [← show ((l0.take ((wrap64 ((ji16) + 4)) : Int).toNat).drop ((ji16) : Int).toNat).length = ((wrap64 ((ji16) + 4)).toNat - (ji16).toNat) from (by rw [List.length_drop, List.length_take]; have h_ : ((wrap64 ((ji16) + 4)) : Int) ≤ (l0.length : Int) := of_decide_eq_true (by first | (with_reducible assumption) | assumption); omega)] at hcut36); obtain ⟨Ao37, co37, eo37⟩ := Kd.R_slice HO184.out; subst eo37; have p187 : 0 ≤ (0 : Int) := (by omega); have q187 : 0 < (((l0.take ((wrap64 ((ji16) + 4)) : Int).toNat).drop ((ji16) : Int).toNat).length : Int) := of_decide_eq_true (by first | (with_reducible assumption) | assumption); obtain ⟨ad187, e187, hx187_0⟩ := Kd.at_int HR185.out 0 p187 q187; cases e187; have qi187 : (0 < ((l0.take ((wrap64 ((ji16) + 4)) : Int).toNat).drop ((ji16) : Int).toNat).length) = True := eq_true (by omega); (try rw [show ((0 : Int)).toNat = 0 from rfl] at hx187_0); (try rw [Addr.add_zero'] at hx187_0); replace hx187_0 := xce HB hx187_0; replace p187 := eq_true p187; replace q187 := eq_true q187; (try have qm187 : (0 < ((((wrap64 ((ji16) + 4)).toNat - (ji16).toNat) : Nat) : Int)) = True := eq_true (by have h_ := (show ((l0.take ((wrap64 ((ji16) + 4)) : Int).toNat).drop ((ji16) : Int).toNat).length = ((wrap64 ((ji16) + 4)).toNat - (ji16).toNat) from (by rw [List.length_drop, List.length_take]; have h_ : ((wrap64 ((ji16) + 4)) : Int) ≤ (l0.length : Int) := of_decide_eq_true (by first | (with_reducible assumption) | assumption); omega)); have h2_ := of_eq_true q187; omega)); (try have qn187 : (0 < ((wrap64 ((ji16) + 4)).toNat - (ji16).toNat)) = True := eq_true (by have h_ := (show ((l0.take ((wrap64 ((ji16) + 4)) : Int).toNat).drop ((ji16) : Int).toNat).length = ((wrap64 ((ji16) + 4)).toNat - (ji16).toNat) from (by rw [List.length_drop, List.length_take]; have h_ : ((wrap64 ((ji16) + 4)) : Int) ≤ (l0.length : Int) := of_decide_eq_true (by first | (with_reducible assumption) | assumption); omega)); have h2_ := of_eq_true qi187; omega)); have p188 : 0 ≤ (1 : Int) := (by omega); have q188 : 1 < (((l0.take ((wrap64 ((ji16) + 4)) : Int).toNat).drop ((ji16) : Int).toNat).length : Int) := of_decide_eq_true (by first | (with_reducible assumption) | assumption); obtain ⟨ad188, e188, hx188_0⟩ := Kd.at_int HR185.out 1 p188 q188; obtain rfl : ad187 = ad188 := (by injection e188); (try simp only [show (1 : Int).toNat = 1 from rfl, Nat.reduceMul, Nat.reduceEqDiff, Go.Addr.add, ↓reduceIte] at hx188_0); have qi188 : (1 < ((l0.take ((wrap64 ((ji16) + 4)) : Int).toNat).drop ((ji16) : Int).toNat).length) = True := eq_true (by omega); (try rw [show ((1 : Int)).toNat = 1 from rfl] at hx188_0); replace hx188_0 := xce HB hx188_0; replace p188 := eq_true p188; replace q188 := eq_true q188; (try have qm188 : (1 < ((((wrap64 ((ji16) + 4)).toNat - (ji16).toNat) : Nat) : Int)) = True := eq_true (by have h_ := (show ((l0.take ((wrap64 ((ji16) + 4)) : Int).toNat).drop ((ji16) : Int).toNat).length = ((wrap64 ((ji16) + 4)).toNat - (ji16).toNat) from (by rw [List.length_drop, List.length_take]; have h_ : ((wrap64 ((ji16) + 4)) : Int) ≤ (l0.length : Int) := of_decide_eq_true (by first | (with_reducible assumption) | assumption); omega)); have h2_ := of_eq_true q188; omega)); (try have qn188 : (1 < ((wrap64 ((ji16) + 4)).toNat - (ji16).toNat)) = True := eq_true (by have h_ := (show ((l0.take ((wrap64 ((ji16) + 4)) : Int).toNat).drop ((ji16) : Int).toNat).length = ((wrap64 ((ji16) + 4)).toNat - (ji16).toNat) from (by rw [List.length_drop, List.length_take]; have h_ : ((wrap64 ((ji16) + 4)) : Int) ≤ (l0.length : Int) := of_decide_eq_true (by first | (with_reducible assumption) | assumption); omega)); have h2_ := of_eq_true qi188; omega)); have p189 : 0 ≤ (2 : Int) := (by omega); have q189 : 2 < (((l0.take ((wrap64 ((ji16) + 4)) : Int).toNat).drop ((ji16) : Int).toNat).length : Int) := of_decide_eq_true (by first | (with_reducible assumption) | assumption); obtain ⟨ad189, e189, hx189_0⟩ := Kd.at_int HR185.out 2 p189 q189; obtain rfl : ad187 = ad189 := (by injection e189); (try simp only [show (2 : Int).toNat = 2 from rfl, Nat.reduceMul, Nat.reduceEqDiff, Go.Addr.add, ↓reduceIte] at hx189_0); have qi189 : (2 < ((l0.take ((wrap64 ((ji16) + 4)) : Int).toNat).drop ((ji16) : Int).toNat).length) = True := eq_true (by omega); (try rw [show ((2 : Int)).toNat = 2 from rfl] at hx189_0); replace hx189_0 := xce HB hx189_0; replace p189 := eq_true p189; replace q189 := eq_true q189; (try have qm189 : (2 < ((((wrap64 ((ji16) + 4)).toNat - (ji16).toNat) : Nat) : Int)) = True := eq_true (by have h_ := (show ((l0.take ((wrap64 ((ji16) + 4)) : Int).toNat).drop ((ji16) : Int).toNat).length = ((wrap64 ((ji16) + 4)).toNat - (ji16).toNat) from (by rw [List.length_drop, List.length_take]; have h_ : ((wrap64 ((ji16) + 4)) : Int) ≤ (l0.length : Int) := of_decide_eq_true (by first | (with_reducible assumption) | assumption); omega)); have h2_ := of_eq_true q189; omega)); (try have qn189 : (2 < ((wrap64 ((ji16) + 4)).toNat - (ji16).toNat)) = True := eq_true (by have h_ := (show ((l0.take ((wrap64 ((ji16) + 4)) : Int).toNat).drop ((ji16) : Int).toNat).length = ((wrap64 ((ji16) + 4)).toNat - (ji16).toNat) from (by rw [List.length_drop, List.length_take]; have h_ : ((wrap64 ((ji16) + 4)) : Int) ≤ (l0.length : Int) := of_decide_eq_true (by first | (with_reducible assumption) | assumption); omega)); have h2_ := of_eq_true qi189; omega)); have p190 : 0 ≤ (3 : Int) := (by omega); have q190 : 3 < (((l0.take ((wrap64 ((ji16) + 4)) : Int).toNat).drop ((ji16) : Int).toNat).length : Int) := of_decide_eq_true (by first | (with_reducible assumption) | assumption); obtain ⟨ad190, e190, hx190_0⟩ := Kd.at_int HR185.out 3 p190 q190; obtain rfl : ad187 = ad190 := (by injection e190); (try simp only [show (3 : Int).toNat = 3 from rfl, Nat.reduceMul, Nat.reduceEqDiff, Go.Addr.add, ↓reduceIte] at hx190_0); have qi190 : (3 < ((l0.take ((wrap64 ((ji16) + 4)) : Int).toNat).drop ((ji16) : Int).toNat).length) = True := eq_true (by omega); (try rw [show ((3 : Int)).toNat = 3 from rfl] at hx190_0); replace hx190_0 := xce HB hx190_0; replace p190 := eq_true p190; replace q190 := eq_true q190; (try have qm190 : (3 < ((((wrap64 ((ji16) + 4)).toNat - (ji16).toNat) : Nat) : Int)) = True := eq_true (by have h_ := (show ((l0.take ((wrap64 ((ji16) + 4)) : Int).toNat).drop ((ji16) : Int).toNat).length = ((wrap64 ((ji16) + 4)).toNat - (ji16).toNat) from (by rw [List.length_drop, List.length_take]; have h_ : ((wrap64 ((ji16) + 4)) : Int) ≤ (l0.length : Int) := of_decide_eq_true (by first | (with_reducible assumption) | assumption); omega)); have h2_ := of_eq_true q190; omega)); (try have qn190 : (3 < ((wrap64 ((ji16) + 4)).toNat - (ji16).toNat)) = True := eq_true (by have h_ := (show ((l0.take ((wrap64 ((ji16) + 4)) : Int).toNat).drop ((ji16) : Int).toNat).length = ((wrap64 ((ji16) + 4)).toNat - (ji16).toNat) from (by rw [List.length_drop, List.length_take]; have h_ : ((wrap64 ((ji16) + 4)) : Int) ≤ (l0.length : Int) := of_decide_eq_true (by first | (with_reducible assumption) | assumption); omega)); have h2_ := of_eq_true qi190; omega))) | (go_at_call 171; (with_reducible refine (spec_Sum.calls kj3 _ _ y182 t186 _ ?side1 ?side2 A20.out).mono ?_); (case side1 => repeat (first | exact (Kd.R_reads' HO184.out).2.2 | (with_reducible refine Kd.C_alloc ?_ _) | (with_reducible refine Kd.C_drewN ?_ _) | (with_reducible refine Kd.C_drew ?_))); (case side2 => exact (Kd.R_reads' HO184.out).2.1); rintro e w' ⟨rfl, ⟨nd, rfl⟩⟩; (try first | exact ⟨rfl, _, World.drewN_drewN _ _ _⟩ | exact ⟨rfl, _, Eq.trans (World.drewN_drewN _ _ _) (congrArg (World.drewN _) (Nat.add_assoc _ _ _))⟩)) | ((with_reducible refine gate_dst (N := 76) rfl ?_); refine Kd.R_lit (Kd.int .u8) _ 5 ?hg (N := 76) ?hd (xs := ([] : List Int)) (inner := []) (ok := fun _ => True) (okp := fun _ => True) ?hr ?hp (fun _ hk => hk) trivial (Below.refl _ _) (Nat.le_refl _) (by simp) ?_; (case hd => rfl); (case hg => rfl); (case hr => first | (go_simp; done) | (go_simp; rfl)); (case hp => exact (Reps.none _ _)); intro v192 w38 ho39 hb hg_ hnew_; clear hg_ hnew_; (first | rw [← Ny191.out] at ho39 | (simp only [Int.reduceToNat] at ho39; rw [← Ny191.out] at ho39)); have HO193 := Aside0.mk (Kd.R_lower (Kd.R_new' ho39 (Kd.R_lt (by (with_reducible repeat (first | apply Kd.R_alloc | apply Kd.R_drewN | apply Kd.R_drew)); exact HO184.out))) (below_size xbel)); replace HO184 := Aside0.mk (Kd.R_elder' (by (with_reducible repeat (first | apply Kd.R_alloc | apply Kd.R_drewN | apply Kd.R_drew)); exact HO184.out) (Kd.R_base ho39) hb); replace HB := xbs hb; clear hb ho39)))
                 go_ret3
                 exact ⟨_, by first | rfl | (simp [errW_none, errW_some] <;> rfl) | (simp only [← hji16]; first | rfl | (simp [errW_none, errW_some] <;> rfl)) | (simp [*, errW_none, errW_some] <;> rfl), by (with_reducible repeat (first | apply Kd.R_alloc | apply Kd.R_drewN | apply Kd.R_drew)); exact Kd.R_mono HO193.out (fun _ hk => trivial), xbel⟩
               ·rw [if_neg c24] at H
                exact absurd H (by simp)
              ·rw [if_neg c23] at H
               exact absurd H (by simp)
             ·rw [if_neg c22] at H
              exact absurd H (by simp)
            ·rw [if_neg c21] at H
             exact absurd H (by simp)
           ·rw [if_neg c19] at H
            exact absurd H (by simp)
          ·rw [if_neg c18] at H
           exact absurd H (by simp)
         ·rw [if_neg c17] at H
          exact absurd H (by simp)
        ·rw [if_neg c15] at H
         exact absurd H (by simp)
       ·rw [if_neg c14] at H
        exact absurd H (by simp)
      ·rw [if_neg c13] at H
       exact absurd H (by simp)
     ·rw [if_neg c12] at H
      exact absurd H (by simp)

end Go.Proofs.Ytnjpfllmcmomoaa.QFnExactJournalMend
