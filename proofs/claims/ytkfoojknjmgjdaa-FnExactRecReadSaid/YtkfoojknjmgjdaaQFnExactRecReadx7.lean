-- A walk, by a program of this session.
import Derived.Test.YtkfoojknjmgjdaaQFnExactRecReadx0
import Derived.Test.YtkfoojknjmgjdaaQFnExactRecReadx2
import Derived.Test.YtkfoojknjmgjdaaQFnExactRecReadx5
import Derived.Test.YtkfoojknjmgjdaaQFnExactRecReadx6
namespace Go.Proofs.Ytkfoojknjmgjdaa.QFnExactRecRead
open Go.RowKit Go.Proofs.YtkfoojknjmgjdaaW.PrintWords Go.Proofs.YtkfoojknjmgjdaaW.PrintLast Go.Proofs.YtkfoojknjmgjdaaW.PrintMore
attribute [local go_sem] max2_int min2_int max_two min_two max_three min_three max_four min_four   -- for this text's walks alone
set_option linter.unusedVariables false
set_option linter.unusedSimpArgs false

attribute [local go_sem high] eqA52
/-! ### impl_RecOk: function 100 -/
def impl_RecOk.f (k : Nat) (a0_0 : Int) (a0_1 : Int) (a0_2 : Int) (a0_3 : Int) (a0_4 : Int) (a0_5 : Int) (a0_6 : Int) (a0_7 : Int) (a0_8 : Int) (a0_9 : ByteArray) : Option (Bool) := if a0_0 = 1 then ((impl_isWhole.f a0_1).bind fun t132 => (if t132 = true then ((impl_within.f a0_2 0 5).bind fun t133 => (if t133 = true then (if a0_3 = 0 then (some (a0_4 == 0 && ((a0_5 == 0 && (a0_6 == 0 && (a0_7 == 0 && (a0_8 == 0 && (a0_9.toList == ([] : List UInt8))))))))) else (some false)) else (some false))) else (some false))) else (if a0_0 = 2 then ((impl_within.f a0_3 1 80).bind fun t134 => (if t134 = true then ((impl_entryOk.f k a0_4 a0_5 a0_6 a0_7 a0_8 a0_9).bind fun t135 => (if t135 = true then (if a0_1 = 0 then (some (a0_2 == 0)) else (some false)) else (some false))) else (some false))) else (if a0_0 = 3 then ((impl_within.f a0_3 0 80).bind fun t136 => (if t136 = true then (if a0_1 = 0 then (if a0_2 = 0 then (some (a0_4 == 0 && ((a0_5 == 0 && (a0_6 == 0 && (a0_7 == 0 && (a0_8 == 0 && (a0_9.toList == ([] : List UInt8))))))))) else (some false)) else (some false)) else (some false))) else (some false)))
theorem impl_RecOk.mono : ∀ a0 a1 a2 a3 a4 a5 a6 a7 a8 a9 k, LeO (impl_RecOk.f k a0 a1 a2 a3 a4 a5 a6 a7 a8 a9) (impl_RecOk.f (k + 1) a0 a1 a2 a3 a4 a5 a6 a7 a8 a9) := by
 intro a0 a1 a2 a3 a4 a5 a6 a7 a8 a9 k
 unfold impl_RecOk.f
 repeat' first
  | (with_reducible exact impl_entryOk.mono _ _ _ _ _ _ _)
  | (with_reducible exact LeO.refl _)
  | (with_reducible exact LeO.none _)
  | (with_reducible refine LeO.ite ?_ ?_)
  | (with_reducible refine LeO.bind ?_ (fun _ => ?_))
  | exact impl_entryOk.mono _ _ _ _ _ _ _
  | exact LeO.none _
  | refine LeO.ite ?_ ?_
  | refine LeO.bind ?_ (fun _ => ?_)
set_option maxHeartbeats 8000000 in
set_option maxRecDepth 100000 in
theorem impl_RecOk.calls (k : Nat) (a0_0 : Int) (a0_1 : Int) (a0_2 : Int) (a0_3 : Int) (a0_4 : Int) (a0_5 : Int) (a0_6 : Int) (a0_7 : Int) (a0_8 : Int) (a0_9 : ByteArray) (r : Bool) (w : World) (h : impl_RecOk.f k a0_0 a0_1 a0_2 a0_3 a0_4 a0_5 a0_6 a0_7 a0_8 a0_9 = some r) :
 Calls Try.prog 100 #[.agg #[.int .i64 a0_0, .int .i64 a0_1, .int .i64 a0_2, .int .i64 a0_3, .int .i64 a0_4, .int .i64 a0_5, .int .i64 a0_6, .int .i64 a0_7, .int .i64 a0_8, .string a0_9]] w fun e w' => e = .returned (.bool r) ∧ Below w.heap.size w w' := by
 have hu54 := Try.underlying54
 have hu52 := Try.underlying52
 have HB := Aside0.mk (Below.refl w.heap.size w)
 have H : (if a0_0 = 1 then ((impl_isWhole.f a0_1).bind fun t132 => (if t132 = true then ((impl_within.f a0_2 0 5).bind fun t133 => (if t133 = true then (if a0_3 = 0 then (some (a0_4 == 0 && ((a0_5 == 0 && (a0_6 == 0 && (a0_7 == 0 && (a0_8 == 0 && (a0_9.toList == ([] : List UInt8))))))))) else (some false)) else (some false))) else (some false))) else (if a0_0 = 2 then ((impl_within.f a0_3 1 80).bind fun t134 => (if t134 = true then ((impl_entryOk.f k a0_4 a0_5 a0_6 a0_7 a0_8 a0_9).bind fun t135 => (if t135 = true then (if a0_1 = 0 then (some (a0_2 == 0)) else (some false)) else (some false))) else (some false))) else (if a0_0 = 3 then ((impl_within.f a0_3 0 80).bind fun t136 => (if t136 = true then (if a0_1 = 0 then (if a0_2 = 0 then (some (a0_4 == 0 && ((a0_5 == 0 && (a0_6 == 0 && (a0_7 == 0 && (a0_8 == 0 && (a0_9.toList == ([] : List UInt8))))))))) else (some false)) else (some false)) else (some false))) else (some false)))) = some r := h
 clear h
 by_cases c2 : a0_0 = 1
 ·rw [if_pos c2] at H
  have c2b0 : (a0_0 == 1) = true := beq_iff_eq.mpr c2
  have c2b1 : (a0_0 != 1) = false := bne_eq_false_iff_eq.mpr c2
  clear c2
  replace H := Option.bind_eq_some_iff.mp H
  obtain ⟨t132, A30, H⟩ := H
  replace H : (if t132 = true then ((impl_within.f a0_2 0 5).bind fun t133 => (if t133 = true then (if a0_3 = 0 then (some (a0_4 == 0 && ((a0_5 == 0 && (a0_6 == 0 && (a0_7 == 0 && (a0_8 == 0 && (a0_9.toList == ([] : List UInt8))))))))) else (some false)) else (some false))) else (some false)) = some r := H
  have A3 := Aside0.mk A30
  clear A30
  by_cases c4 : t132 = true
  ·subst c4
   have H1 : ((impl_within.f a0_2 0 5).bind fun t133 => (if t133 = true then (if a0_3 = 0 then (some (a0_4 == 0 && ((a0_5 == 0 && (a0_6 == 0 && (a0_7 == 0 && (a0_8 == 0 && (a0_9.toList == ([] : List UInt8))))))))) else (some false)) else (some false))) = some r := by rw [if_pos rfl] at H; exact H
   clear H
   have H := H1
   clear H1
   replace H := Option.bind_eq_some_iff.mp H
   obtain ⟨t133, A50, H⟩ := H
   replace H : (if t133 = true then (if a0_3 = 0 then (some (a0_4 == 0 && ((a0_5 == 0 && (a0_6 == 0 && (a0_7 == 0 && (a0_8 == 0 && (a0_9.toList == ([] : List UInt8))))))))) else (some false)) else (some false)) = some r := H
   have A5 := Aside0.mk A50
   clear A50
   by_cases c6 : t133 = true
   ·subst c6
    have H1 : (if a0_3 = 0 then (some (a0_4 == 0 && ((a0_5 == 0 && (a0_6 == 0 && (a0_7 == 0 && (a0_8 == 0 && (a0_9.toList == ([] : List UInt8))))))))) else (some false)) = some r := by rw [if_pos rfl] at H; exact H
    clear H
    have H := H1
    clear H1
    by_cases c7 : a0_3 = 0
    ·rw [if_pos c7] at H
     have c7b0 : (a0_3 == 0) = true := beq_iff_eq.mpr c7
     have c7b1 : (a0_3 != 0) = false := bne_eq_false_iff_eq.mpr c7
     clear c7
     obtain rfl := Option.some.inj H
     go_enter Try.func100, Try.ntmps100
     go_wp2_with (first | ((with_reducible refine gate_dst (N := 1) rfl ?_); refine box_event ?hg (N := 1) ?hd (cs := #[.int .i64 a0_0, .int .i64 a0_1, .int .i64 a0_2, .int .i64 a0_3, .int .i64 a0_4, .int .i64 a0_5, .int .i64 a0_6, .int .i64 a0_7, .int .i64 a0_8, .string a0_9]) (t := 54) ?hr ?_; (case hd => rfl); (case hg => rfl); (case hr => first | (go_simp; done) | (go_simp; rfl)); intro gb131 hg w8 hbox hb; have n0_ := Aside0.mk (below_step xbel hb); have n1_ := Aside0.mk (hbox); have n2_ := Aside0.mk ((by rw [hg]; exact (below_size xbel) : w.heap.size ≤ gb131)); have n3_ := Aside0.mk ((by rw [hg]; exact (below_size xbel) : w.heap.size ≤ gb131)); clear HB; have HB := n0_; have BK131 := n1_; have GW131 := n2_; have GE131 := n3_; clear n0_ n1_ n2_ n3_; clear hb hbox hg; have hcz9_0 : w8.cell? ⟨gb131, 0, none⟩ = some (.int .i64 a0_0) := (blk_cell BK131.out 0).trans rfl; have hcz9_1 : w8.cell? ⟨gb131, 1, none⟩ = some (.int .i64 a0_1) := (blk_cell BK131.out 1).trans rfl; have hcz9_2 : w8.cell? ⟨gb131, 2, none⟩ = some (.int .i64 a0_2) := (blk_cell BK131.out 2).trans rfl; have hcz9_3 : w8.cell? ⟨gb131, 3, none⟩ = some (.int .i64 a0_3) := (blk_cell BK131.out 3).trans rfl; have hcz9_4 : w8.cell? ⟨gb131, 4, none⟩ = some (.int .i64 a0_4) := (blk_cell BK131.out 4).trans rfl; have hcz9_5 : w8.cell? ⟨gb131, 5, none⟩ = some (.int .i64 a0_5) := (blk_cell BK131.out 5).trans rfl; have hcz9_6 : w8.cell? ⟨gb131, 6, none⟩ = some (.int .i64 a0_6) := (blk_cell BK131.out 6).trans rfl; have hcz9_7 : w8.cell? ⟨gb131, 7, none⟩ = some (.int .i64 a0_7) := (blk_cell BK131.out 7).trans rfl; have hcz9_8 : w8.cell? ⟨gb131, 8, none⟩ = some (.int .i64 a0_8) := (blk_cell BK131.out 8).trans rfl; have hcz9_9 : w8.cell? ⟨gb131, 9, none⟩ = some (.string a0_9) := (blk_cell BK131.out 9).trans rfl; have hfz9_0 := blk_frozen BK131.out 0; have hfz9_1 := blk_frozen BK131.out 1; have hfz9_2 := blk_frozen BK131.out 2; have hfz9_3 := blk_frozen BK131.out 3; have hfz9_4 := blk_frozen BK131.out 4; have hfz9_5 := blk_frozen BK131.out 5; have hfz9_6 := blk_frozen BK131.out 6; have hfz9_7 := blk_frozen BK131.out 7; have hfz9_8 := blk_frozen BK131.out 8; have hfz9_9 := blk_frozen BK131.out 9) | ((with_reducible refine gate_callee (f := 149) rfl ?_); refine goesL_ (some 9) rfl rfl Try.func149 (by kernel_rfl) rfl #[.int .i64 a0_1] rfl (by (try simp only [List.map_toArray, List.map_cons, List.map_nil]); first | done | rfl | (simp only [List.length_drop, List.length_take]; rfl)) ?_; (with_reducible refine (impl_isWhole.calls a0_1 true _ A3.out).mono ?_); rintro e w' ⟨rfl, ⟨nd, rfl⟩⟩; refine ⟨_, rfl, ?_⟩) | (go_at_call 79; (with_reducible refine (impl_within.calls a0_2 0 5 true _ A5.out).mono ?_); rintro e w' ⟨rfl, ⟨nd, rfl⟩⟩))
     go_ret
     exact ⟨by first | rfl | (simp [errW_none, errW_some] <;> rfl) | (simp [*, errW_none, errW_some] <;> rfl), by repeat (first | (with_reducible first | exact HB.out | apply below_alloc | apply pw_below_drewN | apply below_drew1 | refine below_set ?_ GE131.out) | exact HB.out)⟩
    ·rw [if_neg c7] at H
     have c7b0 : (a0_3 == 0) = false := beq_eq_false_iff_ne.mpr c7
     have c7b1 : (a0_3 != 0) = true := bne_iff_ne.mpr c7
     obtain rfl := Option.some.inj H
     go_enter Try.func100, Try.ntmps100
     go_wp2_with (first | ((with_reducible refine gate_dst (N := 1) rfl ?_); refine box_event ?hg (N := 1) ?hd (cs := #[.int .i64 a0_0, .int .i64 a0_1, .int .i64 a0_2, .int .i64 a0_3, .int .i64 a0_4, .int .i64 a0_5, .int .i64 a0_6, .int .i64 a0_7, .int .i64 a0_8, .string a0_9]) (t := 54) ?hr ?_; (case hd => rfl); (case hg => rfl); (case hr => first | (go_simp; done) | (go_simp; rfl)); intro gb131 hg w10 hbox hb; have n0_ := Aside0.mk (below_step xbel hb); have n1_ := Aside0.mk (hbox); have n2_ := Aside0.mk ((by rw [hg]; exact (below_size xbel) : w.heap.size ≤ gb131)); have n3_ := Aside0.mk ((by rw [hg]; exact (below_size xbel) : w.heap.size ≤ gb131)); clear HB; have HB := n0_; have BK131 := n1_; have GW131 := n2_; have GE131 := n3_; clear n0_ n1_ n2_ n3_; clear hb hbox hg; have hcz11_0 : w10.cell? ⟨gb131, 0, none⟩ = some (.int .i64 a0_0) := (blk_cell BK131.out 0).trans rfl; have hcz11_1 : w10.cell? ⟨gb131, 1, none⟩ = some (.int .i64 a0_1) := (blk_cell BK131.out 1).trans rfl; have hcz11_2 : w10.cell? ⟨gb131, 2, none⟩ = some (.int .i64 a0_2) := (blk_cell BK131.out 2).trans rfl; have hcz11_3 : w10.cell? ⟨gb131, 3, none⟩ = some (.int .i64 a0_3) := (blk_cell BK131.out 3).trans rfl; have hcz11_4 : w10.cell? ⟨gb131, 4, none⟩ = some (.int .i64 a0_4) := (blk_cell BK131.out 4).trans rfl; have hcz11_5 : w10.cell? ⟨gb131, 5, none⟩ = some (.int .i64 a0_5) := (blk_cell BK131.out 5).trans rfl; have hcz11_6 : w10.cell? ⟨gb131, 6, none⟩ = some (.int .i64 a0_6) := (blk_cell BK131.out 6).trans rfl; have hcz11_7 : w10.cell? ⟨gb131, 7, none⟩ = some (.int .i64 a0_7) := (blk_cell BK131.out 7).trans rfl; have hcz11_8 : w10.cell? ⟨gb131, 8, none⟩ = some (.int .i64 a0_8) := (blk_cell BK131.out 8).trans rfl; have hcz11_9 : w10.cell? ⟨gb131, 9, none⟩ = some (.string a0_9) := (blk_cell BK131.out 9).trans rfl; have hfz11_0 := blk_frozen BK131.out 0; have hfz11_1 := blk_frozen BK131.out 1; have hfz11_2 := blk_frozen BK131.out 2; have hfz11_3 := blk_frozen BK131.out 3; have hfz11_4 := blk_frozen BK131.out 4; have hfz11_5 := blk_frozen BK131.out 5; have hfz11_6 := blk_frozen BK131.out 6; have hfz11_7 := blk_frozen BK131.out 7; have hfz11_8 := blk_frozen BK131.out 8; have hfz11_9 := blk_frozen BK131.out 9) | ((with_reducible refine gate_callee (f := 149) rfl ?_); refine goesL_ (some 9) rfl rfl Try.func149 (by kernel_rfl) rfl #[.int .i64 a0_1] rfl (by (try simp only [List.map_toArray, List.map_cons, List.map_nil]); first | done | rfl | (simp only [List.length_drop, List.length_take]; rfl)) ?_; (with_reducible refine (impl_isWhole.calls a0_1 true _ A3.out).mono ?_); rintro e w' ⟨rfl, ⟨nd, rfl⟩⟩; refine ⟨_, rfl, ?_⟩) | (go_at_call 79; (with_reducible refine (impl_within.calls a0_2 0 5 true _ A5.out).mono ?_); rintro e w' ⟨rfl, ⟨nd, rfl⟩⟩))
     go_ret
     exact ⟨by first | rfl | (simp [errW_none, errW_some] <;> rfl) | (simp [*, errW_none, errW_some] <;> rfl), by repeat (first | (with_reducible first | exact HB.out | apply below_alloc | apply pw_below_drewN | apply below_drew1 | refine below_set ?_ GE131.out) | exact HB.out)⟩
   ·replace c6 := Bool.eq_false_iff.mpr c6
    subst c6
    have H1 : (some false) = some r := by rw [if_neg (show ¬ (false = true) by decide)] at H; exact H
    clear H
    have H := H1
    clear H1
    obtain rfl := Option.some.inj H
    go_enter Try.func100, Try.ntmps100
    go_wp2_with (first | ((with_reducible refine gate_dst (N := 1) rfl ?_); refine box_event ?hg (N := 1) ?hd (cs := #[.int .i64 a0_0, .int .i64 a0_1, .int .i64 a0_2, .int .i64 a0_3, .int .i64 a0_4, .int .i64 a0_5, .int .i64 a0_6, .int .i64 a0_7, .int .i64 a0_8, .string a0_9]) (t := 54) ?hr ?_; (case hd => rfl); (case hg => rfl); (case hr => first | (go_simp; done) | (go_simp; rfl)); intro gb131 hg w12 hbox hb; have n0_ := Aside0.mk (below_step xbel hb); have n1_ := Aside0.mk (hbox); have n2_ := Aside0.mk ((by rw [hg]; exact (below_size xbel) : w.heap.size ≤ gb131)); have n3_ := Aside0.mk ((by rw [hg]; exact (below_size xbel) : w.heap.size ≤ gb131)); clear HB; have HB := n0_; have BK131 := n1_; have GW131 := n2_; have GE131 := n3_; clear n0_ n1_ n2_ n3_; clear hb hbox hg; have hcz13_0 : w12.cell? ⟨gb131, 0, none⟩ = some (.int .i64 a0_0) := (blk_cell BK131.out 0).trans rfl; have hcz13_1 : w12.cell? ⟨gb131, 1, none⟩ = some (.int .i64 a0_1) := (blk_cell BK131.out 1).trans rfl; have hcz13_2 : w12.cell? ⟨gb131, 2, none⟩ = some (.int .i64 a0_2) := (blk_cell BK131.out 2).trans rfl; have hcz13_3 : w12.cell? ⟨gb131, 3, none⟩ = some (.int .i64 a0_3) := (blk_cell BK131.out 3).trans rfl; have hcz13_4 : w12.cell? ⟨gb131, 4, none⟩ = some (.int .i64 a0_4) := (blk_cell BK131.out 4).trans rfl; have hcz13_5 : w12.cell? ⟨gb131, 5, none⟩ = some (.int .i64 a0_5) := (blk_cell BK131.out 5).trans rfl; have hcz13_6 : w12.cell? ⟨gb131, 6, none⟩ = some (.int .i64 a0_6) := (blk_cell BK131.out 6).trans rfl; have hcz13_7 : w12.cell? ⟨gb131, 7, none⟩ = some (.int .i64 a0_7) := (blk_cell BK131.out 7).trans rfl; have hcz13_8 : w12.cell? ⟨gb131, 8, none⟩ = some (.int .i64 a0_8) := (blk_cell BK131.out 8).trans rfl; have hcz13_9 : w12.cell? ⟨gb131, 9, none⟩ = some (.string a0_9) := (blk_cell BK131.out 9).trans rfl; have hfz13_0 := blk_frozen BK131.out 0; have hfz13_1 := blk_frozen BK131.out 1; have hfz13_2 := blk_frozen BK131.out 2; have hfz13_3 := blk_frozen BK131.out 3; have hfz13_4 := blk_frozen BK131.out 4; have hfz13_5 := blk_frozen BK131.out 5; have hfz13_6 := blk_frozen BK131.out 6; have hfz13_7 := blk_frozen BK131.out 7; have hfz13_8 := blk_frozen BK131.out 8; have hfz13_9 := blk_frozen BK131.out 9) | ((with_reducible refine gate_callee (f := 149) rfl ?_); refine goesL_ (some 9) rfl rfl Try.func149 (by kernel_rfl) rfl #[.int .i64 a0_1] rfl (by (try simp only [List.map_toArray, List.map_cons, List.map_nil]); first | done | rfl | (simp only [List.length_drop, List.length_take]; rfl)) ?_; (with_reducible refine (impl_isWhole.calls a0_1 true _ A3.out).mono ?_); rintro e w' ⟨rfl, ⟨nd, rfl⟩⟩; refine ⟨_, rfl, ?_⟩) | (go_at_call 79; (with_reducible refine (impl_within.calls a0_2 0 5 false _ A5.out).mono ?_); rintro e w' ⟨rfl, ⟨nd, rfl⟩⟩))
    go_ret
    exact ⟨by first | rfl | (simp [errW_none, errW_some] <;> rfl) | (simp [*, errW_none, errW_some] <;> rfl), by repeat (first | (with_reducible first | exact HB.out | apply below_alloc | apply pw_below_drewN | apply below_drew1 | refine below_set ?_ GE131.out) | exact HB.out)⟩
  ·replace c4 := Bool.eq_false_iff.mpr c4
   subst c4
   have H1 : (some false) = some r := by rw [if_neg (show ¬ (false = true) by decide)] at H; exact H
   clear H
   have H := H1
   clear H1
   obtain rfl := Option.some.inj H
   go_enter Try.func100, Try.ntmps100
   go_wp2_with (first | ((with_reducible refine gate_dst (N := 1) rfl ?_); refine box_event ?hg (N := 1) ?hd (cs := #[.int .i64 a0_0, .int .i64 a0_1, .int .i64 a0_2, .int .i64 a0_3, .int .i64 a0_4, .int .i64 a0_5, .int .i64 a0_6, .int .i64 a0_7, .int .i64 a0_8, .string a0_9]) (t := 54) ?hr ?_; (case hd => rfl); (case hg => rfl); (case hr => first | (go_simp; done) | (go_simp; rfl)); intro gb131 hg w14 hbox hb; have n0_ := Aside0.mk (below_step xbel hb); have n1_ := Aside0.mk (hbox); have n2_ := Aside0.mk ((by rw [hg]; exact (below_size xbel) : w.heap.size ≤ gb131)); have n3_ := Aside0.mk ((by rw [hg]; exact (below_size xbel) : w.heap.size ≤ gb131)); clear HB; have HB := n0_; have BK131 := n1_; have GW131 := n2_; have GE131 := n3_; clear n0_ n1_ n2_ n3_; clear hb hbox hg; have hcz15_0 : w14.cell? ⟨gb131, 0, none⟩ = some (.int .i64 a0_0) := (blk_cell BK131.out 0).trans rfl; have hcz15_1 : w14.cell? ⟨gb131, 1, none⟩ = some (.int .i64 a0_1) := (blk_cell BK131.out 1).trans rfl; have hcz15_2 : w14.cell? ⟨gb131, 2, none⟩ = some (.int .i64 a0_2) := (blk_cell BK131.out 2).trans rfl; have hcz15_3 : w14.cell? ⟨gb131, 3, none⟩ = some (.int .i64 a0_3) := (blk_cell BK131.out 3).trans rfl; have hcz15_4 : w14.cell? ⟨gb131, 4, none⟩ = some (.int .i64 a0_4) := (blk_cell BK131.out 4).trans rfl; have hcz15_5 : w14.cell? ⟨gb131, 5, none⟩ = some (.int .i64 a0_5) := (blk_cell BK131.out 5).trans rfl; have hcz15_6 : w14.cell? ⟨gb131, 6, none⟩ = some (.int .i64 a0_6) := (blk_cell BK131.out 6).trans rfl; have hcz15_7 : w14.cell? ⟨gb131, 7, none⟩ = some (.int .i64 a0_7) := (blk_cell BK131.out 7).trans rfl; have hcz15_8 : w14.cell? ⟨gb131, 8, none⟩ = some (.int .i64 a0_8) := (blk_cell BK131.out 8).trans rfl; have hcz15_9 : w14.cell? ⟨gb131, 9, none⟩ = some (.string a0_9) := (blk_cell BK131.out 9).trans rfl; have hfz15_0 := blk_frozen BK131.out 0; have hfz15_1 := blk_frozen BK131.out 1; have hfz15_2 := blk_frozen BK131.out 2; have hfz15_3 := blk_frozen BK131.out 3; have hfz15_4 := blk_frozen BK131.out 4; have hfz15_5 := blk_frozen BK131.out 5; have hfz15_6 := blk_frozen BK131.out 6; have hfz15_7 := blk_frozen BK131.out 7; have hfz15_8 := blk_frozen BK131.out 8; have hfz15_9 := blk_frozen BK131.out 9) | ((with_reducible refine gate_callee (f := 149) rfl ?_); refine goesL_ (some 9) rfl rfl Try.func149 (by kernel_rfl) rfl #[.int .i64 a0_1] rfl (by (try simp only [List.map_toArray, List.map_cons, List.map_nil]); first | done | rfl | (simp only [List.length_drop, List.length_take]; rfl)) ?_; (with_reducible refine (impl_isWhole.calls a0_1 false _ A3.out).mono ?_); rintro e w' ⟨rfl, ⟨nd, rfl⟩⟩; refine ⟨_, rfl, ?_⟩))
   go_ret
   exact ⟨by first | rfl | (simp [errW_none, errW_some] <;> rfl) | (simp [*, errW_none, errW_some] <;> rfl), by repeat (first | (with_reducible first | exact HB.out | apply below_alloc | apply pw_below_drewN | apply below_drew1 | refine below_set ?_ GE131.out) | exact HB.out)⟩
 ·rw [if_neg c2] at H
  have c2b0 : (a0_0 == 1) = false := beq_eq_false_iff_ne.mpr c2
  have c2b1 : (a0_0 != 1) = true := bne_iff_ne.mpr c2
  by_cases c16 : a0_0 = 2
  ·rw [if_pos c16] at H
   have c16b0 : (a0_0 == 2) = true := beq_iff_eq.mpr c16
   have c16b1 : (a0_0 != 2) = false := bne_eq_false_iff_eq.mpr c16
   clear c16
   replace H := Option.bind_eq_some_iff.mp H
   obtain ⟨t134, A170, H⟩ := H
   replace H : (if t134 = true then ((impl_entryOk.f k a0_4 a0_5 a0_6 a0_7 a0_8 a0_9).bind fun t135 => (if t135 = true then (if a0_1 = 0 then (some (a0_2 == 0)) else (some false)) else (some false))) else (some false)) = some r := H
   have A17 := Aside0.mk A170
   clear A170
   by_cases c18 : t134 = true
   ·subst c18
    have H1 : ((impl_entryOk.f k a0_4 a0_5 a0_6 a0_7 a0_8 a0_9).bind fun t135 => (if t135 = true then (if a0_1 = 0 then (some (a0_2 == 0)) else (some false)) else (some false))) = some r := by rw [if_pos rfl] at H; exact H
    clear H
    have H := H1
    clear H1
    replace H := Option.bind_eq_some_iff.mp H
    obtain ⟨t135, A190, H⟩ := H
    replace H : (if t135 = true then (if a0_1 = 0 then (some (a0_2 == 0)) else (some false)) else (some false)) = some r := H
    have A19 := Aside0.mk A190
    clear A190
    by_cases c20 : t135 = true
    ·subst c20
     have H1 : (if a0_1 = 0 then (some (a0_2 == 0)) else (some false)) = some r := by rw [if_pos rfl] at H; exact H
     clear H
     have H := H1
     clear H1
     by_cases c21 : a0_1 = 0
     ·rw [if_pos c21] at H
      have c21b0 : (a0_1 == 0) = true := beq_iff_eq.mpr c21
      have c21b1 : (a0_1 != 0) = false := bne_eq_false_iff_eq.mpr c21
      clear c21
      obtain rfl := Option.some.inj H
      go_enter Try.func100, Try.ntmps100
      go_wp2_with (first | ((with_reducible refine gate_dst (N := 1) rfl ?_); refine box_event ?hg (N := 1) ?hd (cs := #[.int .i64 a0_0, .int .i64 a0_1, .int .i64 a0_2, .int .i64 a0_3, .int .i64 a0_4, .int .i64 a0_5, .int .i64 a0_6, .int .i64 a0_7, .int .i64 a0_8, .string a0_9]) (t := 54) ?hr ?_; (case hd => rfl); (case hg => rfl); (case hr => first | (go_simp; done) | (go_simp; rfl)); intro gb131 hg w22 hbox hb; have n0_ := Aside0.mk (below_step xbel hb); have n1_ := Aside0.mk (hbox); have n2_ := Aside0.mk ((by rw [hg]; exact (below_size xbel) : w.heap.size ≤ gb131)); have n3_ := Aside0.mk ((by rw [hg]; exact (below_size xbel) : w.heap.size ≤ gb131)); clear HB; have HB := n0_; have BK131 := n1_; have GW131 := n2_; have GE131 := n3_; clear n0_ n1_ n2_ n3_; clear hb hbox hg; have hcz23_0 : w22.cell? ⟨gb131, 0, none⟩ = some (.int .i64 a0_0) := (blk_cell BK131.out 0).trans rfl; have hcz23_1 : w22.cell? ⟨gb131, 1, none⟩ = some (.int .i64 a0_1) := (blk_cell BK131.out 1).trans rfl; have hcz23_2 : w22.cell? ⟨gb131, 2, none⟩ = some (.int .i64 a0_2) := (blk_cell BK131.out 2).trans rfl; have hcz23_3 : w22.cell? ⟨gb131, 3, none⟩ = some (.int .i64 a0_3) := (blk_cell BK131.out 3).trans rfl; have hcz23_4 : w22.cell? ⟨gb131, 4, none⟩ = some (.int .i64 a0_4) := (blk_cell BK131.out 4).trans rfl; have hcz23_5 : w22.cell? ⟨gb131, 5, none⟩ = some (.int .i64 a0_5) := (blk_cell BK131.out 5).trans rfl; have hcz23_6 : w22.cell? ⟨gb131, 6, none⟩ = some (.int .i64 a0_6) := (blk_cell BK131.out 6).trans rfl; have hcz23_7 : w22.cell? ⟨gb131, 7, none⟩ = some (.int .i64 a0_7) := (blk_cell BK131.out 7).trans rfl; have hcz23_8 : w22.cell? ⟨gb131, 8, none⟩ = some (.int .i64 a0_8) := (blk_cell BK131.out 8).trans rfl; have hcz23_9 : w22.cell? ⟨gb131, 9, none⟩ = some (.string a0_9) := (blk_cell BK131.out 9).trans rfl; have hfz23_0 := blk_frozen BK131.out 0; have hfz23_1 := blk_frozen BK131.out 1; have hfz23_2 := blk_frozen BK131.out 2; have hfz23_3 := blk_frozen BK131.out 3; have hfz23_4 := blk_frozen BK131.out 4; have hfz23_5 := blk_frozen BK131.out 5; have hfz23_6 := blk_frozen BK131.out 6; have hfz23_7 := blk_frozen BK131.out 7; have hfz23_8 := blk_frozen BK131.out 8; have hfz23_9 := blk_frozen BK131.out 9) | ((with_reducible refine gate_callee (f := 79) rfl ?_); refine goesL_ (some 30) rfl rfl Try.func79 (by kernel_rfl) rfl #[.int .i64 a0_3, .int .i64 1, .int .i64 80] rfl (by (try simp only [List.map_toArray, List.map_cons, List.map_nil]); first | done | rfl | (simp only [List.length_drop, List.length_take]; rfl)) ?_; (with_reducible refine (impl_within.calls a0_3 1 80 true _ A17.out).mono ?_); rintro e w' ⟨rfl, ⟨nd, rfl⟩⟩; refine ⟨_, rfl, ?_⟩) | (go_at_call 150; (with_reducible refine (impl_entryOk.calls k a0_4 a0_5 a0_6 a0_7 a0_8 a0_9 true _ A19.out).mono ?_); rintro e w24 ⟨rfl, hb⟩; have n0_ := Aside0.mk (blk_below (g := gb131) (o := .cells #[.int .i64 a0_0, .int .i64 a0_1, .int .i64 a0_2, .int .i64 a0_3, .int .i64 a0_4, .int .i64 a0_5, .int .i64 a0_6, .int .i64 a0_7, .int .i64 a0_8, .string a0_9] 54 (0, 0)) (by (with_reducible repeat (first | refine blk_drewN ?_ _ | refine blk_drew ?_ | refine blk_alloc ?_ _)); exact BK131.out) hb); have n1_ := Aside0.mk (below_step (by repeat (first | (with_reducible first | exact HB.out | apply below_alloc | apply pw_below_drewN | apply below_drew1 | refine below_set ?_ GE131.out) | exact HB.out)) hb); clear BK131; clear HB; have BK131 := n0_; have HB := n1_; clear n0_ n1_; (try clear hb); (try clear hb2); (try clear hk); (try clear hi); have hcz25_0 : w24.cell? ⟨gb131, 0, none⟩ = some (.int .i64 a0_0) := (blk_cell BK131.out 0).trans rfl; have hcz25_1 : w24.cell? ⟨gb131, 1, none⟩ = some (.int .i64 a0_1) := (blk_cell BK131.out 1).trans rfl; have hcz25_2 : w24.cell? ⟨gb131, 2, none⟩ = some (.int .i64 a0_2) := (blk_cell BK131.out 2).trans rfl; have hcz25_3 : w24.cell? ⟨gb131, 3, none⟩ = some (.int .i64 a0_3) := (blk_cell BK131.out 3).trans rfl; have hcz25_4 : w24.cell? ⟨gb131, 4, none⟩ = some (.int .i64 a0_4) := (blk_cell BK131.out 4).trans rfl; have hcz25_5 : w24.cell? ⟨gb131, 5, none⟩ = some (.int .i64 a0_5) := (blk_cell BK131.out 5).trans rfl; have hcz25_6 : w24.cell? ⟨gb131, 6, none⟩ = some (.int .i64 a0_6) := (blk_cell BK131.out 6).trans rfl; have hcz25_7 : w24.cell? ⟨gb131, 7, none⟩ = some (.int .i64 a0_7) := (blk_cell BK131.out 7).trans rfl; have hcz25_8 : w24.cell? ⟨gb131, 8, none⟩ = some (.int .i64 a0_8) := (blk_cell BK131.out 8).trans rfl; have hcz25_9 : w24.cell? ⟨gb131, 9, none⟩ = some (.string a0_9) := (blk_cell BK131.out 9).trans rfl; have hfz25_0 := blk_frozen BK131.out 0; have hfz25_1 := blk_frozen BK131.out 1; have hfz25_2 := blk_frozen BK131.out 2; have hfz25_3 := blk_frozen BK131.out 3; have hfz25_4 := blk_frozen BK131.out 4; have hfz25_5 := blk_frozen BK131.out 5; have hfz25_6 := blk_frozen BK131.out 6; have hfz25_7 := blk_frozen BK131.out 7; have hfz25_8 := blk_frozen BK131.out 8; have hfz25_9 := blk_frozen BK131.out 9))
      go_ret
      exact ⟨by first | rfl | (simp [errW_none, errW_some] <;> rfl) | (simp [*, errW_none, errW_some] <;> rfl), by repeat (first | (with_reducible first | exact HB.out | apply below_alloc | apply pw_below_drewN | apply below_drew1 | refine below_set ?_ GE131.out) | exact HB.out)⟩
     ·rw [if_neg c21] at H
      have c21b0 : (a0_1 == 0) = false := beq_eq_false_iff_ne.mpr c21
      have c21b1 : (a0_1 != 0) = true := bne_iff_ne.mpr c21
      obtain rfl := Option.some.inj H
      go_enter Try.func100, Try.ntmps100
      go_wp2_with (first | ((with_reducible refine gate_dst (N := 1) rfl ?_); refine box_event ?hg (N := 1) ?hd (cs := #[.int .i64 a0_0, .int .i64 a0_1, .int .i64 a0_2, .int .i64 a0_3, .int .i64 a0_4, .int .i64 a0_5, .int .i64 a0_6, .int .i64 a0_7, .int .i64 a0_8, .string a0_9]) (t := 54) ?hr ?_; (case hd => rfl); (case hg => rfl); (case hr => first | (go_simp; done) | (go_simp; rfl)); intro gb131 hg w26 hbox hb; have n0_ := Aside0.mk (below_step xbel hb); have n1_ := Aside0.mk (hbox); have n2_ := Aside0.mk ((by rw [hg]; exact (below_size xbel) : w.heap.size ≤ gb131)); have n3_ := Aside0.mk ((by rw [hg]; exact (below_size xbel) : w.heap.size ≤ gb131)); clear HB; have HB := n0_; have BK131 := n1_; have GW131 := n2_; have GE131 := n3_; clear n0_ n1_ n2_ n3_; clear hb hbox hg; have hcz27_0 : w26.cell? ⟨gb131, 0, none⟩ = some (.int .i64 a0_0) := (blk_cell BK131.out 0).trans rfl; have hcz27_1 : w26.cell? ⟨gb131, 1, none⟩ = some (.int .i64 a0_1) := (blk_cell BK131.out 1).trans rfl; have hcz27_2 : w26.cell? ⟨gb131, 2, none⟩ = some (.int .i64 a0_2) := (blk_cell BK131.out 2).trans rfl; have hcz27_3 : w26.cell? ⟨gb131, 3, none⟩ = some (.int .i64 a0_3) := (blk_cell BK131.out 3).trans rfl; have hcz27_4 : w26.cell? ⟨gb131, 4, none⟩ = some (.int .i64 a0_4) := (blk_cell BK131.out 4).trans rfl; have hcz27_5 : w26.cell? ⟨gb131, 5, none⟩ = some (.int .i64 a0_5) := (blk_cell BK131.out 5).trans rfl; have hcz27_6 : w26.cell? ⟨gb131, 6, none⟩ = some (.int .i64 a0_6) := (blk_cell BK131.out 6).trans rfl; have hcz27_7 : w26.cell? ⟨gb131, 7, none⟩ = some (.int .i64 a0_7) := (blk_cell BK131.out 7).trans rfl; have hcz27_8 : w26.cell? ⟨gb131, 8, none⟩ = some (.int .i64 a0_8) := (blk_cell BK131.out 8).trans rfl; have hcz27_9 : w26.cell? ⟨gb131, 9, none⟩ = some (.string a0_9) := (blk_cell BK131.out 9).trans rfl; have hfz27_0 := blk_frozen BK131.out 0; have hfz27_1 := blk_frozen BK131.out 1; have hfz27_2 := blk_frozen BK131.out 2; have hfz27_3 := blk_frozen BK131.out 3; have hfz27_4 := blk_frozen BK131.out 4; have hfz27_5 := blk_frozen BK131.out 5; have hfz27_6 := blk_frozen BK131.out 6; have hfz27_7 := blk_frozen BK131.out 7; have hfz27_8 := blk_frozen BK131.out 8; have hfz27_9 := blk_frozen BK131.out 9) | ((with_reducible refine gate_callee (f := 79) rfl ?_); refine goesL_ (some 30) rfl rfl Try.func79 (by kernel_rfl) rfl #[.int .i64 a0_3, .int .i64 1, .int .i64 80] rfl (by (try simp only [List.map_toArray, List.map_cons, List.map_nil]); first | done | rfl | (simp only [List.length_drop, List.length_take]; rfl)) ?_; (with_reducible refine (impl_within.calls a0_3 1 80 true _ A17.out).mono ?_); rintro e w' ⟨rfl, ⟨nd, rfl⟩⟩; refine ⟨_, rfl, ?_⟩) | (go_at_call 150; (with_reducible refine (impl_entryOk.calls k a0_4 a0_5 a0_6 a0_7 a0_8 a0_9 true _ A19.out).mono ?_); rintro e w28 ⟨rfl, hb⟩; have n0_ := Aside0.mk (blk_below (g := gb131) (o := .cells #[.int .i64 a0_0, .int .i64 a0_1, .int .i64 a0_2, .int .i64 a0_3, .int .i64 a0_4, .int .i64 a0_5, .int .i64 a0_6, .int .i64 a0_7, .int .i64 a0_8, .string a0_9] 54 (0, 0)) (by (with_reducible repeat (first | refine blk_drewN ?_ _ | refine blk_drew ?_ | refine blk_alloc ?_ _)); exact BK131.out) hb); have n1_ := Aside0.mk (below_step (by repeat (first | (with_reducible first | exact HB.out | apply below_alloc | apply pw_below_drewN | apply below_drew1 | refine below_set ?_ GE131.out) | exact HB.out)) hb); clear BK131; clear HB; have BK131 := n0_; have HB := n1_; clear n0_ n1_; (try clear hb); (try clear hb2); (try clear hk); (try clear hi); have hcz29_0 : w28.cell? ⟨gb131, 0, none⟩ = some (.int .i64 a0_0) := (blk_cell BK131.out 0).trans rfl; have hcz29_1 : w28.cell? ⟨gb131, 1, none⟩ = some (.int .i64 a0_1) := (blk_cell BK131.out 1).trans rfl; have hcz29_2 : w28.cell? ⟨gb131, 2, none⟩ = some (.int .i64 a0_2) := (blk_cell BK131.out 2).trans rfl; have hcz29_3 : w28.cell? ⟨gb131, 3, none⟩ = some (.int .i64 a0_3) := (blk_cell BK131.out 3).trans rfl; have hcz29_4 : w28.cell? ⟨gb131, 4, none⟩ = some (.int .i64 a0_4) := (blk_cell BK131.out 4).trans rfl; have hcz29_5 : w28.cell? ⟨gb131, 5, none⟩ = some (.int .i64 a0_5) := (blk_cell BK131.out 5).trans rfl; have hcz29_6 : w28.cell? ⟨gb131, 6, none⟩ = some (.int .i64 a0_6) := (blk_cell BK131.out 6).trans rfl; have hcz29_7 : w28.cell? ⟨gb131, 7, none⟩ = some (.int .i64 a0_7) := (blk_cell BK131.out 7).trans rfl; have hcz29_8 : w28.cell? ⟨gb131, 8, none⟩ = some (.int .i64 a0_8) := (blk_cell BK131.out 8).trans rfl; have hcz29_9 : w28.cell? ⟨gb131, 9, none⟩ = some (.string a0_9) := (blk_cell BK131.out 9).trans rfl; have hfz29_0 := blk_frozen BK131.out 0; have hfz29_1 := blk_frozen BK131.out 1; have hfz29_2 := blk_frozen BK131.out 2; have hfz29_3 := blk_frozen BK131.out 3; have hfz29_4 := blk_frozen BK131.out 4; have hfz29_5 := blk_frozen BK131.out 5; have hfz29_6 := blk_frozen BK131.out 6; have hfz29_7 := blk_frozen BK131.out 7; have hfz29_8 := blk_frozen BK131.out 8; have hfz29_9 := blk_frozen BK131.out 9))
      go_ret
      exact ⟨by first | rfl | (simp [errW_none, errW_some] <;> rfl) | (simp [*, errW_none, errW_some] <;> rfl), by repeat (first | (with_reducible first | exact HB.out | apply below_alloc | apply pw_below_drewN | apply below_drew1 | refine below_set ?_ GE131.out) | exact HB.out)⟩
    ·replace c20 := Bool.eq_false_iff.mpr c20
     subst c20
     have H1 : (some false) = some r := by rw [if_neg (show ¬ (false = true) by decide)] at H; exact H
     clear H
     have H := H1
     clear H1
     obtain rfl := Option.some.inj H
     go_enter Try.func100, Try.ntmps100
     go_wp2_with (first | ((with_reducible refine gate_dst (N := 1) rfl ?_); refine box_event ?hg (N := 1) ?hd (cs := #[.int .i64 a0_0, .int .i64 a0_1, .int .i64 a0_2, .int .i64 a0_3, .int .i64 a0_4, .int .i64 a0_5, .int .i64 a0_6, .int .i64 a0_7, .int .i64 a0_8, .string a0_9]) (t := 54) ?hr ?_; (case hd => rfl); (case hg => rfl); (case hr => first | (go_simp; done) | (go_simp; rfl)); intro gb131 hg w30 hbox hb; have n0_ := Aside0.mk (below_step xbel hb); have n1_ := Aside0.mk (hbox); have n2_ := Aside0.mk ((by rw [hg]; exact (below_size xbel) : w.heap.size ≤ gb131)); have n3_ := Aside0.mk ((by rw [hg]; exact (below_size xbel) : w.heap.size ≤ gb131)); clear HB; have HB := n0_; have BK131 := n1_; have GW131 := n2_; have GE131 := n3_; clear n0_ n1_ n2_ n3_; clear hb hbox hg; have hcz31_0 : w30.cell? ⟨gb131, 0, none⟩ = some (.int .i64 a0_0) := (blk_cell BK131.out 0).trans rfl; have hcz31_1 : w30.cell? ⟨gb131, 1, none⟩ = some (.int .i64 a0_1) := (blk_cell BK131.out 1).trans rfl; have hcz31_2 : w30.cell? ⟨gb131, 2, none⟩ = some (.int .i64 a0_2) := (blk_cell BK131.out 2).trans rfl; have hcz31_3 : w30.cell? ⟨gb131, 3, none⟩ = some (.int .i64 a0_3) := (blk_cell BK131.out 3).trans rfl; have hcz31_4 : w30.cell? ⟨gb131, 4, none⟩ = some (.int .i64 a0_4) := (blk_cell BK131.out 4).trans rfl; have hcz31_5 : w30.cell? ⟨gb131, 5, none⟩ = some (.int .i64 a0_5) := (blk_cell BK131.out 5).trans rfl; have hcz31_6 : w30.cell? ⟨gb131, 6, none⟩ = some (.int .i64 a0_6) := (blk_cell BK131.out 6).trans rfl; have hcz31_7 : w30.cell? ⟨gb131, 7, none⟩ = some (.int .i64 a0_7) := (blk_cell BK131.out 7).trans rfl; have hcz31_8 : w30.cell? ⟨gb131, 8, none⟩ = some (.int .i64 a0_8) := (blk_cell BK131.out 8).trans rfl; have hcz31_9 : w30.cell? ⟨gb131, 9, none⟩ = some (.string a0_9) := (blk_cell BK131.out 9).trans rfl; have hfz31_0 := blk_frozen BK131.out 0; have hfz31_1 := blk_frozen BK131.out 1; have hfz31_2 := blk_frozen BK131.out 2; have hfz31_3 := blk_frozen BK131.out 3; have hfz31_4 := blk_frozen BK131.out 4; have hfz31_5 := blk_frozen BK131.out 5; have hfz31_6 := blk_frozen BK131.out 6; have hfz31_7 := blk_frozen BK131.out 7; have hfz31_8 := blk_frozen BK131.out 8; have hfz31_9 := blk_frozen BK131.out 9) | ((with_reducible refine gate_callee (f := 79) rfl ?_); refine goesL_ (some 30) rfl rfl Try.func79 (by kernel_rfl) rfl #[.int .i64 a0_3, .int .i64 1, .int .i64 80] rfl (by (try simp only [List.map_toArray, List.map_cons, List.map_nil]); first | done | rfl | (simp only [List.length_drop, List.length_take]; rfl)) ?_; (with_reducible refine (impl_within.calls a0_3 1 80 true _ A17.out).mono ?_); rintro e w' ⟨rfl, ⟨nd, rfl⟩⟩; refine ⟨_, rfl, ?_⟩) | (go_at_call 150; (with_reducible refine (impl_entryOk.calls k a0_4 a0_5 a0_6 a0_7 a0_8 a0_9 false _ A19.out).mono ?_); rintro e w32 ⟨rfl, hb⟩; have n0_ := Aside0.mk (blk_below (g := gb131) (o := .cells #[.int .i64 a0_0, .int .i64 a0_1, .int .i64 a0_2, .int .i64 a0_3, .int .i64 a0_4, .int .i64 a0_5, .int .i64 a0_6, .int .i64 a0_7, .int .i64 a0_8, .string a0_9] 54 (0, 0)) (by (with_reducible repeat (first | refine blk_drewN ?_ _ | refine blk_drew ?_ | refine blk_alloc ?_ _)); exact BK131.out) hb); have n1_ := Aside0.mk (below_step (by repeat (first | (with_reducible first | exact HB.out | apply below_alloc | apply pw_below_drewN | apply below_drew1 | refine below_set ?_ GE131.out) | exact HB.out)) hb); clear BK131; clear HB; have BK131 := n0_; have HB := n1_; clear n0_ n1_; (try clear hb); (try clear hb2); (try clear hk); (try clear hi)))
     go_ret
     exact ⟨by first | rfl | (simp [errW_none, errW_some] <;> rfl) | (simp [*, errW_none, errW_some] <;> rfl), by repeat (first | (with_reducible first | exact HB.out | apply below_alloc | apply pw_below_drewN | apply below_drew1 | refine below_set ?_ GE131.out) | exact HB.out)⟩
   ·replace c18 := Bool.eq_false_iff.mpr c18
    subst c18
    have H1 : (some false) = some r := by rw [if_neg (show ¬ (false = true) by decide)] at H; exact H
    clear H
    have H := H1
    clear H1
    obtain rfl := Option.some.inj H
    go_enter Try.func100, Try.ntmps100
    go_wp2_with (first | ((with_reducible refine gate_dst (N := 1) rfl ?_); refine box_event ?hg (N := 1) ?hd (cs := #[.int .i64 a0_0, .int .i64 a0_1, .int .i64 a0_2, .int .i64 a0_3, .int .i64 a0_4, .int .i64 a0_5, .int .i64 a0_6, .int .i64 a0_7, .int .i64 a0_8, .string a0_9]) (t := 54) ?hr ?_; (case hd => rfl); (case hg => rfl); (case hr => first | (go_simp; done) | (go_simp; rfl)); intro gb131 hg w33 hbox hb; have n0_ := Aside0.mk (below_step xbel hb); have n1_ := Aside0.mk (hbox); have n2_ := Aside0.mk ((by rw [hg]; exact (below_size xbel) : w.heap.size ≤ gb131)); have n3_ := Aside0.mk ((by rw [hg]; exact (below_size xbel) : w.heap.size ≤ gb131)); clear HB; have HB := n0_; have BK131 := n1_; have GW131 := n2_; have GE131 := n3_; clear n0_ n1_ n2_ n3_; clear hb hbox hg; have hcz34_0 : w33.cell? ⟨gb131, 0, none⟩ = some (.int .i64 a0_0) := (blk_cell BK131.out 0).trans rfl; have hcz34_1 : w33.cell? ⟨gb131, 1, none⟩ = some (.int .i64 a0_1) := (blk_cell BK131.out 1).trans rfl; have hcz34_2 : w33.cell? ⟨gb131, 2, none⟩ = some (.int .i64 a0_2) := (blk_cell BK131.out 2).trans rfl; have hcz34_3 : w33.cell? ⟨gb131, 3, none⟩ = some (.int .i64 a0_3) := (blk_cell BK131.out 3).trans rfl; have hcz34_4 : w33.cell? ⟨gb131, 4, none⟩ = some (.int .i64 a0_4) := (blk_cell BK131.out 4).trans rfl; have hcz34_5 : w33.cell? ⟨gb131, 5, none⟩ = some (.int .i64 a0_5) := (blk_cell BK131.out 5).trans rfl; have hcz34_6 : w33.cell? ⟨gb131, 6, none⟩ = some (.int .i64 a0_6) := (blk_cell BK131.out 6).trans rfl; have hcz34_7 : w33.cell? ⟨gb131, 7, none⟩ = some (.int .i64 a0_7) := (blk_cell BK131.out 7).trans rfl; have hcz34_8 : w33.cell? ⟨gb131, 8, none⟩ = some (.int .i64 a0_8) := (blk_cell BK131.out 8).trans rfl; have hcz34_9 : w33.cell? ⟨gb131, 9, none⟩ = some (.string a0_9) := (blk_cell BK131.out 9).trans rfl; have hfz34_0 := blk_frozen BK131.out 0; have hfz34_1 := blk_frozen BK131.out 1; have hfz34_2 := blk_frozen BK131.out 2; have hfz34_3 := blk_frozen BK131.out 3; have hfz34_4 := blk_frozen BK131.out 4; have hfz34_5 := blk_frozen BK131.out 5; have hfz34_6 := blk_frozen BK131.out 6; have hfz34_7 := blk_frozen BK131.out 7; have hfz34_8 := blk_frozen BK131.out 8; have hfz34_9 := blk_frozen BK131.out 9) | ((with_reducible refine gate_callee (f := 79) rfl ?_); refine goesL_ (some 30) rfl rfl Try.func79 (by kernel_rfl) rfl #[.int .i64 a0_3, .int .i64 1, .int .i64 80] rfl (by (try simp only [List.map_toArray, List.map_cons, List.map_nil]); first | done | rfl | (simp only [List.length_drop, List.length_take]; rfl)) ?_; (with_reducible refine (impl_within.calls a0_3 1 80 false _ A17.out).mono ?_); rintro e w' ⟨rfl, ⟨nd, rfl⟩⟩; refine ⟨_, rfl, ?_⟩))
    go_ret
    exact ⟨by first | rfl | (simp [errW_none, errW_some] <;> rfl) | (simp [*, errW_none, errW_some] <;> rfl), by repeat (first | (with_reducible first | exact HB.out | apply below_alloc | apply pw_below_drewN | apply below_drew1 | refine below_set ?_ GE131.out) | exact HB.out)⟩
  ·rw [if_neg c16] at H
   have c16b0 : (a0_0 == 2) = false := beq_eq_false_iff_ne.mpr c16
   have c16b1 : (a0_0 != 2) = true := bne_iff_ne.mpr c16
   by_cases c35 : a0_0 = 3
   ·rw [if_pos c35] at H
    have c35b0 : (a0_0 == 3) = true := beq_iff_eq.mpr c35
    have c35b1 : (a0_0 != 3) = false := bne_eq_false_iff_eq.mpr c35
    clear c35
    replace H := Option.bind_eq_some_iff.mp H
    obtain ⟨t136, A360, H⟩ := H
    replace H : (if t136 = true then (if a0_1 = 0 then (if a0_2 = 0 then (some (a0_4 == 0 && ((a0_5 == 0 && (a0_6 == 0 && (a0_7 == 0 && (a0_8 == 0 && (a0_9.toList == ([] : List UInt8))))))))) else (some false)) else (some false)) else (some false)) = some r := H
    have A36 := Aside0.mk A360
    clear A360
    by_cases c37 : t136 = true
    ·subst c37
     have H1 : (if a0_1 = 0 then (if a0_2 = 0 then (some (a0_4 == 0 && ((a0_5 == 0 && (a0_6 == 0 && (a0_7 == 0 && (a0_8 == 0 && (a0_9.toList == ([] : List UInt8))))))))) else (some false)) else (some false)) = some r := by rw [if_pos rfl] at H; exact H
     clear H
     have H := H1
     clear H1
     by_cases c38 : a0_1 = 0
     ·rw [if_pos c38] at H
      have c38b0 : (a0_1 == 0) = true := beq_iff_eq.mpr c38
      have c38b1 : (a0_1 != 0) = false := bne_eq_false_iff_eq.mpr c38
      clear c38
      by_cases c39 : a0_2 = 0
      ·rw [if_pos c39] at H
       have c39b0 : (a0_2 == 0) = true := beq_iff_eq.mpr c39
       have c39b1 : (a0_2 != 0) = false := bne_eq_false_iff_eq.mpr c39
       clear c39
       obtain rfl := Option.some.inj H
       go_enter Try.func100, Try.ntmps100
       go_wp2_with (first | ((with_reducible refine gate_dst (N := 1) rfl ?_); refine box_event ?hg (N := 1) ?hd (cs := #[.int .i64 a0_0, .int .i64 a0_1, .int .i64 a0_2, .int .i64 a0_3, .int .i64 a0_4, .int .i64 a0_5, .int .i64 a0_6, .int .i64 a0_7, .int .i64 a0_8, .string a0_9]) (t := 54) ?hr ?_; (case hd => rfl); (case hg => rfl); (case hr => first | (go_simp; done) | (go_simp; rfl)); intro gb131 hg w40 hbox hb; have n0_ := Aside0.mk (below_step xbel hb); have n1_ := Aside0.mk (hbox); have n2_ := Aside0.mk ((by rw [hg]; exact (below_size xbel) : w.heap.size ≤ gb131)); have n3_ := Aside0.mk ((by rw [hg]; exact (below_size xbel) : w.heap.size ≤ gb131)); clear HB; have HB := n0_; have BK131 := n1_; have GW131 := n2_; have GE131 := n3_; clear n0_ n1_ n2_ n3_; clear hb hbox hg; have hcz41_0 : w40.cell? ⟨gb131, 0, none⟩ = some (.int .i64 a0_0) := (blk_cell BK131.out 0).trans rfl; have hcz41_1 : w40.cell? ⟨gb131, 1, none⟩ = some (.int .i64 a0_1) := (blk_cell BK131.out 1).trans rfl; have hcz41_2 : w40.cell? ⟨gb131, 2, none⟩ = some (.int .i64 a0_2) := (blk_cell BK131.out 2).trans rfl; have hcz41_3 : w40.cell? ⟨gb131, 3, none⟩ = some (.int .i64 a0_3) := (blk_cell BK131.out 3).trans rfl; have hcz41_4 : w40.cell? ⟨gb131, 4, none⟩ = some (.int .i64 a0_4) := (blk_cell BK131.out 4).trans rfl; have hcz41_5 : w40.cell? ⟨gb131, 5, none⟩ = some (.int .i64 a0_5) := (blk_cell BK131.out 5).trans rfl; have hcz41_6 : w40.cell? ⟨gb131, 6, none⟩ = some (.int .i64 a0_6) := (blk_cell BK131.out 6).trans rfl; have hcz41_7 : w40.cell? ⟨gb131, 7, none⟩ = some (.int .i64 a0_7) := (blk_cell BK131.out 7).trans rfl; have hcz41_8 : w40.cell? ⟨gb131, 8, none⟩ = some (.int .i64 a0_8) := (blk_cell BK131.out 8).trans rfl; have hcz41_9 : w40.cell? ⟨gb131, 9, none⟩ = some (.string a0_9) := (blk_cell BK131.out 9).trans rfl; have hfz41_0 := blk_frozen BK131.out 0; have hfz41_1 := blk_frozen BK131.out 1; have hfz41_2 := blk_frozen BK131.out 2; have hfz41_3 := blk_frozen BK131.out 3; have hfz41_4 := blk_frozen BK131.out 4; have hfz41_5 := blk_frozen BK131.out 5; have hfz41_6 := blk_frozen BK131.out 6; have hfz41_7 := blk_frozen BK131.out 7; have hfz41_8 := blk_frozen BK131.out 8; have hfz41_9 := blk_frozen BK131.out 9) | ((with_reducible refine gate_callee (f := 79) rfl ?_); refine goesL_ (some 50) rfl rfl Try.func79 (by kernel_rfl) rfl #[.int .i64 a0_3, .int .i64 0, .int .i64 80] rfl (by (try simp only [List.map_toArray, List.map_cons, List.map_nil]); first | done | rfl | (simp only [List.length_drop, List.length_take]; rfl)) ?_; (with_reducible refine (impl_within.calls a0_3 0 80 true _ A36.out).mono ?_); rintro e w' ⟨rfl, ⟨nd, rfl⟩⟩; refine ⟨_, rfl, ?_⟩))
       go_ret
       exact ⟨by first | rfl | (simp [errW_none, errW_some] <;> rfl) | (simp [*, errW_none, errW_some] <;> rfl), by repeat (first | (with_reducible first | exact HB.out | apply below_alloc | apply pw_below_drewN | apply below_drew1 | refine below_set ?_ GE131.out) | exact HB.out)⟩
      ·rw [if_neg c39] at H
       have c39b0 : (a0_2 == 0) = false := beq_eq_false_iff_ne.mpr c39
       have c39b1 : (a0_2 != 0) = true := bne_iff_ne.mpr c39
       obtain rfl := Option.some.inj H
       go_enter Try.func100, Try.ntmps100
       go_wp2_with (first | ((with_reducible refine gate_dst (N := 1) rfl ?_); refine box_event ?hg (N := 1) ?hd (cs := #[.int .i64 a0_0, .int .i64 a0_1, .int .i64 a0_2, .int .i64 a0_3, .int .i64 a0_4, .int .i64 a0_5, .int .i64 a0_6, .int .i64 a0_7, .int .i64 a0_8, .string a0_9]) (t := 54) ?hr ?_; (case hd => rfl); (case hg => rfl); (case hr => first | (go_simp; done) | (go_simp; rfl)); intro gb131 hg w42 hbox hb; have n0_ := Aside0.mk (below_step xbel hb); have n1_ := Aside0.mk (hbox); have n2_ := Aside0.mk ((by rw [hg]; exact (below_size xbel) : w.heap.size ≤ gb131)); have n3_ := Aside0.mk ((by rw [hg]; exact (below_size xbel) : w.heap.size ≤ gb131)); clear HB; have HB := n0_; have BK131 := n1_; have GW131 := n2_; have GE131 := n3_; clear n0_ n1_ n2_ n3_; clear hb hbox hg; have hcz43_0 : w42.cell? ⟨gb131, 0, none⟩ = some (.int .i64 a0_0) := (blk_cell BK131.out 0).trans rfl; have hcz43_1 : w42.cell? ⟨gb131, 1, none⟩ = some (.int .i64 a0_1) := (blk_cell BK131.out 1).trans rfl; have hcz43_2 : w42.cell? ⟨gb131, 2, none⟩ = some (.int .i64 a0_2) := (blk_cell BK131.out 2).trans rfl; have hcz43_3 : w42.cell? ⟨gb131, 3, none⟩ = some (.int .i64 a0_3) := (blk_cell BK131.out 3).trans rfl; have hcz43_4 : w42.cell? ⟨gb131, 4, none⟩ = some (.int .i64 a0_4) := (blk_cell BK131.out 4).trans rfl; have hcz43_5 : w42.cell? ⟨gb131, 5, none⟩ = some (.int .i64 a0_5) := (blk_cell BK131.out 5).trans rfl; have hcz43_6 : w42.cell? ⟨gb131, 6, none⟩ = some (.int .i64 a0_6) := (blk_cell BK131.out 6).trans rfl; have hcz43_7 : w42.cell? ⟨gb131, 7, none⟩ = some (.int .i64 a0_7) := (blk_cell BK131.out 7).trans rfl; have hcz43_8 : w42.cell? ⟨gb131, 8, none⟩ = some (.int .i64 a0_8) := (blk_cell BK131.out 8).trans rfl; have hcz43_9 : w42.cell? ⟨gb131, 9, none⟩ = some (.string a0_9) := (blk_cell BK131.out 9).trans rfl; have hfz43_0 := blk_frozen BK131.out 0; have hfz43_1 := blk_frozen BK131.out 1; have hfz43_2 := blk_frozen BK131.out 2; have hfz43_3 := blk_frozen BK131.out 3; have hfz43_4 := blk_frozen BK131.out 4; have hfz43_5 := blk_frozen BK131.out 5; have hfz43_6 := blk_frozen BK131.out 6; have hfz43_7 := blk_frozen BK131.out 7; have hfz43_8 := blk_frozen BK131.out 8; have hfz43_9 := blk_frozen BK131.out 9) | ((with_reducible refine gate_callee (f := 79) rfl ?_); refine goesL_ (some 50) rfl rfl Try.func79 (by kernel_rfl) rfl #[.int .i64 a0_3, .int .i64 0, .int .i64 80] rfl (by (try simp only [List.map_toArray, List.map_cons, List.map_nil]); first | done | rfl | (simp only [List.length_drop, List.length_take]; rfl)) ?_; (with_reducible refine (impl_within.calls a0_3 0 80 true _ A36.out).mono ?_); rintro e w' ⟨rfl, ⟨nd, rfl⟩⟩; refine ⟨_, rfl, ?_⟩))
       go_ret
       exact ⟨by first | rfl | (simp [errW_none, errW_some] <;> rfl) | (simp [*, errW_none, errW_some] <;> rfl), by repeat (first | (with_reducible first | exact HB.out | apply below_alloc | apply pw_below_drewN | apply below_drew1 | refine below_set ?_ GE131.out) | exact HB.out)⟩
     ·rw [if_neg c38] at H
      have c38b0 : (a0_1 == 0) = false := beq_eq_false_iff_ne.mpr c38
      have c38b1 : (a0_1 != 0) = true := bne_iff_ne.mpr c38
      obtain rfl := Option.some.inj H
      go_enter Try.func100, Try.ntmps100
      go_wp2_with (first | ((with_reducible refine gate_dst (N := 1) rfl ?_); refine box_event ?hg (N := 1) ?hd (cs := #[.int .i64 a0_0, .int .i64 a0_1, .int .i64 a0_2, .int .i64 a0_3, .int .i64 a0_4, .int .i64 a0_5, .int .i64 a0_6, .int .i64 a0_7, .int .i64 a0_8, .string a0_9]) (t := 54) ?hr ?_; (case hd => rfl); (case hg => rfl); (case hr => first | (go_simp; done) | (go_simp; rfl)); intro gb131 hg w44 hbox hb; have n0_ := Aside0.mk (below_step xbel hb); have n1_ := Aside0.mk (hbox); have n2_ := Aside0.mk ((by rw [hg]; exact (below_size xbel) : w.heap.size ≤ gb131)); have n3_ := Aside0.mk ((by rw [hg]; exact (below_size xbel) : w.heap.size ≤ gb131)); clear HB; have HB := n0_; have BK131 := n1_; have GW131 := n2_; have GE131 := n3_; clear n0_ n1_ n2_ n3_; clear hb hbox hg; have hcz45_0 : w44.cell? ⟨gb131, 0, none⟩ = some (.int .i64 a0_0) := (blk_cell BK131.out 0).trans rfl; have hcz45_1 : w44.cell? ⟨gb131, 1, none⟩ = some (.int .i64 a0_1) := (blk_cell BK131.out 1).trans rfl; have hcz45_2 : w44.cell? ⟨gb131, 2, none⟩ = some (.int .i64 a0_2) := (blk_cell BK131.out 2).trans rfl; have hcz45_3 : w44.cell? ⟨gb131, 3, none⟩ = some (.int .i64 a0_3) := (blk_cell BK131.out 3).trans rfl; have hcz45_4 : w44.cell? ⟨gb131, 4, none⟩ = some (.int .i64 a0_4) := (blk_cell BK131.out 4).trans rfl; have hcz45_5 : w44.cell? ⟨gb131, 5, none⟩ = some (.int .i64 a0_5) := (blk_cell BK131.out 5).trans rfl; have hcz45_6 : w44.cell? ⟨gb131, 6, none⟩ = some (.int .i64 a0_6) := (blk_cell BK131.out 6).trans rfl; have hcz45_7 : w44.cell? ⟨gb131, 7, none⟩ = some (.int .i64 a0_7) := (blk_cell BK131.out 7).trans rfl; have hcz45_8 : w44.cell? ⟨gb131, 8, none⟩ = some (.int .i64 a0_8) := (blk_cell BK131.out 8).trans rfl; have hcz45_9 : w44.cell? ⟨gb131, 9, none⟩ = some (.string a0_9) := (blk_cell BK131.out 9).trans rfl; have hfz45_0 := blk_frozen BK131.out 0; have hfz45_1 := blk_frozen BK131.out 1; have hfz45_2 := blk_frozen BK131.out 2; have hfz45_3 := blk_frozen BK131.out 3; have hfz45_4 := blk_frozen BK131.out 4; have hfz45_5 := blk_frozen BK131.out 5; have hfz45_6 := blk_frozen BK131.out 6; have hfz45_7 := blk_frozen BK131.out 7; have hfz45_8 := blk_frozen BK131.out 8; have hfz45_9 := blk_frozen BK131.out 9) | ((with_reducible refine gate_callee (f := 79) rfl ?_); refine goesL_ (some 50) rfl rfl Try.func79 (by kernel_rfl) rfl #[.int .i64 a0_3, .int .i64 0, .int .i64 80] rfl (by (try simp only [List.map_toArray, List.map_cons, List.map_nil]); first | done | rfl | (simp only [List.length_drop, List.length_take]; rfl)) ?_; (with_reducible refine (impl_within.calls a0_3 0 80 true _ A36.out).mono ?_); rintro e w' ⟨rfl, ⟨nd, rfl⟩⟩; refine ⟨_, rfl, ?_⟩))
      go_ret
      exact ⟨by first | rfl | (simp [errW_none, errW_some] <;> rfl) | (simp [*, errW_none, errW_some] <;> rfl), by repeat (first | (with_reducible first | exact HB.out | apply below_alloc | apply pw_below_drewN | apply below_drew1 | refine below_set ?_ GE131.out) | exact HB.out)⟩
    ·replace c37 := Bool.eq_false_iff.mpr c37
     subst c37
     have H1 : (some false) = some r := by rw [if_neg (show ¬ (false = true) by decide)] at H; exact H
     clear H
     have H := H1
     clear H1
     obtain rfl := Option.some.inj H
     go_enter Try.func100, Try.ntmps100
     go_wp2_with (first | ((with_reducible refine gate_dst (N := 1) rfl ?_); refine box_event ?hg (N := 1) ?hd (cs := #[.int .i64 a0_0, .int .i64 a0_1, .int .i64 a0_2, .int .i64 a0_3, .int .i64 a0_4, .int .i64 a0_5, .int .i64 a0_6, .int .i64 a0_7, .int .i64 a0_8, .string a0_9]) (t := 54) ?hr ?_; (case hd => rfl); (case hg => rfl); (case hr => first | (go_simp; done) | (go_simp; rfl)); intro gb131 hg w46 hbox hb; have n0_ := Aside0.mk (below_step xbel hb); have n1_ := Aside0.mk (hbox); have n2_ := Aside0.mk ((by rw [hg]; exact (below_size xbel) : w.heap.size ≤ gb131)); have n3_ := Aside0.mk ((by rw [hg]; exact (below_size xbel) : w.heap.size ≤ gb131)); clear HB; have HB := n0_; have BK131 := n1_; have GW131 := n2_; have GE131 := n3_; clear n0_ n1_ n2_ n3_; clear hb hbox hg; have hcz47_0 : w46.cell? ⟨gb131, 0, none⟩ = some (.int .i64 a0_0) := (blk_cell BK131.out 0).trans rfl; have hcz47_1 : w46.cell? ⟨gb131, 1, none⟩ = some (.int .i64 a0_1) := (blk_cell BK131.out 1).trans rfl; have hcz47_2 : w46.cell? ⟨gb131, 2, none⟩ = some (.int .i64 a0_2) := (blk_cell BK131.out 2).trans rfl; have hcz47_3 : w46.cell? ⟨gb131, 3, none⟩ = some (.int .i64 a0_3) := (blk_cell BK131.out 3).trans rfl; have hcz47_4 : w46.cell? ⟨gb131, 4, none⟩ = some (.int .i64 a0_4) := (blk_cell BK131.out 4).trans rfl; have hcz47_5 : w46.cell? ⟨gb131, 5, none⟩ = some (.int .i64 a0_5) := (blk_cell BK131.out 5).trans rfl; have hcz47_6 : w46.cell? ⟨gb131, 6, none⟩ = some (.int .i64 a0_6) := (blk_cell BK131.out 6).trans rfl; have hcz47_7 : w46.cell? ⟨gb131, 7, none⟩ = some (.int .i64 a0_7) := (blk_cell BK131.out 7).trans rfl; have hcz47_8 : w46.cell? ⟨gb131, 8, none⟩ = some (.int .i64 a0_8) := (blk_cell BK131.out 8).trans rfl; have hcz47_9 : w46.cell? ⟨gb131, 9, none⟩ = some (.string a0_9) := (blk_cell BK131.out 9).trans rfl; have hfz47_0 := blk_frozen BK131.out 0; have hfz47_1 := blk_frozen BK131.out 1; have hfz47_2 := blk_frozen BK131.out 2; have hfz47_3 := blk_frozen BK131.out 3; have hfz47_4 := blk_frozen BK131.out 4; have hfz47_5 := blk_frozen BK131.out 5; have hfz47_6 := blk_frozen BK131.out 6; have hfz47_7 := blk_frozen BK131.out 7; have hfz47_8 := blk_frozen BK131.out 8; have hfz47_9 := blk_frozen BK131.out 9) | ((with_reducible refine gate_callee (f := 79) rfl ?_); refine goesL_ (some 50) rfl rfl Try.func79 (by kernel_rfl) rfl #[.int .i64 a0_3, .int .i64 0, .int .i64 80] rfl (by (try simp only [List.map_toArray, List.map_cons, List.map_nil]); first | done | rfl | (simp only [List.length_drop, List.length_take]; rfl)) ?_; (with_reducible refine (impl_within.calls a0_3 0 80 false _ A36.out).mono ?_); rintro e w' ⟨rfl, ⟨nd, rfl⟩⟩; refine ⟨_, rfl, ?_⟩))
     go_ret
     exact ⟨by first | rfl | (simp [errW_none, errW_some] <;> rfl) | (simp [*, errW_none, errW_some] <;> rfl), by repeat (first | (with_reducible first | exact HB.out | apply below_alloc | apply pw_below_drewN | apply below_drew1 | refine below_set ?_ GE131.out) | exact HB.out)⟩
   ·rw [if_neg c35] at H
    have c35b0 : (a0_0 == 3) = false := beq_eq_false_iff_ne.mpr c35
    have c35b1 : (a0_0 != 3) = true := bne_iff_ne.mpr c35
    obtain rfl := Option.some.inj H
    go_enter Try.func100, Try.ntmps100
    go_wp2_with (first | ((with_reducible refine gate_dst (N := 1) rfl ?_); refine box_event ?hg (N := 1) ?hd (cs := #[.int .i64 a0_0, .int .i64 a0_1, .int .i64 a0_2, .int .i64 a0_3, .int .i64 a0_4, .int .i64 a0_5, .int .i64 a0_6, .int .i64 a0_7, .int .i64 a0_8, .string a0_9]) (t := 54) ?hr ?_; (case hd => rfl); (case hg => rfl); (case hr => first | (go_simp; done) | (go_simp; rfl)); intro gb131 hg w48 hbox hb; have n0_ := Aside0.mk (below_step xbel hb); have n1_ := Aside0.mk (hbox); have n2_ := Aside0.mk ((by rw [hg]; exact (below_size xbel) : w.heap.size ≤ gb131)); have n3_ := Aside0.mk ((by rw [hg]; exact (below_size xbel) : w.heap.size ≤ gb131)); clear HB; have HB := n0_; have BK131 := n1_; have GW131 := n2_; have GE131 := n3_; clear n0_ n1_ n2_ n3_; clear hb hbox hg; have hcz49_0 : w48.cell? ⟨gb131, 0, none⟩ = some (.int .i64 a0_0) := (blk_cell BK131.out 0).trans rfl; have hcz49_1 : w48.cell? ⟨gb131, 1, none⟩ = some (.int .i64 a0_1) := (blk_cell BK131.out 1).trans rfl; have hcz49_2 : w48.cell? ⟨gb131, 2, none⟩ = some (.int .i64 a0_2) := (blk_cell BK131.out 2).trans rfl; have hcz49_3 : w48.cell? ⟨gb131, 3, none⟩ = some (.int .i64 a0_3) := (blk_cell BK131.out 3).trans rfl; have hcz49_4 : w48.cell? ⟨gb131, 4, none⟩ = some (.int .i64 a0_4) := (blk_cell BK131.out 4).trans rfl; have hcz49_5 : w48.cell? ⟨gb131, 5, none⟩ = some (.int .i64 a0_5) := (blk_cell BK131.out 5).trans rfl; have hcz49_6 : w48.cell? ⟨gb131, 6, none⟩ = some (.int .i64 a0_6) := (blk_cell BK131.out 6).trans rfl; have hcz49_7 : w48.cell? ⟨gb131, 7, none⟩ = some (.int .i64 a0_7) := (blk_cell BK131.out 7).trans rfl; have hcz49_8 : w48.cell? ⟨gb131, 8, none⟩ = some (.int .i64 a0_8) := (blk_cell BK131.out 8).trans rfl; have hcz49_9 : w48.cell? ⟨gb131, 9, none⟩ = some (.string a0_9) := (blk_cell BK131.out 9).trans rfl; have hfz49_0 := blk_frozen BK131.out 0; have hfz49_1 := blk_frozen BK131.out 1; have hfz49_2 := blk_frozen BK131.out 2; have hfz49_3 := blk_frozen BK131.out 3; have hfz49_4 := blk_frozen BK131.out 4; have hfz49_5 := blk_frozen BK131.out 5; have hfz49_6 := blk_frozen BK131.out 6; have hfz49_7 := blk_frozen BK131.out 7; have hfz49_8 := blk_frozen BK131.out 8; have hfz49_9 := blk_frozen BK131.out 9))
    go_ret
    exact ⟨by first | rfl | (simp [errW_none, errW_some] <;> rfl) | (simp [*, errW_none, errW_some] <;> rfl), by repeat (first | (with_reducible first | exact HB.out | apply below_alloc | apply pw_below_drewN | apply below_drew1 | refine below_set ?_ GE131.out) | exact HB.out)⟩

/-! ### impl_GetNum: function 160 -/
mutual
def impl_GetNum.l0 : Nat → List Int → Int → Int → Int → Option (Int × Int × Bool)
 | 0, _, _, _, _ => none
 | k + 1, x0, x1, x7, x8 => if x8 < 9 then (impl_GetNum.j1 k x0 x1 x7 x8 (decide (x8 < (wrap64 ((x0.length : Int) - x1))))) else (impl_GetNum.j1 k x0 x1 x7 x8 false)
def impl_GetNum.j1 : Nat → List Int → Int → Int → Int → Bool → Option (Int × Int × Bool)
 | 0, _, _, _, _, _ => none
 | k + 1, x0, x1, x7, x8, x21 => if x21 = true then (if 0 ≤ (wrap64 (x1 + x8)) then (if (wrap64 (x1 + x8)) < (x0.length : Int) then (if 0 ≤ (wrap64 (7 * x8)) then (if (wrap64 (rd x0 (wrap64 (x1 + x8)))) > 127 then (impl_GetNum.l0 k x0 x1 (Go.bits .or .i64 x7 (shl .i64 (Go.bits .and .i64 (wrap64 (rd x0 (wrap64 (x1 + x8)))) 127) (wrap64 (7 * x8)))) (wrap64 (x8 + 1))) else (if x8 > 0 then (if (wrap64 (rd x0 (wrap64 (x1 + x8)))) = 0 then (some (0, 0, false)) else (some (Go.bits .or .i64 x7 (shl .i64 (Go.bits .and .i64 (wrap64 (rd x0 (wrap64 (x1 + x8)))) 127) (wrap64 (7 * x8))), wrap64 ((wrap64 (x1 + x8)) + 1), true))) else (some (Go.bits .or .i64 x7 (shl .i64 (Go.bits .and .i64 (wrap64 (rd x0 (wrap64 (x1 + x8)))) 127) (wrap64 (7 * x8))), wrap64 ((wrap64 (x1 + x8)) + 1), true)))) else (none)) else (none)) else (none)) else (some (0, 0, false))
end
def impl_GetNum.f (k : Nat) (l0 : List Int) (a1 : Int) : Option (Int × Int × Bool) := if a1 < 0 then (some (0, 0, false)) else (impl_GetNum.l0 k l0 a1 0 0)
set_option maxRecDepth 100000 in
theorem impl_GetNum.mono_l : ∀ k, (∀ y0 y1 y2 y3, LeO (impl_GetNum.l0 k y0 y1 y2 y3) (impl_GetNum.l0 (k + 1) y0 y1 y2 y3)) ∧ (∀ y0 y1 y2 y3 y4, LeO (impl_GetNum.j1 k y0 y1 y2 y3 y4) (impl_GetNum.j1 (k + 1) y0 y1 y2 y3 y4))
 | 0 => ⟨fun _ _ _ _ r h => by simp [impl_GetNum.l0] at h, fun _ _ _ _ _ r h => by simp [impl_GetNum.j1] at h⟩
 | k + 1 => by
  obtain ⟨ih0, ih1⟩ := impl_GetNum.mono_l k
  refine ⟨?_, ?_⟩
  ·intro y0 y1 y2 y3
   unfold impl_GetNum.l0
   repeat' first
   | (with_reducible exact ih0 _ _ _ _)
   | (with_reducible exact ih1 _ _ _ _ _)
   | (with_reducible exact LeO.refl _)
   | (with_reducible exact LeO.none _)
   | (with_reducible refine LeO.ite ?_ ?_)
   | (with_reducible refine LeO.bind ?_ (fun _ => ?_))
   | exact ih0 _ _ _ _
   | exact ih1 _ _ _ _ _
   | exact LeO.none _
   | refine LeO.ite ?_ ?_
   | refine LeO.bind ?_ (fun _ => ?_)
  ·intro y0 y1 y2 y3 y4
   unfold impl_GetNum.j1
   repeat' first
   | (with_reducible exact ih0 _ _ _ _)
   | (with_reducible exact ih1 _ _ _ _ _)
   | (with_reducible exact LeO.refl _)
   | (with_reducible exact LeO.none _)
   | (with_reducible refine LeO.ite ?_ ?_)
   | (with_reducible refine LeO.bind ?_ (fun _ => ?_))
   | exact ih0 _ _ _ _
   | exact ih1 _ _ _ _ _
   | exact LeO.none _
   | refine LeO.ite ?_ ?_
   | refine LeO.bind ?_ (fun _ => ?_)
theorem impl_GetNum.mono : ∀ a0 a1 k, LeO (impl_GetNum.f k a0 a1) (impl_GetNum.f (k + 1) a0 a1) := by
 intro a0 a1 k
 obtain ⟨ih0, ih1⟩ := impl_GetNum.mono_l k
 unfold impl_GetNum.f
 repeat' first
  | (with_reducible exact ih0 _ _ _ _)
  | (with_reducible exact ih1 _ _ _ _ _)
  | (with_reducible exact LeO.refl _)
  | (with_reducible exact LeO.none _)
  | (with_reducible refine LeO.ite ?_ ?_)
  | (with_reducible refine LeO.bind ?_ (fun _ => ?_))
  | exact ih0 _ _ _ _
  | exact ih1 _ _ _ _ _
  | exact LeO.none _
  | refine LeO.ite ?_ ?_
  | refine LeO.bind ?_ (fun _ => ?_)
set_option maxHeartbeats 8000000 in
set_option maxRecDepth 100000 in
theorem impl_GetNum.calls (k : Nat) (A0 : Option Addr) (c0 : Nat) (l0 : List Int) (a1 : Int) (r1 : Int) (r2 : Int) (r3 : Bool) (w : World) (hr0 : Kd.C (Kd.int .u8) w A0 l0.length l0) (hc0 : l0.length ≤ c0) (h : impl_GetNum.f k l0 a1 = some (r1, r2, r3)) :
 Calls Try.prog 160 #[.slice A0 l0.length c0, .int .i64 a1] w fun e w' => e = .returned (.tuple #[.int .i64 r1, .int .i64 r2, .bool r3]) ∧ Drawn0 w w' := by
 have HR0 := Aside0.mk hr0
 have HC0 := Aside0.mk hc0
 clear hr0 hc0
 have H : (if a1 < 0 then (some (0, 0, false)) else (impl_GetNum.l0 k l0 a1 0 0)) = some (r1, r2, r3) := h
 clear h
 by_cases c3 : a1 < 0
 ·rw [if_pos c3] at H
  have c3b0 : decide (a1 < 0) = true := decide_eq_true c3
  clear c3
  simp only [Option.some.injEq, Prod.mk.injEq] at H
  obtain ⟨rfl, rfl, rfl⟩ := H
  go_enter Try.func160, Try.ntmps160
  go_wp2
  go_ret3
  exact ⟨by first | rfl | (simp; done) | (simp [*]; done), by repeat (first | exact Drawn0.refl _ | apply Drawn0.step)⟩
 ·rw [if_neg c3] at H
  have c3b0 : decide (a1 < 0) = false := decide_eq_false c3
  clear c3
  have H' := Aside0.mk H
  clear H
  go_enter Try.func160, Try.ntmps160
  go_wp2
  go_loopg [7, 8] k (fun kq v7 v8 w' => ∃ (x7_1 : Int) (x8_1 : Int), v7 = .int .i64 x7_1 ∧ v8 = .int .i64 x8_1 ∧ Aside0 (impl_GetNum.l0 kq l0 a1 x7_1 x8_1 = some (r1, r2, r3)) ∧ Aside0 (kq ≤ k) ∧ Drawn0 w w')
  case atStart => exact ⟨(0), (0), (by first | rfl | (simp; done) | (simp [*]; done)), (by first | rfl | (simp; done) | (simp [*]; done)), H', ⟨Nat.le_refl _⟩, by repeat (first | exact Drawn0.refl _ | apply Drawn0.step)⟩
  case round =>
   clear H'
   try clear c1
   try clear p2
   try clear c3
   try clear c3b0
   obtain ⟨x7_1, x8_1, rfl, rfl, HA, HK1, ⟨m1, rfl⟩⟩ := hrel
   cases gk with
   | zero => exact absurd HA.out (by simp [impl_GetNum.l0])
   | succ k1 =>
    have H := HA.out
    clear HA
    simp only [impl_GetNum.l0] at H
    have HC4 := Aside0.mk H
    clear H
    go_upto_region 5 with (fail)
    go_cut [21] (fun v21 wc => ∃ (kq : Nat) (x21_3 : Bool), v21 = .bool x21_3 ∧ Aside0 (impl_GetNum.j1 kq l0 a1 x7_1 x8_1 x21_3 = some (r1, r2, r3)) ∧ Aside0 (kq ≤ k1) ∧ Drawn0 w wc)
    case first =>
     have H := HC4.out
     clear HC4
     by_cases c5 : x8_1 < 9
     ·rw [if_pos c5] at H
      have c5b0 : decide (x8_1 < 9) = true := decide_eq_true c5
      clear c5
      (first | rw [c5b0] | (simp only [i64_w, i32_w]; rw [c5b0]) | skip)
      have H' := Aside0.mk H
      clear H
      go_wp2
      go_meet
      case rel => exact ⟨_, (decide (x8_1 < (wrap64 ((l0.length : Int) - a1)))), (by first | rfl | (simp; done) | (simp [*]; done)), H', ⟨by have := HK1.out; first | omega | exact Nat.le_refl _⟩, by repeat (first | exact Drawn0.refl _ | apply Drawn0.step)⟩
     ·rw [if_neg c5] at H
      have c5b0 : decide (x8_1 < 9) = false := decide_eq_false c5
      clear c5
      (first | rw [c5b0] | (simp only [i64_w, i32_w]; rw [c5b0]) | skip)
      have H' := Aside0.mk H
      clear H
      go_wp2
      go_meet
      case rel => exact ⟨_, (false), (by first | rfl | (simp; done) | (simp [*]; done)), H', ⟨by have := HK1.out; first | omega | exact Nat.le_refl _⟩, by repeat (first | exact Drawn0.refl _ | apply Drawn0.step)⟩
    case rest =>
     clear HC4
     try clear c1
     try clear p2
     try clear c3
     try clear c3b0
     try clear c5
     try clear c5b0
     try clear p2
     obtain ⟨kq, x21_3, rfl, HA, HJ3, ⟨mc3, rfl⟩⟩ := hcut
     cases kq with
     | zero => exact absurd HA.out (by simp [impl_GetNum.j1])
     | succ kj3 =>
      have H := HA.out
      clear HA
      simp only [impl_GetNum.j1] at H
      by_cases c6 : x21_3 = true
      ·subst c6
       have H1 : (if 0 ≤ (wrap64 (a1 + x8_1)) then (if (wrap64 (a1 + x8_1)) < (l0.length : Int) then (if 0 ≤ (wrap64 (7 * x8_1)) then (if (wrap64 (rd l0 (wrap64 (a1 + x8_1)))) > 127 then (impl_GetNum.l0 kj3 l0 a1 (Go.bits .or .i64 x7_1 (shl .i64 (Go.bits .and .i64 (wrap64 (rd l0 (wrap64 (a1 + x8_1)))) 127) (wrap64 (7 * x8_1)))) (wrap64 (x8_1 + 1))) else (if x8_1 > 0 then (if (wrap64 (rd l0 (wrap64 (a1 + x8_1)))) = 0 then (some (0, 0, false)) else (some (Go.bits .or .i64 x7_1 (shl .i64 (Go.bits .and .i64 (wrap64 (rd l0 (wrap64 (a1 + x8_1)))) 127) (wrap64 (7 * x8_1))), wrap64 ((wrap64 (a1 + x8_1)) + 1), true))) else (some (Go.bits .or .i64 x7_1 (shl .i64 (Go.bits .and .i64 (wrap64 (rd l0 (wrap64 (a1 + x8_1)))) 127) (wrap64 (7 * x8_1))), wrap64 ((wrap64 (a1 + x8_1)) + 1), true)))) else (none)) else (none)) else (none)) = some (r1, r2, r3) := by rw [if_pos rfl] at H; exact H
       clear H
       have H := H1
       clear H1
       obtain ⟨ji7, hji7⟩ : ∃ j_ : Int, (wrap64 (a1 + x8_1)) = j_ := ⟨_, rfl⟩
       replace H : (if 0 ≤ (ji7) then (if (ji7) < (l0.length : Int) then (if 0 ≤ (wrap64 (7 * x8_1)) then (if (wrap64 (rd l0 (ji7))) > 127 then (impl_GetNum.l0 kj3 l0 a1 (Go.bits .or .i64 x7_1 (shl .i64 (Go.bits .and .i64 (wrap64 (rd l0 (ji7))) 127) (wrap64 (7 * x8_1)))) (wrap64 (x8_1 + 1))) else (if x8_1 > 0 then (if (wrap64 (rd l0 (ji7))) = 0 then (some (0, 0, false)) else (some (Go.bits .or .i64 x7_1 (shl .i64 (Go.bits .and .i64 (wrap64 (rd l0 (ji7))) 127) (wrap64 (7 * x8_1))), wrap64 ((ji7) + 1), true))) else (some (Go.bits .or .i64 x7_1 (shl .i64 (Go.bits .and .i64 (wrap64 (rd l0 (ji7))) 127) (wrap64 (7 * x8_1))), wrap64 ((ji7) + 1), true)))) else (none)) else (none)) else (none)) = some (r1, r2, r3) := by first | (rw [hji7] at H; exact H) | (simp only [hji7] at H ⊢; exact H)
       have hji7w : (IntKind.i64.wrap (a1 + x8_1)) = ji7 := (i64_w _).trans hji7
       by_cases c8 : 0 ≤ (ji7)
       ·rw [if_pos c8] at H
        have c8b0 : decide (0 ≤ (ji7)) = true := decide_eq_true c8
        clear c8
        by_cases c9 : (ji7) < (l0.length : Int)
        ·rw [if_pos c9] at H
         have c9b0 : decide ((ji7) < (l0.length : Int)) = true := decide_eq_true c9
         clear c9
         obtain ⟨ji10, hji10⟩ : ∃ j_ : Int, (wrap64 (7 * x8_1)) = j_ := ⟨_, rfl⟩
         replace H : (if 0 ≤ (ji10) then (if (wrap64 (rd l0 (ji7))) > 127 then (impl_GetNum.l0 kj3 l0 a1 (Go.bits .or .i64 x7_1 (shl .i64 (Go.bits .and .i64 (wrap64 (rd l0 (ji7))) 127) (ji10))) (wrap64 (x8_1 + 1))) else (if x8_1 > 0 then (if (wrap64 (rd l0 (ji7))) = 0 then (some (0, 0, false)) else (some (Go.bits .or .i64 x7_1 (shl .i64 (Go.bits .and .i64 (wrap64 (rd l0 (ji7))) 127) (ji10)), wrap64 ((ji7) + 1), true))) else (some (Go.bits .or .i64 x7_1 (shl .i64 (Go.bits .and .i64 (wrap64 (rd l0 (ji7))) 127) (ji10)), wrap64 ((ji7) + 1), true)))) else (none)) = some (r1, r2, r3) := by first | (rw [hji10] at H; exact H) | (simp only [hji10] at H ⊢; exact H)
         have hji10w : (IntKind.i64.wrap (7 * x8_1)) = ji10 := (i64_w _).trans hji10
         by_cases c11 : 0 ≤ (ji10)
         ·rw [if_pos c11] at H
          have c11b0 := eq_true c11
          have c11b1 : decide (0 ≤ (ji10)) = true := decide_eq_true c11
          clear c11
          obtain ⟨ji12, hji12⟩ : ∃ j_ : Int, (shl .i64 (Go.bits .and .i64 (wrap64 (rd l0 (ji7))) 127) (ji10)) = j_ := ⟨_, rfl⟩
          replace H : (if (wrap64 (rd l0 (ji7))) > 127 then (impl_GetNum.l0 kj3 l0 a1 (Go.bits .or .i64 x7_1 (ji12)) (wrap64 (x8_1 + 1))) else (if x8_1 > 0 then (if (wrap64 (rd l0 (ji7))) = 0 then (some (0, 0, false)) else (some (Go.bits .or .i64 x7_1 (ji12), wrap64 ((ji7) + 1), true))) else (some (Go.bits .or .i64 x7_1 (ji12), wrap64 ((ji7) + 1), true)))) = some (r1, r2, r3) := by first | (rw [hji12] at H; exact H) | (simp only [hji12] at H ⊢; exact H)
          have hji12_ : (IntKind.i64.wrap ((Go.bits .and .i64 (wrap64 (rd l0 (ji7))) 127) * 2 ^ min (ji10).toNat 64)) = ji12 := hji12
          have hji12z : (ji10) ≤ 64 → (IntKind.i64.wrap ((Go.bits .and .i64 (wrap64 (rd l0 (ji7))) 127) * 2 ^ (ji10).toNat)) = ji12 := shl_small hji12
          have hji12y : (wrap64 ((Go.bits .and .i64 (wrap64 (rd l0 (ji7))) 127) * 2 ^ min (ji10).toNat 64)) = ji12 := (i64_w _).symm.trans hji12_
          have hji12x : (ji10) ≤ 64 → (wrap64 ((Go.bits .and .i64 (wrap64 (rd l0 (ji7))) 127) * 2 ^ (ji10).toNat)) = ji12 := fun h_ => (i64_w _).symm.trans (hji12z h_)
          by_cases c13 : (wrap64 (rd l0 (ji7))) > 127
          ·rw [if_pos c13] at H
           have c13b0 : decide (127 < (wrap64 (rd l0 (ji7)))) = true := decide_eq_true c13
           clear c13
           have H' := Aside0.mk H
           clear H
           have p137 : 0 ≤ ((ji7) : Int) := of_decide_eq_true (by first | (with_reducible assumption) | assumption)
           have q137 : (ji7) < (l0.length : Int) := of_decide_eq_true (by first | (with_reducible assumption) | assumption)
           obtain ⟨ad137, e137, hx137_0⟩ := Kd.at_int HR0.out (ji7) p137 q137
           cases e137
           replace p137 := eq_true p137
           replace q137 := eq_true q137
           go_wp2
           go_roundg kj3
           case measure => have := HK1.out; have := HJ3.out; omega
           case rel => exact ⟨(Go.bits .or .i64 x7_1 (ji12)), (wrap64 (x8_1 + 1)), (by first | rfl | (simp; done) | (simp only [← hji12] <;> (first | rfl | simp)) | (simp [*]; done)), (by first | rfl | (simp; done) | (simp [*]; done)), H', ⟨by have := HK1.out; have := HJ3.out; omega⟩, by repeat (first | exact Drawn0.refl _ | apply Drawn0.step)⟩
          ·rw [if_neg c13] at H
           have c13b0 : decide (127 < (wrap64 (rd l0 (ji7)))) = false := decide_eq_false c13
           clear c13
           by_cases c14 : x8_1 > 0
           ·rw [if_pos c14] at H
            have c14b0 : decide (0 < x8_1) = true := decide_eq_true c14
            clear c14
            by_cases c15 : (wrap64 (rd l0 (ji7))) = 0
            ·rw [if_pos c15] at H
             have c15b0 : ((wrap64 (rd l0 (ji7))) == 0) = true := beq_iff_eq.mpr c15
             have c15b1 : ((wrap64 (rd l0 (ji7))) != 0) = false := bne_eq_false_iff_eq.mpr c15
             clear c15
             simp only [Option.some.injEq, Prod.mk.injEq] at H
             obtain ⟨rfl, rfl, rfl⟩ := H
             have p137 : 0 ≤ ((ji7) : Int) := of_decide_eq_true (by first | (with_reducible assumption) | assumption)
             have q137 : (ji7) < (l0.length : Int) := of_decide_eq_true (by first | (with_reducible assumption) | assumption)
             obtain ⟨ad137, e137, hx137_0⟩ := Kd.at_int HR0.out (ji7) p137 q137
             cases e137
             replace p137 := eq_true p137
             replace q137 := eq_true q137
             go_wp2
             go_ret3
             exact ⟨by first | rfl | (simp; done) | (simp only [← hji7, ← hji10, ← hji12] <;> (first | rfl | simp)) | (simp [*]; done), by repeat (first | exact Drawn0.refl _ | apply Drawn0.step)⟩
            ·rw [if_neg c15] at H
             have c15b0 : ((wrap64 (rd l0 (ji7))) == 0) = false := beq_eq_false_iff_ne.mpr c15
             have c15b1 : ((wrap64 (rd l0 (ji7))) != 0) = true := bne_iff_ne.mpr c15
             simp only [Option.some.injEq, Prod.mk.injEq] at H
             obtain ⟨rfl, rfl, rfl⟩ := H
             have p137 : 0 ≤ ((ji7) : Int) := of_decide_eq_true (by first | (with_reducible assumption) | assumption)
             have q137 : (ji7) < (l0.length : Int) := of_decide_eq_true (by first | (with_reducible assumption) | assumption)
             obtain ⟨ad137, e137, hx137_0⟩ := Kd.at_int HR0.out (ji7) p137 q137
             cases e137
             replace p137 := eq_true p137
             replace q137 := eq_true q137
             go_wp2
             go_ret3
             exact ⟨by first | rfl | (simp; done) | (simp only [← hji7, ← hji10, ← hji12] <;> (first | rfl | simp)) | (simp [*]; done), by repeat (first | exact Drawn0.refl _ | apply Drawn0.step)⟩
           ·rw [if_neg c14] at H
            have c14b0 : decide (0 < x8_1) = false := decide_eq_false c14
            clear c14
            simp only [Option.some.injEq, Prod.mk.injEq] at H
            obtain ⟨rfl, rfl, rfl⟩ := H
            have p137 : 0 ≤ ((ji7) : Int) := of_decide_eq_true (by first | (with_reducible assumption) | assumption)
            have q137 : (ji7) < (l0.length : Int) := of_decide_eq_true (by first | (with_reducible assumption) | assumption)
            obtain ⟨ad137, e137, hx137_0⟩ := Kd.at_int HR0.out (ji7) p137 q137
            cases e137
            replace p137 := eq_true p137
            replace q137 := eq_true q137
            go_wp2
            go_ret3
            exact ⟨by first | rfl | (simp; done) | (simp only [← hji7, ← hji10, ← hji12] <;> (first | rfl | simp)) | (simp [*]; done), by repeat (first | exact Drawn0.refl _ | apply Drawn0.step)⟩
         ·rw [if_neg c11] at H
          exact absurd H (by simp)
        ·rw [if_neg c9] at H
         exact absurd H (by simp)
       ·rw [if_neg c8] at H
        exact absurd H (by simp)
      ·replace c6 := Bool.eq_false_iff.mpr c6
       subst c6
       have H1 : (some (0, 0, false)) = some (r1, r2, r3) := by rw [if_neg (show ¬ (false = true) by decide)] at H; exact H
       clear H
       have H := H1
       clear H1
       simp only [Option.some.injEq, Prod.mk.injEq] at H
       obtain ⟨rfl, rfl, rfl⟩ := H
       go_wp2
       go_ret3
       exact ⟨by first | rfl | (simp; done) | (simp [*]; done), by repeat (first | exact Drawn0.refl _ | apply Drawn0.step)⟩

/-! ### impl_reader_num: function 123 -/
structure IsRd (w0 w : World) (g : Nat) (A : Option Addr) (c : Nat) (l : List Int) (at_ : Int) (bad : Bool) : Prop where
  blk : w.heap[g]? = some (.cells #[.slice A l.length c, .int .i64 at_, .bool bad] 141 (0, 0))
  cap : l.length ≤ c
  ge : w0.heap.size ≤ g
  bel : Below w0.heap.size w0 w
  rd : Kd.C (Kd.int .u8) w0 A l.length l
section
variable {w0 w : World} {g : Nat} {A : Option Addr} {c : Nat} {l : List Int} {at_ : Int} {bad : Bool}
theorem IsRd.now (h : IsRd w0 w g A c l at_ bad) : Kd.C (Kd.int .u8) w A l.length l := Kd.C_below h.rd h.bel
theorem IsRd.drewN (h : IsRd w0 w g A c l at_ bad) (n : Nat) : IsRd w0 (w.drewN n) g A c l at_ bad := ⟨blk_drewN h.blk n, h.cap, h.ge, pw_below_drewN h.bel n, h.rd⟩
theorem IsRd.drew (h : IsRd w0 w g A c l at_ bad) : IsRd w0 w.drew g A c l at_ bad := ⟨blk_drew h.blk, h.cap, h.ge, below_drew h.bel, h.rd⟩
theorem IsRd.alloc (h : IsRd w0 w g A c l at_ bad) (o : Obj) : IsRd w0 (w.alloc o) g A c l at_ bad := ⟨blk_alloc h.blk o, h.cap, h.ge, below_alloc h.bel o, h.rd⟩
theorem IsRd.set1 (h : IsRd w0 w g A c l at_ bad) (v : Int) : IsRd w0 (w.setCell ⟨g, 1, none⟩ (.int .i64 v)) g A c l v bad := ⟨(blk_set h.blk 1 _).trans rfl, h.cap, h.ge, below_set h.bel h.ge, h.rd⟩
theorem IsRd.set2 (h : IsRd w0 w g A c l at_ bad) (v : Bool) : IsRd w0 (w.setCell ⟨g, 2, none⟩ (.bool v)) g A c l at_ v := ⟨(blk_set h.blk 2 _).trans rfl, h.cap, h.ge, below_set h.bel h.ge, h.rd⟩
theorem IsRd.far (h : IsRd w0 w g A c l at_ bad) {b i : Nat} {v : Value} (hb : w0.heap.size ≤ b) (hne : g ≠ b) : IsRd w0 (w.setCell ⟨b, i, none⟩ v) g A c l at_ bad := ⟨blk_far h.blk hne v, h.cap, h.ge, below_set h.bel hb, h.rd⟩
theorem IsRd.step (h : IsRd w0 w g A c l at_ bad) {w' : World} (hb : Below w.heap.size w w') : IsRd w0 w' g A c l at_ bad := ⟨blk_below h.blk hb, h.cap, h.ge, below_step h.bel hb, h.rd⟩
theorem IsRd.lt (h : IsRd w0 w g A c l at_ bad) : g < w.heap.size := blk_lt h.blk
end
theorem IsRd.made (w : World) (A : Option Addr) (c : Nat) (l : List Int) (at_ : Int) (hr : Kd.C (Kd.int .u8) w A l.length l) (hc : l.length ≤ c) :
    IsRd w (w.alloc (.cells #[.slice A l.length c, .int .i64 at_, .bool false] 141 (0, 0))) w.heap.size A c l at_ false :=
  ⟨blk_new w _, hc, Nat.le_refl _, below_alloc (Below.refl _ _) _, hr⟩
theorem keep_fr {w W : World} {g b i : Nat} (h : KeepBut w W g none) (hb : w.heap.size ≤ b) (v : Value) : KeepBut w (W.setCell ⟨b, i, none⟩ v) g none :=
  ⟨by have := h.1; simp only [World.setCell, Array.size_modify]; exact this, fun j hj hn hr => (Below.heap_setCell W ⟨b, i, none⟩ v j (by show j ≠ b; omega)).trans (h.2 j hj hn hr)⟩
def rdNum (k : Nat) (l : List Int) (at_ : Int) (bad : Bool) : Option (Int × Int × Bool) :=
  (impl_GetNum.f k l at_).bind fun t => some (if bad = true then (0, at_, true) else if t.2.2 = true then (t.1, t.2.1, false) else (0, at_, true))
set_option maxHeartbeats 4000000 in
set_option maxRecDepth 100000 in
theorem rd_num (k g : Nat) (A : Option Addr) (c : Nat) (l : List Int) (at_ : Int) (bad : Bool) (r at' : Int) (bad' : Bool) (w0 w : World) (hI : IsRd w0 w g A c l at_ bad) (h : rdNum k l at_ bad = some (r, at', bad')) :
    Calls Try.prog 123 #[.pointer (some ⟨g, 0, none⟩)] w fun e w' => e = .returned (.int .i64 r) ∧ IsRd w0 w' g A c l at' bad' ∧ KeepBut w w' g none := by
  have hc0 : w.cell? ⟨g, 0, none⟩ = some (.slice A l.length c) := (blk_cell hI.blk 0).trans rfl
  have hc1 : w.cell? ⟨g, 1, none⟩ = some (.int .i64 at_) := (blk_cell hI.blk 1).trans rfl
  have hc2 : w.cell? ⟨g, 2, none⟩ = some (.bool bad) := (blk_cell hI.blk 2).trans rfl
  have hf1 := blk_frozen hI.blk 1
  have hf2 := blk_frozen hI.blk 2
  have HI := Aside0.mk hI
  unfold rdNum at h
  obtain ⟨⟨x, nx, ok⟩, hA, h⟩ := Option.bind_eq_some_iff.1 h
  have HA := Aside0.mk hA
  clear hI hA
  cases bad <;> cases ok <;> simp only [Bool.false_eq_true, ↓reduceIte, Option.some.injEq, Prod.mk.injEq] at h <;> obtain ⟨rfl, rfl, rfl⟩ := h
  all_goals
    go_enter Try.func123, Try.ntmps123
    go_wp2
    go_quiet (first | (go_at_call 160; refine (impl_GetNum.calls k A c l at_ _ _ _ _ (HI.out.drewN _).now HI.out.cap HA.out).mono ?_; rintro e w' ⟨rfl, ⟨nd, rfl⟩⟩; exact ⟨rfl, _, World.drewN_drewN _ _ _⟩))
    go_wp2
    go_ret
    exact ⟨rfl, by repeat (first | exact HI.out | apply IsRd.set1 | apply IsRd.set2 | apply IsRd.drewN | apply IsRd.drew), by repeat (first | exact KeepBut.refl _ _ _ | apply KeepBut.set_ | apply keep_drewN | apply keep_drew)⟩


/-! ### impl_reader_bytes: function 161 -/
def rdBytes (l : List Int) (at_ : Int) (bad : Bool) (n : Int) : Option (ByteArray × Int × Bool) :=
  if bad = true then some (ByteArray.empty, at_, true) else if n > wrap64 ((l.length : Int) - at_) then some (ByteArray.empty, at_, true)
  else if 0 ≤ at_ ∧ 0 ≤ n ∧ at_ + n ≤ (l.length : Int) then some (strOfNums ((l.take (at_ + n).toNat).drop at_.toNat), at_ + n, false) else none
set_option maxHeartbeats 4000000 in
set_option maxRecDepth 100000 in
theorem rd_bytes (g : Nat) (A : Option Addr) (c : Nat) (l : List Int) (at_ : Int) (bad : Bool) (n : Int) (r : ByteArray) (at' : Int) (bad' : Bool) (w0 w : World) (hI : IsRd w0 w g A c l at_ bad) (h : rdBytes l at_ bad n = some (r, at', bad')) :
    Calls Try.prog 161 #[.pointer (some ⟨g, 0, none⟩), .int .i64 n] w fun e w' => e = .returned (.string r) ∧ IsRd w0 w' g A c l at' bad' ∧ KeepBut w w' g none := by
  have hc0 : w.cell? ⟨g, 0, none⟩ = some (.slice A l.length c) := (blk_cell hI.blk 0).trans rfl
  have hc1 : w.cell? ⟨g, 1, none⟩ = some (.int .i64 at_) := (blk_cell hI.blk 1).trans rfl
  have hc2 : w.cell? ⟨g, 2, none⟩ = some (.bool bad) := (blk_cell hI.blk 2).trans rfl
  have hf1 := blk_frozen hI.blk 1
  have hf2 := blk_frozen hI.blk 2
  have HI := Aside0.mk hI
  clear hI
  unfold rdBytes at h
  cases bad
  · simp only [Bool.false_eq_true, ↓reduceIte] at h
    by_cases c1 : n > wrap64 ((l.length : Int) - at_)
    · simp only [c1, ↓reduceIte, Option.some.injEq, Prod.mk.injEq] at h
      obtain ⟨rfl, rfl, rfl⟩ := h
      have c1b : decide (wrap64 ((l.length : Int) - at_) < n) = true := decide_eq_true c1
      clear c1
      go_enter Try.func161, Try.ntmps161
      go_wp2
      go_quiet (fail)
      go_wp2
      go_ret
      exact ⟨rfl, by repeat (first | exact HI.out | apply IsRd.set1 | apply IsRd.set2 | apply IsRd.drewN | apply IsRd.drew), by repeat (first | exact KeepBut.refl _ _ _ | apply KeepBut.set_ | apply keep_drewN | apply keep_drew)⟩
    · simp only [c1, ↓reduceIte] at h
      split at h
      · rename_i hb
        simp only [Option.some.injEq, Prod.mk.injEq] at h
        obtain ⟨rfl, rfl, rfl⟩ := h
        obtain ⟨b0, b1, b2⟩ := hb
        have hcap := HI.out.cap
        have c1b : decide (wrap64 ((l.length : Int) - at_) < n) = false := decide_eq_false c1
        clear c1
        have hmx := Kd.C_max HI.out.now
        have e1 : wrap64 (at_ + n) = at_ + n := by unfold wrap64; omega
        have e2 : wrap64 at_ = at_ := by unfold wrap64; omega
        have e3 : IntKind.i64.wrap at_ = at_ := by rw [IntKind.wrap_i64]; omega
        have HP : Aside0 (0 ≤ at_ ∧ 0 ≤ n ∧ at_ + n ≤ (l.length : Int) ∧ l.length ≤ c) := ⟨⟨b0, b1, b2, hcap⟩⟩
        clear b0 b1 b2 hcap hmx
        go_enter Try.func161, Try.ntmps161
        go_wp2
        go_quiet (fail)
        go_wp2
        have HI2 : IsRd w0 ((w.drewN nq).setCell ⟨g, 1, none⟩ (.int .i64 (at_ + n))) g A c l (at_ + n) false := (HI.out.drewN nq).set1 (at_ + n)
        have HK2 : KeepBut w ((w.drewN nq).setCell ⟨g, 1, none⟩ (.int .i64 (at_ + n))) g none := (keep_drewN (KeepBut.refl _ _ _) nq).set_ 1 _
        generalize ((w.drewN nq).setCell ⟨g, 1, none⟩ (.int .i64 (at_ + n))) = W at *
        clear hc0 hc1 hc2 hf1 hf2 HI
        have hc0 : W.cell? ⟨g, 0, none⟩ = some (.slice A l.length c) := (blk_cell HI2.blk 0).trans rfl
        have hc1 : W.cell? ⟨g, 1, none⟩ = some (.int .i64 (at_ + n)) := (blk_cell HI2.blk 1).trans rfl
        have HI := Aside0.mk HI2
        have HK := Aside0.mk HK2
        clear HI2 HK2
        obtain ⟨b0, b1, b2, hcap⟩ := HP.out
        obtain ⟨i0, hi0, _, hsz, _⟩ := info_parts info5
        obtain ⟨A2, hcut, hA2, hC2⟩ := print_mid_of (P := Try.prog) (Value.int .u8) 0 34 5 .i64 .i64 Try.underlying34 hi0 hsz A c l at_ (at_ + n) b0 (by omega) b2 hcap
        have hcv : ∀ m, (convert 34 9 (.slice A2 ((at_ + n).toNat - at_.toNat) (c - at_.toNat))).run Try.prog (W.drewN m) = .ok (.string (strOfNums ((l.take (at_ + n).toNat).drop at_.toNat))) (W.drewN m) := fun m =>
          Kd.C_string Try.underlying34 Try.underlying5 Try.underlying9 (by
            have h_ := Kd.C_of_reads (h1 := fun _ => rfl) (hA2 _ (Kd.reads_of_C ((HI.out.drewN m).now)))
            rw [show ((l.take (at_ + n).toNat).drop at_.toNat).length = (at_ + n).toNat - at_.toNat from by rw [List.length_drop, List.length_take]; omega] at h_
            exact h_)
        rw [show ((l.take (at_ + n).toNat).drop at_.toNat).length = (at_ + n).toNat - at_.toNat from by rw [List.length_drop, List.length_take]; omega] at hcut
        clear hA2 hC2 hi0 hsz b0 b1 b2 hcap
        go_wp2
        go_quiet (fail)
        go_wp2
        go_ret
        exact ⟨rfl, HI.out.drewN nq, keep_drewN HK.out nq⟩
      · exact absurd h (by simp)
  · simp only [↓reduceIte, Option.some.injEq, Prod.mk.injEq] at h
    obtain ⟨rfl, rfl, rfl⟩ := h
    go_enter Try.func161, Try.ntmps161
    go_wp2
    go_quiet (fail)
    go_wp2
    go_ret
    exact ⟨rfl, by repeat (first | exact HI.out | apply IsRd.set1 | apply IsRd.set2 | apply IsRd.drewN | apply IsRd.drew), by repeat (first | exact KeepBut.refl _ _ _ | apply KeepBut.set_ | apply keep_drewN | apply keep_drew)⟩


/-! ### impl_reader_cmd: function 124 -/
def rcFin (k : Nat) (x1 x2 x3 x4 : Int) (d : ByteArray) (p : Int) (bad : Bool) : Option (Int × Int × Int × Int × ByteArray × Int × Bool) :=
  if bad = true then some (0, 0, 0, 0, (⟨#[]⟩ : ByteArray), p, true) else (impl_CmdOk.f k x1 x2 x3 x4 d).bind fun o => if o = true then some (x1, x2, x3, x4, d, p, false) else some (0, 0, 0, 0, (⟨#[]⟩ : ByteArray), p, true)
def rdCmd (k : Nat) (l : List Int) (at_ : Int) (bad : Bool) : Option (Int × Int × Int × Int × ByteArray × Int × Bool) :=
  (rdNum k l at_ bad).bind fun a => if a.1 = 1 then rcFin k 1 0 0 0 (⟨#[]⟩ : ByteArray) a.2.1 a.2.2
    else (rdNum k l a.2.1 a.2.2).bind fun b => if a.1 = 3 then (rdNum k l b.2.1 b.2.2).bind fun c => rcFin k 3 b.1 c.1 0 (⟨#[]⟩ : ByteArray) c.2.1 c.2.2
      else if a.1 = 2 then (rdNum k l b.2.1 b.2.2).bind fun c => (rdBytes l c.2.1 c.2.2 32).bind fun d => rcFin k 2 b.1 0 c.1 d.1 d.2.1 d.2.2
      else rcFin k a.1 b.1 0 0 (⟨#[]⟩ : ByteArray) b.2.1 b.2.2
theorem rcFin.mono (k : Nat) (x1 x2 x3 x4 : Int) (d : ByteArray) (p : Int) (bad : Bool) : LeO (rcFin k x1 x2 x3 x4 d p bad) (rcFin (k + 1) x1 x2 x3 x4 d p bad) := by
  unfold rcFin
  repeat' first
  | exact impl_CmdOk.mono _ _ _ _ _ _
  | exact LeO.refl _
  | refine LeO.ite ?_ ?_
  | refine LeO.bind ?_ (fun _ => ?_)
theorem rdNum.mono (k : Nat) (l : List Int) (at_ : Int) (bad : Bool) : LeO (rdNum k l at_ bad) (rdNum (k + 1) l at_ bad) := by
  unfold rdNum
  repeat' first
  | exact impl_GetNum.mono _ _ _
  | exact LeO.refl _
  | refine LeO.bind ?_ (fun _ => ?_)
theorem rdCmd.mono (k : Nat) (l : List Int) (at_ : Int) (bad : Bool) : LeO (rdCmd k l at_ bad) (rdCmd (k + 1) l at_ bad) := by
  unfold rdCmd
  repeat' first
  | exact rdNum.mono _ _ _ _
  | exact rcFin.mono _ _ _ _ _ _ _ _
  | exact LeO.refl _
  | refine LeO.ite ?_ ?_
  | refine LeO.bind ?_ (fun _ => ?_)
theorem rc_at {w : World} {g : Nat} {o : Obj} (h : w.heap.size = g) : (w.alloc o).heap[g]? = some o := h ▸ blk_new w o
theorem rc_fr {w : World} {g b i : Nat} {o : Obj} (h : w.heap[g]? = some o) (hp : g ≠ b) (u : Value) : (w.setCell ⟨b, i, none⟩ u).heap[g]? = some o := (Below.heap_setCell w ⟨b, i, none⟩ u g hp).trans h
theorem rc_kp {w w' : World} {g b : Nat} {o : Obj} (hk : KeepBut w w' g none) (h : w.heap[b]? = some o) (hp : b ≠ g) : w'.heap[b]? = some o := KeepBut.blk hk h hp (by simp)
theorem rc_set5 {w : World} {b : Nat} {T : TypeId} {v0 v1 v2 v3 v4 : Value} (h : w.heap[b]? = some (.cells #[.int .i64 0, .int .i64 0, .int .i64 0, .int .i64 0, .string (⟨#[]⟩ : ByteArray)] T (0, 0))) :
    (((((w.setCell ⟨b, 0, none⟩ v0).setCell ⟨b, 1, none⟩ v1).setCell ⟨b, 2, none⟩ v2).setCell ⟨b, 3, none⟩ v3).setCell ⟨b, 4, none⟩ v4).heap[b]? = some (.cells #[v0, v1, v2, v3, v4] T (0, 0)) :=
  (blk_set (blk_set (blk_set (blk_set (blk_set h 0 v0) 1 v1) 2 v2) 3 v3) 4 v4).trans rfl
set_option maxHeartbeats 8000000 in
set_option maxRecDepth 100000 in
theorem rd_cmd (k g : Nat) (A : Option Addr) (c : Nat) (l : List Int) (at_ : Int) (bad : Bool) (r1 r2 r3 r4 : Int) (r5 : ByteArray) (at' : Int) (bad' : Bool) (w0 w : World) (hI : IsRd w0 w g A c l at_ bad) (h : rdCmd k l at_ bad = some (r1, r2, r3, r4, r5, at', bad')) :
    Calls Try.prog 124 #[.pointer (some ⟨g, 0, none⟩)] w fun e w' => e = .returned (.agg #[.int .i64 r1, .int .i64 r2, .int .i64 r3, .int .i64 r4, .string r5]) ∧ IsRd w0 w' g A c l at' bad' ∧ KeepBut w w' g none := by
  have hu := Try.underlying50
  have HI := Aside0.mk hI
  have GL := Aside0.mk hI.lt
  have G0 := Aside0.mk hI.bel.size
  have hn1 : ¬ g = w.heap.size := by have := hI.lt; omega
  have hn2 : ¬ w.heap.size = g := by have := hI.lt; omega
  have hn3 : ¬ g = w.heap.size + 1 := by have := hI.lt; omega
  have hn4 : ¬ w.heap.size + 1 = g := by have := hI.lt; omega
  clear hI
  unfold rdCmd at h
  replace h := Option.bind_eq_some_iff.1 h; obtain ⟨⟨x1, p1, b1⟩, hA, h⟩ := h
  simp only at h
  have HA1 := Aside0.mk hA
  clear hA
  by_cases e1 : x1 = 1
  · subst e1
    simp only [↓reduceIte] at h
    unfold rcFin at h
    cases b1
    · simp only [Bool.false_eq_true, ↓reduceIte] at h
      replace h := Option.bind_eq_some_iff.1 h; obtain ⟨o, hK, h⟩ := h
      have HOK := Aside0.mk hK
      clear hK
      cases o
      · simp only [Bool.false_eq_true, ↓reduceIte, Option.some.injEq, Prod.mk.injEq] at h
        obtain ⟨rfl, rfl, rfl, rfl, rfl, rfl, rfl⟩ := h
        go_enter Try.func124, Try.ntmps124
        go_wp2_with (first | (go_at_call 123; with_reducible refine (rd_num k g A c l at_ bad 1 p1 false w0 _ (by repeat (with_reducible first | exact HI.out | refine IsRd.far ?_ (by have := G0.out; omega) (by have := GL.out; omega) | apply IsRd.alloc)) HA1.out).mono ?_; rintro e w1 ⟨rfl, hi, hk⟩; have hz := rc_kp hk (b := w.heap.size) (o := .cells #[.int .i64 0, .int .i64 0, .int .i64 0, .int .i64 0, .string (⟨#[]⟩ : ByteArray)] 50 (0, 0)) (by exact blk_alloc (blk_new _ _) _) (by have := GL.out; omega); have hx := rc_kp hk (b := w.heap.size + 1) (o := .cells #[.int .i64 0, .int .i64 0, .int .i64 0, .int .i64 0, .string (⟨#[]⟩ : ByteArray)] 50 (0, 0)) (by exact rc_at (by simp)) (by have := GL.out; omega); have x1_0 := (blk_cell hx 0).trans rfl; have z1_0 := (blk_cell hz 0).trans rfl; have x1_1 := (blk_cell hx 1).trans rfl; have z1_1 := (blk_cell hz 1).trans rfl; have x1_2 := (blk_cell hx 2).trans rfl; have z1_2 := (blk_cell hz 2).trans rfl; have x1_3 := (blk_cell hx 3).trans rfl; have z1_3 := (blk_cell hz 3).trans rfl; have x1_4 := (blk_cell hx 4).trans rfl; have z1_4 := (blk_cell hz 4).trans rfl; have hf1 := fun (i_ : Nat) => blk_frozen hx i_; have hz1 := fun (i_ : Nat) => blk_frozen hz i_; have hq1 := (blk_cell hi.blk 2).trans rfl; have hg1 := blk_frozen hi.blk 2; have HX1 := Aside0.mk hx; have HZ1 := Aside0.mk hz; have HI1 := Aside0.mk hi; have HK1 : Aside0 (KeepBut w w1 g none) := ⟨KeepBut.trans (keep_alloc (keep_alloc (KeepBut.refl _ _ _) _) _) hk (.inl rfl)⟩; clear hi hk hz hx) | (go_at_call 152; with_reducible refine (impl_CmdOk.calls k _ _ _ _ _ _ _ HOK.out).mono ?_; rintro e wo ⟨rfl, hb⟩; have hz := blk_below (g := w.heap.size) (o := .cells #[.int .i64 0, .int .i64 0, .int .i64 0, .int .i64 0, .string (⟨#[]⟩ : ByteArray)] 50 (0, 0)) (by exact rc_fr HZ1.out (by omega) _) hb; have hx := blk_below (g := w.heap.size + 1) (o := .cells #[.int .i64 1, .int .i64 0, .int .i64 0, .int .i64 0, .string (⟨#[]⟩ : ByteArray)] 50 (0, 0)) (by exact (blk_set HX1.out 0 _).trans rfl) hb; have hi : IsRd w0 wo g A c l p1 false := IsRd.step (by repeat (with_reducible first | exact HI1.out | refine IsRd.far ?_ (by have := G0.out; omega) (by have := GL.out; omega) | apply IsRd.alloc)) hb; have xo_0 := (blk_cell hx 0).trans rfl; have zo_0 := (blk_cell hz 0).trans rfl; have xo_1 := (blk_cell hx 1).trans rfl; have zo_1 := (blk_cell hz 1).trans rfl; have xo_2 := (blk_cell hx 2).trans rfl; have zo_2 := (blk_cell hz 2).trans rfl; have xo_3 := (blk_cell hx 3).trans rfl; have zo_3 := (blk_cell hz 3).trans rfl; have xo_4 := (blk_cell hx 4).trans rfl; have zo_4 := (blk_cell hz 4).trans rfl; have hfo := fun (i_ : Nat) => blk_frozen hx i_; have hzo := fun (i_ : Nat) => blk_frozen hz i_; have hqo := (blk_cell hi.blk 2).trans rfl; have hgo := blk_frozen hi.blk 2; have HZo := Aside0.mk hz; have HIo := Aside0.mk hi; have HKo : Aside0 (KeepBut w wo g none) := ⟨KeepBut.trans (keep_fr HK1.out (by omega) _) (KeepBut.of_below hb g none) (.inl rfl)⟩; clear hi hb hz hx))
        refine bodyPost_ret (results_cell_row rfl _ _ w.heap.size 50 #[.int .i64 0, .int .i64 0, .int .i64 0, .int .i64 0, .string (⟨#[]⟩ : ByteArray)] (0, 0) _ rfl (by (with_reducible repeat (first | refine blk_drewN ?_ _ | refine blk_alloc ?_ _)); with_reducible refine rc_set5 ?_; repeat (with_reducible first | exact HZo.out | refine rc_fr ?_ (by first | omega | (have := GL.out; omega)) _ | refine blk_drewN ?_ _ | refine blk_alloc ?_ _)) hu rfl (by kernel_rfl)) rfl ?_; exact ⟨by first | rfl | (simp; done) | (simp [*]; done), by repeat (with_reducible first | exact HIo.out | refine IsRd.set2 (bad := false) ?_ _ | refine IsRd.far ?_ (by have := G0.out; omega) (by have := GL.out; omega) | apply IsRd.alloc), by repeat (with_reducible first | exact HKo.out | apply KeepBut.set_ | refine keep_fr ?_ (by omega) _)⟩
      · simp only [Bool.false_eq_true, ↓reduceIte, Option.some.injEq, Prod.mk.injEq] at h
        obtain ⟨rfl, rfl, rfl, rfl, rfl, rfl, rfl⟩ := h
        go_enter Try.func124, Try.ntmps124
        go_wp2_with (first | (go_at_call 123; with_reducible refine (rd_num k g A c l at_ bad 1 p1 false w0 _ (by repeat (with_reducible first | exact HI.out | refine IsRd.far ?_ (by have := G0.out; omega) (by have := GL.out; omega) | apply IsRd.alloc)) HA1.out).mono ?_; rintro e w1 ⟨rfl, hi, hk⟩; have hz := rc_kp hk (b := w.heap.size) (o := .cells #[.int .i64 0, .int .i64 0, .int .i64 0, .int .i64 0, .string (⟨#[]⟩ : ByteArray)] 50 (0, 0)) (by exact blk_alloc (blk_new _ _) _) (by have := GL.out; omega); have hx := rc_kp hk (b := w.heap.size + 1) (o := .cells #[.int .i64 0, .int .i64 0, .int .i64 0, .int .i64 0, .string (⟨#[]⟩ : ByteArray)] 50 (0, 0)) (by exact rc_at (by simp)) (by have := GL.out; omega); have x1_0 := (blk_cell hx 0).trans rfl; have z1_0 := (blk_cell hz 0).trans rfl; have x1_1 := (blk_cell hx 1).trans rfl; have z1_1 := (blk_cell hz 1).trans rfl; have x1_2 := (blk_cell hx 2).trans rfl; have z1_2 := (blk_cell hz 2).trans rfl; have x1_3 := (blk_cell hx 3).trans rfl; have z1_3 := (blk_cell hz 3).trans rfl; have x1_4 := (blk_cell hx 4).trans rfl; have z1_4 := (blk_cell hz 4).trans rfl; have hf1 := fun (i_ : Nat) => blk_frozen hx i_; have hz1 := fun (i_ : Nat) => blk_frozen hz i_; have hq1 := (blk_cell hi.blk 2).trans rfl; have hg1 := blk_frozen hi.blk 2; have HX1 := Aside0.mk hx; have HZ1 := Aside0.mk hz; have HI1 := Aside0.mk hi; have HK1 : Aside0 (KeepBut w w1 g none) := ⟨KeepBut.trans (keep_alloc (keep_alloc (KeepBut.refl _ _ _) _) _) hk (.inl rfl)⟩; clear hi hk hz hx) | (go_at_call 152; with_reducible refine (impl_CmdOk.calls k _ _ _ _ _ _ _ HOK.out).mono ?_; rintro e wo ⟨rfl, hb⟩; have hz := blk_below (g := w.heap.size) (o := .cells #[.int .i64 0, .int .i64 0, .int .i64 0, .int .i64 0, .string (⟨#[]⟩ : ByteArray)] 50 (0, 0)) (by exact rc_fr HZ1.out (by omega) _) hb; have hx := blk_below (g := w.heap.size + 1) (o := .cells #[.int .i64 1, .int .i64 0, .int .i64 0, .int .i64 0, .string (⟨#[]⟩ : ByteArray)] 50 (0, 0)) (by exact (blk_set HX1.out 0 _).trans rfl) hb; have hi : IsRd w0 wo g A c l p1 false := IsRd.step (by repeat (with_reducible first | exact HI1.out | refine IsRd.far ?_ (by have := G0.out; omega) (by have := GL.out; omega) | apply IsRd.alloc)) hb; have xo_0 := (blk_cell hx 0).trans rfl; have zo_0 := (blk_cell hz 0).trans rfl; have xo_1 := (blk_cell hx 1).trans rfl; have zo_1 := (blk_cell hz 1).trans rfl; have xo_2 := (blk_cell hx 2).trans rfl; have zo_2 := (blk_cell hz 2).trans rfl; have xo_3 := (blk_cell hx 3).trans rfl; have zo_3 := (blk_cell hz 3).trans rfl; have xo_4 := (blk_cell hx 4).trans rfl; have zo_4 := (blk_cell hz 4).trans rfl; have hfo := fun (i_ : Nat) => blk_frozen hx i_; have hzo := fun (i_ : Nat) => blk_frozen hz i_; have hqo := (blk_cell hi.blk 2).trans rfl; have hgo := blk_frozen hi.blk 2; have HZo := Aside0.mk hz; have HIo := Aside0.mk hi; have HKo : Aside0 (KeepBut w wo g none) := ⟨KeepBut.trans (keep_fr HK1.out (by omega) _) (KeepBut.of_below hb g none) (.inl rfl)⟩; clear hi hb hz hx))
        refine bodyPost_ret (results_cell_row rfl _ _ w.heap.size 50 #[.int .i64 1, .int .i64 0, .int .i64 0, .int .i64 0, .string (⟨#[]⟩ : ByteArray)] (0, 0) _ rfl (by (with_reducible repeat (first | refine blk_drewN ?_ _ | refine blk_alloc ?_ _)); with_reducible refine rc_set5 ?_; repeat (with_reducible first | exact HZo.out | refine rc_fr ?_ (by first | omega | (have := GL.out; omega)) _ | refine blk_drewN ?_ _ | refine blk_alloc ?_ _)) hu rfl (by kernel_rfl)) rfl ?_; exact ⟨by first | rfl | (simp; done) | (simp [*]; done), by repeat (with_reducible first | exact HIo.out | refine IsRd.set2 (bad := false) ?_ _ | refine IsRd.far ?_ (by have := G0.out; omega) (by have := GL.out; omega) | apply IsRd.alloc), by repeat (with_reducible first | exact HKo.out | apply KeepBut.set_ | refine keep_fr ?_ (by omega) _)⟩
    · simp only [Bool.false_eq_true, ↓reduceIte, Option.some.injEq, Prod.mk.injEq] at h
      obtain ⟨rfl, rfl, rfl, rfl, rfl, rfl, rfl⟩ := h
      go_enter Try.func124, Try.ntmps124
      go_wp2_with (first | (go_at_call 123; with_reducible refine (rd_num k g A c l at_ bad 1 p1 true w0 _ (by repeat (with_reducible first | exact HI.out | refine IsRd.far ?_ (by have := G0.out; omega) (by have := GL.out; omega) | apply IsRd.alloc)) HA1.out).mono ?_; rintro e w1 ⟨rfl, hi, hk⟩; have hz := rc_kp hk (b := w.heap.size) (o := .cells #[.int .i64 0, .int .i64 0, .int .i64 0, .int .i64 0, .string (⟨#[]⟩ : ByteArray)] 50 (0, 0)) (by exact blk_alloc (blk_new _ _) _) (by have := GL.out; omega); have hx := rc_kp hk (b := w.heap.size + 1) (o := .cells #[.int .i64 0, .int .i64 0, .int .i64 0, .int .i64 0, .string (⟨#[]⟩ : ByteArray)] 50 (0, 0)) (by exact rc_at (by simp)) (by have := GL.out; omega); have x1_0 := (blk_cell hx 0).trans rfl; have z1_0 := (blk_cell hz 0).trans rfl; have x1_1 := (blk_cell hx 1).trans rfl; have z1_1 := (blk_cell hz 1).trans rfl; have x1_2 := (blk_cell hx 2).trans rfl; have z1_2 := (blk_cell hz 2).trans rfl; have x1_3 := (blk_cell hx 3).trans rfl; have z1_3 := (blk_cell hz 3).trans rfl; have x1_4 := (blk_cell hx 4).trans rfl; have z1_4 := (blk_cell hz 4).trans rfl; have hf1 := fun (i_ : Nat) => blk_frozen hx i_; have hz1 := fun (i_ : Nat) => blk_frozen hz i_; have hq1 := (blk_cell hi.blk 2).trans rfl; have hg1 := blk_frozen hi.blk 2; have HX1 := Aside0.mk hx; have HZ1 := Aside0.mk hz; have HI1 := Aside0.mk hi; have HK1 : Aside0 (KeepBut w w1 g none) := ⟨KeepBut.trans (keep_alloc (keep_alloc (KeepBut.refl _ _ _) _) _) hk (.inl rfl)⟩; clear hi hk hz hx))
      refine bodyPost_ret (results_cell_row rfl _ _ w.heap.size 50 #[.int .i64 0, .int .i64 0, .int .i64 0, .int .i64 0, .string (⟨#[]⟩ : ByteArray)] (0, 0) _ rfl (by (with_reducible repeat (first | refine blk_drewN ?_ _ | refine blk_alloc ?_ _)); with_reducible refine rc_set5 ?_; repeat (with_reducible first | exact HZ1.out | refine rc_fr ?_ (by first | omega | (have := GL.out; omega)) _ | refine blk_drewN ?_ _ | refine blk_alloc ?_ _)) hu rfl (by kernel_rfl)) rfl ?_; exact ⟨by first | rfl | (simp; done) | (simp [*]; done), by repeat (with_reducible first | exact HI1.out | refine IsRd.set2 (bad := true) ?_ _ | refine IsRd.far ?_ (by have := G0.out; omega) (by have := GL.out; omega) | apply IsRd.alloc), by repeat (with_reducible first | exact HK1.out | apply KeepBut.set_ | refine keep_fr ?_ (by omega) _)⟩
  · rw [if_neg e1] at h
    have e1b : (x1 == 1) = false := beq_eq_false_iff_ne.mpr e1
    have e1c : (x1 != 1) = true := bne_iff_ne.mpr e1
    clear e1
    replace h := Option.bind_eq_some_iff.1 h; obtain ⟨⟨x2, p2, b2⟩, hA, h⟩ := h
    simp only at h
    have HA2 := Aside0.mk hA
    clear hA
    by_cases e3 : x1 = 3
    · subst e3
      simp only [↓reduceIte] at h
      replace h := Option.bind_eq_some_iff.1 h; obtain ⟨⟨x3, p3, b3⟩, hA, h⟩ := h
      simp only at h
      have HA3 := Aside0.mk hA
      clear hA
      unfold rcFin at h
      cases b3
      · simp only [Bool.false_eq_true, ↓reduceIte] at h
        replace h := Option.bind_eq_some_iff.1 h; obtain ⟨o, hK, h⟩ := h
        have HOK := Aside0.mk hK
        clear hK
        cases o
        · simp only [Bool.false_eq_true, ↓reduceIte, Option.some.injEq, Prod.mk.injEq] at h
          obtain ⟨rfl, rfl, rfl, rfl, rfl, rfl, rfl⟩ := h
          go_enter Try.func124, Try.ntmps124
          go_wp2_with (first | (go_at_call 123; with_reducible refine (rd_num k g A c l at_ bad 3 p1 b1 w0 _ (by repeat (with_reducible first | exact HI.out | refine IsRd.far ?_ (by have := G0.out; omega) (by have := GL.out; omega) | apply IsRd.alloc)) HA1.out).mono ?_; rintro e w1 ⟨rfl, hi, hk⟩; have hz := rc_kp hk (b := w.heap.size) (o := .cells #[.int .i64 0, .int .i64 0, .int .i64 0, .int .i64 0, .string (⟨#[]⟩ : ByteArray)] 50 (0, 0)) (by exact blk_alloc (blk_new _ _) _) (by have := GL.out; omega); have hx := rc_kp hk (b := w.heap.size + 1) (o := .cells #[.int .i64 0, .int .i64 0, .int .i64 0, .int .i64 0, .string (⟨#[]⟩ : ByteArray)] 50 (0, 0)) (by exact rc_at (by simp)) (by have := GL.out; omega); have x1_0 := (blk_cell hx 0).trans rfl; have z1_0 := (blk_cell hz 0).trans rfl; have x1_1 := (blk_cell hx 1).trans rfl; have z1_1 := (blk_cell hz 1).trans rfl; have x1_2 := (blk_cell hx 2).trans rfl; have z1_2 := (blk_cell hz 2).trans rfl; have x1_3 := (blk_cell hx 3).trans rfl; have z1_3 := (blk_cell hz 3).trans rfl; have x1_4 := (blk_cell hx 4).trans rfl; have z1_4 := (blk_cell hz 4).trans rfl; have hf1 := fun (i_ : Nat) => blk_frozen hx i_; have hz1 := fun (i_ : Nat) => blk_frozen hz i_; have hq1 := (blk_cell hi.blk 2).trans rfl; have hg1 := blk_frozen hi.blk 2; have HX1 := Aside0.mk hx; have HZ1 := Aside0.mk hz; have HI1 := Aside0.mk hi; have HK1 : Aside0 (KeepBut w w1 g none) := ⟨KeepBut.trans (keep_alloc (keep_alloc (KeepBut.refl _ _ _) _) _) hk (.inl rfl)⟩; clear hi hk hz hx) | (go_at_call 123; with_reducible refine (rd_num k g A c l p1 b1 x2 p2 b2 w0 _ (by repeat (with_reducible first | exact HI1.out | refine IsRd.far ?_ (by have := G0.out; omega) (by have := GL.out; omega) | apply IsRd.alloc)) HA2.out).mono ?_; rintro e w2 ⟨rfl, hi, hk⟩; have hz := rc_kp hk (b := w.heap.size) (o := .cells #[.int .i64 0, .int .i64 0, .int .i64 0, .int .i64 0, .string (⟨#[]⟩ : ByteArray)] 50 (0, 0)) (by exact rc_fr HZ1.out (by omega) _) (by have := GL.out; omega); have hx := rc_kp hk (b := w.heap.size + 1) (o := .cells #[.int .i64 3, .int .i64 0, .int .i64 0, .int .i64 0, .string (⟨#[]⟩ : ByteArray)] 50 (0, 0)) (by exact (blk_set HX1.out 0 _).trans rfl) (by have := GL.out; omega); have x2_0 := (blk_cell hx 0).trans rfl; have z2_0 := (blk_cell hz 0).trans rfl; have x2_1 := (blk_cell hx 1).trans rfl; have z2_1 := (blk_cell hz 1).trans rfl; have x2_2 := (blk_cell hx 2).trans rfl; have z2_2 := (blk_cell hz 2).trans rfl; have x2_3 := (blk_cell hx 3).trans rfl; have z2_3 := (blk_cell hz 3).trans rfl; have x2_4 := (blk_cell hx 4).trans rfl; have z2_4 := (blk_cell hz 4).trans rfl; have hf2 := fun (i_ : Nat) => blk_frozen hx i_; have hz2 := fun (i_ : Nat) => blk_frozen hz i_; have hq2 := (blk_cell hi.blk 2).trans rfl; have hg2 := blk_frozen hi.blk 2; have HX2 := Aside0.mk hx; have HZ2 := Aside0.mk hz; have HI2 := Aside0.mk hi; have HK2 : Aside0 (KeepBut w w2 g none) := ⟨KeepBut.trans (keep_fr HK1.out (by omega) _) hk (.inl rfl)⟩; clear hi hk hz hx) | (go_at_call 123; with_reducible refine (rd_num k g A c l p2 b2 x3 p3 false w0 _ (by repeat (with_reducible first | exact HI2.out | refine IsRd.far ?_ (by have := G0.out; omega) (by have := GL.out; omega) | apply IsRd.alloc)) HA3.out).mono ?_; rintro e w3 ⟨rfl, hi, hk⟩; have hz := rc_kp hk (b := w.heap.size) (o := .cells #[.int .i64 0, .int .i64 0, .int .i64 0, .int .i64 0, .string (⟨#[]⟩ : ByteArray)] 50 (0, 0)) (by exact rc_fr HZ2.out (by omega) _) (by have := GL.out; omega); have hx := rc_kp hk (b := w.heap.size + 1) (o := .cells #[.int .i64 3, .int .i64 x2, .int .i64 0, .int .i64 0, .string (⟨#[]⟩ : ByteArray)] 50 (0, 0)) (by exact (blk_set HX2.out 1 _).trans rfl) (by have := GL.out; omega); have x3_0 := (blk_cell hx 0).trans rfl; have z3_0 := (blk_cell hz 0).trans rfl; have x3_1 := (blk_cell hx 1).trans rfl; have z3_1 := (blk_cell hz 1).trans rfl; have x3_2 := (blk_cell hx 2).trans rfl; have z3_2 := (blk_cell hz 2).trans rfl; have x3_3 := (blk_cell hx 3).trans rfl; have z3_3 := (blk_cell hz 3).trans rfl; have x3_4 := (blk_cell hx 4).trans rfl; have z3_4 := (blk_cell hz 4).trans rfl; have hf3 := fun (i_ : Nat) => blk_frozen hx i_; have hz3 := fun (i_ : Nat) => blk_frozen hz i_; have hq3 := (blk_cell hi.blk 2).trans rfl; have hg3 := blk_frozen hi.blk 2; have HX3 := Aside0.mk hx; have HZ3 := Aside0.mk hz; have HI3 := Aside0.mk hi; have HK3 : Aside0 (KeepBut w w3 g none) := ⟨KeepBut.trans (keep_fr HK2.out (by omega) _) hk (.inl rfl)⟩; clear hi hk hz hx) | (go_at_call 152; with_reducible refine (impl_CmdOk.calls k _ _ _ _ _ _ _ HOK.out).mono ?_; rintro e wo ⟨rfl, hb⟩; have hz := blk_below (g := w.heap.size) (o := .cells #[.int .i64 0, .int .i64 0, .int .i64 0, .int .i64 0, .string (⟨#[]⟩ : ByteArray)] 50 (0, 0)) (by exact rc_fr HZ3.out (by omega) _) hb; have hx := blk_below (g := w.heap.size + 1) (o := .cells #[.int .i64 3, .int .i64 x2, .int .i64 x3, .int .i64 0, .string (⟨#[]⟩ : ByteArray)] 50 (0, 0)) (by exact (blk_set HX3.out 2 _).trans rfl) hb; have hi : IsRd w0 wo g A c l p3 false := IsRd.step (by repeat (with_reducible first | exact HI3.out | refine IsRd.far ?_ (by have := G0.out; omega) (by have := GL.out; omega) | apply IsRd.alloc)) hb; have xo_0 := (blk_cell hx 0).trans rfl; have zo_0 := (blk_cell hz 0).trans rfl; have xo_1 := (blk_cell hx 1).trans rfl; have zo_1 := (blk_cell hz 1).trans rfl; have xo_2 := (blk_cell hx 2).trans rfl; have zo_2 := (blk_cell hz 2).trans rfl; have xo_3 := (blk_cell hx 3).trans rfl; have zo_3 := (blk_cell hz 3).trans rfl; have xo_4 := (blk_cell hx 4).trans rfl; have zo_4 := (blk_cell hz 4).trans rfl; have hfo := fun (i_ : Nat) => blk_frozen hx i_; have hzo := fun (i_ : Nat) => blk_frozen hz i_; have hqo := (blk_cell hi.blk 2).trans rfl; have hgo := blk_frozen hi.blk 2; have HZo := Aside0.mk hz; have HIo := Aside0.mk hi; have HKo : Aside0 (KeepBut w wo g none) := ⟨KeepBut.trans (keep_fr HK3.out (by omega) _) (KeepBut.of_below hb g none) (.inl rfl)⟩; clear hi hb hz hx))
          refine bodyPost_ret (results_cell_row rfl _ _ w.heap.size 50 #[.int .i64 0, .int .i64 0, .int .i64 0, .int .i64 0, .string (⟨#[]⟩ : ByteArray)] (0, 0) _ rfl (by (with_reducible repeat (first | refine blk_drewN ?_ _ | refine blk_alloc ?_ _)); with_reducible refine rc_set5 ?_; repeat (with_reducible first | exact HZo.out | refine rc_fr ?_ (by first | omega | (have := GL.out; omega)) _ | refine blk_drewN ?_ _ | refine blk_alloc ?_ _)) hu rfl (by kernel_rfl)) rfl ?_; exact ⟨by first | rfl | (simp; done) | (simp [*]; done), by repeat (with_reducible first | exact HIo.out | refine IsRd.set2 (bad := false) ?_ _ | refine IsRd.far ?_ (by have := G0.out; omega) (by have := GL.out; omega) | apply IsRd.alloc), by repeat (with_reducible first | exact HKo.out | apply KeepBut.set_ | refine keep_fr ?_ (by omega) _)⟩
        · simp only [Bool.false_eq_true, ↓reduceIte, Option.some.injEq, Prod.mk.injEq] at h
          obtain ⟨rfl, rfl, rfl, rfl, rfl, rfl, rfl⟩ := h
          go_enter Try.func124, Try.ntmps124
          go_wp2_with (first | (go_at_call 123; with_reducible refine (rd_num k g A c l at_ bad 3 p1 b1 w0 _ (by repeat (with_reducible first | exact HI.out | refine IsRd.far ?_ (by have := G0.out; omega) (by have := GL.out; omega) | apply IsRd.alloc)) HA1.out).mono ?_; rintro e w1 ⟨rfl, hi, hk⟩; have hz := rc_kp hk (b := w.heap.size) (o := .cells #[.int .i64 0, .int .i64 0, .int .i64 0, .int .i64 0, .string (⟨#[]⟩ : ByteArray)] 50 (0, 0)) (by exact blk_alloc (blk_new _ _) _) (by have := GL.out; omega); have hx := rc_kp hk (b := w.heap.size + 1) (o := .cells #[.int .i64 0, .int .i64 0, .int .i64 0, .int .i64 0, .string (⟨#[]⟩ : ByteArray)] 50 (0, 0)) (by exact rc_at (by simp)) (by have := GL.out; omega); have x1_0 := (blk_cell hx 0).trans rfl; have z1_0 := (blk_cell hz 0).trans rfl; have x1_1 := (blk_cell hx 1).trans rfl; have z1_1 := (blk_cell hz 1).trans rfl; have x1_2 := (blk_cell hx 2).trans rfl; have z1_2 := (blk_cell hz 2).trans rfl; have x1_3 := (blk_cell hx 3).trans rfl; have z1_3 := (blk_cell hz 3).trans rfl; have x1_4 := (blk_cell hx 4).trans rfl; have z1_4 := (blk_cell hz 4).trans rfl; have hf1 := fun (i_ : Nat) => blk_frozen hx i_; have hz1 := fun (i_ : Nat) => blk_frozen hz i_; have hq1 := (blk_cell hi.blk 2).trans rfl; have hg1 := blk_frozen hi.blk 2; have HX1 := Aside0.mk hx; have HZ1 := Aside0.mk hz; have HI1 := Aside0.mk hi; have HK1 : Aside0 (KeepBut w w1 g none) := ⟨KeepBut.trans (keep_alloc (keep_alloc (KeepBut.refl _ _ _) _) _) hk (.inl rfl)⟩; clear hi hk hz hx) | (go_at_call 123; with_reducible refine (rd_num k g A c l p1 b1 x2 p2 b2 w0 _ (by repeat (with_reducible first | exact HI1.out | refine IsRd.far ?_ (by have := G0.out; omega) (by have := GL.out; omega) | apply IsRd.alloc)) HA2.out).mono ?_; rintro e w2 ⟨rfl, hi, hk⟩; have hz := rc_kp hk (b := w.heap.size) (o := .cells #[.int .i64 0, .int .i64 0, .int .i64 0, .int .i64 0, .string (⟨#[]⟩ : ByteArray)] 50 (0, 0)) (by exact rc_fr HZ1.out (by omega) _) (by have := GL.out; omega); have hx := rc_kp hk (b := w.heap.size + 1) (o := .cells #[.int .i64 3, .int .i64 0, .int .i64 0, .int .i64 0, .string (⟨#[]⟩ : ByteArray)] 50 (0, 0)) (by exact (blk_set HX1.out 0 _).trans rfl) (by have := GL.out; omega); have x2_0 := (blk_cell hx 0).trans rfl; have z2_0 := (blk_cell hz 0).trans rfl; have x2_1 := (blk_cell hx 1).trans rfl; have z2_1 := (blk_cell hz 1).trans rfl; have x2_2 := (blk_cell hx 2).trans rfl; have z2_2 := (blk_cell hz 2).trans rfl; have x2_3 := (blk_cell hx 3).trans rfl; have z2_3 := (blk_cell hz 3).trans rfl; have x2_4 := (blk_cell hx 4).trans rfl; have z2_4 := (blk_cell hz 4).trans rfl; have hf2 := fun (i_ : Nat) => blk_frozen hx i_; have hz2 := fun (i_ : Nat) => blk_frozen hz i_; have hq2 := (blk_cell hi.blk 2).trans rfl; have hg2 := blk_frozen hi.blk 2; have HX2 := Aside0.mk hx; have HZ2 := Aside0.mk hz; have HI2 := Aside0.mk hi; have HK2 : Aside0 (KeepBut w w2 g none) := ⟨KeepBut.trans (keep_fr HK1.out (by omega) _) hk (.inl rfl)⟩; clear hi hk hz hx) | (go_at_call 123; with_reducible refine (rd_num k g A c l p2 b2 x3 p3 false w0 _ (by repeat (with_reducible first | exact HI2.out | refine IsRd.far ?_ (by have := G0.out; omega) (by have := GL.out; omega) | apply IsRd.alloc)) HA3.out).mono ?_; rintro e w3 ⟨rfl, hi, hk⟩; have hz := rc_kp hk (b := w.heap.size) (o := .cells #[.int .i64 0, .int .i64 0, .int .i64 0, .int .i64 0, .string (⟨#[]⟩ : ByteArray)] 50 (0, 0)) (by exact rc_fr HZ2.out (by omega) _) (by have := GL.out; omega); have hx := rc_kp hk (b := w.heap.size + 1) (o := .cells #[.int .i64 3, .int .i64 x2, .int .i64 0, .int .i64 0, .string (⟨#[]⟩ : ByteArray)] 50 (0, 0)) (by exact (blk_set HX2.out 1 _).trans rfl) (by have := GL.out; omega); have x3_0 := (blk_cell hx 0).trans rfl; have z3_0 := (blk_cell hz 0).trans rfl; have x3_1 := (blk_cell hx 1).trans rfl; have z3_1 := (blk_cell hz 1).trans rfl; have x3_2 := (blk_cell hx 2).trans rfl; have z3_2 := (blk_cell hz 2).trans rfl; have x3_3 := (blk_cell hx 3).trans rfl; have z3_3 := (blk_cell hz 3).trans rfl; have x3_4 := (blk_cell hx 4).trans rfl; have z3_4 := (blk_cell hz 4).trans rfl; have hf3 := fun (i_ : Nat) => blk_frozen hx i_; have hz3 := fun (i_ : Nat) => blk_frozen hz i_; have hq3 := (blk_cell hi.blk 2).trans rfl; have hg3 := blk_frozen hi.blk 2; have HX3 := Aside0.mk hx; have HZ3 := Aside0.mk hz; have HI3 := Aside0.mk hi; have HK3 : Aside0 (KeepBut w w3 g none) := ⟨KeepBut.trans (keep_fr HK2.out (by omega) _) hk (.inl rfl)⟩; clear hi hk hz hx) | (go_at_call 152; with_reducible refine (impl_CmdOk.calls k _ _ _ _ _ _ _ HOK.out).mono ?_; rintro e wo ⟨rfl, hb⟩; have hz := blk_below (g := w.heap.size) (o := .cells #[.int .i64 0, .int .i64 0, .int .i64 0, .int .i64 0, .string (⟨#[]⟩ : ByteArray)] 50 (0, 0)) (by exact rc_fr HZ3.out (by omega) _) hb; have hx := blk_below (g := w.heap.size + 1) (o := .cells #[.int .i64 3, .int .i64 x2, .int .i64 x3, .int .i64 0, .string (⟨#[]⟩ : ByteArray)] 50 (0, 0)) (by exact (blk_set HX3.out 2 _).trans rfl) hb; have hi : IsRd w0 wo g A c l p3 false := IsRd.step (by repeat (with_reducible first | exact HI3.out | refine IsRd.far ?_ (by have := G0.out; omega) (by have := GL.out; omega) | apply IsRd.alloc)) hb; have xo_0 := (blk_cell hx 0).trans rfl; have zo_0 := (blk_cell hz 0).trans rfl; have xo_1 := (blk_cell hx 1).trans rfl; have zo_1 := (blk_cell hz 1).trans rfl; have xo_2 := (blk_cell hx 2).trans rfl; have zo_2 := (blk_cell hz 2).trans rfl; have xo_3 := (blk_cell hx 3).trans rfl; have zo_3 := (blk_cell hz 3).trans rfl; have xo_4 := (blk_cell hx 4).trans rfl; have zo_4 := (blk_cell hz 4).trans rfl; have hfo := fun (i_ : Nat) => blk_frozen hx i_; have hzo := fun (i_ : Nat) => blk_frozen hz i_; have hqo := (blk_cell hi.blk 2).trans rfl; have hgo := blk_frozen hi.blk 2; have HZo := Aside0.mk hz; have HIo := Aside0.mk hi; have HKo : Aside0 (KeepBut w wo g none) := ⟨KeepBut.trans (keep_fr HK3.out (by omega) _) (KeepBut.of_below hb g none) (.inl rfl)⟩; clear hi hb hz hx))
          refine bodyPost_ret (results_cell_row rfl _ _ w.heap.size 50 #[.int .i64 3, .int .i64 x2, .int .i64 x3, .int .i64 0, .string (⟨#[]⟩ : ByteArray)] (0, 0) _ rfl (by (with_reducible repeat (first | refine blk_drewN ?_ _ | refine blk_alloc ?_ _)); with_reducible refine rc_set5 ?_; repeat (with_reducible first | exact HZo.out | refine rc_fr ?_ (by first | omega | (have := GL.out; omega)) _ | refine blk_drewN ?_ _ | refine blk_alloc ?_ _)) hu rfl (by kernel_rfl)) rfl ?_; exact ⟨by first | rfl | (simp; done) | (simp [*]; done), by repeat (with_reducible first | exact HIo.out | refine IsRd.set2 (bad := false) ?_ _ | refine IsRd.far ?_ (by have := G0.out; omega) (by have := GL.out; omega) | apply IsRd.alloc), by repeat (with_reducible first | exact HKo.out | apply KeepBut.set_ | refine keep_fr ?_ (by omega) _)⟩
      · simp only [Bool.false_eq_true, ↓reduceIte, Option.some.injEq, Prod.mk.injEq] at h
        obtain ⟨rfl, rfl, rfl, rfl, rfl, rfl, rfl⟩ := h
        go_enter Try.func124, Try.ntmps124
        go_wp2_with (first | (go_at_call 123; with_reducible refine (rd_num k g A c l at_ bad 3 p1 b1 w0 _ (by repeat (with_reducible first | exact HI.out | refine IsRd.far ?_ (by have := G0.out; omega) (by have := GL.out; omega) | apply IsRd.alloc)) HA1.out).mono ?_; rintro e w1 ⟨rfl, hi, hk⟩; have hz := rc_kp hk (b := w.heap.size) (o := .cells #[.int .i64 0, .int .i64 0, .int .i64 0, .int .i64 0, .string (⟨#[]⟩ : ByteArray)] 50 (0, 0)) (by exact blk_alloc (blk_new _ _) _) (by have := GL.out; omega); have hx := rc_kp hk (b := w.heap.size + 1) (o := .cells #[.int .i64 0, .int .i64 0, .int .i64 0, .int .i64 0, .string (⟨#[]⟩ : ByteArray)] 50 (0, 0)) (by exact rc_at (by simp)) (by have := GL.out; omega); have x1_0 := (blk_cell hx 0).trans rfl; have z1_0 := (blk_cell hz 0).trans rfl; have x1_1 := (blk_cell hx 1).trans rfl; have z1_1 := (blk_cell hz 1).trans rfl; have x1_2 := (blk_cell hx 2).trans rfl; have z1_2 := (blk_cell hz 2).trans rfl; have x1_3 := (blk_cell hx 3).trans rfl; have z1_3 := (blk_cell hz 3).trans rfl; have x1_4 := (blk_cell hx 4).trans rfl; have z1_4 := (blk_cell hz 4).trans rfl; have hf1 := fun (i_ : Nat) => blk_frozen hx i_; have hz1 := fun (i_ : Nat) => blk_frozen hz i_; have hq1 := (blk_cell hi.blk 2).trans rfl; have hg1 := blk_frozen hi.blk 2; have HX1 := Aside0.mk hx; have HZ1 := Aside0.mk hz; have HI1 := Aside0.mk hi; have HK1 : Aside0 (KeepBut w w1 g none) := ⟨KeepBut.trans (keep_alloc (keep_alloc (KeepBut.refl _ _ _) _) _) hk (.inl rfl)⟩; clear hi hk hz hx) | (go_at_call 123; with_reducible refine (rd_num k g A c l p1 b1 x2 p2 b2 w0 _ (by repeat (with_reducible first | exact HI1.out | refine IsRd.far ?_ (by have := G0.out; omega) (by have := GL.out; omega) | apply IsRd.alloc)) HA2.out).mono ?_; rintro e w2 ⟨rfl, hi, hk⟩; have hz := rc_kp hk (b := w.heap.size) (o := .cells #[.int .i64 0, .int .i64 0, .int .i64 0, .int .i64 0, .string (⟨#[]⟩ : ByteArray)] 50 (0, 0)) (by exact rc_fr HZ1.out (by omega) _) (by have := GL.out; omega); have hx := rc_kp hk (b := w.heap.size + 1) (o := .cells #[.int .i64 3, .int .i64 0, .int .i64 0, .int .i64 0, .string (⟨#[]⟩ : ByteArray)] 50 (0, 0)) (by exact (blk_set HX1.out 0 _).trans rfl) (by have := GL.out; omega); have x2_0 := (blk_cell hx 0).trans rfl; have z2_0 := (blk_cell hz 0).trans rfl; have x2_1 := (blk_cell hx 1).trans rfl; have z2_1 := (blk_cell hz 1).trans rfl; have x2_2 := (blk_cell hx 2).trans rfl; have z2_2 := (blk_cell hz 2).trans rfl; have x2_3 := (blk_cell hx 3).trans rfl; have z2_3 := (blk_cell hz 3).trans rfl; have x2_4 := (blk_cell hx 4).trans rfl; have z2_4 := (blk_cell hz 4).trans rfl; have hf2 := fun (i_ : Nat) => blk_frozen hx i_; have hz2 := fun (i_ : Nat) => blk_frozen hz i_; have hq2 := (blk_cell hi.blk 2).trans rfl; have hg2 := blk_frozen hi.blk 2; have HX2 := Aside0.mk hx; have HZ2 := Aside0.mk hz; have HI2 := Aside0.mk hi; have HK2 : Aside0 (KeepBut w w2 g none) := ⟨KeepBut.trans (keep_fr HK1.out (by omega) _) hk (.inl rfl)⟩; clear hi hk hz hx) | (go_at_call 123; with_reducible refine (rd_num k g A c l p2 b2 x3 p3 true w0 _ (by repeat (with_reducible first | exact HI2.out | refine IsRd.far ?_ (by have := G0.out; omega) (by have := GL.out; omega) | apply IsRd.alloc)) HA3.out).mono ?_; rintro e w3 ⟨rfl, hi, hk⟩; have hz := rc_kp hk (b := w.heap.size) (o := .cells #[.int .i64 0, .int .i64 0, .int .i64 0, .int .i64 0, .string (⟨#[]⟩ : ByteArray)] 50 (0, 0)) (by exact rc_fr HZ2.out (by omega) _) (by have := GL.out; omega); have hx := rc_kp hk (b := w.heap.size + 1) (o := .cells #[.int .i64 3, .int .i64 x2, .int .i64 0, .int .i64 0, .string (⟨#[]⟩ : ByteArray)] 50 (0, 0)) (by exact (blk_set HX2.out 1 _).trans rfl) (by have := GL.out; omega); have x3_0 := (blk_cell hx 0).trans rfl; have z3_0 := (blk_cell hz 0).trans rfl; have x3_1 := (blk_cell hx 1).trans rfl; have z3_1 := (blk_cell hz 1).trans rfl; have x3_2 := (blk_cell hx 2).trans rfl; have z3_2 := (blk_cell hz 2).trans rfl; have x3_3 := (blk_cell hx 3).trans rfl; have z3_3 := (blk_cell hz 3).trans rfl; have x3_4 := (blk_cell hx 4).trans rfl; have z3_4 := (blk_cell hz 4).trans rfl; have hf3 := fun (i_ : Nat) => blk_frozen hx i_; have hz3 := fun (i_ : Nat) => blk_frozen hz i_; have hq3 := (blk_cell hi.blk 2).trans rfl; have hg3 := blk_frozen hi.blk 2; have HX3 := Aside0.mk hx; have HZ3 := Aside0.mk hz; have HI3 := Aside0.mk hi; have HK3 : Aside0 (KeepBut w w3 g none) := ⟨KeepBut.trans (keep_fr HK2.out (by omega) _) hk (.inl rfl)⟩; clear hi hk hz hx))
        refine bodyPost_ret (results_cell_row rfl _ _ w.heap.size 50 #[.int .i64 0, .int .i64 0, .int .i64 0, .int .i64 0, .string (⟨#[]⟩ : ByteArray)] (0, 0) _ rfl (by (with_reducible repeat (first | refine blk_drewN ?_ _ | refine blk_alloc ?_ _)); with_reducible refine rc_set5 ?_; repeat (with_reducible first | exact HZ3.out | refine rc_fr ?_ (by first | omega | (have := GL.out; omega)) _ | refine blk_drewN ?_ _ | refine blk_alloc ?_ _)) hu rfl (by kernel_rfl)) rfl ?_; exact ⟨by first | rfl | (simp; done) | (simp [*]; done), by repeat (with_reducible first | exact HI3.out | refine IsRd.set2 (bad := true) ?_ _ | refine IsRd.far ?_ (by have := G0.out; omega) (by have := GL.out; omega) | apply IsRd.alloc), by repeat (with_reducible first | exact HK3.out | apply KeepBut.set_ | refine keep_fr ?_ (by omega) _)⟩
    · rw [if_neg e3] at h
      have e3b : (x1 == 3) = false := beq_eq_false_iff_ne.mpr e3
      clear e3
      by_cases e2 : x1 = 2
      · subst e2
        simp only [↓reduceIte] at h
        replace h := Option.bind_eq_some_iff.1 h; obtain ⟨⟨x3, p3, b3⟩, hA, h⟩ := h
        simp only at h
        have HA3 := Aside0.mk hA
        clear hA
        replace h := Option.bind_eq_some_iff.1 h; obtain ⟨⟨x4, p4, b4⟩, hA, h⟩ := h
        simp only at h
        have HA4 := Aside0.mk hA
        clear hA
        unfold rcFin at h
        cases b4
        · simp only [Bool.false_eq_true, ↓reduceIte] at h
          replace h := Option.bind_eq_some_iff.1 h; obtain ⟨o, hK, h⟩ := h
          have HOK := Aside0.mk hK
          clear hK
          cases o
          · simp only [Bool.false_eq_true, ↓reduceIte, Option.some.injEq, Prod.mk.injEq] at h
            obtain ⟨rfl, rfl, rfl, rfl, rfl, rfl, rfl⟩ := h
            go_enter Try.func124, Try.ntmps124
            go_wp2_with (first | (go_at_call 123; with_reducible refine (rd_num k g A c l at_ bad 2 p1 b1 w0 _ (by repeat (with_reducible first | exact HI.out | refine IsRd.far ?_ (by have := G0.out; omega) (by have := GL.out; omega) | apply IsRd.alloc)) HA1.out).mono ?_; rintro e w1 ⟨rfl, hi, hk⟩; have hz := rc_kp hk (b := w.heap.size) (o := .cells #[.int .i64 0, .int .i64 0, .int .i64 0, .int .i64 0, .string (⟨#[]⟩ : ByteArray)] 50 (0, 0)) (by exact blk_alloc (blk_new _ _) _) (by have := GL.out; omega); have hx := rc_kp hk (b := w.heap.size + 1) (o := .cells #[.int .i64 0, .int .i64 0, .int .i64 0, .int .i64 0, .string (⟨#[]⟩ : ByteArray)] 50 (0, 0)) (by exact rc_at (by simp)) (by have := GL.out; omega); have x1_0 := (blk_cell hx 0).trans rfl; have z1_0 := (blk_cell hz 0).trans rfl; have x1_1 := (blk_cell hx 1).trans rfl; have z1_1 := (blk_cell hz 1).trans rfl; have x1_2 := (blk_cell hx 2).trans rfl; have z1_2 := (blk_cell hz 2).trans rfl; have x1_3 := (blk_cell hx 3).trans rfl; have z1_3 := (blk_cell hz 3).trans rfl; have x1_4 := (blk_cell hx 4).trans rfl; have z1_4 := (blk_cell hz 4).trans rfl; have hf1 := fun (i_ : Nat) => blk_frozen hx i_; have hz1 := fun (i_ : Nat) => blk_frozen hz i_; have hq1 := (blk_cell hi.blk 2).trans rfl; have hg1 := blk_frozen hi.blk 2; have HX1 := Aside0.mk hx; have HZ1 := Aside0.mk hz; have HI1 := Aside0.mk hi; have HK1 : Aside0 (KeepBut w w1 g none) := ⟨KeepBut.trans (keep_alloc (keep_alloc (KeepBut.refl _ _ _) _) _) hk (.inl rfl)⟩; clear hi hk hz hx) | (go_at_call 123; with_reducible refine (rd_num k g A c l p1 b1 x2 p2 b2 w0 _ (by repeat (with_reducible first | exact HI1.out | refine IsRd.far ?_ (by have := G0.out; omega) (by have := GL.out; omega) | apply IsRd.alloc)) HA2.out).mono ?_; rintro e w2 ⟨rfl, hi, hk⟩; have hz := rc_kp hk (b := w.heap.size) (o := .cells #[.int .i64 0, .int .i64 0, .int .i64 0, .int .i64 0, .string (⟨#[]⟩ : ByteArray)] 50 (0, 0)) (by exact rc_fr HZ1.out (by omega) _) (by have := GL.out; omega); have hx := rc_kp hk (b := w.heap.size + 1) (o := .cells #[.int .i64 2, .int .i64 0, .int .i64 0, .int .i64 0, .string (⟨#[]⟩ : ByteArray)] 50 (0, 0)) (by exact (blk_set HX1.out 0 _).trans rfl) (by have := GL.out; omega); have x2_0 := (blk_cell hx 0).trans rfl; have z2_0 := (blk_cell hz 0).trans rfl; have x2_1 := (blk_cell hx 1).trans rfl; have z2_1 := (blk_cell hz 1).trans rfl; have x2_2 := (blk_cell hx 2).trans rfl; have z2_2 := (blk_cell hz 2).trans rfl; have x2_3 := (blk_cell hx 3).trans rfl; have z2_3 := (blk_cell hz 3).trans rfl; have x2_4 := (blk_cell hx 4).trans rfl; have z2_4 := (blk_cell hz 4).trans rfl; have hf2 := fun (i_ : Nat) => blk_frozen hx i_; have hz2 := fun (i_ : Nat) => blk_frozen hz i_; have hq2 := (blk_cell hi.blk 2).trans rfl; have hg2 := blk_frozen hi.blk 2; have HX2 := Aside0.mk hx; have HZ2 := Aside0.mk hz; have HI2 := Aside0.mk hi; have HK2 : Aside0 (KeepBut w w2 g none) := ⟨KeepBut.trans (keep_fr HK1.out (by omega) _) hk (.inl rfl)⟩; clear hi hk hz hx) | (go_at_call 123; with_reducible refine (rd_num k g A c l p2 b2 x3 p3 b3 w0 _ (by repeat (with_reducible first | exact HI2.out | refine IsRd.far ?_ (by have := G0.out; omega) (by have := GL.out; omega) | apply IsRd.alloc)) HA3.out).mono ?_; rintro e w3 ⟨rfl, hi, hk⟩; have hz := rc_kp hk (b := w.heap.size) (o := .cells #[.int .i64 0, .int .i64 0, .int .i64 0, .int .i64 0, .string (⟨#[]⟩ : ByteArray)] 50 (0, 0)) (by exact rc_fr HZ2.out (by omega) _) (by have := GL.out; omega); have hx := rc_kp hk (b := w.heap.size + 1) (o := .cells #[.int .i64 2, .int .i64 x2, .int .i64 0, .int .i64 0, .string (⟨#[]⟩ : ByteArray)] 50 (0, 0)) (by exact (blk_set HX2.out 1 _).trans rfl) (by have := GL.out; omega); have x3_0 := (blk_cell hx 0).trans rfl; have z3_0 := (blk_cell hz 0).trans rfl; have x3_1 := (blk_cell hx 1).trans rfl; have z3_1 := (blk_cell hz 1).trans rfl; have x3_2 := (blk_cell hx 2).trans rfl; have z3_2 := (blk_cell hz 2).trans rfl; have x3_3 := (blk_cell hx 3).trans rfl; have z3_3 := (blk_cell hz 3).trans rfl; have x3_4 := (blk_cell hx 4).trans rfl; have z3_4 := (blk_cell hz 4).trans rfl; have hf3 := fun (i_ : Nat) => blk_frozen hx i_; have hz3 := fun (i_ : Nat) => blk_frozen hz i_; have hq3 := (blk_cell hi.blk 2).trans rfl; have hg3 := blk_frozen hi.blk 2; have HX3 := Aside0.mk hx; have HZ3 := Aside0.mk hz; have HI3 := Aside0.mk hi; have HK3 : Aside0 (KeepBut w w3 g none) := ⟨KeepBut.trans (keep_fr HK2.out (by omega) _) hk (.inl rfl)⟩; clear hi hk hz hx) | (go_at_call 161; with_reducible refine (rd_bytes g A c l p3 b3 32 x4 p4 false w0 _ (by repeat (with_reducible first | exact HI3.out | refine IsRd.far ?_ (by have := G0.out; omega) (by have := GL.out; omega) | apply IsRd.alloc)) HA4.out).mono ?_; rintro e w4 ⟨rfl, hi, hk⟩; have hz := rc_kp hk (b := w.heap.size) (o := .cells #[.int .i64 0, .int .i64 0, .int .i64 0, .int .i64 0, .string (⟨#[]⟩ : ByteArray)] 50 (0, 0)) (by exact rc_fr HZ3.out (by omega) _) (by have := GL.out; omega); have hx := rc_kp hk (b := w.heap.size + 1) (o := .cells #[.int .i64 2, .int .i64 x2, .int .i64 0, .int .i64 x3, .string (⟨#[]⟩ : ByteArray)] 50 (0, 0)) (by exact (blk_set HX3.out 3 _).trans rfl) (by have := GL.out; omega); have x4_0 := (blk_cell hx 0).trans rfl; have z4_0 := (blk_cell hz 0).trans rfl; have x4_1 := (blk_cell hx 1).trans rfl; have z4_1 := (blk_cell hz 1).trans rfl; have x4_2 := (blk_cell hx 2).trans rfl; have z4_2 := (blk_cell hz 2).trans rfl; have x4_3 := (blk_cell hx 3).trans rfl; have z4_3 := (blk_cell hz 3).trans rfl; have x4_4 := (blk_cell hx 4).trans rfl; have z4_4 := (blk_cell hz 4).trans rfl; have hf4 := fun (i_ : Nat) => blk_frozen hx i_; have hz4 := fun (i_ : Nat) => blk_frozen hz i_; have hq4 := (blk_cell hi.blk 2).trans rfl; have hg4 := blk_frozen hi.blk 2; have HX4 := Aside0.mk hx; have HZ4 := Aside0.mk hz; have HI4 := Aside0.mk hi; have HK4 : Aside0 (KeepBut w w4 g none) := ⟨KeepBut.trans (keep_fr HK3.out (by omega) _) hk (.inl rfl)⟩; clear hi hk hz hx) | (go_at_call 152; with_reducible refine (impl_CmdOk.calls k _ _ _ _ _ _ _ HOK.out).mono ?_; rintro e wo ⟨rfl, hb⟩; have hz := blk_below (g := w.heap.size) (o := .cells #[.int .i64 0, .int .i64 0, .int .i64 0, .int .i64 0, .string (⟨#[]⟩ : ByteArray)] 50 (0, 0)) (by exact rc_fr HZ4.out (by omega) _) hb; have hx := blk_below (g := w.heap.size + 1) (o := .cells #[.int .i64 2, .int .i64 x2, .int .i64 0, .int .i64 x3, .string x4] 50 (0, 0)) (by exact (blk_set HX4.out 4 _).trans rfl) hb; have hi : IsRd w0 wo g A c l p4 false := IsRd.step (by repeat (with_reducible first | exact HI4.out | refine IsRd.far ?_ (by have := G0.out; omega) (by have := GL.out; omega) | apply IsRd.alloc)) hb; have xo_0 := (blk_cell hx 0).trans rfl; have zo_0 := (blk_cell hz 0).trans rfl; have xo_1 := (blk_cell hx 1).trans rfl; have zo_1 := (blk_cell hz 1).trans rfl; have xo_2 := (blk_cell hx 2).trans rfl; have zo_2 := (blk_cell hz 2).trans rfl; have xo_3 := (blk_cell hx 3).trans rfl; have zo_3 := (blk_cell hz 3).trans rfl; have xo_4 := (blk_cell hx 4).trans rfl; have zo_4 := (blk_cell hz 4).trans rfl; have hfo := fun (i_ : Nat) => blk_frozen hx i_; have hzo := fun (i_ : Nat) => blk_frozen hz i_; have hqo := (blk_cell hi.blk 2).trans rfl; have hgo := blk_frozen hi.blk 2; have HZo := Aside0.mk hz; have HIo := Aside0.mk hi; have HKo : Aside0 (KeepBut w wo g none) := ⟨KeepBut.trans (keep_fr HK4.out (by omega) _) (KeepBut.of_below hb g none) (.inl rfl)⟩; clear hi hb hz hx))
            refine bodyPost_ret (results_cell_row rfl _ _ w.heap.size 50 #[.int .i64 0, .int .i64 0, .int .i64 0, .int .i64 0, .string (⟨#[]⟩ : ByteArray)] (0, 0) _ rfl (by (with_reducible repeat (first | refine blk_drewN ?_ _ | refine blk_alloc ?_ _)); with_reducible refine rc_set5 ?_; repeat (with_reducible first | exact HZo.out | refine rc_fr ?_ (by first | omega | (have := GL.out; omega)) _ | refine blk_drewN ?_ _ | refine blk_alloc ?_ _)) hu rfl (by kernel_rfl)) rfl ?_; exact ⟨by first | rfl | (simp; done) | (simp [*]; done), by repeat (with_reducible first | exact HIo.out | refine IsRd.set2 (bad := false) ?_ _ | refine IsRd.far ?_ (by have := G0.out; omega) (by have := GL.out; omega) | apply IsRd.alloc), by repeat (with_reducible first | exact HKo.out | apply KeepBut.set_ | refine keep_fr ?_ (by omega) _)⟩
          · simp only [Bool.false_eq_true, ↓reduceIte, Option.some.injEq, Prod.mk.injEq] at h
            obtain ⟨rfl, rfl, rfl, rfl, rfl, rfl, rfl⟩ := h
            go_enter Try.func124, Try.ntmps124
            go_wp2_with (first | (go_at_call 123; with_reducible refine (rd_num k g A c l at_ bad 2 p1 b1 w0 _ (by repeat (with_reducible first | exact HI.out | refine IsRd.far ?_ (by have := G0.out; omega) (by have := GL.out; omega) | apply IsRd.alloc)) HA1.out).mono ?_; rintro e w1 ⟨rfl, hi, hk⟩; have hz := rc_kp hk (b := w.heap.size) (o := .cells #[.int .i64 0, .int .i64 0, .int .i64 0, .int .i64 0, .string (⟨#[]⟩ : ByteArray)] 50 (0, 0)) (by exact blk_alloc (blk_new _ _) _) (by have := GL.out; omega); have hx := rc_kp hk (b := w.heap.size + 1) (o := .cells #[.int .i64 0, .int .i64 0, .int .i64 0, .int .i64 0, .string (⟨#[]⟩ : ByteArray)] 50 (0, 0)) (by exact rc_at (by simp)) (by have := GL.out; omega); have x1_0 := (blk_cell hx 0).trans rfl; have z1_0 := (blk_cell hz 0).trans rfl; have x1_1 := (blk_cell hx 1).trans rfl; have z1_1 := (blk_cell hz 1).trans rfl; have x1_2 := (blk_cell hx 2).trans rfl; have z1_2 := (blk_cell hz 2).trans rfl; have x1_3 := (blk_cell hx 3).trans rfl; have z1_3 := (blk_cell hz 3).trans rfl; have x1_4 := (blk_cell hx 4).trans rfl; have z1_4 := (blk_cell hz 4).trans rfl; have hf1 := fun (i_ : Nat) => blk_frozen hx i_; have hz1 := fun (i_ : Nat) => blk_frozen hz i_; have hq1 := (blk_cell hi.blk 2).trans rfl; have hg1 := blk_frozen hi.blk 2; have HX1 := Aside0.mk hx; have HZ1 := Aside0.mk hz; have HI1 := Aside0.mk hi; have HK1 : Aside0 (KeepBut w w1 g none) := ⟨KeepBut.trans (keep_alloc (keep_alloc (KeepBut.refl _ _ _) _) _) hk (.inl rfl)⟩; clear hi hk hz hx) | (go_at_call 123; with_reducible refine (rd_num k g A c l p1 b1 x2 p2 b2 w0 _ (by repeat (with_reducible first | exact HI1.out | refine IsRd.far ?_ (by have := G0.out; omega) (by have := GL.out; omega) | apply IsRd.alloc)) HA2.out).mono ?_; rintro e w2 ⟨rfl, hi, hk⟩; have hz := rc_kp hk (b := w.heap.size) (o := .cells #[.int .i64 0, .int .i64 0, .int .i64 0, .int .i64 0, .string (⟨#[]⟩ : ByteArray)] 50 (0, 0)) (by exact rc_fr HZ1.out (by omega) _) (by have := GL.out; omega); have hx := rc_kp hk (b := w.heap.size + 1) (o := .cells #[.int .i64 2, .int .i64 0, .int .i64 0, .int .i64 0, .string (⟨#[]⟩ : ByteArray)] 50 (0, 0)) (by exact (blk_set HX1.out 0 _).trans rfl) (by have := GL.out; omega); have x2_0 := (blk_cell hx 0).trans rfl; have z2_0 := (blk_cell hz 0).trans rfl; have x2_1 := (blk_cell hx 1).trans rfl; have z2_1 := (blk_cell hz 1).trans rfl; have x2_2 := (blk_cell hx 2).trans rfl; have z2_2 := (blk_cell hz 2).trans rfl; have x2_3 := (blk_cell hx 3).trans rfl; have z2_3 := (blk_cell hz 3).trans rfl; have x2_4 := (blk_cell hx 4).trans rfl; have z2_4 := (blk_cell hz 4).trans rfl; have hf2 := fun (i_ : Nat) => blk_frozen hx i_; have hz2 := fun (i_ : Nat) => blk_frozen hz i_; have hq2 := (blk_cell hi.blk 2).trans rfl; have hg2 := blk_frozen hi.blk 2; have HX2 := Aside0.mk hx; have HZ2 := Aside0.mk hz; have HI2 := Aside0.mk hi; have HK2 : Aside0 (KeepBut w w2 g none) := ⟨KeepBut.trans (keep_fr HK1.out (by omega) _) hk (.inl rfl)⟩; clear hi hk hz hx) | (go_at_call 123; with_reducible refine (rd_num k g A c l p2 b2 x3 p3 b3 w0 _ (by repeat (with_reducible first | exact HI2.out | refine IsRd.far ?_ (by have := G0.out; omega) (by have := GL.out; omega) | apply IsRd.alloc)) HA3.out).mono ?_; rintro e w3 ⟨rfl, hi, hk⟩; have hz := rc_kp hk (b := w.heap.size) (o := .cells #[.int .i64 0, .int .i64 0, .int .i64 0, .int .i64 0, .string (⟨#[]⟩ : ByteArray)] 50 (0, 0)) (by exact rc_fr HZ2.out (by omega) _) (by have := GL.out; omega); have hx := rc_kp hk (b := w.heap.size + 1) (o := .cells #[.int .i64 2, .int .i64 x2, .int .i64 0, .int .i64 0, .string (⟨#[]⟩ : ByteArray)] 50 (0, 0)) (by exact (blk_set HX2.out 1 _).trans rfl) (by have := GL.out; omega); have x3_0 := (blk_cell hx 0).trans rfl; have z3_0 := (blk_cell hz 0).trans rfl; have x3_1 := (blk_cell hx 1).trans rfl; have z3_1 := (blk_cell hz 1).trans rfl; have x3_2 := (blk_cell hx 2).trans rfl; have z3_2 := (blk_cell hz 2).trans rfl; have x3_3 := (blk_cell hx 3).trans rfl; have z3_3 := (blk_cell hz 3).trans rfl; have x3_4 := (blk_cell hx 4).trans rfl; have z3_4 := (blk_cell hz 4).trans rfl; have hf3 := fun (i_ : Nat) => blk_frozen hx i_; have hz3 := fun (i_ : Nat) => blk_frozen hz i_; have hq3 := (blk_cell hi.blk 2).trans rfl; have hg3 := blk_frozen hi.blk 2; have HX3 := Aside0.mk hx; have HZ3 := Aside0.mk hz; have HI3 := Aside0.mk hi; have HK3 : Aside0 (KeepBut w w3 g none) := ⟨KeepBut.trans (keep_fr HK2.out (by omega) _) hk (.inl rfl)⟩; clear hi hk hz hx) | (go_at_call 161; with_reducible refine (rd_bytes g A c l p3 b3 32 x4 p4 false w0 _ (by repeat (with_reducible first | exact HI3.out | refine IsRd.far ?_ (by have := G0.out; omega) (by have := GL.out; omega) | apply IsRd.alloc)) HA4.out).mono ?_; rintro e w4 ⟨rfl, hi, hk⟩; have hz := rc_kp hk (b := w.heap.size) (o := .cells #[.int .i64 0, .int .i64 0, .int .i64 0, .int .i64 0, .string (⟨#[]⟩ : ByteArray)] 50 (0, 0)) (by exact rc_fr HZ3.out (by omega) _) (by have := GL.out; omega); have hx := rc_kp hk (b := w.heap.size + 1) (o := .cells #[.int .i64 2, .int .i64 x2, .int .i64 0, .int .i64 x3, .string (⟨#[]⟩ : ByteArray)] 50 (0, 0)) (by exact (blk_set HX3.out 3 _).trans rfl) (by have := GL.out; omega); have x4_0 := (blk_cell hx 0).trans rfl; have z4_0 := (blk_cell hz 0).trans rfl; have x4_1 := (blk_cell hx 1).trans rfl; have z4_1 := (blk_cell hz 1).trans rfl; have x4_2 := (blk_cell hx 2).trans rfl; have z4_2 := (blk_cell hz 2).trans rfl; have x4_3 := (blk_cell hx 3).trans rfl; have z4_3 := (blk_cell hz 3).trans rfl; have x4_4 := (blk_cell hx 4).trans rfl; have z4_4 := (blk_cell hz 4).trans rfl; have hf4 := fun (i_ : Nat) => blk_frozen hx i_; have hz4 := fun (i_ : Nat) => blk_frozen hz i_; have hq4 := (blk_cell hi.blk 2).trans rfl; have hg4 := blk_frozen hi.blk 2; have HX4 := Aside0.mk hx; have HZ4 := Aside0.mk hz; have HI4 := Aside0.mk hi; have HK4 : Aside0 (KeepBut w w4 g none) := ⟨KeepBut.trans (keep_fr HK3.out (by omega) _) hk (.inl rfl)⟩; clear hi hk hz hx) | (go_at_call 152; with_reducible refine (impl_CmdOk.calls k _ _ _ _ _ _ _ HOK.out).mono ?_; rintro e wo ⟨rfl, hb⟩; have hz := blk_below (g := w.heap.size) (o := .cells #[.int .i64 0, .int .i64 0, .int .i64 0, .int .i64 0, .string (⟨#[]⟩ : ByteArray)] 50 (0, 0)) (by exact rc_fr HZ4.out (by omega) _) hb; have hx := blk_below (g := w.heap.size + 1) (o := .cells #[.int .i64 2, .int .i64 x2, .int .i64 0, .int .i64 x3, .string x4] 50 (0, 0)) (by exact (blk_set HX4.out 4 _).trans rfl) hb; have hi : IsRd w0 wo g A c l p4 false := IsRd.step (by repeat (with_reducible first | exact HI4.out | refine IsRd.far ?_ (by have := G0.out; omega) (by have := GL.out; omega) | apply IsRd.alloc)) hb; have xo_0 := (blk_cell hx 0).trans rfl; have zo_0 := (blk_cell hz 0).trans rfl; have xo_1 := (blk_cell hx 1).trans rfl; have zo_1 := (blk_cell hz 1).trans rfl; have xo_2 := (blk_cell hx 2).trans rfl; have zo_2 := (blk_cell hz 2).trans rfl; have xo_3 := (blk_cell hx 3).trans rfl; have zo_3 := (blk_cell hz 3).trans rfl; have xo_4 := (blk_cell hx 4).trans rfl; have zo_4 := (blk_cell hz 4).trans rfl; have hfo := fun (i_ : Nat) => blk_frozen hx i_; have hzo := fun (i_ : Nat) => blk_frozen hz i_; have hqo := (blk_cell hi.blk 2).trans rfl; have hgo := blk_frozen hi.blk 2; have HZo := Aside0.mk hz; have HIo := Aside0.mk hi; have HKo : Aside0 (KeepBut w wo g none) := ⟨KeepBut.trans (keep_fr HK4.out (by omega) _) (KeepBut.of_below hb g none) (.inl rfl)⟩; clear hi hb hz hx))
            refine bodyPost_ret (results_cell_row rfl _ _ w.heap.size 50 #[.int .i64 2, .int .i64 x2, .int .i64 0, .int .i64 x3, .string x4] (0, 0) _ rfl (by (with_reducible repeat (first | refine blk_drewN ?_ _ | refine blk_alloc ?_ _)); with_reducible refine rc_set5 ?_; repeat (with_reducible first | exact HZo.out | refine rc_fr ?_ (by first | omega | (have := GL.out; omega)) _ | refine blk_drewN ?_ _ | refine blk_alloc ?_ _)) hu rfl (by kernel_rfl)) rfl ?_; exact ⟨by first | rfl | (simp; done) | (simp [*]; done), by repeat (with_reducible first | exact HIo.out | refine IsRd.set2 (bad := false) ?_ _ | refine IsRd.far ?_ (by have := G0.out; omega) (by have := GL.out; omega) | apply IsRd.alloc), by repeat (with_reducible first | exact HKo.out | apply KeepBut.set_ | refine keep_fr ?_ (by omega) _)⟩
        · simp only [Bool.false_eq_true, ↓reduceIte, Option.some.injEq, Prod.mk.injEq] at h
          obtain ⟨rfl, rfl, rfl, rfl, rfl, rfl, rfl⟩ := h
          go_enter Try.func124, Try.ntmps124
          go_wp2_with (first | (go_at_call 123; with_reducible refine (rd_num k g A c l at_ bad 2 p1 b1 w0 _ (by repeat (with_reducible first | exact HI.out | refine IsRd.far ?_ (by have := G0.out; omega) (by have := GL.out; omega) | apply IsRd.alloc)) HA1.out).mono ?_; rintro e w1 ⟨rfl, hi, hk⟩; have hz := rc_kp hk (b := w.heap.size) (o := .cells #[.int .i64 0, .int .i64 0, .int .i64 0, .int .i64 0, .string (⟨#[]⟩ : ByteArray)] 50 (0, 0)) (by exact blk_alloc (blk_new _ _) _) (by have := GL.out; omega); have hx := rc_kp hk (b := w.heap.size + 1) (o := .cells #[.int .i64 0, .int .i64 0, .int .i64 0, .int .i64 0, .string (⟨#[]⟩ : ByteArray)] 50 (0, 0)) (by exact rc_at (by simp)) (by have := GL.out; omega); have x1_0 := (blk_cell hx 0).trans rfl; have z1_0 := (blk_cell hz 0).trans rfl; have x1_1 := (blk_cell hx 1).trans rfl; have z1_1 := (blk_cell hz 1).trans rfl; have x1_2 := (blk_cell hx 2).trans rfl; have z1_2 := (blk_cell hz 2).trans rfl; have x1_3 := (blk_cell hx 3).trans rfl; have z1_3 := (blk_cell hz 3).trans rfl; have x1_4 := (blk_cell hx 4).trans rfl; have z1_4 := (blk_cell hz 4).trans rfl; have hf1 := fun (i_ : Nat) => blk_frozen hx i_; have hz1 := fun (i_ : Nat) => blk_frozen hz i_; have hq1 := (blk_cell hi.blk 2).trans rfl; have hg1 := blk_frozen hi.blk 2; have HX1 := Aside0.mk hx; have HZ1 := Aside0.mk hz; have HI1 := Aside0.mk hi; have HK1 : Aside0 (KeepBut w w1 g none) := ⟨KeepBut.trans (keep_alloc (keep_alloc (KeepBut.refl _ _ _) _) _) hk (.inl rfl)⟩; clear hi hk hz hx) | (go_at_call 123; with_reducible refine (rd_num k g A c l p1 b1 x2 p2 b2 w0 _ (by repeat (with_reducible first | exact HI1.out | refine IsRd.far ?_ (by have := G0.out; omega) (by have := GL.out; omega) | apply IsRd.alloc)) HA2.out).mono ?_; rintro e w2 ⟨rfl, hi, hk⟩; have hz := rc_kp hk (b := w.heap.size) (o := .cells #[.int .i64 0, .int .i64 0, .int .i64 0, .int .i64 0, .string (⟨#[]⟩ : ByteArray)] 50 (0, 0)) (by exact rc_fr HZ1.out (by omega) _) (by have := GL.out; omega); have hx := rc_kp hk (b := w.heap.size + 1) (o := .cells #[.int .i64 2, .int .i64 0, .int .i64 0, .int .i64 0, .string (⟨#[]⟩ : ByteArray)] 50 (0, 0)) (by exact (blk_set HX1.out 0 _).trans rfl) (by have := GL.out; omega); have x2_0 := (blk_cell hx 0).trans rfl; have z2_0 := (blk_cell hz 0).trans rfl; have x2_1 := (blk_cell hx 1).trans rfl; have z2_1 := (blk_cell hz 1).trans rfl; have x2_2 := (blk_cell hx 2).trans rfl; have z2_2 := (blk_cell hz 2).trans rfl; have x2_3 := (blk_cell hx 3).trans rfl; have z2_3 := (blk_cell hz 3).trans rfl; have x2_4 := (blk_cell hx 4).trans rfl; have z2_4 := (blk_cell hz 4).trans rfl; have hf2 := fun (i_ : Nat) => blk_frozen hx i_; have hz2 := fun (i_ : Nat) => blk_frozen hz i_; have hq2 := (blk_cell hi.blk 2).trans rfl; have hg2 := blk_frozen hi.blk 2; have HX2 := Aside0.mk hx; have HZ2 := Aside0.mk hz; have HI2 := Aside0.mk hi; have HK2 : Aside0 (KeepBut w w2 g none) := ⟨KeepBut.trans (keep_fr HK1.out (by omega) _) hk (.inl rfl)⟩; clear hi hk hz hx) | (go_at_call 123; with_reducible refine (rd_num k g A c l p2 b2 x3 p3 b3 w0 _ (by repeat (with_reducible first | exact HI2.out | refine IsRd.far ?_ (by have := G0.out; omega) (by have := GL.out; omega) | apply IsRd.alloc)) HA3.out).mono ?_; rintro e w3 ⟨rfl, hi, hk⟩; have hz := rc_kp hk (b := w.heap.size) (o := .cells #[.int .i64 0, .int .i64 0, .int .i64 0, .int .i64 0, .string (⟨#[]⟩ : ByteArray)] 50 (0, 0)) (by exact rc_fr HZ2.out (by omega) _) (by have := GL.out; omega); have hx := rc_kp hk (b := w.heap.size + 1) (o := .cells #[.int .i64 2, .int .i64 x2, .int .i64 0, .int .i64 0, .string (⟨#[]⟩ : ByteArray)] 50 (0, 0)) (by exact (blk_set HX2.out 1 _).trans rfl) (by have := GL.out; omega); have x3_0 := (blk_cell hx 0).trans rfl; have z3_0 := (blk_cell hz 0).trans rfl; have x3_1 := (blk_cell hx 1).trans rfl; have z3_1 := (blk_cell hz 1).trans rfl; have x3_2 := (blk_cell hx 2).trans rfl; have z3_2 := (blk_cell hz 2).trans rfl; have x3_3 := (blk_cell hx 3).trans rfl; have z3_3 := (blk_cell hz 3).trans rfl; have x3_4 := (blk_cell hx 4).trans rfl; have z3_4 := (blk_cell hz 4).trans rfl; have hf3 := fun (i_ : Nat) => blk_frozen hx i_; have hz3 := fun (i_ : Nat) => blk_frozen hz i_; have hq3 := (blk_cell hi.blk 2).trans rfl; have hg3 := blk_frozen hi.blk 2; have HX3 := Aside0.mk hx; have HZ3 := Aside0.mk hz; have HI3 := Aside0.mk hi; have HK3 : Aside0 (KeepBut w w3 g none) := ⟨KeepBut.trans (keep_fr HK2.out (by omega) _) hk (.inl rfl)⟩; clear hi hk hz hx) | (go_at_call 161; with_reducible refine (rd_bytes g A c l p3 b3 32 x4 p4 true w0 _ (by repeat (with_reducible first | exact HI3.out | refine IsRd.far ?_ (by have := G0.out; omega) (by have := GL.out; omega) | apply IsRd.alloc)) HA4.out).mono ?_; rintro e w4 ⟨rfl, hi, hk⟩; have hz := rc_kp hk (b := w.heap.size) (o := .cells #[.int .i64 0, .int .i64 0, .int .i64 0, .int .i64 0, .string (⟨#[]⟩ : ByteArray)] 50 (0, 0)) (by exact rc_fr HZ3.out (by omega) _) (by have := GL.out; omega); have hx := rc_kp hk (b := w.heap.size + 1) (o := .cells #[.int .i64 2, .int .i64 x2, .int .i64 0, .int .i64 x3, .string (⟨#[]⟩ : ByteArray)] 50 (0, 0)) (by exact (blk_set HX3.out 3 _).trans rfl) (by have := GL.out; omega); have x4_0 := (blk_cell hx 0).trans rfl; have z4_0 := (blk_cell hz 0).trans rfl; have x4_1 := (blk_cell hx 1).trans rfl; have z4_1 := (blk_cell hz 1).trans rfl; have x4_2 := (blk_cell hx 2).trans rfl; have z4_2 := (blk_cell hz 2).trans rfl; have x4_3 := (blk_cell hx 3).trans rfl; have z4_3 := (blk_cell hz 3).trans rfl; have x4_4 := (blk_cell hx 4).trans rfl; have z4_4 := (blk_cell hz 4).trans rfl; have hf4 := fun (i_ : Nat) => blk_frozen hx i_; have hz4 := fun (i_ : Nat) => blk_frozen hz i_; have hq4 := (blk_cell hi.blk 2).trans rfl; have hg4 := blk_frozen hi.blk 2; have HX4 := Aside0.mk hx; have HZ4 := Aside0.mk hz; have HI4 := Aside0.mk hi; have HK4 : Aside0 (KeepBut w w4 g none) := ⟨KeepBut.trans (keep_fr HK3.out (by omega) _) hk (.inl rfl)⟩; clear hi hk hz hx))
          refine bodyPost_ret (results_cell_row rfl _ _ w.heap.size 50 #[.int .i64 0, .int .i64 0, .int .i64 0, .int .i64 0, .string (⟨#[]⟩ : ByteArray)] (0, 0) _ rfl (by (with_reducible repeat (first | refine blk_drewN ?_ _ | refine blk_alloc ?_ _)); with_reducible refine rc_set5 ?_; repeat (with_reducible first | exact HZ4.out | refine rc_fr ?_ (by first | omega | (have := GL.out; omega)) _ | refine blk_drewN ?_ _ | refine blk_alloc ?_ _)) hu rfl (by kernel_rfl)) rfl ?_; exact ⟨by first | rfl | (simp; done) | (simp [*]; done), by repeat (with_reducible first | exact HI4.out | refine IsRd.set2 (bad := true) ?_ _ | refine IsRd.far ?_ (by have := G0.out; omega) (by have := GL.out; omega) | apply IsRd.alloc), by repeat (with_reducible first | exact HK4.out | apply KeepBut.set_ | refine keep_fr ?_ (by omega) _)⟩
      · rw [if_neg e2] at h
        have e2b : (x1 == 2) = false := beq_eq_false_iff_ne.mpr e2
        clear e2
        unfold rcFin at h
        cases b2
        · simp only [Bool.false_eq_true, ↓reduceIte] at h
          replace h := Option.bind_eq_some_iff.1 h; obtain ⟨o, hK, h⟩ := h
          have HOK := Aside0.mk hK
          clear hK
          cases o
          · simp only [Bool.false_eq_true, ↓reduceIte, Option.some.injEq, Prod.mk.injEq] at h
            obtain ⟨rfl, rfl, rfl, rfl, rfl, rfl, rfl⟩ := h
            go_enter Try.func124, Try.ntmps124
            go_wp2_with (first | (go_at_call 123; with_reducible refine (rd_num k g A c l at_ bad x1 p1 b1 w0 _ (by repeat (with_reducible first | exact HI.out | refine IsRd.far ?_ (by have := G0.out; omega) (by have := GL.out; omega) | apply IsRd.alloc)) HA1.out).mono ?_; rintro e w1 ⟨rfl, hi, hk⟩; have hz := rc_kp hk (b := w.heap.size) (o := .cells #[.int .i64 0, .int .i64 0, .int .i64 0, .int .i64 0, .string (⟨#[]⟩ : ByteArray)] 50 (0, 0)) (by exact blk_alloc (blk_new _ _) _) (by have := GL.out; omega); have hx := rc_kp hk (b := w.heap.size + 1) (o := .cells #[.int .i64 0, .int .i64 0, .int .i64 0, .int .i64 0, .string (⟨#[]⟩ : ByteArray)] 50 (0, 0)) (by exact rc_at (by simp)) (by have := GL.out; omega); have x1_0 := (blk_cell hx 0).trans rfl; have z1_0 := (blk_cell hz 0).trans rfl; have x1_1 := (blk_cell hx 1).trans rfl; have z1_1 := (blk_cell hz 1).trans rfl; have x1_2 := (blk_cell hx 2).trans rfl; have z1_2 := (blk_cell hz 2).trans rfl; have x1_3 := (blk_cell hx 3).trans rfl; have z1_3 := (blk_cell hz 3).trans rfl; have x1_4 := (blk_cell hx 4).trans rfl; have z1_4 := (blk_cell hz 4).trans rfl; have hf1 := fun (i_ : Nat) => blk_frozen hx i_; have hz1 := fun (i_ : Nat) => blk_frozen hz i_; have hq1 := (blk_cell hi.blk 2).trans rfl; have hg1 := blk_frozen hi.blk 2; have HX1 := Aside0.mk hx; have HZ1 := Aside0.mk hz; have HI1 := Aside0.mk hi; have HK1 : Aside0 (KeepBut w w1 g none) := ⟨KeepBut.trans (keep_alloc (keep_alloc (KeepBut.refl _ _ _) _) _) hk (.inl rfl)⟩; clear hi hk hz hx) | (go_at_call 123; with_reducible refine (rd_num k g A c l p1 b1 x2 p2 false w0 _ (by repeat (with_reducible first | exact HI1.out | refine IsRd.far ?_ (by have := G0.out; omega) (by have := GL.out; omega) | apply IsRd.alloc)) HA2.out).mono ?_; rintro e w2 ⟨rfl, hi, hk⟩; have hz := rc_kp hk (b := w.heap.size) (o := .cells #[.int .i64 0, .int .i64 0, .int .i64 0, .int .i64 0, .string (⟨#[]⟩ : ByteArray)] 50 (0, 0)) (by exact rc_fr HZ1.out (by omega) _) (by have := GL.out; omega); have hx := rc_kp hk (b := w.heap.size + 1) (o := .cells #[.int .i64 x1, .int .i64 0, .int .i64 0, .int .i64 0, .string (⟨#[]⟩ : ByteArray)] 50 (0, 0)) (by exact (blk_set HX1.out 0 _).trans rfl) (by have := GL.out; omega); have x2_0 := (blk_cell hx 0).trans rfl; have z2_0 := (blk_cell hz 0).trans rfl; have x2_1 := (blk_cell hx 1).trans rfl; have z2_1 := (blk_cell hz 1).trans rfl; have x2_2 := (blk_cell hx 2).trans rfl; have z2_2 := (blk_cell hz 2).trans rfl; have x2_3 := (blk_cell hx 3).trans rfl; have z2_3 := (blk_cell hz 3).trans rfl; have x2_4 := (blk_cell hx 4).trans rfl; have z2_4 := (blk_cell hz 4).trans rfl; have hf2 := fun (i_ : Nat) => blk_frozen hx i_; have hz2 := fun (i_ : Nat) => blk_frozen hz i_; have hq2 := (blk_cell hi.blk 2).trans rfl; have hg2 := blk_frozen hi.blk 2; have HX2 := Aside0.mk hx; have HZ2 := Aside0.mk hz; have HI2 := Aside0.mk hi; have HK2 : Aside0 (KeepBut w w2 g none) := ⟨KeepBut.trans (keep_fr HK1.out (by omega) _) hk (.inl rfl)⟩; clear hi hk hz hx) | (go_at_call 152; with_reducible refine (impl_CmdOk.calls k _ _ _ _ _ _ _ HOK.out).mono ?_; rintro e wo ⟨rfl, hb⟩; have hz := blk_below (g := w.heap.size) (o := .cells #[.int .i64 0, .int .i64 0, .int .i64 0, .int .i64 0, .string (⟨#[]⟩ : ByteArray)] 50 (0, 0)) (by exact rc_fr HZ2.out (by omega) _) hb; have hx := blk_below (g := w.heap.size + 1) (o := .cells #[.int .i64 x1, .int .i64 x2, .int .i64 0, .int .i64 0, .string (⟨#[]⟩ : ByteArray)] 50 (0, 0)) (by exact (blk_set HX2.out 1 _).trans rfl) hb; have hi : IsRd w0 wo g A c l p2 false := IsRd.step (by repeat (with_reducible first | exact HI2.out | refine IsRd.far ?_ (by have := G0.out; omega) (by have := GL.out; omega) | apply IsRd.alloc)) hb; have xo_0 := (blk_cell hx 0).trans rfl; have zo_0 := (blk_cell hz 0).trans rfl; have xo_1 := (blk_cell hx 1).trans rfl; have zo_1 := (blk_cell hz 1).trans rfl; have xo_2 := (blk_cell hx 2).trans rfl; have zo_2 := (blk_cell hz 2).trans rfl; have xo_3 := (blk_cell hx 3).trans rfl; have zo_3 := (blk_cell hz 3).trans rfl; have xo_4 := (blk_cell hx 4).trans rfl; have zo_4 := (blk_cell hz 4).trans rfl; have hfo := fun (i_ : Nat) => blk_frozen hx i_; have hzo := fun (i_ : Nat) => blk_frozen hz i_; have hqo := (blk_cell hi.blk 2).trans rfl; have hgo := blk_frozen hi.blk 2; have HZo := Aside0.mk hz; have HIo := Aside0.mk hi; have HKo : Aside0 (KeepBut w wo g none) := ⟨KeepBut.trans (keep_fr HK2.out (by omega) _) (KeepBut.of_below hb g none) (.inl rfl)⟩; clear hi hb hz hx))
            refine bodyPost_ret (results_cell_row rfl _ _ w.heap.size 50 #[.int .i64 0, .int .i64 0, .int .i64 0, .int .i64 0, .string (⟨#[]⟩ : ByteArray)] (0, 0) _ rfl (by (with_reducible repeat (first | refine blk_drewN ?_ _ | refine blk_alloc ?_ _)); with_reducible refine rc_set5 ?_; repeat (with_reducible first | exact HZo.out | refine rc_fr ?_ (by first | omega | (have := GL.out; omega)) _ | refine blk_drewN ?_ _ | refine blk_alloc ?_ _)) hu rfl (by kernel_rfl)) rfl ?_; exact ⟨by first | rfl | (simp; done) | (simp [*]; done), by repeat (with_reducible first | exact HIo.out | refine IsRd.set2 (bad := false) ?_ _ | refine IsRd.far ?_ (by have := G0.out; omega) (by have := GL.out; omega) | apply IsRd.alloc), by repeat (with_reducible first | exact HKo.out | apply KeepBut.set_ | refine keep_fr ?_ (by omega) _)⟩
          · simp only [Bool.false_eq_true, ↓reduceIte, Option.some.injEq, Prod.mk.injEq] at h
            obtain ⟨rfl, rfl, rfl, rfl, rfl, rfl, rfl⟩ := h
            go_enter Try.func124, Try.ntmps124
            go_wp2_with (first | (go_at_call 123; with_reducible refine (rd_num k g A c l at_ bad x1 p1 b1 w0 _ (by repeat (with_reducible first | exact HI.out | refine IsRd.far ?_ (by have := G0.out; omega) (by have := GL.out; omega) | apply IsRd.alloc)) HA1.out).mono ?_; rintro e w1 ⟨rfl, hi, hk⟩; have hz := rc_kp hk (b := w.heap.size) (o := .cells #[.int .i64 0, .int .i64 0, .int .i64 0, .int .i64 0, .string (⟨#[]⟩ : ByteArray)] 50 (0, 0)) (by exact blk_alloc (blk_new _ _) _) (by have := GL.out; omega); have hx := rc_kp hk (b := w.heap.size + 1) (o := .cells #[.int .i64 0, .int .i64 0, .int .i64 0, .int .i64 0, .string (⟨#[]⟩ : ByteArray)] 50 (0, 0)) (by exact rc_at (by simp)) (by have := GL.out; omega); have x1_0 := (blk_cell hx 0).trans rfl; have z1_0 := (blk_cell hz 0).trans rfl; have x1_1 := (blk_cell hx 1).trans rfl; have z1_1 := (blk_cell hz 1).trans rfl; have x1_2 := (blk_cell hx 2).trans rfl; have z1_2 := (blk_cell hz 2).trans rfl; have x1_3 := (blk_cell hx 3).trans rfl; have z1_3 := (blk_cell hz 3).trans rfl; have x1_4 := (blk_cell hx 4).trans rfl; have z1_4 := (blk_cell hz 4).trans rfl; have hf1 := fun (i_ : Nat) => blk_frozen hx i_; have hz1 := fun (i_ : Nat) => blk_frozen hz i_; have hq1 := (blk_cell hi.blk 2).trans rfl; have hg1 := blk_frozen hi.blk 2; have HX1 := Aside0.mk hx; have HZ1 := Aside0.mk hz; have HI1 := Aside0.mk hi; have HK1 : Aside0 (KeepBut w w1 g none) := ⟨KeepBut.trans (keep_alloc (keep_alloc (KeepBut.refl _ _ _) _) _) hk (.inl rfl)⟩; clear hi hk hz hx) | (go_at_call 123; with_reducible refine (rd_num k g A c l p1 b1 x2 p2 false w0 _ (by repeat (with_reducible first | exact HI1.out | refine IsRd.far ?_ (by have := G0.out; omega) (by have := GL.out; omega) | apply IsRd.alloc)) HA2.out).mono ?_; rintro e w2 ⟨rfl, hi, hk⟩; have hz := rc_kp hk (b := w.heap.size) (o := .cells #[.int .i64 0, .int .i64 0, .int .i64 0, .int .i64 0, .string (⟨#[]⟩ : ByteArray)] 50 (0, 0)) (by exact rc_fr HZ1.out (by omega) _) (by have := GL.out; omega); have hx := rc_kp hk (b := w.heap.size + 1) (o := .cells #[.int .i64 x1, .int .i64 0, .int .i64 0, .int .i64 0, .string (⟨#[]⟩ : ByteArray)] 50 (0, 0)) (by exact (blk_set HX1.out 0 _).trans rfl) (by have := GL.out; omega); have x2_0 := (blk_cell hx 0).trans rfl; have z2_0 := (blk_cell hz 0).trans rfl; have x2_1 := (blk_cell hx 1).trans rfl; have z2_1 := (blk_cell hz 1).trans rfl; have x2_2 := (blk_cell hx 2).trans rfl; have z2_2 := (blk_cell hz 2).trans rfl; have x2_3 := (blk_cell hx 3).trans rfl; have z2_3 := (blk_cell hz 3).trans rfl; have x2_4 := (blk_cell hx 4).trans rfl; have z2_4 := (blk_cell hz 4).trans rfl; have hf2 := fun (i_ : Nat) => blk_frozen hx i_; have hz2 := fun (i_ : Nat) => blk_frozen hz i_; have hq2 := (blk_cell hi.blk 2).trans rfl; have hg2 := blk_frozen hi.blk 2; have HX2 := Aside0.mk hx; have HZ2 := Aside0.mk hz; have HI2 := Aside0.mk hi; have HK2 : Aside0 (KeepBut w w2 g none) := ⟨KeepBut.trans (keep_fr HK1.out (by omega) _) hk (.inl rfl)⟩; clear hi hk hz hx) | (go_at_call 152; with_reducible refine (impl_CmdOk.calls k _ _ _ _ _ _ _ HOK.out).mono ?_; rintro e wo ⟨rfl, hb⟩; have hz := blk_below (g := w.heap.size) (o := .cells #[.int .i64 0, .int .i64 0, .int .i64 0, .int .i64 0, .string (⟨#[]⟩ : ByteArray)] 50 (0, 0)) (by exact rc_fr HZ2.out (by omega) _) hb; have hx := blk_below (g := w.heap.size + 1) (o := .cells #[.int .i64 x1, .int .i64 x2, .int .i64 0, .int .i64 0, .string (⟨#[]⟩ : ByteArray)] 50 (0, 0)) (by exact (blk_set HX2.out 1 _).trans rfl) hb; have hi : IsRd w0 wo g A c l p2 false := IsRd.step (by repeat (with_reducible first | exact HI2.out | refine IsRd.far ?_ (by have := G0.out; omega) (by have := GL.out; omega) | apply IsRd.alloc)) hb; have xo_0 := (blk_cell hx 0).trans rfl; have zo_0 := (blk_cell hz 0).trans rfl; have xo_1 := (blk_cell hx 1).trans rfl; have zo_1 := (blk_cell hz 1).trans rfl; have xo_2 := (blk_cell hx 2).trans rfl; have zo_2 := (blk_cell hz 2).trans rfl; have xo_3 := (blk_cell hx 3).trans rfl; have zo_3 := (blk_cell hz 3).trans rfl; have xo_4 := (blk_cell hx 4).trans rfl; have zo_4 := (blk_cell hz 4).trans rfl; have hfo := fun (i_ : Nat) => blk_frozen hx i_; have hzo := fun (i_ : Nat) => blk_frozen hz i_; have hqo := (blk_cell hi.blk 2).trans rfl; have hgo := blk_frozen hi.blk 2; have HZo := Aside0.mk hz; have HIo := Aside0.mk hi; have HKo : Aside0 (KeepBut w wo g none) := ⟨KeepBut.trans (keep_fr HK2.out (by omega) _) (KeepBut.of_below hb g none) (.inl rfl)⟩; clear hi hb hz hx))
            refine bodyPost_ret (results_cell_row rfl _ _ w.heap.size 50 #[.int .i64 x1, .int .i64 x2, .int .i64 0, .int .i64 0, .string (⟨#[]⟩ : ByteArray)] (0, 0) _ rfl (by (with_reducible repeat (first | refine blk_drewN ?_ _ | refine blk_alloc ?_ _)); with_reducible refine rc_set5 ?_; repeat (with_reducible first | exact HZo.out | refine rc_fr ?_ (by first | omega | (have := GL.out; omega)) _ | refine blk_drewN ?_ _ | refine blk_alloc ?_ _)) hu rfl (by kernel_rfl)) rfl ?_; exact ⟨by first | rfl | (simp; done) | (simp [*]; done), by repeat (with_reducible first | exact HIo.out | refine IsRd.set2 (bad := false) ?_ _ | refine IsRd.far ?_ (by have := G0.out; omega) (by have := GL.out; omega) | apply IsRd.alloc), by repeat (with_reducible first | exact HKo.out | apply KeepBut.set_ | refine keep_fr ?_ (by omega) _)⟩
        · simp only [Bool.false_eq_true, ↓reduceIte, Option.some.injEq, Prod.mk.injEq] at h
          obtain ⟨rfl, rfl, rfl, rfl, rfl, rfl, rfl⟩ := h
          go_enter Try.func124, Try.ntmps124
          go_wp2_with (first | (go_at_call 123; with_reducible refine (rd_num k g A c l at_ bad x1 p1 b1 w0 _ (by repeat (with_reducible first | exact HI.out | refine IsRd.far ?_ (by have := G0.out; omega) (by have := GL.out; omega) | apply IsRd.alloc)) HA1.out).mono ?_; rintro e w1 ⟨rfl, hi, hk⟩; have hz := rc_kp hk (b := w.heap.size) (o := .cells #[.int .i64 0, .int .i64 0, .int .i64 0, .int .i64 0, .string (⟨#[]⟩ : ByteArray)] 50 (0, 0)) (by exact blk_alloc (blk_new _ _) _) (by have := GL.out; omega); have hx := rc_kp hk (b := w.heap.size + 1) (o := .cells #[.int .i64 0, .int .i64 0, .int .i64 0, .int .i64 0, .string (⟨#[]⟩ : ByteArray)] 50 (0, 0)) (by exact rc_at (by simp)) (by have := GL.out; omega); have x1_0 := (blk_cell hx 0).trans rfl; have z1_0 := (blk_cell hz 0).trans rfl; have x1_1 := (blk_cell hx 1).trans rfl; have z1_1 := (blk_cell hz 1).trans rfl; have x1_2 := (blk_cell hx 2).trans rfl; have z1_2 := (blk_cell hz 2).trans rfl; have x1_3 := (blk_cell hx 3).trans rfl; have z1_3 := (blk_cell hz 3).trans rfl; have x1_4 := (blk_cell hx 4).trans rfl; have z1_4 := (blk_cell hz 4).trans rfl; have hf1 := fun (i_ : Nat) => blk_frozen hx i_; have hz1 := fun (i_ : Nat) => blk_frozen hz i_; have hq1 := (blk_cell hi.blk 2).trans rfl; have hg1 := blk_frozen hi.blk 2; have HX1 := Aside0.mk hx; have HZ1 := Aside0.mk hz; have HI1 := Aside0.mk hi; have HK1 : Aside0 (KeepBut w w1 g none) := ⟨KeepBut.trans (keep_alloc (keep_alloc (KeepBut.refl _ _ _) _) _) hk (.inl rfl)⟩; clear hi hk hz hx) | (go_at_call 123; with_reducible refine (rd_num k g A c l p1 b1 x2 p2 true w0 _ (by repeat (with_reducible first | exact HI1.out | refine IsRd.far ?_ (by have := G0.out; omega) (by have := GL.out; omega) | apply IsRd.alloc)) HA2.out).mono ?_; rintro e w2 ⟨rfl, hi, hk⟩; have hz := rc_kp hk (b := w.heap.size) (o := .cells #[.int .i64 0, .int .i64 0, .int .i64 0, .int .i64 0, .string (⟨#[]⟩ : ByteArray)] 50 (0, 0)) (by exact rc_fr HZ1.out (by omega) _) (by have := GL.out; omega); have hx := rc_kp hk (b := w.heap.size + 1) (o := .cells #[.int .i64 x1, .int .i64 0, .int .i64 0, .int .i64 0, .string (⟨#[]⟩ : ByteArray)] 50 (0, 0)) (by exact (blk_set HX1.out 0 _).trans rfl) (by have := GL.out; omega); have x2_0 := (blk_cell hx 0).trans rfl; have z2_0 := (blk_cell hz 0).trans rfl; have x2_1 := (blk_cell hx 1).trans rfl; have z2_1 := (blk_cell hz 1).trans rfl; have x2_2 := (blk_cell hx 2).trans rfl; have z2_2 := (blk_cell hz 2).trans rfl; have x2_3 := (blk_cell hx 3).trans rfl; have z2_3 := (blk_cell hz 3).trans rfl; have x2_4 := (blk_cell hx 4).trans rfl; have z2_4 := (blk_cell hz 4).trans rfl; have hf2 := fun (i_ : Nat) => blk_frozen hx i_; have hz2 := fun (i_ : Nat) => blk_frozen hz i_; have hq2 := (blk_cell hi.blk 2).trans rfl; have hg2 := blk_frozen hi.blk 2; have HX2 := Aside0.mk hx; have HZ2 := Aside0.mk hz; have HI2 := Aside0.mk hi; have HK2 : Aside0 (KeepBut w w2 g none) := ⟨KeepBut.trans (keep_fr HK1.out (by omega) _) hk (.inl rfl)⟩; clear hi hk hz hx))
          refine bodyPost_ret (results_cell_row rfl _ _ w.heap.size 50 #[.int .i64 0, .int .i64 0, .int .i64 0, .int .i64 0, .string (⟨#[]⟩ : ByteArray)] (0, 0) _ rfl (by (with_reducible repeat (first | refine blk_drewN ?_ _ | refine blk_alloc ?_ _)); with_reducible refine rc_set5 ?_; repeat (with_reducible first | exact HZ2.out | refine rc_fr ?_ (by first | omega | (have := GL.out; omega)) _ | refine blk_drewN ?_ _ | refine blk_alloc ?_ _)) hu rfl (by kernel_rfl)) rfl ?_; exact ⟨by first | rfl | (simp; done) | (simp [*]; done), by repeat (with_reducible first | exact HI2.out | refine IsRd.set2 (bad := true) ?_ _ | refine IsRd.far ?_ (by have := G0.out; omega) (by have := GL.out; omega) | apply IsRd.alloc), by repeat (with_reducible first | exact HK2.out | apply KeepBut.set_ | refine keep_fr ?_ (by omega) _)⟩


/-! ### impl_reader_done: function 125 -/
set_option maxHeartbeats 2000000 in
set_option maxRecDepth 100000 in
theorem rd_done (g : Nat) (A : Option Addr) (c : Nat) (l : List Int) (at_ : Int) (bad : Bool) (w0 w : World) (hI : IsRd w0 w g A c l at_ bad) :
    Calls Try.prog 125 #[.pointer (some ⟨g, 0, none⟩)] w fun e w' => e = .returned (.bool (if bad = true then false else decide (at_ = (l.length : Int)))) ∧ IsRd w0 w' g A c l at_ bad ∧ KeepBut w w' g none := by
  have hc0 : w.cell? ⟨g, 0, none⟩ = some (.slice A l.length c) := (blk_cell hI.blk 0).trans rfl
  have hc1 : w.cell? ⟨g, 1, none⟩ = some (.int .i64 at_) := (blk_cell hI.blk 1).trans rfl
  have hc2 : w.cell? ⟨g, 2, none⟩ = some (.bool bad) := (blk_cell hI.blk 2).trans rfl
  have HI := Aside0.mk hI
  clear hI
  cases bad
  · by_cases e : at_ = (l.length : Int)
    · have e1 : (at_ == (l.length : Int)) = true := beq_iff_eq.2 e
      have e2 : decide (at_ = (l.length : Int)) = true := decide_eq_true e
      clear e
      go_enter Try.func125, Try.ntmps125
      go_wp2
      go_quiet (fail)
      go_wp2
      go_ret
      exact ⟨by first | rfl | (simp; done) | (simp [*]; done), HI.out.drewN _, keep_drewN (KeepBut.refl _ _ _) _⟩
    · have e1 : (at_ == (l.length : Int)) = false := beq_eq_false_iff_ne.2 e
      have e2 : decide (at_ = (l.length : Int)) = false := decide_eq_false e
      clear e
      go_enter Try.func125, Try.ntmps125
      go_wp2
      go_quiet (fail)
      go_wp2
      go_ret
      exact ⟨by first | rfl | (simp; done) | (simp [*]; done), HI.out.drewN _, keep_drewN (KeepBut.refl _ _ _) _⟩
  · go_enter Try.func125, Try.ntmps125
    go_wp2
    go_quiet (fail)
    go_wp2
    go_ret
    exact ⟨by first | rfl | (simp; done) | (simp [*]; done), HI.out.drewN _, keep_drewN (KeepBut.refl _ _ _) _⟩


end Go.Proofs.Ytkfoojknjmgjdaa.QFnExactRecRead
