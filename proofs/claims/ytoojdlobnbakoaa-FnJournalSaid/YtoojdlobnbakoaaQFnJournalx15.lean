-- A walk, by a program of this session.
import Derived.Test.YtoojdlobnbakoaaQFnJournalx12
namespace Go.Proofs.Ytoojdlobnbakoaa.QFnJournal
open Go.RowKit Go.Proofs.YtoojdlobnbakoaaW.PrintWords Go.Proofs.YtoojdlobnbakoaaW.PrintLast Go.Proofs.YtoojdlobnbakoaaW.PrintMore
attribute [local go_sem] max2_int min2_int max_two min_two max_three min_three max_four min_four   -- for this text's walks alone
set_option linter.unusedVariables false
set_option linter.unusedSimpArgs false

theorem u15_0 {p : Prop} (h : p := by simp only [Nat.min_def]; split <;> omega) : p := h
theorem u15_1 {p : Prop} (h : p := by intro u hu; simp at hu; rcases hu with rfl | rfl | rfl <;> rfl) : p := h
theorem u15_2 {p : Prop} (h : p := by refine blk_put (cs := #[.int .i64 aD, .slice none 0 0]) ?_ 1 _ rfl; refine blk_put (cs := #[.int .i64 0, .slice none 0 0]) ?_ 0 _ rfl; exact blk_far bP.out n21 _) : p := h
theorem u15_3 {p : Prop} (h : p := by rw [← HL.out]; exact Kd.R_lower (Kd.R_set (Kd.R_set (Kd.R_set cQ.out HU2.out (by decide) 1 _) (blk_far bP.out n21 _) (by decide) 0 _) (blk_put (blk_far bP.out n21 _) 0 _ rfl) (by decide) 1 _) (Nat.le_add_right _ 3)) : p := h
/-! ### impl_placed: function 143 -/
set_option maxHeartbeats 4000000 in
set_option maxRecDepth 100000 in
theorem insert_shift (g n c i vb : Nat) (cur vs : Array Value) (w : World) (hi : i < n) (hroom : n + 1 ≤ c) (hc : c ≤ 9223372036854775807) (hvb : vb ≠ g)
    (hg : w.heap[g]? = some (.cells cur 95 (0, 0))) (hcs : cur.size = c * 3) (hv : w.heap[vb]? = some (.cells vs 95 (0, 0))) (hvl : vs.size = 3)
    (h1c : ∀ u ∈ cur.toList.take (n * 3), u.oneCell' = true) (h1v : ∀ u ∈ vs.toList, u.oneCell' = true) :
    Calls Try.prog 177 #[.slice (some ⟨g, 0, none⟩) n c, .int .i64 i, .slice (some ⟨vb, 0, none⟩) 1 1] w fun e w' => e = .returned (.slice (some ⟨g, 0, none⟩) (n + 1) c) ∧ w' = (w.drew.setCells g ((i + 1) * 3) ((cur.toList.take (n * 3)).drop (i * 3))).setCells g (i * 3) vs.toList := by
  have u1 := Try.underlying24; have hsz : (Try.prog.info? 95).map (·.size) = some 3 := by kernel_rfl
  have hz9 : ∀ w, (Go.sizeOf 95).run Try.prog w = .ok 3 w := by
    intro w; obtain ⟨i0, hi0, h0, h1, h2⟩ := info_parts info95
    simp [sizeOf, typeInfo, hi0, h1]
  have hz2 : ¬ ((i : Int) = (n : Int)) := by omega
  have hsa : w.shape? vb = some (95, vs.size) := by simp [World.shape?, hv]
  have hsb : w.shape? g = some (95, cur.size) := by simp [World.shape?, hg]
  have hov : ∀ o lb cb, (callFunc 189 #[.slice (some ⟨vb, 0, none⟩) 1 1, .slice (some ⟨g, o, none⟩) lb cb]).run Try.prog w = .ok (.value (.bool false)) w := fun o lb cb => by
    rw [run_callFunc_extern Try.func189 (by kernel_rfl) (by kernel_rfl) (by kernel_rfl) (e := Extern.SlicesOverlaps.overlaps #[24, 24] #[4]) (by kernel_rfl),
      Lib.run_overlaps_apart w 24 4 95 Try.underlying24 3 hz9 ⟨vb, 0, none⟩ ⟨g, o, none⟩ 1 1 lb cb hvb 95 95 vs.size cur.size hsa hsb (by omega) (blk_frozen hv _) (blk_frozen hv _)]
    rfl
  have hE : ∀ k, k < c * 3 → (w.cell? ⟨g, k, none⟩).isSome = true := fun k hk => by rw [blk_cell hg, Array.getElem?_eq_getElem (by omega)]; rfl
  have hdl : ((cur.toList.take (n * 3)).drop (i * 3)).length = (n - i) * 3 := by rw [List.length_drop, List.length_take, Array.length_toList]; omega
  obtain ⟨D, hD⟩ : ∃ D, D = (cur.toList.take (n * 3)).drop (i * 3) := ⟨_, rfl⟩; rw [← hD] at hdl ⊢; have h1D : ∀ u ∈ D, u.oneCell' = true := fun u hu => h1c u (by rw [hD] at hu; exact List.mem_of_mem_drop hu)
  have hDc : ∀ (j : Nat) (v : Value), D[j]? = some v → w.cell? ⟨g, i * 3 + j, none⟩ = some v := fun j v hj => by
    rw [hD, List.getElem?_drop, List.getElem?_take] at hj; rw [blk_cell hg]
    split at hj
    · simpa using hj
    · cases hj
  have hcp1 : ∀ ty dc sc, (Builtin.copy_ #[24, 24] ty #[.slice (some ⟨g, (i + 1) * 3, none⟩) (n - i) dc, .slice (some ⟨g, i * 3, none⟩) (n + 1 - i) sc]).run Try.prog w.drew = .ok (goInt ((n - i : Nat) : Int)) (w.drew.setCells g ((i + 1) * 3) D) := fun ty dc sc =>
    x_copy w.drew _ _ ty 95 3 g ((i + 1) * 3) (n - i) dc ⟨g, i * 3, none⟩ (n + 1 - i) sc D u1 hsz (n - i) u15_0 hdl
      (fun j v hj => by rw [add_at]; exact hDc j v hj) (fun j hj => hE _ (by omega)) (fun j hj => blk_frozen hg _) h1D
  obtain ⟨W1, hW1⟩ : ∃ W1, W1 = w.drew.setCells g ((i + 1) * 3) D := ⟨_, rfl⟩; obtain ⟨c1, bM, hc1s, hc1l⟩ := setCells_row D ((i + 1) * 3) w.drew cur hg (by omega); rw [← hW1] at bM hcp1 ⊢; have hvW : W1.heap[vb]? = some (.cells vs 95 (0, 0)) := by rw [hW1, setCells_far D _ vb hvb]; exact hv
  have hcp2 : ∀ ty dc, (Builtin.copy_ #[24, 24] ty #[.slice (some ⟨g, i * 3, none⟩) (n + 1 - i) dc, .slice (some ⟨vb, 0, none⟩) 1 1]).run Try.prog W1 = .ok (goInt ((1 : Nat) : Int)) (W1.setCells g (i * 3) vs.toList) := fun ty dc =>
    x_copy W1 _ _ ty 95 3 g (i * 3) (n + 1 - i) dc ⟨vb, 0, none⟩ 1 1 vs.toList u1 hsz 1 u15_0 (by simp [hvl])
      (fun j v hj => by rw [add_at, Nat.zero_add, blk_cell hvW]; simpa using hj) (fun j hj => by rw [blk_cell bM, Array.getElem?_eq_getElem (by rw [Array.length_toList] at hj; omega)]; rfl) (fun j hj => blk_frozen bM _) h1v
  have iQ : IntKind.i64.wrap ((i : Int) + 1) = (i : Int) + 1 := by rw [IntKind.wrap_i64]; omega
  have iR : (0 : Int) ≤ (i : Int) + 1 := by omega
  have hin : i ≤ n := by omega
  have htn : ((i : Int) + 1).toNat = i + 1 := by omega
  have iS : ¬ (c = i + 1) := by omega
  have iU : (i : Int) ≤ (n : Int) + 1 := by omega
  have iV : ¬ (c = i) := by omega
  obtain ⟨i0, hi0, h0_, h1_, h2_⟩ := info_parts info95; have HW := Aside0.mk hW1; clear bM hc1s hc1l hvW hE hDc hg hv hsa hsb hcs hvl h1c h1v h1D hD hdl hW1; go_enter Try.func177, Try.ntmps177
  go_wp2_with (simp only [hov])

  go_region_law (refine x_step_copy rfl _ _ 24 24 rfl _ _ (by simp [Act.eval, Act.put]) (by simp [Act.eval, Act.put]) (hcp1 _ _ _) ?_)
  go_wp2_with (at_builtin; refine x_wpList_copy _ rfl _ _ 24 24 rfl _ _ rfl rfl (hcp2 _ _) ?_)
  go_ret
  first | exact ⟨rfl, rfl⟩ | exact ⟨rfl, by rw [HW.out]⟩
def InsPost (g n : Nat) (cells : List Value) (w : World) (e : Ending) (w' : World) : Prop :=
  ∃ (G : Nat) (c2 : Array Value), e = .returned (.slice (some ⟨g, 0, none⟩) n G) ∧ n ≤ G ∧ G ≤ maxLen ∧ w'.heap[g]? = some (.cells c2 95 (0, 0)) ∧ c2.size = G * 3 ∧ c2.toList.take (n * 3) = cells ∧ w.grownBy w' (some g)
set_option maxHeartbeats 4000000 in
set_option maxRecDepth 100000 in
theorem insert_grow (g n i vb : Nat) (cur vs : Array Value) (w : World) (hi : i < n) (hn : n ≤ 1000)
    (hg : w.heap[g]? = some (.cells cur 95 (0, 0))) (hcs : cur.size = n * 3) (hv : w.heap[vb]? = some (.cells vs 95 (0, 0))) (hvl : vs.size = 3)
    (h1c : ∀ u ∈ cur.toList.take (n * 3), u.oneCell' = true) (h1v : ∀ u ∈ vs.toList, u.oneCell' = true) :
    Calls Try.prog 177 #[.slice (some ⟨g, 0, none⟩) n n, .int .i64 i, .slice (some ⟨vb, 0, none⟩) 1 1] w (InsPost w.heap.size (n + 1) (cur.toList.take (i * 3) ++ vs.toList ++ (cur.toList.take (n * 3)).drop (i * 3)) w) := by
  have u1 := Try.underlying24; have u3 := Try.underlying3; have hsz : (Try.prog.info? 95).map (·.size) = some 3 := by kernel_rfl
  obtain ⟨i0, hi0, hz0, hzs, hzb⟩ := info_parts info95; have hz2 : ¬ ((i : Int) = (n : Int)) := by omega
  have hbw : g < w.heap.size := blk_lt hg; have hvw : vb < w.heap.size := blk_lt hv; have hdl : ((cur.toList.take (n * 3)).drop (i * 3)).length = (n - i) * 3 := by rw [List.length_drop, List.length_take, Array.length_toList]; omega
  obtain ⟨D, hD⟩ : ∃ D, D = (cur.toList.take (n * 3)).drop (i * 3) := ⟨_, rfl⟩; have h1D : ∀ u ∈ D, u.oneCell' = true := fun u hu => h1c u (by rw [hD] at hu; exact List.mem_of_mem_drop hu)
  have hDc : ∀ (W : World), W.heap[g]? = some (.cells cur 95 (0, 0)) → ∀ (j : Nat) (v : Value), D[j]? = some v → W.cell? ⟨g, i * 3 + j, none⟩ = some v := fun W hW j v hj => by
    rw [hD, List.getElem?_drop, List.getElem?_take] at hj; rw [blk_cell hW]
    split at hj
    · simpa using hj
    · cases hj
  rw [← hD] at hdl ⊢; have hold : (Builtin.firstCells i0.size i (.slice (some ⟨g, 0, none⟩) i n)).run Try.prog w.drew = .ok (cur.toList.take (i * 3)).toArray w.drew := by
    rw [hzs]; exact run_firstCells_some w.drew 3 i ⟨g, 0, none⟩ i n (cur.toList.take (i * 3)) (by rw [List.length_take, Array.length_toList]; omega) (fun j v hj => by
      rw [add_at, Nat.zero_add]; rw [List.getElem?_take] at hj
      split at hj
      · show w.drew.cell? _ = _
        rw [blk_cell (blk_drew hg)]
        simpa using hj
      · cases hj)
  have hik : i + (n + 1 - i) = n + 1 := by omega
  have hkk : (n : Int) + 1 - (i : Int) = ((n + 1 - i : Nat) : Int) := by omega
  obtain ⟨G, hG⟩ : ∃ G, G = grownCap w (n + 1) n 95 := ⟨_, rfl⟩; have hGn : n + 1 ≤ G := by rw [hG]; exact grownCap_ge w _ _ _
  have hGm : G ≤ maxLen := by rw [hG]; exact grownCap_le_maxLen w (n + 1) n 95 (by unfold maxLen; omega)
  obtain ⟨ROW, hROW⟩ : ∃ ROW : Array Value, ROW = (cur.toList.take (i * 3)).toArray ++ Builtin.zeroCells (Value.agg #[(.int .i64 0), (.string ⟨#[]⟩), (.string ⟨#[]⟩)]).cells (n + 1 - i) ++ Builtin.zeroCells (Value.agg #[(.int .i64 0), (.string ⟨#[]⟩), (.string ⟨#[]⟩)]).cells (G - (n + 1)) := ⟨_, rfl⟩; have hRl : ROW.size = G * 3 := by
    have e : ∀ m, (Builtin.zeroCells (Value.agg #[(.int .i64 0), (.string ⟨#[]⟩), (.string ⟨#[]⟩)]).cells m).size = m * 3 := fun m => size_zeroCells _ _
    rw [hROW]; simp only [Array.size_append, e, List.size_toArray, List.length_take, Array.length_toList]; omega
  have hRt : ROW.toList.take (i * 3) = cur.toList.take (i * 3) := by
    rw [hROW]; simp only [Array.toList_append, List.append_assoc]; exact List.take_left' (by rw [List.length_take, Array.length_toList]; omega)
  obtain ⟨W1, hW1⟩ : ∃ W1, W1 = w.drew.alloc (.cells ROW 95) := ⟨_, rfl⟩; have hrz : ∀ ty, (Builtin.append_ #[24, 3] ty #[.slice (some ⟨g, 0, none⟩) i n, .int .i64 ((n : Int) + 1 - (i : Int))]).run Try.prog w = .ok (.slice (some ⟨w.heap.size, 0, none⟩) (n + 1) G) W1 := fun ty => by
    have h := Lib.run_append_grow_zeros w 24 3 ty 95 i0 _ .i64 .i64 u1 u3 hi0 hz0 (some ⟨g, 0, none⟩) i n (cur.toList.take (i * 3)) hold (n + 1 - i) (by omega) (by omega) (by omega) (by omega) (by rw [hzb]; omega) (by rw [hzb, hik]; exact growslice_fits (by omega) (by omega)); rw [hik] at h; rw [hkk, hW1, hROW, hG]; exact h
  have hN : W1.heap[w.heap.size]? = some (.cells ROW 95 (0, 0)) := by rw [hW1]; exact heap_alloc_new w.drew _
  have hg1 : W1.heap[g]? = some (.cells cur 95 (0, 0)) := by rw [hW1]; exact blk_alloc (blk_drew hg) _
  have hv1 : W1.heap[vb]? = some (.cells vs 95 (0, 0)) := by rw [hW1]; exact blk_alloc (blk_drew hv) _
  have hgr1 : w.grownBy W1 none := by rw [hW1]; exact ⟨rfl, rfl, rfl, by simp, fun k hk _ => heap_alloc_old w.drew _ hk⟩
  have hcpA : ∀ ty dc, (Builtin.copy_ #[24, 24] ty #[.slice (some ⟨w.heap.size, i * 3, none⟩) (n + 1 - i) dc, .slice (some ⟨vb, 0, none⟩) 1 1]).run Try.prog W1 = .ok (goInt ((1 : Nat) : Int)) (W1.setCells w.heap.size (i * 3) vs.toList) := fun ty dc =>
    x_copy W1 _ _ ty 95 3 w.heap.size (i * 3) (n + 1 - i) dc ⟨vb, 0, none⟩ 1 1 vs.toList u1 hsz 1 u15_0 (by simp [hvl])
      (fun j v hj => by rw [add_at, Nat.zero_add, blk_cell hv1]; simpa using hj) (fun j hj => by rw [blk_cell hN, Array.getElem?_eq_getElem (by rw [Array.length_toList] at hj; omega)]; rfl) (fun j hj => blk_frozen hN _) h1v
  obtain ⟨c1, bM, hc1s, hc1l⟩ := setCells_row vs.toList (i * 3) W1 ROW hN (by rw [Array.length_toList]; omega); obtain ⟨W2, hW2⟩ : ∃ W2, W2 = W1.setCells w.heap.size (i * 3) vs.toList := ⟨_, rfl⟩; rw [← hW2] at bM hcpA; have hgr2 : w.grownBy W2 none := by rw [hW2]; exact x_grown_cells _ _ hgr1 (fun k hk _ => by omega)
  have hg2 : W2.heap[g]? = some (.cells cur 95 (0, 0)) := by rw [hW2, setCells_far vs.toList _ g (by omega)]; exact hg1
  have hcpB : ∀ ty dc sc, (Builtin.copy_ #[24, 24] ty #[.slice (some ⟨w.heap.size, (i + 1) * 3, none⟩) (n - i) dc, .slice (some ⟨g, i * 3, none⟩) (n - i) sc]).run Try.prog W2.drew = .ok (goInt ((n - i : Nat) : Int)) (W2.drew.setCells w.heap.size ((i + 1) * 3) D) := fun ty dc sc =>
    x_copy W2.drew _ _ ty 95 3 w.heap.size ((i + 1) * 3) (n - i) dc ⟨g, i * 3, none⟩ (n - i) sc D u1 hsz (n - i) u15_0 hdl
      (fun j v hj => by rw [add_at]; exact hDc _ (blk_drew hg2) j v hj) (fun j hj => by rw [blk_cell (blk_drew bM), Array.getElem?_eq_getElem (by omega)]; rfl) (fun j hj => blk_frozen (blk_drew bM) _) h1D
  obtain ⟨c2, cL, hc2s, hc2l⟩ := setCells_row D ((i + 1) * 3) W2.drew c1 (blk_drew bM) (by omega); obtain ⟨W3, hW3⟩ : ∃ W3, W3 = W2.drew.setCells w.heap.size ((i + 1) * 3) D := ⟨_, rfl⟩; rw [← hW3] at cL hcpB; have hgr3 : w.grownBy W3 none := by rw [hW3]; exact x_grown_cells _ _ ⟨hgr2.os, hgr2.tape, hgr2.output, hgr2.size, hgr2.block⟩ (fun k hk _ => by omega)
  have hfin : c2.toList.take ((n + 1) * 3) = cur.toList.take (i * 3) ++ vs.toList ++ D := by
    have h := x_row_b (cur := ROW.toList) (c1 := c1.toList) (c2 := c2.toList) (o := i * 3) (s := 3) (m := (n - i) * 3) (V := vs.toList) (D := D) (by rw [Array.length_toList]; exact hvl) hdl (by rw [Array.length_toList]; omega) hc1l (by rw [show (i + 1) * 3 = i * 3 + 3 by omega] at hc2l; exact hc2l); rw [hRt] at h; rw [show (n + 1) * 3 = i * 3 + 3 + (n - i) * 3 by omega]; exact h
  have POST := Aside0.mk (show InsPost w.heap.size (n + 1) (cur.toList.take (i * 3) ++ vs.toList ++ D) w (.returned (.slice (some ⟨w.heap.size, 0, none⟩) (n + 1) G)) W3 from ⟨G, c2, rfl, hGn, hGm, cL, by omega, hfin, ⟨hgr3.os, hgr3.tape, hgr3.output, hgr3.size, fun k hk _ => hgr3.block k hk (by simp)⟩⟩); have iQ : IntKind.i64.wrap ((i : Int) + 1) = (i : Int) + 1 := by rw [IntKind.wrap_i64]; omega
  have iR : (0 : Int) ≤ (i : Int) + 1 := by omega
  have hin : i ≤ n := by omega
  have htn : ((i : Int) + 1).toNat = i + 1 := by omega
  have iS : ¬ (G = i + 1) := by omega
  have iU : (i : Int) ≤ (n : Int) + 1 := by omega
  have iV : ¬ (G = i) := by omega
  have jX : ¬ (n = i) := by omega
  have hz3 : (n : Int) < (n : Int) + 1 := by omega
  have hG63 : G ≤ 9223372036854775807 := by unfold maxLen at hGm; exact hGm
  clear bM hc1s hc1l cL hc2s hc2l hN hg1 hg2 hv1 hDc hg hv hcs hvl h1c h1v h1D hD hdl hW1 hW2 hW3 hgr1 hgr2 hgr3 hfin hROW hRl hRt hG hold hik hkk hGm hz0 hzs hzb hi0 i0; go_enter Try.func177, Try.ntmps177
  go_wp2_with (first
    | (at_builtin; refine Lib.wpList_append_run _ rfl _ _ _ _ rfl _ _ rfl rfl _ _ (hrz _) ?_)
    | (at_builtin; refine x_wpList_copy _ rfl _ _ 24 24 rfl _ _ rfl rfl (hcpA _ _) ?_))
  go_region_law (refine x_step_copy rfl _ _ 24 24 rfl _ _ (by simp [Act.eval, Act.put]) (by simp [Act.eval, Act.put]) (hcpB _ _ _) ?_)
  go_wp2; go_ret
  exact POST.out
def InsR (base : Nat) (l : List S95) (w : World) (row : Option Nat) (e : Ending) (w' : World) : Prop :=
  ∃ v1 : Value, e = .returned v1 ∧ Kd.R k95 95 w' base (fun _ => True) v1 l ∧ w.grownBy w' row
theorem R_of_cells {w : World} {base : Nat} {v : Value} {l : List S95} {cs : List Value} (ho : w.ownsRow base 95 3 v l.length cs)
    (hr : Reps (fun (x : S95) (c : List Value) => c = [.int .i64 x.f0, .string x.f1, .string x.f2]) 3 l cs) : Kd.R k95 95 w base (fun _ => True) v l :=
  ⟨fun _ _ => trivial, cs, ho, hr.imp_ (fun p c hc => by rw [hc]; exact k95_mkM _ _ _ p)⟩
set_option maxHeartbeats 4000000 in
set_option maxRecDepth 100000 in
theorem insert_end (base : Nat) (v : Value) (l : List S95) (x : S95) (inner : List Value) (vb : Nat) (w : World) (ho : w.ownsRow base 95 3 v l.length inner)
    (hr : Reps (fun (x : S95) (c : List Value) => c = [.int .i64 x.f0, .string x.f1, .string x.f2]) 3 l inner) (hl : l.length ≤ 1000) (hbase : base ≤ w.heap.size)
    (hv : w.heap[vb]? = some (.cells #[.int .i64 x.f0, .string x.f1, .string x.f2] 95 (0, 0))) :
    Calls Try.prog 177 #[v, .int .i64 l.length, .slice (some ⟨vb, 0, none⟩) 1 1] w (InsR base (l ++ [x]) w v.ownBlock) := by
  have u1 := Try.underlying24; obtain ⟨i0, hi0, hz0, hzs, hzb⟩ := info_parts info95; obtain ⟨A, c, rfl⟩ := own_slice ho; have HO := Aside0.mk ho; have HR := Aside0.mk hr; have hnews : ∀ (j : Nat) (u : Value), ([.int .i64 x.f0, .string x.f1, .string x.f2] : List Value)[j]? = some u → w.cell? ((⟨vb, 0, none⟩ : Addr).add j) = some u := fun j u hj => by
    rw [add_at, Nat.zero_add, blk_cell hv]
    simpa using hj
  have HN := Aside0.mk hnews; have hlen : l.length ≤ c := own_le ho; clear ho hr hnews hv; go_enter Try.func177, Try.ntmps177
  go_wp2_with (at_builtin; refine wpList_append_own_at _ rfl _ _ 24 rfl base 95 i0 _ 3 40 u1 hi0 hz0 hzs hzb rfl (by decide) _ l.length inner rfl HO.out ⟨vb, 0, none⟩ 1 1 [.int .i64 x.f0, .string x.f1, .string x.f2] rfl rfl HN.out u15_1 (by unfold maxLen; omega) (by omega) hbase ?_; intro v1 w1 hown hg _ hat; have HV := Aside0.mk hown; have HG := Aside0.mk (show w.grownBy w1 (Value.slice A _ _).ownBlock from hg); clear hown hg hat)
  all_goals
    go_ret
    exact ⟨v1, rfl, R_of_cells (by simpa using HV.out) (HR.out.snoc rfl rfl), by first | exact HG.out | (cases A <;> exact HG.out)⟩
theorem insert_any (base : Nat) (v : Value) (l : List S95) (i : Nat) (x : S95) (vb : Nat) (w : World) (hR : Kd.R k95 95 w base (fun _ => True) v l) (hi : i ≤ l.length) (hl : l.length ≤ 1000) (hbase : base ≤ w.heap.size)
    (hv : w.heap[vb]? = some (.cells #[.int .i64 x.f0, .string x.f1, .string x.f2] 95 (0, 0))) (hne : some vb ≠ v.ownBlock) :
    Calls Try.prog 177 #[v, .int .i64 i, .slice (some ⟨vb, 0, none⟩) 1 1] w (InsR base (l.take i ++ [x] ++ l.drop i) w v.ownBlock) := by
  obtain ⟨h0, inner, ho, iW⟩ := hR; have hr : Reps (fun (x : S95) (c : List Value) => c = [.int .i64 x.f0, .string x.f1, .string x.f2]) 3 l inner := iW.imp_ (fun p c hc => k95_openM hc); have ho : w.ownsRow base 95 3 v l.length inner := ho; by_cases hin : i = l.length
  · subst hin; rw [List.take_length, List.drop_length, List.append_nil]; exact insert_end base v l x inner vb w ho hr hl hbase hv
  have hin : i < l.length := by omega
  have hone : ∀ u ∈ inner, u.oneCell' = true := Kd.reps_one hr (by decide) (fun p c hc u hu => by rw [hc] at hu; simp at hu; rcases hu with rfl | rfl | rfl <;> rfl); have hrn : Reps (fun (x : S95) (c : List Value) => c = [.int .i64 x.f0, .string x.f1, .string x.f2]) 3 (l.take i ++ [x] ++ l.drop i) (inner.take (i * 3) ++ [.int .i64 x.f0, .string x.f1, .string x.f2] ++ inner.drop (i * 3)) :=
    Kd.reps_append ((Kd.reps_take hr hi).snoc rfl rfl) (Kd.reps_drop hr)
  have hln : (l.take i ++ [x] ++ l.drop i).length = l.length + 1 := by simp; omega
  rcases ho.2 with ⟨rfl, hn0⟩ | ⟨g, cap, cur, rfl, hbg, hg, hnc, hcm, hcs, htake⟩
  · omega
  have hvg : vb ≠ g := fun e => hne (by rw [e]; rfl)
  by_cases hroom : l.length + 1 ≤ cap
  · refine (insert_shift g l.length cap i vb cur #[.int .i64 x.f0, .string x.f1, .string x.f2] w hin hroom (by unfold maxLen at hcm; exact hcm) hvg hg hcs hv rfl (by rw [htake]; exact hone) u15_1).mono ?_; rintro e w' ⟨rfl, rfl⟩; rw [htake]; have hdl : (inner.drop (i * 3)).length = (l.length - i) * 3 := by rw [List.length_drop, ho.1]; omega
    obtain ⟨c1, bM, hc1s, hc1l⟩ := setCells_row (inner.drop (i * 3)) ((i + 1) * 3) w.drew cur (blk_drew hg) (by rw [hdl]; omega); obtain ⟨c2, cL, hc2s, hc2l⟩ := setCells_row [.int .i64 x.f0, .string x.f1, .string x.f2] (i * 3) _ c1 bM (by simp; omega); have h := x_row_a (cur := cur.toList) (c1 := c1.toList) (c2 := c2.toList) (o := i * 3) (s := 3) (m := (l.length - i) * 3) (V := [.int .i64 x.f0, .string x.f1, .string x.f2]) (D := inner.drop (i * 3)) rfl hdl (by have := Array.length_toList (xs := cur); omega) (by rw [show (i + 1) * 3 = i * 3 + 3 by omega] at hc1l; exact hc1l) hc2l; have hti : cur.toList.take (i * 3) = inner.take (i * 3) := by rw [← htake, List.take_take, Nat.min_eq_left (by omega)]
    rw [hti] at h; refine ⟨_, rfl, R_of_cells (cs := inner.take (i * 3) ++ [.int .i64 x.f0, .string x.f1, .string x.f2] ++ inner.drop (i * 3)) ?_ hrn, ?_⟩
    · rw [hln]; refine ⟨by rw [hrn.1, hln], .inr ⟨g, cap, c2, rfl, hbg, cL, hroom, hcm, by omega, ?_⟩⟩; rw [← h]
      congr 1
      omega
    · have hg0 : w.grownBy w.drew (some g) := ⟨rfl, rfl, rfl, Nat.le_refl _, fun _ _ _ => rfl⟩; exact x_grown_cells _ _ (x_grown_cells _ _ hg0 (fun k _ hk => fun e => hk (congrArg some e))) (fun k _ hk => fun e => hk (congrArg some e))
  · obtain rfl : cap = l.length := by omega
    refine (insert_grow g l.length i vb cur #[.int .i64 x.f0, .string x.f1, .string x.f2] w hin hl hg hcs hv rfl (by rw [htake]; exact hone) u15_1).mono ?_; rintro e w' ⟨G, c2, rfl, hG, hGm, cL, hc2s, hc2l, hgr⟩; rw [htake] at hc2l; have hti : cur.toList.take (i * 3) = inner.take (i * 3) := by rw [← htake, List.take_take, Nat.min_eq_left (by omega)]
    rw [hti] at hc2l; refine ⟨_, rfl, R_of_cells (cs := inner.take (i * 3) ++ [.int .i64 x.f0, .string x.f1, .string x.f2] ++ inner.drop (i * 3)) ?_ hrn, ?_⟩
    · rw [hln]; exact ⟨by rw [hrn.1, hln], .inr ⟨w.heap.size, G, c2, rfl, hbase, cL, hG, hGm, hc2s, hc2l⟩⟩
    · exact ⟨hgr.os, hgr.tape, hgr.output, hgr.size, fun k hk _ => hgr.block k hk (by simp; omega)⟩
def placeIdx (l : List S95) (a : Int) : Nat := (l.takeWhile (fun x => decide (x.f0 < a))).length
theorem placeIdx_le (l : List S95) (a : Int) : placeIdx l a ≤ l.length := (List.takeWhile_sublist _).length_le
theorem all_takeWhile {α : Type} (p : α → Bool) : ∀ (l : List α) (x : α), x ∈ l.takeWhile p → p x = true
  | [], x, h => by simp at h
  | y :: t, x, h => by
    cases hp : p y
    · simp [List.takeWhile, hp] at h
    · simp only [List.takeWhile, hp, List.mem_cons] at h; rcases h with rfl | h
      · exact hp
      · exact all_takeWhile p t x h
theorem placeIdx_lt (l : List S95) (a : Int) (i : Nat) (h : i < placeIdx l a) : (rd_T95 l i).f0 < a := by
  have hl : i < l.length := Nat.lt_of_lt_of_le h (placeIdx_le l a); have h1 : (l.takeWhile (fun x => decide (x.f0 < a)))[i]? = l[i]? := by
    have := List.takeWhile_prefix (l := l) (fun x => decide (x.f0 < a)); rw [List.getElem?_eq_getElem h, List.getElem?_eq_getElem hl]
    congr 1
    exact this.getElem h
  have h2 : l[i]'hl ∈ l.takeWhile (fun x => decide (x.f0 < a)) := by
    rw [List.getElem?_eq_getElem hl] at h1; exact List.mem_of_getElem? h1
  have h3 := all_takeWhile _ l _ h2; unfold rd_T95; rw [Int.toNat_natCast, List.getD_eq_getElem?_getD, List.getElem?_eq_getElem hl]
  simpa using h3
theorem placeIdx_ge (l : List S95) (a : Int) : placeIdx l a < l.length → ¬ (rd_T95 l (placeIdx l a)).f0 < a := by
  induction l with
  | nil => intro h; simp [placeIdx] at h
  | cons x t ih =>
    intro h; by_cases hx : x.f0 < a
    · have e : placeIdx (x :: t) a = placeIdx t a + 1 := by simp [placeIdx, hx]
      rw [e] at h ⊢; have := ih (by simpa using h); unfold rd_T95 at this ⊢; rw [Int.toNat_natCast] at this ⊢
      simpa using this
    · have e : placeIdx (x :: t) a = 0 := by simp [placeIdx, hx]
      rw [e]; unfold rd_T95
      simpa using hx
def placeL (l : List S95) (x : S95) : List S95 := l.take (placeIdx l x.f0) ++ [x] ++ l.drop (placeIdx l x.f0)
def impl_placed.f (aD : Int) (aA : List S95) (aG : Int) (aQ aR : ByteArray) : Option (Int × List S95) := if aA.length ≤ 1000 then some (aD, placeL aA ⟨aG, aQ, aR⟩) else none
set_option maxHeartbeats 4000000 in
set_option maxRecDepth 100000 in
theorem impl_placed.calls (aD : Int) (aK : Option Addr) (aL : Nat) (aA : List S95) (aG : Int) (aQ : ByteArray) (aR : ByteArray) (r1 : Int) (r2 : List S95) (w : World) (aX : Kd.C k95 w aK aA.length aA) (aY : aA.length ≤ aL) (h : impl_placed.f aD aA aG aQ aR = some (r1, r2)) :
    Calls Try.prog 143 #[.agg #[.int .i64 aD, .slice aK aA.length aL], .agg #[.int .i64 aG, .string aQ, .string aR]] w fun e w' => ∃ v1_ : Value, e = .returned (.agg #[.int .i64 r1, v1_]) ∧ Kd.R k95 95 w' w.heap.size (fun _ => True) v1_ r2 ∧ Below w.heap.size w w' := by
  unfold impl_placed.f at h; have hl : aA.length ≤ 1000 := by
    by_cases hl : aA.length ≤ 1000
    · exact hl
    · rw [if_neg hl] at h; cases h
  rw [if_pos hl] at h; simp only [Option.some.injEq, Prod.mk.injEq] at h; obtain ⟨rfl, rfl⟩ := h; have hcopy : impl_copyDisk.f aD aA = some (aD, aA) := by
    unfold impl_copyDisk.f; simp only [Option.bind_some, List.length_nil, Nat.zero_add, List.nil_append]; rw [if_pos (by omega)]
  have iX := Try.underlying26; have iY := Try.underlying24; have HR := Aside0.mk aX; have HC := Aside0.mk aY; have HCP := Aside0.mk hcopy; clear aX aY hcopy; go_enter Try.func143, Try.ntmps143
  go_wp2_with fail
  go_at_call 80
  refine (impl_copyDisk.calls aD aK aL aA aD aA _ ?s1 ?s2 HCP.out).mono ?_
  case s1 => exact Kd.C_alloc (Kd.C_alloc (Kd.C_alloc HR.out _) _) _
  case s2 => exact HC.out
  rintro e w1 ⟨v1, rfl, hR, hb⟩; have h1 : w.heap.size + 3 ≤ w1.heap.size := by have := hb.size; simp at this; omega
  have hF : w1.heap[w.heap.size + 1]? = some (.cells #[.int .i64 aG, .string aQ, .string aR] 95 (0, 0)) := blk_below (by have := blk_alloc (w := (w.alloc (.cells #[.int .i64 aD, .slice aK aA.length aL] 26)).alloc (.cells #[.int .i64 aG, .string aQ, .string aR] 95)) (heap_alloc_new _ _) (.cells #[.int .i64 0, .slice none 0 0] 26); simpa using this) hb; have hO : w1.heap[w.heap.size + 2]? = some (.cells #[.int .i64 0, .slice none 0 0] 26 (0, 0)) := blk_below (by have := heap_alloc_new ((w.alloc (.cells #[.int .i64 aD, .slice aK aA.length aL] 26)).alloc (.cells #[.int .i64 aG, .string aQ, .string aR] 95)) (.cells #[.int .i64 0, .slice none 0 0] 26); simpa using this) hb; have hB : Below w.heap.size w w1 := below_step (below_alloc (below_alloc (below_alloc (Below.refl _ w) _) _) _) hb; have hR : Kd.R k95 95 w1 (w.heap.size + 3) (fun _ => True) v1 aA := by have := hR; simpa using this
  obtain ⟨A1, c1, rfl⟩ := Kd.R_slice hR; have HF := Aside0.mk hF; have HO := Aside0.mk hO; have HB := Aside0.mk hB; have aW := Aside0.mk hR; have H1 := Aside0.mk h1; clear hF hO hB hR h1 hb; go_wp2; go_loopg [6] (aA.length + 1) (fun gg s6 wr => ∃ i : Nat, s6 = .int .i64 i ∧ i ≤ placeIdx aA aG ∧ aA.length - i < gg ∧ Aside0 (Kd.R k95 95 wr (w.heap.size + 3) (fun _ => True) (.slice A1 aA.length c1) aA) ∧ Aside0 (wr.heap[w.heap.size + 1]? = some (.cells #[.int .i64 aG, .string aQ, .string aR] 95 (0, 0))) ∧ Aside0 (wr.heap[w.heap.size + 2]? = some (.cells #[.int .i64 0, .slice none 0 0] 26 (0, 0))) ∧ Aside0 (wr.heap[w1.heap.size]? = some (.cells #[.int .i64 aD, .slice A1 aA.length c1] 26 (0, 0))) ∧ Aside0 (Below w.heap.size w wr) ∧ Aside0 (w.heap.size + 3 ≤ wr.heap.size))
  case atStart => exact ⟨0, rfl, by omega, by omega, ⟨Kd.R_alloc aW.out _⟩, ⟨blk_alloc HF.out _⟩, ⟨blk_alloc HO.out _⟩, ⟨heap_alloc_new _ _⟩, ⟨below_alloc HB.out _⟩, ⟨by have := H1.out; simp; omega⟩⟩
  case round =>
    clear HF HO HB aW; obtain ⟨i, rfl, hi, hg, aW, HF, HO, HU, HB, HS⟩ := hrel; by_cases hlt : i < placeIdx aA aG
    · have hll := placeIdx_le aA aG; have hp := placeIdx_lt aA aG i hlt; obtain ⟨ad, hA, fO, _, _⟩ := at_T95 (Kd.R_reads' aW.out).2.2 (i : Int) (by omega) (by omega); have fP : wr.cell? ⟨w1.heap.size, 1, none⟩ = some (.slice A1 aA.length c1) := (blk_cell HU.out 1).trans rfl; have fQ : wr.cell? ⟨w.heap.size + 1, 0, none⟩ = some (.int .i64 aG) := (blk_cell HF.out 0).trans rfl; have hlt2 : decide ((i : Int) < (aA.length : Int)) = true := decide_eq_true (by omega); have hlt4 : i < aA.length := by omega
      have hlt3 : decide ((rd_T95 aA (i : Int)).f0 < aG) = true := decide_eq_true hp; subst hA; rw [Int.toNat_natCast] at fO; have HLT := Aside0.mk hlt; clear hp hlt hll; have HG := Aside0.mk hg; have HI := Aside0.mk hi; clear hg hi; go_wp2; go_quiet (fail)
      go_wp2; go_roundg (aA.length - i)
      case measure => have := HG.out; omega
      case rel => exact ⟨i + 1, by go_num, HLT.out, by omega, ⟨Kd.R_drewN aW.out _⟩, ⟨blk_drewN HF.out _⟩, ⟨blk_drewN HO.out _⟩, ⟨blk_drewN HU.out _⟩, ⟨pw_below_drewN HB.out _⟩, HS⟩
    · obtain rfl : i = placeIdx aA aG := by omega
      have fP : wr.cell? ⟨w1.heap.size, 1, none⟩ = some (.slice A1 aA.length c1) := (blk_cell HU.out 1).trans rfl; have fQ : wr.cell? ⟨w.heap.size + 1, 0, none⟩ = some (.int .i64 aG) := (blk_cell HF.out 0).trans rfl; have gK : wr.cell? ⟨w.heap.size + 1, 1, none⟩ = some (.string aQ) := (blk_cell HF.out 1).trans rfl; have gL : wr.cell? ⟨w.heap.size + 1, 2, none⟩ = some (.string aR) := (blk_cell HF.out 2).trans rfl; clear hi hlt; obtain ⟨p, hP⟩ : ∃ p, p = placeIdx aA aG := ⟨_, rfl⟩; have HPL := placeIdx_le aA aG; have HPG := placeIdx_ge aA aG; rw [← hP] at HPL HPG hg ⊢; by_cases hlt : p < aA.length
      · have hq := HPG hlt; obtain ⟨ad, hA, fO, _, _⟩ := at_T95 (Kd.R_reads' aW.out).2.2 (p : Int) (by omega) (by omega); subst hA; rw [Int.toNat_natCast] at fO; have hlt2 : decide ((p : Int) < (aA.length : Int)) = true := decide_eq_true (by omega); have hlt3 : decide ((rd_T95 aA (p : Int)).f0 < aG) = false := decide_eq_false hq; have HP := Aside0.mk hP; have HPL := Aside0.mk HPL; clear HPG hq hg hP; go_wp2; go_quiet (fail)
        go_wp2_with fail
        go_at_call 177
        refine (insert_any (w.heap.size + 3) (.slice (some ad) aA.length c1) aA p ⟨aG, aQ, aR⟩ wr.heap.size _ (Kd.R_alloc (Kd.R_drewN aW.out _) _) HPL.out hl (by have := HS.out; simp; omega) (heap_alloc_new (wr.drewN _) _) (fun e => by have := Kd.R_lt aW.out _ e.symm; omega)).mono ?_; rintro e w2 ⟨v2, rfl, hR2, hg2⟩; have HU2 := Aside0.mk (blk_grown (blk_alloc (blk_drewN HU.out _) _) hg2 (Kd.R_ne aW.out HU.out (by decide))); have bP := Aside0.mk (blk_grown (blk_alloc (blk_drewN HO.out _) _) hg2 (Kd.R_ne aW.out HO.out (by decide))); have HB2 := Aside0.mk (pw_below_grown (below_alloc (pw_below_drewN HB.out _) _) _ (by have := HS.out; simp; omega) hg2 (fun k hk => by have := Kd.R_base aW.out k hk; omega)); have cQ := Aside0.mk (show Kd.R k95 95 w2 (w.heap.size + 3) (fun _ => True) v2 (placeL aA ⟨aG, aQ, aR⟩) from (by unfold placeL; rw [← HP.out]; exact hR2)); have hsz : w.heap.size + 3 ≤ w2.heap.size := by have := hg2.size; have := HS.out; simp at *; omega
        clear hR2 hg2 HU HO HB aW HF fP fQ gK gL; obtain ⟨L2, hL2⟩ : ∃ L2, L2 = placeL aA ⟨aG, aQ, aR⟩ := ⟨_, rfl⟩; rw [← hL2] at cQ; have HL := Aside0.mk hL2; clear hL2; obtain ⟨A2, c2, hv2⟩ := Kd.R_slice cQ.out; subst hv2; have n12 : w1.heap.size ≠ w.heap.size + 2 := by have := H1.out; omega
        have n21 : w.heap.size + 2 ≠ w1.heap.size := n12.symm; have iZ : w2.cell? ⟨w1.heap.size, 0, none⟩ = some (.int .i64 aD) := (blk_cell HU2.out 0).trans rfl; have jA : w2.cell? ⟨w1.heap.size, 1, none⟩ = some (.slice (some ad) aA.length c1) := (blk_cell HU2.out 1).trans rfl; have jB := fun i => blk_frozen HU2.out i
        have jC : w2.cell? ⟨w.heap.size + 2, 0, none⟩ = some (.int .i64 0) := (blk_cell bP.out 0).trans rfl; have jD : w2.cell? ⟨w.heap.size + 2, 1, none⟩ = some (.slice none 0 0) := (blk_cell bP.out 1).trans rfl; have jE := fun i => blk_frozen bP.out i
        go_wp2; refine bodyPost_ret (results_cell_row rfl _ _ (w.heap.size + 2) 26 #[.int .i64 aD, .slice A2 L2.length c2] (0, 0) _ rfl u15_2 Try.underlying26 rfl (by kernel_rfl)) rfl ?_; refine ⟨_, rfl, u15_3, ?_⟩; exact below_set (below_set (below_set HB2.out (by have := H1.out; omega)) (by omega)) (by omega)
      · obtain rfl : p = aA.length := by omega
        have hlt2 : decide ((aA.length : Int) < (aA.length : Int)) = false := decide_eq_false (by omega); have HP := Aside0.mk hP; have HPL := Aside0.mk HPL; clear HPG hg hP; go_wp2; go_quiet (fail)
        go_wp2_with fail
        go_at_call 177
        refine (insert_any (w.heap.size + 3) (.slice A1 aA.length c1) aA aA.length ⟨aG, aQ, aR⟩ wr.heap.size _ (Kd.R_alloc (Kd.R_drewN aW.out _) _) HPL.out hl (by have := HS.out; simp; omega) (heap_alloc_new (wr.drewN _) _) (fun e => by have := Kd.R_lt aW.out _ e.symm; omega)).mono ?_; rintro e w2 ⟨v2, rfl, hR2, hg2⟩; have HU2 := Aside0.mk (blk_grown (blk_alloc (blk_drewN HU.out _) _) hg2 (Kd.R_ne aW.out HU.out (by decide))); have bP := Aside0.mk (blk_grown (blk_alloc (blk_drewN HO.out _) _) hg2 (Kd.R_ne aW.out HO.out (by decide))); have HB2 := Aside0.mk (pw_below_grown (below_alloc (pw_below_drewN HB.out _) _) _ (by have := HS.out; simp; omega) hg2 (fun k hk => by have := Kd.R_base aW.out k hk; omega)); have cQ := Aside0.mk (show Kd.R k95 95 w2 (w.heap.size + 3) (fun _ => True) v2 (placeL aA ⟨aG, aQ, aR⟩) from (by unfold placeL; rw [← HP.out]; exact hR2)); have hsz : w.heap.size + 3 ≤ w2.heap.size := by have := hg2.size; have := HS.out; simp at *; omega
        clear hR2 hg2 HU HO HB aW HF fP fQ gK gL; obtain ⟨L2, hL2⟩ : ∃ L2, L2 = placeL aA ⟨aG, aQ, aR⟩ := ⟨_, rfl⟩; rw [← hL2] at cQ; have HL := Aside0.mk hL2; clear hL2; obtain ⟨A2, c2, hv2⟩ := Kd.R_slice cQ.out; subst hv2; have n12 : w1.heap.size ≠ w.heap.size + 2 := by have := H1.out; omega
        have n21 : w.heap.size + 2 ≠ w1.heap.size := n12.symm; have iZ : w2.cell? ⟨w1.heap.size, 0, none⟩ = some (.int .i64 aD) := (blk_cell HU2.out 0).trans rfl; have jA : w2.cell? ⟨w1.heap.size, 1, none⟩ = some (.slice A1 aA.length c1) := (blk_cell HU2.out 1).trans rfl; have jB := fun i => blk_frozen HU2.out i
        have jC : w2.cell? ⟨w.heap.size + 2, 0, none⟩ = some (.int .i64 0) := (blk_cell bP.out 0).trans rfl; have jD : w2.cell? ⟨w.heap.size + 2, 1, none⟩ = some (.slice none 0 0) := (blk_cell bP.out 1).trans rfl; have jE := fun i => blk_frozen bP.out i
        go_wp2; refine bodyPost_ret (results_cell_row rfl _ _ (w.heap.size + 2) 26 #[.int .i64 aD, .slice A2 L2.length c2] (0, 0) _ rfl u15_2 Try.underlying26 rfl (by kernel_rfl)) rfl ?_; refine ⟨_, rfl, u15_3, ?_⟩; exact below_set (below_set (below_set HB2.out (by have := H1.out; omega)) (by omega)) (by omega)


/-! ### impl_DiskAppend: function 79 -/
theorem impl_DiskAppend.e95 {W : World} {base : Nat} {ok : Nat → Prop} {g n cap : Nat} {xs : List S95} (h : Kd.R k95 95 W base ok (.slice (some ⟨g, 0, none⟩) n cap) xs) (i : Int) (p : 0 ≤ i) (q : i < n) : W.cell? ⟨g, i.toNat * 3, none⟩ = some (.int .i64 ((rd_T95 xs i).f0)) ∧ W.cell? ⟨g, i.toNat * 3 + 1, none⟩ = some (.string ((rd_T95 xs i).f1)) ∧ W.cell? ⟨g, i.toNat * 3 + 2, none⟩ = some (.string ((rd_T95 xs i).f2)) ∧ W.frozen? ⟨g, i.toNat * 3, none⟩ = false ∧ W.frozen? ⟨g, i.toNat * 3 + 1, none⟩ = false ∧ W.frozen? ⟨g, i.toNat * 3 + 2, none⟩ = false := by
  obtain ⟨c, hcl, hM, hcc, hfr⟩ := Kd.R_elem h z95 i p q; obtain rfl := k95_openM hM; exact ⟨hcc 0 _ rfl, hcc 1 _ rfl, hcc 2 _ rfl, hfr 0, hfr 1, hfr 2⟩
def impl_DiskAppend.j0 : Nat → Int → ByteArray → Bool → Int → List (S95) → Option (Int × (List (S95)) × Int)
 | 0, _, _, _, _, _ => none
 | k + 1, x1, x2, jF, aN, aS => if jF = true then (some (0, ([] : List (S95)), 1)) else ((impl_sizeOf.f k aN aS).bind fun aZ => (if (wrap64 (aZ + (x2.size : Int))) > aN then ((impl_copyDisk.f aN aS).bind fun cD => (some (cD.1, cD.2, 3))) else ((impl_fileAt.f aN aS x1).bind fun aE => (if aE < 0 then ((impl_placed.f aN aS x1 (⟨#[]⟩ : ByteArray) x2).bind fun cE => (some (cE.1, cE.2, 0))) else ((impl_copyDisk.f aN aS).bind fun aT => (if 0 ≤ aE then (if aE < (aT.2.length : Int) then (if ((rd_T95 aT.2 aE).f2).size + x2.size ≤ 9223372036854775807 then (some (aT.1, (aT.2.set (aE : Int).toNat (⟨(rd_T95 aT.2 aE).f0, (rd_T95 aT.2 aE).f1, ((rd_T95 aT.2 aE).f2) ++ x2⟩ : S95)), 0)) else (none)) else (none)) else (none)))))))
def impl_DiskAppend.f (k : Nat) (aD : Int) (aA : List (S95)) (a1 : Int) (a2 : ByteArray) : Option (Int × (List (S95)) × Int) := (impl_DiskOk.f k aD aA).bind fun bN => (if bN = true then ((impl_isFile.f a1).bind fun bE => (impl_DiskAppend.j0 k a1 a2 (!bE) aD aA)) else (impl_DiskAppend.j0 k a1 a2 true aD aA))
theorem u15_mq0 {p : Prop} (h : p := by repeat' first | (with_reducible first | exact gM _ _ _ _ _ | exact impl_DiskOk.mono _ _ _ | exact impl_sizeOf.mono _ _ _ | exact LeO.refl _ | exact LeO.none _ | refine LeO.ite ?_ ?_ | refine LeO.bind ?_ (fun _ => ?_)) | exact LeO.none _ | refine LeO.ite ?_ ?_ | refine LeO.bind ?_ (fun _ => ?_)) : p := h
set_option maxRecDepth 100000 in
theorem impl_DiskAppend.mono_l : ∀ k, (∀ y0 y1 y2 y3 y4, LeO (impl_DiskAppend.j0 k y0 y1 y2 y3 y4) (impl_DiskAppend.j0 (k + 1) y0 y1 y2 y3 y4))
 | 0 => fun _ _ _ _ _ r h => by simp [impl_DiskAppend.j0] at h
 | k + 1 => by
  have gM := impl_DiskAppend.mono_l k
  ·intro y0 y1 y2 y3 y4; unfold impl_DiskAppend.j0; exact u15_mq0
theorem impl_DiskAppend.mono : ∀ a0 a1 a2 a3 k, LeO (impl_DiskAppend.f k a0 a1 a2 a3) (impl_DiskAppend.f (k + 1) a0 a1 a2 a3) := by
 intro a0 a1 a2 a3 k
 have gM := impl_DiskAppend.mono_l k
 unfold impl_DiskAppend.f
 exact u15_mq0
def impl_DiskAppend.T3 : Bool × List (List Nat × List Nat) := (true, [([], []), ([0], [0]), ([], []), ([2], [2]), ([1, 3], [1, 3]), ([], []), ([5], [5]), ([4, 6], [4, 6])])
def impl_DiskAppend.B3 : List Nat := [0, 1, 0, 4, 15, 0, 32, 127]
set_option maxHeartbeats 8000000 in
set_option maxRecDepth 100000 in
theorem impl_DiskAppend.calls (k : Nat) (aD : Int) (aK : Option Addr) (aL : Nat) (aA : List (S95)) (a1 : Int) (a2 : ByteArray) (r1 : Int) (r2 : List (S95)) (r3 : Int) (w : World) (aX : Kd.C k95 w aK aA.length aA) (aY : aA.length ≤ aL) (h : impl_DiskAppend.f k aD aA a1 a2 = some (r1, r2, r3)) :
 Calls Try.prog 79 #[.agg #[.int .i64 aD, .slice aK aA.length aL], .int .i64 a1, .string a2] w fun e w' => ∃ v1_ : Value, e = .returned (.tuple #[.agg #[.int .i64 r1, v1_], .int .i64 r3]) ∧ Kd.R k95 95 w' w.heap.size (fun _ => True) v1_ r2 ∧ Below w.heap.size w w' := by
 have jG := Try.underlying26
 have jH := Try.underlying95
 have aO := aM aX
 have aP := aM aY
 clear aX aY
 have HB := aM (Below.refl w.heap.size w)
 have H : ((impl_DiskOk.f k aD aA).bind fun bN => (if bN = true then ((impl_isFile.f a1).bind fun bE => (impl_DiskAppend.j0 k a1 a2 (!bE) aD aA)) else (impl_DiskAppend.j0 k a1 a2 true aD aA))) = some (r1, r2, r3) := h
 clear h
 have fR := aM H
 clear H
 go_enter Try.func79, Try.ntmps79
 go_upto_region 1 with (first | ((with_reducible refine gD 3 rfl ?_); refine boxE (N := 3) rfl (cs := #[.int .i64 aD, .slice aK aA.length aL]) (t := 26) ?_; intro cF hg w5 hbox hb; have aB := aM (hbox); have gN := aM (xge hg); have gO := aM (xge hg); replace HB := xbs hb; clear hb hbox hg) | ((with_reducible refine gD 6 rfl ?_); refine boxE (N := 6) rfl (cs := #[.int .i64 0, .slice none 0 0]) (t := 26) ?_; intro aU hg w6 hbox hb; have gP := aM (xge hg); have gQ := aM (xge hg); replace HB := xbs hb; have aI := nblt aB hg; have aJ := nbgt aB hg; replace aB := xbb aB hb; have aC := aM (hbox); clear hb hbox hg))
 (try simp only [Act.put, List.setIfInBounds_toArray, List.set_cons_zero, List.set_cons_succ])
 go_cut [17] (fun jI wc => ∃ (kq : Nat) (bB : Bool), jI = .bool bB ∧ Aside0 (impl_DiskAppend.j0 kq a1 a2 bB aD aA = some (r1, r2, r3)) ∧ Aside0 (kq ≤ k) ∧ Aside0 (wc.heap[cF]? = some (.cells #[.int .i64 aD, (.slice aK aA.length aL)] 26 (0, 0))) ∧ Aside0 (wc.heap[aU]? = some (.cells #[.int .i64 0, (.slice none 0 0)] 26 (0, 0))) ∧ Aside0 (Below w.heap.size w wc))
 case first =>
  have H := fR.out; clear fR; replace H := oB H; obtain ⟨bN, gR, H⟩ := H; (try dsimp only at H); have A7 := aM gR; clear gR
  by_cases c8 : bN = true
  ·subst c8; replace H := iT H; replace H := oB H; obtain ⟨bE, gS, H⟩ := H; (try dsimp only at H); have A9 := aM gS; clear gS
   have H' := aM H; clear H; have gT := aI.out; have gU := aJ.out; obtain ⟨bQ, bR, bU, bV⟩ := xf2 (w := w6) aB; go_wp2_with (first | ((with_reducible refine gC 72 rfl ?_); refine goesLY (some 11) rfl Try.func72 #[.agg #[.int .i64 aD, .slice aK aA.length aL]] ?_; (with_reducible refine (impl_DiskOk.calls k aD _ _ aA true _ ?side1 ?side2 A7.out).mono ?_); (case side1 => exact xcb aO); (case side2 => exact aP.out); rintro e jY ⟨rfl, hb⟩; refine ⟨_, rfl, ?_⟩; replace aB := xbb aB hb; replace aC := xbb aC hb; replace HB := xbs hb; (try clear hb)) | (go_at_call 77; (with_reducible refine (impl_isFile.calls a1 bE _ A9.out).mono ?_); rintro e w' ⟨rfl, ⟨nd, rfl⟩⟩))
   go_meet
   case rel => exact ⟨_, (!bE), (by first | rfl | (simp; done) | (simp [*]; done)), H', ⟨by first | omega | exact Nat.le_refl _⟩, ⟨xblk⟩, ⟨xblk⟩, ⟨xbg⟩⟩
  ·replace c8 := Bool.eq_false_iff.mpr c8; subst c8; replace H := iN H; have H' := aM H; clear H; have gV := aI.out; have gW := aJ.out; obtain ⟨bW, bX, bY, bZ⟩ := xf2 (w := w6) aB; go_wp2_with (first | ((with_reducible refine gC 72 rfl ?_); refine goesLY (some 11) rfl Try.func72 #[.agg #[.int .i64 aD, .slice aK aA.length aL]] ?_; (with_reducible refine (impl_DiskOk.calls k aD _ _ aA false _ ?side1 ?side2 A7.out).mono ?_); (case side1 => exact xcb aO); (case side2 => exact aP.out); rintro e jZ ⟨rfl, hb⟩; refine ⟨_, rfl, ?_⟩; replace aB := xbb aB hb; replace aC := xbb aC hb; replace HB := xbs hb; (try clear hb)))
   go_meet
   case rel => exact ⟨_, (true), (by first | rfl | (simp; done) | (simp [*]; done)), H', ⟨by first | omega | exact Nat.le_refl _⟩, ⟨xblk⟩, ⟨xblk⟩, ⟨xbg⟩⟩
 case rest =>
  clear fR; try clear c1
  try clear p2
  try clear c7
  try clear c8
  try clear c10
  try clear kA
  try clear bQ bR
  try clear bW bX
  try clear bU bV
  try clear bY bZ
  obtain ⟨kq, bB, rfl, HA, HJ3, aB, aC, HB⟩ := hcut; cases kq with
  | zero => exact absurd HA.out (by simp [impl_DiskAppend.j0])
  | succ fS =>
   have H := HA.out; clear HA; simp only [impl_DiskAppend.j0] at H; by_cases dO : bB = true
   ·subst dO; replace H := iT H; simp only [Option.some.injEq, Prod.mk.injEq] at H; obtain ⟨rfl, rfl, rfl⟩ := H; have gX := aJ.out; have gY := aI.out; obtain ⟨dP, dQ, dR, dS⟩ := xf2 (w := wc) aC; go_wp2; refine bodyPost_ret (results_ct rfl _ _ aU 26 #[.int .i64 0, .slice none 0 0] (0, 0) _ rfl xP Try.underlying26 rfl (by kernel_rfl)) rfl ?_; exact ⟨_, xerr, by first | exact Kd.R_nil _ _ _ _ _ | exact Kd.N_nil _ _ _ _ _ | exact Kd.V_nil _ _ _ _ _ | exact Kd.Q_nil _ _ _ _ _ | exact Kd.S_nil _ _ _ _ _, xbg⟩
   ·replace dO := Bool.eq_false_iff.mpr dO; subst dO; replace H := iN H; replace H := oB H; obtain ⟨aZ, cV, H⟩ := H; (try dsimp only at H); have fT := aM cV; clear cV
    by_cases cS : (wrap64 (aZ + (a2.size : Int))) > aD
    ·rw [if_pos cS] at H; have cW : decide (aD < (wrap64 (aZ + (a2.size : Int)))) = true := decide_eq_true cS; clear cS; replace H := oB H; obtain ⟨⟨cX, cY⟩, cZ, H⟩ := H; (try dsimp only at H); have jJ := aM cZ; clear cZ
     simp only [Option.some.injEq, Prod.mk.injEq] at H; obtain ⟨rfl, rfl, rfl⟩ := H; try go_wp2
     replace aB := bD aB; replace aC := bD aC; replace HB := lD HB; refine sb2 8 impl_DiskAppend.T3 impl_DiskAppend.B3 aB (fun hHeld HT_ HW_ => ?_); generalize wc.drew = kB at aB aC HB hHeld ⊢; refine pV 2 21 ?_; refine pV 3 22 ?_; refine pV 5 24 ?_; refine tK 0 19 ?_; refine tK 6 25 ?_; refine oN 1 20 fun K hK => ?_
     refine goesY Try.func73 #[.agg #[.int .i64 aD, .slice aK aA.length aL]] ?_; with_reducible refine (impl_sizeOf.calls fS aD _ _ aA aZ _ ?side1 ?side2 fT.out).mono ?_
     (case side1 => exact xcb aO); (case side2 => exact aP.out); rintro e jK ⟨rfl, hb⟩; refine ⟨_, rfl, ?_⟩; replace aB := xbb aB hb; replace aC := xbb aC hb; replace HB := xbs hb; (try clear hb); refine hK.out _ _ ⟨xc aB 0 rfl, xc aB 1 rfl⟩ (fun hHeld => ?_); clear hK K; refine nm_ (N := 20) ?_; refine pV 4 23 ?_; refine pV 7 26 ?_; refine dn_ ?_; have gZ := aI.out; have hJ := aJ.out; obtain ⟨dU, dV, dW, dX⟩ := xf2 (w := jK) aB; try go_wp2_with (first | ((with_reducible refine gC 80 rfl ?_); refine goesLY (some 28) rfl Try.func80 #[.agg #[.int .i64 aD, .slice aK aA.length aL]] ?_; (with_reducible refine (impl_copyDisk.calls aD _ _ aA cX cY _ ?side1 ?side2 jJ.out).mono ?_); (case side1 => exact xcb aO); (case side2 => exact aP.out); rintro e jL ⟨jM, rfl, cG, hb⟩; refine ⟨_, rfl, ?_⟩; have cH := aM (Kd.R_lower cG (below_size xbg)); replace aB := xbb aB hb; replace aC := xbb aC hb; replace HB := xbs hb; (try clear hb cG); obtain ⟨dY, dZ, eA, eB⟩ := xf2 (w := jL) aC; obtain ⟨fU, fV, fW⟩ := Kd.R_slice cH.out; subst fW))
     refine bodyPost_ret (results_ct rfl _ _ aU 26 #[.int .i64 cX, .slice fU cY.length fV] (0, 0) _ rfl xP Try.underlying26 rfl (by kernel_rfl)) rfl ?_; exact ⟨_, xerr, xrm cH (fun _ _ => trivial), xbg⟩
    ·rw [if_neg cS] at H; have cW : decide (aD < (wrap64 (aZ + (a2.size : Int)))) = false := decide_eq_false cS; clear cS; replace H := oB H; obtain ⟨aE, dA, H⟩ := H; (try dsimp only at H); have hU := aM dA; clear dA
     by_cases cT : aE < 0
     ·rw [if_pos cT] at H; have dB : decide (aE < 0) = true := decide_eq_true cT; clear cT; replace H := oB H; obtain ⟨⟨dC, dD⟩, dE, H⟩ := H; (try dsimp only at H); have jN := aM dE; clear dE
      simp only [Option.some.injEq, Prod.mk.injEq] at H; obtain ⟨rfl, rfl, rfl⟩ := H; try go_wp2
      replace aB := bD aB; replace aC := bD aC; replace HB := lD HB; refine sb2 8 impl_DiskAppend.T3 impl_DiskAppend.B3 aB (fun hHeld HT_ HW_ => ?_); generalize wc.drew = kC at aB aC HB hHeld ⊢; refine pV 2 21 ?_; refine pV 3 22 ?_; refine pV 5 24 ?_; refine tK 0 19 ?_; refine tK 6 25 ?_; refine oN 1 20 fun K hK => ?_
      refine goesY Try.func73 #[.agg #[.int .i64 aD, .slice aK aA.length aL]] ?_; with_reducible refine (impl_sizeOf.calls fS aD _ _ aA aZ _ ?side1 ?side2 fT.out).mono ?_
      (case side1 => exact xcb aO); (case side2 => exact aP.out); rintro e jO ⟨rfl, hb⟩; refine ⟨_, rfl, ?_⟩; replace aB := xbb aB hb; replace aC := xbb aC hb; replace HB := xbs hb; (try clear hb); refine hK.out _ _ ⟨xc aB 0 rfl, xc aB 1 rfl⟩ (fun hHeld => ?_); clear hK K; refine nm_ (N := 20) ?_; refine pV 4 23 ?_; refine pV 7 26 ?_; refine dn_ ?_; have hX := aI.out; have hZ := aJ.out; obtain ⟨eC, eD, eE, eF⟩ := xf2 (w := jO) aB; try go_wp2_with (first | ((with_reducible refine gC 129 rfl ?_); refine goesLY (some 31) rfl Try.func129 #[.agg #[.int .i64 aD, .slice aK aA.length aL], .int .i64 a1] ?_; (with_reducible refine (impl_fileAt.calls aD _ _ aA a1 aE _ ?side1 ?side2 hU.out).mono ?_); (case side1 => exact xcb aO); (case side2 => exact aP.out); rintro e jP ⟨rfl, hb⟩; refine ⟨_, rfl, ?_⟩; replace aB := xbb aB hb; replace aC := xbb aC hb; replace HB := xbs hb; (try clear hb); obtain ⟨eG, eH, eI, eJ⟩ := xf2 (w := jP) aB) | ((with_reducible refine gC 143 rfl ?_); refine goesLY (some 38) rfl Try.func143 #[.agg #[.int .i64 aD, .slice aK aA.length aL], .agg #[.int .i64 a1, .string (⟨#[]⟩ : ByteArray), .string a2]] ?_; (with_reducible refine (impl_placed.calls aD _ _ aA a1 (⟨#[]⟩ : ByteArray) a2 dC dD _ ?side1 ?side2 jN.out).mono ?_); (case side1 => exact xcb aO); (case side2 => exact aP.out); rintro e jQ ⟨jR, rfl, cG, hb⟩; refine ⟨_, rfl, ?_⟩; have cI := aM (Kd.R_lower cG (below_size xbg)); replace aB := xbb aB hb; replace aC := xbb aC hb; replace HB := xbs hb; (try clear hb cG); obtain ⟨eK, eL, eM, eN⟩ := xf2 (w := jQ) aC; obtain ⟨fX, fY, fZ⟩ := Kd.R_slice cI.out; subst fZ))
      refine bodyPost_ret (results_ct rfl _ _ aU 26 #[.int .i64 dC, .slice fX dD.length fY] (0, 0) _ rfl xP Try.underlying26 rfl (by kernel_rfl)) rfl ?_; exact ⟨_, xerr, xrm cI (fun _ _ => trivial), xbg⟩
     ·rw [if_neg cT] at H; have dB : decide (aE < 0) = false := decide_eq_false cT; clear cT; replace H := oB H; obtain ⟨⟨bG, aF⟩, dF, H⟩ := H; (try dsimp only at H); have jS := aM dF; clear dF
      by_cases eO : 0 ≤ aE
      ·rw [if_pos eO] at H; have iA : decide (0 ≤ aE) = true := decide_eq_true eO; clear eO; by_cases eP : aE < (aF.length : Int)
       ·rw [if_pos eP] at H; have iB : decide (aE < (aF.length : Int)) = true := decide_eq_true eP; clear eP; by_cases dG : ((rd_T95 aF aE).f2).size + a2.size ≤ 9223372036854775807
        ·rw [if_pos dG] at H; have iC := eq_true dG; have iD : decide (((rd_T95 aF aE).f2).size + a2.size ≤ 9223372036854775807) = true := decide_eq_true dG; try have iE : (9223372036854775807 < ((rd_T95 aF aE).f2).size + a2.size) = False := eq_false (Nat.not_lt.2 dG)
         obtain ⟨dH, hY⟩ : ∃ y_ : List (S95), y_ = (aF.set (aE : Int).toNat (⟨(rd_T95 aF aE).f0, (rd_T95 aF aE).f1, ((rd_T95 aF aE).f2) ++ a2⟩ : S95)) := ⟨_, rfl⟩; replace H : (some (bG, dH, 0)) = some (r1, r2, r3) := by first | (rw [hY]; with_reducible exact H) | (have H2_ := oS H; rw [hY]; with_reducible exact H2_) | (have H2_ := oS H; with_reducible exact H2_) | with_reducible exact H | (rw [hY]; exact H) | exact H
         have dI := aM hY; clear hY; simp only [Option.some.injEq, Prod.mk.injEq] at H; obtain ⟨rfl, rfl, rfl⟩ := H; try go_wp2
         replace aB := bD aB; replace aC := bD aC; replace HB := lD HB; refine sb2 8 impl_DiskAppend.T3 impl_DiskAppend.B3 aB (fun hHeld HT_ HW_ => ?_); generalize wc.drew = kE at aB aC HB hHeld ⊢; refine pV 2 21 ?_; refine pV 3 22 ?_; refine pV 5 24 ?_; refine tK 0 19 ?_; refine tK 6 25 ?_; refine oN 1 20 fun K hK => ?_
         refine goesY Try.func73 #[.agg #[.int .i64 aD, .slice aK aA.length aL]] ?_; with_reducible refine (impl_sizeOf.calls fS aD _ _ aA aZ _ ?side1 ?side2 fT.out).mono ?_
         (case side1 => exact xcb aO); (case side2 => exact aP.out); rintro e jT ⟨rfl, hb⟩; refine ⟨_, rfl, ?_⟩; replace aB := xbb aB hb; replace aC := xbb aC hb; replace HB := xbs hb; (try clear hb); refine hK.out _ _ ⟨xc aB 0 rfl, xc aB 1 rfl⟩ (fun hHeld => ?_); clear hK K; refine nm_ (N := 20) ?_; refine pV 4 23 ?_; refine pV 7 26 ?_; refine dn_ ?_; have iF := aI.out; have iG := aJ.out; obtain ⟨eQ, eR, eS, eT⟩ := xf2 (w := jT) aB
         try go_wp2_with (first | ((with_reducible refine gC 129 rfl ?_); refine goesLY (some 31) rfl Try.func129 #[.agg #[.int .i64 aD, .slice aK aA.length aL], .int .i64 a1] ?_; (with_reducible refine (impl_fileAt.calls aD _ _ aA a1 aE _ ?side1 ?side2 hU.out).mono ?_); (case side1 => exact xcb aO); (case side2 => exact aP.out); rintro e jU ⟨rfl, hb⟩; refine ⟨_, rfl, ?_⟩; replace aB := xbb aB hb; replace aC := xbb aC hb; replace HB := xbs hb; (try clear hb); obtain ⟨eU, eV, eW, eX⟩ := xf2 (w := jU) aB) | ((with_reducible refine gC 80 rfl ?_); refine goesLY (some 40) rfl Try.func80 #[.agg #[.int .i64 aD, .slice aK aA.length aL]] ?_; (with_reducible refine (impl_copyDisk.calls aD _ _ aA bG aF _ ?side1 ?side2 jS.out).mono ?_); (case side1 => exact xcb aO); (case side2 => exact aP.out); rintro e kF ⟨jV, rfl, cG, hb⟩; refine ⟨_, rfl, ?_⟩; have aH := aM (Kd.R_lower cG (below_size xbg)); replace aB := xbb aB hb; replace aC := xbb aC hb; replace HB := xbs hb; (try clear hb cG)) | ((with_reducible refine gD 9 rfl ?_); refine boxE (N := 9) rfl (cs := #[.int .i64 0, .slice none 0 0]) (t := 26) ?_; intro bC hg iH hbox hb; replace aH := xrb aH hb; have iI := aM (xge hg); have iJ := aM (xge hg); replace HB := xbs hb; have bH := nblt aB hg; have bI := nbgt aB hg; have bJ := nblt aC hg; have bK := nbgt aC hg; replace aB := xbb aB hb; replace aC := xbb aC hb; have aV := aM (hbox); clear hb hbox hg; have iK := bI.out; have iL := bH.out; have iM := bK.out; have iO := bJ.out; obtain ⟨eY, eZ, fA, fB⟩ := xf2 (w := iH) aV; obtain ⟨cM, bA, gA⟩ := Kd.R_slice aH.out; subst gA) | ((with_reducible refine gate_store (t := 26) (p := 9) rfl ?_); refine store_event (t := 26) (p := 9) (v := ?vo_w58) (w1 := ((iH.setCell ⟨bC, 0, none⟩ (.int .i64 bG)).setCell ⟨bC, 1, none⟩ (.slice cM aF.length bA))) ?hg ?ho ?hn ?hr ?_; (case ho | hg | hn => rfl); (case hr => first | (go_simp; done) | (go_simp; rfl)); intro cU hw; replace aH : Aside0 (Kd.R k95 95 cU w.heap.size (fun _ => True) (.slice cM aF.length bA) aF) := xwm hw aH (fun _ _ => trivial); replace aB := xwc hw aB; replace aC := xwc hw aC; replace aV : Aside0 (cU.heap[bC]? = some (.cells #[.int .i64 bG, .slice cM aF.length bA] 26 (0, 0))) := xwp hw; replace HB := xbw hw HB; clear hw; obtain ⟨fC, fD, fE, fF⟩ := xf2 (w := cU) aV; have p793 : 0 ≤ (aE : Int) := oda; have q793 : aE < (aF.length : Int) := oda; obtain ⟨iP, gB, cA, cB, cC⟩ := at_T95 (Kd.R_reads' aH.out).2.2 aE p793 q793; cases gB; replace p793 := eq_true p793; replace q793 := eq_true q793; have p45 : 0 ≤ (aE : Int) := oda; have q45 : (aE : Int) < ((aF.length : Int) : Int) := oda; obtain ⟨bL, jW, dJ, dK, gl45, cl45, HG45⟩ := Kd.R_form aH.out (by omega); (first | cases dJ | (injection dJ with ea_ en_ ec_; (first | subst ea_ | (injection ea_ with ea_; subst ea_)); subst ec_; clear en_)); have GB45 := aM dK; have GG45 := aM HG45; clear dK gl45 HG45; (first | simp only [add_plain] at cA | skip); (first | simp only [add_plain] at cB | skip); (first | simp only [add_plain] at cC | skip); obtain ⟨gE, gF, gG, gH, gI, gJ⟩ := impl_DiskAppend.e95 aH.out (aE : Int) p45 q45; replace p45 := eq_true p45; replace q45 := eq_true q45; have dL := aM (show Kd.R k95 95 cU w.heap.size (fun _ => True) (.slice (some ⟨bL, 0, none⟩) aF.length bA) aF from (xr aH)); obtain ⟨ce60, cJ, dM, bO, cK⟩ := Kd.R_elem dL.out z95 (aE : Int) (oda) (by have h_ : (aE : Int) < ((aF.length : Int) : Int) := oda; first | exact h_ | (have e_ := (Kd.R_reads' aH.out).1; omega) | simpa using h_); obtain rfl := k95_openM dM; have cN := Kd.R_seg dL.out (aE : Int) (oda) (by have h_ : (aE : Int) < ((aF.length : Int) : Int) := oda; first | exact h_ | (have e_ := (Kd.R_reads' aH.out).1; omega) | simpa using h_) (seg := [.string (((rd_T95 aF aE).f2) ++ a2)]) (j := 2) cJ bO (show 3 ≤ 3 from by decide) (x' := (⟨(rd_T95 aF aE).f0, (rd_T95 aF aE).f1, ((rd_T95 aF aE).f2) ++ a2⟩ : S95)) (k95_mkM _ _ _ (⟨(rd_T95 aF aE).f0, (rd_T95 aF aE).f1, ((rd_T95 aF aE).f2) ++ a2⟩ : S95) ) (fun _ hk => hk); have cO := bO 2 _ rfl; (try simp only [show (k95).sz = 3 from rfl, Nat.mul_one, Nat.add_zero] at cO); have cP := cK 2; (try simp only [show (k95).sz = 3 from rfl, Nat.mul_one, Nat.add_zero] at cP); clear cJ bO cK dM) | ((with_reducible refine gate_store (t := 9) (p := 50) rfl ?_); refine store_event (t := 9) (p := 50) (v := ?vo_w61) (w1 := (cU.setCell ⟨bL, (aE : Int).toNat * 3 + 2, none⟩ (.string (((rd_T95 aF aE).f2) ++ a2)))) ?hg ?ho ?hn ?hr ?_; (case ho | hg | hn => rfl); (case hr => first | (go_simp; done) | (go_simp; rfl)); intro dN hw; have hg : cU.grownBy dN (some bL) := (by rw [hw]; exact cN.2); have hp_ : Kd.R k95 95 dN w.heap.size (fun _ => True) (.slice (some ⟨bL, 0, none⟩) aF.length bA) dH := (by rw [hw, dI.out]; exact cN.1); clear cN; replace aB := aM (blk_grown (g := cF) (o := .cells #[.int .i64 aD, .slice aK aA.length aL] 26 (0, 0)) xblk hg (Kd.R_ne aH.out aB.out (by decide))); replace aC := aM (blk_grown (g := aU) (o := .cells #[.int .i64 0, .slice none 0 0] 26 (0, 0)) xblk hg (Kd.R_ne aH.out aC.out (by decide))); replace aV := aM (blk_grown (g := bC) (o := .cells #[.int .i64 bG, .slice (some ⟨bL, 0, none⟩) aF.length bA] 26 (0, 0)) xblk hg (Kd.R_ne aH.out aV.out (by decide))); replace aH := aM (hp_); replace HB := aM ((by rw [hw]; exact below_set (HB.out) GB45.out : Below w.heap.size w dN)); clear hg hw hp_; obtain ⟨fG, fH, fI, fJ⟩ := xf2 (w := dN) aV; obtain ⟨fK, fL, fM, fN⟩ := xf2 (w := dN) aC))
         refine bodyPost_ret (results_ct rfl _ _ aU 26 #[.int .i64 bG, .slice (some ⟨bL, 0, none⟩) aF.length bA] (0, 0) _ rfl xP Try.underlying26 rfl (by kernel_rfl)) rfl ?_; exact ⟨_, xerr, xrm aH (fun _ _ => trivial), xbg⟩
        ·rw [if_neg dG] at H; exact absurd H (by simp)
       ·rw [if_neg eP] at H; exact absurd H (by simp)
      ·rw [if_neg eO] at H; exact absurd H (by simp)

theorem u16_0 {p : Prop} (h : p := by first | rfl | (simp; done) | (simp [*]; done)) : p := h
theorem u16_1 {p : Prop} (h : p := by have h_ := Kd.R_ne aD.out aH.out (by decide); intro e_; exact h_ (by rw [e_]; rfl)) : p := h
theorem u16_2 {p : Prop} (h : p := by have h_ := Kd.R_ne aD.out aJ.out (by decide); intro e_; exact h_ (by rw [e_]; rfl)) : p := h
theorem u16_3 {p : Prop} (h : p := by have h_ := Kd.R_ne aD.out aK.out (by decide); intro e_; exact h_ (by rw [e_]; rfl)) : p := h
theorem u16_4 {p : Prop} (h : p := by first | omega | exact Nat.le_refl _) : p := h
theorem u16_5 {p : Prop} (h : p := by first | (rw [hY]; with_reducible exact H) | (have H2_ := oS H; rw [hY]; with_reducible exact H2_) | (have H2_ := oS H; with_reducible exact H2_) | with_reducible exact H | (rw [hY]; exact H) | exact H) : p := h
theorem u16_6 {p : Prop} (h : p := by first | exact Kd.R_nil _ _ _ _ _ | exact Kd.N_nil _ _ _ _ _ | exact Kd.V_nil _ _ _ _ _ | exact Kd.Q_nil _ _ _ _ _ | exact Kd.S_nil _ _ _ _ _) : p := h
theorem u16_7 {p : Prop} (h : p := by (with_reducible repeat (first | apply Kd.V_alloc | apply Kd.V_drewN | apply Kd.V_drew)); exact bK.out) : p := h
theorem u16_8 {p : Prop} (h : p := by (with_reducible repeat (first | apply Kd.R_alloc | apply Kd.R_drewN | apply Kd.R_drew)); exact Kd.R_mono (Kd.R_far (p := ⟨aG, 2, none⟩) (Kd.R_far (p := ⟨aG, 1, none⟩) (Kd.R_far (p := ⟨aG, 0, none⟩) (Kd.R_mono aD.out (fun k_ hk => (⟨hk, hk.2⟩ : _ ∧ k_ ≠ aG))) (fun _ hk => hk.2) (.int .i64 ((rd_T95 aC aA).f0))) (fun _ hk => hk.2) (.string ((rd_T95 aC aA).f1))) (fun _ hk => hk.2) (.string ((rd_T95 aC aA).f2))) (fun _ hk => hk.1.2)) : p := h
theorem u16_9 {p : Prop} (h : p := by refine bS ?_; refine blk_far ?_ (by have h_ := Kd.R_ne aD.out aH.out (by decide); intro e_; exact h_ (by rw [e_]; rfl)) _; refine bS ?_; refine blk_far ?_ (by have h_ := Kd.R_ne aD.out aH.out (by decide); intro e_; exact h_ (by rw [e_]; rfl)) _; refine bS ?_; refine blk_far ?_ (by have h_ := Kd.R_ne aD.out aH.out (by decide); intro e_; exact h_ (by rw [e_]; rfl)) _; refine bS ?_; exact aH.out) : p := h
theorem u16_10 {p : Prop} (h : p := by refine bS ?_; refine blk_far ?_ (by have h_ := Kd.R_ne aD.out aJ.out (by decide); intro e_; exact h_ (by rw [e_]; rfl)) _; refine bS ?_; refine blk_far ?_ (by have h_ := Kd.R_ne aD.out aJ.out (by decide); intro e_; exact h_ (by rw [e_]; rfl)) _; refine bS ?_; refine blk_far ?_ (by have h_ := Kd.R_ne aD.out aJ.out (by decide); intro e_; exact h_ (by rw [e_]; rfl)) _; refine bS ?_; exact aJ.out) : p := h
theorem u16_11 {p : Prop} (h : p := by refine bS ?_; refine blk_far ?_ (by have h_ := Kd.R_ne aD.out aK.out (by decide); intro e_; exact h_ (by rw [e_]; rfl)) _; refine bS ?_; refine blk_far ?_ (by have h_ := Kd.R_ne aD.out aK.out (by decide); intro e_; exact h_ (by rw [e_]; rfl)) _; refine bS ?_; refine blk_far ?_ (by have h_ := Kd.R_ne aD.out aK.out (by decide); intro e_; exact h_ (by rw [e_]; rfl)) _; refine bS ?_; exact aK.out) : p := h
/-! ### impl_JournalLate: function 20 -/
mutual
def impl_JournalLate.j0 : Nat → Int → List ByteArray → Bool → Int → List (S95) → Option (Int × (List (S95)) × Int)
 | 0, _, _, _, _, _ => none
 | k + 1, x1, x2, rQ, cS, cT => if rQ = true then (some (0, ([] : List (S95)), 1)) else (impl_JournalLate.l0 k x1 (([] : List Int)) x2 (x2.length : Int) 0 cS cT)
def impl_JournalLate.l0 : Nat → Int → List Int → List ByteArray → Int → Int → Int → List (S95) → Option (Int × (List (S95)) × Int)
 | 0, _, _, _, _, _, _, _ => none
 | k + 1, x1, x8, kU, oO, iD, cS, cT => if iD < oO then (if 0 ≤ iD then (if iD < (kU.length : Int) then (if (rdOf ByteArray.empty kU iD).size ≤ 9223372036854775807 then ((impl_Seal.f k (bytesOf (rdOf ByteArray.empty kU iD))).bind fun cV => (if cV.2 = true then (if x8.length + cV.1.length < 140737488355328 then (impl_JournalLate.l0 k x1 (x8 ++ cV.1) kU oO (wrap64 (iD + 1)) cS cT) else (none)) else (some (0, ([] : List (S95)), 1)))) else (none)) else (none)) else (none)) else ((impl_DiskAppend.f k cS cT x1 (strOfNums x8)).bind fun eJ => (some (eJ.1, eJ.2.1, eJ.2.2)))
end
def impl_JournalLate.f (k : Nat) (aI : Int) (aC : List (S95)) (a1 : Int) (l2 : List ByteArray) : Option (Int × (List (S95)) × Int) := (impl_DiskOk.f k aI aC).bind fun eK => (if eK = true then ((impl_isFile.f a1).bind fun eL => (if eL = true then (impl_JournalLate.j0 k a1 l2 (decide ((l2.length : Int) > 100)) aI aC) else (impl_JournalLate.j0 k a1 l2 true aI aC))) else (impl_JournalLate.j0 k a1 l2 true aI aC))
theorem u16_mq0 {p : Prop} (h : p := by repeat' first | (with_reducible first | exact iH _ _ _ _ _ | exact iI _ _ _ _ _ _ _ | exact impl_DiskAppend.mono _ _ _ _ _ | exact impl_DiskOk.mono _ _ _ | exact impl_Seal.mono _ _ | exact LeO.refl _ | exact LeO.none _ | refine LeO.ite ?_ ?_ | refine LeO.bind ?_ (fun _ => ?_)) | exact LeO.none _ | refine LeO.ite ?_ ?_ | refine LeO.bind ?_ (fun _ => ?_)) : p := h
set_option maxRecDepth 100000 in
theorem impl_JournalLate.mono_l : ∀ k, (∀ y0 y1 y2 y3 y4, LeO (impl_JournalLate.j0 k y0 y1 y2 y3 y4) (impl_JournalLate.j0 (k + 1) y0 y1 y2 y3 y4)) ∧ (∀ y0 y1 y2 y3 y4 y5 y6, LeO (impl_JournalLate.l0 k y0 y1 y2 y3 y4 y5 y6) (impl_JournalLate.l0 (k + 1) y0 y1 y2 y3 y4 y5 y6))
 | 0 => ⟨fun _ _ _ _ _ r h => by simp [impl_JournalLate.j0] at h, fun _ _ _ _ _ _ _ r h => by simp [impl_JournalLate.l0] at h⟩
 | k + 1 => by
  obtain ⟨iH, iI⟩ := impl_JournalLate.mono_l k; refine ⟨?_, ?_⟩
  ·intro y0 y1 y2 y3 y4; unfold impl_JournalLate.j0; exact u16_mq0
  ·intro y0 y1 y2 y3 y4 y5 y6; unfold impl_JournalLate.l0; exact u16_mq0
theorem impl_JournalLate.mono : ∀ a0 a1 a2 a3 k, LeO (impl_JournalLate.f k a0 a1 a2 a3) (impl_JournalLate.f (k + 1) a0 a1 a2 a3) := by
 intro a0 a1 a2 a3 k
 obtain ⟨iH, iI⟩ := impl_JournalLate.mono_l k
 unfold impl_JournalLate.f
 exact u16_mq0
set_option maxHeartbeats 8000000 in
set_option maxRecDepth 100000 in
theorem impl_JournalLate.calls (k : Nat) (aI : Int) (aW : Option Addr) (aV : Nat) (aC : List (S95)) (a1 : Int) (A2 : Option Addr) (c2 : Nat) (l2 : List ByteArray) (r1 : Int) (r2 : List (S95)) (r3 : Int) (w : World) (cL : Kd.C k95 w aW aC.length aC) (cM : aC.length ≤ aV) (iJ : Kd.C Kd.string w A2 l2.length l2) (iK : l2.length ≤ c2) (h : impl_JournalLate.f k aI aC a1 l2 = some (r1, r2, r3)) :
 Calls Try.prog 20 #[.agg #[.int .i64 aI, .slice aW aC.length aV], .int .i64 a1, .slice A2 l2.length c2] w fun e w' => ∃ v1_ : Value, e = .returned (.tuple #[.agg #[.int .i64 r1, v1_], .int .i64 r3]) ∧ Kd.R k95 95 w' w.heap.size (fun _ => True) v1_ r2 ∧ Below w.heap.size w w' := by
 have iL := Try.underlying26
 have bC := aM cL
 have bL := aM cM
 clear cL cM
 have iM := aM iJ
 have mZ := aM iK
 clear iJ iK
 have HB := aM (Below.refl w.heap.size w)
 have H : ((impl_DiskOk.f k aI aC).bind fun eK => (if eK = true then ((impl_isFile.f a1).bind fun eL => (if eL = true then (impl_JournalLate.j0 k a1 l2 (decide ((l2.length : Int) > 100)) aI aC) else (impl_JournalLate.j0 k a1 l2 true aI aC))) else (impl_JournalLate.j0 k a1 l2 true aI aC))) = some (r1, r2, r3) := h
 clear h
 have nA := aM H
 clear H
 go_enter Try.func20, Try.ntmps20
 go_upto_region 1 with (first | ((with_reducible refine gD 3 rfl ?_); (try (refine gate_guard (by rfl) ?_; dsimp only)); refine boxE (N := 3) rfl (cs := #[.int .i64 aI, .slice aW aC.length aV]) (t := 26) ?_; intro cN hg w5 hbox hb; have aN := aM (hbox); have oP := aM (xge hg); have oQ := aM (xge hg); replace HB := xbs hb; clear hb hbox hg) | ((with_reducible refine gD 6 rfl ?_); (try (refine gate_guard (by rfl) ?_; dsimp only)); refine boxE (N := 6) rfl (cs := #[.int .i64 0, .slice none 0 0]) (t := 26) ?_; intro bM hg w6 hbox hb; have oR := aM (xge hg); have oT := aM (xge hg); replace HB := xbs hb; have aY := nblt aN hg; have aZ := nbgt aN hg; replace aN := xbb aN hb; have aQ := aM (hbox); clear hb hbox hg))
 (try simp only [Act.put, List.setIfInBounds_toArray, List.set_cons_zero, List.set_cons_succ])
 go_cut [25] (fun rR wc => ∃ (kq : Nat) (dY : Bool), rR = .bool dY ∧ Aside0 (impl_JournalLate.j0 kq a1 l2 dY aI aC = some (r1, r2, r3)) ∧ Aside0 (kq ≤ k) ∧ Aside0 (wc.heap[cN]? = some (.cells #[.int .i64 aI, (.slice aW aC.length aV)] 26 (0, 0))) ∧ Aside0 (wc.heap[bM]? = some (.cells #[.int .i64 0, (.slice none 0 0)] 26 (0, 0))) ∧ Aside0 (Below w.heap.size w wc))
 case first =>
  have H := nA.out; clear nA; replace H := oB H; obtain ⟨eK, oU, H⟩ := H; (try dsimp only at H); have A7 := aM oU; clear oU
  by_cases c8 : eK = true
  ·subst c8; replace H := iT H; replace H := oB H; obtain ⟨eL, oV, H⟩ := H; (try dsimp only at H); have A9 := aM oV; clear oV
   by_cases c10 : eL = true
   ·subst c10; replace H := iT H; have H' := aM H; clear H; have iO := aY.out; have iP := aZ.out; obtain ⟨bN, bO, bP, bQ⟩ := xf2 (w := w6) aN; go_wp2_with (first | ((with_reducible refine gC 72 rfl ?_); refine goesLY (some 14) rfl Try.func72 #[.agg #[.int .i64 aI, .slice aW aC.length aV]] ?_; (with_reducible refine (impl_DiskOk.calls k aI _ _ aC true _ ?side1 ?side2 A7.out).mono ?_); (case side1 => exact xcb bC); (case side2 => exact bL.out); rintro e rS ⟨rfl, hb⟩; refine ⟨_, rfl, ?_⟩; replace aN := xbb aN hb; replace aQ := xbb aQ hb; replace HB := xbs hb; (try clear hb)) | (go_at_call 77; (with_reducible refine (impl_isFile.calls a1 true _ A9.out).mono ?_); rintro e w' ⟨rfl, ⟨nd, rfl⟩⟩))
    go_meet
    case rel => exact ⟨_, (decide ((l2.length : Int) > 100)), u16_0, H', ⟨u16_4⟩, ⟨xblk⟩, ⟨xblk⟩, ⟨xbg⟩⟩
   ·replace c10 := Bool.eq_false_iff.mpr c10; subst c10; replace H := iN H; have H' := aM H; clear H; have iQ := aY.out; have iR := aZ.out; obtain ⟨dH, dI, dJ, dK⟩ := xf2 (w := w6) aN; go_wp2_with (first | ((with_reducible refine gC 72 rfl ?_); refine goesLY (some 14) rfl Try.func72 #[.agg #[.int .i64 aI, .slice aW aC.length aV]] ?_; (with_reducible refine (impl_DiskOk.calls k aI _ _ aC true _ ?side1 ?side2 A7.out).mono ?_); (case side1 => exact xcb bC); (case side2 => exact bL.out); rintro e sW ⟨rfl, hb⟩; refine ⟨_, rfl, ?_⟩; replace aN := xbb aN hb; replace aQ := xbb aQ hb; replace HB := xbs hb; (try clear hb)) | (go_at_call 77; (with_reducible refine (impl_isFile.calls a1 false _ A9.out).mono ?_); rintro e w' ⟨rfl, ⟨nd, rfl⟩⟩))
    go_meet
    case rel => exact ⟨_, (true), u16_0, H', ⟨u16_4⟩, ⟨xblk⟩, ⟨xblk⟩, ⟨xbg⟩⟩
  ·replace c8 := Bool.eq_false_iff.mpr c8; subst c8; replace H := iN H; have H' := aM H; clear H; have oW := aY.out; have oX := aZ.out; obtain ⟨dL, dM, dN, dO⟩ := xf2 (w := w6) aN; go_wp2_with (first | ((with_reducible refine gC 72 rfl ?_); refine goesLY (some 14) rfl Try.func72 #[.agg #[.int .i64 aI, .slice aW aC.length aV]] ?_; (with_reducible refine (impl_DiskOk.calls k aI _ _ aC false _ ?side1 ?side2 A7.out).mono ?_); (case side1 => exact xcb bC); (case side2 => exact bL.out); rintro e sX ⟨rfl, hb⟩; refine ⟨_, rfl, ?_⟩; replace aN := xbb aN hb; replace aQ := xbb aQ hb; replace HB := xbs hb; (try clear hb)))
   go_meet
   case rel => exact ⟨_, (true), u16_0, H', ⟨u16_4⟩, ⟨xblk⟩, ⟨xblk⟩, ⟨xbg⟩⟩
 case rest =>
  clear nA; try clear c1
  try clear c2
  try clear p2
  try clear c7
  try clear c8
  try clear c10
  try clear nB
  try clear gO
  try clear rT
  try clear bN bO
  try clear dH dI
  try clear dL dM
  try clear bP bQ
  try clear dJ dK
  try clear dN dO
  obtain ⟨kq, dY, rfl, HA, HJ3, aN, aQ, HB⟩ := hcut; cases kq with
  | zero => exact absurd HA.out (by simp [impl_JournalLate.j0])
  | succ nC =>
   have H := HA.out; clear HA; simp only [impl_JournalLate.j0] at H; by_cases iS : dY = true
   ·subst iS; replace H := iT H; simp only [Option.some.injEq, Prod.mk.injEq] at H; obtain ⟨rfl, rfl, rfl⟩ := H; have oY := aZ.out; have oZ := aY.out; obtain ⟨fB, fC, fD, fE⟩ := xf2 (w := wc) aQ; go_wp2; refine bodyPost_ret (results_ct rfl _ _ bM 26 #[.int .i64 0, .slice none 0 0] (0, 0) _ rfl xP Try.underlying26 rfl (by kernel_rfl)) rfl ?_; exact ⟨_, xerr, u16_6, xbg⟩
   ·replace iS := Bool.eq_false_iff.mpr iS; subst iS; replace H := iN H; obtain ⟨iU, hY⟩ : ∃ y_ : List Int, y_ = (([] : List Int)) := ⟨_, rfl⟩; replace H : (impl_JournalLate.l0 nC a1 iU l2 (l2.length : Int) 0 aI aC) = some (r1, r2, r3) := u16_5; have fZ := aM hY; clear hY; have H' := aM H; clear H; go_wp2_with (first | ((with_reducible refine gD 27 rfl ?_); (try (refine gate_guard (by rfl) ?_; dsimp only)); refine Kd.R_lit (Kd.int .u8) _ 5 ?hg (N := 27) ?hd (xs := ([] : List Int)) (inner := []) (ok := fun _ => True) (okp := fun _ => True) ?hr ?hp (fun _ hk => hk) trivial (Below.refl _ _) (Nat.le_refl _) (by simp) ?_; (case hd => rfl); (case hg => rfl); (case hr => first | (go_simp; done) | (go_simp; rfl)); (case hp => exact (Reps.none _ _)); intro rU sY eM hb hg_ hnew_; clear hg_ hnew_; (first | rw [← fZ.out] at eM | (simp only [Int.reduceToNat] at eM; rw [← fZ.out] at eM)); have iV := aM (Kd.R_lower eM (below_size xbg)); replace aN := xbb aN hb; replace aQ := xbb aQ hb; replace HB := xbs hb; clear hb eM))
    go_loopg [8, 30] nC (fun kq v8 rV w' => ∃ (cY : List Int) (aT : Int) (bA : Int), rV = .int .i64 aT ∧ Aside0 (impl_JournalLate.l0 kq a1 cY l2 (l2.length : Int) aT aI aC = some (r1, r2, r3)) ∧ Aside0 (kq ≤ nC) ∧ Aside0 (Kd.R (Kd.int .u8) 5 w' w.heap.size (fun _ => True) v8 cY) ∧ Aside0 (w'.heap[cN]? = some (.cells #[.int .i64 aI, (.slice aW aC.length aV)] 26 (0, 0))) ∧ Aside0 (w'.heap[bM]? = some (.cells #[.int .i64 bA, (.slice none 0 0)] 26 (0, 0))) ∧ Aside0 (Below w.heap.size w w'))
    case atStart => exact ⟨(iU), (0), (0), u16_0, H', ⟨Nat.le_refl _⟩, ⟨by (with_reducible repeat (first | apply Kd.R_alloc | apply Kd.R_drewN | apply Kd.R_drew)); exact iV.out⟩, ⟨xblk⟩, ⟨xblk⟩, ⟨xbg⟩⟩
    case round =>
     clear H'; try clear c1
     try clear c2
     try clear p2
     try clear c7
     try clear c8
     try clear c10
     try clear nB
     try clear gO
     try clear rT
     try clear iS
     try clear sZ
     try clear bN bO
     try clear dH dI
     try clear dL dM
     try clear fB fC
     try clear bP bQ
     try clear dJ dK
     try clear dN dO
     try clear fD fE
     try clear p2
     obtain ⟨cY, aT, bA, rfl, HA, HK2, bI, aN, aQ, HB⟩ := hrel; cases gk with
     | zero => exact absurd HA.out (by simp [impl_JournalLate.l0])
     | succ k2 =>
      have H := HA.out; clear HA; simp only [impl_JournalLate.l0] at H; by_cases iE : aT < (l2.length : Int)
      ·rw [if_pos iE] at H; have iW : decide (aT < (l2.length : Int)) = true := decide_eq_true iE; clear iE; by_cases kV : 0 ≤ aT
       ·rw [if_pos kV] at H; have pA : decide (0 ≤ aT) = true := decide_eq_true kV; clear kV; by_cases eN : aT < (l2.length : Int)
        ·rw [if_pos eN] at H; have gA : decide (aT < (l2.length : Int)) = true := decide_eq_true eN; clear eN; by_cases eO : (rdOf ByteArray.empty l2 aT).size ≤ 9223372036854775807
         ·rw [if_pos eO] at H; have iX := eq_true eO; have pB : decide ((rdOf ByteArray.empty l2 aT).size ≤ 9223372036854775807) = true := decide_eq_true eO; try have pC : (9223372036854775807 < (rdOf ByteArray.empty l2 aT).size) = False := eq_false (Nat.not_lt.2 eO)
          clear eO; obtain ⟨eP, hY⟩ : ∃ y_ : List Int, y_ = (bytesOf (rdOf ByteArray.empty l2 aT)) := ⟨_, rfl⟩; replace H : ((impl_Seal.f k2 eP).bind fun cV => (if cV.2 = true then (if cY.length + cV.1.length < 140737488355328 then (impl_JournalLate.l0 k2 a1 (cY ++ cV.1) l2 (l2.length : Int) (wrap64 (aT + 1)) aI aC) else (none)) else (some (0, ([] : List (S95)), 1)))) = some (r1, r2, r3) := u16_5; have dZ := aM hY; clear hY; replace H := oB H; obtain ⟨⟨dX, nD⟩, iY, H⟩ := H; (try dsimp only at H); have pD := aM iY; clear iY
          by_cases eQ : nD = true
          ·subst eQ; replace H := iT H; by_cases kW : cY.length + dX.length < 140737488355328
           ·rw [if_pos kW] at H; have LMc31 := aM kW; clear kW; obtain ⟨iZ, hY⟩ : ∃ y_ : List Int, y_ = (cY ++ dX) := ⟨_, rfl⟩; replace H : (impl_JournalLate.l0 k2 a1 iZ l2 (l2.length : Int) (wrap64 (aT + 1)) aI aC) = some (r1, r2, r3) := u16_5; have jA := aM hY; clear hY; have H' := aM H; clear H; have p802 : 0 ≤ (aT : Int) := oda; have q802 : aT < (l2.length : Int) := oda; obtain ⟨jB, gP, bR⟩ := Kd.at_string iM.out aT p802 q802; cases gP
            replace bR := xce HB bR; replace p802 := eq_true p802; replace q802 := eq_true q802; go_wp2_with (first | ((with_reducible refine gD 36 rfl ?_); (try (refine gate_guard (by rfl) ?_; dsimp only)); refine Kd.V_conv _ 5 rfl (N := 36) rfl 9 22 _ rfl (rdOf ByteArray.empty l2 aT) rfl Try.underlying9 Try.underlying22 Try.underlying5 (oda) (ok := fun k_ => wr.heap.size ≤ k_) (Nat.le_refl _) (Below.refl _ _) (Nat.le_refl _) ?_; intro nE tA eR hb hg_ hnew_; clear hg_ hnew_; (first | rw [← dZ.out] at eR | (simp only [Int.reduceToNat] at eR; rw [← dZ.out] at eR)); have bK := aM (Kd.V_lower (Kd.V_mono (ok' := fun k_ => some k_ ≠ (u8 : Value).ownBlock ∧ k_ ≠ cN ∧ k_ ≠ bM) eR (fun k_ hk_ => ⟨(Kd.fresh' (Kd.R_lt (xr bI)) k_ hk_), (Kd.freshB (g := cN) (o := .cells #[.int .i64 aI, .slice aW aC.length aV] 26 (0, 0)) xblk k_ hk_), (Kd.freshB (g := bM) (o := .cells #[.int .i64 bA, .slice none 0 0] 26 (0, 0)) xblk k_ hk_)⟩)) (below_size xbg)); replace bI := xrb bI hb; replace aN := xbb aN hb; replace aQ := xbb aQ hb; replace HB := xbs hb; clear hb eR; obtain ⟨nF, nG, nH⟩ := Kd.V_slice bK.out; subst nH) | ((with_reducible refine gC 78 rfl ?_); refine goesLY (some 37) rfl Try.func78 #[.slice nF eP.length nG] ?_; (with_reducible refine (impl_Seal.calls k2 _ _ eP dX true _ ?side1 ?side2 pD.out).mono ?_); (case side1 => repeat (first | exact (Kd.V_reads' bK.out).2.2 | (with_reducible refine Kd.C_alloc ?_ _) | (with_reducible refine Kd.C_drewN ?_ _) | (with_reducible refine Kd.C_drew ?_))); (case side2 => exact (Kd.V_reads' bK.out).2.1); rintro e tB ⟨nI, rfl, cO, hb⟩; refine ⟨_, rfl, ?_⟩; replace bK := aM (Kd.V_elder' u16_7 (Kd.R_base cO) hb); have dA := aM (Kd.R_lower (Kd.R_new' cO (Kd.R_lt (xr bI))) (below_size xbg)); replace bI := aM (Kd.R_elder' (xr bI) (Kd.R_base cO) hb); replace aN := xbb aN hb; replace aQ := xbb aQ hb; replace HB := xbs hb; (try clear hb cO); obtain ⟨jC, eS, fF⟩ := Kd.R_slice dA.out; subst fF) | ((with_reducible refine gate_builtin (b := .append) (xs := #[.tmp 43, .tmp 44]) rfl ?_); (try (refine gate_guard (by rfl) ?_; dsimp only)); at_builtin; refine Kd.R_append_rows (Kd.int .u8) (w0 := w) w.heap.size rfl (.tmp 43) (.tmp 44) 22 5 (.int .u8 0) 1 rfl Try.underlying22 info5 rfl (by decide) (by omega) u8 cY dX _ _ _ (fun k_ => some k_ ≠ (.slice jC dX.length eS : Value).ownBlock) (fun _ => False) rfl rfl ?aO ?aR (fun _ _ h => h) (fun _ h => h.elim) ?aF ?aB ?aS ?aL ?_; (case aR => repeat (first | exact (Kd.R_reads' dA.out).2.2 | (with_reducible refine Kd.C_alloc ?_ _) | (with_reducible refine Kd.C_drewN ?_ _) | (with_reducible refine Kd.C_drew ?_))); (case aB => exact xbg); (case aF => exact (fun k_ hk => Kd.fresh' (Kd.R_lt (xr dA)) k_ hk)); (case aO => exact (by (with_reducible repeat (first | apply Kd.R_alloc | apply Kd.R_drewN | apply Kd.R_drew)); exact Kd.R_mono bI.out (fun _ hk => hk.2))); (case aS => exact (below_size xbg)); (case aL => have := LMc31.out; omega); intro rW tC ho hb hg hat; rw [← jA.out] at ho; replace aN := aM (blk_grown (g := cN) (o := .cells #[.int .i64 aI, .slice aW aC.length aV] 26 (0, 0)) xblk hg (Kd.R_ne bI.out aN.out (by decide))); replace aQ := aM (blk_grown (g := bM) (o := .cells #[.int .i64 bA, .slice none 0 0] 26 (0, 0)) xblk hg (Kd.R_ne bI.out aQ.out (by decide))); replace bK := aM (Kd.V_afterv (ok := (fun k_ => some k_ ≠ (.slice jC dX.length eS : Value).ownBlock ∧ k_ ≠ cN ∧ k_ ≠ bM)) (by (with_reducible repeat (first | apply Kd.V_alloc | apply Kd.V_drewN | apply Kd.V_drew)); exact Kd.V_mono bK.out (fun _ hk => ⟨⟨hk.2, ⟨hk.1.2.1, hk.1.2.2⟩⟩, hk.1.1⟩)) hg hat); replace dA := aM (Kd.R_after (ok := (fun _ => True)) (xr dA) hg hat); replace HB := aM (hb); have jD := aM (ho); clear bI; clear ho hb hg hat))
            go_roundg k2
            case measure => have := HJ3.out; have := HK2.out; omega
            case rel => exact ⟨(iZ), (wrap64 (aT + 1)), (bA), u16_0, H', ⟨by have := HJ3.out; have := HK2.out; omega⟩, ⟨by (with_reducible repeat (first | apply Kd.R_alloc | apply Kd.R_drewN | apply Kd.R_drew)); exact Kd.R_mono jD.out (fun _ hk => trivial)⟩, ⟨xblk⟩, ⟨xblk⟩, ⟨xbg⟩⟩
           ·rw [if_neg kW] at H; exact absurd H (by simp)
          ·replace eQ := Bool.eq_false_iff.mpr eQ; subst eQ; replace H := iN H; simp only [Option.some.injEq, Prod.mk.injEq] at H; obtain ⟨rfl, rfl, rfl⟩ := H; have p802 : 0 ≤ (aT : Int) := oda; have q802 : aT < (l2.length : Int) := oda; obtain ⟨jB, gP, bR⟩ := Kd.at_string iM.out aT p802 q802; cases gP
           replace bR := xce HB bR; replace p802 := eq_true p802; replace q802 := eq_true q802; go_wp2_with (first | ((with_reducible refine gD 36 rfl ?_); (try (refine gate_guard (by rfl) ?_; dsimp only)); refine Kd.V_conv _ 5 rfl (N := 36) rfl 9 22 _ rfl (rdOf ByteArray.empty l2 aT) rfl Try.underlying9 Try.underlying22 Try.underlying5 (oda) (ok := fun k_ => wr.heap.size ≤ k_) (Nat.le_refl _) (Below.refl _ _) (Nat.le_refl _) ?_; intro nE fG eT hb hg_ hnew_; clear hg_ hnew_; (first | rw [← dZ.out] at eT | (simp only [Int.reduceToNat] at eT; rw [← dZ.out] at eT)); have bK := aM (Kd.V_lower (Kd.V_mono (ok' := fun k_ => some k_ ≠ (u8 : Value).ownBlock ∧ k_ ≠ cN ∧ k_ ≠ bM) eT (fun k_ hk_ => ⟨(Kd.fresh' (Kd.R_lt (xr bI)) k_ hk_), (Kd.freshB (g := cN) (o := .cells #[.int .i64 aI, .slice aW aC.length aV] 26 (0, 0)) xblk k_ hk_), (Kd.freshB (g := bM) (o := .cells #[.int .i64 bA, .slice none 0 0] 26 (0, 0)) xblk k_ hk_)⟩)) (below_size xbg)); replace bI := xrb bI hb; replace aN := xbb aN hb; replace aQ := xbb aQ hb; replace HB := xbs hb; clear hb eT; obtain ⟨nJ, nK, nL⟩ := Kd.V_slice bK.out; subst nL) | ((with_reducible refine gC 78 rfl ?_); refine goesLY (some 37) rfl Try.func78 #[.slice nJ eP.length nK] ?_; (with_reducible refine (impl_Seal.calls k2 _ _ eP dX false _ ?side1 ?side2 pD.out).mono ?_); (case side1 => repeat (first | exact (Kd.V_reads' bK.out).2.2 | (with_reducible refine Kd.C_alloc ?_ _) | (with_reducible refine Kd.C_drewN ?_ _) | (with_reducible refine Kd.C_drew ?_))); (case side2 => exact (Kd.V_reads' bK.out).2.1); rintro e rX ⟨nI, rfl, cO, hb⟩; refine ⟨_, rfl, ?_⟩; replace bK := aM (Kd.V_elder' u16_7 (Kd.R_base cO) hb); have dA := aM (Kd.R_lower (Kd.R_new' cO (Kd.R_lt (xr bI))) (below_size xbg)); replace bI := aM (Kd.R_elder' (xr bI) (Kd.R_base cO) hb); replace aN := xbb aN hb; replace aQ := xbb aQ hb; replace HB := xbs hb; (try clear hb cO); have pE := aZ.out; have pF := aY.out; obtain ⟨kX, kY, kZ, lA⟩ := xf2 (w := rX) aQ))
           refine bodyPost_ret (results_ct rfl _ _ bM 26 #[.int .i64 0, .slice none 0 0] (0, 0) _ rfl xP Try.underlying26 rfl (by kernel_rfl)) rfl ?_; exact ⟨_, xerr, u16_6, xbg⟩
         ·rw [if_neg eO] at H; exact absurd H (by simp)
        ·rw [if_neg eN] at H; exact absurd H (by simp)
       ·rw [if_neg kV] at H; exact absurd H (by simp)
      ·rw [if_neg iE] at H; have iW : decide (aT < (l2.length : Int)) = false := decide_eq_false iE; clear iE; replace H := oB H; obtain ⟨⟨jE, jF, nM⟩, jG, H⟩ := H; (try dsimp only at H); have rY := aM jG; clear jG
       simp only [Option.some.injEq, Prod.mk.injEq] at H; obtain ⟨rfl, rfl, rfl⟩ := H; have pG := aY.out; have pH := aZ.out; obtain ⟨lB, lC, lE, lF⟩ := xf2 (w := wr) aN; have hcv47 := own_string (P := Try.prog) Try.underlying22 Try.underlying5 Try.underlying9 (Kd.own_of_R bI.out); go_wp2_with (first | ((with_reducible refine gC 79 rfl ?_); refine goesLY (some 51) rfl Try.func79 #[.agg #[.int .i64 aI, .slice aW aC.length aV], .int .i64 a1, .string (strOfNums cY)] ?_; (with_reducible refine (impl_DiskAppend.calls k2 aI _ _ aC a1 (strOfNums cY) jE jF nM _ ?side1 ?side2 rY.out).mono ?_); (case side1 => exact xcb bC); (case side2 => exact bL.out); rintro e rZ ⟨sA, rfl, cO, hb⟩; refine ⟨_, rfl, ?_⟩; replace bI := xrb bI hb; have gB := aM (Kd.R_lower cO (below_size xbg)); replace aN := xbb aN hb; replace aQ := xbb aQ hb; replace HB := xbs hb; (try clear hb cO); obtain ⟨lG, lH, lI, lJ⟩ := xf2 (w := rZ) aQ; obtain ⟨nN, nO, nP⟩ := Kd.R_slice gB.out; subst nP))
       refine bodyPost_ret (results_ct rfl _ _ bM 26 #[.int .i64 jE, .slice nN jF.length nO] (0, 0) _ rfl xP Try.underlying26 rfl (by kernel_rfl)) rfl ?_; exact ⟨_, xerr, xrm gB (fun _ _ => trivial), xbg⟩

/-! ### impl_JournalAdd: function 18 -/
def impl_JournalAdd.f (k : Nat) (aI : Int) (aC : List (S95)) (a1 : Int) (l2 : List ByteArray) : Option (Int × (List (S95)) × Int) := (impl_JournalLate.f k aI aC a1 l2).bind fun bE => (if bE.2.2 = 0 then ((impl_DiskSync.f k bE.1 bE.2.1 a1).bind fun cW => (some (cW.1, cW.2.1, cW.2.2))) else (some (bE.1, bE.2.1, bE.2.2)))
theorem u16_mq1 {p : Prop} (h : p := by repeat' first | (with_reducible first | exact impl_DiskSync.mono _ _ _ _ | exact impl_JournalLate.mono _ _ _ _ _ | exact LeO.refl _ | exact LeO.none _ | refine LeO.ite ?_ ?_ | refine LeO.bind ?_ (fun _ => ?_)) | exact LeO.none _ | refine LeO.ite ?_ ?_ | refine LeO.bind ?_ (fun _ => ?_)) : p := h
theorem impl_JournalAdd.mono : ∀ a0 a1 a2 a3 k, LeO (impl_JournalAdd.f k a0 a1 a2 a3) (impl_JournalAdd.f (k + 1) a0 a1 a2 a3) := by
 intro a0 a1 a2 a3 k
 unfold impl_JournalAdd.f
 exact u16_mq1
set_option maxHeartbeats 8000000 in
set_option maxRecDepth 100000 in
theorem impl_JournalAdd.calls (k : Nat) (aI : Int) (aW : Option Addr) (aV : Nat) (aC : List (S95)) (a1 : Int) (A2 : Option Addr) (c2 : Nat) (l2 : List ByteArray) (r1 : Int) (r2 : List (S95)) (r3 : Int) (w : World) (cL : Kd.C k95 w aW aC.length aC) (cM : aC.length ≤ aV) (iJ : Kd.C Kd.string w A2 l2.length l2) (iK : l2.length ≤ c2) (h : impl_JournalAdd.f k aI aC a1 l2 = some (r1, r2, r3)) :
 Calls Try.prog 18 #[.agg #[.int .i64 aI, .slice aW aC.length aV], .int .i64 a1, .slice A2 l2.length c2] w fun e w' => ∃ v1_ : Value, e = .returned (.tuple #[.agg #[.int .i64 r1, v1_], .int .i64 r3]) ∧ Kd.R k95 95 w' w.heap.size (fun _ => True) v1_ r2 ∧ Below w.heap.size w w' := by
 have iL := Try.underlying26
 have bC := aM cL
 have bL := aM cM
 clear cL cM
 have iM := aM iJ
 have mZ := aM iK
 clear iJ iK
 have HB := aM (Below.refl w.heap.size w)
 have H : ((impl_JournalLate.f k aI aC a1 l2).bind fun bE => (if bE.2.2 = 0 then ((impl_DiskSync.f k bE.1 bE.2.1 a1).bind fun cW => (some (cW.1, cW.2.1, cW.2.2))) else (some (bE.1, bE.2.1, bE.2.2)))) = some (r1, r2, r3) := h
 clear h
 replace H := oB H
 obtain ⟨⟨cZ, cP, gQ⟩, pI, H⟩ := H
 (try dsimp only at H)
 have A4 := aM pI
 clear pI
 by_cases c5 : gQ = 0
 ·rw [if_pos c5] at H; obtain ⟨nQ, nR⟩ := bT c5; clear c5; replace H := oB H; obtain ⟨⟨jH, jI, nS⟩, jJ, H⟩ := H; (try dsimp only at H); have A6 := aM jJ; clear jJ
  simp only [Option.some.injEq, Prod.mk.injEq] at H; obtain ⟨rfl, rfl, rfl⟩ := H; go_enter Try.func18, Try.ntmps18
  go_wp2_with (first | ((with_reducible refine gD 3 rfl ?_); refine boxE (N := 3) rfl (cs := #[.int .i64 aI, .slice aW aC.length aV]) (t := 26) ?_; intro jK hg w7 hbox hb; have aP := aM (hbox); have jL := aM (xge hg); have jM := aM (xge hg); replace HB := xbs hb; clear hb hbox hg) | ((with_reducible refine gD 6 rfl ?_); refine boxE (N := 6) rfl (cs := #[.int .i64 0, .slice none 0 0]) (t := 26) ?_; intro dB hg w8 hbox hb; have jN := aM (xge hg); have jO := aM (xge hg); replace HB := xbs hb; have bZ := nblt aP hg; have cA := nbgt aP hg; replace aP := xbb aP hb; have aX := aM (hbox); clear hb hbox hg; have sB := bZ.out; have sC := cA.out; obtain ⟨lK, lL, lM, lN⟩ := xf2 (w := w8) aP) | ((with_reducible refine gC 20 rfl ?_); refine goesLY (some 14) rfl Try.func20 #[.agg #[.int .i64 aI, .slice aW aC.length aV], .int .i64 a1, .slice A2 l2.length c2] ?_; (with_reducible refine (impl_JournalLate.calls k aI _ _ aC a1 _ _ l2 cZ cP gQ _ ?side1 ?side2 ?side3 ?side4 A4.out).mono ?_); (case side1 => exact xcb bC); (case side2 => exact bL.out); (case side3 => exact xcb iM); (case side4 => exact mZ.out); rintro e tD ⟨nT, rfl, cO, hb⟩; refine ⟨_, rfl, ?_⟩; have bB := aM (Kd.R_lower cO (below_size xbg)); replace aP := xbb aP hb; replace aX := xbb aX hb; replace HB := xbs hb; (try clear hb cO)) | ((with_reducible refine gD 8 rfl ?_); refine boxE (N := 8) rfl (cs := #[.int .i64 0, .slice none 0 0]) (t := 26) ?_; intro dR hg sD hbox hb; replace bB := xrb bB hb; have jP := aM (xge hg); have jQ := aM (xge hg); replace HB := xbs hb; have cB := nblt aP hg; have cC := nbgt aP hg; have cD := nblt aX hg; have cE := nbgt aX hg; replace aP := xbb aP hb; replace aX := xbb aX hb; have dS := aM (hbox); clear hb hbox hg; have pJ := cC.out; have pK := cB.out; have iQ := cE.out; have iR := cD.out; obtain ⟨dH, dI, dJ, dK⟩ := xf2 (w := sD) dS; obtain ⟨jR, jS, nU⟩ := Kd.R_slice bB.out; subst nU) | ((with_reducible refine gC 68 rfl ?_); refine goesLY (some 23) rfl Try.func68 #[.agg #[.int .i64 cZ, .slice jR cP.length jS], .int .i64 a1] ?_; (with_reducible refine (impl_DiskSync.calls k cZ _ _ cP a1 jH jI nS _ ?side1 ?side2 A6.out).mono ?_); (case side1 => exact (Kd.R_reads' (xrs bB)).2.2); (case side2 => exact (Kd.R_reads' bB.out).2.1); rintro e sE ⟨sF, rfl, cO, hb⟩; refine ⟨_, rfl, ?_⟩; have gE := aM (Kd.R_lower (Kd.R_new' cO (Kd.R_lt (xrs bB))) (below_size xbg)); replace bB := aM (Kd.R_elder' (xrs bB) (Kd.R_base cO) hb); replace aP := xbc aP hb; replace aX := xbc aX hb; replace dS := aM (blk_below (g := dR) (o := .cells #[.int .i64 cZ, .slice jR cP.length jS] 26 (0, 0)) xP hb); replace HB := xbs hb; (try clear hb cO); obtain ⟨dL, dM, dN, dO⟩ := xf2 (w := sE) aX; obtain ⟨nV, nW, nX⟩ := Kd.R_slice gE.out; subst nX))
  refine bodyPost_ret (results_ct rfl _ _ dB 26 #[.int .i64 jH, .slice nV jI.length nW] (0, 0) _ rfl xP Try.underlying26 rfl (by kernel_rfl)) rfl ?_; exact ⟨_, xerr, xrm gE (fun _ _ => trivial), xbg⟩
 ·rw [if_neg c5] at H; obtain ⟨nQ, nR⟩ := bF c5; simp only [Option.some.injEq, Prod.mk.injEq] at H; obtain ⟨rfl, rfl, rfl⟩ := H; go_enter Try.func18, Try.ntmps18
  go_wp2_with (first | ((with_reducible refine gD 3 rfl ?_); refine boxE (N := 3) rfl (cs := #[.int .i64 aI, .slice aW aC.length aV]) (t := 26) ?_; intro jK hg sG hbox hb; have aP := aM (hbox); have jL := aM (xge hg); have jM := aM (xge hg); replace HB := xbs hb; clear hb hbox hg) | ((with_reducible refine gD 6 rfl ?_); refine boxE (N := 6) rfl (cs := #[.int .i64 0, .slice none 0 0]) (t := 26) ?_; intro dB hg lO hbox hb; have jN := aM (xge hg); have jO := aM (xge hg); replace HB := xbs hb; have bZ := nblt aP hg; have cA := nbgt aP hg; replace aP := xbb aP hb; have aX := aM (hbox); clear hb hbox hg; have jT := bZ.out; have jU := cA.out; obtain ⟨lP, lQ, lR, lS⟩ := xf2 (w := lO) aP) | ((with_reducible refine gC 20 rfl ?_); refine goesLY (some 14) rfl Try.func20 #[.agg #[.int .i64 aI, .slice aW aC.length aV], .int .i64 a1, .slice A2 l2.length c2] ?_; (with_reducible refine (impl_JournalLate.calls k aI _ _ aC a1 _ _ l2 cZ cP gQ _ ?side1 ?side2 ?side3 ?side4 A4.out).mono ?_); (case side1 => exact xcb bC); (case side2 => exact bL.out); (case side3 => exact xcb iM); (case side4 => exact mZ.out); rintro e tE ⟨nT, rfl, cO, hb⟩; refine ⟨_, rfl, ?_⟩; have bB := aM (Kd.R_lower cO (below_size xbg)); replace aP := xbb aP hb; replace aX := xbb aX hb; replace HB := xbs hb; (try clear hb cO)) | ((with_reducible refine gD 8 rfl ?_); refine boxE (N := 8) rfl (cs := #[.int .i64 0, .slice none 0 0]) (t := 26) ?_; intro dR hg nY hbox hb; replace bB := xrb bB hb; have jP := aM (xge hg); have jQ := aM (xge hg); replace HB := xbs hb; have cB := nblt aP hg; have cC := nbgt aP hg; have cD := nblt aX hg; have cE := nbgt aX hg; replace aP := xbb aP hb; replace aX := xbb aX hb; have dS := aM (hbox); clear hb hbox hg; have pL := cC.out; have pM := cB.out; have pN := cE.out; have pO := cD.out; obtain ⟨lT, lU, lV, lW⟩ := xf2 (w := nY) dS; obtain ⟨eH, eI, nZ⟩ := Kd.R_slice bB.out; subst nZ; obtain ⟨lX, lY, lZ, mA⟩ := xf2 (w := nY) aX) | ((with_reducible refine gate_store (t := 26) (p := 6) rfl ?_); refine store_event (t := 26) (p := 6) (v := ?vo_w31) (w1 := ((((nY.setCell ⟨dR, 0, none⟩ (.int .i64 cZ)).setCell ⟨dR, 1, none⟩ (.slice eH cP.length eI)).setCell ⟨dB, 0, none⟩ (.int .i64 cZ)).setCell ⟨dB, 1, none⟩ (.slice eH cP.length eI))) ?hg ?ho ?hn ?hr ?_; (case ho | hg | hn => rfl); (case hr => first | (go_simp; done) | (go_simp; rfl)); intro oA hw; replace bB : Aside0 (Kd.R k95 95 oA w.heap.size (fun _ => True) (.slice eH cP.length eI) cP) := xwm hw bB (fun _ _ => trivial); replace aP := xwc hw aP; replace aX : Aside0 (oA.heap[dB]? = some (.cells #[.int .i64 cZ, .slice eH cP.length eI] 26 (0, 0))) := xwp hw; replace dS : Aside0 (oA.heap[dR]? = some (.cells #[.int .i64 cZ, .slice eH cP.length eI] 26 (0, 0))) := xwp hw; replace HB := xbw hw HB; clear hw))
  refine bodyPost_ret (results_ct rfl _ _ dB 26 #[.int .i64 cZ, .slice eH cP.length eI] (0, 0) _ rfl xblk Try.underlying26 rfl (by kernel_rfl)) rfl ?_; exact ⟨_, xerr, by (with_reducible repeat (first | apply Kd.R_alloc | apply Kd.R_drewN | apply Kd.R_drew)); exact bB.out, xbg⟩

/-! ### laws_at: function 21 -/
def laws_at.f (l0 : List Int) (a1 : Int) : Option (Int) := if a1 < (l0.length : Int) then (if 0 ≤ a1 then (some (wrap64 (rd l0 a1))) else (none)) else (some (Int.tmod (wrap64 ((wrap64 (a1 * 7)) + (l0.length : Int))) 256))
set_option maxHeartbeats 8000000 in
set_option maxRecDepth 100000 in
theorem laws_at.calls (A0 : Option Addr) (c0 : Nat) (l0 : List Int) (a1 : Int) (r : Int) (w : World) (pP : Kd.C (Kd.int .u8) w A0 l0.length l0) (pQ : l0.length ≤ c0) (h : laws_at.f l0 a1 = some r) :
 Calls Try.prog 21 #[.slice A0 l0.length c0, .int .i64 a1] w fun e w' => e = .returned (.int .i64 r) ∧ Drawn0 w w' := by
 have sH := aM pP
 have tF := aM pQ
 clear pP pQ
 have H : (if a1 < (l0.length : Int) then (if 0 ≤ a1 then (some (wrap64 (rd l0 a1))) else (none)) else (some (Int.tmod (wrap64 ((wrap64 (a1 * 7)) + (l0.length : Int))) 256))) = some r := h
 clear h
 by_cases c3 : a1 < (l0.length : Int)
 ·rw [if_pos c3] at H; have oC : decide (a1 < (l0.length : Int)) = true := decide_eq_true c3; clear c3; by_cases c4 : 0 ≤ a1
  ·rw [if_pos c4] at H; have sI : decide (0 ≤ a1) = true := decide_eq_true c4; clear c4; obtain rfl := Option.some.inj H; have p831 : 0 ≤ (a1 : Int) := oda; have q831 : a1 < (l0.length : Int) := oda; obtain ⟨pR, oD, mB⟩ := Kd.at_int sH.out a1 p831 q831; cases oD
   replace p831 := eq_true p831; replace q831 := eq_true q831; go_enter Try.func21, Try.ntmps21
   go_wp2; go_ret
   exact ⟨u16_0, by repeat (first | exact Drawn0.refl _ | apply Drawn0.step)⟩
  ·rw [if_neg c4] at H; exact absurd H (by simp)
 ·rw [if_neg c3] at H; have oC : decide (a1 < (l0.length : Int)) = false := decide_eq_false c3; clear c3; obtain rfl := Option.some.inj H; go_enter Try.func21, Try.ntmps21
  go_wp2; go_ret
  exact ⟨u16_0, by repeat (first | exact Drawn0.refl _ | apply Drawn0.step)⟩

/-! ### impl_DiskCrash: function 22 -/
mutual
def impl_DiskCrash.j0 : Nat → List Int → Bool → Int → List (S95) → Option (Int × (List (S95)))
 | 0, _, _, _, _ => none
 | k + 1, x1, sJ, fH, dP => if sJ = true then (some (0, ([] : List (S95)))) else ((impl_copyDisk.f fH dP).bind fun gF => (impl_DiskCrash.l0 k x1 dP (dP.length : Int) 0 gF.1 gF.2))
def impl_DiskCrash.l0 : Nat → List Int → List (S95) → Int → Int → Int → List (S95) → Option (Int × (List (S95)))
 | 0, _, _, _, _, _, _ => none
 | k + 1, x1, dU, oE, bY, dQ, bU => if bY < oE then (if 0 ≤ bY then (if bY < (dU.length : Int) then (if bY < (x1.length : Int) then (if 0 ≤ (mn (mx (rd x1 bY) 0) (((rd_T95 dU bY).f2).size : Int)) then (if (mn (mx (rd x1 bY) 0) (((rd_T95 dU bY).f2).size : Int)) ≤ (((rd_T95 dU bY).f2).size : Int) then (if ((rd_T95 dU bY).f1).size + (((rd_T95 dU bY).f2).extract 0 ((mn (mx (rd x1 bY) 0) (((rd_T95 dU bY).f2).size : Int)) : Int).toNat).size ≤ 9223372036854775807 then (if bY < (bU.length : Int) then (impl_DiskCrash.l0 k x1 dU oE (wrap64 (bY + 1)) dQ (bU.set (bY : Int).toNat (⟨(rd_T95 dU bY).f0, ((rd_T95 dU bY).f1) ++ (((rd_T95 dU bY).f2).extract 0 ((mn (mx (rd x1 bY) 0) (((rd_T95 dU bY).f2).size : Int)) : Int).toNat), (⟨#[]⟩ : ByteArray)⟩ : S95))) else (none)) else (none)) else (none)) else (none)) else (if 0 ≤ 0 then (if 0 ≤ (((rd_T95 dU bY).f2).size : Int) then (if ((rd_T95 dU bY).f1).size ≤ 9223372036854775807 then (if bY < (bU.length : Int) then (impl_DiskCrash.l0 k x1 dU oE (wrap64 (bY + 1)) dQ (bU.set (bY : Int).toNat (⟨(rd_T95 dU bY).f0, ((rd_T95 dU bY).f1), (⟨#[]⟩ : ByteArray)⟩ : S95))) else (none)) else (none)) else (none)) else (none))) else (none)) else (none)) else (some (dQ, bU))
end
def impl_DiskCrash.f (k : Nat) (aI : Int) (aC : List (S95)) (l1 : List Int) : Option (Int × (List (S95))) := (impl_DiskOk.f k aI aC).bind fun eU => (if eU = true then (impl_DiskCrash.j0 k l1 (decide ((l1.length : Int) > 8)) aI aC) else (impl_DiskCrash.j0 k l1 true aI aC))
theorem u16_mq2 {p : Prop} (h : p := by repeat' first | (with_reducible first | exact iH _ _ _ _ | exact iI _ _ _ _ _ _ | exact impl_DiskOk.mono _ _ _ | exact LeO.refl _ | exact LeO.none _ | refine LeO.ite ?_ ?_ | refine LeO.bind ?_ (fun _ => ?_)) | exact LeO.none _ | refine LeO.ite ?_ ?_ | refine LeO.bind ?_ (fun _ => ?_)) : p := h
set_option maxRecDepth 100000 in
theorem impl_DiskCrash.mono_l : ∀ k, (∀ y0 y1 y2 y3, LeO (impl_DiskCrash.j0 k y0 y1 y2 y3) (impl_DiskCrash.j0 (k + 1) y0 y1 y2 y3)) ∧ (∀ y0 y1 y2 y3 y4 y5, LeO (impl_DiskCrash.l0 k y0 y1 y2 y3 y4 y5) (impl_DiskCrash.l0 (k + 1) y0 y1 y2 y3 y4 y5))
 | 0 => ⟨fun _ _ _ _ r h => by simp [impl_DiskCrash.j0] at h, fun _ _ _ _ _ _ r h => by simp [impl_DiskCrash.l0] at h⟩
 | k + 1 => by
  obtain ⟨iH, iI⟩ := impl_DiskCrash.mono_l k; refine ⟨?_, ?_⟩
  ·intro y0 y1 y2 y3; unfold impl_DiskCrash.j0; exact u16_mq2
  ·intro y0 y1 y2 y3 y4 y5; unfold impl_DiskCrash.l0; exact u16_mq2
theorem impl_DiskCrash.mono : ∀ a0 a1 a2 k, LeO (impl_DiskCrash.f k a0 a1 a2) (impl_DiskCrash.f (k + 1) a0 a1 a2) := by
 intro a0 a1 a2 k
 obtain ⟨iH, iI⟩ := impl_DiskCrash.mono_l k
 unfold impl_DiskCrash.f
 exact u16_mq2
def impl_DiskCrash.T9 : Bool × List (List Nat × List Nat) := (true, [([], []), ([], []), ([0, 1], [0, 1]), ([2], [2]), ([3], [3]), ([], []), ([5], [5]), ([6], [6]), ([4, 7], [4, 7]), ([8, 0, 1, 2, 3, 4, 5, 6, 7, 8], [8])])
def impl_DiskCrash.B9 : List Nat := [0, 0, 3, 7, 15, 0, 32, 96, 255, 511]
def impl_DiskCrash.T10 : Bool × List (List Nat × List Nat) := (true, [([], []), ([0], [0]), ([], []), ([], []), ([3], [3]), ([], []), ([5], [5]), ([], []), ([7], [7]), ([], []), ([8, 9], [8, 9]), ([6, 10], [6, 10]), ([4, 11], [4, 11]), ([1, 2, 0, 1, 2, 3, 4, 5, 6, 7, 8, 9, 10, 11, 12], [1, 2]), ([13, 12, 0, 1, 2, 3, 4, 5, 6, 7, 8, 9, 10, 11, 12], [12, 13])])
def impl_DiskCrash.B10 : List Nat := [0, 1, 0, 0, 8, 0, 32, 0, 128, 0, 896, 2016, 4088, 8191, 16383]
theorem impl_DiskCrash.tab10 : rtab .any (opsOf Try.f22 10) = impl_DiskCrash.T10 := by kernel_rfl
theorem impl_DiskCrash.bits10 : waitsOk impl_DiskCrash.T10.2 impl_DiskCrash.B10 = true := by kernel_rfl
set_option maxHeartbeats 8000000 in
set_option maxRecDepth 100000 in
theorem impl_DiskCrash.calls (k : Nat) (aI : Int) (aW : Option Addr) (aV : Nat) (aC : List (S95)) (A1 : Option Addr) (c1 : Nat) (l1 : List Int) (r1 : Int) (r2 : List (S95)) (w : World) (cL : Kd.C k95 w aW aC.length aC) (cM : aC.length ≤ aV) (pS : Kd.C (Kd.int .i64) w A1 l1.length l1) (pT : l1.length ≤ c1) (h : impl_DiskCrash.f k aI aC l1 = some (r1, r2)) :
 Calls Try.prog 22 #[.agg #[.int .i64 aI, .slice aW aC.length aV], .slice A1 l1.length c1] w fun e w' => ∃ v1_ : Value, e = .returned (.agg #[.int .i64 r1, v1_]) ∧ Kd.R k95 95 w' w.heap.size (fun _ => True) v1_ r2 ∧ Below w.heap.size w w' := by
 have iL := Try.underlying26
 have sK := Try.underlying95
 have bC := aM cL
 have bL := aM cM
 clear cL cM
 have sL := aM pS
 have tG := aM pT
 clear pS pT
 have HB := aM (Below.refl w.heap.size w)
 have H : ((impl_DiskOk.f k aI aC).bind fun eU => (if eU = true then (impl_DiskCrash.j0 k l1 (decide ((l1.length : Int) > 8)) aI aC) else (impl_DiskCrash.j0 k l1 true aI aC))) = some (r1, r2) := h
 clear h
 have oF := aM H
 clear H
 go_enter Try.func22, Try.ntmps22
 go_upto_region 1 with (first | ((with_reducible refine gD 2 rfl ?_); (try (refine gate_guard (by rfl) ?_; dsimp only)); refine boxE (N := 2) rfl (cs := #[.int .i64 aI, .slice aW aC.length aV]) (t := 26) ?_; intro eA hg w4 hbox hb; have aH := aM (hbox); have pW := aM (xge hg); have gG := aM (xge hg); replace HB := xbs hb; clear hb hbox hg) | ((with_reducible refine gD 4 rfl ?_); (try (refine gate_guard (by rfl) ?_; dsimp only)); refine boxE (N := 4) rfl (cs := #[.int .i64 0, .slice none 0 0]) (t := 26) ?_; intro dC hg w5 hbox hb; have pX := aM (xge hg); have gH := aM (xge hg); replace HB := xbs hb; have bG := nblt aH hg; have bH := nbgt aH hg; replace aH := xbb aH hb; have aJ := aM (hbox); clear hb hbox hg))
 (try simp only [Act.put, List.setIfInBounds_toArray, List.set_cons_zero, List.set_cons_succ])
 go_cut [16] (fun sM wc => ∃ (kq : Nat) (eB : Bool), sM = .bool eB ∧ Aside0 (impl_DiskCrash.j0 kq l1 eB aI aC = some (r1, r2)) ∧ Aside0 (kq ≤ k) ∧ Aside0 (wc.heap[eA]? = some (.cells #[.int .i64 aI, (.slice aW aC.length aV)] 26 (0, 0))) ∧ Aside0 (wc.heap[dC]? = some (.cells #[.int .i64 0, (.slice none 0 0)] 26 (0, 0))) ∧ Aside0 (Below w.heap.size w wc))
 case first =>
  have H := oF.out; clear oF; replace H := oB H; obtain ⟨eU, jJ, H⟩ := H; (try dsimp only at H); have A6 := aM jJ; clear jJ
  by_cases c7 : eU = true
  ·subst c7; replace H := iT H; have H' := aM H; clear H; have sN := bG.out; have sO := bH.out; obtain ⟨eV, eW, eX, eY⟩ := xf2 (w := w5) aH; go_wp2_with (first | ((with_reducible refine gC 72 rfl ?_); refine goesLY (some 10) rfl Try.func72 #[.agg #[.int .i64 aI, .slice aW aC.length aV]] ?_; (with_reducible refine (impl_DiskOk.calls k aI _ _ aC true _ ?side1 ?side2 A6.out).mono ?_); (case side1 => exact xcb bC); (case side2 => exact bL.out); rintro e tH ⟨rfl, hb⟩; refine ⟨_, rfl, ?_⟩; replace aH := xbb aH hb; replace aJ := xbb aJ hb; replace HB := xbs hb; (try clear hb)))
   go_meet
   case rel => exact ⟨_, (decide ((l1.length : Int) > 8)), u16_0, H', ⟨u16_4⟩, ⟨xblk⟩, ⟨xblk⟩, ⟨xbg⟩⟩
  ·replace c7 := Bool.eq_false_iff.mpr c7; subst c7; replace H := iN H; have H' := aM H; clear H; have iO := bG.out; have iP := bH.out; obtain ⟨bN, bO, bP, bQ⟩ := xf2 (w := w5) aH; go_wp2_with (first | ((with_reducible refine gC 72 rfl ?_); refine goesLY (some 10) rfl Try.func72 #[.agg #[.int .i64 aI, .slice aW aC.length aV]] ?_; (with_reducible refine (impl_DiskOk.calls k aI _ _ aC false _ ?side1 ?side2 A6.out).mono ?_); (case side1 => exact xcb bC); (case side2 => exact bL.out); rintro e rS ⟨rfl, hb⟩; refine ⟨_, rfl, ?_⟩; replace aH := xbb aH hb; replace aJ := xbb aJ hb; replace HB := xbs hb; (try clear hb)))
   go_meet
   case rel => exact ⟨_, (true), u16_0, H', ⟨u16_4⟩, ⟨xblk⟩, ⟨xblk⟩, ⟨xbg⟩⟩
 case rest =>
  clear oF; try clear c1
  try clear c2
  try clear p2
  try clear c7
  try clear c8
  try clear nB
  try clear bN bO
  try clear eV eW
  try clear bP bQ
  try clear eX eY
  obtain ⟨kq, eB, rfl, HA, HJ2, aH, aJ, HB⟩ := hcut; cases kq with
  | zero => exact absurd HA.out (by simp [impl_DiskCrash.j0])
  | succ pY =>
   have H := HA.out; clear HA; simp only [impl_DiskCrash.j0] at H; by_cases gO : eB = true
   ·subst gO; replace H := iT H; simp only [Option.some.injEq, Prod.mk.injEq] at H; obtain ⟨rfl, rfl⟩ := H; have pZ := bH.out; have qA := bG.out; obtain ⟨fI, fJ, fK, fL⟩ := xf2 (w := wc) aJ; go_wp2; refine bodyPost_ret (results_cell_row rfl _ _ dC 26 #[.int .i64 0, .slice none 0 0] (0, 0) _ rfl xP Try.underlying26 rfl (by kernel_rfl)) rfl ?_; exact ⟨_, xerr, u16_6, xbg⟩
   ·replace gO := Bool.eq_false_iff.mpr gO; subst gO; replace H := iN H; replace H := oB H; obtain ⟨⟨cQ, gR⟩, jV, H⟩ := H; (try dsimp only at H); have sP := aM jV; clear jV
    have H' := aM H; clear H; have qB := bG.out; have qC := bH.out; obtain ⟨fM, fN, fO, fP⟩ := xf2 (w := wc) aH; go_wp2_with (first | ((with_reducible refine gC 80 rfl ?_); refine goesLY (some 19) rfl Try.func80 #[.agg #[.int .i64 aI, .slice aW aC.length aV]] ?_; (with_reducible refine (impl_copyDisk.calls aI _ _ aC cQ gR _ ?side1 ?side2 sP.out).mono ?_); (case side1 => exact xcb bC); (case side2 => exact bL.out); rintro e sG ⟨sQ, rfl, cO, hb⟩; refine ⟨_, rfl, ?_⟩; have eC := aM (Kd.R_lower cO (below_size xbg)); replace aH := xbb aH hb; replace aJ := xbb aJ hb; replace HB := xbs hb; (try clear hb cO)) | ((with_reducible refine gD 5 rfl ?_); (try (refine gate_guard (by rfl) ?_; dsimp only)); refine boxE (N := 5) rfl (cs := #[.int .i64 0, .slice none 0 0]) (t := 26) ?_; intro cX hg lO hbox hb; replace eC := xrb eC hb; have qD := aM (xge hg); have gI := aM (xge hg); replace HB := xbs hb; have dD := nblt aH hg; have dE := nbgt aH hg; have dF := nblt aJ hg; have dG := nbgt aJ hg; replace aH := xbb aH hb; replace aJ := xbb aJ hb; have aK := aM (hbox); clear hb hbox hg; have jT := dE.out; have jU := dD.out; have qE := dG.out; have qF := dF.out; obtain ⟨fQ, fR, fS, fT⟩ := xf2 (w := lO) aK; obtain ⟨oG, oH, oI⟩ := Kd.R_slice eC.out; subst oI; obtain ⟨fU, fV, fW, fX⟩ := xf2 (w := lO) aH))
    go_loopg [23] pY (fun kq sR w' => ∃ (aA : Int) (aE : List (S95)) (bJ : Value), sR = .int .i64 aA ∧ Aside0 (impl_DiskCrash.l0 kq l1 aC (aC.length : Int) aA cQ aE = some (r1, r2)) ∧ Aside0 (kq ≤ pY) ∧ Aside0 (Kd.R k95 95 w' w.heap.size (fun _ => True) bJ aE) ∧ Aside0 (w'.heap[eA]? = some (.cells #[.int .i64 aI, (.slice aW aC.length aV)] 26 (0, 0))) ∧ Aside0 (w'.heap[dC]? = some (.cells #[.int .i64 0, (.slice none 0 0)] 26 (0, 0))) ∧ Aside0 (w'.heap[cX]? = some (.cells #[.int .i64 cQ, bJ] 26 (0, 0))) ∧ Aside0 (Below w.heap.size w w'))
    case atStart => exact ⟨(0), (gR), (.slice oG gR.length oH), u16_0, H', ⟨Nat.le_refl _⟩, ⟨xrm eC (fun _ _ => trivial)⟩, ⟨xB⟩, ⟨xB⟩, ⟨xP⟩, ⟨xbg⟩⟩
    case round =>
     clear H'; try clear c1
     try clear c2
     try clear p2
     try clear c7
     try clear c8
     try clear nB
     try clear gO
     try clear tI
     try clear tJ
     try clear tL
     try clear tM
     try clear bN bO
     try clear fI fJ
     try clear fM fN
     try clear fQ fR
     try clear fU fV
     try clear eV eW
     try clear bP bQ
     try clear fK fL
     try clear fO fP
     try clear fS fT
     try clear fW fX
     try clear eX eY
     try clear p2
     obtain ⟨aA, aE, bJ, rfl, HA, HK2, aD, aH, aJ, aK, HB⟩ := hrel; cases gk with
     | zero => exact absurd HA.out (by simp [impl_DiskCrash.l0])
     | succ k2 =>
      have H := HA.out; clear HA; simp only [impl_DiskCrash.l0] at H; by_cases eN : aA < (aC.length : Int)
      ·rw [if_pos eN] at H; have gA : decide (aA < (aC.length : Int)) = true := decide_eq_true eN; clear eN; by_cases eO : 0 ≤ aA
       ·rw [if_pos eO] at H; have iX : decide (0 ≤ aA) = true := decide_eq_true eO; clear eO; by_cases mC : aA < (aC.length : Int)
        ·rw [if_pos mC] at H; have qG : decide (aA < (aC.length : Int)) = true := decide_eq_true mC; clear mC; by_cases eQ : aA < (l1.length : Int)
         ·rw [if_pos eQ] at H; have jW : decide (aA < (l1.length : Int)) = true := decide_eq_true eQ; clear eQ; obtain ⟨ji31, hji31⟩ : ∃ j_ : Int, (mx (rd l1 aA) 0) = j_ := ⟨_, rfl⟩; replace H : (if 0 ≤ (mn (ji31) (((rd_T95 aC aA).f2).size : Int)) then (if (mn (ji31) (((rd_T95 aC aA).f2).size : Int)) ≤ (((rd_T95 aC aA).f2).size : Int) then (if ((rd_T95 aC aA).f1).size + (((rd_T95 aC aA).f2).extract 0 ((mn (ji31) (((rd_T95 aC aA).f2).size : Int)) : Int).toNat).size ≤ 9223372036854775807 then (if aA < (aE.length : Int) then (impl_DiskCrash.l0 k2 l1 aC (aC.length : Int) (wrap64 (aA + 1)) cQ (aE.set (aA : Int).toNat (⟨(rd_T95 aC aA).f0, ((rd_T95 aC aA).f1) ++ (((rd_T95 aC aA).f2).extract 0 ((mn (ji31) (((rd_T95 aC aA).f2).size : Int)) : Int).toNat), (⟨#[]⟩ : ByteArray)⟩ : S95))) else (none)) else (none)) else (none)) else (none)) = some (r1, r2) := by first | (rw [hji31] at H; exact H) | (simp only [hji31] at H ⊢; exact H)
          have hji31_ : (if (rd l1 aA) < 0 then 0 else (rd l1 aA)) = ji31 := hji31; obtain ⟨ji32, hji32⟩ : ∃ j_ : Int, (mn (ji31) (((rd_T95 aC aA).f2).size : Int)) = j_ := ⟨_, rfl⟩; replace H : (if 0 ≤ (ji32) then (if (ji32) ≤ (((rd_T95 aC aA).f2).size : Int) then (if ((rd_T95 aC aA).f1).size + (((rd_T95 aC aA).f2).extract 0 ((ji32) : Int).toNat).size ≤ 9223372036854775807 then (if aA < (aE.length : Int) then (impl_DiskCrash.l0 k2 l1 aC (aC.length : Int) (wrap64 (aA + 1)) cQ (aE.set (aA : Int).toNat (⟨(rd_T95 aC aA).f0, ((rd_T95 aC aA).f1) ++ (((rd_T95 aC aA).f2).extract 0 ((ji32) : Int).toNat), (⟨#[]⟩ : ByteArray)⟩ : S95))) else (none)) else (none)) else (none)) else (none)) = some (r1, r2) := by first | (rw [hji32] at H; exact H) | (simp only [hji32] at H ⊢; exact H)
          have hji32_ : (if (((rd_T95 aC aA).f2).size : Int) < (ji31) then (((rd_T95 aC aA).f2).size : Int) else (ji31)) = ji32 := hji32; by_cases jX : 0 ≤ (ji32)
          ·rw [if_pos jX] at H; have qH := eq_true jX; have qI : decide (0 ≤ (ji32)) = true := decide_eq_true jX; clear jX; by_cases jY : (ji32) ≤ (((rd_T95 aC aA).f2).size : Int)
           ·rw [if_pos jY] at H; have qJ := eq_true jY; have qK : decide ((ji32) ≤ (((rd_T95 aC aA).f2).size : Int)) = true := decide_eq_true jY; clear jY; by_cases iF : ((rd_T95 aC aA).f1).size + (((rd_T95 aC aA).f2).extract 0 ((ji32) : Int).toNat).size ≤ 9223372036854775807
            ·rw [if_pos iF] at H; have c35x : (9223372036854775807 < ((rd_T95 aC aA).f1).size + ((ji32) : Int).toNat) = False := eq_false (by have h_ := iF; have k_ : ((ji32) : Int) ≤ (((rd_T95 aC aA).f2).size : Int) := oda; rw [ByteArray.size_extract] at h_; omega); have qL := eq_true iF; have qM : decide (((rd_T95 aC aA).f1).size + (((rd_T95 aC aA).f2).extract 0 ((ji32) : Int).toNat).size ≤ 9223372036854775807) = true := decide_eq_true iF; try have qN : (9223372036854775807 < ((rd_T95 aC aA).f1).size + (((rd_T95 aC aA).f2).extract 0 ((ji32) : Int).toNat).size) = False := eq_false (Nat.not_lt.2 iF)
             by_cases mD : aA < (aE.length : Int)
             ·rw [if_pos mD] at H; have qO : decide (aA < (aE.length : Int)) = true := decide_eq_true mD; clear mD; obtain ⟨jZ, hY⟩ : ∃ y_ : List (S95), y_ = (aE.set (aA : Int).toNat (⟨(rd_T95 aC aA).f0, ((rd_T95 aC aA).f1) ++ (((rd_T95 aC aA).f2).extract 0 ((ji32) : Int).toNat), (⟨#[]⟩ : ByteArray)⟩ : S95)) := ⟨_, rfl⟩; replace H : (impl_DiskCrash.l0 k2 l1 aC (aC.length : Int) (wrap64 (aA + 1)) cQ jZ) = some (r1, r2) := u16_5; have kA := aM hY; clear hY; have H' := aM H; clear H; have p840 : 0 ≤ (aA : Int) := oda; have q840 : aA < (aC.length : Int) := oda; obtain ⟨eZ, gS, bV, bW, bX⟩ := at_T95 bC.out aA p840 q840; cases gS
              replace bV := xce HB bV; replace bW := xce HB bW; replace bX := xce HB bX; replace p840 := eq_true p840; replace q840 := eq_true q840; try go_wp2_with (first | ((with_reducible refine gD 7 rfl ?_); (try (refine gate_guard (by rfl) ?_; dsimp only)); refine boxE (N := 7) rfl (cs := #[.int .i64 0, .string (⟨#[]⟩ : ByteArray), .string (⟨#[]⟩ : ByteArray)]) (t := 95) ?_; intro aG hg fG hbox hb; replace aD := aM (Kd.R_below (Kd.R_elderB (xr aD) aG (Nat.le_of_eq hg.symm)) hb); have kB := aM (xge hg); have fA := aM (xge hg); replace HB := xbs hb; have cF := nblt aH hg; have cG := nbgt aH hg; have cH := nblt aJ hg; have cI := nbgt aJ hg; have cJ := nblt aK hg; have cK := nbgt aK hg; replace aH := xbb aH hb; replace aJ := xbb aJ hb; replace aK := xbb aK hb; have aU := aM (hbox); clear hb hbox hg; have qP := cG.out; have qQ := cF.out; have qR := cI.out; have qS := cH.out; have qT := cK.out; have qU := cJ.out; obtain ⟨mE, mF, mG, mH, mI, mJ⟩ := xf3 (w := fG) aU))
              have n0_ : Aside0 (Kd.R k95 95 (((fG.setCell ⟨aG, 0, none⟩ (.int .i64 ((rd_T95 aC aA).f0))).setCell ⟨aG, 1, none⟩ (.string ((rd_T95 aC aA).f1))).setCell ⟨aG, 2, none⟩ (.string ((rd_T95 aC aA).f2))) w.heap.size (fun k_ => k_ ≠ aG) bJ aE) := ⟨u16_8⟩; have n1_ : Aside0 ((((fG.setCell ⟨aG, 0, none⟩ (.int .i64 ((rd_T95 aC aA).f0))).setCell ⟨aG, 1, none⟩ (.string ((rd_T95 aC aA).f1))).setCell ⟨aG, 2, none⟩ (.string ((rd_T95 aC aA).f2))).heap[eA]? = some (.cells #[.int .i64 aI, .slice (some eZ) aC.length aV] 26 (0, 0))) := ⟨xB⟩; have n2_ : Aside0 ((((fG.setCell ⟨aG, 0, none⟩ (.int .i64 ((rd_T95 aC aA).f0))).setCell ⟨aG, 1, none⟩ (.string ((rd_T95 aC aA).f1))).setCell ⟨aG, 2, none⟩ (.string ((rd_T95 aC aA).f2))).heap[dC]? = some (.cells #[.int .i64 0, .slice none 0 0] 26 (0, 0))) := ⟨xB⟩; have n3_ : Aside0 ((((fG.setCell ⟨aG, 0, none⟩ (.int .i64 ((rd_T95 aC aA).f0))).setCell ⟨aG, 1, none⟩ (.string ((rd_T95 aC aA).f1))).setCell ⟨aG, 2, none⟩ (.string ((rd_T95 aC aA).f2))).heap[cX]? = some (.cells #[.int .i64 cQ, bJ] 26 (0, 0))) := ⟨xB⟩; have n4_ : Aside0 ((((fG.setCell ⟨aG, 0, none⟩ (.int .i64 ((rd_T95 aC aA).f0))).setCell ⟨aG, 1, none⟩ (.string ((rd_T95 aC aA).f1))).setCell ⟨aG, 2, none⟩ (.string ((rd_T95 aC aA).f2))).heap[aG]? = some (.cells #[.int .i64 ((rd_T95 aC aA).f0), .string ((rd_T95 aC aA).f1), .string ((rd_T95 aC aA).f2)] 95 (0, 0))) := ⟨xP⟩; have n5_ : Aside0 (Below w.heap.size w (((fG.setCell ⟨aG, 0, none⟩ (.int .i64 ((rd_T95 aC aA).f0))).setCell ⟨aG, 1, none⟩ (.string ((rd_T95 aC aA).f1))).setCell ⟨aG, 2, none⟩ (.string ((rd_T95 aC aA).f2)))) := ⟨xbg⟩; (try clear aD); (try clear aH); (try clear aJ); (try clear aK); (try clear aU); (try clear HB)
              generalize (((fG.setCell ⟨aG, 0, none⟩ (.int .i64 ((rd_T95 aC aA).f0))).setCell ⟨aG, 1, none⟩ (.string ((rd_T95 aC aA).f1))).setCell ⟨aG, 2, none⟩ (.string ((rd_T95 aC aA).f2))) = sS at n0_ n1_ n2_ n3_ n4_ n5_ ⊢; have aD := n0_; have aH := n1_; have aJ := n2_; have aK := n3_; have aU := n4_; have HB := n5_; clear n0_ n1_ n2_ n3_ n4_ n5_; replace aD := rD aD; replace aH := bD aH; replace aJ := bD aJ; replace aK := bD aK; replace aU := bD aU; replace HB := lD HB; have p842 : 0 ≤ (aA : Int) := oda; have q842 : aA < (l1.length : Int) := oda; obtain ⟨kC, oJ, cU⟩ := Kd.at_int sL.out aA p842 q842; have fY := cU; cases oJ
              replace cU := xce HB cU; replace p842 := eq_true p842; replace q842 := eq_true q842; refine st_ 10 (fun w' => w'.cell? ⟨aG, 0, none⟩ = some (.int .i64 ((rd_T95 aC aA).f0)) ∧ w'.cell? ⟨aG, 1, none⟩ = some (.string ((rd_T95 aC aA).f1)) ∧ w'.cell? ⟨aG, 2, none⟩ = some (.string ((rd_T95 aC aA).f2)) ∧ w'.cell? (kC.add (aA).toNat) = some (.int .i64 (rd l1 aA))) impl_DiskCrash.T9 impl_DiskCrash.B9 ⟨xc aU 0 rfl, xc aU 1 rfl, xc aU 2 rfl, (xce HB fY)⟩ (fun hHeld HT_ HW_ => ?_); generalize sS.drew = sU at aD aH aJ aK aU HB cU hHeld ⊢; refine pV 0 32 ?_; refine pV 1 33 ?_; refine pV 2 34 ?_; refine pV 5 37 ?_; refine tK 3 35 ?_; refine pV 4 36 ?_; refine tK 6 38 ?_; refine pV 7 39 ?_; refine pV 8 40 ?_; refine pV 9 8 ?_; refine dn_ ?_; try go_wp2
              replace aD := rD aD; replace aH := bD aH; replace aJ := bD aJ; replace aK := bD aK; replace aU := bD aU; replace HB := lD HB; have p37 : 0 ≤ (aA : Int) := oda; have q37 : (aA : Int) < ((aE.length : Int) : Int) := oda; obtain ⟨dV, eS, fF, kE, gl37, cl37, HG37⟩ := Kd.R_form aD.out (by omega); (first | cases fF | (injection fF with ea_ en_ ec_; (first | subst ea_ | (injection ea_ with ea_; subst ea_)); subst ec_; clear en_)); have GB37 := aM kE; have GG37 := aM HG37; clear kE gl37 HG37; obtain ⟨ce37, kF, kG, eD, eE⟩ := Kd.R_elem aD.out z95 (aA : Int) p37 q37; obtain rfl := k95_openM kG; have gT : World.cell? _ ⟨dV, (aA : Int).toNat * 3, none⟩ = some (.int .i64 ((rd_T95 aE aA).f0)) := eD 0 _ rfl; have gU : World.cell? _ ⟨dV, (aA : Int).toNat * 3 + 1, none⟩ = some (.string ((rd_T95 aE aA).f1)) := eD 1 _ rfl; have gV : World.cell? _ ⟨dV, (aA : Int).toNat * 3 + 2, none⟩ = some (.string ((rd_T95 aE aA).f2)) := eD 2 _ rfl; have gW : World.frozen? _ ⟨dV, (aA : Int).toNat * 3, none⟩ = false := eE 0; have gX : World.frozen? _ ⟨dV, (aA : Int).toNat * 3 + 1, none⟩ = false := eE 1; have gY : World.frozen? _ ⟨dV, (aA : Int).toNat * 3 + 2, none⟩ = false := eE 2; clear kF eD eE kG; replace p37 := eq_true p37; replace q37 := eq_true q37; obtain ⟨ce46, gJ, kH, gK, kI⟩ := Kd.R_elem aD.out z95 (aA : Int) (oda) (by have h_ : (aA : Int) < ((aE.length : Int) : Int) := oda; first | exact h_ | (have e_ := (Kd.R_reads' aD.out).1; omega) | simpa using h_); obtain rfl := k95_openM kH; have gZ := (Kd.R_seg aD.out (aA : Int) (oda) (by have h_ : (aA : Int) < ((aE.length : Int) : Int) := oda; first | exact h_ | (have e_ := (Kd.R_reads' aD.out).1; omega) | simpa using h_) (seg := [.int .i64 ((rd_T95 aC aA).f0), .string (((rd_T95 aC aA).f1) ++ (((rd_T95 aC aA).f2).extract 0 ((ji32) : Int).toNat)), .string (⟨#[]⟩ : ByteArray)]) (j := 0) gJ gK (show 3 ≤ 3 from by decide) (x' := (⟨(rd_T95 aC aA).f0, ((rd_T95 aC aA).f1) ++ (((rd_T95 aC aA).f2).extract 0 ((ji32) : Int).toNat), (⟨#[]⟩ : ByteArray)⟩ : S95)) (k95_mkM _ _ _ (⟨(rd_T95 aC aA).f0, ((rd_T95 aC aA).f1) ++ (((rd_T95 aC aA).f2).extract 0 ((ji32) : Int).toNat), (⟨#[]⟩ : ByteArray)⟩ : S95) ) (fun _ hk => hk)).1; rw [← kA.out] at gZ; have HQ46 := aM gZ; clear gJ gK kI kH gZ; refine start_ (n := 15) (S := fun w' => w'.cell? ⟨cX, 0, none⟩ = some (.int .i64 cQ) ∧ w'.cell? ⟨cX, 1, none⟩ = some (.slice (some ⟨dV, 0, none⟩) aE.length eS) ∧ w'.cell? ⟨aG, 0, none⟩ = some (.int .i64 ((rd_T95 aC aA).f0)) ∧ w'.cell? ⟨aG, 1, none⟩ = some (.string ((rd_T95 aC aA).f1)) ∧ w'.cell? ⟨aG, 2, none⟩ = some (.string ((rd_T95 aC aA).f2))) (ds := [14]) #[false, false, false, false, false, false, false, false, false, false, false, false, false, false, false] (by kernel_rfl) rfl rfl ⟨xc aK 0 rfl, xc aK 1 rfl, xc aU 0 rfl, xc aU 1 rfl, xc aU 2 rfl⟩ (fun hHeld => ?_); refine with_tabW impl_DiskCrash.tab10 impl_DiskCrash.bits10 (fun HT_ HW_ => ?_); generalize sU.drew = tN at aD aH aJ aK aU HB GG37 HQ46 gW gX gY gT gU gV hHeld ⊢; refine pV 0 41 ?_; refine pV 2 43 ?_; refine pV 3 44 ?_; refine pV 5 46 ?_; refine pV 7 48 ?_; refine pV 9 50 ?_; refine tK 1 42 ?_; refine tK 4 45 ?_; refine tK 6 47 ?_; refine tK 8 49 ?_; refine pV 10 51 ?_; refine pV 11 52 ?_; refine pV 12 53 ?_; refine pV 13 54 ?_; refine last_ (i := 14) (N := none) #[true, true, true, true, true, true, true, true, true, true, true, true, true, true, true] rfl rfl (one_of HT_.out (by kernel_rfl)) (by decide) (fun K hK => ?_); refine skip_ (w1 := ?_) (by rfl) rfl ?_ ?_; rotate_left
              ·go_simp
               rfl
              refine hK.out _ _ ?_; clear hK K; refine dn_ ?_; try go_wp2
              go_roundg k2
              case measure => have := HJ2.out; have := HK2.out; omega
              case rel => exact ⟨(wrap64 (aA + 1)), (jZ), (.slice (some ⟨dV, 0, none⟩) aE.length eS), u16_0, H', ⟨by have := HJ2.out; have := HK2.out; omega⟩, ⟨by (with_reducible repeat (first | apply Kd.R_alloc | apply Kd.R_drewN | apply Kd.R_drew)); exact Kd.R_mono HQ46.out (fun _ hk => trivial)⟩, ⟨u16_9⟩, ⟨u16_10⟩, ⟨u16_11⟩, ⟨by repeat (first | (with_reducible first | exact HB.out | apply below_alloc | apply pw_below_drewN | apply below_drew1 | refine below_set ?_ GB37.out | refine below_set ?_ GB37.out | refine below_set ?_ GB37.out | refine below_set ?_ gG.out | refine below_set ?_ gH.out | refine below_set ?_ gI.out | refine below_set ?_ fA.out) | exact HB.out)⟩⟩
             ·rw [if_neg mD] at H; exact absurd H (by simp)
            ·rw [if_neg iF] at H; exact absurd H (by simp)
           ·rw [if_neg jY] at H; exact absurd H (by simp)
          ·rw [if_neg jX] at H; exact absurd H (by simp)
         ·rw [if_neg eQ] at H; have jW : decide (aA < (l1.length : Int)) = false := decide_eq_false eQ; clear eQ; by_cases kJ : 0 ≤ 0
          ·rw [if_pos kJ] at H; have qV := eq_true kJ; have qW : decide (0 ≤ 0) = true := decide_eq_true kJ; clear kJ; by_cases kK : 0 ≤ (((rd_T95 aC aA).f2).size : Int)
           ·rw [if_pos kK] at H; have qX := eq_true kK; have qY : decide (0 ≤ (((rd_T95 aC aA).f2).size : Int)) = true := decide_eq_true kK; clear kK; by_cases iG : ((rd_T95 aC aA).f1).size ≤ 9223372036854775807
            ·rw [if_pos iG] at H; have qZ := eq_true iG; have rA : decide (((rd_T95 aC aA).f1).size ≤ 9223372036854775807) = true := decide_eq_true iG; try have rB : (9223372036854775807 < ((rd_T95 aC aA).f1).size) = False := eq_false (Nat.not_lt.2 iG)
             clear iG; by_cases mK : aA < (aE.length : Int)
             ·rw [if_pos mK] at H; have rC : decide (aA < (aE.length : Int)) = true := decide_eq_true mK; clear mK; obtain ⟨kL, hY⟩ : ∃ y_ : List (S95), y_ = (aE.set (aA : Int).toNat (⟨(rd_T95 aC aA).f0, ((rd_T95 aC aA).f1), (⟨#[]⟩ : ByteArray)⟩ : S95)) := ⟨_, rfl⟩; replace H : (impl_DiskCrash.l0 k2 l1 aC (aC.length : Int) (wrap64 (aA + 1)) cQ kL) = some (r1, r2) := u16_5; have kM := aM hY; clear hY; have H' := aM H; clear H; have p840 : 0 ≤ (aA : Int) := oda; have q840 : aA < (aC.length : Int) := oda; obtain ⟨eZ, gS, bV, bW, bX⟩ := at_T95 bC.out aA p840 q840; cases gS
              replace bV := xce HB bV; replace bW := xce HB bW; replace bX := xce HB bX; replace p840 := eq_true p840; replace q840 := eq_true q840; try go_wp2_with (first | ((with_reducible refine gD 7 rfl ?_); (try (refine gate_guard (by rfl) ?_; dsimp only)); refine boxE (N := 7) rfl (cs := #[.int .i64 0, .string (⟨#[]⟩ : ByteArray), .string (⟨#[]⟩ : ByteArray)]) (t := 95) ?_; intro aG hg gL hbox hb; replace aD := aM (Kd.R_below (Kd.R_elderB (xr aD) aG (Nat.le_of_eq hg.symm)) hb); have kB := aM (xge hg); have fA := aM (xge hg); replace HB := xbs hb; have cF := nblt aH hg; have cG := nbgt aH hg; have cH := nblt aJ hg; have cI := nbgt aJ hg; have cJ := nblt aK hg; have cK := nbgt aK hg; replace aH := xbb aH hb; replace aJ := xbb aJ hb; replace aK := xbb aK hb; have aU := aM (hbox); clear hb hbox hg; have rE := cG.out; have rF := cF.out; have rG := cI.out; have rH := cH.out; have rI := cK.out; have rJ := cJ.out; obtain ⟨mL, mM, mN, mO, mP, mQ⟩ := xf3 (w := gL) aU))
              have n0_ : Aside0 (Kd.R k95 95 (((gL.setCell ⟨aG, 0, none⟩ (.int .i64 ((rd_T95 aC aA).f0))).setCell ⟨aG, 1, none⟩ (.string ((rd_T95 aC aA).f1))).setCell ⟨aG, 2, none⟩ (.string ((rd_T95 aC aA).f2))) w.heap.size (fun k_ => k_ ≠ aG) bJ aE) := ⟨u16_8⟩; have n1_ : Aside0 ((((gL.setCell ⟨aG, 0, none⟩ (.int .i64 ((rd_T95 aC aA).f0))).setCell ⟨aG, 1, none⟩ (.string ((rd_T95 aC aA).f1))).setCell ⟨aG, 2, none⟩ (.string ((rd_T95 aC aA).f2))).heap[eA]? = some (.cells #[.int .i64 aI, .slice (some eZ) aC.length aV] 26 (0, 0))) := ⟨xB⟩; have n2_ : Aside0 ((((gL.setCell ⟨aG, 0, none⟩ (.int .i64 ((rd_T95 aC aA).f0))).setCell ⟨aG, 1, none⟩ (.string ((rd_T95 aC aA).f1))).setCell ⟨aG, 2, none⟩ (.string ((rd_T95 aC aA).f2))).heap[dC]? = some (.cells #[.int .i64 0, .slice none 0 0] 26 (0, 0))) := ⟨xB⟩; have n3_ : Aside0 ((((gL.setCell ⟨aG, 0, none⟩ (.int .i64 ((rd_T95 aC aA).f0))).setCell ⟨aG, 1, none⟩ (.string ((rd_T95 aC aA).f1))).setCell ⟨aG, 2, none⟩ (.string ((rd_T95 aC aA).f2))).heap[cX]? = some (.cells #[.int .i64 cQ, bJ] 26 (0, 0))) := ⟨xB⟩; have n4_ : Aside0 ((((gL.setCell ⟨aG, 0, none⟩ (.int .i64 ((rd_T95 aC aA).f0))).setCell ⟨aG, 1, none⟩ (.string ((rd_T95 aC aA).f1))).setCell ⟨aG, 2, none⟩ (.string ((rd_T95 aC aA).f2))).heap[aG]? = some (.cells #[.int .i64 ((rd_T95 aC aA).f0), .string ((rd_T95 aC aA).f1), .string ((rd_T95 aC aA).f2)] 95 (0, 0))) := ⟨xP⟩; have n5_ : Aside0 (Below w.heap.size w (((gL.setCell ⟨aG, 0, none⟩ (.int .i64 ((rd_T95 aC aA).f0))).setCell ⟨aG, 1, none⟩ (.string ((rd_T95 aC aA).f1))).setCell ⟨aG, 2, none⟩ (.string ((rd_T95 aC aA).f2)))) := ⟨xbg⟩; (try clear aD); (try clear aH); (try clear aJ); (try clear aK); (try clear aU); (try clear HB)
              generalize (((gL.setCell ⟨aG, 0, none⟩ (.int .i64 ((rd_T95 aC aA).f0))).setCell ⟨aG, 1, none⟩ (.string ((rd_T95 aC aA).f1))).setCell ⟨aG, 2, none⟩ (.string ((rd_T95 aC aA).f2))) = sV at n0_ n1_ n2_ n3_ n4_ n5_ ⊢; have aD := n0_; have aH := n1_; have aJ := n2_; have aK := n3_; have aU := n4_; have HB := n5_; clear n0_ n1_ n2_ n3_ n4_ n5_; replace aD := rD aD; replace aH := bD aH; replace aJ := bD aJ; replace aK := bD aK; replace aU := bD aU; replace HB := lD HB; have p51 : 0 ≤ (aA : Int) := oda; have q51 : (aA : Int) < ((aE.length : Int) : Int) := oda; obtain ⟨dW, kN, kO, kP, gl51, cl51, HG51⟩ := Kd.R_form aD.out (by omega); (first | cases kO | (injection kO with ea_ en_ ec_; (first | subst ea_ | (injection ea_ with ea_; subst ea_)); subst ec_; clear en_)); have GB51 := aM kP; have GG51 := aM HG51; clear kP gl51 HG51; obtain ⟨ce51, kQ, kR, eF, eG⟩ := Kd.R_elem aD.out z95 (aA : Int) p51 q51; obtain rfl := k95_openM kR; have hJ : World.cell? _ ⟨dW, (aA : Int).toNat * 3, none⟩ = some (.int .i64 ((rd_T95 aE aA).f0)) := eF 0 _ rfl; have hU : World.cell? _ ⟨dW, (aA : Int).toNat * 3 + 1, none⟩ = some (.string ((rd_T95 aE aA).f1)) := eF 1 _ rfl; have hX : World.cell? _ ⟨dW, (aA : Int).toNat * 3 + 2, none⟩ = some (.string ((rd_T95 aE aA).f2)) := eF 2 _ rfl; have hZ : World.frozen? _ ⟨dW, (aA : Int).toNat * 3, none⟩ = false := eG 0; have iA : World.frozen? _ ⟨dW, (aA : Int).toNat * 3 + 1, none⟩ = false := eG 1; have iB : World.frozen? _ ⟨dW, (aA : Int).toNat * 3 + 2, none⟩ = false := eG 2; clear kQ eF eG kR; replace p51 := eq_true p51; replace q51 := eq_true q51; obtain ⟨ce59, gM, kS, gN, kT⟩ := Kd.R_elem aD.out z95 (aA : Int) (oda) (by have h_ : (aA : Int) < ((aE.length : Int) : Int) := oda; first | exact h_ | (have e_ := (Kd.R_reads' aD.out).1; omega) | simpa using h_); obtain rfl := k95_openM kS; have iC := (Kd.R_seg aD.out (aA : Int) (oda) (by have h_ : (aA : Int) < ((aE.length : Int) : Int) := oda; first | exact h_ | (have e_ := (Kd.R_reads' aD.out).1; omega) | simpa using h_) (seg := [.int .i64 ((rd_T95 aC aA).f0), .string ((rd_T95 aC aA).f1), .string (⟨#[]⟩ : ByteArray)]) (j := 0) gM gN (show 3 ≤ 3 from by decide) (x' := (⟨(rd_T95 aC aA).f0, ((rd_T95 aC aA).f1), (⟨#[]⟩ : ByteArray)⟩ : S95)) (k95_mkM _ _ _ (⟨(rd_T95 aC aA).f0, ((rd_T95 aC aA).f1), (⟨#[]⟩ : ByteArray)⟩ : S95) ) (fun _ hk => hk)).1; rw [← kM.out] at iC; have HQ59 := aM iC; clear gM gN kT kS iC; refine start_ (n := 15) (S := fun w' => w'.cell? ⟨cX, 0, none⟩ = some (.int .i64 cQ) ∧ w'.cell? ⟨cX, 1, none⟩ = some (.slice (some ⟨dW, 0, none⟩) aE.length kN) ∧ w'.cell? ⟨aG, 0, none⟩ = some (.int .i64 ((rd_T95 aC aA).f0)) ∧ w'.cell? ⟨aG, 1, none⟩ = some (.string ((rd_T95 aC aA).f1)) ∧ w'.cell? ⟨aG, 2, none⟩ = some (.string ((rd_T95 aC aA).f2))) (ds := [14]) #[false, false, false, false, false, false, false, false, false, false, false, false, false, false, false] (by kernel_rfl) rfl rfl ⟨xc aK 0 rfl, xc aK 1 rfl, xc aU 0 rfl, xc aU 1 rfl, xc aU 2 rfl⟩ (fun hHeld => ?_); refine with_tabW impl_DiskCrash.tab10 impl_DiskCrash.bits10 (fun HT_ HW_ => ?_); generalize sV.drew = tO at aD aH aJ aK aU HB GG51 HQ59 hZ iA iB hJ hU hX hHeld ⊢; refine pV 0 41 ?_; refine pV 2 43 ?_; refine pV 3 44 ?_; refine pV 5 46 ?_; refine pV 7 48 ?_; refine pV 9 50 ?_; refine tK 1 42 ?_; refine tK 4 45 ?_; refine tK 6 47 ?_; refine tK 8 49 ?_; refine pV 10 51 ?_; refine pV 11 52 ?_; refine pV 12 53 ?_; refine pV 13 54 ?_
              refine last_ (i := 14) (N := none) #[true, true, true, true, true, true, true, true, true, true, true, true, true, true, true] rfl rfl (one_of HT_.out (by kernel_rfl)) (by decide) (fun K hK => ?_); refine skip_ (w1 := ?_) (by rfl) rfl ?_ ?_; rotate_left
              ·go_simp
               rfl
              refine hK.out _ _ ?_; clear hK K; refine dn_ ?_; try go_wp2
              go_roundg k2
              case measure => have := HJ2.out; have := HK2.out; omega
              case rel => exact ⟨(wrap64 (aA + 1)), (kL), (.slice (some ⟨dW, 0, none⟩) aE.length kN), u16_0, H', ⟨by have := HJ2.out; have := HK2.out; omega⟩, ⟨by (with_reducible repeat (first | apply Kd.R_alloc | apply Kd.R_drewN | apply Kd.R_drew)); exact Kd.R_mono HQ59.out (fun _ hk => trivial)⟩, ⟨u16_9⟩, ⟨u16_10⟩, ⟨u16_11⟩, ⟨by repeat (first | (with_reducible first | exact HB.out | apply below_alloc | apply pw_below_drewN | apply below_drew1 | refine below_set ?_ GB51.out | refine below_set ?_ GB51.out | refine below_set ?_ GB51.out | refine below_set ?_ gG.out | refine below_set ?_ gH.out | refine below_set ?_ gI.out | refine below_set ?_ fA.out) | exact HB.out)⟩⟩
             ·rw [if_neg mK] at H; exact absurd H (by simp)
            ·rw [if_neg iG] at H; exact absurd H (by simp)
           ·rw [if_neg kK] at H; exact absurd H (by simp)
          ·rw [if_neg kJ] at H; exact absurd H (by simp)
        ·rw [if_neg mC] at H; exact absurd H (by simp)
       ·rw [if_neg eO] at H; exact absurd H (by simp)
      ·rw [if_neg eN] at H; have gA : decide (aA < (aC.length : Int)) = false := decide_eq_false eN; clear eN; simp only [Option.some.injEq, Prod.mk.injEq] at H; obtain ⟨rfl, rfl⟩ := H; have rK := dE.out; have rL := dD.out; have rM := dG.out; have rN := dF.out; obtain ⟨mR, mS, mT, mU⟩ := xf2 (w := wr) aK; have rO := bH.out; have rP := bG.out; obtain ⟨mV, mW, mX, mY⟩ := xf2 (w := wr) aJ; obtain ⟨oK, oL, oM⟩ := Kd.R_slice aD.out; subst oM; go_wp2; refine bodyPost_ret (results_cell_row rfl _ _ dC 26 #[.int .i64 cQ, .slice oK aE.length oL] (0, 0) _ rfl xP Try.underlying26 rfl (by kernel_rfl)) rfl ?_; exact ⟨_, xerr, xrm aD (fun _ _ => trivial), xbg⟩

end Go.Proofs.Ytoojdlobnbakoaa.QFnJournal
