-- A walk, by a program of this session.
import Derived.Test.YtnjpfllmcmomoaaQFnExactDiskMovex0
import Derived.Test.YtnjpfllmcmomoaaQFnExactDiskMovex6
namespace Go.Proofs.Ytnjpfllmcmomoaa.QFnExactDiskMove
open Go.RowKit Go.Proofs.YtnjpfllmcmomoaaW.PrintWords Go.Proofs.YtnjpfllmcmomoaaW.PrintLast Go.Proofs.YtnjpfllmcmomoaaW.PrintMore
attribute [local go_sem] max2_int min2_int max_two min_two max_three min_three max_four min_four   -- for this text's walks alone
set_option linter.unusedVariables false
set_option linter.unusedSimpArgs false

/-! ### impl_placed: function 117 -/
set_option maxHeartbeats 4000000 in
set_option maxRecDepth 100000 in
theorem insert_shift (g n c i vb : Nat) (cur vs : Array Value) (w : World) (hi : i < n) (hroom : n + 1 ≤ c) (hc : c ≤ 9223372036854775807) (hvb : vb ≠ g)
    (hg : w.heap[g]? = some (.cells cur 134 (0, 0))) (hcs : cur.size = c * 3) (hv : w.heap[vb]? = some (.cells vs 134 (0, 0))) (hvl : vs.size = 3)
    (h1c : ∀ u ∈ cur.toList.take (n * 3), u.oneCell' = true) (h1v : ∀ u ∈ vs.toList, u.oneCell' = true) :
    Calls Try.prog 156 #[.slice (some ⟨g, 0, none⟩) n c, .int .i64 i, .slice (some ⟨vb, 0, none⟩) 1 1] w fun e w' => e = .returned (.slice (some ⟨g, 0, none⟩) (n + 1) c) ∧ w' = (w.drew.setCells g ((i + 1) * 3) ((cur.toList.take (n * 3)).drop (i * 3))).setCells g (i * 3) vs.toList := by
  have u1 := Try.underlying68
  have hsz : (Try.prog.info? 134).map (·.size) = some 3 := by kernel_rfl
  have hz9 : ∀ w, (Go.sizeOf 134).run Try.prog w = .ok 3 w := by
    intro w
    obtain ⟨i0, hi0, h0, h1, h2⟩ := info_parts info134
    simp [sizeOf, typeInfo, hi0, h1]
  have hz2 : ¬ ((i : Int) = (n : Int)) := by omega
  have hsa : w.shape? vb = some (134, vs.size) := by simp [World.shape?, hv]
  have hsb : w.shape? g = some (134, cur.size) := by simp [World.shape?, hg]
  have hov : ∀ o lb cb, (callFunc 169 #[.slice (some ⟨vb, 0, none⟩) 1 1, .slice (some ⟨g, o, none⟩) lb cb]).run Try.prog w = .ok (.value (.bool false)) w := fun o lb cb => by
    rw [run_callFunc_extern Try.func169 (by kernel_rfl) (by kernel_rfl) (by kernel_rfl) (e := Extern.SlicesOverlaps.overlaps #[68, 68] #[4]) (by kernel_rfl),
      Lib.run_overlaps_apart w 68 4 134 Try.underlying68 3 hz9 ⟨vb, 0, none⟩ ⟨g, o, none⟩ 1 1 lb cb hvb 134 134 vs.size cur.size hsa hsb (by omega) (blk_frozen hv _) (blk_frozen hv _)]
    rfl
  have hE : ∀ k, k < c * 3 → (w.cell? ⟨g, k, none⟩).isSome = true := fun k hk => by rw [blk_cell hg, Array.getElem?_eq_getElem (by omega)]; rfl
  have hdl : ((cur.toList.take (n * 3)).drop (i * 3)).length = (n - i) * 3 := by rw [List.length_drop, List.length_take, Array.length_toList]; omega
  obtain ⟨D, hD⟩ : ∃ D, D = (cur.toList.take (n * 3)).drop (i * 3) := ⟨_, rfl⟩
  rw [← hD] at hdl ⊢
  have h1D : ∀ u ∈ D, u.oneCell' = true := fun u hu => h1c u (by rw [hD] at hu; exact List.mem_of_mem_drop hu)
  have hDc : ∀ (j : Nat) (v : Value), D[j]? = some v → w.cell? ⟨g, i * 3 + j, none⟩ = some v := fun j v hj => by
    rw [hD, List.getElem?_drop, List.getElem?_take] at hj
    rw [blk_cell hg]
    split at hj
    · simpa using hj
    · cases hj
  have hcp1 : ∀ ty dc sc, (Builtin.copy_ #[68, 68] ty #[.slice (some ⟨g, (i + 1) * 3, none⟩) (n - i) dc, .slice (some ⟨g, i * 3, none⟩) (n + 1 - i) sc]).run Try.prog w.drew = .ok (goInt ((n - i : Nat) : Int)) (w.drew.setCells g ((i + 1) * 3) D) := fun ty dc sc =>
    x_copy w.drew _ _ ty 134 3 g ((i + 1) * 3) (n - i) dc ⟨g, i * 3, none⟩ (n + 1 - i) sc D u1 hsz (n - i) (by simp only [Nat.min_def]; split <;> omega) hdl
      (fun j v hj => by rw [add_at]; exact hDc j v hj) (fun j hj => hE _ (by omega)) (fun j hj => blk_frozen hg _) h1D
  obtain ⟨W1, hW1⟩ : ∃ W1, W1 = w.drew.setCells g ((i + 1) * 3) D := ⟨_, rfl⟩
  obtain ⟨c1, hc1, hc1s, hc1l⟩ := setCells_row D ((i + 1) * 3) w.drew cur hg (by omega)
  rw [← hW1] at hc1 hcp1 ⊢
  have hvW : W1.heap[vb]? = some (.cells vs 134 (0, 0)) := by rw [hW1, setCells_far D _ vb hvb]; exact hv
  have hcp2 : ∀ ty dc, (Builtin.copy_ #[68, 68] ty #[.slice (some ⟨g, i * 3, none⟩) (n + 1 - i) dc, .slice (some ⟨vb, 0, none⟩) 1 1]).run Try.prog W1 = .ok (goInt ((1 : Nat) : Int)) (W1.setCells g (i * 3) vs.toList) := fun ty dc =>
    x_copy W1 _ _ ty 134 3 g (i * 3) (n + 1 - i) dc ⟨vb, 0, none⟩ 1 1 vs.toList u1 hsz 1 (by simp only [Nat.min_def]; split <;> omega) (by simp [hvl])
      (fun j v hj => by rw [add_at, Nat.zero_add, blk_cell hvW]; simpa using hj) (fun j hj => by rw [blk_cell hc1, Array.getElem?_eq_getElem (by rw [Array.length_toList] at hj; omega)]; rfl) (fun j hj => blk_frozen hc1 _) h1v
  have hw1 : IntKind.i64.wrap ((i : Int) + 1) = (i : Int) + 1 := by rw [IntKind.wrap_i64]; omega
  have hb1 : (0 : Int) ≤ (i : Int) + 1 := by omega
  have hin : i ≤ n := by omega
  have htn : ((i : Int) + 1).toNat = i + 1 := by omega
  have hb2 : ¬ (c = i + 1) := by omega
  have hb3 : (i : Int) ≤ (n : Int) + 1 := by omega
  have hb4 : ¬ (c = i) := by omega
  obtain ⟨i0, hi0, h0_, h1_, h2_⟩ := info_parts info134
  have HW := Aside0.mk hW1
  clear hc1 hc1s hc1l hvW hE hDc hg hv hsa hsb hcs hvl h1c h1v h1D hD hdl hW1
  go_enter Try.func156, Try.ntmps156
  go_wp2_with (simp only [hov])

  go_region_law (refine x_step_copy rfl _ _ 68 68 rfl _ _ (by simp [Act.eval, Act.put]) (by simp [Act.eval, Act.put]) (hcp1 _ _ _) ?_)
  go_wp2_with (at_builtin; refine x_wpList_copy _ rfl _ _ 68 68 rfl _ _ rfl rfl (hcp2 _ _) ?_)
  go_ret
  first | exact ⟨rfl, rfl⟩ | exact ⟨rfl, by rw [HW.out]⟩
def InsPost (g n : Nat) (cells : List Value) (w : World) (e : Ending) (w' : World) : Prop :=
  ∃ (G : Nat) (c2 : Array Value), e = .returned (.slice (some ⟨g, 0, none⟩) n G) ∧ n ≤ G ∧ G ≤ maxLen ∧ w'.heap[g]? = some (.cells c2 134 (0, 0)) ∧ c2.size = G * 3 ∧ c2.toList.take (n * 3) = cells ∧ w.grownBy w' (some g)
set_option maxHeartbeats 4000000 in
set_option maxRecDepth 100000 in
theorem insert_grow (g n i vb : Nat) (cur vs : Array Value) (w : World) (hi : i < n) (hn : n ≤ 1000)
    (hg : w.heap[g]? = some (.cells cur 134 (0, 0))) (hcs : cur.size = n * 3) (hv : w.heap[vb]? = some (.cells vs 134 (0, 0))) (hvl : vs.size = 3)
    (h1c : ∀ u ∈ cur.toList.take (n * 3), u.oneCell' = true) (h1v : ∀ u ∈ vs.toList, u.oneCell' = true) :
    Calls Try.prog 156 #[.slice (some ⟨g, 0, none⟩) n n, .int .i64 i, .slice (some ⟨vb, 0, none⟩) 1 1] w (InsPost w.heap.size (n + 1) (cur.toList.take (i * 3) ++ vs.toList ++ (cur.toList.take (n * 3)).drop (i * 3)) w) := by
  have u1 := Try.underlying68
  have u3 := Try.underlying3
  have hsz : (Try.prog.info? 134).map (·.size) = some 3 := by kernel_rfl
  obtain ⟨i0, hi0, hz0, hzs, hzb⟩ := info_parts info134
  have hz2 : ¬ ((i : Int) = (n : Int)) := by omega
  have hbw : g < w.heap.size := blk_lt hg
  have hvw : vb < w.heap.size := blk_lt hv
  have hdl : ((cur.toList.take (n * 3)).drop (i * 3)).length = (n - i) * 3 := by rw [List.length_drop, List.length_take, Array.length_toList]; omega
  obtain ⟨D, hD⟩ : ∃ D, D = (cur.toList.take (n * 3)).drop (i * 3) := ⟨_, rfl⟩
  have h1D : ∀ u ∈ D, u.oneCell' = true := fun u hu => h1c u (by rw [hD] at hu; exact List.mem_of_mem_drop hu)
  have hDc : ∀ (W : World), W.heap[g]? = some (.cells cur 134 (0, 0)) → ∀ (j : Nat) (v : Value), D[j]? = some v → W.cell? ⟨g, i * 3 + j, none⟩ = some v := fun W hW j v hj => by
    rw [hD, List.getElem?_drop, List.getElem?_take] at hj
    rw [blk_cell hW]
    split at hj
    · simpa using hj
    · cases hj
  rw [← hD] at hdl ⊢
  have hold : (Builtin.firstCells i0.size i (.slice (some ⟨g, 0, none⟩) i n)).run Try.prog w.drew = .ok (cur.toList.take (i * 3)).toArray w.drew := by
    rw [hzs]
    exact run_firstCells_some w.drew 3 i ⟨g, 0, none⟩ i n (cur.toList.take (i * 3)) (by rw [List.length_take, Array.length_toList]; omega) (fun j v hj => by
      rw [add_at, Nat.zero_add]
      rw [List.getElem?_take] at hj
      split at hj
      · show w.drew.cell? _ = _
        rw [blk_cell (blk_drew hg)]
        simpa using hj
      · cases hj)
  have hik : i + (n + 1 - i) = n + 1 := by omega
  have hkk : (n : Int) + 1 - (i : Int) = ((n + 1 - i : Nat) : Int) := by omega
  obtain ⟨G, hG⟩ : ∃ G, G = grownCap w (n + 1) n 134 := ⟨_, rfl⟩
  have hGn : n + 1 ≤ G := by rw [hG]; exact grownCap_ge w _ _ _
  have hGm : G ≤ maxLen := by rw [hG]; exact grownCap_le_maxLen w (n + 1) n 134 (by unfold maxLen; omega)
  obtain ⟨ROW, hROW⟩ : ∃ ROW : Array Value, ROW = (cur.toList.take (i * 3)).toArray ++ Builtin.zeroCells (Value.agg #[(.int .i64 0), (.string ⟨#[]⟩), (.string ⟨#[]⟩)]).cells (n + 1 - i) ++ Builtin.zeroCells (Value.agg #[(.int .i64 0), (.string ⟨#[]⟩), (.string ⟨#[]⟩)]).cells (G - (n + 1)) := ⟨_, rfl⟩
  have hRl : ROW.size = G * 3 := by
    have e : ∀ m, (Builtin.zeroCells (Value.agg #[(.int .i64 0), (.string ⟨#[]⟩), (.string ⟨#[]⟩)]).cells m).size = m * 3 := fun m => size_zeroCells _ _
    rw [hROW]
    simp only [Array.size_append, e, List.size_toArray, List.length_take, Array.length_toList]
    omega
  have hRt : ROW.toList.take (i * 3) = cur.toList.take (i * 3) := by
    rw [hROW]
    simp only [Array.toList_append, List.append_assoc]
    exact List.take_left' (by rw [List.length_take, Array.length_toList]; omega)
  obtain ⟨W1, hW1⟩ : ∃ W1, W1 = w.drew.alloc (.cells ROW 134) := ⟨_, rfl⟩
  have hrz : ∀ ty, (Builtin.append_ #[68, 3] ty #[.slice (some ⟨g, 0, none⟩) i n, .int .i64 ((n : Int) + 1 - (i : Int))]).run Try.prog w = .ok (.slice (some ⟨w.heap.size, 0, none⟩) (n + 1) G) W1 := fun ty => by
    have h := Lib.run_append_grow_zeros w 68 3 ty 134 i0 _ .i64 .i64 u1 u3 hi0 hz0 (some ⟨g, 0, none⟩) i n (cur.toList.take (i * 3)) hold (n + 1 - i) (by omega) (by omega) (by omega) (by omega) (by rw [hzb]; omega) (by rw [hzb, hik]; exact growslice_fits (by omega) (by omega))
    rw [hik] at h
    rw [hkk, hW1, hROW, hG]
    exact h
  have hN : W1.heap[w.heap.size]? = some (.cells ROW 134 (0, 0)) := by rw [hW1]; exact heap_alloc_new w.drew _
  have hg1 : W1.heap[g]? = some (.cells cur 134 (0, 0)) := by rw [hW1]; exact blk_alloc (blk_drew hg) _
  have hv1 : W1.heap[vb]? = some (.cells vs 134 (0, 0)) := by rw [hW1]; exact blk_alloc (blk_drew hv) _
  have hgr1 : w.grownBy W1 none := by rw [hW1]; exact ⟨rfl, rfl, rfl, by simp, fun k hk _ => heap_alloc_old w.drew _ hk⟩
  have hcpA : ∀ ty dc, (Builtin.copy_ #[68, 68] ty #[.slice (some ⟨w.heap.size, i * 3, none⟩) (n + 1 - i) dc, .slice (some ⟨vb, 0, none⟩) 1 1]).run Try.prog W1 = .ok (goInt ((1 : Nat) : Int)) (W1.setCells w.heap.size (i * 3) vs.toList) := fun ty dc =>
    x_copy W1 _ _ ty 134 3 w.heap.size (i * 3) (n + 1 - i) dc ⟨vb, 0, none⟩ 1 1 vs.toList u1 hsz 1 (by simp only [Nat.min_def]; split <;> omega) (by simp [hvl])
      (fun j v hj => by rw [add_at, Nat.zero_add, blk_cell hv1]; simpa using hj) (fun j hj => by rw [blk_cell hN, Array.getElem?_eq_getElem (by rw [Array.length_toList] at hj; omega)]; rfl) (fun j hj => blk_frozen hN _) h1v
  obtain ⟨c1, hc1, hc1s, hc1l⟩ := setCells_row vs.toList (i * 3) W1 ROW hN (by rw [Array.length_toList]; omega)
  obtain ⟨W2, hW2⟩ : ∃ W2, W2 = W1.setCells w.heap.size (i * 3) vs.toList := ⟨_, rfl⟩
  rw [← hW2] at hc1 hcpA
  have hgr2 : w.grownBy W2 none := by rw [hW2]; exact x_grown_cells _ _ hgr1 (fun k hk _ => by omega)
  have hg2 : W2.heap[g]? = some (.cells cur 134 (0, 0)) := by rw [hW2, setCells_far vs.toList _ g (by omega)]; exact hg1
  have hcpB : ∀ ty dc sc, (Builtin.copy_ #[68, 68] ty #[.slice (some ⟨w.heap.size, (i + 1) * 3, none⟩) (n - i) dc, .slice (some ⟨g, i * 3, none⟩) (n - i) sc]).run Try.prog W2.drew = .ok (goInt ((n - i : Nat) : Int)) (W2.drew.setCells w.heap.size ((i + 1) * 3) D) := fun ty dc sc =>
    x_copy W2.drew _ _ ty 134 3 w.heap.size ((i + 1) * 3) (n - i) dc ⟨g, i * 3, none⟩ (n - i) sc D u1 hsz (n - i) (by simp only [Nat.min_def]; split <;> omega) hdl
      (fun j v hj => by rw [add_at]; exact hDc _ (blk_drew hg2) j v hj) (fun j hj => by rw [blk_cell (blk_drew hc1), Array.getElem?_eq_getElem (by omega)]; rfl) (fun j hj => blk_frozen (blk_drew hc1) _) h1D
  obtain ⟨c2, hc2, hc2s, hc2l⟩ := setCells_row D ((i + 1) * 3) W2.drew c1 (blk_drew hc1) (by omega)
  obtain ⟨W3, hW3⟩ : ∃ W3, W3 = W2.drew.setCells w.heap.size ((i + 1) * 3) D := ⟨_, rfl⟩
  rw [← hW3] at hc2 hcpB
  have hgr3 : w.grownBy W3 none := by rw [hW3]; exact x_grown_cells _ _ ⟨hgr2.os, hgr2.tape, hgr2.output, hgr2.size, hgr2.block⟩ (fun k hk _ => by omega)
  have hfin : c2.toList.take ((n + 1) * 3) = cur.toList.take (i * 3) ++ vs.toList ++ D := by
    have h := x_row_b (cur := ROW.toList) (c1 := c1.toList) (c2 := c2.toList) (o := i * 3) (s := 3) (m := (n - i) * 3) (V := vs.toList) (D := D) (by rw [Array.length_toList]; exact hvl) hdl (by rw [Array.length_toList]; omega) hc1l (by rw [show (i + 1) * 3 = i * 3 + 3 by omega] at hc2l; exact hc2l)
    rw [hRt] at h
    rw [show (n + 1) * 3 = i * 3 + 3 + (n - i) * 3 by omega]
    exact h
  have POST := Aside0.mk (show InsPost w.heap.size (n + 1) (cur.toList.take (i * 3) ++ vs.toList ++ D) w (.returned (.slice (some ⟨w.heap.size, 0, none⟩) (n + 1) G)) W3 from ⟨G, c2, rfl, hGn, hGm, hc2, by omega, hfin, ⟨hgr3.os, hgr3.tape, hgr3.output, hgr3.size, fun k hk _ => hgr3.block k hk (by simp)⟩⟩)
  have hw1 : IntKind.i64.wrap ((i : Int) + 1) = (i : Int) + 1 := by rw [IntKind.wrap_i64]; omega
  have hb1 : (0 : Int) ≤ (i : Int) + 1 := by omega
  have hin : i ≤ n := by omega
  have htn : ((i : Int) + 1).toNat = i + 1 := by omega
  have hb2 : ¬ (G = i + 1) := by omega
  have hb3 : (i : Int) ≤ (n : Int) + 1 := by omega
  have hb4 : ¬ (G = i) := by omega
  have hb5 : ¬ (n = i) := by omega
  have hz3 : (n : Int) < (n : Int) + 1 := by omega
  have hG63 : G ≤ 9223372036854775807 := by unfold maxLen at hGm; exact hGm
  clear hc1 hc1s hc1l hc2 hc2s hc2l hN hg1 hg2 hv1 hDc hg hv hcs hvl h1c h1v h1D hD hdl hW1 hW2 hW3 hgr1 hgr2 hgr3 hfin hROW hRl hRt hG hold hik hkk hGm hz0 hzs hzb hi0 i0
  go_enter Try.func156, Try.ntmps156
  go_wp2_with (first
    | (at_builtin; refine Lib.wpList_append_run _ rfl _ _ _ _ rfl _ _ rfl rfl _ _ (hrz _) ?_)
    | (at_builtin; refine x_wpList_copy _ rfl _ _ 68 68 rfl _ _ rfl rfl (hcpA _ _) ?_))
  go_region_law (refine x_step_copy rfl _ _ 68 68 rfl _ _ (by simp [Act.eval, Act.put]) (by simp [Act.eval, Act.put]) (hcpB _ _ _) ?_)
  go_wp2
  go_ret
  exact POST.out
def InsR (base : Nat) (l : List S134) (w : World) (row : Option Nat) (e : Ending) (w' : World) : Prop :=
  ∃ v1 : Value, e = .returned v1 ∧ Kd.R k134 134 w' base (fun _ => True) v1 l ∧ w.grownBy w' row
theorem R_of_cells {w : World} {base : Nat} {v : Value} {l : List S134} {cs : List Value} (ho : w.ownsRow base 134 3 v l.length cs)
    (hr : Reps (fun (x : S134) (c : List Value) => c = [.int .i64 x.f0, .string x.f1, .string x.f2]) 3 l cs) : Kd.R k134 134 w base (fun _ => True) v l :=
  ⟨fun _ _ => trivial, cs, ho, hr.imp_ (fun p c hc => by rw [hc]; exact k134_mkM _ _ _ p)⟩
set_option maxHeartbeats 4000000 in
set_option maxRecDepth 100000 in
theorem insert_end (base : Nat) (v : Value) (l : List S134) (x : S134) (inner : List Value) (vb : Nat) (w : World) (ho : w.ownsRow base 134 3 v l.length inner)
    (hr : Reps (fun (x : S134) (c : List Value) => c = [.int .i64 x.f0, .string x.f1, .string x.f2]) 3 l inner) (hl : l.length ≤ 1000) (hbase : base ≤ w.heap.size)
    (hv : w.heap[vb]? = some (.cells #[.int .i64 x.f0, .string x.f1, .string x.f2] 134 (0, 0))) :
    Calls Try.prog 156 #[v, .int .i64 l.length, .slice (some ⟨vb, 0, none⟩) 1 1] w (InsR base (l ++ [x]) w v.ownBlock) := by
  have u1 := Try.underlying68
  obtain ⟨i0, hi0, hz0, hzs, hzb⟩ := info_parts info134
  obtain ⟨A, c, rfl⟩ := own_slice ho
  have HO := Aside0.mk ho
  have HR := Aside0.mk hr
  have hnews : ∀ (j : Nat) (u : Value), ([.int .i64 x.f0, .string x.f1, .string x.f2] : List Value)[j]? = some u → w.cell? ((⟨vb, 0, none⟩ : Addr).add j) = some u := fun j u hj => by
    rw [add_at, Nat.zero_add, blk_cell hv]
    simpa using hj
  have HN := Aside0.mk hnews
  have hlen : l.length ≤ c := own_le ho
  clear ho hr hnews hv
  go_enter Try.func156, Try.ntmps156
  go_wp2_with (at_builtin; refine wpList_append_own_at _ rfl _ _ 68 rfl base 134 i0 _ 3 40 u1 hi0 hz0 hzs hzb rfl (by decide) _ l.length inner rfl HO.out ⟨vb, 0, none⟩ 1 1 [.int .i64 x.f0, .string x.f1, .string x.f2] rfl rfl HN.out (by intro u hu; simp at hu; rcases hu with rfl | rfl | rfl <;> rfl) (by unfold maxLen; omega) (by omega) hbase ?_; intro v1 w1 hown hg _ hat; have HV := Aside0.mk hown; have HG := Aside0.mk (show w.grownBy w1 (Value.slice A _ _).ownBlock from hg); clear hown hg hat)
  all_goals
    go_ret
    exact ⟨v1, rfl, R_of_cells (by simpa using HV.out) (HR.out.snoc rfl rfl), by first | exact HG.out | (cases A <;> exact HG.out)⟩
theorem insert_any (base : Nat) (v : Value) (l : List S134) (i : Nat) (x : S134) (vb : Nat) (w : World) (hR : Kd.R k134 134 w base (fun _ => True) v l) (hi : i ≤ l.length) (hl : l.length ≤ 1000) (hbase : base ≤ w.heap.size)
    (hv : w.heap[vb]? = some (.cells #[.int .i64 x.f0, .string x.f1, .string x.f2] 134 (0, 0))) (hne : some vb ≠ v.ownBlock) :
    Calls Try.prog 156 #[v, .int .i64 i, .slice (some ⟨vb, 0, none⟩) 1 1] w (InsR base (l.take i ++ [x] ++ l.drop i) w v.ownBlock) := by
  obtain ⟨h0, inner, ho, hr0⟩ := hR
  have hr : Reps (fun (x : S134) (c : List Value) => c = [.int .i64 x.f0, .string x.f1, .string x.f2]) 3 l inner := hr0.imp_ (fun p c hc => k134_openM hc)
  have ho : w.ownsRow base 134 3 v l.length inner := ho
  by_cases hin : i = l.length
  · subst hin
    rw [List.take_length, List.drop_length, List.append_nil]
    exact insert_end base v l x inner vb w ho hr hl hbase hv
  have hin : i < l.length := by omega
  have hone : ∀ u ∈ inner, u.oneCell' = true := Kd.reps_one hr (by decide) (fun p c hc u hu => by rw [hc] at hu; simp at hu; rcases hu with rfl | rfl | rfl <;> rfl)
  have hrn : Reps (fun (x : S134) (c : List Value) => c = [.int .i64 x.f0, .string x.f1, .string x.f2]) 3 (l.take i ++ [x] ++ l.drop i) (inner.take (i * 3) ++ [.int .i64 x.f0, .string x.f1, .string x.f2] ++ inner.drop (i * 3)) :=
    Kd.reps_append ((Kd.reps_take hr hi).snoc rfl rfl) (Kd.reps_drop hr)
  have hln : (l.take i ++ [x] ++ l.drop i).length = l.length + 1 := by simp; omega
  rcases ho.2 with ⟨rfl, hn0⟩ | ⟨g, cap, cur, rfl, hbg, hg, hnc, hcm, hcs, htake⟩
  · omega
  have hvg : vb ≠ g := fun e => hne (by rw [e]; rfl)
  by_cases hroom : l.length + 1 ≤ cap
  · refine (insert_shift g l.length cap i vb cur #[.int .i64 x.f0, .string x.f1, .string x.f2] w hin hroom (by unfold maxLen at hcm; exact hcm) hvg hg hcs hv rfl (by rw [htake]; exact hone) (by intro u hu; simp at hu; rcases hu with rfl | rfl | rfl <;> rfl)).mono ?_
    rintro e w' ⟨rfl, rfl⟩
    rw [htake]
    have hdl : (inner.drop (i * 3)).length = (l.length - i) * 3 := by rw [List.length_drop, ho.1]; omega
    obtain ⟨c1, hc1, hc1s, hc1l⟩ := setCells_row (inner.drop (i * 3)) ((i + 1) * 3) w.drew cur (blk_drew hg) (by rw [hdl]; omega)
    obtain ⟨c2, hc2, hc2s, hc2l⟩ := setCells_row [.int .i64 x.f0, .string x.f1, .string x.f2] (i * 3) _ c1 hc1 (by simp; omega)
    have h := x_row_a (cur := cur.toList) (c1 := c1.toList) (c2 := c2.toList) (o := i * 3) (s := 3) (m := (l.length - i) * 3) (V := [.int .i64 x.f0, .string x.f1, .string x.f2]) (D := inner.drop (i * 3)) rfl hdl (by have := Array.length_toList (xs := cur); omega) (by rw [show (i + 1) * 3 = i * 3 + 3 by omega] at hc1l; exact hc1l) hc2l
    have hti : cur.toList.take (i * 3) = inner.take (i * 3) := by rw [← htake, List.take_take, Nat.min_eq_left (by omega)]
    rw [hti] at h
    refine ⟨_, rfl, R_of_cells (cs := inner.take (i * 3) ++ [.int .i64 x.f0, .string x.f1, .string x.f2] ++ inner.drop (i * 3)) ?_ hrn, ?_⟩
    · rw [hln]
      refine ⟨by rw [hrn.1, hln], .inr ⟨g, cap, c2, rfl, hbg, hc2, hroom, hcm, by omega, ?_⟩⟩
      rw [← h]
      congr 1
      omega
    · have hg0 : w.grownBy w.drew (some g) := ⟨rfl, rfl, rfl, Nat.le_refl _, fun _ _ _ => rfl⟩
      exact x_grown_cells _ _ (x_grown_cells _ _ hg0 (fun k _ hk => fun e => hk (congrArg some e))) (fun k _ hk => fun e => hk (congrArg some e))
  · obtain rfl : cap = l.length := by omega
    refine (insert_grow g l.length i vb cur #[.int .i64 x.f0, .string x.f1, .string x.f2] w hin hl hg hcs hv rfl (by rw [htake]; exact hone) (by intro u hu; simp at hu; rcases hu with rfl | rfl | rfl <;> rfl)).mono ?_
    rintro e w' ⟨G, c2, rfl, hG, hGm, hc2, hc2s, hc2l, hgr⟩
    rw [htake] at hc2l
    have hti : cur.toList.take (i * 3) = inner.take (i * 3) := by rw [← htake, List.take_take, Nat.min_eq_left (by omega)]
    rw [hti] at hc2l
    refine ⟨_, rfl, R_of_cells (cs := inner.take (i * 3) ++ [.int .i64 x.f0, .string x.f1, .string x.f2] ++ inner.drop (i * 3)) ?_ hrn, ?_⟩
    · rw [hln]
      exact ⟨by rw [hrn.1, hln], .inr ⟨w.heap.size, G, c2, rfl, hbase, hc2, hG, hGm, hc2s, hc2l⟩⟩
    · exact ⟨hgr.os, hgr.tape, hgr.output, hgr.size, fun k hk _ => hgr.block k hk (by simp; omega)⟩
def placeIdx (l : List S134) (a : Int) : Nat := (l.takeWhile (fun x => decide (x.f0 < a))).length
theorem placeIdx_le (l : List S134) (a : Int) : placeIdx l a ≤ l.length := (List.takeWhile_sublist _).length_le
theorem all_takeWhile {α : Type} (p : α → Bool) : ∀ (l : List α) (x : α), x ∈ l.takeWhile p → p x = true
  | [], x, h => by simp at h
  | y :: t, x, h => by
    cases hp : p y
    · simp [List.takeWhile, hp] at h
    · simp only [List.takeWhile, hp, List.mem_cons] at h
      rcases h with rfl | h
      · exact hp
      · exact all_takeWhile p t x h
theorem placeIdx_lt (l : List S134) (a : Int) (i : Nat) (h : i < placeIdx l a) : (rd_T134 l i).f0 < a := by
  have hl : i < l.length := Nat.lt_of_lt_of_le h (placeIdx_le l a)
  have h1 : (l.takeWhile (fun x => decide (x.f0 < a)))[i]? = l[i]? := by
    have := List.takeWhile_prefix (l := l) (fun x => decide (x.f0 < a))
    rw [List.getElem?_eq_getElem h, List.getElem?_eq_getElem hl]
    congr 1
    exact this.getElem h
  have h2 : l[i]'hl ∈ l.takeWhile (fun x => decide (x.f0 < a)) := by
    rw [List.getElem?_eq_getElem hl] at h1
    exact List.mem_of_getElem? h1
  have h3 := all_takeWhile _ l _ h2
  unfold rd_T134
  rw [Int.toNat_natCast, List.getD_eq_getElem?_getD, List.getElem?_eq_getElem hl]
  simpa using h3
theorem placeIdx_ge (l : List S134) (a : Int) : placeIdx l a < l.length → ¬ (rd_T134 l (placeIdx l a)).f0 < a := by
  induction l with
  | nil => intro h; simp [placeIdx] at h
  | cons x t ih =>
    intro h
    by_cases hx : x.f0 < a
    · have e : placeIdx (x :: t) a = placeIdx t a + 1 := by simp [placeIdx, hx]
      rw [e] at h ⊢
      have := ih (by simpa using h)
      unfold rd_T134 at this ⊢
      rw [Int.toNat_natCast] at this ⊢
      simpa using this
    · have e : placeIdx (x :: t) a = 0 := by simp [placeIdx, hx]
      rw [e]
      unfold rd_T134
      simpa using hx
def placeL (l : List S134) (x : S134) : List S134 := l.take (placeIdx l x.f0) ++ [x] ++ l.drop (placeIdx l x.f0)
def impl_placed.f (a0_0 : Int) (l0_1 : List S134) (a1_0 : Int) (a1_1 a1_2 : ByteArray) : Option (Int × List S134) := if l0_1.length ≤ 1000 then some (a0_0, placeL l0_1 ⟨a1_0, a1_1, a1_2⟩) else none
set_option maxHeartbeats 4000000 in
set_option maxRecDepth 100000 in
theorem impl_placed.calls (a0_0 : Int) (A0_1 : Option Addr) (c0_1 : Nat) (l0_1 : List S134) (a1_0 : Int) (a1_1 : ByteArray) (a1_2 : ByteArray) (r1 : Int) (r2 : List S134) (w : World) (hr0_1 : Kd.C k134 w A0_1 l0_1.length l0_1) (hc0_1 : l0_1.length ≤ c0_1) (h : impl_placed.f a0_0 l0_1 a1_0 a1_1 a1_2 = some (r1, r2)) :
    Calls Try.prog 117 #[.agg #[.int .i64 a0_0, .slice A0_1 l0_1.length c0_1], .agg #[.int .i64 a1_0, .string a1_1, .string a1_2]] w fun e w' => ∃ v1_ : Value, e = .returned (.agg #[.int .i64 r1, v1_]) ∧ Kd.R k134 134 w' w.heap.size (fun _ => True) v1_ r2 ∧ Below w.heap.size w w' := by
  unfold impl_placed.f at h
  have hl : l0_1.length ≤ 1000 := by
    by_cases hl : l0_1.length ≤ 1000
    · exact hl
    · rw [if_neg hl] at h; cases h
  rw [if_pos hl] at h
  simp only [Option.some.injEq, Prod.mk.injEq] at h
  obtain ⟨rfl, rfl⟩ := h
  have hcopy : impl_copyDisk.f a0_0 l0_1 = some (a0_0, l0_1) := by
    unfold impl_copyDisk.f
    simp only [Option.bind_some, List.length_nil, Nat.zero_add, List.nil_append]
    rw [if_pos (by omega)]
  have hu70 := Try.underlying70
  have hu68 := Try.underlying68
  have HR := Aside0.mk hr0_1
  have HC := Aside0.mk hc0_1
  have HCP := Aside0.mk hcopy
  clear hr0_1 hc0_1 hcopy
  go_enter Try.func117, Try.ntmps117
  go_wp2_with fail
  go_at_call 115
  refine (impl_copyDisk.calls a0_0 A0_1 c0_1 l0_1 a0_0 l0_1 _ ?s1 ?s2 HCP.out).mono ?_
  case s1 => exact Kd.C_alloc (Kd.C_alloc (Kd.C_alloc HR.out _) _) _
  case s2 => exact HC.out
  rintro e w1 ⟨v1, rfl, hR, hb⟩
  have h1 : w.heap.size + 3 ≤ w1.heap.size := by have := hb.size; simp at this; omega
  have hF : w1.heap[w.heap.size + 1]? = some (.cells #[.int .i64 a1_0, .string a1_1, .string a1_2] 134 (0, 0)) := blk_below (by have := blk_alloc (w := (w.alloc (.cells #[.int .i64 a0_0, .slice A0_1 l0_1.length c0_1] 70)).alloc (.cells #[.int .i64 a1_0, .string a1_1, .string a1_2] 134)) (heap_alloc_new _ _) (.cells #[.int .i64 0, .slice none 0 0] 70); simpa using this) hb
  have hO : w1.heap[w.heap.size + 2]? = some (.cells #[.int .i64 0, .slice none 0 0] 70 (0, 0)) := blk_below (by have := heap_alloc_new ((w.alloc (.cells #[.int .i64 a0_0, .slice A0_1 l0_1.length c0_1] 70)).alloc (.cells #[.int .i64 a1_0, .string a1_1, .string a1_2] 134)) (.cells #[.int .i64 0, .slice none 0 0] 70); simpa using this) hb
  have hB : Below w.heap.size w w1 := below_step (below_alloc (below_alloc (below_alloc (Below.refl _ w) _) _) _) hb
  have hR : Kd.R k134 134 w1 (w.heap.size + 3) (fun _ => True) v1 l0_1 := by have := hR; simpa using this
  obtain ⟨A1, c1, rfl⟩ := Kd.R_slice hR
  have HF := Aside0.mk hF
  have HO := Aside0.mk hO
  have HB := Aside0.mk hB
  have HR1 := Aside0.mk hR
  have H1 := Aside0.mk h1
  clear hF hO hB hR h1 hb
  go_wp2
  go_loopg [6] (l0_1.length + 1) (fun gg s6 wr => ∃ i : Nat, s6 = .int .i64 i ∧ i ≤ placeIdx l0_1 a1_0 ∧ l0_1.length - i < gg ∧ Aside0 (Kd.R k134 134 wr (w.heap.size + 3) (fun _ => True) (.slice A1 l0_1.length c1) l0_1) ∧ Aside0 (wr.heap[w.heap.size + 1]? = some (.cells #[.int .i64 a1_0, .string a1_1, .string a1_2] 134 (0, 0))) ∧ Aside0 (wr.heap[w.heap.size + 2]? = some (.cells #[.int .i64 0, .slice none 0 0] 70 (0, 0))) ∧ Aside0 (wr.heap[w1.heap.size]? = some (.cells #[.int .i64 a0_0, .slice A1 l0_1.length c1] 70 (0, 0))) ∧ Aside0 (Below w.heap.size w wr) ∧ Aside0 (w.heap.size + 3 ≤ wr.heap.size))
  case atStart => exact ⟨0, rfl, by omega, by omega, ⟨Kd.R_alloc HR1.out _⟩, ⟨blk_alloc HF.out _⟩, ⟨blk_alloc HO.out _⟩, ⟨heap_alloc_new _ _⟩, ⟨below_alloc HB.out _⟩, ⟨by have := H1.out; simp; omega⟩⟩
  case round =>
    clear HF HO HB HR1
    obtain ⟨i, rfl, hi, hg, HR1, HF, HO, HU, HB, HS⟩ := hrel
    by_cases hlt : i < placeIdx l0_1 a1_0
    · have hll := placeIdx_le l0_1 a1_0
      have hp := placeIdx_lt l0_1 a1_0 i hlt
      obtain ⟨ad, hA, hx0, _, _⟩ := at_T134 (Kd.R_reads' HR1.out).2.2 (i : Int) (by omega) (by omega)
      have hu0 : wr.cell? ⟨w1.heap.size, 1, none⟩ = some (.slice A1 l0_1.length c1) := (blk_cell HU.out 1).trans rfl
      have hf0 : wr.cell? ⟨w.heap.size + 1, 0, none⟩ = some (.int .i64 a1_0) := (blk_cell HF.out 0).trans rfl
      have hlt2 : decide ((i : Int) < (l0_1.length : Int)) = true := decide_eq_true (by omega)
      have hlt4 : i < l0_1.length := by omega
      have hlt3 : decide ((rd_T134 l0_1 (i : Int)).f0 < a1_0) = true := decide_eq_true hp
      subst hA
      rw [Int.toNat_natCast] at hx0
      have HLT := Aside0.mk hlt
      clear hp hlt hll
      have HG := Aside0.mk hg
      have HI := Aside0.mk hi
      clear hg hi
      go_wp2
      go_quiet (fail)
      go_wp2
      go_roundg (l0_1.length - i)
      case measure => have := HG.out; omega
      case rel => exact ⟨i + 1, by go_num, HLT.out, by omega, ⟨Kd.R_drewN HR1.out _⟩, ⟨blk_drewN HF.out _⟩, ⟨blk_drewN HO.out _⟩, ⟨blk_drewN HU.out _⟩, ⟨pw_below_drewN HB.out _⟩, HS⟩
    · obtain rfl : i = placeIdx l0_1 a1_0 := by omega
      have hu0 : wr.cell? ⟨w1.heap.size, 1, none⟩ = some (.slice A1 l0_1.length c1) := (blk_cell HU.out 1).trans rfl
      have hf0 : wr.cell? ⟨w.heap.size + 1, 0, none⟩ = some (.int .i64 a1_0) := (blk_cell HF.out 0).trans rfl
      have hf1 : wr.cell? ⟨w.heap.size + 1, 1, none⟩ = some (.string a1_1) := (blk_cell HF.out 1).trans rfl
      have hf2 : wr.cell? ⟨w.heap.size + 1, 2, none⟩ = some (.string a1_2) := (blk_cell HF.out 2).trans rfl
      clear hi hlt
      obtain ⟨p, hP⟩ : ∃ p, p = placeIdx l0_1 a1_0 := ⟨_, rfl⟩
      have HPL := placeIdx_le l0_1 a1_0
      have HPG := placeIdx_ge l0_1 a1_0
      rw [← hP] at HPL HPG hg ⊢
      by_cases hlt : p < l0_1.length
      · have hq := HPG hlt
        obtain ⟨ad, hA, hx0, _, _⟩ := at_T134 (Kd.R_reads' HR1.out).2.2 (p : Int) (by omega) (by omega)
        subst hA
        rw [Int.toNat_natCast] at hx0
        have hlt2 : decide ((p : Int) < (l0_1.length : Int)) = true := decide_eq_true (by omega)
        have hlt3 : decide ((rd_T134 l0_1 (p : Int)).f0 < a1_0) = false := decide_eq_false hq
        have HP := Aside0.mk hP
        have HPL := Aside0.mk HPL
        clear HPG hq hg hP
        go_wp2
        go_quiet (fail)
        go_wp2_with fail
        go_at_call 156
        refine (insert_any (w.heap.size + 3) (.slice (some ad) l0_1.length c1) l0_1 p ⟨a1_0, a1_1, a1_2⟩ wr.heap.size _ (Kd.R_alloc (Kd.R_drewN HR1.out _) _) HPL.out hl (by have := HS.out; simp; omega) (heap_alloc_new (wr.drewN _) _) (fun e => by have := Kd.R_lt HR1.out _ e.symm; omega)).mono ?_
        rintro e w2 ⟨v2, rfl, hR2, hg2⟩
        have HU2 := Aside0.mk (blk_grown (blk_alloc (blk_drewN HU.out _) _) hg2 (Kd.R_ne HR1.out HU.out (by decide)))
        have HO2 := Aside0.mk (blk_grown (blk_alloc (blk_drewN HO.out _) _) hg2 (Kd.R_ne HR1.out HO.out (by decide)))
        have HB2 := Aside0.mk (pw_below_grown (below_alloc (pw_below_drewN HB.out _) _) _ (by have := HS.out; simp; omega) hg2 (fun k hk => by have := Kd.R_base HR1.out k hk; omega))
        have HR2 := Aside0.mk (show Kd.R k134 134 w2 (w.heap.size + 3) (fun _ => True) v2 (placeL l0_1 ⟨a1_0, a1_1, a1_2⟩) from (by unfold placeL; rw [← HP.out]; exact hR2))
        have hsz : w.heap.size + 3 ≤ w2.heap.size := by have := hg2.size; have := HS.out; simp at *; omega
        clear hR2 hg2 HU HO HB HR1 HF hu0 hf0 hf1 hf2
        obtain ⟨L2, hL2⟩ : ∃ L2, L2 = placeL l0_1 ⟨a1_0, a1_1, a1_2⟩ := ⟨_, rfl⟩
        rw [← hL2] at HR2
        have HL := Aside0.mk hL2
        clear hL2
        obtain ⟨A2, c2, hv2⟩ := Kd.R_slice HR2.out
        subst hv2
        have n12 : w1.heap.size ≠ w.heap.size + 2 := by have := H1.out; omega
        have n21 : w.heap.size + 2 ≠ w1.heap.size := n12.symm
        have hu1 : w2.cell? ⟨w1.heap.size, 0, none⟩ = some (.int .i64 a0_0) := (blk_cell HU2.out 0).trans rfl
        have hu2 : w2.cell? ⟨w1.heap.size, 1, none⟩ = some (.slice (some ad) l0_1.length c1) := (blk_cell HU2.out 1).trans rfl
        have hu3 := fun i => blk_frozen HU2.out i
        have ho1 : w2.cell? ⟨w.heap.size + 2, 0, none⟩ = some (.int .i64 0) := (blk_cell HO2.out 0).trans rfl
        have ho2 : w2.cell? ⟨w.heap.size + 2, 1, none⟩ = some (.slice none 0 0) := (blk_cell HO2.out 1).trans rfl
        have ho3 := fun i => blk_frozen HO2.out i
        go_wp2
        refine bodyPost_ret (results_cell_row rfl _ _ (w.heap.size + 2) 70 #[.int .i64 a0_0, .slice A2 L2.length c2] (0, 0) _ rfl (by refine blk_put (cs := #[.int .i64 a0_0, .slice none 0 0]) ?_ 1 _ rfl; refine blk_put (cs := #[.int .i64 0, .slice none 0 0]) ?_ 0 _ rfl; exact blk_far HO2.out n21 _) Try.underlying70 rfl (by kernel_rfl)) rfl ?_
        refine ⟨_, rfl, by rw [← HL.out]; exact Kd.R_lower (Kd.R_set (Kd.R_set (Kd.R_set HR2.out HU2.out (by decide) 1 _) (blk_far HO2.out n21 _) (by decide) 0 _) (blk_put (blk_far HO2.out n21 _) 0 _ rfl) (by decide) 1 _) (Nat.le_add_right _ 3), ?_⟩
        exact below_set (below_set (below_set HB2.out (by have := H1.out; omega)) (by omega)) (by omega)
      · obtain rfl : p = l0_1.length := by omega
        have hlt2 : decide ((l0_1.length : Int) < (l0_1.length : Int)) = false := decide_eq_false (by omega)
        have HP := Aside0.mk hP
        have HPL := Aside0.mk HPL
        clear HPG hg hP
        go_wp2
        go_quiet (fail)
        go_wp2_with fail
        go_at_call 156
        refine (insert_any (w.heap.size + 3) (.slice A1 l0_1.length c1) l0_1 l0_1.length ⟨a1_0, a1_1, a1_2⟩ wr.heap.size _ (Kd.R_alloc (Kd.R_drewN HR1.out _) _) HPL.out hl (by have := HS.out; simp; omega) (heap_alloc_new (wr.drewN _) _) (fun e => by have := Kd.R_lt HR1.out _ e.symm; omega)).mono ?_
        rintro e w2 ⟨v2, rfl, hR2, hg2⟩
        have HU2 := Aside0.mk (blk_grown (blk_alloc (blk_drewN HU.out _) _) hg2 (Kd.R_ne HR1.out HU.out (by decide)))
        have HO2 := Aside0.mk (blk_grown (blk_alloc (blk_drewN HO.out _) _) hg2 (Kd.R_ne HR1.out HO.out (by decide)))
        have HB2 := Aside0.mk (pw_below_grown (below_alloc (pw_below_drewN HB.out _) _) _ (by have := HS.out; simp; omega) hg2 (fun k hk => by have := Kd.R_base HR1.out k hk; omega))
        have HR2 := Aside0.mk (show Kd.R k134 134 w2 (w.heap.size + 3) (fun _ => True) v2 (placeL l0_1 ⟨a1_0, a1_1, a1_2⟩) from (by unfold placeL; rw [← HP.out]; exact hR2))
        have hsz : w.heap.size + 3 ≤ w2.heap.size := by have := hg2.size; have := HS.out; simp at *; omega
        clear hR2 hg2 HU HO HB HR1 HF hu0 hf0 hf1 hf2
        obtain ⟨L2, hL2⟩ : ∃ L2, L2 = placeL l0_1 ⟨a1_0, a1_1, a1_2⟩ := ⟨_, rfl⟩
        rw [← hL2] at HR2
        have HL := Aside0.mk hL2
        clear hL2
        obtain ⟨A2, c2, hv2⟩ := Kd.R_slice HR2.out
        subst hv2
        have n12 : w1.heap.size ≠ w.heap.size + 2 := by have := H1.out; omega
        have n21 : w.heap.size + 2 ≠ w1.heap.size := n12.symm
        have hu1 : w2.cell? ⟨w1.heap.size, 0, none⟩ = some (.int .i64 a0_0) := (blk_cell HU2.out 0).trans rfl
        have hu2 : w2.cell? ⟨w1.heap.size, 1, none⟩ = some (.slice A1 l0_1.length c1) := (blk_cell HU2.out 1).trans rfl
        have hu3 := fun i => blk_frozen HU2.out i
        have ho1 : w2.cell? ⟨w.heap.size + 2, 0, none⟩ = some (.int .i64 0) := (blk_cell HO2.out 0).trans rfl
        have ho2 : w2.cell? ⟨w.heap.size + 2, 1, none⟩ = some (.slice none 0 0) := (blk_cell HO2.out 1).trans rfl
        have ho3 := fun i => blk_frozen HO2.out i
        go_wp2
        refine bodyPost_ret (results_cell_row rfl _ _ (w.heap.size + 2) 70 #[.int .i64 a0_0, .slice A2 L2.length c2] (0, 0) _ rfl (by refine blk_put (cs := #[.int .i64 a0_0, .slice none 0 0]) ?_ 1 _ rfl; refine blk_put (cs := #[.int .i64 0, .slice none 0 0]) ?_ 0 _ rfl; exact blk_far HO2.out n21 _) Try.underlying70 rfl (by kernel_rfl)) rfl ?_
        refine ⟨_, rfl, by rw [← HL.out]; exact Kd.R_lower (Kd.R_set (Kd.R_set (Kd.R_set HR2.out HU2.out (by decide) 1 _) (blk_far HO2.out n21 _) (by decide) 0 _) (blk_put (blk_far HO2.out n21 _) 0 _ rfl) (by decide) 1 _) (Nat.le_add_right _ 3), ?_⟩
        exact below_set (below_set (below_set HB2.out (by have := H1.out; omega)) (by omega)) (by omega)


-- NOT PRINTED: function 121 (impl_File_121)

end Go.Proofs.Ytnjpfllmcmomoaa.QFnExactDiskMove
