-- A walk, by a program of this session.
import Derived.Test.YtppfnnpfamkclaaGreatQFnSavedx0
import Derived.Test.YtppfnnpfamkclaaGreatQFnSavedx21
import Derived.Test.YtppfnnpfamkclaaGreatQFnSavedx22
namespace Go.Proofs.YtppfnnpfamkclaaGreat.QFnSaved
open Go.RowKit Go.Proofs.YtppfnnpfamkclaaGreatW.PrintWords Go.Proofs.YtppfnnpfamkclaaGreatW.PrintLast Go.Proofs.YtppfnnpfamkclaaGreatW.PrintMore
attribute [local go_sem] max2_int min2_int max_two min_two max_three min_three max_four min_four   -- for this text's walks alone
set_option maxHeartbeats 8000000
set_option maxRecDepth 100000
set_option linter.unusedVariables false
set_option linter.unusedSimpArgs false
theorem u23_0 {p : Prop} (h : p := by simp only [Nat.min_def]; split <;> omega) : p := h
theorem u23_1 {p : Prop} (h : p := by intro u hu; simp at hu; rcases hu with rfl | rfl | rfl <;> rfl) : p := h
theorem u23_2 {p : Prop} (h : p := by refine blk_put (cs := #[.int .i64 aE, .slice none 0 0]) ?_ 1 _ rfl; refine blk_put (cs := #[.int .i64 0, .slice none 0 0]) ?_ 0 _ rfl; exact blk_far bW.out n21 _) : p := h
theorem u23_3 {p : Prop} (h : p := by rw [← HL.out]; exact Kd.R_lower (Kd.R_set (Kd.R_set (Kd.R_set cT.out HU2.out (by decide) 1 _) (blk_far bW.out n21 _) (by decide) 0 _) (blk_put (blk_far bW.out n21 _) 0 _ rfl) (by decide) 1 _) (Nat.le_add_right _ 3)) : p := h
theorem insert_shift (g n c i vb : Nat) (cur vs : Array Value) (w : World) (hi : i < n) (hroom : n + 1 ≤ c) (hc : c ≤ 9223372036854775807) (hvb : vb ≠ g)
    (hg : w.heap[g]? = some (.cells cur 66 (0, 0))) (hcs : cur.size = c * 3) (hv : w.heap[vb]? = some (.cells vs 66 (0, 0))) (hvl : vs.size = 3)
    (h1c : ∀ u ∈ cur.toList.take (n * 3), u.oneCell' = true) (h1v : ∀ u ∈ vs.toList, u.oneCell' = true) :
    Calls Tryz.prog 109 #[.slice (some ⟨g, 0, none⟩) n c, .int .i64 i, .slice (some ⟨vb, 0, none⟩) 1 1] w fun e w' => e = .returned (.slice (some ⟨g, 0, none⟩) (n + 1) c) ∧ w' = (w.drew.setCells g ((i + 1) * 3) ((cur.toList.take (n * 3)).drop (i * 3))).setCells g (i * 3) vs.toList := by
  have u1 := Tryz.underlying24; have hsz : (Tryz.prog.info? 66).map (·.size) = some 3 := by kernel_rfl
  have hz9 : ∀ w, (Go.sizeOf 66).run Tryz.prog w = .ok 3 w := by
    intro w; obtain ⟨i0, hi0, h0, h1, h2⟩ := info_parts info66
    simp [sizeOf, typeInfo, hi0, h1]
  have hz2 : ¬ ((i : Int) = (n : Int)) := by omega
  have hsa : w.shape? vb = some (66, vs.size) := by simp [World.shape?, hv]
  have hsb : w.shape? g = some (66, cur.size) := by simp [World.shape?, hg]
  have hov : ∀ o lb cb, (callFunc 111 #[.slice (some ⟨vb, 0, none⟩) 1 1, .slice (some ⟨g, o, none⟩) lb cb]).run Tryz.prog w = .ok (.value (.bool false)) w := fun o lb cb => by
    rw [run_callFunc_extern Tryz.func111 (by kernel_rfl) (by kernel_rfl) (by kernel_rfl) (e := Extern.SlicesOverlaps.overlaps #[24, 24] #[4]) (by kernel_rfl),
      Lib.run_overlaps_apart w 24 4 66 Tryz.underlying24 3 hz9 ⟨vb, 0, none⟩ ⟨g, o, none⟩ 1 1 lb cb hvb 66 66 vs.size cur.size hsa hsb (by omega) (blk_frozen hv _) (blk_frozen hv _)]
    rfl
  have hE : ∀ k, k < c * 3 → (w.cell? ⟨g, k, none⟩).isSome = true := fun k hk => by rw [blk_cell hg, Array.getElem?_eq_getElem (by omega)]; rfl
  have hdl : ((cur.toList.take (n * 3)).drop (i * 3)).length = (n - i) * 3 := by rw [List.length_drop, List.length_take, Array.length_toList]; omega
  obtain ⟨D, hD⟩ : ∃ D, D = (cur.toList.take (n * 3)).drop (i * 3) := ⟨_, rfl⟩; rw [← hD] at hdl ⊢; have h1D : ∀ u ∈ D, u.oneCell' = true := fun u hu => h1c u (by rw [hD] at hu; exact List.mem_of_mem_drop hu)
  have hDc : ∀ (j : Nat) (v : Value), D[j]? = some v → w.cell? ⟨g, i * 3 + j, none⟩ = some v := fun j v hj => by
    rw [hD, List.getElem?_drop, List.getElem?_take] at hj; rw [blk_cell hg]
    split at hj
    · simpa using hj
    cases hj
  have hcp1 : ∀ ty dc sc, (Builtin.copy_ #[24, 24] ty #[.slice (some ⟨g, (i + 1) * 3, none⟩) (n - i) dc, .slice (some ⟨g, i * 3, none⟩) (n + 1 - i) sc]).run Tryz.prog w.drew = .ok (goInt ((n - i : Nat) : Int)) (w.drew.setCells g ((i + 1) * 3) D) := fun ty dc sc =>
    x_copy w.drew _ _ ty 66 3 g ((i + 1) * 3) (n - i) dc ⟨g, i * 3, none⟩ (n + 1 - i) sc D u1 hsz (n - i) u23_0 hdl
      (fun j v hj => by rw [add_at]; exact hDc j v hj) (fun j hj => hE _ (by omega)) (fun j hj => blk_frozen hg _) h1D
  obtain ⟨W1, hW1⟩ : ∃ W1, W1 = w.drew.setCells g ((i + 1) * 3) D := ⟨_, rfl⟩; obtain ⟨c1, bM, hc1s, hc1l⟩ := setCells_row D ((i + 1) * 3) w.drew cur hg (by omega); rw [← hW1] at bM hcp1 ⊢; have hvW : W1.heap[vb]? = some (.cells vs 66 (0, 0)) := by rw [hW1, setCells_far D _ vb hvb]; exact hv
  have hcp2 : ∀ ty dc, (Builtin.copy_ #[24, 24] ty #[.slice (some ⟨g, i * 3, none⟩) (n + 1 - i) dc, .slice (some ⟨vb, 0, none⟩) 1 1]).run Tryz.prog W1 = .ok (goInt ((1 : Nat) : Int)) (W1.setCells g (i * 3) vs.toList) := fun ty dc =>
    x_copy W1 _ _ ty 66 3 g (i * 3) (n + 1 - i) dc ⟨vb, 0, none⟩ 1 1 vs.toList u1 hsz 1 u23_0 (by simp [hvl])
      (fun j v hj => by rw [add_at, Nat.zero_add, blk_cell hvW]; simpa using hj) (fun j hj => by rw [blk_cell bM, Array.getElem?_eq_getElem (by rw [Array.length_toList] at hj; omega)]; rfl) (fun j hj => blk_frozen bM _) h1v
  have iF : IntKind.i64.wrap ((i : Int) + 1) = (i : Int) + 1 := by rw [IntKind.wrap_i64]; omega
  have iG : (0 : Int) ≤ (i : Int) + 1 := by omega
  have hin : i ≤ n := by omega
  have htn : ((i : Int) + 1).toNat = i + 1 := by omega
  have iH : ¬ (c = i + 1) := by omega
  have iI : (i : Int) ≤ (n : Int) + 1 := by omega
  have iJ : ¬ (c = i) := by omega
  obtain ⟨i0, hi0, h0_, h1_, h2_⟩ := info_parts info66; have HW := Aside0.mk hW1; clear bM hc1s hc1l hvW hE hDc hg hv hsa hsb hcs hvl h1c h1v h1D hD hdl hW1; go_enter Tryz.func109, Tryz.ntmps109
  go_wp2_with (simp only [hov])
  go_region_law (refine x_step_copy rfl _ _ 24 24 rfl _ _ (by simp [Act.eval, Act.put]) (by simp [Act.eval, Act.put]) (hcp1 _ _ _) ?_)
  go_wp2_with (at_builtin; refine x_wpList_copy _ rfl _ _ 24 24 rfl _ _ rfl rfl (hcp2 _ _) ?_)
  go_ret
  first | exact ⟨rfl, rfl⟩ | exact ⟨rfl, by rw [HW.out]⟩
def InsPost (g n : Nat) (cells : List Value) (w : World) (e : Ending) (w' : World) : Prop :=
  ∃ (G : Nat) (c2 : Array Value), e = .returned (.slice (some ⟨g, 0, none⟩) n G) ∧ n ≤ G ∧ G ≤ maxLen ∧ w'.heap[g]? = some (.cells c2 66 (0, 0)) ∧ c2.size = G * 3 ∧ c2.toList.take (n * 3) = cells ∧ w.grownBy w' (some g)
theorem insert_grow (g n i vb : Nat) (cur vs : Array Value) (w : World) (hi : i < n) (hn : n ≤ 1000)
    (hg : w.heap[g]? = some (.cells cur 66 (0, 0))) (hcs : cur.size = n * 3) (hv : w.heap[vb]? = some (.cells vs 66 (0, 0))) (hvl : vs.size = 3)
    (h1c : ∀ u ∈ cur.toList.take (n * 3), u.oneCell' = true) (h1v : ∀ u ∈ vs.toList, u.oneCell' = true) :
    Calls Tryz.prog 109 #[.slice (some ⟨g, 0, none⟩) n n, .int .i64 i, .slice (some ⟨vb, 0, none⟩) 1 1] w (InsPost w.heap.size (n + 1) (cur.toList.take (i * 3) ++ vs.toList ++ (cur.toList.take (n * 3)).drop (i * 3)) w) := by
  have u1 := Tryz.underlying24; have u3 := Tryz.underlying3; have hsz : (Tryz.prog.info? 66).map (·.size) = some 3 := by kernel_rfl
  obtain ⟨i0, hi0, hz0, hzs, hzb⟩ := info_parts info66; have hz2 : ¬ ((i : Int) = (n : Int)) := by omega
  have hbw : g < w.heap.size := blk_lt hg; have hvw : vb < w.heap.size := blk_lt hv; have hdl : ((cur.toList.take (n * 3)).drop (i * 3)).length = (n - i) * 3 := by rw [List.length_drop, List.length_take, Array.length_toList]; omega
  obtain ⟨D, hD⟩ : ∃ D, D = (cur.toList.take (n * 3)).drop (i * 3) := ⟨_, rfl⟩; have h1D : ∀ u ∈ D, u.oneCell' = true := fun u hu => h1c u (by rw [hD] at hu; exact List.mem_of_mem_drop hu)
  have hDc : ∀ (W : World), W.heap[g]? = some (.cells cur 66 (0, 0)) → ∀ (j : Nat) (v : Value), D[j]? = some v → W.cell? ⟨g, i * 3 + j, none⟩ = some v := fun W hW j v hj => by
    rw [hD, List.getElem?_drop, List.getElem?_take] at hj; rw [blk_cell hW]
    split at hj
    · simpa using hj
    cases hj
  rw [← hD] at hdl ⊢; have hold : (Builtin.firstCells i0.size i (.slice (some ⟨g, 0, none⟩) i n)).run Tryz.prog w.drew = .ok (cur.toList.take (i * 3)).toArray w.drew := by
    rw [hzs]; exact run_firstCells_some w.drew 3 i ⟨g, 0, none⟩ i n (cur.toList.take (i * 3)) (by rw [List.length_take, Array.length_toList]; omega) (fun j v hj => by
      rw [add_at, Nat.zero_add]; rw [List.getElem?_take] at hj
      split at hj
      · show w.drew.cell? _ = _
        rw [blk_cell (blk_drew hg)]
        simpa using hj
      cases hj)
  have hik : i + (n + 1 - i) = n + 1 := by omega
  have hkk : (n : Int) + 1 - (i : Int) = ((n + 1 - i : Nat) : Int) := by omega
  obtain ⟨G, hG⟩ : ∃ G, G = grownCap w (n + 1) n 66 := ⟨_, rfl⟩; have hGn : n + 1 ≤ G := by rw [hG]; exact grownCap_ge w _ _ _
  have hGm : G ≤ maxLen := by rw [hG]; exact grownCap_le_maxLen w (n + 1) n 66 (by unfold maxLen; omega)
  obtain ⟨ROW, hROW⟩ : ∃ ROW : Array Value, ROW = (cur.toList.take (i * 3)).toArray ++ Builtin.zeroCells (Value.agg #[(.int .i64 0), (.string ⟨#[]⟩), (.string ⟨#[]⟩)]).cells (n + 1 - i) ++ Builtin.zeroCells (Value.agg #[(.int .i64 0), (.string ⟨#[]⟩), (.string ⟨#[]⟩)]).cells (G - (n + 1)) := ⟨_, rfl⟩; have hRl : ROW.size = G * 3 := by
    have e : ∀ m, (Builtin.zeroCells (Value.agg #[(.int .i64 0), (.string ⟨#[]⟩), (.string ⟨#[]⟩)]).cells m).size = m * 3 := fun m => size_zeroCells _ _
    rw [hROW]; simp only [Array.size_append, e, List.size_toArray, List.length_take, Array.length_toList]; omega
  have hRt : ROW.toList.take (i * 3) = cur.toList.take (i * 3) := by
    rw [hROW]; simp only [Array.toList_append, List.append_assoc]; exact List.take_left' (by rw [List.length_take, Array.length_toList]; omega)
  obtain ⟨W1, hW1⟩ : ∃ W1, W1 = w.drew.alloc (.cells ROW 66) := ⟨_, rfl⟩; have hrz : ∀ ty, (Builtin.append_ #[24, 3] ty #[.slice (some ⟨g, 0, none⟩) i n, .int .i64 ((n : Int) + 1 - (i : Int))]).run Tryz.prog w = .ok (.slice (some ⟨w.heap.size, 0, none⟩) (n + 1) G) W1 := fun ty => by
    have h := Lib.run_append_grow_zeros w 24 3 ty 66 i0 _ .i64 .i64 u1 u3 hi0 hz0 (some ⟨g, 0, none⟩) i n (cur.toList.take (i * 3)) hold (n + 1 - i) (by omega) (by omega) (by omega) (by omega) (by rw [hzb]; omega) (by rw [hzb, hik]; exact growslice_fits (by omega) (by omega)); rw [hik] at h; rw [hkk, hW1, hROW, hG]; exact h
  have hN : W1.heap[w.heap.size]? = some (.cells ROW 66 (0, 0)) := by rw [hW1]; exact heap_alloc_new w.drew _
  have hg1 : W1.heap[g]? = some (.cells cur 66 (0, 0)) := by rw [hW1]; exact blk_alloc (blk_drew hg) _
  have hv1 : W1.heap[vb]? = some (.cells vs 66 (0, 0)) := by rw [hW1]; exact blk_alloc (blk_drew hv) _
  have hgr1 : w.grownBy W1 none := by rw [hW1]; exact ⟨rfl, rfl, rfl, by simp, fun k hk _ => heap_alloc_old w.drew _ hk⟩
  have hcpA : ∀ ty dc, (Builtin.copy_ #[24, 24] ty #[.slice (some ⟨w.heap.size, i * 3, none⟩) (n + 1 - i) dc, .slice (some ⟨vb, 0, none⟩) 1 1]).run Tryz.prog W1 = .ok (goInt ((1 : Nat) : Int)) (W1.setCells w.heap.size (i * 3) vs.toList) := fun ty dc =>
    x_copy W1 _ _ ty 66 3 w.heap.size (i * 3) (n + 1 - i) dc ⟨vb, 0, none⟩ 1 1 vs.toList u1 hsz 1 u23_0 (by simp [hvl])
      (fun j v hj => by rw [add_at, Nat.zero_add, blk_cell hv1]; simpa using hj) (fun j hj => by rw [blk_cell hN, Array.getElem?_eq_getElem (by rw [Array.length_toList] at hj; omega)]; rfl) (fun j hj => blk_frozen hN _) h1v
  obtain ⟨c1, bM, hc1s, hc1l⟩ := setCells_row vs.toList (i * 3) W1 ROW hN (by rw [Array.length_toList]; omega); obtain ⟨W2, hW2⟩ : ∃ W2, W2 = W1.setCells w.heap.size (i * 3) vs.toList := ⟨_, rfl⟩; rw [← hW2] at bM hcpA; have hgr2 : w.grownBy W2 none := by rw [hW2]; exact x_grown_cells _ _ hgr1 (fun k hk _ => by omega)
  have hg2 : W2.heap[g]? = some (.cells cur 66 (0, 0)) := by rw [hW2, setCells_far vs.toList _ g (by omega)]; exact hg1
  have hcpB : ∀ ty dc sc, (Builtin.copy_ #[24, 24] ty #[.slice (some ⟨w.heap.size, (i + 1) * 3, none⟩) (n - i) dc, .slice (some ⟨g, i * 3, none⟩) (n - i) sc]).run Tryz.prog W2.drew = .ok (goInt ((n - i : Nat) : Int)) (W2.drew.setCells w.heap.size ((i + 1) * 3) D) := fun ty dc sc =>
    x_copy W2.drew _ _ ty 66 3 w.heap.size ((i + 1) * 3) (n - i) dc ⟨g, i * 3, none⟩ (n - i) sc D u1 hsz (n - i) u23_0 hdl
      (fun j v hj => by rw [add_at]; exact hDc _ (blk_drew hg2) j v hj) (fun j hj => by rw [blk_cell (blk_drew bM), Array.getElem?_eq_getElem (by omega)]; rfl) (fun j hj => blk_frozen (blk_drew bM) _) h1D
  obtain ⟨c2, cN, hc2s, hc2l⟩ := setCells_row D ((i + 1) * 3) W2.drew c1 (blk_drew bM) (by omega); obtain ⟨W3, hW3⟩ : ∃ W3, W3 = W2.drew.setCells w.heap.size ((i + 1) * 3) D := ⟨_, rfl⟩; rw [← hW3] at cN hcpB; have hgr3 : w.grownBy W3 none := by rw [hW3]; exact x_grown_cells _ _ ⟨hgr2.os, hgr2.tape, hgr2.output, hgr2.size, hgr2.block⟩ (fun k hk _ => by omega)
  have hfin : c2.toList.take ((n + 1) * 3) = cur.toList.take (i * 3) ++ vs.toList ++ D := by
    have h := x_row_b (cur := ROW.toList) (c1 := c1.toList) (c2 := c2.toList) (o := i * 3) (s := 3) (m := (n - i) * 3) (V := vs.toList) (D := D) (by rw [Array.length_toList]; exact hvl) hdl (by rw [Array.length_toList]; omega) hc1l (by rw [show (i + 1) * 3 = i * 3 + 3 by omega] at hc2l; exact hc2l); rw [hRt] at h; rw [show (n + 1) * 3 = i * 3 + 3 + (n - i) * 3 by omega]; exact h
  have POST := Aside0.mk (show InsPost w.heap.size (n + 1) (cur.toList.take (i * 3) ++ vs.toList ++ D) w (.returned (.slice (some ⟨w.heap.size, 0, none⟩) (n + 1) G)) W3 from ⟨G, c2, rfl, hGn, hGm, cN, by omega, hfin, ⟨hgr3.os, hgr3.tape, hgr3.output, hgr3.size, fun k hk _ => hgr3.block k hk (by simp)⟩⟩); have iF : IntKind.i64.wrap ((i : Int) + 1) = (i : Int) + 1 := by rw [IntKind.wrap_i64]; omega
  have iG : (0 : Int) ≤ (i : Int) + 1 := by omega
  have hin : i ≤ n := by omega
  have htn : ((i : Int) + 1).toNat = i + 1 := by omega
  have iH : ¬ (G = i + 1) := by omega
  have iI : (i : Int) ≤ (n : Int) + 1 := by omega
  have iJ : ¬ (G = i) := by omega
  have jJ : ¬ (n = i) := by omega
  have hz3 : (n : Int) < (n : Int) + 1 := by omega
  have hG63 : G ≤ 9223372036854775807 := by unfold maxLen at hGm; exact hGm
  clear bM hc1s hc1l cN hc2s hc2l hN hg1 hg2 hv1 hDc hg hv hcs hvl h1c h1v h1D hD hdl hW1 hW2 hW3 hgr1 hgr2 hgr3 hfin hROW hRl hRt hG hold hik hkk hGm hz0 hzs hzb hi0 i0; go_enter Tryz.func109, Tryz.ntmps109
  go_wp2_with (first
    | (at_builtin; refine Lib.wpList_append_run _ rfl _ _ _ _ rfl _ _ rfl rfl _ _ (hrz _) ?_)
    | (at_builtin; refine x_wpList_copy _ rfl _ _ 24 24 rfl _ _ rfl rfl (hcpA _ _) ?_))
  go_region_law (refine x_step_copy rfl _ _ 24 24 rfl _ _ (by simp [Act.eval, Act.put]) (by simp [Act.eval, Act.put]) (hcpB _ _ _) ?_)
  go_wp2; go_ret
  exact POST.out
def InsR (base : Nat) (l : List S66) (w : World) (row : Option Nat) (e : Ending) (w' : World) : Prop :=
  ∃ v1 : Value, e = .returned v1 ∧ Kd.R k66 66 w' base (fun _ => True) v1 l ∧ w.grownBy w' row
theorem R_of_cells {w : World} {base : Nat} {v : Value} {l : List S66} {cs : List Value} (ho : w.ownsRow base 66 3 v l.length cs)
    (hr : Reps (fun (x : S66) (c : List Value) => c = [.int .i64 x.f0, .string x.f1, .string x.f2]) 3 l cs) : Kd.R k66 66 w base (fun _ => True) v l :=
  ⟨fun _ _ => trivial, cs, ho, hr.imp_ (fun p c hc => by rw [hc]; exact k66_mkM _ _ _ p)⟩
theorem insert_end (base : Nat) (v : Value) (l : List S66) (x : S66) (inner : List Value) (vb : Nat) (w : World) (ho : w.ownsRow base 66 3 v l.length inner)
    (hr : Reps (fun (x : S66) (c : List Value) => c = [.int .i64 x.f0, .string x.f1, .string x.f2]) 3 l inner) (hl : l.length ≤ 1000) (hbase : base ≤ w.heap.size)
    (hv : w.heap[vb]? = some (.cells #[.int .i64 x.f0, .string x.f1, .string x.f2] 66 (0, 0))) :
    Calls Tryz.prog 109 #[v, .int .i64 l.length, .slice (some ⟨vb, 0, none⟩) 1 1] w (InsR base (l ++ [x]) w v.ownBlock) := by
  have u1 := Tryz.underlying24; obtain ⟨i0, hi0, hz0, hzs, hzb⟩ := info_parts info66; obtain ⟨A, c, rfl⟩ := own_slice ho; have HO := Aside0.mk ho; have HR := Aside0.mk hr; have hnews : ∀ (j : Nat) (u : Value), ([.int .i64 x.f0, .string x.f1, .string x.f2] : List Value)[j]? = some u → w.cell? ((⟨vb, 0, none⟩ : Addr).add j) = some u := fun j u hj => by
    rw [add_at, Nat.zero_add, blk_cell hv]
    simpa using hj
  have HN := Aside0.mk hnews; have hlen : l.length ≤ c := own_le ho; clear ho hr hnews hv; go_enter Tryz.func109, Tryz.ntmps109
  go_wp2_with (at_builtin; refine wpList_append_own_at _ rfl _ _ 24 rfl base 66 i0 _ 3 40 u1 hi0 hz0 hzs hzb rfl (by decide) _ l.length inner rfl HO.out ⟨vb, 0, none⟩ 1 1 [.int .i64 x.f0, .string x.f1, .string x.f2] rfl rfl HN.out u23_1 (by unfold maxLen; omega) (by omega) hbase ?_; intro v1 w1 hown hg _ hat; have HV := Aside0.mk hown; have HG := Aside0.mk (show w.grownBy w1 (Value.slice A _ _).ownBlock from hg); clear hown hg hat)
  all_goals
    go_ret
    exact ⟨v1, rfl, R_of_cells (by simpa using HV.out) (HR.out.snoc rfl rfl), by first | exact HG.out | (cases A <;> exact HG.out)⟩
theorem insert_any (base : Nat) (v : Value) (l : List S66) (i : Nat) (x : S66) (vb : Nat) (w : World) (hR : Kd.R k66 66 w base (fun _ => True) v l) (hi : i ≤ l.length) (hl : l.length ≤ 1000) (hbase : base ≤ w.heap.size)
    (hv : w.heap[vb]? = some (.cells #[.int .i64 x.f0, .string x.f1, .string x.f2] 66 (0, 0))) (hne : some vb ≠ v.ownBlock) :
    Calls Tryz.prog 109 #[v, .int .i64 i, .slice (some ⟨vb, 0, none⟩) 1 1] w (InsR base (l.take i ++ [x] ++ l.drop i) w v.ownBlock) := by
  obtain ⟨h0, inner, ho, iK⟩ := hR; have hr : Reps (fun (x : S66) (c : List Value) => c = [.int .i64 x.f0, .string x.f1, .string x.f2]) 3 l inner := iK.imp_ (fun p c hc => k66_openM hc); have ho : w.ownsRow base 66 3 v l.length inner := ho; by_cases hin : i = l.length
  · subst hin; rw [List.take_length, List.drop_length, List.append_nil]; exact insert_end base v l x inner vb w ho hr hl hbase hv
  have hin : i < l.length := by omega
  have hone : ∀ u ∈ inner, u.oneCell' = true := Kd.reps_one hr (by decide) (fun p c hc u hu => by rw [hc] at hu; simp at hu; rcases hu with rfl | rfl | rfl <;> rfl); have hrn : Reps (fun (x : S66) (c : List Value) => c = [.int .i64 x.f0, .string x.f1, .string x.f2]) 3 (l.take i ++ [x] ++ l.drop i) (inner.take (i * 3) ++ [.int .i64 x.f0, .string x.f1, .string x.f2] ++ inner.drop (i * 3)) :=
    Kd.reps_append ((Kd.reps_take hr hi).snoc rfl rfl) (Kd.reps_drop hr)
  have hln : (l.take i ++ [x] ++ l.drop i).length = l.length + 1 := by simp; omega
  rcases ho.2 with ⟨rfl, hn0⟩ | ⟨g, cap, cur, rfl, hbg, hg, hnc, hcm, hcs, htake⟩
  · omega
  have hvg : vb ≠ g := fun e => hne (by rw [e]; rfl)
  by_cases hroom : l.length + 1 ≤ cap
  · refine (insert_shift g l.length cap i vb cur #[.int .i64 x.f0, .string x.f1, .string x.f2] w hin hroom (by unfold maxLen at hcm; exact hcm) hvg hg hcs hv rfl (by rw [htake]; exact hone) u23_1).mono ?_; rintro e w' ⟨rfl, rfl⟩; rw [htake]; have hdl : (inner.drop (i * 3)).length = (l.length - i) * 3 := by rw [List.length_drop, ho.1]; omega
    obtain ⟨c1, bM, hc1s, hc1l⟩ := setCells_row (inner.drop (i * 3)) ((i + 1) * 3) w.drew cur (blk_drew hg) (by rw [hdl]; omega); obtain ⟨c2, cN, hc2s, hc2l⟩ := setCells_row [.int .i64 x.f0, .string x.f1, .string x.f2] (i * 3) _ c1 bM (by simp; omega); have h := x_row_a (cur := cur.toList) (c1 := c1.toList) (c2 := c2.toList) (o := i * 3) (s := 3) (m := (l.length - i) * 3) (V := [.int .i64 x.f0, .string x.f1, .string x.f2]) (D := inner.drop (i * 3)) rfl hdl (by have := Array.length_toList (xs := cur); omega) (by rw [show (i + 1) * 3 = i * 3 + 3 by omega] at hc1l; exact hc1l) hc2l; have hti : cur.toList.take (i * 3) = inner.take (i * 3) := by rw [← htake, List.take_take, Nat.min_eq_left (by omega)]
    rw [hti] at h; refine ⟨_, rfl, R_of_cells (cs := inner.take (i * 3) ++ [.int .i64 x.f0, .string x.f1, .string x.f2] ++ inner.drop (i * 3)) ?_ hrn, ?_⟩
    · rw [hln]; refine ⟨by rw [hrn.1, hln], .inr ⟨g, cap, c2, rfl, hbg, cN, hroom, hcm, by omega, ?_⟩⟩; rw [← h]
      congr 1
      omega
    have hg0 : w.grownBy w.drew (some g) := ⟨rfl, rfl, rfl, Nat.le_refl _, fun _ _ _ => rfl⟩; exact x_grown_cells _ _ (x_grown_cells _ _ hg0 (fun k _ hk => fun e => hk (congrArg some e))) (fun k _ hk => fun e => hk (congrArg some e))
  obtain rfl : cap = l.length := by omega
  refine (insert_grow g l.length i vb cur #[.int .i64 x.f0, .string x.f1, .string x.f2] w hin hl hg hcs hv rfl (by rw [htake]; exact hone) u23_1).mono ?_; rintro e w' ⟨G, c2, rfl, hG, hGm, cN, hc2s, hc2l, hgr⟩; rw [htake] at hc2l; have hti : cur.toList.take (i * 3) = inner.take (i * 3) := by rw [← htake, List.take_take, Nat.min_eq_left (by omega)]
  rw [hti] at hc2l; refine ⟨_, rfl, R_of_cells (cs := inner.take (i * 3) ++ [.int .i64 x.f0, .string x.f1, .string x.f2] ++ inner.drop (i * 3)) ?_ hrn, ?_⟩
  · rw [hln]; exact ⟨by rw [hrn.1, hln], .inr ⟨w.heap.size, G, c2, rfl, hbase, cN, hG, hGm, hc2s, hc2l⟩⟩
  exact ⟨hgr.os, hgr.tape, hgr.output, hgr.size, fun k hk _ => hgr.block k hk (by simp; omega)⟩
def placeIdx (l : List S66) (a : Int) : Nat := (l.takeWhile (fun x => decide (x.f0 < a))).length
theorem placeIdx_le (l : List S66) (a : Int) : placeIdx l a ≤ l.length := (List.takeWhile_sublist _).length_le
theorem all_takeWhile {α : Type} (p : α → Bool) : ∀ (l : List α) (x : α), x ∈ l.takeWhile p → p x = true
  | [], x, h => by simp at h
  | y :: t, x, h => by
    cases hp : p y
    · simp [List.takeWhile, hp] at h
    simp only [List.takeWhile, hp, List.mem_cons] at h; rcases h with rfl | h
    · exact hp
    exact all_takeWhile p t x h
theorem placeIdx_lt (l : List S66) (a : Int) (i : Nat) (h : i < placeIdx l a) : (rd_T66 l i).f0 < a := by
  have hl : i < l.length := Nat.lt_of_lt_of_le h (placeIdx_le l a); have h1 : (l.takeWhile (fun x => decide (x.f0 < a)))[i]? = l[i]? := by
    have := List.takeWhile_prefix (l := l) (fun x => decide (x.f0 < a)); rw [List.getElem?_eq_getElem h, List.getElem?_eq_getElem hl]
    congr 1
    exact this.getElem h
  have h2 : l[i]'hl ∈ l.takeWhile (fun x => decide (x.f0 < a)) := by
    rw [List.getElem?_eq_getElem hl] at h1; exact List.mem_of_getElem? h1
  have h3 := all_takeWhile _ l _ h2; unfold rd_T66; rw [Int.toNat_natCast, List.getD_eq_getElem?_getD, List.getElem?_eq_getElem hl]
  simpa using h3
theorem placeIdx_ge (l : List S66) (a : Int) : placeIdx l a < l.length → ¬ (rd_T66 l (placeIdx l a)).f0 < a := by
  induction l with
  | nil => intro h; simp [placeIdx] at h
  | cons x t ih =>
    intro h; by_cases hx : x.f0 < a
    · have e : placeIdx (x :: t) a = placeIdx t a + 1 := by simp [placeIdx, hx]
      rw [e] at h ⊢; have := ih (by simpa using h); unfold rd_T66 at this ⊢; rw [Int.toNat_natCast] at this ⊢
      simpa using this
    have e : placeIdx (x :: t) a = 0 := by simp [placeIdx, hx]
    rw [e]; unfold rd_T66
    simpa using hx
def placeL (l : List S66) (x : S66) : List S66 := l.take (placeIdx l x.f0) ++ [x] ++ l.drop (placeIdx l x.f0)
def impl_placed.f (aE : Int) (aB : List S66) (aJ : Int) (aR aS : ByteArray) : Option (Int × List S66) := if aB.length ≤ 1000 then some (aE, placeL aB ⟨aJ, aR, aS⟩) else none
theorem impl_placed.calls {aE : Int} {aK : Option Addr} {aL : Nat} {aB : List S66} {aJ : Int} {aR aS : ByteArray} {r1 : Int} {r2 : List S66} {w : World} (h : impl_placed.f aE aB aJ aR aS = some (r1, r2)) (bB : Kd.C k66 w aK aB.length aB) (bC : aB.length ≤ aL) :
    Calls Tryz.prog 96 #[.agg #[.int .i64 aE, .slice aK aB.length aL], .agg #[.int .i64 aJ, .string aR, .string aS]] w fun e w' => ∃ v1_ : Value, e = .returned (.agg #[.int .i64 r1, v1_]) ∧ Kd.R k66 66 w' w.heap.size (fun _ => True) v1_ r2 ∧ Below w.heap.size w w' := by
  unfold impl_placed.f at h; have hl : aB.length ≤ 1000 := by
    by_cases hl : aB.length ≤ 1000
    · exact hl
    rw [if_neg hl] at h; cases h
  rw [if_pos hl] at h; simp only [Option.some.injEq, Prod.mk.injEq] at h; obtain ⟨rfl, rfl⟩ := h; have hcopy : impl_copyDisk.f aE aB = some (aE, aB) := by
    unfold impl_copyDisk.f; simp only [Option.bind_some, List.length_nil, Nat.zero_add, List.nil_append]; rw [if_pos (by omega)]
  have iL := Tryz.underlying26; have iM := Tryz.underlying24; have HR := Aside0.mk bB; have HC := Aside0.mk bC; have HCP := Aside0.mk hcopy; clear bB bC hcopy; go_enter Tryz.func96, Tryz.ntmps96
  go_wp2_with fail
  go_at_call 27
  refine (impl_copyDisk.calls HCP.out ?s1 ?s2).mono ?_
  case s1 => exact Kd.C_alloc (Kd.C_alloc (Kd.C_alloc HR.out _) _) _
  case s2 => exact HC.out
  rintro e w1 ⟨v1, rfl, hR, hb⟩; have h1 : w.heap.size + 3 ≤ w1.heap.size := by have := hb.size; simp at this; omega
  have hF : w1.heap[w.heap.size + 1]? = some (.cells #[.int .i64 aJ, .string aR, .string aS] 66 (0, 0)) := blk_below (by have := blk_alloc (w := (w.alloc (.cells #[.int .i64 aE, .slice aK aB.length aL] 26)).alloc (.cells #[.int .i64 aJ, .string aR, .string aS] 66)) (heap_alloc_new _ _) (.cells #[.int .i64 0, .slice none 0 0] 26); simpa using this) hb; have hO : w1.heap[w.heap.size + 2]? = some (.cells #[.int .i64 0, .slice none 0 0] 26 (0, 0)) := blk_below (by have := heap_alloc_new ((w.alloc (.cells #[.int .i64 aE, .slice aK aB.length aL] 26)).alloc (.cells #[.int .i64 aJ, .string aR, .string aS] 66)) (.cells #[.int .i64 0, .slice none 0 0] 26); simpa using this) hb; have hB : Below w.heap.size w w1 := below_step (below_alloc (below_alloc (below_alloc (Below.refl _ w) _) _) _) hb; have hR : Kd.R k66 66 w1 (w.heap.size + 3) (fun _ => True) v1 aB := by have := hR; simpa using this
  obtain ⟨A1, c1, rfl⟩ := Kd.R_slice hR; have HF := Aside0.mk hF; have HO := Aside0.mk hO; have HB := Aside0.mk hB; have bA := Aside0.mk hR; have H1 := Aside0.mk h1; clear hF hO hB hR h1 hb; go_wp2; go_loopg [6] (aB.length + 1) (fun gg s6 wr => ∃ i : Nat, s6 = .int .i64 i ∧ i ≤ placeIdx aB aJ ∧ aB.length - i < gg ∧ Aside0 (Kd.R k66 66 wr (w.heap.size + 3) (fun _ => True) (.slice A1 aB.length c1) aB) ∧ Aside0 (wr.heap[w.heap.size + 1]? = some (.cells #[.int .i64 aJ, .string aR, .string aS] 66 (0, 0))) ∧ Aside0 (wr.heap[w.heap.size + 2]? = some (.cells #[.int .i64 0, .slice none 0 0] 26 (0, 0))) ∧ Aside0 (wr.heap[w1.heap.size]? = some (.cells #[.int .i64 aE, .slice A1 aB.length c1] 26 (0, 0))) ∧ Aside0 (Below w.heap.size w wr) ∧ Aside0 (w.heap.size + 3 ≤ wr.heap.size))
  case atStart => exact ⟨0, rfl, by omega, by omega, ⟨Kd.R_alloc bA.out _⟩, ⟨blk_alloc HF.out _⟩, ⟨blk_alloc HO.out _⟩, ⟨heap_alloc_new _ _⟩, ⟨below_alloc HB.out _⟩, ⟨by have := H1.out; simp; omega⟩⟩
  case round =>
    clear HF HO HB bA; obtain ⟨i, rfl, hi, hg, bA, HF, HO, HU, HB, HS⟩ := hrel; by_cases hlt : i < placeIdx aB aJ
    · have hll := placeIdx_le aB aJ; have hp := placeIdx_lt aB aJ i hlt; obtain ⟨ad, hA, fK, _, _⟩ := at_T66 (Kd.R_reads' bA.out).2.2 (i : Int) (by omega) (by omega); have fL : wr.cell? ⟨w1.heap.size, 1, none⟩ = some (.slice A1 aB.length c1) := (blk_cell HU.out 1).trans rfl; have fM : wr.cell? ⟨w.heap.size + 1, 0, none⟩ = some (.int .i64 aJ) := (blk_cell HF.out 0).trans rfl; have hlt2 : decide ((i : Int) < (aB.length : Int)) = true := decide_eq_true (by omega); have hlt4 : i < aB.length := by omega
      have hlt3 := decide_eq_true hp; subst hA; rw [Int.toNat_natCast] at fK; have HLT := Aside0.mk hlt; clear hp hlt hll; have HG := Aside0.mk hg; have HI := Aside0.mk hi; clear hg hi; go_wp2; go_quiet (fail)
      go_wp2; go_roundg (aB.length - i)
      case measure => have := HG.out; omega
      case rel => exact ⟨i + 1, by go_num, HLT.out, by omega, ⟨Kd.R_drewN bA.out _⟩, ⟨blk_drewN HF.out _⟩, ⟨blk_drewN HO.out _⟩, ⟨blk_drewN HU.out _⟩, ⟨pw_below_drewN HB.out _⟩, HS⟩
    obtain rfl : i = placeIdx aB aJ := by omega
    have fL : wr.cell? ⟨w1.heap.size, 1, none⟩ = some (.slice A1 aB.length c1) := (blk_cell HU.out 1).trans rfl; have fM : wr.cell? ⟨w.heap.size + 1, 0, none⟩ = some (.int .i64 aJ) := (blk_cell HF.out 0).trans rfl; have gM : wr.cell? ⟨w.heap.size + 1, 1, none⟩ = some (.string aR) := (blk_cell HF.out 1).trans rfl; have gN : wr.cell? ⟨w.heap.size + 1, 2, none⟩ = some (.string aS) := (blk_cell HF.out 2).trans rfl; clear hi hlt; obtain ⟨p, hP⟩ : ∃ p, p = placeIdx aB aJ := ⟨_, rfl⟩; have HPL := placeIdx_le aB aJ; have HPG := placeIdx_ge aB aJ; rw [← hP] at HPL HPG hg ⊢; by_cases hlt : p < aB.length
    · have hq := HPG hlt; obtain ⟨ad, hA, fK, _, _⟩ := at_T66 (Kd.R_reads' bA.out).2.2 (p : Int) (by omega) (by omega); subst hA; rw [Int.toNat_natCast] at fK; have hlt2 : decide ((p : Int) < (aB.length : Int)) = true := decide_eq_true (by omega); have hlt3 := decide_eq_false hq; have HP := Aside0.mk hP; have HPL := Aside0.mk HPL; clear HPG hq hg hP; go_wp2; go_quiet (fail)
      go_wp2_with fail
      go_at_call 109
      refine (insert_any (w.heap.size + 3) (.slice (some ad) aB.length c1) aB p ⟨aJ, aR, aS⟩ wr.heap.size _ (Kd.R_alloc (Kd.R_drewN bA.out _) _) HPL.out hl (by have := HS.out; simp; omega) (heap_alloc_new (wr.drewN _) _) (fun e => by have := Kd.R_lt bA.out _ e.symm; omega)).mono ?_; rintro e w2 ⟨v2, rfl, hR2, hg2⟩; have HU2 := Aside0.mk (blk_grown (blk_alloc (blk_drewN HU.out _) _) hg2 (Kd.R_ne bA.out HU.out (by decide))); have bW := Aside0.mk (blk_grown (blk_alloc (blk_drewN HO.out _) _) hg2 (Kd.R_ne bA.out HO.out (by decide))); have HB2 := Aside0.mk (pw_below_grown (below_alloc (pw_below_drewN HB.out _) _) _ (by have := HS.out; simp; omega) hg2 (fun k hk => by have := Kd.R_base bA.out k hk; omega)); have cT := Aside0.mk (show Kd.R k66 66 w2 (w.heap.size + 3) (fun _ => True) v2 (placeL aB ⟨aJ, aR, aS⟩) from (by unfold placeL; rw [← HP.out]; exact hR2)); have hsz : w.heap.size + 3 ≤ w2.heap.size := by have := hg2.size; have := HS.out; simp at *; omega
      clear hR2 hg2 HU HO HB bA HF fL fM gM gN; obtain ⟨L2, hL2⟩ : ∃ L2, L2 = placeL aB ⟨aJ, aR, aS⟩ := ⟨_, rfl⟩; rw [← hL2] at cT; have HL := Aside0.mk hL2; clear hL2; obtain ⟨A2, c2, hv2⟩ := Kd.R_slice cT.out; subst hv2; have n12 : w1.heap.size ≠ w.heap.size + 2 := by have := H1.out; omega
      have n21 : w.heap.size + 2 ≠ w1.heap.size := n12.symm; have iO : w2.cell? ⟨w1.heap.size, 0, none⟩ = some (.int .i64 aE) := (blk_cell HU2.out 0).trans rfl; have iP : w2.cell? ⟨w1.heap.size, 1, none⟩ = some (.slice (some ad) aB.length c1) := (blk_cell HU2.out 1).trans rfl; have iQ := fun i => blk_frozen HU2.out i
      have iR : w2.cell? ⟨w.heap.size + 2, 0, none⟩ = some (.int .i64 0) := (blk_cell bW.out 0).trans rfl; have iS : w2.cell? ⟨w.heap.size + 2, 1, none⟩ = some (.slice none 0 0) := (blk_cell bW.out 1).trans rfl; have iU := fun i => blk_frozen bW.out i
      go_wp2; refine bodyPost_ret (results_cell_row rfl _ _ (w.heap.size + 2) 26 #[.int .i64 aE, .slice A2 L2.length c2] (0, 0) _ rfl u23_2 Tryz.underlying26 rfl (by kernel_rfl)) rfl ?_; refine ⟨_, rfl, u23_3, ?_⟩; exact below_set (below_set (below_set HB2.out (by have := H1.out; omega)) (by omega)) (by omega)
    obtain rfl : p = aB.length := by omega
    have hlt2 : decide ((aB.length : Int) < (aB.length : Int)) = false := decide_eq_false (by omega); have HP := Aside0.mk hP; have HPL := Aside0.mk HPL; clear HPG hg hP; go_wp2; go_quiet (fail)
    go_wp2_with fail
    go_at_call 109
    refine (insert_any (w.heap.size + 3) (.slice A1 aB.length c1) aB aB.length ⟨aJ, aR, aS⟩ wr.heap.size _ (Kd.R_alloc (Kd.R_drewN bA.out _) _) HPL.out hl (by have := HS.out; simp; omega) (heap_alloc_new (wr.drewN _) _) (fun e => by have := Kd.R_lt bA.out _ e.symm; omega)).mono ?_; rintro e w2 ⟨v2, rfl, hR2, hg2⟩; have HU2 := Aside0.mk (blk_grown (blk_alloc (blk_drewN HU.out _) _) hg2 (Kd.R_ne bA.out HU.out (by decide))); have bW := Aside0.mk (blk_grown (blk_alloc (blk_drewN HO.out _) _) hg2 (Kd.R_ne bA.out HO.out (by decide))); have HB2 := Aside0.mk (pw_below_grown (below_alloc (pw_below_drewN HB.out _) _) _ (by have := HS.out; simp; omega) hg2 (fun k hk => by have := Kd.R_base bA.out k hk; omega)); have cT := Aside0.mk (show Kd.R k66 66 w2 (w.heap.size + 3) (fun _ => True) v2 (placeL aB ⟨aJ, aR, aS⟩) from (by unfold placeL; rw [← HP.out]; exact hR2)); have hsz : w.heap.size + 3 ≤ w2.heap.size := by have := hg2.size; have := HS.out; simp at *; omega
    clear hR2 hg2 HU HO HB bA HF fL fM gM gN; obtain ⟨L2, hL2⟩ : ∃ L2, L2 = placeL aB ⟨aJ, aR, aS⟩ := ⟨_, rfl⟩; rw [← hL2] at cT; have HL := Aside0.mk hL2; clear hL2; obtain ⟨A2, c2, hv2⟩ := Kd.R_slice cT.out; subst hv2; have n12 : w1.heap.size ≠ w.heap.size + 2 := by have := H1.out; omega
    have n21 : w.heap.size + 2 ≠ w1.heap.size := n12.symm; have iO : w2.cell? ⟨w1.heap.size, 0, none⟩ = some (.int .i64 aE) := (blk_cell HU2.out 0).trans rfl; have iP : w2.cell? ⟨w1.heap.size, 1, none⟩ = some (.slice A1 aB.length c1) := (blk_cell HU2.out 1).trans rfl; have iQ := fun i => blk_frozen HU2.out i
    have iR : w2.cell? ⟨w.heap.size + 2, 0, none⟩ = some (.int .i64 0) := (blk_cell bW.out 0).trans rfl; have iS : w2.cell? ⟨w.heap.size + 2, 1, none⟩ = some (.slice none 0 0) := (blk_cell bW.out 1).trans rfl; have iU := fun i => blk_frozen bW.out i
    go_wp2; refine bodyPost_ret (results_cell_row rfl _ _ (w.heap.size + 2) 26 #[.int .i64 aE, .slice A2 L2.length c2] (0, 0) _ rfl u23_2 Tryz.underlying26 rfl (by kernel_rfl)) rfl ?_; refine ⟨_, rfl, u23_3, ?_⟩; exact below_set (below_set (below_set HB2.out (by have := H1.out; omega)) (by omega)) (by omega)
theorem impl_DiskAppend.e66 {W : World} {base : Nat} {ok : Nat → Prop} {g n cap : Nat} {xs : List S66} (h : Kd.R k66 66 W base ok (.slice (some ⟨g, 0, none⟩) n cap) xs) (i : Int) (p : 0 ≤ i) (q : i < n) : W.cell? ⟨g, i.toNat * 3, none⟩ = some (.int .i64 ((rd_T66 xs i).f0)) ∧ W.cell? ⟨g, i.toNat * 3 + 1, none⟩ = some (.string ((rd_T66 xs i).f1)) ∧ W.cell? ⟨g, i.toNat * 3 + 2, none⟩ = some (.string ((rd_T66 xs i).f2)) ∧ W.frozen? ⟨g, i.toNat * 3, none⟩ = false ∧ W.frozen? ⟨g, i.toNat * 3 + 1, none⟩ = false ∧ W.frozen? ⟨g, i.toNat * 3 + 2, none⟩ = false := by
  obtain ⟨c, hcl, hM, hcc, hfr⟩ := Kd.R_elem h z66 i p q; obtain rfl := k66_openM hM; exact ⟨hcc 0 _ rfl, hcc 1 _ rfl, hcc 2 _ rfl, hfr 0, hfr 1, hfr 2⟩
def impl_DiskAppend.j0 : Nat → Int → ByteArray → Bool → Int → List (S66) → Option (Int × (List (S66)) × Int)
 | 0, _, _, _, _, _ => none
 | k + 1, x1, x2, iV, aN, aO => if iV = true then (some (0, ([] : List (S66)), 1)) else ((impl_sizeOf.f k aN aO).bind fun aW => (if (wrap64 (aW + (x2.size : Int))) > aN then ((impl_copyDisk.f aN aO).bind fun bN => (some (bN.1, bN.2, 3))) else ((impl_fileAt.f aN aO x1).bind fun aD => (if aD < 0 then ((impl_placed.f aN aO x1 (⟨#[]⟩ : ByteArray) x2).bind fun bO => (some (bO.1, bO.2, 0))) else ((impl_copyDisk.f aN aO).bind fun aT => (if 0 ≤ aD then (if aD < (aT.2.length : Int) then (if ((rd_T66 aT.2 aD).f2).size + x2.size ≤ 9223372036854775807 then (some (aT.1, (aT.2.set (aD : Int).toNat (⟨(rd_T66 aT.2 aD).f0, (rd_T66 aT.2 aD).f1, ((rd_T66 aT.2 aD).f2) ++ x2⟩ : S66)), 0)) else (none)) else (none)) else (none)))))))
def impl_DiskAppend.f (k : Nat) (aE : Int) (aB : List (S66)) (a1 : Int) (a2 : ByteArray) : Option (Int × (List (S66)) × Int) := (impl_DiskOk.f k aE aB).bind fun bE => (if bE = true then ((impl_isFile.f a1).bind fun aX => (impl_DiskAppend.j0 k a1 a2 (!aX) aE aB)) else (impl_DiskAppend.j0 k a1 a2 true aE aB))
def impl_DiskAppend.T3 : Bool × List (List Nat × List Nat) := (true, [([], []), ([0], [0]), ([], []), ([2], [2]), ([1, 3], [1, 3]), ([], []), ([5], [5]), ([4, 6], [4, 6])])
def impl_DiskAppend.B3 : List Nat := [0, 1, 0, 4, 15, 0, 32, 127]
theorem impl_DiskAppend.calls {k : Nat} {aE : Int} {aK : Option Addr} {aL : Nat} {aB : List (S66)} {a1 : Int} {a2 : ByteArray} {r1 : Int} {r2 : List (S66)} {r3 : Int} {w : World} (h : impl_DiskAppend.f k aE aB a1 a2 = some (r1, r2, r3)) (bB : Kd.C k66 w aK aB.length aB) (bC : aB.length ≤ aL) :
 Calls Tryz.prog 75 #[.agg #[.int .i64 aE, .slice aK aB.length aL], .int .i64 a1, .string a2] w fun e w' => ∃ v1_ : Value, e = .returned (.tuple #[.agg #[.int .i64 r1, v1_], .int .i64 r3]) ∧ Kd.R k66 66 w' w.heap.size (fun _ => True) v1_ r2 ∧ Below w.heap.size w w' := by
 have iW := Tryz.underlying26; have iX := Tryz.underlying66; have aP := aM bB; have aQ := aM bC
 clear bB bC
 have HB := aM (Below.refl w.heap.size w); have H := h; unfold impl_DiskAppend.f at H
 clear h
 have fN := aM H
 clear H
 go_enter Tryz.func75, Tryz.ntmps75
 go_upto_region 1 with (first | (refine bE_ (N := 3) rfl ?_; intro bP hg w5 aA hb; have fO := aM (xge hg); have fP := aM (xge hg); replace HB := xbs hb; clear hb hg) | (refine bE_ (N := 6) rfl ?_; intro aU hg w6 aC hb; have fQ := aM (xge hg); have fR := aM (xge hg); replace HB := xbs hb; have aH := nblt aA hg; have aI := nbgt aA hg; replace aA := xbb aA hb; clear hb hg))
 (try simp only [Act.put, List.setIfInBounds_toArray, List.set_cons_zero, List.set_cons_succ])
 go_cut [17] (fun v17 wc => ∃ (kq : Nat) (bK : Bool), v17 = .bool bK ∧ Aside0 (impl_DiskAppend.j0 kq a1 a2 bK aE aB = some (r1, r2, r3)) ∧ Aside0 (kq ≤ k) ∧ Aside0 (wc.heap[bP]? = some (.cells #[.int .i64 aE, (.slice aK aB.length aL)] 26 (0, 0))) ∧ Aside0 (wc.heap[aU]? = some (.cells #[.int .i64 0, (.slice none 0 0)] 26 (0, 0))) ∧ Aside0 (Below w.heap.size w wc))
 case first =>
  have H := fN.out; clear fN; replace H := oA_ H; obtain ⟨bE, A7, H⟩ := H; (try dsimp only at H)
  cases bE; rotate_left
  ·replace H := iT H; replace H := oA_ H; obtain ⟨aX, A9, H⟩ := H; (try dsimp only at H); replace H := aM H; have gR := a2_ aH aI; have bX := xf2 (w := w6) aA; go_wp2_with (first | (refine gN_ 26 11 rfl rfl ?_; refine c0_ Tryz.func26 (impl_DiskOk.calls A7.out (xcb aP) aQ.out) ?_; intro jK hb; replace aA := xbb aA hb; replace aC := xbb aC hb; replace HB := xbs hb; (try clear hb)) | (go_at_call 52; (with_reducible refine (impl_isFile.calls A9.out).mono ?_); rintro e w' ⟨rfl, ⟨nd, rfl⟩⟩))
   go_meet
   case rel => exact ⟨_, _, (by first | rfl | (simp; done) | (simp [*]; done)), H, ⟨by first | omega | exact Nat.le_refl _⟩, ⟨xblk⟩, ⟨xblk⟩, ⟨xbg⟩⟩
  replace H := iN H; replace H := aM H; have gT := a2_ aH aI; have cB := xf2 (w := w6) aA; go_wp2_with (first | (refine gN_ 26 11 rfl rfl ?_; refine c0_ Tryz.func26 (impl_DiskOk.calls A7.out (xcb aP) aQ.out) ?_; intro jL hb; replace aA := xbb aA hb; replace aC := xbb aC hb; replace HB := xbs hb; (try clear hb)))
  go_meet
  case rel => exact ⟨_, _, (by first | rfl | (simp; done) | (simp [*]; done)), H, ⟨by first | omega | exact Nat.le_refl _⟩, ⟨xblk⟩, ⟨xblk⟩, ⟨xbg⟩⟩
 case rest =>
  clear fN
  obtain ⟨kq, bK, rfl, HA, HJ3, aA, aC, HB⟩ := hcut; cases kq with
  | zero => exact absurd HA.out (by simp [impl_DiskAppend.j0])
  | succ fS =>
   have H := HA.out; clear HA; simp only [impl_DiskAppend.j0] at H; cases bK; rotate_left
   ·replace H := iT H; obtain ⟨rfl, rfl, rfl⟩ := i3_ H; have gV := a2_ aI aH; have dM := xf2 (w := wc) aC; go_wp2; refine bodyPost_ret (results_ct rfl _ _ aU 26 #[.int .i64 0, .slice none 0 0] (0, 0) _ rfl xP Tryz.underlying26 rfl (by kernel_rfl)) rfl ?_; exact ⟨_, xerr, by first | exact Kd.R_nil _ _ _ _ _ | exact Kd.N_nil _ _ _ _ _ | exact Kd.V_nil _ _ _ _ _ | exact Kd.Q_nil _ _ _ _ _ | exact Kd.S_nil _ _ _ _ _, xbg⟩
   replace H := iN H; replace H := oA_ H; obtain ⟨aW, fT, H⟩ := H; (try dsimp only at H); replace H := dI_ H; obtain ⟨cY, H⟩ | ⟨cY, H⟩ := H
   ·replace H := oA_ H; obtain ⟨⟨cF, cG⟩, iY, H⟩ := H; (try dsimp only at H); obtain ⟨rfl, rfl, rfl⟩ := i3_ H; try go_wp2
    replace aA := bD aA; replace aC := bD aC; replace HB := lD HB; refine sb2 8 impl_DiskAppend.T3 impl_DiskAppend.B3 aA (fun hHeld HT_ HW_ => ?_); generalize wc.drew = jO at aA aC HB hHeld ⊢; refine pV 2 21 ?_; refine pV 3 22 ?_; refine pV 5 24 ?_; refine tK 0 19 ?_; refine tK 6 25 ?_; refine oN 1 20 fun K hK => ?_
    refine d0_ Tryz.func54 (impl_sizeOf.calls fT.out (xcb aP) aQ.out) ?_; intro iZ hb; replace aA := xbb aA hb; replace aC := xbb aC hb; replace HB := xbs hb; (try clear hb); refine hK.out _ _ (xe2 aA) (fun hHeld => ?_); clear hK K; refine nm_ (N := 20) ?_; refine pV 4 23 ?_; refine pV 7 26 ?_; refine dn_ ?_; have gX := a2_ aH aI; have dQ := xf2 (w := iZ) aA; try go_wp2_with (first | (refine gN_ 27 28 rfl rfl ?_; refine c1_ Tryz.func27 (impl_copyDisk.calls iY.out (xcb aP) aQ.out) ?_; rintro gZ jA ⟨cH, hb⟩; have bQ := aM (Kd.R_lower cH (below_size xbg)); replace aA := xbb aA hb; replace aC := xbb aC hb; replace HB := xbs hb; (try clear hb cH); have dU := xf2 (w := jA) aC; obtain ⟨fU, fV, fW⟩ := Kd.R_slice bQ.out; subst fW))
    refine bodyPost_ret (results_ct rfl _ _ aU 26 #[.int .i64 cF, .slice fU cG.length fV] (0, 0) _ rfl xP Tryz.underlying26 rfl (by kernel_rfl)) rfl ?_; exact ⟨_, xerr, xrm bQ (fun _ _ => trivial), xbg⟩
   replace H := oA_ H; obtain ⟨aD, hC, H⟩ := H; (try dsimp only at H); replace H := dI_ H; obtain ⟨dB, H⟩ | ⟨dB, H⟩ := H
   ·replace H := oA_ H; obtain ⟨⟨cI, cJ⟩, jB, H⟩ := H; (try dsimp only at H); obtain ⟨rfl, rfl, rfl⟩ := i3_ H; try go_wp2
    replace aA := bD aA; replace aC := bD aC; replace HB := lD HB; refine sb2 8 impl_DiskAppend.T3 impl_DiskAppend.B3 aA (fun hHeld HT_ HW_ => ?_); generalize wc.drew = jP at aA aC HB hHeld ⊢; refine pV 2 21 ?_; refine pV 3 22 ?_; refine pV 5 24 ?_; refine tK 0 19 ?_; refine tK 6 25 ?_; refine oN 1 20 fun K hK => ?_
    refine d0_ Tryz.func54 (impl_sizeOf.calls fT.out (xcb aP) aQ.out) ?_; intro jC hb; replace aA := xbb aA hb; replace aC := xbb aC hb; replace HB := xbs hb; (try clear hb); refine hK.out _ _ (xe2 aA) (fun hHeld => ?_); clear hK K; refine nm_ (N := 20) ?_; refine pV 4 23 ?_; refine pV 7 26 ?_; refine dn_ ?_; have hH := a2_ aH aI; have dY := xf2 (w := jC) aA; try go_wp2_with (first | (refine gN_ 76 31 rfl rfl ?_; refine c0_ Tryz.func76 (impl_fileAt.calls hC.out (xcb aP) aQ.out) ?_; intro jD hb; replace aA := xbb aA hb; replace aC := xbb aC hb; replace HB := xbs hb; (try clear hb); have eC := xf2 (w := jD) aA) | (refine gN_ 96 38 rfl rfl ?_; refine c1_ Tryz.func96 (impl_placed.calls jB.out (xcb aP) aQ.out) ?_; rintro hJ jE ⟨cH, hb⟩; have bR := aM (Kd.R_lower cH (below_size xbg)); replace aA := xbb aA hb; replace aC := xbb aC hb; replace HB := xbs hb; (try clear hb cH); have eG := xf2 (w := jE) aC; obtain ⟨fX, fY, fZ⟩ := Kd.R_slice bR.out; subst fZ))
    refine bodyPost_ret (results_ct rfl _ _ aU 26 #[.int .i64 cI, .slice fX cJ.length fY] (0, 0) _ rfl xP Tryz.underlying26 rfl (by kernel_rfl)) rfl ?_; exact ⟨_, xerr, xrm bR (fun _ _ => trivial), xbg⟩
   replace H := oA_ H; obtain ⟨⟨aY, aF⟩, jF, H⟩ := H; (try dsimp only at H); replace H := dI_ H; obtain ⟨hL, H⟩ | ⟨_, H⟩ := H
   ·replace H := dN_ H; obtain ⟨hQ, H⟩ := H; replace H := pN_ H; obtain ⟨dE, H⟩ := H; have hS := eq_true dE; have hT := decide_eq_true dE; try have hU : (9223372036854775807 < ((rd_T66 aF aD).f2).size + a2.size) = False := eq_false (Nat.not_lt.2 dE); generalize hY : aF.set (aD : Int).toNat (⟨(rd_T66 aF aD).f0, (rd_T66 aF aD).f1, ((rd_T66 aF aD).f2) ++ a2⟩ : S66) = cK at H; replace hY := hY.symm; (try replace H := bS_ H); (try dsimp only at H); have cO := aM hY; clear hY; obtain ⟨rfl, rfl, rfl⟩ := i3_ H; try go_wp2
    replace aA := bD aA; replace aC := bD aC; replace HB := lD HB; refine sb2 8 impl_DiskAppend.T3 impl_DiskAppend.B3 aA (fun hHeld HT_ HW_ => ?_); generalize wc.drew = jQ at aA aC HB hHeld ⊢; refine pV 2 21 ?_; refine pV 3 22 ?_; refine pV 5 24 ?_; refine tK 0 19 ?_; refine tK 6 25 ?_; refine oN 1 20 fun K hK => ?_
    refine d0_ Tryz.func54 (impl_sizeOf.calls fT.out (xcb aP) aQ.out) ?_; intro jG hb; replace aA := xbb aA hb; replace aC := xbb aC hb; replace HB := xbs hb; (try clear hb); refine hK.out _ _ (xe2 aA) (fun hHeld => ?_); clear hK K; refine nm_ (N := 20) ?_; refine pV 4 23 ?_; refine pV 7 26 ?_; refine dn_ ?_; have hV := a2_ aH aI; have eM := xf2 (w := jG) aA
    try go_wp2_with (first | (refine gN_ 76 31 rfl rfl ?_; refine c0_ Tryz.func76 (impl_fileAt.calls hC.out (xcb aP) aQ.out) ?_; intro jH hb; replace aA := xbb aA hb; replace aC := xbb aC hb; replace HB := xbs hb; (try clear hb); have eQ := xf2 (w := jH) aA) | (refine gN_ 27 40 rfl rfl ?_; refine c1_ Tryz.func27 (impl_copyDisk.calls jF.out (xcb aP) aQ.out) ?_; rintro hZ jR ⟨cH, hb⟩; have aG := aM (Kd.R_lower cH (below_size xbg)); replace aA := xbb aA hb; replace aC := xbb aC hb; replace HB := xbs hb; (try clear hb cH)) | (refine bE_ (N := 9) rfl ?_; intro aZ hg iA aV hb; replace aG := xrb aG hb; have gA := aM (xge hg); have gB := aM (xge hg); replace HB := xbs hb; have bF := nblt aA hg; have bG := nbgt aA hg; have bH := nblt aC hg; have bI := nbgt aC hg; replace aA := xbb aA hb; replace aC := xbb aC hb; clear hb hg; have iB := a4_ bG bF bI bH; have eU := xf2 (w := iA) aV; obtain ⟨cP, bJ, gE⟩ := Kd.R_slice aG.out; subst gE) | (refine sE_ 26 9 ?_; intro cW hw; replace aG : Aside0 (Kd.R k66 66 cW w.heap.size (fun _ => True) (.slice cP aF.length bJ) aF) := xwm hw aG (fun _ _ => trivial); replace aA := xwc hw aA; replace aC := xwc hw aC; replace aV : Aside0 (cW.heap[aZ]? = some (.cells #[.int .i64 aY, .slice cP aF.length bJ] 26 (0, 0))) := xwp hw; replace HB := xbw hw HB; clear hw; have eY := xf2 (w := cW) aV; have p1116 : 0 ≤ (aD : Int) := oda; have q1116 : aD < (aF.length : Int) := oda; obtain ⟨gF, dF, bS, bT, bU⟩ := at_T66 (Kd.R_reads' aG.out).2.2 aD p1116 q1116; cases dF; replace p1116 := eq_true p1116; replace q1116 := eq_true q1116; have p45 : 0 ≤ (aD : Int) := oda; have q45 : (aD : Int) < ((aF.length : Int) : Int) := oda; obtain ⟨bL, jI, dG, dH, gl45, cl45, HG45⟩ := Kd.R_form aG.out (by omega); (first | cases dG | (injection dG with ea_ en_ ec_; (first | subst ea_ | (injection ea_ with ea_; subst ea_)); subst ec_; clear en_)); have GB45 := aM dH; have GG45 := aM HG45; clear dH gl45 HG45; (first | simp only [add_plain] at bS | skip); (first | simp only [add_plain] at bT | skip); (first | simp only [add_plain] at bU | skip); obtain ⟨gG, gH, gI, gJ, gK, gL⟩ := impl_DiskAppend.e66 aG.out (aD : Int) p45 q45; replace p45 := eq_true p45; replace q45 := eq_true q45; have dI := aM (show Kd.R k66 66 cW w.heap.size (fun _ => True) (.slice (some ⟨bL, 0, none⟩) aF.length bJ) aF from (xr aG)); obtain ⟨ce60, cL, dJ, bV, cM⟩ := Kd.R_elem dI.out z66 (aD : Int) (oda) (by have h_ : (aD : Int) < ((aF.length : Int) : Int) := oda; first | exact h_ | (have e_ := (Kd.R_reads' aG.out).1; omega) | simpa using h_); obtain rfl := k66_openM dJ; have cQ := Kd.R_seg dI.out (aD : Int) (oda) (by have h_ : (aD : Int) < ((aF.length : Int) : Int) := oda; first | exact h_ | (have e_ := (Kd.R_reads' aG.out).1; omega) | simpa using h_) (seg := [.string (((rd_T66 aF aD).f2) ++ a2)]) (j := 2) cL bV (show 3 ≤ 3 from by decide) (x' := (⟨(rd_T66 aF aD).f0, (rd_T66 aF aD).f1, ((rd_T66 aF aD).f2) ++ a2⟩ : S66)) (k66_mkM _ _ _ (⟨(rd_T66 aF aD).f0, (rd_T66 aF aD).f1, ((rd_T66 aF aD).f2) ++ a2⟩ : S66) ) (fun _ hk => hk); have cR := bV 2 _ rfl; (try simp only [show (k66).sz = 3 from rfl, Nat.mul_one, Nat.add_zero] at cR); have cS := cM 2; (try simp only [show (k66).sz = 3 from rfl, Nat.mul_one, Nat.add_zero] at cS); clear cL bV cM dJ) | (refine sE_ 9 50 ?_; intro dK hw; have hg : cW.grownBy dK (some bL) := (by rw [hw]; exact cQ.2); have hp_ : Kd.R k66 66 dK w.heap.size (fun _ => True) (.slice (some ⟨bL, 0, none⟩) aF.length bJ) cK := (by rw [hw, cO.out]; exact cQ.1); clear cQ; replace aA := aM (blk_grown (g := bP) (o := .cells #[.int .i64 aE, .slice aK aB.length aL] 26 (0, 0)) xblk hg (Kd.R_ne aG.out aA.out (by decide))); replace aC := aM (blk_grown (g := aU) (o := .cells #[.int .i64 0, .slice none 0 0] 26 (0, 0)) xblk hg (Kd.R_ne aG.out aC.out (by decide))); replace aV := aM (blk_grown (g := aZ) (o := .cells #[.int .i64 aY, .slice (some ⟨bL, 0, none⟩) aF.length bJ] 26 (0, 0)) xblk hg (Kd.R_ne aG.out aV.out (by decide))); replace aG := aM (hp_); replace HB := aM ((by rw [hw]; exact below_set (HB.out) GB45.out : Below w.heap.size w dK)); clear hg hw hp_; have fC := xf2 (w := dK) aV; have fG := xf2 (w := dK) aC))
    refine bodyPost_ret (results_ct rfl _ _ aU 26 #[.int .i64 aY, .slice (some ⟨bL, 0, none⟩) aF.length bJ] (0, 0) _ rfl xP Tryz.underlying26 rfl (by kernel_rfl)) rfl ?_; exact ⟨_, xerr, xrm aG (fun _ _ => trivial), xbg⟩
   cases H
end Go.Proofs.YtppfnnpfamkclaaGreat.QFnSaved
