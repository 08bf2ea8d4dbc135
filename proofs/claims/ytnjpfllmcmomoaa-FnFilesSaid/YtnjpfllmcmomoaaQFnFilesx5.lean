-- A walk, by a program of this session.
import Derived.Test.YtnjpfllmcmomoaaQFnFilesx0
import Derived.Test.YtnjpfllmcmomoaaQFnFilesx3
import Derived.Test.YtnjpfllmcmomoaaQFnFilesx4
namespace Go.Proofs.Ytnjpfllmcmomoaa.QFnFiles
open Go.RowKit Go.Proofs.YtnjpfllmcmomoaaW.PrintWords Go.Proofs.YtnjpfllmcmomoaaW.PrintLast Go.Proofs.YtnjpfllmcmomoaaW.PrintMore
attribute [local go_sem] max2_int min2_int max_two min_two max_three min_three max_four min_four   -- for this text's walks alone
set_option linter.unusedVariables false
set_option linter.unusedSimpArgs false

/-! ### impl_DiskMove: function 45 -/
def idxP (p : S134 → Bool) : List S134 → Int → Int
  | [], _ => -1
  | x :: t, i => if p x = true then i else idxP p t (i + 1)
theorem idxP_drop (p : S134 → Bool) (l : List S134) (i : Int) (h0 : 0 ≤ i) (h1 : i < l.length) : idxP p (l.drop i.toNat) i = if p (rd_T134 l i) = true then i else idxP p (l.drop (i + 1).toNat) (i + 1) := by
  have hlt : i.toNat < l.length := by omega
  have e : (i + 1).toNat = i.toNat + 1 := by omega
  rw [List.drop_eq_getElem_cons hlt, e, idxP]
  unfold rd_T134
  rw [List.getD_eq_getElem?_getD, List.getElem?_eq_getElem hlt]
  rfl
def delP (fr tt : Int) (x : S134) : Bool := x.f0 == fr || x.f0 == tt
theorem del_pred (x : S134) (fr tt : Int) (B1 B2 : Nat) (W : World) (h1 : W.cell? ⟨B1, 0, none⟩ = some (.int .i64 fr)) (h2 : W.cell? ⟨B2, 0, none⟩ = some (.int .i64 tt)) :
    Calls Try.prog 122 #[.agg #[.int .i64 x.f0, .string x.f1, .string x.f2], .pointer (some ⟨B1, 0, none⟩), .pointer (some ⟨B2, 0, none⟩)] W fun e w' => e = .returned (.bool (delP fr tt x)) ∧ Below W.heap.size W w' := by
  have hB1 : B1 < W.heap.size := World.block_lt_of_cell? W _ h1
  have hB2 : B2 < W.heap.size := World.block_lt_of_cell? W _ h2
  have n1 : B1 ≠ W.heap.size := by omega
  have n2 : B2 ≠ W.heap.size := by omega
  unfold delP
  go_enter Try.func122, Try.ntmps122
  by_cases c : x.f0 = fr
  · have cb : (x.f0 == fr) = true := beq_iff_eq.2 c
    go_wp2
    go_ret
    exact ⟨by first | rfl | simp [cb], (Below.refl _ W).alloc (Nat.le_refl _) _⟩
  · have cb : (x.f0 == fr) = false := beq_eq_false_iff_ne.2 c
    go_wp2
    go_ret
    exact ⟨by first | rfl | simp [cb], (Below.refl _ W).alloc (Nat.le_refl _) _⟩
set_option maxHeartbeats 2000000 in
theorem del_idx (A : Option Addr) (c : Nat) (l : List S134) (fr tt : Int) (B1 B2 : Nat) (w : World) (hC : Kd.C k134 w A l.length l) (h1 : w.cell? ⟨B1, 0, none⟩ = some (.int .i64 fr)) (h2 : w.cell? ⟨B2, 0, none⟩ = some (.int .i64 tt)) :
    Calls Try.prog 154 #[.slice A l.length c, .func (.func 122) #[] #[.pointer (some ⟨B1, 0, none⟩), .pointer (some ⟨B2, 0, none⟩)]] w fun e w' => e = .returned (.int .i64 (idxP (delP fr tt) l 0)) ∧ Below w.heap.size w w' := by
  have eg : ∀ args w, (callFunc 122 args).run Try.prog w = .ok (.enter 122 args) w := Go.Proofs.enters_of Try.func122 (by kernel_rfl) rfl
  have hu := Try.underlying134
  have hpred := fun x W (hb : Below w.heap.size w W) => del_pred x fr tt B1 B2 W ((hb.cell (p := ⟨B1, 0, none⟩) (World.block_lt_of_cell? w _ h1)).trans h1) ((hb.cell (p := ⟨B2, 0, none⟩) (World.block_lt_of_cell? w _ h2)).trans h2)
  have hmax := hC.2.1
  have HC := Aside0.mk hC
  obtain ⟨p, hp⟩ : ∃ p, p = delP fr tt := ⟨_, rfl⟩
  rw [← hp] at hpred ⊢
  clear hC h1 h2 hp
  go_enter Try.func154, Try.ntmps154
  go_wp2
  go_loopg [5, 8] l.length (fun gg _ s8 wr => ∃ i : Int, 0 ≤ i ∧ i ≤ l.length ∧ l.length - i.toNat ≤ gg ∧ s8 = .int .i64 i ∧ Aside0 (Below w.heap.size w wr) ∧ Aside0 (idxP p l 0 = idxP p (l.drop i.toNat) i))
  case atStart => exact ⟨0, by omega, by omega, by omega, rfl, ⟨Below.refl _ w⟩, ⟨rfl⟩⟩
  case round =>
    obtain ⟨i, h0, h1, hg, rfl, BW, AI⟩ := hrel
    by_cases hlt : i < (l.length : Int)
    · have hs := idxP_drop p l i h0 hlt
      obtain ⟨ad, rfl, hx0, hx1, hx2⟩ := at_T134 HC.out i h0 hlt
      replace hx0 := (BW.out.cell (World.block_lt_of_cell? w _ hx0)).trans hx0
      replace hx1 := (BW.out.cell (World.block_lt_of_cell? w _ hx1)).trans hx1
      replace hx2 := (BW.out.cell (World.block_lt_of_cell? w _ hx2)).trans hx2
      have hcall := hpred (rd_T134 l i) wr BW.out
      clear hpred
      by_cases hq : p (rd_T134 l i) = true
      · rw [hq] at hcall
        rw [if_pos hq] at hs
        have HS := Aside0.mk hs
        clear hs hq
        go_wp2_with (go_at_fn 122; refine hcall.mono ?_; rintro e w' ⟨rfl, hb'⟩)
        go_ret
        exact ⟨by rw [AI.out, HS.out]; rfl, below_step BW.out hb'⟩
      · replace hq : p (rd_T134 l i) = false := by simpa using hq
        rw [hq] at hcall
        rw [if_neg (by rw [hq]; decide)] at hs
        have HS := Aside0.mk hs
        clear hs hq
        go_wp2_with (go_at_fn 122; refine hcall.mono ?_; rintro e w' ⟨rfl, hb'⟩)
        go_roundg (l.length - (i + 1).toNat)
        case measure => omega
        case rel => exact ⟨i + 1, by omega, by omega, by omega, rfl, ⟨below_step BW.out hb'⟩, ⟨AI.out.trans HS.out⟩⟩
    · have : i = l.length := by omega
      have hs : idxP p (l.drop i.toNat) i = -1 := by rw [List.drop_eq_nil_of_le (by omega)]; rfl
      have HS := Aside0.mk hs
      clear hs this
      go_wp2
      go_ret
      exact ⟨by rw [AI.out, HS.out]; rfl, BW.out⟩
theorem x_clear (w : World) (i0 : TypeInfo) (z : Value) (hi0 : Try.prog.info? 134 = some i0) (hz0 : i0.zero = some z) (b o n c : Nat) (hn : 0 < n)
    (hc : ∀ j, j < (Builtin.zeroCells z.cells n).toList.length → (w.cell? ⟨b, o + j, none⟩).isSome = true) (hf : ∀ j, j < (Builtin.zeroCells z.cells n).toList.length → w.frozen? ⟨b, o + j, none⟩ = false)
    (h1 : ∀ u ∈ (Builtin.zeroCells z.cells n).toList, u.oneCell' = true) (ty : TypeId) :
    (Builtin.clear_ #[68] ty #[.slice (some ⟨b, o, none⟩) n c]).run Try.prog w = .ok (.tuple #[]) (w.setCells b o (Builtin.zeroCells z.cells n).toList) := by
  have hst := run_storeCells_cells (P := Try.prog) b o (Builtin.zeroCells z.cells n).toList 0 w (by simpa using hc) (by simpa using hf) h1
  have hv : ∀ w, (zeroValue 134).run Try.prog w = .ok z w := fun w => by simp [zeroValue, typeInfo, hi0, hz0]
  simp only [Nat.add_zero] at hst
  obtain ⟨m, rfl⟩ : ∃ m, n = m + 1 := ⟨n - 1, by omega⟩
  simp [Builtin.clear_, run_underlying Try.underlying68, hv, hst]
theorem zeroG (Z : Array Value) (h : ∀ v ∈ Z, v.oneCell' = true) (n : Nat) : ∀ u ∈ (Builtin.zeroCells Z n).toList, u.oneCell' = true := by
  intro u hu
  simp only [Builtin.zeroCells, Array.toList_map, List.mem_map, Array.toList_range, List.mem_range] at hu
  obtain ⟨i, hi, rfl⟩ := hu
  have hz : 0 < Z.size := by
    rcases Nat.eq_zero_or_pos Z.size with h0 | h0
    · rw [h0, Nat.mul_zero] at hi; omega
    · exact h0
  have hlt : i % Z.size < Z.size := Nat.mod_lt _ hz
  rw [getElem!_pos Z _ hlt]
  exact h _ (Array.getElem_mem hlt)
theorem zero3 (n : Nat) : ∀ u ∈ (Builtin.zeroCells (Value.agg #[(.int .i64 0), (.string ⟨#[]⟩), (.string ⟨#[]⟩)]).cells n).toList, u.oneCell' = true :=
  zeroG _ (by decide) n
theorem C_cut (w : World) (g n c i b : Nat) (L : List S134) (ok : Nat → Prop) (hR : Kd.R k134 134 w b ok (.slice (some ⟨g, 0, none⟩) n c) L) (hi : i ≤ n) (D : List Value) (hD : i * 3 + D.length ≤ c * 3) :
    ∀ W' : World, W'.heap[g]? = (w.setCells g (i * 3) D).heap[g]? → Kd.C k134 W' (some ⟨g, 0, none⟩) i (L.take i) := by
  intro W' hW'
  obtain ⟨hn, hnc, hC⟩ := Kd.R_reads' hR
  obtain ⟨h1, h2, h3⟩ := hC
  obtain ⟨_, inner, ho, hr⟩ := hR
  rcases ho.2 with ⟨hv, _⟩ | ⟨g', cap', cur, hv, hb, hh, hnc', hcm, hcs, ht⟩
  · cases hv
  injection hv with ha _ hc
  injection ha with ha
  injection ha with hg
  subst hg; subst hc
  have hs3 : cur.size = c * 3 := hcs
  obtain ⟨c1, hc1, hc1s, hc1l⟩ := setCells_row D (i * 3) w cur hh (by omega)
  have hc1 := hW'.trans hc1
  refine ⟨by rw [List.length_take]; omega, by omega, fun hp => ⟨_, rfl, ?_⟩⟩
  intro j p hj
  obtain ⟨ad, had, hall⟩ := h3 (by omega)
  injection had with had
  subst had
  rw [List.getElem?_take] at hj
  split at hj
  · rename_i hji
    obtain ⟨cs, hcl, hK, hcell⟩ := hall j p hj
    refine ⟨cs, hcl, hK, fun q u hq => ?_⟩
    have hql : q < cs.length := (List.getElem?_eq_some_iff.1 hq).1
    have hq3 : q < 3 := by rw [hcl] at hql; exact hql
    have h := hcell q u hq
    rw [add_plain] at h ⊢
    rw [blk_cell hh] at h
    rw [blk_cell hc1]
    have hlt : j * 3 + q < i * 3 := by omega
    have e : c1[j * 3 + q]? = cur[j * 3 + q]? := by
      rw [← Array.getElem?_toList, hc1l, List.append_assoc, List.getElem?_append_left (by rw [List.length_take, Array.length_toList]; omega), List.getElem?_take, if_pos hlt, Array.getElem?_toList]
    exact e.trans h
  · cases hj
theorem filt_step (q : S134 → Bool) (l : List S134) (j : Nat) (hj : j < l.length) : (l.take (j + 1)).filter q = (l.take j).filter q ++ (if q (rd_T134 l j) = true then [rd_T134 l j] else []) := by
  have e : rd_T134 l j = l[j] := by
    unfold rd_T134
    rw [Int.toNat_natCast, List.getD_eq_getElem?_getD, List.getElem?_eq_getElem hj]
    rfl
  rw [e, List.take_add_one, List.getElem?_eq_getElem hj]
  simp only [Option.toList_some, List.filter_append]
  congr 1
  by_cases h : q l[j] = true <;> simp [h]
theorem rd_drop (l L : List S134) (j : Nat) (h : L.drop j = l.drop j) : rd_T134 L j = rd_T134 l j := by
  have e : ∀ (m : List S134), m[j]? = (m.drop j)[0]? := fun m => by rw [List.getElem?_drop]; simp
  unfold rd_T134
  rw [Int.toNat_natCast, List.getD_eq_getElem?_getD, List.getD_eq_getElem?_getD, e L, e l, h]
theorem set_take (L : List S134) (i : Nat) (x : S134) (h : i < L.length) : (L.set i x).take (i + 1) = L.take i ++ [x] := by
  rw [List.take_add_one, List.getElem?_set_self h, List.take_set_of_le (Nat.le_refl i)]
  rfl
theorem set_drop (L l : List S134) (i j : Nat) (x : S134) (h : i < j) (hd : L.drop j = l.drop j) : (L.set i x).drop (j + 1) = l.drop (j + 1) := by
  rw [List.drop_set_of_lt (by omega), ← List.drop_drop, hd, List.drop_drop]
def DelPost (g c : Nat) (L : List S134) (w : World) (e : Ending) (w' : World) : Prop :=
  e = .returned (.slice (some ⟨g, 0, none⟩) L.length c) ∧ L.length ≤ c ∧ (∀ W' : World, W'.heap[g]? = w'.heap[g]? → Kd.C k134 W' (some ⟨g, 0, none⟩) L.length L) ∧ w.grownBy w' (some g)
theorem x_grown_below {w wr w' : World} {g : Nat} (h : w.grownBy wr (some g)) (hb : Below wr.heap.size wr w') : w.grownBy w' (some g) := by
  have h2 := grown_of_below hb (some g)
  exact ⟨h2.os.trans h.os, h2.tape.trans h.tape, h2.output.trans h.output, Nat.le_trans h.size h2.size, fun k hk hne => (h2.block k (Nat.lt_of_lt_of_le hk h.size) hne).trans (h.block k hk hne)⟩
theorem del_put (b : Nat) (ok : Nat → Prop) (g c : Nat) (l L : List S134) (i : Nat) (x : S134) (w W : World) (hR : Kd.R k134 134 W b ok (.slice (some ⟨g, 0, none⟩) l.length c) L) (hG : w.grownBy W (some g)) (hi : i < l.length) (hL : L.length = l.length) :
    ((∃ v, W.cell? ⟨g, i * 3, none⟩ = some v) ∧ (∃ v, W.cell? ⟨g, i * 3 + 1, none⟩ = some v) ∧ (∃ v, W.cell? ⟨g, i * 3 + 2, none⟩ = some v)) ∧ (∀ q, W.frozen? ⟨g, i * 3 + q, none⟩ = false) ∧
    Kd.R k134 134 (W.setCells g (i * 3) [.int .i64 x.f0, .string x.f1, .string x.f2]) b ok (.slice (some ⟨g, 0, none⟩) l.length c) (L.set i x) ∧ w.grownBy (W.setCells g (i * 3) [.int .i64 x.f0, .string x.f1, .string x.f2]) (some g) := by
  obtain ⟨ce, hcl, hM, hcc, hfr⟩ := Kd.R_elem hR z134 (i : Int) (by omega) (by omega)
  obtain rfl := k134_openM hM
  obtain ⟨h1, h2⟩ := Kd.R_seg hR (i : Int) (by omega) (by omega) (seg := [.int .i64 x.f0, .string x.f1, .string x.f2]) (j := 0) hcl hcc (show 3 ≤ 3 from by decide) (x' := x) (k134_mkM _ _ _ x) (fun _ hk => hk)
  refine ⟨⟨⟨_, hcc 0 _ rfl⟩, ⟨_, hcc 1 _ rfl⟩, ⟨_, hcc 2 _ rfl⟩⟩, hfr, h1, ?_⟩
  have h2' : W.grownBy (W.setCells g (i * 3) [.int .i64 x.f0, .string x.f1, .string x.f2]) (some g) := h2
  exact ⟨h2'.os.trans hG.os, h2'.tape.trans hG.tape, h2'.output.trans hG.output, Nat.le_trans hG.size h2'.size, fun k hk hne => (h2'.block k (Nat.lt_of_lt_of_le hk hG.size) hne).trans (hG.block k hk hne)⟩
theorem R_row {b : Nat} {ok : Nat → Prop} {g n c : Nat} {L : List S134} {W : World} (hR : Kd.R k134 134 W b ok (.slice (some ⟨g, 0, none⟩) n c) L) : ∃ cur : Array Value, W.heap[g]? = some (.cells cur 134 (0, 0)) ∧ cur.size = c * 3 := by
  obtain ⟨_, inner, ho, hr⟩ := hR
  rcases ho.2 with ⟨hv, _⟩ | ⟨g', cap', cur, hv, hb, hh, hnc', hcm, hcs, ht⟩
  · cases hv
  injection hv with ha _ hc
  injection ha with ha
  injection ha with hg
  subst hg; subst hc
  exact ⟨cur, hh, hcs⟩
theorem del_end (b : Nat) (ok : Nat → Prop) (g c : Nat) (l L : List S134) (i : Nat) (w W : World) (i0 : TypeInfo) (hi0 : Try.prog.info? 134 = some i0) (hz0 : i0.zero = some (Value.agg #[(.int .i64 0), (.string ⟨#[]⟩), (.string ⟨#[]⟩)])) (hR : Kd.R k134 134 W b ok (.slice (some ⟨g, 0, none⟩) l.length c) L) (hG : w.grownBy W (some g)) (hi : i < l.length) :
    i ≤ c ∧ (∀ ty, (Builtin.clear_ #[68] ty #[.slice (some ⟨g, i * 3, none⟩) (l.length - i) (c - i)]).run Try.prog W = .ok (.tuple #[]) (W.setCells g (i * 3) (Builtin.zeroCells (Value.agg #[(.int .i64 0), (.string ⟨#[]⟩), (.string ⟨#[]⟩)]).cells (l.length - i)).toList)) ∧
    (∀ W' : World, W'.heap[g]? = (W.setCells g (i * 3) (Builtin.zeroCells (Value.agg #[(.int .i64 0), (.string ⟨#[]⟩), (.string ⟨#[]⟩)]).cells (l.length - i)).toList).heap[g]? → Kd.C k134 W' (some ⟨g, 0, none⟩) i (L.take i)) ∧
    w.grownBy (W.setCells g (i * 3) (Builtin.zeroCells (Value.agg #[(.int .i64 0), (.string ⟨#[]⟩), (.string ⟨#[]⟩)]).cells (l.length - i)).toList) (some g) := by
  obtain ⟨hn, hnc, _⟩ := Kd.R_reads' hR
  obtain ⟨cur, hc, hcs⟩ := R_row hR
  have hlen : (Builtin.zeroCells (Value.agg #[(.int .i64 0), (.string ⟨#[]⟩), (.string ⟨#[]⟩)]).cells (l.length - i)).toList.length = (l.length - i) * 3 := by rw [Array.length_toList]; exact size_zeroCells _ _
  obtain ⟨Z, hZ⟩ : ∃ Z, Z = (Builtin.zeroCells (Value.agg #[(.int .i64 0), (.string ⟨#[]⟩), (.string ⟨#[]⟩)]).cells (l.length - i)).toList := ⟨_, rfl⟩
  refine ⟨by omega, fun ty => x_clear W i0 _ hi0 hz0 g (i * 3) (l.length - i) (c - i) (by omega) (fun q hq => ?_) (fun q _ => blk_frozen hc _) (zero3 _) ty, ?_, ?_⟩
  · rw [hlen] at hq
    rw [blk_cell hc, Array.getElem?_eq_getElem (by omega)]
    rfl
  · exact C_cut W g _ c i b L ok hR (by omega) _ (by rw [hlen]; omega)
  · rw [← hZ]
    obtain ⟨s1, s2, s3, s4⟩ := setCells_same g Z (i * 3) W
    exact ⟨s1.trans hG.os, s2.trans hG.tape, s3.trans hG.output, by rw [s4]; exact hG.size, fun k hk hne => (setCells_far Z _ k (fun e => hne (by rw [e]))).trans (hG.block k hk hne)⟩
set_option maxHeartbeats 4000000 in
set_option maxRecDepth 100000 in
theorem del_files (b : Nat) (ok : Nat → Prop) (v : Value) (l : List S134) (fr tt : Int) (B1 B2 : Nat) (w : World) (hR : Kd.R k134 134 w b ok v l)
    (h1 : w.heap[B1]? = some (.cells #[.int .i64 fr] 3 (0, 0))) (h2 : w.heap[B2]? = some (.cells #[.int .i64 tt] 3 (0, 0))) (hn1 : v.ownBlock ≠ some B1) (hn2 : v.ownBlock ≠ some B2)
    (p0 : Nat) (hp0 : idxP (delP fr tt) l 0 = p0) (hp1 : p0 < l.length) (hp2 : (l.take (p0 + 1)).filter (fun x => !delP fr tt x) = l.take p0) :
    Calls Try.prog 121 #[v, .func (.func 122) #[] #[.pointer (some ⟨B1, 0, none⟩), .pointer (some ⟨B2, 0, none⟩)]] w fun e w' => ∃ g c, v = .slice (some ⟨g, 0, none⟩) l.length c ∧ DelPost g c (l.filter (fun x => !delP fr tt x)) w e w' := by
  have eg : ∀ args w, (callFunc 122 args).run Try.prog w = .ok (.enter 122 args) w := Go.Proofs.enters_of Try.func122 (by kernel_rfl) rfl
  have hu := Try.underlying134
  have hu2 := Try.underlying68
  obtain ⟨i0, hi0, hz0, hzs, hzb⟩ := info_parts info134
  obtain ⟨g, c, rfl, hbg, hgl, _⟩ := Kd.R_form hR (by omega)
  obtain ⟨_, hnc, _⟩ := Kd.R_reads' hR
  have hmax : l.length ≤ 9223372036854775807 := (Kd.R_reads' hR).2.2.2.1
  have hg1 : B1 ≠ g := fun e => hn1 (by rw [e]; rfl)
  have hg2 : B2 ≠ g := fun e => hn2 (by rw [e]; rfl)
  have hl1 : B1 < w.heap.size := blk_lt h1
  have hl2 : B2 < w.heap.size := blk_lt h2
  have hidx := fun (W : World) (hb : Below w.heap.size w W) => del_idx (some ⟨g, 0, none⟩) c l fr tt B1 B2 W (Kd.C_below (Kd.R_reads' hR).2.2 hb) ((blk_cell (blk_below h1 hb) 0).trans rfl) ((blk_cell (blk_below h2 hb) 0).trans rfl)
  have hpred := fun x W (hw : w.grownBy W (some g)) (h : World) (hb : Below W.heap.size W h) => del_pred x fr tt B1 B2 h ((blk_cell (blk_below (blk_grown h1 hw (by simpa using hg1)) hb) 0).trans rfl) ((blk_cell (blk_below (blk_grown h2 hw (by simpa using hg2)) hb) 0).trans rfl)
  have HR := Aside0.mk hR
  rw [hp0] at hidx
  obtain ⟨p, hp⟩ : ∃ p, p = delP fr tt := ⟨_, rfl⟩
  rw [← hp] at hpred hp2 ⊢
  have HP2 := Aside0.mk hp2
  clear hR hp0 h1 h2 hn1 hn2 hp hp2 hbg
  go_enter Try.func121, Try.ntmps121
  go_wp2_with (go_at_call 154; refine (hidx _ (Below.refl _ _)).mono ?_; rintro e w1 ⟨rfl, hb1⟩)
  have HB1 := Aside0.mk hb1
  clear hidx hb1
  go_loopg [5, 6, 7] (l.length + 1) (fun gg s5 s6 _ wr => ∃ (i j : Nat) (L : List S134), s5 = .int .i64 i ∧ s6 = .int .i64 j ∧ i < j ∧ j ≤ l.length ∧ l.length - j < gg ∧ L.length = l.length ∧ Aside0 (L.take i = (l.take j).filter (fun x => !p x)) ∧ Aside0 (L.drop j = l.drop j) ∧ Aside0 (Kd.R k134 134 wr b ok (.slice (some ⟨g, 0, none⟩) l.length c) L) ∧ Aside0 (w.grownBy wr (some g)))
  case atStart => exact ⟨p0, p0 + 1, l, rfl, by simp, by omega, by omega, by omega, rfl, ⟨HP2.out.symm⟩, ⟨rfl⟩, ⟨Kd.R_below HR.out HB1.out⟩, ⟨grown_of_below HB1.out _⟩⟩
  case round =>
    clear HR HB1 HP2
    obtain ⟨i, j, L, rfl, rfl, hij, hj, hg, hL, HT, HD, HR, HG⟩ := hrel
    by_cases hlt : j < l.length
    · obtain ⟨ce, hcl, hM, hcc, hfr⟩ := Kd.R_elem HR.out z134 (j : Int) (by omega) (by omega)
      obtain rfl := k134_openM hM
      have hx0 : wr.cell? ⟨g, j * 3, none⟩ = some (.int .i64 ((rd_T134 L j).f0)) := hcc 0 _ rfl
      have hx1 : wr.cell? ⟨g, j * 3 + 1, none⟩ = some (.string ((rd_T134 L j).f1)) := hcc 1 _ rfl
      have hx2 : wr.cell? ⟨g, j * 3 + 2, none⟩ = some (.string ((rd_T134 L j).f2)) := hcc 2 _ rfl
      clear hcl hM hcc hfr
      have hcall := hpred (rd_T134 l j) wr HG.out
      have hfs := filt_step (fun x => !p x) l j hlt
      have hdr : L.drop (j + 1) = l.drop (j + 1) := by rw [← List.drop_drop, HD.out, List.drop_drop]
      rw [rd_drop l L j HD.out] at hx0 hx1 hx2
      clear hpred
      by_cases hq : p (rd_T134 l j) = true
      · rw [hq] at hcall
        simp only [hq, Bool.not_true, Bool.false_eq_true, if_false, List.append_nil] at hfs
        have HF := Aside0.mk (HT.out.trans hfs.symm)
        have HDR := Aside0.mk hdr
        clear hfs hq hdr HT HD
        go_wp2_with (go_at_fn 122; refine (hcall _ ?_).mono ?_; (exact (Below.refl _ wr).alloc (Nat.le_refl _) _); rintro e w' ⟨rfl, hb'⟩)
        go_roundg (l.length - j)
        case measure => omega
        case rel =>
          have hb2 : Below wr.heap.size wr w' := below_step (below_alloc (Below.refl _ wr) _) hb'
          exact ⟨i, j + 1, L, rfl, by go_num, by omega, by omega, by omega, hL, HF, HDR, ⟨Kd.R_below HR.out hb2⟩, ⟨x_grown_below HG.out hb2⟩⟩
      · replace hq : p (rd_T134 l j) = false := by simpa using hq
        rw [hq] at hcall
        simp only [hq, Bool.not_false, if_true] at hfs
        have HF := Aside0.mk (show (L.set i (rd_T134 l j)).take (i + 1) = (l.take (j + 1)).filter (fun x => !p x) from by rw [set_take L i _ (by omega), HT.out, hfs])
        have HDR := Aside0.mk (set_drop L l i j (rd_T134 l j) hij HD.out)
        have hfin := fun (W : World) (hb : Below wr.heap.size wr W) => del_put b ok g c l L i (rd_T134 l j) w W (Kd.R_below HR.out hb) (x_grown_below HG.out hb) (by omega) (by omega)
        have HS := Aside0.mk hfs
        clear hfs hq hdr HT HD HS
        go_wp2_with (go_at_fn 122; refine (hcall _ ?_).mono ?_; (exact (Below.refl _ wr).alloc (Nat.le_refl _) _); rintro e w' ⟨rfl, hb'⟩; have hbx := blk_below (heap_alloc_new wr (.cells #[.int .i64 (rd_T134 l j).f0, .string (rd_T134 l j).f1, .string (rd_T134 l j).f2] 134)) hb'; have hbx0 : w'.cell? ⟨wr.heap.size, 0, none⟩ = some (.int .i64 (rd_T134 l j).f0) := (blk_cell hbx 0).trans rfl; have hbx1 : w'.cell? ⟨wr.heap.size, 1, none⟩ = some (.string (rd_T134 l j).f1) := (blk_cell hbx 1).trans rfl; have hbx2 : w'.cell? ⟨wr.heap.size, 2, none⟩ = some (.string (rd_T134 l j).f2) := (blk_cell hbx 2).trans rfl; obtain ⟨⟨⟨y0, hy0⟩, ⟨y1, hy1⟩, ⟨y2, hy2⟩⟩, hfz, hput⟩ := hfin w' (below_step (below_alloc (Below.refl _ wr) _) hb'); have HPUT := Aside0.mk hput; have hfz0 : w'.frozen? ⟨g, i * 3, none⟩ = false := hfz 0; have hfz1 := hfz 1; have hfz2 := hfz 2; clear hfin hput hbx)
        go_roundg (l.length - j)
        case measure => omega
        case rel => exact ⟨i + 1, j + 1, L.set i (rd_T134 l j), by go_num, by go_num, by omega, by omega, by omega, by rw [List.length_set]; exact hL, HF, HDR, ⟨HPUT.out.1⟩, ⟨HPUT.out.2⟩⟩
    · obtain rfl : j = l.length := by omega
      obtain ⟨hic, hcl, hC, hG⟩ := del_end b ok g c l L i w wr i0 hi0 hz0 HR.out HG.out (by omega)
      have HE := HT.out
      rw [List.take_length] at HE
      rw [HE] at hC
      have hlen : (l.filter (fun x => !p x)).length = i := by rw [← HE, List.length_take]; omega
      have POST := Aside0.mk (show DelPost g c (l.filter (fun x => !p x)) w (.returned (.slice (some ⟨g, 0, none⟩) i c)) _ from ⟨by rw [hlen], by rw [hlen]; exact hic, by rw [hlen]; exact hC, hG⟩)
      clear HT HD HR HG HE hC hG hlen hpred
      go_wp2
      go_ret
      exact ⟨g, c, rfl, POST.out⟩
theorem boxes4 {w w1 : World} {c1 c2 c3 c4 : Array Value} {t1 t2 t3 t4 : TypeId} (hb : Below ((((w.alloc (.cells c1 t1)).alloc (.cells c2 t2)).alloc (.cells c3 t3)).alloc (.cells c4 t4)).heap.size ((((w.alloc (.cells c1 t1)).alloc (.cells c2 t2)).alloc (.cells c3 t3)).alloc (.cells c4 t4)) w1) :
    w1.heap[w.heap.size]? = some (.cells c1 t1 (0, 0)) ∧ w1.heap[w.heap.size + 1]? = some (.cells c2 t2 (0, 0)) ∧ w1.heap[w.heap.size + 1 + 1]? = some (.cells c3 t3 (0, 0)) ∧ w1.heap[w.heap.size + 1 + 1 + 1]? = some (.cells c4 t4 (0, 0)) ∧ Below w.heap.size w w1 ∧ w.heap.size + 4 ≤ w1.heap.size := by
  have e1 : (w.alloc (.cells c1 t1)).heap.size = w.heap.size + 1 := by simp
  have e2 : ((w.alloc (.cells c1 t1)).alloc (.cells c2 t2)).heap.size = w.heap.size + 1 + 1 := by simp
  have e3 : (((w.alloc (.cells c1 t1)).alloc (.cells c2 t2)).alloc (.cells c3 t3)).heap.size = w.heap.size + 1 + 1 + 1 := by simp
  have e4 : ((((w.alloc (.cells c1 t1)).alloc (.cells c2 t2)).alloc (.cells c3 t3)).alloc (.cells c4 t4)).heap.size = w.heap.size + 1 + 1 + 1 + 1 := by simp
  refine ⟨blk_below (blk_alloc (blk_alloc (blk_alloc (heap_alloc_new _ _) _) _) _) hb, blk_below (blk_alloc (blk_alloc (by rw [← e1]; exact heap_alloc_new _ _) _) _) hb, blk_below (blk_alloc (by rw [← e2]; exact heap_alloc_new _ _) _) hb, blk_below (by rw [← e3]; exact heap_alloc_new _ _) hb, below_step (below_alloc (below_alloc (below_alloc (below_alloc (Below.refl _ w) _) _) _) _) hb, ?_⟩
  have := hb.size
  omega
theorem idxName_lt (nm : Int) : ∀ (l : List S134) (i : Int), 0 ≤ i → 0 ≤ idxName l nm i → i ≤ idxName l nm i ∧ idxName l nm i < i + l.length
  | [], i, h, h1 => by simp [idxName] at h1
  | y :: t, i, h, h1 => by
    simp only [idxName] at h1 ⊢
    by_cases c : y.f0 = nm
    · simp only [c, if_true, List.length_cons] at h1 ⊢; omega
    · simp only [c, if_false, List.length_cons] at h1 ⊢
      have := idxName_lt nm t (i + 1) (by omega) h1
      omega
theorem idxP_some (p : S134 → Bool) : ∀ (l : List S134), (∃ x ∈ l, p x = true) → ∃ n : Nat, (∀ i : Int, idxP p l i = i + n) ∧ n < l.length ∧ (l.take (n + 1)).filter (fun x => !p x) = l.take n
  | [], h => by obtain ⟨x, hx, _⟩ := h; simp at hx
  | y :: t, h => by
    by_cases c : p y = true
    · exact ⟨0, fun i => by simp [idxP, c], by simp, by simp [c]⟩
    · obtain ⟨x, hx, hp⟩ := h
      have hx' : x ∈ t := by
        rcases List.mem_cons.1 hx with rfl | hx
        · exact absurd hp c
        · exact hx
      obtain ⟨n, h1, h2, h3⟩ := idxP_some p t ⟨x, hx', hp⟩
      have c' : p y = false := by simpa using c
      refine ⟨n + 1, fun i => ?_, by simpa using h2, ?_⟩
      · rw [idxP, if_neg c, h1]; omega
      · rw [List.take_succ_cons, List.take_succ_cons, List.filter_cons_of_pos (by simp [c']), h3]
theorem idxName_mem (nm : Int) : ∀ (l : List S134) (i : Int), 0 ≤ i → 0 ≤ idxName l nm i → ∃ x ∈ l, x.f0 = nm
  | [], i, h, h1 => by simp [idxName] at h1
  | y :: t, i, h, h1 => by
    simp only [idxName] at h1
    by_cases c : y.f0 = nm
    · exact ⟨y, by simp, c⟩
    · simp only [c, if_false] at h1
      obtain ⟨x, hx, hn⟩ := idxName_mem nm t (i + 1) (by omega) h1
      exact ⟨x, by simp [hx], hn⟩
def moveCore (room : Int) (l : List S134) (fr tt : Int) : Option (Int × List S134 × Int) :=
  if l.length ≤ 1000 then (if idxName l fr 0 < 0 then some (room, l, 2) else some (room, placeL (l.filter (fun x => !delP fr tt x)) ⟨tt, (rd_T134 l (idxName l fr 0)).f1, (rd_T134 l (idxName l fr 0)).f2⟩, 0)) else none
def impl_DiskMove.f (k : Nat) (a0_0 : Int) (l0_1 : List S134) (a1 a2 : Int) : Option (Int × List S134 × Int) :=
  (impl_DiskOk.f k a0_0 l0_1).bind fun o => if o = false then some (0, [], 1) else (impl_isFile.f a1).bind fun f1 => if f1 = false then some (0, [], 1) else (impl_isFile.f a2).bind fun f2 => if f2 = false then some (0, [], 1) else if a1 = a2 then some (0, [], 1) else moveCore a0_0 l0_1 a1 a2
theorem impl_DiskMove.mono : ∀ a0 a1 a2 a3 k, LeO (impl_DiskMove.f k a0 a1 a2 a3) (impl_DiskMove.f (k + 1) a0 a1 a2 a3) := by
  intro a0 a1 a2 a3 k
  unfold impl_DiskMove.f
  exact LeO.bind (impl_DiskOk.mono a0 a1 k) (fun _ => LeO.refl _)
def MoveR (w : World) (r1 : Int) (r2 : List S134) (r3 : Int) (e : Ending) (w' : World) : Prop := ∃ v1_ : Value, e = .returned (.tuple #[.agg #[.int .i64 r1, v1_], .int .i64 r3]) ∧ Kd.R k134 134 w' w.heap.size (fun _ => True) v1_ r2 ∧ Below w.heap.size w w'
set_option maxHeartbeats 4000000 in
set_option maxRecDepth 100000 in
theorem move_bad (a0_0 : Int) (A0_1 : Option Addr) (c0_1 : Nat) (l0_1 : List S134) (a1 a2 : Int) (w : World) (hr0_1 : Kd.C k134 w A0_1 l0_1.length l0_1) (o : Bool)
    (hok : ∀ W, Below w.heap.size w W → Calls Try.prog 52 #[.agg #[.int .i64 a0_0, .slice A0_1 l0_1.length c0_1]] W fun e w' => e = .returned (.bool o) ∧ Below W.heap.size W w')
    (f1 f2 : Bool) (hf1 : o = true → ∀ W, Calls Try.prog 113 #[.int .i64 a1] W fun e w' => e = .returned (.bool f1) ∧ Drawn0 W w') (hf2 : o = true → f1 = true → ∀ W, Calls Try.prog 113 #[.int .i64 a2] W fun e w' => e = .returned (.bool f2) ∧ Drawn0 W w')
    (hbad : o = false ∨ f1 = false ∨ f2 = false ∨ a1 = a2) :
    Calls Try.prog 45 #[.agg #[.int .i64 a0_0, .slice A0_1 l0_1.length c0_1], .int .i64 a1, .int .i64 a2] w (MoveR w 0 [] 1) := by
  have hu70 := Try.underlying70
  have hu68 := Try.underlying68
  cases o
  · clear hf1 hf2 hbad
    go_enter Try.func45, Try.ntmps45
    go_wp2_with (first | (go_at_call 52; refine (hok _ ?_).mono ?_; (exact below_alloc (below_alloc (below_alloc (below_alloc (Below.refl _ w) _) _) _) _); rintro e w1 ⟨rfl, hb⟩; obtain ⟨hD, hF, hT, hO, hB, hS⟩ := boxes4 hb; have HD := Aside0.mk hD; have HF := Aside0.mk hF; have HT := Aside0.mk hT; have HO := Aside0.mk hO; have HB := Aside0.mk hB; clear hb hB hD; have ho1 : w1.cell? ⟨w.heap.size + 1 + 1 + 1, 0, none⟩ = some (.int .i64 0) := (blk_cell hO 0).trans rfl; have ho2 : w1.cell? ⟨w.heap.size + 1 + 1 + 1, 1, none⟩ = some (.slice none 0 0) := (blk_cell hO 1).trans rfl; have ho3 := fun i => blk_frozen hO i; have hf0 : w1.cell? ⟨w.heap.size + 1, 0, none⟩ = some (.int .i64 a1) := (blk_cell hF 0).trans rfl; have ht0 : w1.cell? ⟨w.heap.size + 1 + 1, 0, none⟩ = some (.int .i64 a2) := (blk_cell hT 0).trans rfl; clear hO hF hT))
    refine bodyPost_ret (results_ct rfl _ _ (w.heap.size + 1 + 1 + 1) 70 #[.int .i64 0, .slice none 0 0] (0, 0) _ rfl (by refine blk_put (cs := #[.int .i64 0, .slice none 0 0]) ?_ 1 _ rfl; refine blk_put (cs := #[.int .i64 0, .slice none 0 0]) ?_ 0 _ rfl; (with_reducible repeat refine blk_drewN ?_ _); exact HO.out) Try.underlying70 rfl (by kernel_rfl)) rfl ?_
    exact ⟨_, rfl, Kd.R_nil _ _ _ _ _, below_set (below_set (by (with_reducible repeat apply pw_below_drewN); exact HB.out) (by omega)) (by omega)⟩
  replace hf1 := hf1 rfl
  replace hf2 := hf2 rfl
  cases f1
  · clear hf2 hbad
    go_enter Try.func45, Try.ntmps45
    go_wp2_with (first | (go_at_call 52; refine (hok _ ?_).mono ?_; (exact below_alloc (below_alloc (below_alloc (below_alloc (Below.refl _ w) _) _) _) _); rintro e w1 ⟨rfl, hb⟩; obtain ⟨hD, hF, hT, hO, hB, hS⟩ := boxes4 hb; have HD := Aside0.mk hD; have HF := Aside0.mk hF; have HT := Aside0.mk hT; have HO := Aside0.mk hO; have HB := Aside0.mk hB; clear hb hB hD; have ho1 : w1.cell? ⟨w.heap.size + 1 + 1 + 1, 0, none⟩ = some (.int .i64 0) := (blk_cell hO 0).trans rfl; have ho2 : w1.cell? ⟨w.heap.size + 1 + 1 + 1, 1, none⟩ = some (.slice none 0 0) := (blk_cell hO 1).trans rfl; have ho3 := fun i => blk_frozen hO i; have hf0 : w1.cell? ⟨w.heap.size + 1, 0, none⟩ = some (.int .i64 a1) := (blk_cell hF 0).trans rfl; have ht0 : w1.cell? ⟨w.heap.size + 1 + 1, 0, none⟩ = some (.int .i64 a2) := (blk_cell hT 0).trans rfl; clear hO hF hT) | (go_at_call 113; refine (hf1 _).mono ?_; rintro e w' ⟨rfl, ⟨nd, rfl⟩⟩))
    refine bodyPost_ret (results_ct rfl _ _ (w.heap.size + 1 + 1 + 1) 70 #[.int .i64 0, .slice none 0 0] (0, 0) _ rfl (by refine blk_put (cs := #[.int .i64 0, .slice none 0 0]) ?_ 1 _ rfl; refine blk_put (cs := #[.int .i64 0, .slice none 0 0]) ?_ 0 _ rfl; (with_reducible repeat refine blk_drewN ?_ _); exact HO.out) Try.underlying70 rfl (by kernel_rfl)) rfl ?_
    exact ⟨_, rfl, Kd.R_nil _ _ _ _ _, below_set (below_set (by (with_reducible repeat apply pw_below_drewN); exact HB.out) (by omega)) (by omega)⟩
  replace hf2 := hf2 rfl
  cases f2
  · clear hbad
    go_enter Try.func45, Try.ntmps45
    go_wp2_with (first | (go_at_call 52; refine (hok _ ?_).mono ?_; (exact below_alloc (below_alloc (below_alloc (below_alloc (Below.refl _ w) _) _) _) _); rintro e w1 ⟨rfl, hb⟩; obtain ⟨hD, hF, hT, hO, hB, hS⟩ := boxes4 hb; have HD := Aside0.mk hD; have HF := Aside0.mk hF; have HT := Aside0.mk hT; have HO := Aside0.mk hO; have HB := Aside0.mk hB; clear hb hB hD; have ho1 : w1.cell? ⟨w.heap.size + 1 + 1 + 1, 0, none⟩ = some (.int .i64 0) := (blk_cell hO 0).trans rfl; have ho2 : w1.cell? ⟨w.heap.size + 1 + 1 + 1, 1, none⟩ = some (.slice none 0 0) := (blk_cell hO 1).trans rfl; have ho3 := fun i => blk_frozen hO i; have hf0 : w1.cell? ⟨w.heap.size + 1, 0, none⟩ = some (.int .i64 a1) := (blk_cell hF 0).trans rfl; have ht0 : w1.cell? ⟨w.heap.size + 1 + 1, 0, none⟩ = some (.int .i64 a2) := (blk_cell hT 0).trans rfl; clear hO hF hT) | (go_at_call 113; refine (hf1 _).mono ?_; rintro e w' ⟨rfl, ⟨nd, rfl⟩⟩) | (go_at_call 113; refine (hf2 _).mono ?_; rintro e w' ⟨rfl, ⟨nd2, rfl⟩⟩))
    refine bodyPost_ret (results_ct rfl _ _ (w.heap.size + 1 + 1 + 1) 70 #[.int .i64 0, .slice none 0 0] (0, 0) _ rfl (by refine blk_put (cs := #[.int .i64 0, .slice none 0 0]) ?_ 1 _ rfl; refine blk_put (cs := #[.int .i64 0, .slice none 0 0]) ?_ 0 _ rfl; (with_reducible repeat refine blk_drewN ?_ _); exact HO.out) Try.underlying70 rfl (by kernel_rfl)) rfl ?_
    exact ⟨_, rfl, Kd.R_nil _ _ _ _ _, below_set (below_set (by (with_reducible repeat apply pw_below_drewN); exact HB.out) (by omega)) (by omega)⟩
  · have he : a1 = a2 := by simpa using hbad
    clear hbad
    have hcb : (a1 == a2) = true := beq_iff_eq.2 he
    clear he
    go_enter Try.func45, Try.ntmps45
    go_wp2_with (first | (go_at_call 52; refine (hok _ ?_).mono ?_; (exact below_alloc (below_alloc (below_alloc (below_alloc (Below.refl _ w) _) _) _) _); rintro e w1 ⟨rfl, hb⟩; obtain ⟨hD, hF, hT, hO, hB, hS⟩ := boxes4 hb; have HD := Aside0.mk hD; have HF := Aside0.mk hF; have HT := Aside0.mk hT; have HO := Aside0.mk hO; have HB := Aside0.mk hB; clear hb hB hD; have ho1 : w1.cell? ⟨w.heap.size + 1 + 1 + 1, 0, none⟩ = some (.int .i64 0) := (blk_cell hO 0).trans rfl; have ho2 : w1.cell? ⟨w.heap.size + 1 + 1 + 1, 1, none⟩ = some (.slice none 0 0) := (blk_cell hO 1).trans rfl; have ho3 := fun i => blk_frozen hO i; have hf0 : w1.cell? ⟨w.heap.size + 1, 0, none⟩ = some (.int .i64 a1) := (blk_cell hF 0).trans rfl; have ht0 : w1.cell? ⟨w.heap.size + 1 + 1, 0, none⟩ = some (.int .i64 a2) := (blk_cell hT 0).trans rfl; clear hO hF hT) | (go_at_call 113; refine (hf1 _).mono ?_; rintro e w' ⟨rfl, ⟨nd, rfl⟩⟩) | (go_at_call 113; refine (hf2 _).mono ?_; rintro e w' ⟨rfl, ⟨nd2, rfl⟩⟩))
    refine bodyPost_ret (results_ct rfl _ _ (w.heap.size + 1 + 1 + 1) 70 #[.int .i64 0, .slice none 0 0] (0, 0) _ rfl (by refine blk_put (cs := #[.int .i64 0, .slice none 0 0]) ?_ 1 _ rfl; refine blk_put (cs := #[.int .i64 0, .slice none 0 0]) ?_ 0 _ rfl; (with_reducible repeat refine blk_drewN ?_ _); exact HO.out) Try.underlying70 rfl (by kernel_rfl)) rfl ?_
    exact ⟨_, rfl, Kd.R_nil _ _ _ _ _, below_set (below_set (by (with_reducible repeat apply pw_below_drewN); exact HB.out) (by omega)) (by omega)⟩
theorem move_step {w w1 w2 : World} {n : Nat} {c1 c2 c3 c4 : Array Value} {t1 t2 t3 t4 : TypeId} (hb : Below (w1.drewN n).heap.size (w1.drewN n) w2) (h1 : w1.heap[w.heap.size]? = some (.cells c1 t1 (0, 0))) (h2 : w1.heap[w.heap.size + 1]? = some (.cells c2 t2 (0, 0))) (h3 : w1.heap[w.heap.size + 1 + 1]? = some (.cells c3 t3 (0, 0))) (h4 : w1.heap[w.heap.size + 1 + 1 + 1]? = some (.cells c4 t4 (0, 0))) (hB : Below w.heap.size w w1) (hS : w.heap.size + 4 ≤ w1.heap.size) :
    w2.heap[w.heap.size]? = some (.cells c1 t1 (0, 0)) ∧ w2.heap[w.heap.size + 1]? = some (.cells c2 t2 (0, 0)) ∧ w2.heap[w.heap.size + 1 + 1]? = some (.cells c3 t3 (0, 0)) ∧ w2.heap[w.heap.size + 1 + 1 + 1]? = some (.cells c4 t4 (0, 0)) ∧ Below w.heap.size w w2 ∧ w.heap.size + 4 ≤ w2.heap.size ∧ True :=
  ⟨blk_below (blk_drewN h1 n) hb, blk_below (blk_drewN h2 n) hb, blk_below (blk_drewN h3 n) hb, blk_below (blk_drewN h4 n) hb, below_step (pw_below_drewN hB n) hb, Nat.le_trans hS hb.size, trivial⟩
theorem move_step3 {w w2 w3 : World} {b : Nat} {ok : Nat → Prop} {v : Value} {l : List S134} {c1 c2 c3 c4 c5 : Array Value} {t1 t2 t3 t4 t5 : TypeId} (hb : Below (w2.alloc (.cells c5 t5)).heap.size (w2.alloc (.cells c5 t5)) w3) (h1 : w2.heap[w.heap.size]? = some (.cells c1 t1 (0, 0))) (h2 : w2.heap[w.heap.size + 1]? = some (.cells c2 t2 (0, 0))) (h3 : w2.heap[w.heap.size + 1 + 1]? = some (.cells c3 t3 (0, 0))) (h4 : w2.heap[w.heap.size + 1 + 1 + 1]? = some (.cells c4 t4 (0, 0))) (hB : Below w.heap.size w w2) (hR : Kd.R k134 134 w2 b ok v l) :
    w3.heap[w.heap.size]? = some (.cells c1 t1 (0, 0)) ∧ w3.heap[w.heap.size + 1]? = some (.cells c2 t2 (0, 0)) ∧ w3.heap[w.heap.size + 1 + 1]? = some (.cells c3 t3 (0, 0)) ∧ w3.heap[w.heap.size + 1 + 1 + 1]? = some (.cells c4 t4 (0, 0)) ∧ w3.heap[w2.heap.size]? = some (.cells c5 t5 (0, 0)) ∧ Below w.heap.size w w3 ∧ Kd.R k134 134 w3 b ok v l ∧ w2.heap.size + 1 ≤ w3.heap.size :=
  ⟨blk_below (blk_alloc h1 _) hb, blk_below (blk_alloc h2 _) hb, blk_below (blk_alloc h3 _) hb, blk_below (blk_alloc h4 _) hb, blk_below (heap_alloc_new _ _) hb, below_step (below_alloc hB _) hb, Kd.R_below (Kd.R_alloc hR _) hb, by have := hb.size; simp at this; omega⟩
theorem move_step4 {w w2 w3 w4 : World} {b : Nat} {ok : Nat → Prop} {A1 : Option Addr} {n c1 c g : Nat} {l : List S134} {cO cU cX : Array Value} {tX : TypeId} (hv : Value.slice A1 n c1 = .slice (some ⟨g, 0, none⟩) n c) (hO : w3.heap[w.heap.size + 1 + 1 + 1]? = some (.cells cO 70 (0, 0))) (hU : w3.heap[w2.heap.size]? = some (.cells cU 70 (0, 0))) (hB : Below w.heap.size w w3)
    (hR : Kd.R k134 134 w3 (w.heap.size + b) ok (.slice A1 n c1) l) (hG : (w3.alloc (.cells cX tX)).grownBy w4 (some g)) :
    w4.heap[w.heap.size + 1 + 1 + 1]? = some (.cells cO 70 (0, 0)) ∧ w4.heap[w2.heap.size]? = some (.cells cU 70 (0, 0)) ∧ w4.heap[w3.heap.size]? = some (.cells cX tX (0, 0)) ∧ Below w.heap.size w w4 ∧ w3.heap.size + 1 ≤ w4.heap.size ∧ g ≠ w2.heap.size := by
  rw [hv] at hR
  have hgl : g < w3.heap.size := Kd.R_lt hR g rfl
  have hgb : w.heap.size + b ≤ g := Kd.R_base hR g rfl
  have n1 := Kd.R_ne hR hO (by decide)
  have n2 := Kd.R_ne hR hU (by decide)
  refine ⟨blk_grown (blk_alloc hO _) hG n1, blk_grown (blk_alloc hU _) hG n2, blk_grown (heap_alloc_new _ _) hG (by intro e; injection e with e; omega), pw_below_grown (below_alloc hB _) _ (by have := hB.size; simp; omega) hG (fun k hk => by injection hk with hk; omega), by have := hG.size; simp at this; omega, fun e => n2 (by rw [← e]; rfl)⟩
theorem move_step5 {w w2 w3 w4 w5 : World} {ok : Nat → Prop} {j : Nat} {u v : Value} {l : List S134} {cO : Array Value} (hb : Below (w4.setCell ⟨w2.heap.size, j, none⟩ u).heap.size (w4.setCell ⟨w2.heap.size, j, none⟩ u) w5) (hO : w4.heap[w.heap.size + 1 + 1 + 1]? = some (.cells cO 70 (0, 0))) (hB : Below w.heap.size w w4) (h2 : w.heap.size + 4 ≤ w2.heap.size) (h4 : w3.heap.size + 1 ≤ w4.heap.size)
    (hR : Kd.R k134 134 w5 (w4.setCell ⟨w2.heap.size, j, none⟩ u).heap.size ok v l) :
    w5.heap[w.heap.size + 1 + 1 + 1]? = some (.cells cO 70 (0, 0)) ∧ Below w.heap.size w w5 ∧ Kd.R k134 134 w5 w.heap.size ok v l := by
  have hBs := below_set (j := j) (v := u) hB (show w.heap.size ≤ w2.heap.size by omega)
  exact ⟨blk_below (blk_far hO (show w.heap.size + 1 + 1 + 1 ≠ w2.heap.size by omega) _) hb, below_step hBs hb, Kd.R_lower hR hBs.size⟩
set_option maxHeartbeats 4000000 in
set_option maxRecDepth 100000 in
theorem move_good (a0_0 : Int) (A0_1 : Option Addr) (c0_1 : Nat) (l0_1 : List S134) (a1 a2 : Int) (w : World) (hr0_1 : Kd.C k134 w A0_1 l0_1.length l0_1) (hc0_1 : l0_1.length ≤ c0_1)
    (hok : ∀ W, Below w.heap.size w W → Calls Try.prog 52 #[.agg #[.int .i64 a0_0, .slice A0_1 l0_1.length c0_1]] W fun e w' => e = .returned (.bool true) ∧ Below W.heap.size W w')
    (hf1 : ∀ W, Calls Try.prog 113 #[.int .i64 a1] W fun e w' => e = .returned (.bool true) ∧ Drawn0 W w') (hf2 : ∀ W, Calls Try.prog 113 #[.int .i64 a2] W fun e w' => e = .returned (.bool true) ∧ Drawn0 W w')
    (hne : a1 ≠ a2) (hl : l0_1.length ≤ 1000) (r1 : Int) (r2 : List S134) (r3 : Int) (h : moveCore a0_0 l0_1 a1 a2 = some (r1, r2, r3)) :
    Calls Try.prog 45 #[.agg #[.int .i64 a0_0, .slice A0_1 l0_1.length c0_1], .int .i64 a1, .int .i64 a2] w (MoveR w r1 r2 r3) := by
  have hcopy : impl_copyDisk.f a0_0 l0_1 = some (a0_0, l0_1) := by
    unfold impl_copyDisk.f
    simp only [Option.bind_some, List.length_nil, Nat.zero_add, List.nil_append]
    rw [if_pos (by omega)]
  unfold moveCore at h
  rw [if_pos hl] at h
  have hu70 := Try.underlying70
  have hu68 := Try.underlying68
  have hu134 := Try.underlying134
  have hcb : (a1 == a2) = false := beq_eq_false_iff_ne.2 hne
  obtain ⟨ix, hix⟩ : ∃ ix, ix = idxName l0_1 a1 0 := ⟨_, rfl⟩
  have hib := idxName_lt a1 l0_1 0 (by omega)
  rw [← hix] at h hib
  have HIX := Aside0.mk (show impl_fileAt.f a0_0 l0_1 a1 = some ix from by rw [hix]; rfl)
  have HR := Aside0.mk hr0_1
  have HC := Aside0.mk hc0_1
  have HCP := Aside0.mk hcopy
  have HXI := Aside0.mk hix
  clear hr0_1 hc0_1 hcopy hne hix
  by_cases hneg : ix < 0
  · rw [if_pos hneg] at h
    simp only [Option.some.injEq, Prod.mk.injEq] at h
    obtain ⟨rfl, rfl, rfl⟩ := h
    have hdec : decide (ix < 0) = true := decide_eq_true hneg
    clear hib hneg
    go_enter Try.func45, Try.ntmps45
    go_wp2_with (first | (go_at_call 52; refine (hok _ ?_).mono ?_; (exact below_alloc (below_alloc (below_alloc (below_alloc (Below.refl _ w) _) _) _) _); rintro e w1 ⟨rfl, hb⟩; obtain ⟨hD, hF, hT, hO, hB, hS⟩ := boxes4 hb; have HD := Aside0.mk hD; have HF := Aside0.mk hF; have HT := Aside0.mk hT; have HO := Aside0.mk hO; have HB := Aside0.mk hB; clear hb hB hD; have hd0 : w1.cell? ⟨w.heap.size, 0, none⟩ = some (.int .i64 a0_0) := (blk_cell HD.out 0).trans rfl; have hd1 : w1.cell? ⟨w.heap.size, 1, none⟩ = some (.slice A0_1 l0_1.length c0_1) := (blk_cell HD.out 1).trans rfl; have ho1 : w1.cell? ⟨w.heap.size + 1 + 1 + 1, 0, none⟩ = some (.int .i64 0) := (blk_cell hO 0).trans rfl; have ho2 : w1.cell? ⟨w.heap.size + 1 + 1 + 1, 1, none⟩ = some (.slice none 0 0) := (blk_cell hO 1).trans rfl; have ho3 := fun i => blk_frozen hO i; have hf0 : w1.cell? ⟨w.heap.size + 1, 0, none⟩ = some (.int .i64 a1) := (blk_cell hF 0).trans rfl; have ht0 : w1.cell? ⟨w.heap.size + 1 + 1, 0, none⟩ = some (.int .i64 a2) := (blk_cell hT 0).trans rfl; clear hO hF hT) | (go_at_call 113; refine (hf1 _).mono ?_; rintro e w' ⟨rfl, ⟨nd, rfl⟩⟩) | (go_at_call 113; refine (hf2 _).mono ?_; rintro e w' ⟨rfl, ⟨nd2, rfl⟩⟩) | (go_at_call 115; refine (impl_copyDisk.calls a0_0 A0_1 c0_1 l0_1 a0_0 l0_1 _ ?_ HC.out HCP.out).mono ?_; (exact Kd.C_below HR.out (by (with_reducible repeat apply pw_below_drewN); exact HB.out)); rintro e w2 ⟨v1, rfl, hR, hb⟩; replace hR := Kd.R_lower hR hS; obtain ⟨hE0, hE1, hE2, hE3, hE4, hE5, hE6⟩ := move_step hb HD.out HF.out HT.out HO.out HB.out hS; clear hb hd0 hd1 hf0 ht0 ho1 ho2 ho3 HD HF HT HO HB; have HD := Aside0.mk hE0; have HF := Aside0.mk hE1; have HT := Aside0.mk hE2; have HO := Aside0.mk hE3; have HB := Aside0.mk hE4; obtain ⟨A1, c1, hv⟩ := Kd.R_slice hR; subst hv; have HR1 := Aside0.mk hR; clear hE0 hE1 hE2 hE3 hE4 hR; have hd0 : w2.cell? ⟨w.heap.size, 0, none⟩ = some (.int .i64 a0_0) := (blk_cell HD.out 0).trans rfl; have hd1 : w2.cell? ⟨w.heap.size, 1, none⟩ = some (.slice A0_1 l0_1.length c0_1) := (blk_cell HD.out 1).trans rfl; have hf0 : w2.cell? ⟨w.heap.size + 1, 0, none⟩ = some (.int .i64 a1) := (blk_cell HF.out 0).trans rfl; clear hS; have hna : w.heap.size < w2.heap.size := (by omega); have hnb : w.heap.size + 1 < w2.heap.size := (by omega)) | (go_at_call 116; refine (impl_fileAt.calls a0_0 A0_1 c0_1 l0_1 a1 _ _ ?_ HC.out HIX.out).mono ?_; (exact Kd.C_below HR.out (below_alloc HB.out _)); rintro e w3 ⟨rfl, hb3⟩; obtain ⟨hD, hF, hT, hO, hU, hB, hR3, hS3⟩ := move_step3 hb3 HD.out HF.out HT.out HO.out HB.out HR1.out; clear hb3 hd0 hd1 hf0 hna hnb HD HF HT HO HB HR1; have HB := Aside0.mk hB; have HR3 := Aside0.mk hR3; have HO := Aside0.mk hO; have HU := Aside0.mk hU; have HT := Aside0.mk hT; have HF := Aside0.mk hF; clear hB hR3; have hd0 : w3.cell? ⟨w.heap.size, 0, none⟩ = some (.int .i64 a0_0) := (blk_cell hD 0).trans rfl; have hd1 : w3.cell? ⟨w.heap.size, 1, none⟩ = some (.slice A0_1 l0_1.length c0_1) := (blk_cell hD 1).trans rfl; have ht0 : w3.cell? ⟨w.heap.size + 1 + 1, 0, none⟩ = some (.int .i64 a2) := (blk_cell hT 0).trans rfl; have ho1 : w3.cell? ⟨w.heap.size + 1 + 1 + 1, 0, none⟩ = some (.int .i64 0) := (blk_cell hO 0).trans rfl; have ho2 : w3.cell? ⟨w.heap.size + 1 + 1 + 1, 1, none⟩ = some (.slice none 0 0) := (blk_cell hO 1).trans rfl; have ho3 := fun i => blk_frozen hO i; have hu1 : w3.cell? ⟨w2.heap.size, 0, none⟩ = some (.int .i64 a0_0) := (blk_cell hU 0).trans rfl; have hu2 : w3.cell? ⟨w2.heap.size, 1, none⟩ = some (.slice A1 l0_1.length c1) := (blk_cell hU 1).trans rfl; have hu3 := fun i => blk_frozen hU i; clear hD hT hO hU hF))
    refine bodyPost_ret (results_ct rfl _ _ (w.heap.size + 1 + 1 + 1) 70 #[.int .i64 a0_0, .slice A1 l0_1.length c1] (0, 0) _ rfl (by refine blk_put (cs := #[.int .i64 a0_0, .slice none 0 0]) ?_ 1 _ rfl; refine blk_put (cs := #[.int .i64 0, .slice none 0 0]) ?_ 0 _ rfl; exact HO.out) Try.underlying70 rfl (by kernel_rfl)) rfl ?_
    exact ⟨_, rfl, Kd.R_lower (Kd.R_set (Kd.R_set HR3.out HO.out (by decide) 0 _) (blk_put HO.out 0 _ rfl) (by decide) 1 _) (Nat.le_add_right _ 4), below_set (below_set HB.out (by omega)) (by omega)⟩
  · rw [if_neg hneg] at h
    simp only [Option.some.injEq, Prod.mk.injEq] at h
    obtain ⟨rfl, rfl, rfl⟩ := h
    have hdec : decide (ix < 0) = false := decide_eq_false hneg
    have h0 : 0 ≤ ix := by omega
    have hlt : ix < (l0_1.length : Int) := by have := hib h0; omega
    obtain ⟨ad, hA, gx0, gx1, gx2⟩ := at_T134 HR.out ix h0 hlt
    subst hA
    obtain ⟨p0, hp0, hp1, hp2⟩ := idxP_some (delP a1 a2) l0_1 (by obtain ⟨x, hx, hn⟩ := idxName_mem a1 l0_1 0 (by omega) (by rw [← HXI.out]; omega); exact ⟨x, hx, by simp [delP, hn]⟩)
    have HPL := Aside0.mk (show impl_placed.f a0_0 (l0_1.filter (fun x => !delP a1 a2 x)) a2 (rd_T134 l0_1 ix).f1 (rd_T134 l0_1 ix).f2 = some (a0_0, placeL (l0_1.filter (fun x => !delP a1 a2 x)) ⟨a2, (rd_T134 l0_1 ix).f1, (rd_T134 l0_1 ix).f2⟩) from by unfold impl_placed.f; rw [if_pos (Nat.le_trans (List.length_filter_le _ _) hl)])
    have HP0 := Aside0.mk (show idxP (delP a1 a2) l0_1 0 = p0 from by rw [hp0]; omega)
    have HP1 := Aside0.mk hp1
    have HP2 := Aside0.mk hp2
    clear hib hneg hp0 hp1 hp2
    go_enter Try.func45, Try.ntmps45
    go_wp2_with (first | (go_at_call 52; refine (hok _ ?_).mono ?_; (exact below_alloc (below_alloc (below_alloc (below_alloc (Below.refl _ w) _) _) _) _); rintro e w1 ⟨rfl, hb⟩; obtain ⟨hD, hF, hT, hO, hB, hS⟩ := boxes4 hb; have HD := Aside0.mk hD; have HF := Aside0.mk hF; have HT := Aside0.mk hT; have HO := Aside0.mk hO; have HB := Aside0.mk hB; clear hb hB hD; have hd0 : w1.cell? ⟨w.heap.size, 0, none⟩ = some (.int .i64 a0_0) := (blk_cell HD.out 0).trans rfl; have hd1 : w1.cell? ⟨w.heap.size, 1, none⟩ = some (.slice (some ad) l0_1.length c0_1) := (blk_cell HD.out 1).trans rfl; have ho1 : w1.cell? ⟨w.heap.size + 1 + 1 + 1, 0, none⟩ = some (.int .i64 0) := (blk_cell hO 0).trans rfl; have ho2 : w1.cell? ⟨w.heap.size + 1 + 1 + 1, 1, none⟩ = some (.slice none 0 0) := (blk_cell hO 1).trans rfl; have ho3 := fun i => blk_frozen hO i; have hf0 : w1.cell? ⟨w.heap.size + 1, 0, none⟩ = some (.int .i64 a1) := (blk_cell hF 0).trans rfl; have ht0 : w1.cell? ⟨w.heap.size + 1 + 1, 0, none⟩ = some (.int .i64 a2) := (blk_cell hT 0).trans rfl; clear hO hF hT) | (go_at_call 113; refine (hf1 _).mono ?_; rintro e w' ⟨rfl, ⟨nd, rfl⟩⟩) | (go_at_call 113; refine (hf2 _).mono ?_; rintro e w' ⟨rfl, ⟨nd2, rfl⟩⟩) | (go_at_call 115; refine (impl_copyDisk.calls a0_0 (some ad) c0_1 l0_1 a0_0 l0_1 _ ?_ HC.out HCP.out).mono ?_; (exact Kd.C_below HR.out (by (with_reducible repeat apply pw_below_drewN); exact HB.out)); rintro e w2 ⟨v1, rfl, hR, hb⟩; replace hR := Kd.R_lower hR hS; obtain ⟨hE0, hE1, hE2, hE3, hE4, hE5, hE6⟩ := move_step hb HD.out HF.out HT.out HO.out HB.out hS; clear hb hd0 hd1 hf0 ht0 ho1 ho2 ho3 HD HF HT HO HB; have HD := Aside0.mk hE0; have HF := Aside0.mk hE1; have HT := Aside0.mk hE2; have HO := Aside0.mk hE3; have HB := Aside0.mk hE4; obtain ⟨A1, c1, hv⟩ := Kd.R_slice hR; subst hv; have HR1 := Aside0.mk hR; clear hE0 hE1 hE2 hE3 hE4 hR; have hd0 : w2.cell? ⟨w.heap.size, 0, none⟩ = some (.int .i64 a0_0) := (blk_cell HD.out 0).trans rfl; have hd1 : w2.cell? ⟨w.heap.size, 1, none⟩ = some (.slice (some ad) l0_1.length c0_1) := (blk_cell HD.out 1).trans rfl; have hf0 : w2.cell? ⟨w.heap.size + 1, 0, none⟩ = some (.int .i64 a1) := (blk_cell HF.out 0).trans rfl; clear hS; have hna : w.heap.size < w2.heap.size := (by omega); have hnb : w.heap.size + 1 < w2.heap.size := (by omega)) | (go_at_call 116; refine (impl_fileAt.calls a0_0 (some ad) c0_1 l0_1 a1 _ _ ?_ HC.out HIX.out).mono ?_; (exact Kd.C_below HR.out (below_alloc HB.out _)); rintro e w3 ⟨rfl, hb3⟩; obtain ⟨hD, hF, hT, hO, hU, hB, hR3, hS3⟩ := move_step3 hb3 HD.out HF.out HT.out HO.out HB.out HR1.out; clear hb3 hd0 hd1 hf0 hna hnb HD HF HT HO HB HR1; have HB := Aside0.mk hB; have HR3 := Aside0.mk hR3; have HO := Aside0.mk hO; have HU := Aside0.mk hU; have HT := Aside0.mk hT; have HF := Aside0.mk hF; clear hB hR3; have hd0 : w3.cell? ⟨w.heap.size, 0, none⟩ = some (.int .i64 a0_0) := (blk_cell hD 0).trans rfl; have hd1 : w3.cell? ⟨w.heap.size, 1, none⟩ = some (.slice (some ad) l0_1.length c0_1) := (blk_cell hD 1).trans rfl; have ht0 : w3.cell? ⟨w.heap.size + 1 + 1, 0, none⟩ = some (.int .i64 a2) := (blk_cell hT 0).trans rfl; have hx0 := pw_cell_below HB.out gx0; have hx1 := pw_cell_below HB.out gx1; have hx2 := pw_cell_below HB.out gx2; have hma : w.heap.size < w3.heap.size := (by omega); have hmb : w.heap.size + 1 + 1 < w3.heap.size := (by omega); have hmc : w2.heap.size < w3.heap.size := (by omega); have hmd : w.heap.size + 1 + 1 + 1 < w3.heap.size := (by omega); have hpr := fun W (hbW : Below w3.heap.size w3 W) => del_files (w.heap.size + 4) (fun _ => True) (.slice A1 l0_1.length c1) l0_1 a1 a2 (w.heap.size + 1) (w.heap.size + 1 + 1) W (Kd.R_below HR3.out hbW) (blk_below HF.out hbW) (blk_below HT.out hbW) (Kd.R_ne HR3.out HF.out (by decide)).symm (Kd.R_ne HR3.out HT.out (by decide)).symm p0 HP0.out HP1.out HP2.out; have ho1 : w3.cell? ⟨w.heap.size + 1 + 1 + 1, 0, none⟩ = some (.int .i64 0) := (blk_cell hO 0).trans rfl; have ho2 : w3.cell? ⟨w.heap.size + 1 + 1 + 1, 1, none⟩ = some (.slice none 0 0) := (blk_cell hO 1).trans rfl; have ho3 := fun i => blk_frozen hO i; have hu1 : w3.cell? ⟨w2.heap.size, 0, none⟩ = some (.int .i64 a0_0) := (blk_cell hU 0).trans rfl; have hu2 : w3.cell? ⟨w2.heap.size, 1, none⟩ = some (.slice A1 l0_1.length c1) := (blk_cell hU 1).trans rfl; have hu3 := fun i => blk_frozen hU i; clear hD hT hO hU hF) | (go_at_call 121; refine (hpr _ ?_).mono ?_; (exact below_alloc (Below.refl _ w3) _); rintro e w4 ⟨g, c, hv, hpost⟩; obtain ⟨rfl, hlc, hC, hG⟩ := hpost; obtain ⟨hO, hU, hX, hB4, hS4, hn4⟩ := move_step4 hv HO.out HU.out HB.out HR3.out hG; clear hpr hd0 hd1 ht0 hx0 hx1 hx2 hma hmb hmd ho1 ho2 ho3 hu1 hu2 hu3 HB HR3 HO HU HT HF hv hG; have HC4 := Aside0.mk hC; have HLC := Aside0.mk hlc; have HB := Aside0.mk hB4; have HO := Aside0.mk hO; have HU := Aside0.mk hU; clear hC hlc hB4; have hu1 : w4.cell? ⟨w2.heap.size, 0, none⟩ = some (.int .i64 a0_0) := (blk_cell hU 0).trans rfl; have hu2 : w4.cell? ⟨w2.heap.size, 1, none⟩ = some (.slice A1 l0_1.length c1) := (blk_cell hU 1).trans rfl; have hu3 := fun i => blk_frozen hU i; have hx0 : w4.cell? ⟨w3.heap.size, 0, none⟩ = some (.int .i64 a2) := (blk_cell hX 0).trans rfl; have hx1 : w4.cell? ⟨w3.heap.size, 1, none⟩ = some (.string (rd_T134 l0_1 ix).f1) := (blk_cell hX 1).trans rfl; have hx2 : w4.cell? ⟨w3.heap.size, 2, none⟩ = some (.string (rd_T134 l0_1 ix).f2) := (blk_cell hX 2).trans rfl; have n23 : w2.heap.size ≠ w3.heap.size := Nat.ne_of_lt hmc; have n32 : w3.heap.size ≠ w2.heap.size := n23.symm; clear hO hU hX) | (go_at_call 117; refine (impl_placed.calls a0_0 (some ⟨g, 0, none⟩) c (l0_1.filter (fun x => !delP a1 a2 x)) a2 (rd_T134 l0_1 ix).f1 (rd_T134 l0_1 ix).f2 a0_0 (placeL (l0_1.filter (fun x => !delP a1 a2 x)) ⟨a2, (rd_T134 l0_1 ix).f1, (rd_T134 l0_1 ix).f2⟩) _ ?_ HLC.out HPL.out).mono ?_; (exact HC4.out _ (Below.heap_setCell _ _ _ _ hn4)); rintro e w5 ⟨v2, rfl, hR5, hb5⟩; obtain ⟨A2, c2, hv2⟩ := Kd.R_slice hR5; subst hv2; obtain ⟨hO, hB5, hR6⟩ := move_step5 hb5 HO.out HB.out hE5 hS4 hR5; clear hu1 hu2 hu3 hx0 hx1 hx2 HB HO HU hR5 hb5 HC4 HLC; have HB := Aside0.mk hB5; have HO := Aside0.mk hO; have HR6 := Aside0.mk hR6; clear hB5 hR6; have ho1 : w5.cell? ⟨w.heap.size + 1 + 1 + 1, 0, none⟩ = some (.int .i64 0) := (blk_cell hO 0).trans rfl; have ho2 : w5.cell? ⟨w.heap.size + 1 + 1 + 1, 1, none⟩ = some (.slice none 0 0) := (blk_cell hO 1).trans rfl; have ho3 := fun i => blk_frozen hO i; clear hO))
    refine bodyPost_ret (results_ct rfl _ _ (w.heap.size + 1 + 1 + 1) 70 #[.int .i64 a0_0, .slice A2 (placeL (l0_1.filter (fun x => !delP a1 a2 x)) ⟨a2, (rd_T134 l0_1 ix).f1, (rd_T134 l0_1 ix).f2⟩).length c2] (0, 0) _ rfl (by refine blk_put (cs := #[.int .i64 a0_0, .slice none 0 0]) ?_ 1 _ rfl; refine blk_put (cs := #[.int .i64 0, .slice none 0 0]) ?_ 0 _ rfl; exact HO.out) Try.underlying70 rfl (by kernel_rfl)) rfl ?_
    exact ⟨_, rfl, Kd.R_set (Kd.R_set HR6.out HO.out (by decide) 0 _) (blk_put HO.out 0 _ rfl) (by decide) 1 _, below_set (below_set HB.out (by omega)) (by omega)⟩
set_option maxRecDepth 100000 in
theorem impl_DiskMove.calls (k : Nat) (a0_0 : Int) (A0_1 : Option Addr) (c0_1 : Nat) (l0_1 : List (S134)) (a1 : Int) (a2 : Int) (r1 : Int) (r2 : List (S134)) (r3 : Int) (w : World) (hr0_1 : Kd.C k134 w A0_1 l0_1.length l0_1) (hc0_1 : l0_1.length ≤ c0_1) (h : impl_DiskMove.f k a0_0 l0_1 a1 a2 = some (r1, r2, r3)) :
 Calls Try.prog 45 #[.agg #[.int .i64 a0_0, .slice A0_1 l0_1.length c0_1], .int .i64 a1, .int .i64 a2] w fun e w' => ∃ v1_ : Value, e = .returned (.tuple #[.agg #[.int .i64 r1, v1_], .int .i64 r3]) ∧ Kd.R k134 134 w' w.heap.size (fun _ => True) v1_ r2 ∧ Below w.heap.size w w' := by
  unfold impl_DiskMove.f at h
  obtain ⟨o, ho, h⟩ := Option.bind_eq_some_iff.mp h
  have hok := fun W (hb : Below w.heap.size w W) => impl_DiskOk.calls k a0_0 A0_1 c0_1 l0_1 o W (Kd.C_below hr0_1 hb) hc0_1 ho
  cases o
  · simp only [if_true, Option.some.injEq, Prod.mk.injEq] at h
    obtain ⟨rfl, rfl, rfl⟩ := h
    exact move_bad a0_0 A0_1 c0_1 l0_1 a1 a2 w hr0_1 false hok false false (fun h => nomatch h) (fun h => nomatch h) (Or.inl rfl)
  rw [if_neg (by decide)] at h
  obtain ⟨f1, hf1, h⟩ := Option.bind_eq_some_iff.mp h
  have hF1 := fun W => impl_isFile.calls a1 f1 W hf1
  cases f1
  · simp only [if_true, Option.some.injEq, Prod.mk.injEq] at h
    obtain ⟨rfl, rfl, rfl⟩ := h
    exact move_bad a0_0 A0_1 c0_1 l0_1 a1 a2 w hr0_1 true hok false false (fun _ => hF1) (fun _ h => nomatch h) (Or.inr (Or.inl rfl))
  rw [if_neg (by decide)] at h
  obtain ⟨f2, hf2, h⟩ := Option.bind_eq_some_iff.mp h
  have hF2 := fun W => impl_isFile.calls a2 f2 W hf2
  cases f2
  · simp only [if_true, Option.some.injEq, Prod.mk.injEq] at h
    obtain ⟨rfl, rfl, rfl⟩ := h
    exact move_bad a0_0 A0_1 c0_1 l0_1 a1 a2 w hr0_1 true hok true false (fun _ => hF1) (fun _ _ => hF2) (Or.inr (Or.inr (Or.inl rfl)))
  rw [if_neg (by decide)] at h
  by_cases he : a1 = a2
  · rw [if_pos he] at h
    simp only [Option.some.injEq, Prod.mk.injEq] at h
    obtain ⟨rfl, rfl, rfl⟩ := h
    exact move_bad a0_0 A0_1 c0_1 l0_1 a1 a2 w hr0_1 true hok true true (fun _ => hF1) (fun _ _ => hF2) (Or.inr (Or.inr (Or.inr he)))
  · rw [if_neg he] at h
    have hl : l0_1.length ≤ 1000 := by
      by_cases hl : l0_1.length ≤ 1000
      · exact hl
      · unfold moveCore at h; rw [if_neg hl] at h; cases h
    exact move_good a0_0 A0_1 c0_1 l0_1 a1 a2 w hr0_1 hc0_1 hok hF1 hF2 he hl r1 r2 r3 h


/-- A state of type 156 at block g of W; what its slices lead to came in by w0. -/
def IsS156 (w0 W : World) (g : Nat) (f0 : List Int) (f1 : Int) (f2 : Int) : Prop := ∃ A0 c0, W.heap[g]? = some (.cells #[.slice A0 f0.length c0, .int .i64 f1, .int .i64 f2] 156 (0, 0)) ∧ w0.heap.size ≤ g ∧ Kd.C (Kd.int .u8) w0 A0 f0.length f0
theorem IsS156.grown {w0 W : World} {g : Nat} {f0 : List Int} {f1 : Int} {f2 : Int} {W1 : World} {row : Option Nat} (h : IsS156 w0 W g f0 f1 f2) (hw : W.grownBy W1 row) (hne : some g ≠ row) : IsS156 w0 W1 g f0 f1 f2 := by
 obtain ⟨A0, c0, hb, hg, hr0⟩ := h
 exact ⟨A0, c0, blk_grown hb hw hne, hg, hr0⟩
theorem IsS156.own_neN {w0 W : World} {g : Nat} {f0 : List Int} {f1 : Int} {f2 : Int} {α : Type} {d : Kd α} {e : Nat} {base : Nat} {ok : Nat → Prop} {v : Value} {xs : List α} (h : IsS156 w0 W g f0 f1 f2) (ho : Kd.N d e W base ok v xs) (ht : e ≠ 156) : some g ≠ v.ownBlock := by
 obtain ⟨A0, c0, hb, hg, hr0⟩ := h
 exact Kd.N_ne ho hb ht
theorem IsS156.fresh {w0 W : World} {g : Nat} {f0 : List Int} {f1 : Int} {f2 : Int} (h : IsS156 w0 W g f0 f1 f2) : ∀ k, W.heap.size ≤ k → k ≠ g := by
 obtain ⟨A0, c0, hb, hg, hr0⟩ := h
 exact Kd.freshB hb
theorem IsS156.kept {w0 W : World} {g : Nat} {f0 : List Int} {f1 : Int} {f2 : Int} {W1 : World} {S : Nat → Prop} (h : IsS156 w0 W g f0 f1 f2) (hk : Kept W W1 S) (hne : ¬ S g) : IsS156 w0 W1 g f0 f1 f2 := by
 obtain ⟨A0, c0, hb, hg, hr0⟩ := h
 exact ⟨A0, c0, blk_kept hb hk hne, hg, hr0⟩
theorem IsS156.below {w0 W : World} {g : Nat} {f0 : List Int} {f1 : Int} {f2 : Int} {W1 : World} (h : IsS156 w0 W g f0 f1 f2) (hw : Below W.heap.size W W1) : IsS156 w0 W1 g f0 f1 f2 := h.grown (grown_of_below hw none) (by simp)
theorem IsS156.alloc {w0 W : World} {g : Nat} {f0 : List Int} {f1 : Int} {f2 : Int} (h : IsS156 w0 W g f0 f1 f2) (o : Obj) : IsS156 w0 (W.alloc o) g f0 f1 f2 := h.below (below_alloc (Below.refl _ _) o)
theorem IsS156.drewN {w0 W : World} {g : Nat} {f0 : List Int} {f1 : Int} {f2 : Int} (h : IsS156 w0 W g f0 f1 f2) (m : Nat) : IsS156 w0 (W.drewN m) g f0 f1 f2 := h
theorem IsS156.drew {w0 W : World} {g : Nat} {f0 : List Int} {f1 : Int} {f2 : Int} (h : IsS156 w0 W g f0 f1 f2) : IsS156 w0 W.drew g f0 f1 f2 := h
theorem IsS156.at_ {w0 W : World} {g : Nat} {f0 : List Int} {f1 : Int} {f2 : Int} {w' : World} {m : Nat} (hq : W.drewN m = w') (h : IsS156 w0 W g f0 f1 f2) : IsS156 w0 w' g f0 f1 f2 := by subst hq; exact IsS156.drewN h m
theorem IsS156.apart {w0 W : World} {g : Nat} {f0 : List Int} {f1 : Int} {f2 : Int} {α : Type} {d : Kd α} {e : Nat} {base : Nat} {ok : Nat → Prop} {v : Value} {xs : List α} (h : IsS156 w0 W g f0 f1 f2) (ho : d.R e W base ok v xs) (ht : ∀ q, q ∈ e :: d.E → q ≠ 156) : d.R e W base (fun k => ok k ∧ k ≠ g) v xs := by
 obtain ⟨A0, c0, hb, hg, hr0⟩ := h
 exact Kd.R_types ho hb ht
theorem IsS156.own_ne {w0 W : World} {g : Nat} {f0 : List Int} {f1 : Int} {f2 : Int} {α : Type} {d : Kd α} {e : Nat} {base : Nat} {ok : Nat → Prop} {v : Value} {xs : List α} (h : IsS156 w0 W g f0 f1 f2) (ho : d.R e W base ok v xs) (ht : e ≠ 156) : some g ≠ v.ownBlock := by
 obtain ⟨A0, c0, hb, hg, hr0⟩ := h
 exact Kd.R_ne ho hb ht
theorem IsS156.apartQ {w0 W : World} {g : Nat} {f0 : List Int} {f1 : Int} {f2 : Int} {α : Type} {d : Kd α} {e : Nat} {base : Nat} {ok : Nat → Prop} {v : Value} {xs : List α} (h : IsS156 w0 W g f0 f1 f2) (ho : d.Q e W base ok v xs) (ht : ∀ q, q ∈ e :: d.E → q ≠ 156) : d.Q e W base (fun k => ok k ∧ k ≠ g) v xs := by
 obtain ⟨A0, c0, hb, hg, hr0⟩ := h
 exact Kd.Q_types ho hb ht
theorem IsS156.own_neQ {w0 W : World} {g : Nat} {f0 : List Int} {f1 : Int} {f2 : Int} {α : Type} {d : Kd α} {e : Nat} {base : Nat} {ok : Nat → Prop} {v : Value} {xs : List α} (h : IsS156 w0 W g f0 f1 f2) (ho : d.Q e W base ok v xs) (ht : e ≠ 156) : some g ≠ v.ownBlock := by
 obtain ⟨A0, c0, hb, hg, hr0⟩ := h
 exact Kd.Q_ne ho hb ht
theorem IsS156.apartS {w0 W : World} {g : Nat} {f0 : List Int} {f1 : Int} {f2 : Int} {α : Type} {d : Kd α} {e : Nat} {base : Nat} {ok : Nat → Prop} {v : Value} {xs : List α} (h : IsS156 w0 W g f0 f1 f2) (ho : d.S e W base ok v xs) (ht : ∀ q, q ∈ e :: d.E → q ≠ 156) : d.S e W base (fun k => ok k ∧ k ≠ g) v xs := by
 obtain ⟨A0, c0, hb, hg, hr0⟩ := h
 exact Kd.S_types ho hb ht
theorem IsS156.own_neS {w0 W : World} {g : Nat} {f0 : List Int} {f1 : Int} {f2 : Int} {α : Type} {d : Kd α} {e : Nat} {base : Nat} {ok : Nat → Prop} {v : Value} {xs : List α} (h : IsS156 w0 W g f0 f1 f2) (ho : d.S e W base ok v xs) (ht : e ≠ 156) : some g ≠ v.ownBlock := by
 obtain ⟨A0, c0, hb, hg, hr0⟩ := h
 exact Kd.S_ne ho hb ht
theorem IsS156.lt {w0 W : World} {g : Nat} {f0 : List Int} {f1 : Int} {f2 : Int} (h : IsS156 w0 W g f0 f1 f2) : g < W.heap.size := by
 obtain ⟨A0, c0, hb, hg, hr0⟩ := h
 exact blk_lt hb
theorem IsS156.ge {w0 W : World} {g : Nat} {f0 : List Int} {f1 : Int} {f2 : Int} (h : IsS156 w0 W g f0 f1 f2) : w0.heap.size ≤ g := by
 obtain ⟨A0, c0, hb, hg, hr0⟩ := h
 exact hg
theorem IsS156.ne_blk {w0 W : World} {g : Nat} {f0 : List Int} {f1 : Int} {f2 : Int} {a : Nat} {cs : Array Value} {t : TypeId} {fr : Nat × Nat} (h : IsS156 w0 W g f0 f1 f2) (hb2 : W.heap[a]? = some (.cells cs t fr)) (ht : t ≠ 156) : g ≠ a := by
 obtain ⟨A0, c0, hb, hg, hr0⟩ := h
 rintro rfl
 rw [hb] at hb2
 injection hb2 with hb2
 injection hb2 with _ ht2
 exact ht ht2.symm
theorem IsS156.far {w0 W : World} {g : Nat} {f0 : List Int} {f1 : Int} {f2 : Int} {p : Addr} (h : IsS156 w0 W g f0 f1 f2) (hne : g ≠ p.block) (u : Value) : IsS156 w0 (W.setCell p u) g f0 f1 f2 := by
 obtain ⟨A0, c0, hb, hg, hr0⟩ := h
 exact ⟨A0, c0, blk_far hb hne u, hg, hr0⟩
theorem cellS156_0 {W : World} {g : Nat} {A0 : Option Addr} {c0 : Nat} {f0 : List Int} {f1 : Int} {f2 : Int} (h : W.heap[g]? = some (.cells #[.slice A0 f0.length c0, .int .i64 f1, .int .i64 f2] 156 (0, 0))) : W.cell? ⟨g, 0, none⟩ = some (.slice A0 f0.length c0) := (blk_cell h 0).trans rfl
theorem cellS156_1 {W : World} {g : Nat} {A0 : Option Addr} {c0 : Nat} {f0 : List Int} {f1 : Int} {f2 : Int} (h : W.heap[g]? = some (.cells #[.slice A0 f0.length c0, .int .i64 f1, .int .i64 f2] 156 (0, 0))) : W.cell? ⟨g, 1, none⟩ = some (.int .i64 f1) := (blk_cell h 1).trans rfl
theorem IsS156.set_1 {w0 W : World} {g : Nat} {f0 : List Int} {f1 : Int} {f2 : Int} (h : IsS156 w0 W g f0 f1 f2) (x : Int) : IsS156 w0 (W.setCell ⟨g, 1, none⟩ (.int .i64 x)) g f0 x f2 := by
 obtain ⟨A0, c0, hb, hg, hr0⟩ := h
 exact ⟨A0, c0, by simpa using blk_set hb 1 (.int .i64 x), hg, hr0⟩
theorem cellS156_2 {W : World} {g : Nat} {A0 : Option Addr} {c0 : Nat} {f0 : List Int} {f1 : Int} {f2 : Int} (h : W.heap[g]? = some (.cells #[.slice A0 f0.length c0, .int .i64 f1, .int .i64 f2] 156 (0, 0))) : W.cell? ⟨g, 2, none⟩ = some (.int .i64 f2) := (blk_cell h 2).trans rfl
theorem IsS156.set_2 {w0 W : World} {g : Nat} {f0 : List Int} {f1 : Int} {f2 : Int} (h : IsS156 w0 W g f0 f1 f2) (x : Int) : IsS156 w0 (W.setCell ⟨g, 2, none⟩ (.int .i64 x)) g f0 f1 x := by
 obtain ⟨A0, c0, hb, hg, hr0⟩ := h
 exact ⟨A0, c0, by simpa using blk_set hb 2 (.int .i64 x), hg, hr0⟩
theorem IsS156.new (w0 W : World) (A0 : Option Addr) (c0 : Nat) (f0 : List Int) (f1 : Int) (f2 : Int) (hB : Below w0.heap.size w0 W) (hr0 : Kd.C (Kd.int .u8) w0 A0 f0.length f0) : IsS156 w0 (W.alloc (.cells #[.slice A0 f0.length c0, .int .i64 f1, .int .i64 f2] 156)) W.heap.size f0 f1 f2 := ⟨A0, c0, by simpa using heap_alloc_new W _, hB.size, hr0⟩

/-! ### spec_l1New: function 76 -/
def spec_l1New.l0 : Nat → List Int → Int → Int → Option (List Int × Int × Int)
 | 0, _, _, _ => none
 | k + 1, x0, x3, x4 => if x4 < (x0.length : Int) then (if x4 < 4000 then (if 0 ≤ x4 then (spec_l1New.l0 k x0 (Go.bits .and .i64 (wrap64 ((wrap64 ((wrap64 (x3 * 131)) + (wrap64 (rd x0 x4)))) + 7)) 1073741823) (wrap64 (x4 + 1))) else (none)) else (some (x0, 0, x3))) else (some (x0, 0, x3))
def spec_l1New.f (k : Nat) (l0 : List Int) : Option (List Int × Int × Int) := spec_l1New.l0 k l0 (wrap64 (10677 + (l0.length : Int))) 0
set_option maxRecDepth 100000 in
theorem spec_l1New.mono_l : ∀ k, (∀ y0 y1 y2, LeO (spec_l1New.l0 k y0 y1 y2) (spec_l1New.l0 (k + 1) y0 y1 y2))
 | 0 => fun _ _ _ r h => by simp [spec_l1New.l0] at h
 | k + 1 => by
  have ih0 := spec_l1New.mono_l k
  ·intro y0 y1 y2
   unfold spec_l1New.l0
   repeat' first
   | (with_reducible exact ih0 _ _ _)
   | (with_reducible exact LeO.refl _)
   | (with_reducible exact LeO.none _)
   | (with_reducible refine LeO.ite ?_ ?_)
   | (with_reducible refine LeO.bind ?_ (fun _ => ?_))
   | exact ih0 _ _ _
   | exact LeO.none _
   | refine LeO.ite ?_ ?_
   | refine LeO.bind ?_ (fun _ => ?_)
theorem spec_l1New.mono : ∀ a0 k, LeO (spec_l1New.f k a0) (spec_l1New.f (k + 1) a0) := by
 intro a0 k
 have ih0 := spec_l1New.mono_l k
 unfold spec_l1New.f
 repeat' first
  | (with_reducible exact ih0 _ _ _)
  | (with_reducible exact LeO.refl _)
  | (with_reducible exact LeO.none _)
  | (with_reducible refine LeO.ite ?_ ?_)
  | (with_reducible refine LeO.bind ?_ (fun _ => ?_))
  | exact ih0 _ _ _
  | exact LeO.none _
  | refine LeO.ite ?_ ?_
  | refine LeO.bind ?_ (fun _ => ?_)
set_option maxHeartbeats 8000000 in
set_option maxRecDepth 100000 in
theorem spec_l1New.calls (k : Nat) (A0 : Option Addr) (c0 : Nat) (l0 : List Int) (r1 : List Int) (r2 : Int) (r3 : Int) (w0 w : World) (hB : Below w0.heap.size w0 w) (hr0 : Kd.C (Kd.int .u8) w0 A0 l0.length l0) (hc0 : l0.length ≤ c0) (h : spec_l1New.f k l0 = some (r1, r2, r3)) :
 Calls Try.prog 76 #[.slice A0 l0.length c0] w fun e w' => ∃ g_ : Nat, e = .returned (.pointer (some ⟨g_, 0, none⟩)) ∧ IsS156 w0 w' g_ r1 r2 r3 ∧ Below w0.heap.size w0 w' ∧ Below w.heap.size w w' := by
 have hu156 := Try.underlying156
 have HR0 := aM hr0
 have HC0 := aM hc0
 clear hr0 hc0
 have HBW := aM (Below.refl w.heap.size w)
 have HW0 := aM hB.size
 have HB := aM hB
 clear hB
 have H : (spec_l1New.l0 k l0 (wrap64 (10677 + (l0.length : Int))) 0) = some (r1, r2, r3) := h
 clear h
 have H' := aM H
 clear H
 go_enter Try.func76, Try.ntmps76
 go_wp2
 go_loopg [3, 4] k (fun kq v3 v4 w' => ∃ (x3_1 : Int) (x4_1 : Int), v3 = .int .i64 x3_1 ∧ v4 = .int .i64 x4_1 ∧ Aside0 (spec_l1New.l0 kq l0 x3_1 x4_1 = some (r1, r2, r3)) ∧ Aside0 (kq ≤ k) ∧ Aside0 (Below w.heap.size w w') ∧ Aside0 (Below w0.heap.size w0 w'))
 case atStart => exact ⟨(wrap64 (10677 + (l0.length : Int))), (0), (by first | rfl | (simp; done) | (simp [*]; done)), (by first | rfl | (simp; done) | (simp [*]; done)), H', ⟨Nat.le_refl _⟩, ⟨by repeat (first | (with_reducible first | exact HBW.out | apply below_alloc | apply pw_below_drewN | apply below_drew1) | exact HBW.out)⟩, ⟨xbel⟩⟩
 case round =>
  clear H'
  obtain ⟨x3_1, x4_1, rfl, rfl, HA, HK1, HBW, HB⟩ := hrel
  cases gk with
  | zero => exact absurd HA.out (by simp [spec_l1New.l0])
  | succ k1 =>
   have H := HA.out; clear HA
   simp only [spec_l1New.l0] at H
   by_cases c2 : x4_1 < (l0.length : Int)
   ·rw [if_pos c2] at H
    have c2b0 : decide (x4_1 < (l0.length : Int)) = true := decide_eq_true c2; clear c2
    by_cases c3 : x4_1 < 4000
    ·rw [if_pos c3] at H
     have c3b0 : decide (x4_1 < 4000) = true := decide_eq_true c3; clear c3
     by_cases c4 : 0 ≤ x4_1
     ·rw [if_pos c4] at H
      have c4b0 : decide (0 ≤ x4_1) = true := decide_eq_true c4; clear c4
      have H' := aM H
      clear H; have p203 : 0 ≤ (x4_1 : Int) := oda; have q203 : x4_1 < (l0.length : Int) := oda
      obtain ⟨ad203, e203, hx203_0⟩ := Kd.at_int HR0.out x4_1 p203 q203
      cases e203
      replace hx203_0 := pw_cell_below HB.out hx203_0; replace p203 := eq_true p203; replace q203 := eq_true q203
      go_wp2
      go_roundg k1
      case measure => have := HK1.out; omega
      case rel => exact ⟨(Go.bits .and .i64 (wrap64 ((wrap64 ((wrap64 (x3_1 * 131)) + (wrap64 (rd l0 x4_1)))) + 7)) 1073741823), (wrap64 (x4_1 + 1)), (by first | rfl | (simp; done) | (simp [*]; done)), (by first | rfl | (simp; done) | (simp [*]; done)), H', ⟨by have := HK1.out; omega⟩, ⟨by repeat (first | (with_reducible first | exact HBW.out | apply below_alloc | apply pw_below_drewN | apply below_drew1) | exact HBW.out)⟩, ⟨xbel⟩⟩
     ·rw [if_neg c4] at H
      exact absurd H (by simp)
    ·rw [if_neg c3] at H
     have c3b0 : decide (x4_1 < 4000) = false := decide_eq_false c3; clear c3
     simp only [Option.some.injEq, Prod.mk.injEq] at H
     obtain ⟨rfl, rfl, rfl⟩ := H
     go_wp2_with (first | ((with_reducible refine gate_dst (N := 31) rfl ?_); refine box_event ?hg (N := 31) ?hd (cs := #[.slice A0 l0.length c0, .int .i64 0, .int .i64 x3_1]) (t := 156) ?hr ?_; (case hd => rfl); (case hg => rfl); (case hr => first | (go_simp; done) | (go_simp; rfl)); intro gb204 hg w5 hbox hb; replace HB := xbs hb; have BK204 := aM (hbox); have GW204 := aM ((by rw [hg]; exact (below_size (by repeat (first | (with_reducible first | exact HBW.out | apply below_alloc | apply pw_below_drewN | apply below_drew1) | exact HBW.out))) : w.heap.size ≤ gb204)); have GE204 := aM ((Nat.le_trans HW0.out (by rw [hg]; exact (below_size (by repeat (first | (with_reducible first | exact HBW.out | apply below_alloc | apply pw_below_drewN | apply below_drew1) | exact HBW.out))) : w.heap.size ≤ gb204) : w0.heap.size ≤ gb204)); replace HBW := aM (below_step HBW.out hb); clear hb hbox hg))
     go_ret
     exact ⟨_, rfl, (show IsS156 w0 _ gb204 l0 0 x3_1 from ⟨_, _, by (with_reducible repeat (first | refine blk_drewN ?_ _ | refine blk_drew ?_ | refine blk_alloc ?_ _)); exact BK204.out, GE204.out, HR0.out⟩), xbg, by repeat (first | (with_reducible first | exact HBW.out | apply below_alloc | apply pw_below_drewN | apply below_drew1 | refine below_set ?_ GW204.out) | exact HBW.out)⟩
   ·rw [if_neg c2] at H
    have c2b0 : decide (x4_1 < (l0.length : Int)) = false := decide_eq_false c2; clear c2
    simp only [Option.some.injEq, Prod.mk.injEq] at H
    obtain ⟨rfl, rfl, rfl⟩ := H
    go_wp2_with (first | ((with_reducible refine gate_dst (N := 31) rfl ?_); refine box_event ?hg (N := 31) ?hd (cs := #[.slice A0 l0.length c0, .int .i64 0, .int .i64 x3_1]) (t := 156) ?hr ?_; (case hd => rfl); (case hg => rfl); (case hr => first | (go_simp; done) | (go_simp; rfl)); intro gb205 hg w6 hbox hb; replace HB := xbs hb; have BK205 := aM (hbox); have GW205 := aM ((by rw [hg]; exact (below_size (by repeat (first | (with_reducible first | exact HBW.out | apply below_alloc | apply pw_below_drewN | apply below_drew1) | exact HBW.out))) : w.heap.size ≤ gb205)); have GE205 := aM ((Nat.le_trans HW0.out (by rw [hg]; exact (below_size (by repeat (first | (with_reducible first | exact HBW.out | apply below_alloc | apply pw_below_drewN | apply below_drew1) | exact HBW.out))) : w.heap.size ≤ gb205) : w0.heap.size ≤ gb205)); replace HBW := aM (below_step HBW.out hb); clear hb hbox hg))
    go_ret
    exact ⟨_, rfl, (show IsS156 w0 _ gb205 l0 0 x3_1 from ⟨_, _, by (with_reducible repeat (first | refine blk_drewN ?_ _ | refine blk_drew ?_ | refine blk_alloc ?_ _)); exact BK205.out, GE205.out, HR0.out⟩), xbg, by repeat (first | (with_reducible first | exact HBW.out | apply below_alloc | apply pw_below_drewN | apply below_drew1 | refine below_set ?_ GW205.out) | exact HBW.out)⟩

/-! ### spec_l1Byte: function 144 -/
def spec_l1Byte.f (s0_0 : List Int) (s0_1 : Int) (s0_2 : Int) : Option (Int × Int × Int) := if s0_1 < (s0_0.length : Int) then (if 0 ≤ s0_1 then (some (Go.bits .and .i64 (wrap64 ((Go.bits .and .i64 (Go.bits .xor .i64 ((wrap64 ((wrap64 (s0_2 * 6364136223846793005)) + 1442695040888963407)) / 8589934592) ((wrap64 ((wrap64 (s0_2 * 6364136223846793005)) + 1442695040888963407)) / 35184372088832)) 255) + (wrap64 (rd s0_0 s0_1)))) 255, wrap64 (s0_1 + 1), wrap64 ((wrap64 (s0_2 * 6364136223846793005)) + 1442695040888963407))) else (none)) else (some (Go.bits .and .i64 (Go.bits .xor .i64 ((wrap64 ((wrap64 (s0_2 * 6364136223846793005)) + 1442695040888963407)) / 8589934592) ((wrap64 ((wrap64 (s0_2 * 6364136223846793005)) + 1442695040888963407)) / 35184372088832)) 255, s0_1, wrap64 ((wrap64 (s0_2 * 6364136223846793005)) + 1442695040888963407)))
set_option maxHeartbeats 8000000 in
set_option maxRecDepth 100000 in
theorem spec_l1Byte.calls (g : Nat) (s0_0 : List Int) (s0_1 : Int) (s0_2 : Int) (r1 : Int) (r2 : Int) (r3 : Int) (w0 w : World) (hI : IsS156 w0 w g s0_0 s0_1 s0_2) (hB : Below w0.heap.size w0 w) (h : spec_l1Byte.f s0_0 s0_1 s0_2 = some (r1, r2, r3)) :
 Calls Try.prog 144 #[.pointer (some ⟨g, 0, none⟩)] w fun e w' => e = .returned (.int .i64 r1) ∧ IsS156 w0 w' g s0_0 r2 r3 ∧ Below w0.heap.size w0 w' ∧ KeepBut w w' g none := by
 have HI0 := aM hI
 have HK := aM (KeepBut.refl w g none)
 have HL := aM hB.size
 clear hI
 have HW0 := aM hB.size
 have HB := aM hB
 clear hB
 have H : (if s0_1 < (s0_0.length : Int) then (if 0 ≤ s0_1 then (some (Go.bits .and .i64 (wrap64 ((Go.bits .and .i64 (Go.bits .xor .i64 ((wrap64 ((wrap64 (s0_2 * 6364136223846793005)) + 1442695040888963407)) / 8589934592) ((wrap64 ((wrap64 (s0_2 * 6364136223846793005)) + 1442695040888963407)) / 35184372088832)) 255) + (wrap64 (rd s0_0 s0_1)))) 255, wrap64 (s0_1 + 1), wrap64 ((wrap64 (s0_2 * 6364136223846793005)) + 1442695040888963407))) else (none)) else (some (Go.bits .and .i64 (Go.bits .xor .i64 ((wrap64 ((wrap64 (s0_2 * 6364136223846793005)) + 1442695040888963407)) / 8589934592) ((wrap64 ((wrap64 (s0_2 * 6364136223846793005)) + 1442695040888963407)) / 35184372088832)) 255, s0_1, wrap64 ((wrap64 (s0_2 * 6364136223846793005)) + 1442695040888963407)))) = some (r1, r2, r3) := h
 clear h
 by_cases c2 : s0_1 < (s0_0.length : Int)
 ·rw [if_pos c2] at H
  have c2b0 : decide (s0_1 < (s0_0.length : Int)) = true := decide_eq_true c2; clear c2
  by_cases c3 : 0 ≤ s0_1
  ·rw [if_pos c3] at H
   have c3b0 : decide (0 ≤ s0_1) = true := decide_eq_true c3; clear c3
   simp only [Option.some.injEq, Prod.mk.injEq] at H
   obtain ⟨rfl, rfl, rfl⟩ := H
   obtain ⟨ASz4_0, cSz4_0, HGz4, hgz4, HSz4_0⟩ := HI0.out
   have hcz4_0 := cellS156_0 HGz4; have hcz4_1 := cellS156_1 HGz4; have hcz4_2 := cellS156_2 HGz4; have hfz4_1 := blk_frozen HGz4 1; have hfz4_2 := blk_frozen HGz4 2; clear HGz4 hgz4; have p206 : 0 ≤ (s0_1 : Int) := oda; have q206 : s0_1 < (s0_0.length : Int) := oda
   obtain ⟨ad206, e206, hx206_0⟩ := Kd.at_int HSz4_0 s0_1 p206 q206
   cases e206
   have hn206_0 : ad206.block ≠ g := Nat.ne_of_lt (Nat.lt_of_lt_of_le (by have := World.block_lt_of_cell? _ _ hx206_0; first | rwa [add_block] at this | exact this) (IsS156.ge HI0.out)); replace hx206_0 := pw_cell_below HB.out hx206_0; replace hx206_0 := (cell_far (p := ⟨g, 2, none⟩) (by first | (rw [add_block]; exact hn206_0) | (show (Addr.add _ _).block ≠ _; rw [add_block]; exact hn206_0) | exact hn206_0) (.int .i64 (wrap64 ((wrap64 (s0_2 * 6364136223846793005)) + 1442695040888963407)))).trans hx206_0
   (try have hy206_0 := fun (n_ : Nat) => (show (((w.drewN n_).setCell ⟨g, 2, none⟩ (.int .i64 (wrap64 ((wrap64 (s0_2 * 6364136223846793005)) + 1442695040888963407))))).cell? _ = some _ from hx206_0))
   clear hn206_0; replace p206 := eq_true p206; replace q206 := eq_true q206
   go_enter Try.func144, Try.ntmps144
   go_wp2
   repeat (go_quiet (fail); try go_wp2)
   go_ret
   exact ⟨by first | rfl | (simp [errW_none, errW_some] <;> rfl) | (simp [*, errW_none, errW_some] <;> rfl), by repeat (first | (with_reducible first | exact HI0.out | apply IsS156.alloc | apply IsS156.drewN | apply IsS156.drew | apply IsS156.set_1 | apply IsS156.set_2) | exact HI0.out), by repeat (first | (with_reducible first | exact HB.out | apply below_alloc | apply pw_below_drewN | apply below_drew1 | refine below_set ?_ (IsS156.ge HI0.out)) | exact HB.out), by repeat (first | (with_reducible first | exact HK.out | apply KeepBut.set_ | apply keep_drewN | apply keep_drew | apply keep_alloc) | exact HK.out)⟩
  ·rw [if_neg c3] at H
   exact absurd H (by simp)
 ·rw [if_neg c2] at H
  have c2b0 : decide (s0_1 < (s0_0.length : Int)) = false := decide_eq_false c2; clear c2
  simp only [Option.some.injEq, Prod.mk.injEq] at H
  obtain ⟨rfl, rfl, rfl⟩ := H
  obtain ⟨ASz5_0, cSz5_0, HGz5, hgz5, HSz5_0⟩ := HI0.out
  have hcz5_0 := cellS156_0 HGz5; have hcz5_1 := cellS156_1 HGz5; have hcz5_2 := cellS156_2 HGz5; have hfz5_1 := blk_frozen HGz5 1; have hfz5_2 := blk_frozen HGz5 2; clear HGz5 hgz5
  go_enter Try.func144, Try.ntmps144
  go_wp2
  repeat (go_quiet (fail); try go_wp2)
  go_ret
  exact ⟨by first | rfl | (simp [errW_none, errW_some] <;> rfl) | (simp [*, errW_none, errW_some] <;> rfl), by repeat (first | (with_reducible first | exact HI0.out | apply IsS156.alloc | apply IsS156.drewN | apply IsS156.drew | apply IsS156.set_1 | apply IsS156.set_2) | exact HI0.out), by repeat (first | (with_reducible first | exact HB.out | apply below_alloc | apply pw_below_drewN | apply below_drew1 | refine below_set ?_ (IsS156.ge HI0.out)) | exact HB.out), by repeat (first | (with_reducible first | exact HK.out | apply KeepBut.set_ | apply keep_drewN | apply keep_drew | apply keep_alloc) | exact HK.out)⟩

/-! ### spec_l1Below: function 78 -/
def spec_l1Below.f (s0_0 : List Int) (s0_1 : Int) (s0_2 : Int) (a1 : Int) : Option (Int × Int × Int) := if a1 ≤ 0 then (some (0, s0_1, s0_2)) else (if a1 ≤ 256 then ((spec_l1Byte.f s0_0 s0_1 s0_2).bind fun bt207 => (if a1 = 0 then (none) else (some (Int.tmod bt207.1 a1, bt207.2.1, bt207.2.2)))) else ((spec_l1Byte.f s0_0 s0_1 s0_2).bind fun bt210 => ((spec_l1Byte.f s0_0 bt210.2.1 bt210.2.2).bind fun bt213 => ((spec_l1Byte.f s0_0 bt213.2.1 bt213.2.2).bind fun bt216 => ((spec_l1Byte.f s0_0 bt216.2.1 bt216.2.2).bind fun bt219 => (if a1 = 0 then (none) else (some (Int.tmod (wrap64 ((wrap64 ((wrap64 ((wrap64 (bt210.1 * 16777216)) + (wrap64 (bt213.1 * 65536)))) + (wrap64 (bt216.1 * 256)))) + bt219.1)) a1, bt219.2.1, bt219.2.2))))))))
set_option maxHeartbeats 8000000 in
set_option maxRecDepth 100000 in
theorem spec_l1Below.calls (g : Nat) (s0_0 : List Int) (s0_1 : Int) (s0_2 : Int) (a1 : Int) (r1 : Int) (r2 : Int) (r3 : Int) (w0 w : World) (hI : IsS156 w0 w g s0_0 s0_1 s0_2) (hB : Below w0.heap.size w0 w) (h : spec_l1Below.f s0_0 s0_1 s0_2 a1 = some (r1, r2, r3)) :
 Calls Try.prog 78 #[.pointer (some ⟨g, 0, none⟩), .int .i64 a1] w fun e w' => e = .returned (.int .i64 r1) ∧ IsS156 w0 w' g s0_0 r2 r3 ∧ Below w0.heap.size w0 w' ∧ KeepBut w w' g none := by
 have HI0 := aM hI
 have HK := aM (KeepBut.refl w g none)
 have HL := aM hB.size
 clear hI
 have HW0 := aM hB.size
 have HB := aM hB
 clear hB
 have H : (if a1 ≤ 0 then (some (0, s0_1, s0_2)) else (if a1 ≤ 256 then ((spec_l1Byte.f s0_0 s0_1 s0_2).bind fun bt207 => (if a1 = 0 then (none) else (some (Int.tmod bt207.1 a1, bt207.2.1, bt207.2.2)))) else ((spec_l1Byte.f s0_0 s0_1 s0_2).bind fun bt210 => ((spec_l1Byte.f s0_0 bt210.2.1 bt210.2.2).bind fun bt213 => ((spec_l1Byte.f s0_0 bt213.2.1 bt213.2.2).bind fun bt216 => ((spec_l1Byte.f s0_0 bt216.2.1 bt216.2.2).bind fun bt219 => (if a1 = 0 then (none) else (some (Int.tmod (wrap64 ((wrap64 ((wrap64 ((wrap64 (bt210.1 * 16777216)) + (wrap64 (bt213.1 * 65536)))) + (wrap64 (bt216.1 * 256)))) + bt219.1)) a1, bt219.2.1, bt219.2.2))))))))) = some (r1, r2, r3) := h
 clear h
 by_cases c3 : a1 ≤ 0
 ·rw [if_pos c3] at H
  have c3b0 : decide (a1 ≤ 0) = true := decide_eq_true c3; clear c3
  simp only [Option.some.injEq, Prod.mk.injEq] at H
  obtain ⟨rfl, rfl, rfl⟩ := H
  go_enter Try.func78, Try.ntmps78
  go_wp2
  go_ret
  exact ⟨by first | rfl | (simp [errW_none, errW_some] <;> rfl) | (simp [*, errW_none, errW_some] <;> rfl), by repeat (first | (with_reducible first | exact HI0.out | apply IsS156.alloc | apply IsS156.drewN | apply IsS156.drew | apply IsS156.set_1 | apply IsS156.set_2) | exact HI0.out), by repeat (first | (with_reducible first | exact HB.out | apply below_alloc | apply pw_below_drewN | apply below_drew1 | refine below_set ?_ (IsS156.ge HI0.out)) | exact HB.out), by repeat (first | (with_reducible first | exact HK.out | apply KeepBut.set_ | apply keep_drewN | apply keep_drew | apply keep_alloc) | exact HK.out)⟩
 ·rw [if_neg c3] at H
  have c3b0 : decide (a1 ≤ 0) = false := decide_eq_false c3; clear c3
  by_cases c4 : a1 ≤ 256
  ·rw [if_pos c4] at H
   have c4b0 : decide (a1 ≤ 256) = true := decide_eq_true c4; clear c4; replace H := Option.bind_eq_some_iff.mp H
   obtain ⟨⟨t207, t208, t209⟩, A50, H⟩ := H
   replace H : (if a1 = 0 then (none) else (some (Int.tmod t207 a1, t208, t209))) = some (r1, r2, r3) := H; have A5 := aM A50; clear A50
   by_cases c6 : a1 = 0
   ·rw [if_pos c6] at H
    exact absurd H (by simp)
   ·rw [if_neg c6] at H
    have c6b0 : (a1 == 0) = false := beq_eq_false_iff_ne.mpr c6; have c6b1 : (a1 != 0) = true := bne_iff_ne.mpr c6
    simp only [Option.some.injEq, Prod.mk.injEq] at H
    obtain ⟨rfl, rfl, rfl⟩ := H
    go_enter Try.func78, Try.ntmps78
    go_wp2_with (first | ((with_reducible refine gate_callee (f := 144) rfl ?_); refine goesL_ (some 14) rfl rfl Try.func144 (by kernel_rfl) rfl #[.pointer (some ⟨g, 0, none⟩)] rfl (by (try simp only [List.map_toArray, List.map_cons, List.map_nil]); first | done | rfl | (simp only [List.length_drop, List.length_take]; rfl)) ?_; (with_reducible refine (spec_l1Byte.calls g s0_0 s0_1 s0_2 t207 t208 t209 w0 _ ?side1 ?side2 A5.out).mono ?_); (case side1 => repeat (first | (with_reducible first | exact HI0.out | apply IsS156.alloc | apply IsS156.drewN | apply IsS156.drew | apply IsS156.set_1 | apply IsS156.set_2) | exact HI0.out)); (case side2 => repeat (first | (with_reducible first | exact HB.out | apply below_alloc | apply pw_below_drewN | apply below_drew1 | refine below_set ?_ (IsS156.ge HI0.out)) | exact HB.out)); rintro e w7 ⟨rfl, hi, hb, hk⟩; refine ⟨_, rfl, ?_⟩; replace HK := aM (KeepBut.trans (by repeat (first | (with_reducible first | exact HK.out | apply KeepBut.set_ | apply keep_drewN | apply keep_drew | apply keep_alloc) | exact HK.out)) hk (.inl rfl)); replace HB := aM (hb); replace HI0 := aM (hi); (try clear hb); (try clear hb2); (try clear hk); (try clear hi)))
    go_ret
    exact ⟨by first | rfl | (simp [errW_none, errW_some] <;> rfl) | (simp [*, errW_none, errW_some] <;> rfl), by repeat (first | (with_reducible first | exact HI0.out | apply IsS156.alloc | apply IsS156.drewN | apply IsS156.drew | apply IsS156.set_1 | apply IsS156.set_2) | exact HI0.out), by repeat (first | (with_reducible first | exact HB.out | apply below_alloc | apply pw_below_drewN | apply below_drew1 | refine below_set ?_ (IsS156.ge HI0.out)) | exact HB.out), by repeat (first | (with_reducible first | exact HK.out | apply KeepBut.set_ | apply keep_drewN | apply keep_drew | apply keep_alloc) | exact HK.out)⟩
  ·rw [if_neg c4] at H
   have c4b0 : decide (a1 ≤ 256) = false := decide_eq_false c4; clear c4; replace H := Option.bind_eq_some_iff.mp H
   obtain ⟨⟨t210, t211, t212⟩, A80, H⟩ := H
   replace H : ((spec_l1Byte.f s0_0 t211 t212).bind fun bt213 => ((spec_l1Byte.f s0_0 bt213.2.1 bt213.2.2).bind fun bt216 => ((spec_l1Byte.f s0_0 bt216.2.1 bt216.2.2).bind fun bt219 => (if a1 = 0 then (none) else (some (Int.tmod (wrap64 ((wrap64 ((wrap64 ((wrap64 (t210 * 16777216)) + (wrap64 (bt213.1 * 65536)))) + (wrap64 (bt216.1 * 256)))) + bt219.1)) a1, bt219.2.1, bt219.2.2)))))) = some (r1, r2, r3) := H; have A8 := aM A80; clear A80; replace H := Option.bind_eq_some_iff.mp H
   obtain ⟨⟨t213, t214, t215⟩, A90, H⟩ := H
   replace H : ((spec_l1Byte.f s0_0 t214 t215).bind fun bt216 => ((spec_l1Byte.f s0_0 bt216.2.1 bt216.2.2).bind fun bt219 => (if a1 = 0 then (none) else (some (Int.tmod (wrap64 ((wrap64 ((wrap64 ((wrap64 (t210 * 16777216)) + (wrap64 (t213 * 65536)))) + (wrap64 (bt216.1 * 256)))) + bt219.1)) a1, bt219.2.1, bt219.2.2))))) = some (r1, r2, r3) := H; have A9 := aM A90; clear A90; replace H := Option.bind_eq_some_iff.mp H
   obtain ⟨⟨t216, t217, t218⟩, A100, H⟩ := H
   replace H : ((spec_l1Byte.f s0_0 t217 t218).bind fun bt219 => (if a1 = 0 then (none) else (some (Int.tmod (wrap64 ((wrap64 ((wrap64 ((wrap64 (t210 * 16777216)) + (wrap64 (t213 * 65536)))) + (wrap64 (t216 * 256)))) + bt219.1)) a1, bt219.2.1, bt219.2.2)))) = some (r1, r2, r3) := H; have A10 := aM A100; clear A100; replace H := Option.bind_eq_some_iff.mp H
   obtain ⟨⟨t219, t220, t221⟩, A110, H⟩ := H
   replace H : (if a1 = 0 then (none) else (some (Int.tmod (wrap64 ((wrap64 ((wrap64 ((wrap64 (t210 * 16777216)) + (wrap64 (t213 * 65536)))) + (wrap64 (t216 * 256)))) + t219)) a1, t220, t221))) = some (r1, r2, r3) := H; have A11 := aM A110; clear A110
   by_cases c12 : a1 = 0
   ·rw [if_pos c12] at H
    exact absurd H (by simp)
   ·rw [if_neg c12] at H
    have c12b0 : (a1 == 0) = false := beq_eq_false_iff_ne.mpr c12; have c12b1 : (a1 != 0) = true := bne_iff_ne.mpr c12
    simp only [Option.some.injEq, Prod.mk.injEq] at H
    obtain ⟨rfl, rfl, rfl⟩ := H
    go_enter Try.func78, Try.ntmps78
    go_wp2_with (first | ((with_reducible refine gate_callee (f := 144) rfl ?_); refine goesL_ (some 18) rfl rfl Try.func144 (by kernel_rfl) rfl #[.pointer (some ⟨g, 0, none⟩)] rfl (by (try simp only [List.map_toArray, List.map_cons, List.map_nil]); first | done | rfl | (simp only [List.length_drop, List.length_take]; rfl)) ?_; (with_reducible refine (spec_l1Byte.calls g s0_0 s0_1 s0_2 t210 t211 t212 w0 _ ?side1 ?side2 A8.out).mono ?_); (case side1 => repeat (first | (with_reducible first | exact HI0.out | apply IsS156.alloc | apply IsS156.drewN | apply IsS156.drew | apply IsS156.set_1 | apply IsS156.set_2) | exact HI0.out)); (case side2 => repeat (first | (with_reducible first | exact HB.out | apply below_alloc | apply pw_below_drewN | apply below_drew1 | refine below_set ?_ (IsS156.ge HI0.out)) | exact HB.out)); rintro e w13 ⟨rfl, hi, hb, hk⟩; refine ⟨_, rfl, ?_⟩; replace HK := aM (KeepBut.trans (by repeat (first | (with_reducible first | exact HK.out | apply KeepBut.set_ | apply keep_drewN | apply keep_drew | apply keep_alloc) | exact HK.out)) hk (.inl rfl)); replace HB := aM (hb); replace HI0 := aM (hi); (try clear hb); (try clear hb2); (try clear hk); (try clear hi)) | ((with_reducible refine gate_callee (f := 144) rfl ?_); refine goesL_ (some 20) rfl rfl Try.func144 (by kernel_rfl) rfl #[.pointer (some ⟨g, 0, none⟩)] rfl (by (try simp only [List.map_toArray, List.map_cons, List.map_nil]); first | done | rfl | (simp only [List.length_drop, List.length_take]; rfl)) ?_; (with_reducible refine (spec_l1Byte.calls g s0_0 t211 t212 t213 t214 t215 w0 _ ?side1 ?side2 A9.out).mono ?_); (case side1 => repeat (first | (with_reducible first | exact HI0.out | apply IsS156.alloc | apply IsS156.drewN | apply IsS156.drew | apply IsS156.set_1 | apply IsS156.set_2) | exact HI0.out)); (case side2 => repeat (first | (with_reducible first | exact HB.out | apply below_alloc | apply pw_below_drewN | apply below_drew1 | refine below_set ?_ (IsS156.ge HI0.out)) | exact HB.out)); rintro e w14 ⟨rfl, hi, hb, hk⟩; refine ⟨_, rfl, ?_⟩; replace HK := aM (KeepBut.trans (by repeat (first | (with_reducible first | exact HK.out | apply KeepBut.set_ | apply keep_drewN | apply keep_drew | apply keep_alloc) | exact HK.out)) hk (.inl rfl)); replace HB := aM (hb); replace HI0 := aM (hi); (try clear hb); (try clear hb2); (try clear hk); (try clear hi)) | ((with_reducible refine gate_callee (f := 144) rfl ?_); refine goesL_ (some 22) rfl rfl Try.func144 (by kernel_rfl) rfl #[.pointer (some ⟨g, 0, none⟩)] rfl (by (try simp only [List.map_toArray, List.map_cons, List.map_nil]); first | done | rfl | (simp only [List.length_drop, List.length_take]; rfl)) ?_; (with_reducible refine (spec_l1Byte.calls g s0_0 t214 t215 t216 t217 t218 w0 _ ?side1 ?side2 A10.out).mono ?_); (case side1 => repeat (first | (with_reducible first | exact HI0.out | apply IsS156.alloc | apply IsS156.drewN | apply IsS156.drew | apply IsS156.set_1 | apply IsS156.set_2) | exact HI0.out)); (case side2 => repeat (first | (with_reducible first | exact HB.out | apply below_alloc | apply pw_below_drewN | apply below_drew1 | refine below_set ?_ (IsS156.ge HI0.out)) | exact HB.out)); rintro e w15 ⟨rfl, hi, hb, hk⟩; refine ⟨_, rfl, ?_⟩; replace HK := aM (KeepBut.trans (by repeat (first | (with_reducible first | exact HK.out | apply KeepBut.set_ | apply keep_drewN | apply keep_drew | apply keep_alloc) | exact HK.out)) hk (.inl rfl)); replace HB := aM (hb); replace HI0 := aM (hi); (try clear hb); (try clear hb2); (try clear hk); (try clear hi)) | ((with_reducible refine gate_callee (f := 144) rfl ?_); refine goesL_ (some 24) rfl rfl Try.func144 (by kernel_rfl) rfl #[.pointer (some ⟨g, 0, none⟩)] rfl (by (try simp only [List.map_toArray, List.map_cons, List.map_nil]); first | done | rfl | (simp only [List.length_drop, List.length_take]; rfl)) ?_; (with_reducible refine (spec_l1Byte.calls g s0_0 t217 t218 t219 t220 t221 w0 _ ?side1 ?side2 A11.out).mono ?_); (case side1 => repeat (first | (with_reducible first | exact HI0.out | apply IsS156.alloc | apply IsS156.drewN | apply IsS156.drew | apply IsS156.set_1 | apply IsS156.set_2) | exact HI0.out)); (case side2 => repeat (first | (with_reducible first | exact HB.out | apply below_alloc | apply pw_below_drewN | apply below_drew1 | refine below_set ?_ (IsS156.ge HI0.out)) | exact HB.out)); rintro e w16 ⟨rfl, hi, hb, hk⟩; refine ⟨_, rfl, ?_⟩; replace HK := aM (KeepBut.trans (by repeat (first | (with_reducible first | exact HK.out | apply KeepBut.set_ | apply keep_drewN | apply keep_drew | apply keep_alloc) | exact HK.out)) hk (.inl rfl)); replace HB := aM (hb); replace HI0 := aM (hi); (try clear hb); (try clear hb2); (try clear hk); (try clear hi)))
    go_ret
    exact ⟨by first | rfl | (simp [errW_none, errW_some] <;> rfl) | (simp [*, errW_none, errW_some] <;> rfl), by repeat (first | (with_reducible first | exact HI0.out | apply IsS156.alloc | apply IsS156.drewN | apply IsS156.drew | apply IsS156.set_1 | apply IsS156.set_2) | exact HI0.out), by repeat (first | (with_reducible first | exact HB.out | apply below_alloc | apply pw_below_drewN | apply below_drew1 | refine below_set ?_ (IsS156.ge HI0.out)) | exact HB.out), by repeat (first | (with_reducible first | exact HK.out | apply KeepBut.set_ | apply keep_drewN | apply keep_drew | apply keep_alloc) | exact HK.out)⟩

/-! ### spec_l1Once: function 77 -/
def spec_l1Once.f (s0_0 : List Int) (s0_1 : Int) (s0_2 : Int) (a1 : Int) : Option (Bool × Int × Int) := (spec_l1Below.f s0_0 s0_1 s0_2 a1).bind fun bt222 => (some ((bt222.1 == 0), bt222.2.1, bt222.2.2))
set_option maxHeartbeats 8000000 in
set_option maxRecDepth 100000 in
theorem spec_l1Once.calls (g : Nat) (s0_0 : List Int) (s0_1 : Int) (s0_2 : Int) (a1 : Int) (r1 : Bool) (r2 : Int) (r3 : Int) (w0 w : World) (hI : IsS156 w0 w g s0_0 s0_1 s0_2) (hB : Below w0.heap.size w0 w) (h : spec_l1Once.f s0_0 s0_1 s0_2 a1 = some (r1, r2, r3)) :
 Calls Try.prog 77 #[.pointer (some ⟨g, 0, none⟩), .int .i64 a1] w fun e w' => e = .returned (.bool r1) ∧ IsS156 w0 w' g s0_0 r2 r3 ∧ Below w0.heap.size w0 w' ∧ KeepBut w w' g none := by
 have HI0 := aM hI
 have HK := aM (KeepBut.refl w g none)
 have HL := aM hB.size
 clear hI
 have HW0 := aM hB.size
 have HB := aM hB
 clear hB
 have H : ((spec_l1Below.f s0_0 s0_1 s0_2 a1).bind fun bt222 => (some ((bt222.1 == 0), bt222.2.1, bt222.2.2))) = some (r1, r2, r3) := h
 clear h
 replace H := Option.bind_eq_some_iff.mp H
 obtain ⟨⟨t222, t223, t224⟩, A30, H⟩ := H
 replace H : (some ((t222 == 0), t223, t224)) = some (r1, r2, r3) := H
 have A3 := aM A30
 clear A30
 simp only [Option.some.injEq, Prod.mk.injEq] at H
 obtain ⟨rfl, rfl, rfl⟩ := H
 go_enter Try.func77, Try.ntmps77
 go_wp2_with (first | ((with_reducible refine gate_callee (f := 78) rfl ?_); refine goesL_ (some 7) rfl rfl Try.func78 (by kernel_rfl) rfl #[.pointer (some ⟨g, 0, none⟩), .int .i64 a1] rfl (by (try simp only [List.map_toArray, List.map_cons, List.map_nil]); first | done | rfl | (simp only [List.length_drop, List.length_take]; rfl)) ?_; (with_reducible refine (spec_l1Below.calls g s0_0 s0_1 s0_2 a1 t222 t223 t224 w0 _ ?side1 ?side2 A3.out).mono ?_); (case side1 => repeat (first | (with_reducible first | exact HI0.out | apply IsS156.alloc | apply IsS156.drewN | apply IsS156.drew | apply IsS156.set_1 | apply IsS156.set_2) | exact HI0.out)); (case side2 => repeat (first | (with_reducible first | exact HB.out | apply below_alloc | apply pw_below_drewN | apply below_drew1 | refine below_set ?_ (IsS156.ge HI0.out)) | exact HB.out)); rintro e w4 ⟨rfl, hi, hb, hk⟩; refine ⟨_, rfl, ?_⟩; replace HK := aM (KeepBut.trans (by repeat (first | (with_reducible first | exact HK.out | apply KeepBut.set_ | apply keep_drewN | apply keep_drew | apply keep_alloc) | exact HK.out)) hk (.inl rfl)); replace HB := aM (hb); replace HI0 := aM (hi); (try clear hb); (try clear hb2); (try clear hk); (try clear hi)))
 go_ret
 exact ⟨by first | rfl | (simp [errW_none, errW_some] <;> rfl) | (simp [*, errW_none, errW_some] <;> rfl), by repeat (first | (with_reducible first | exact HI0.out | apply IsS156.alloc | apply IsS156.drewN | apply IsS156.drew | apply IsS156.set_1 | apply IsS156.set_2) | exact HI0.out), by repeat (first | (with_reducible first | exact HB.out | apply below_alloc | apply pw_below_drewN | apply below_drew1 | refine below_set ?_ (IsS156.ge HI0.out)) | exact HB.out), by repeat (first | (with_reducible first | exact HK.out | apply KeepBut.set_ | apply keep_drewN | apply keep_drew | apply keep_alloc) | exact HK.out)⟩

/-! ### spec_l1PickInt: function 91 -/
def spec_l1PickInt.f (s0_0 : List Int) (s0_1 : Int) (s0_2 : Int) (l1 : List Int) : Option (Int × Int × Int) := (spec_l1Below.f s0_0 s0_1 s0_2 (l1.length : Int)).bind fun bt225 => (if 0 ≤ bt225.1 then (if bt225.1 < (l1.length : Int) then (some (rd l1 bt225.1, bt225.2.1, bt225.2.2)) else (none)) else (none))
set_option maxHeartbeats 8000000 in
set_option maxRecDepth 100000 in
theorem spec_l1PickInt.calls (g : Nat) (s0_0 : List Int) (s0_1 : Int) (s0_2 : Int) (A1 : Option Addr) (c1 : Nat) (l1 : List Int) (r1 : Int) (r2 : Int) (r3 : Int) (w0 w : World) (hI : IsS156 w0 w g s0_0 s0_1 s0_2) (hB : Below w0.heap.size w0 w) (hr1 : Kd.C (Kd.int .i64) w A1 l1.length l1) (hc1 : l1.length ≤ c1) (hf1 : ∀ ad, A1 = some ad → 0 < l1.length → ad.block ≠ g) (h : spec_l1PickInt.f s0_0 s0_1 s0_2 l1 = some (r1, r2, r3)) :
 Calls Try.prog 91 #[.pointer (some ⟨g, 0, none⟩), .slice A1 l1.length c1] w fun e w' => e = .returned (.int .i64 r1) ∧ IsS156 w0 w' g s0_0 r2 r3 ∧ Below w0.heap.size w0 w' ∧ KeepBut w w' g none := by
 have HR1 := aM hr1
 have HC1 := aM hc1
 clear hr1 hc1
 have HI0 := aM hI
 have HK := aM (KeepBut.refl w g none)
 have HL := aM hB.size
 clear hI
 have HW0 := aM hB.size
 have HB := aM hB
 clear hB
 have H : ((spec_l1Below.f s0_0 s0_1 s0_2 (l1.length : Int)).bind fun bt225 => (if 0 ≤ bt225.1 then (if bt225.1 < (l1.length : Int) then (some (rd l1 bt225.1, bt225.2.1, bt225.2.2)) else (none)) else (none))) = some (r1, r2, r3) := h
 clear h
 replace H := Option.bind_eq_some_iff.mp H
 obtain ⟨⟨t225, t226, t227⟩, A30, H⟩ := H
 replace H : (if 0 ≤ t225 then (if t225 < (l1.length : Int) then (some (rd l1 t225, t226, t227)) else (none)) else (none)) = some (r1, r2, r3) := H
 have A3 := aM A30
 clear A30
 by_cases c4 : 0 ≤ t225
 ·rw [if_pos c4] at H
  have c4b0 : decide (0 ≤ t225) = true := decide_eq_true c4; clear c4
  by_cases c5 : t225 < (l1.length : Int)
  ·rw [if_pos c5] at H
   have c5b0 : decide (t225 < (l1.length : Int)) = true := decide_eq_true c5; clear c5
   simp only [Option.some.injEq, Prod.mk.injEq] at H
   obtain ⟨rfl, rfl, rfl⟩ := H
   go_enter Try.func91, Try.ntmps91
   go_wp2_with (first | ((with_reducible refine gate_callee (f := 78) rfl ?_); refine goesL_ (some 9) rfl rfl Try.func78 (by kernel_rfl) rfl #[.pointer (some ⟨g, 0, none⟩), .int .i64 (l1.length : Int)] rfl (by (try simp only [List.map_toArray, List.map_cons, List.map_nil]); first | done | rfl | (simp only [List.length_drop, List.length_take]; rfl)) ?_; (with_reducible refine (spec_l1Below.calls g s0_0 s0_1 s0_2 (l1.length : Int) t225 t226 t227 w0 _ ?side1 ?side2 A3.out).mono ?_); (case side1 => repeat (first | (with_reducible first | exact HI0.out | apply IsS156.alloc | apply IsS156.drewN | apply IsS156.drew | apply IsS156.set_1 | apply IsS156.set_2) | exact HI0.out)); (case side2 => repeat (first | (with_reducible first | exact HB.out | apply below_alloc | apply pw_below_drewN | apply below_drew1 | refine below_set ?_ (IsS156.ge HI0.out)) | exact HB.out)); rintro e w6 ⟨rfl, hi, hb, hk⟩; refine ⟨_, rfl, ?_⟩; replace HK := aM (KeepBut.trans (by repeat (first | (with_reducible first | exact HK.out | apply KeepBut.set_ | apply keep_drewN | apply keep_drew | apply keep_alloc) | exact HK.out)) hk (.inl rfl)); replace HB := aM (hb); replace HI0 := aM (hi); (try clear hb); (try clear hb2); (try clear hk); (try clear hi); have p228 : 0 ≤ (t225 : Int) := oda; have q228 : t225 < (l1.length : Int) := oda; obtain ⟨ad228, e228, hx228_0⟩ := Kd.at_int HR1.out t225 p228 q228; cases e228; replace hx228_0 := keep_cell HK.out hx228_0 (by first | (rw [add_block]; exact hf1 _ rfl (by omega)) | exact hf1 _ rfl (by omega) | exact hf1 ad228 rfl (by omega)); replace p228 := eq_true p228; replace q228 := eq_true q228))
   go_ret
   exact ⟨by first | rfl | (simp [errW_none, errW_some] <;> rfl) | (simp [*, errW_none, errW_some] <;> rfl), by repeat (first | (with_reducible first | exact HI0.out | apply IsS156.alloc | apply IsS156.drewN | apply IsS156.drew | apply IsS156.set_1 | apply IsS156.set_2) | exact HI0.out), by repeat (first | (with_reducible first | exact HB.out | apply below_alloc | apply pw_below_drewN | apply below_drew1 | refine below_set ?_ (IsS156.ge HI0.out)) | exact HB.out), by repeat (first | (with_reducible first | exact HK.out | apply KeepBut.set_ | apply keep_drewN | apply keep_drew | apply keep_alloc) | exact HK.out)⟩
  ·rw [if_neg c5] at H
   exact absurd H (by simp)
 ·rw [if_neg c4] at H
  exact absurd H (by simp)

end Go.Proofs.Ytnjpfllmcmomoaa.QFnFiles
