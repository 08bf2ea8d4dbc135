-- A walk, by a program of this session.
import Derived.Test.YtnjpfllmcmomoaaQFnFilesx0
import Derived.Test.YtnjpfllmcmomoaaQFnFilesx3
namespace Go.Proofs.Ytnjpfllmcmomoaa.QFnFiles
open Go.RowKit Go.Proofs.YtnjpfllmcmomoaaW.PrintWords Go.Proofs.YtnjpfllmcmomoaaW.PrintLast Go.Proofs.YtnjpfllmcmomoaaW.PrintMore
attribute [local go_sem] max2_int min2_int max_two min_two max_three min_three max_four min_four   -- for this text's walks alone
set_option linter.unusedVariables false
set_option linter.unusedSimpArgs false

/-! ### impl_copyDisk: function 115 -/
def impl_copyDisk.f (a0_0 : Int) (l0_1 : List (S134)) : Option (Int × (List (S134))) := (some (([] : List (S134)) : List (S134))).bind fun y176 => (if y176.length + l0_1.length < 3518437208883 then (some (a0_0, (y176 ++ l0_1))) else (none))
def impl_copyDisk.T1 : Bool × List (List Nat × List Nat) := (true, [([], []), ([0], [0]), ([], []), ([], []), ([3], [3]), ([2, 4], [2, 4]), ([1, 5], [1, 5]), ([6, 5, 0, 1, 2, 3, 4, 5, 6], [6])])
def impl_copyDisk.B1 : List Nat := [0, 1, 0, 0, 8, 28, 63, 127]
theorem impl_copyDisk.tab1 : rtab .any (opsOf Try.f115 1) = impl_copyDisk.T1 := by kernel_rfl
theorem impl_copyDisk.bits1 : waitsOk impl_copyDisk.T1.2 impl_copyDisk.B1 = true := by kernel_rfl
set_option maxHeartbeats 8000000 in
set_option maxRecDepth 100000 in
theorem impl_copyDisk.calls (a0_0 : Int) (A0_1 : Option Addr) (c0_1 : Nat) (l0_1 : List (S134)) (r1 : Int) (r2 : List (S134)) (w : World) (hr0_1 : Kd.C k134 w A0_1 l0_1.length l0_1) (hc0_1 : l0_1.length ≤ c0_1) (h : impl_copyDisk.f a0_0 l0_1 = some (r1, r2)) :
 Calls Try.prog 115 #[.agg #[.int .i64 a0_0, .slice A0_1 l0_1.length c0_1]] w fun e w' => ∃ v1_ : Value, e = .returned (.agg #[.int .i64 r1, v1_]) ∧ Kd.R k134 134 w' w.heap.size (fun _ => True) v1_ r2 ∧ Below w.heap.size w w' := by
 have hu70 := Try.underlying70
 have HR0_1 := aM hr0_1
 have HC0_1 := aM hc0_1
 clear hr0_1 hc0_1
 have HB := aM (Below.refl w.heap.size w)
 have H : ((some (([] : List (S134)) : List (S134))).bind fun y176 => (if y176.length + l0_1.length < 3518437208883 then (some (a0_0, (y176 ++ l0_1))) else (none))) = some (r1, r2) := h
 clear h
 obtain ⟨y176, hy176⟩ : ∃ y_ : List (S134), y_ = (([] : List (S134))) := ⟨_, rfl⟩
 replace H : (if y176.length + l0_1.length < 3518437208883 then (some (a0_0, (y176 ++ l0_1))) else (none)) = some (r1, r2) := by first | (rw [hy176]; with_reducible exact H) | (have H2_ := (Option.bind_some _ _).symm.trans H; rw [hy176]; with_reducible exact H2_) | (have H2_ := (Option.bind_some _ _).symm.trans H; with_reducible exact H2_) | with_reducible exact H | (rw [hy176]; exact H) | exact H
 have Ny176 := aM hy176
 clear hy176
 by_cases c2 : y176.length + l0_1.length < 3518437208883
 ·rw [if_pos c2] at H
  have LMc2 := aM c2; clear c2
  obtain ⟨y179, hy179⟩ : ∃ y_ : List (S134), y_ = (y176 ++ l0_1) := ⟨_, rfl⟩
  replace H : (some (a0_0, y179)) = some (r1, r2) := by first | (rw [hy179]; with_reducible exact H) | (have H2_ := (Option.bind_some _ _).symm.trans H; rw [hy179]; with_reducible exact H2_) | (have H2_ := (Option.bind_some _ _).symm.trans H; with_reducible exact H2_) | with_reducible exact H | (rw [hy179]; exact H) | exact H
  have Ny179 := aM hy179; clear hy179
  simp only [Option.some.injEq, Prod.mk.injEq] at H
  obtain ⟨rfl, rfl⟩ := H
  go_enter Try.func115, Try.ntmps115
  try go_wp2_with (first | ((with_reducible refine gate_dst (N := 1) rfl ?_); refine box_event ?hg (N := 1) ?hd (cs := #[.int .i64 a0_0, .slice A0_1 l0_1.length c0_1]) (t := 70) ?hr ?_; (case hd => rfl); (case hg => rfl); (case hr => first | (go_simp; done) | (go_simp; rfl)); intro gb174 hg w3 hbox hb; have BK174 := aM (hbox); have GW174 := aM (xge hg); have GE174 := aM (xge hg); replace HB := xbs hb; clear hb hbox hg) | ((with_reducible refine gate_dst (N := 2) rfl ?_); refine box_event ?hg (N := 2) ?hd (cs := #[.int .i64 0, .slice none 0 0]) (t := 70) ?hr ?_; (case hd => rfl); (case hg => rfl); (case hr => first | (go_simp; done) | (go_simp; rfl)); intro gb175 hg w4 hbox hb; have GW175 := aM (xge hg); have GE175 := aM (xge hg); replace HB := xbs hb; have NB174_175 := aM ((by rw [hg]; exact Nat.ne_of_lt (blk_lt (g := gb174) (o := .cells #[.int .i64 a0_0, .slice A0_1 l0_1.length c0_1] 70 (0, 0)) xblk) : gb174 ≠ gb175)); have NB175_174 := aM ((by rw [hg]; exact Nat.ne_of_gt (blk_lt (g := gb174) (o := .cells #[.int .i64 a0_0, .slice A0_1 l0_1.length c0_1] 70 (0, 0)) xblk) : gb175 ≠ gb174)); replace BK174 := xbb BK174 hb; have BK175 := aM (hbox); clear hb hbox hg))
  replace BK174 := aM (blk_drew BK174.out); replace BK175 := aM (blk_drew BK175.out); replace HB := aM (below_drew1 HB.out)
  refine start_ (n := 8) (S := fun w' => w'.cell? ⟨gb174, 0, none⟩ = some (.int .i64 a0_0) ∧ w'.cell? ⟨gb174, 1, none⟩ = some (.slice A0_1 l0_1.length c0_1)) (ds := []) #[false, false, false, false, false, false, false, false] (by kernel_rfl) rfl rfl ⟨xc BK174 0 rfl, xc BK174 1 rfl⟩ (fun hHeld => ?_); refine with_tabW impl_copyDisk.tab1 impl_copyDisk.bits1 (fun HT_ HW_ => ?_)
  generalize w4.drew = w5 at BK174 BK175 HB hHeld ⊢
  refine pv_ 0 3 (h := ?_)
  refine pv_ 3 6 (h := ?_)
  refine tk_ 1 4 (h := ?_)
  refine tk_ 4 7 (h := ?_)
  refine on_ 2 5 (h := fun K hK => ?_)
  refine Kd.R_lit_step k134 _ 134 ?hg (N := 5) ?hd (xs := ([] : List (S134))) (inner := []) (ok := fun _ => True) (okp := fun _ => True) ?hr ?hp (fun _ hk => hk) trivial (Below.refl _ _) (Nat.le_refl _) (by simp) ?_; (case hd => rfl); (case hg => rfl); (case hr => first | (go_simp; done) | (go_simp; rfl)); (case hp => exact (Reps.none _ _))
  intro v177 w6 ho7 hb hg_ hnew_
  clear hg_ hnew_
  (first | rw [← Ny176.out] at ho7 | (simp only [Int.reduceToNat] at ho7; rw [← Ny176.out] at ho7))
  have HO178 := aM (Kd.R_lower ho7 (below_size xbg)); replace BK174 := xbb BK174 hb; replace BK175 := xbb BK175 hb; replace HB := xbs hb; clear hb ho7
  refine hK.out _ _ ⟨xc BK174 0 rfl, xc BK174 1 rfl⟩ (fun hHeld => ?_)
  clear hK K
  refine norm_ (a' := ?_) ?_ ?_
  rotate_left
  ·show Act.put _ (some 5) _ = _
   simp only [Act.put, List.setIfInBounds_toArray, List.set_cons_zero, List.set_cons_succ, i64_w, i32_w]
   rfl
  refine on_ 5 8 (h := fun K hK => ?_)
  refine Kd.R_append_rows_step k134 (w0 := w) w.heap.size (by rfl) (.tmp 5) (.tmp 7) 68 134 (.agg #[(.int .i64 0), (.string ⟨#[]⟩), (.string ⟨#[]⟩)]) 40 rfl Try.underlying68 info134 rfl (by decide) (by omega) v177 y176 l0_1 _ _ _ (fun _ => True) (fun _ => False) rfl rfl ?aO ?aR (fun _ _ h => h) (fun _ h => h.elim) ?aF ?aB ?aS ?aL ?_
  (case aR => exact xcb HR0_1)
  (case aB => exact xbg)
  (case aF => exact (fun _ _ => trivial))
  (case aO => exact (xr HO178))
  (case aS => exact (below_size xbg))
  (case aL => have := LMc2.out; omega)
  intro v180 w8 ho hb hg hat
  rw [← Ny179.out] at ho
  have n0_ := aM (blk_grown (g := gb174) (o := .cells #[.int .i64 a0_0, .slice A0_1 l0_1.length c0_1] 70 (0, 0)) xblk hg (Kd.R_ne HO178.out BK174.out (by decide))); have n1_ := aM (blk_grown (g := gb175) (o := .cells #[.int .i64 0, .slice none 0 0] 70 (0, 0)) xblk hg (Kd.R_ne HO178.out BK175.out (by decide))); have n2_ := aM (hb); have n3_ := aM (ho); clear BK174 BK175 HB HO178; have BK174 := n0_; have BK175 := n1_; have HB := n2_; have HO181 := n3_; clear n0_ n1_ n2_ n3_ ho hb hg hat
  obtain ⟨Ao9, co9, eo9⟩ := Kd.R_slice HO181.out
  (first | subst eo9 | (injection eo9 with f1_ f2_ f3_; have f4_ := f1_.symm; have f5_ := f3_.symm; clear f1_ f2_ f3_; subst f4_; subst f5_))
  refine hK.out _ _ ⟨xc BK174 0 rfl, xc BK174 1 rfl⟩ (fun hHeld => ?_)
  clear hK K
  refine norm_ (a' := ?_) ?_ ?_
  rotate_left
  ·show Act.put _ (some 8) _ = _
   simp only [Act.put, List.setIfInBounds_toArray, List.set_cons_zero, List.set_cons_succ, i64_w, i32_w]
   rfl
  refine pv_ 6 9 (h := ?_)
  refine one_ (i := 7) (N := none) #[true, true, true, true, true, true, true, true] rfl rfl (one_of HT_.out (by kernel_rfl)) (by decide) (fun K hK => ?_)
  have hs10 : w8.cell? ⟨gb175, 0, none⟩ = some (.int .i64 0) := xc BK175 0 rfl; have hfs10 := blk_frozen BK175.out 0; have hns10_0 := NB174_175.out; have hms10_0 := NB175_174.out; have hs11 : w8.cell? ⟨gb175, 1, none⟩ = some (.slice none 0 0) := xc BK175 1 rfl; have hfs11 := blk_frozen BK175.out 1; have hns11_0 := NB174_175.out; have hms11_0 := NB175_174.out
  refine skip_ (w1 := ?_) (by rfl) rfl ?_ ?_
  rotate_left
  ·go_simp
   rfl
  refine hK.out _ _ ⟨((cell_far (p := ⟨gb175, _, none⟩) NB174_175.out _).trans (((cell_far (p := ⟨gb175, _, none⟩) NB174_175.out _).trans (hHeld.1)))), ((cell_far (p := ⟨gb175, _, none⟩) NB174_175.out _).trans (((cell_far (p := ⟨gb175, _, none⟩) NB174_175.out _).trans (hHeld.2))))⟩ (fun hHeld => ?_)
  clear hK K
  refine done_ (done_of HT_.out (by kernel_rfl)) ?_
  try go_wp2
  refine bodyPost_ret (results_cell_row rfl _ _ gb175 70 #[.int .i64 a0_0, .slice Ao9 y179.length co9] (0, 0) _ rfl (by (with_reducible repeat (first | refine blk_drewN ?_ _ | refine blk_drew ?_ | refine blk_alloc ?_ _)); refine blk_put (cs := #[.int .i64 a0_0, .slice none 0 0]) ?_ 1 _ rfl; (with_reducible repeat (first | refine blk_drewN ?_ _ | refine blk_drew ?_ | refine blk_alloc ?_ _)); refine blk_put (cs := #[.int .i64 0, .slice none 0 0]) ?_ 0 _ rfl; (with_reducible repeat (first | refine blk_drewN ?_ _ | refine blk_drew ?_ | refine blk_alloc ?_ _)); exact BK175.out) Try.underlying70 rfl (by kernel_rfl)) rfl ?_
  exact ⟨_, by first | rfl | (simp [errW_none, errW_some] <;> rfl) | (simp [*, errW_none, errW_some] <;> rfl), by (with_reducible repeat (first | apply Kd.R_alloc | apply Kd.R_drewN | apply Kd.R_drew)); exact Kd.R_mono (Kd.R_far (p := ⟨gb175, 1, none⟩) (Kd.R_far (p := ⟨gb175, 0, none⟩) (Kd.R_types HO181.out BK175.out (by decide)) (fun _ hk => hk.2) (.int .i64 a0_0)) (fun _ hk => hk.2) (.slice Ao9 y179.length co9)) (fun _ hk => trivial), xbg⟩
 ·rw [if_neg c2] at H
  exact absurd H (by simp)

-- NOT PRINTED: function 154 (impl_File_154)

/-! ### impl_fileAt: function 116 -/
def idxName : List S134 → Int → Int → Int
  | [], _, _ => -1
  | x :: t, nm, i => if x.f0 = nm then i else idxName t nm (i + 1)
def impl_fileAt.f (a0_0 : Int) (l0_1 : List S134) (a1 : Int) : Option (Int) := some (idxName l0_1 a1 0)
theorem idxName_drop (l : List S134) (nm i : Int) (h0 : 0 ≤ i) (h1 : i < l.length) : idxName (l.drop i.toNat) nm i = if (rd_T134 l i).f0 = nm then i else idxName (l.drop (i + 1).toNat) nm (i + 1) := by
  have hlt : i.toNat < l.length := by omega
  have e : (i + 1).toNat = i.toNat + 1 := by omega
  rw [List.drop_eq_getElem_cons hlt, e, idxName]
  unfold rd_T134
  rw [List.getD_eq_getElem?_getD, List.getElem?_eq_getElem hlt]
  rfl
theorem fileAt_pred (x : S134) (nm : Int) (B : Nat) (w W : World) (hB : B < w.heap.size) (hb : Below w.heap.size w W) (hcell : w.cell? ⟨B, 0, none⟩ = some (.int .i64 nm)) :
    Calls Try.prog 155 #[.agg #[.int .i64 x.f0, .string x.f1, .string x.f2], .pointer (some ⟨B, 0, none⟩)] W fun e w' => e = .returned (.bool (x.f0 == nm)) ∧ Below w.heap.size w w' := by
  have hc : W.cell? ⟨B, 0, none⟩ = some (.int .i64 nm) := (hb.cell (p := ⟨B, 0, none⟩) hB).trans hcell
  have hBW : B < W.heap.size := Nat.lt_of_lt_of_le hB hb.size
  have hne : B ≠ W.heap.size := by omega
  go_enter Try.func155, Try.ntmps155
  go_wp2
  go_ret
  exact ⟨rfl, hb.alloc hb.size _⟩
set_option maxHeartbeats 2000000 in
theorem fileAt_idx (A : Option Addr) (c : Nat) (l : List S134) (nm : Int) (B : Nat) (w : World) (hC : Kd.C k134 w A l.length l) (hB : B < w.heap.size) (hcell : w.cell? ⟨B, 0, none⟩ = some (.int .i64 nm)) :
    Calls Try.prog 154 #[.slice A l.length c, .func (.func 155) #[] #[.pointer (some ⟨B, 0, none⟩)]] w fun e w' => e = .returned (.int .i64 (idxName l nm 0)) ∧ Below w.heap.size w w' := by
  have eg : ∀ args w, (callFunc 155 args).run Try.prog w = .ok (.enter 155 args) w := Go.Proofs.enters_of Try.func155 (by kernel_rfl) rfl
  have hu := Try.underlying134
  have hpred := fun x W hb => fileAt_pred x nm B w W hB hb hcell
  have hmax := hC.2.1
  have HC := Aside0.mk hC
  clear hC hcell
  go_enter Try.func154, Try.ntmps154
  go_wp2
  go_loopg [5, 8] l.length (fun gg _ s8 wr => ∃ i : Int, 0 ≤ i ∧ i ≤ l.length ∧ l.length - i.toNat ≤ gg ∧ s8 = .int .i64 i ∧ Aside0 (Below w.heap.size w wr) ∧ Aside0 (idxName l nm 0 = idxName (l.drop i.toNat) nm i))
  case atStart => exact ⟨0, by omega, by omega, by omega, rfl, ⟨Below.refl _ w⟩, ⟨rfl⟩⟩
  case round =>
    obtain ⟨i, h0, h1, hg, rfl, BW, AI⟩ := hrel
    by_cases hlt : i < (l.length : Int)
    · have hs := idxName_drop l nm i h0 hlt
      obtain ⟨ad, rfl, hx0, hx1, hx2⟩ := at_T134 HC.out i h0 hlt
      replace hx0 := (BW.out.cell (World.block_lt_of_cell? w _ hx0)).trans hx0
      replace hx1 := (BW.out.cell (World.block_lt_of_cell? w _ hx1)).trans hx1
      replace hx2 := (BW.out.cell (World.block_lt_of_cell? w _ hx2)).trans hx2
      have hcall := hpred (rd_T134 l i) wr BW.out
      clear hpred
      by_cases hq : (rd_T134 l i).f0 = nm
      · have hb1 : ((rd_T134 l i).f0 == nm) = true := by simpa using hq
        rw [hb1] at hcall
        rw [if_pos hq] at hs
        have HS := Aside0.mk hs
        clear hs hq hb1
        go_wp2_with (go_at_fn 155; refine hcall.mono ?_; rintro e w' ⟨rfl, hb'⟩)
        go_ret
        exact ⟨by rw [AI.out, HS.out]; rfl, hb'⟩
      · have hb1 : ((rd_T134 l i).f0 == nm) = false := by simpa using hq
        rw [hb1] at hcall
        rw [if_neg hq] at hs
        have HS := Aside0.mk hs
        clear hs hq hb1
        go_wp2_with (go_at_fn 155; refine hcall.mono ?_; rintro e w' ⟨rfl, hb'⟩)
        go_roundg (l.length - (i + 1).toNat)
        case measure => omega
        case rel => exact ⟨i + 1, by omega, by omega, by omega, rfl, ⟨hb'⟩, ⟨AI.out.trans HS.out⟩⟩
    · have : i = l.length := by omega
      have hs : idxName (l.drop i.toNat) nm i = -1 := by rw [List.drop_eq_nil_of_le (by omega)]; rfl
      have HS := Aside0.mk hs
      clear hs this
      go_wp2
      go_ret
      exact ⟨by rw [AI.out, HS.out]; rfl, BW.out⟩
set_option maxHeartbeats 2000000 in
theorem impl_fileAt.calls (a0_0 : Int) (A0_1 : Option Addr) (c0_1 : Nat) (l0_1 : List S134) (a1 : Int) (r : Int) (w : World) (hr0_1 : Kd.C k134 w A0_1 l0_1.length l0_1) (hc0_1 : l0_1.length ≤ c0_1) (h : impl_fileAt.f a0_0 l0_1 a1 = some r) :
    Calls Try.prog 116 #[.agg #[.int .i64 a0_0, .slice A0_1 l0_1.length c0_1], .int .i64 a1] w fun e w' => e = .returned (.int .i64 r) ∧ Below w.heap.size w w' := by
  obtain rfl := Option.some.inj h
  clear h
  have hu := Try.underlying70
  have hcon := fun (W : World) (hb : Below w.heap.size w W) (hB : w.heap.size + 1 < W.heap.size) (hc : W.cell? ⟨w.heap.size + 1, 0, none⟩ = some (.int .i64 a1)) => (fileAt_idx A0_1 c0_1 l0_1 a1 (w.heap.size + 1) W (Kd.C_below hr0_1 hb) hB hc)
  clear hr0_1
  go_enter Try.func116, Try.ntmps116
  go_wp2_with (go_at_call 154; refine (hcon _ ?_ ?_ ?_).mono ?_; (exact ((Below.refl _ w).alloc (Nat.le_refl _) _).alloc (by simp) _); simp; simp; rintro e w' ⟨rfl, hb'⟩)
  go_ret
  exact ⟨rfl, (((Below.refl _ w).alloc (Nat.le_refl _) _).alloc (by simp) _).trans (hb'.mono (by simp; omega))⟩


/-! ### impl_placed: function 117 -/
set_option maxHeartbeats 4000000 in
set_option maxRecDepth 100000 in
theorem insert_shift (g n c i vb : Nat) (cur vs : Array Value) (w : World) (hi : i < n) (hroom : n + 1 ≤ c) (hc : c ≤ 9223372036854775807) (hvb : vb ≠ g)
    (hg : w.heap[g]? = some (.cells cur 134 (0, 0))) (hcs : cur.size = c * 3) (hv : w.heap[vb]? = some (.cells vs 134 (0, 0))) (hvl : vs.size = 3)
    (h1c : ∀ u ∈ cur.toList.take (n * 3), u.oneCell' = true) (h1v : ∀ u ∈ vs.toList, u.oneCell' = true) :
    Calls Try.prog 156 #[.slice (some ⟨g, 0, none⟩) n c, .int .i64 i, .slice (some ⟨vb, 0, none⟩) 1 1] w fun e w' => e = .returned (.slice (some ⟨g, 0, none⟩) (n + 1) c) ∧ w' = (w.drew.setCells g ((i + 1) * 3) ((cur.toList.take (n * 3)).drop (i * 3))).setCells g (i * 3) vs.toList := by
  have u1 := Try.underlying68
  have hsz : (Try.prog.info? 134).map (·.size) = some 3 := by kernel_rfl
  have hz9 : ∀ w, (Go.sizeOf 134).run Try.prog w = .ok 3 w := by
    intro w
    obtain ⟨i0, hi0, h0, h1, h2⟩ := info_parts info134
    simp [sizeOf, typeInfo, hi0, h1]
  have hz2 : ¬ ((i : Int) = (n : Int)) := by omega
  have hsa : w.shape? vb = some (134, vs.size) := by simp [World.shape?, hv]
  have hsb : w.shape? g = some (134, cur.size) := by simp [World.shape?, hg]
  have hov : ∀ o lb cb, (callFunc 169 #[.slice (some ⟨vb, 0, none⟩) 1 1, .slice (some ⟨g, o, none⟩) lb cb]).run Try.prog w = .ok (.value (.bool false)) w := fun o lb cb => by
    rw [run_callFunc_extern Try.func169 (by kernel_rfl) (by kernel_rfl) (by kernel_rfl) (e := Extern.SlicesOverlaps.overlaps #[68, 68] #[4]) (by kernel_rfl),
      Lib.run_overlaps_apart w 68 4 134 Try.underlying68 3 hz9 ⟨vb, 0, none⟩ ⟨g, o, none⟩ 1 1 lb cb hvb 134 134 vs.size cur.size hsa hsb (by omega) (blk_frozen hv _) (blk_frozen hv _)]
    rfl
  have hE : ∀ k, k < c * 3 → (w.cell? ⟨g, k, none⟩).isSome = true := fun k hk => by rw [blk_cell hg, Array.getElem?_eq_getElem (by omega)]; rfl
  have hdl : ((cur.toList.take (n * 3)).drop (i * 3)).length = (n - i) * 3 := by rw [List.length_drop, List.length_take, Array.length_toList]; omega
  obtain ⟨D, hD⟩ : ∃ D, D = (cur.toList.take (n * 3)).drop (i * 3) := ⟨_, rfl⟩
  rw [← hD] at hdl ⊢
  have h1D : ∀ u ∈ D, u.oneCell' = true := fun u hu => h1c u (by rw [hD] at hu; exact List.mem_of_mem_drop hu)
  have hDc : ∀ (j : Nat) (v : Value), D[j]? = some v → w.cell? ⟨g, i * 3 + j, none⟩ = some v := fun j v hj => by
    rw [hD, List.getElem?_drop, List.getElem?_take] at hj
    rw [blk_cell hg]
    split at hj
    · simpa using hj
    · cases hj
  have hcp1 : ∀ ty dc sc, (Builtin.copy_ #[68, 68] ty #[.slice (some ⟨g, (i + 1) * 3, none⟩) (n - i) dc, .slice (some ⟨g, i * 3, none⟩) (n + 1 - i) sc]).run Try.prog w.drew = .ok (goInt ((n - i : Nat) : Int)) (w.drew.setCells g ((i + 1) * 3) D) := fun ty dc sc =>
    x_copy w.drew _ _ ty 134 3 g ((i + 1) * 3) (n - i) dc ⟨g, i * 3, none⟩ (n + 1 - i) sc D u1 hsz (n - i) (by simp only [Nat.min_def]; split <;> omega) hdl
      (fun j v hj => by rw [add_at]; exact hDc j v hj) (fun j hj => hE _ (by omega)) (fun j hj => blk_frozen hg _) h1D
  obtain ⟨W1, hW1⟩ : ∃ W1, W1 = w.drew.setCells g ((i + 1) * 3) D := ⟨_, rfl⟩
  obtain ⟨c1, hc1, hc1s, hc1l⟩ := setCells_row D ((i + 1) * 3) w.drew cur hg (by omega)
  rw [← hW1] at hc1 hcp1 ⊢
  have hvW : W1.heap[vb]? = some (.cells vs 134 (0, 0)) := by rw [hW1, setCells_far D _ vb hvb]; exact hv
  have hcp2 : ∀ ty dc, (Builtin.copy_ #[68, 68] ty #[.slice (some ⟨g, i * 3, none⟩) (n + 1 - i) dc, .slice (some ⟨vb, 0, none⟩) 1 1]).run Try.prog W1 = .ok (goInt ((1 : Nat) : Int)) (W1.setCells g (i * 3) vs.toList) := fun ty dc =>
    x_copy W1 _ _ ty 134 3 g (i * 3) (n + 1 - i) dc ⟨vb, 0, none⟩ 1 1 vs.toList u1 hsz 1 (by simp only [Nat.min_def]; split <;> omega) (by simp [hvl])
      (fun j v hj => by rw [add_at, Nat.zero_add, blk_cell hvW]; simpa using hj) (fun j hj => by rw [blk_cell hc1, Array.getElem?_eq_getElem (by rw [Array.length_toList] at hj; omega)]; rfl) (fun j hj => blk_frozen hc1 _) h1v
  have hw1 : IntKind.i64.wrap ((i : Int) + 1) = (i : Int) + 1 := by rw [IntKind.wrap_i64]; omega
  have hb1 : (0 : Int) ≤ (i : Int) + 1 := by omega
  have hin : i ≤ n := by omega
  have htn : ((i : Int) + 1).toNat = i + 1 := by omega
  have hb2 : ¬ (c = i + 1) := by omega
  have hb3 : (i : Int) ≤ (n : Int) + 1 := by omega
  have hb4 : ¬ (c = i) := by omega
  obtain ⟨i0, hi0, h0_, h1_, h2_⟩ := info_parts info134
  have HW := Aside0.mk hW1
  clear hc1 hc1s hc1l hvW hE hDc hg hv hsa hsb hcs hvl h1c h1v h1D hD hdl hW1
  go_enter Try.func156, Try.ntmps156
  go_wp2_with (simp only [hov])

  go_region_law (refine x_step_copy rfl _ _ 68 68 rfl _ _ (by simp [Act.eval, Act.put]) (by simp [Act.eval, Act.put]) (hcp1 _ _ _) ?_)
  go_wp2_with (at_builtin; refine x_wpList_copy _ rfl _ _ 68 68 rfl _ _ rfl rfl (hcp2 _ _) ?_)
  go_ret
  first | exact ⟨rfl, rfl⟩ | exact ⟨rfl, by rw [HW.out]⟩
def InsPost (g n : Nat) (cells : List Value) (w : World) (e : Ending) (w' : World) : Prop :=
  ∃ (G : Nat) (c2 : Array Value), e = .returned (.slice (some ⟨g, 0, none⟩) n G) ∧ n ≤ G ∧ G ≤ maxLen ∧ w'.heap[g]? = some (.cells c2 134 (0, 0)) ∧ c2.size = G * 3 ∧ c2.toList.take (n * 3) = cells ∧ w.grownBy w' (some g)
set_option maxHeartbeats 4000000 in
set_option maxRecDepth 100000 in
theorem insert_grow (g n i vb : Nat) (cur vs : Array Value) (w : World) (hi : i < n) (hn : n ≤ 1000)
    (hg : w.heap[g]? = some (.cells cur 134 (0, 0))) (hcs : cur.size = n * 3) (hv : w.heap[vb]? = some (.cells vs 134 (0, 0))) (hvl : vs.size = 3)
    (h1c : ∀ u ∈ cur.toList.take (n * 3), u.oneCell' = true) (h1v : ∀ u ∈ vs.toList, u.oneCell' = true) :
    Calls Try.prog 156 #[.slice (some ⟨g, 0, none⟩) n n, .int .i64 i, .slice (some ⟨vb, 0, none⟩) 1 1] w (InsPost w.heap.size (n + 1) (cur.toList.take (i * 3) ++ vs.toList ++ (cur.toList.take (n * 3)).drop (i * 3)) w) := by
  have u1 := Try.underlying68
  have u3 := Try.underlying3
  have hsz : (Try.prog.info? 134).map (·.size) = some 3 := by kernel_rfl
  obtain ⟨i0, hi0, hz0, hzs, hzb⟩ := info_parts info134
  have hz2 : ¬ ((i : Int) = (n : Int)) := by omega
  have hbw : g < w.heap.size := blk_lt hg
  have hvw : vb < w.heap.size := blk_lt hv
  have hdl : ((cur.toList.take (n * 3)).drop (i * 3)).length = (n - i) * 3 := by rw [List.length_drop, List.length_take, Array.length_toList]; omega
  obtain ⟨D, hD⟩ : ∃ D, D = (cur.toList.take (n * 3)).drop (i * 3) := ⟨_, rfl⟩
  have h1D : ∀ u ∈ D, u.oneCell' = true := fun u hu => h1c u (by rw [hD] at hu; exact List.mem_of_mem_drop hu)
  have hDc : ∀ (W : World), W.heap[g]? = some (.cells cur 134 (0, 0)) → ∀ (j : Nat) (v : Value), D[j]? = some v → W.cell? ⟨g, i * 3 + j, none⟩ = some v := fun W hW j v hj => by
    rw [hD, List.getElem?_drop, List.getElem?_take] at hj
    rw [blk_cell hW]
    split at hj
    · simpa using hj
    · cases hj
  rw [← hD] at hdl ⊢
  have hold : (Builtin.firstCells i0.size i (.slice (some ⟨g, 0, none⟩) i n)).run Try.prog w.drew = .ok (cur.toList.take (i * 3)).toArray w.drew := by
    rw [hzs]
    exact run_firstCells_some w.drew 3 i ⟨g, 0, none⟩ i n (cur.toList.take (i * 3)) (by rw [List.length_take, Array.length_toList]; omega) (fun j v hj => by
      rw [add_at, Nat.zero_add]
      rw [List.getElem?_take] at hj
      split at hj
      · show w.drew.cell? _ = _
        rw [blk_cell (blk_drew hg)]
        simpa using hj
      · cases hj)
  have hik : i + (n + 1 - i) = n + 1 := by omega
  have hkk : (n : Int) + 1 - (i : Int) = ((n + 1 - i : Nat) : Int) := by omega
  obtain ⟨G, hG⟩ : ∃ G, G = grownCap w (n + 1) n 134 := ⟨_, rfl⟩
  have hGn : n + 1 ≤ G := by rw [hG]; exact grownCap_ge w _ _ _
  have hGm : G ≤ maxLen := by rw [hG]; exact grownCap_le_maxLen w (n + 1) n 134 (by unfold maxLen; omega)
  obtain ⟨ROW, hROW⟩ : ∃ ROW : Array Value, ROW = (cur.toList.take (i * 3)).toArray ++ Builtin.zeroCells (Value.agg #[(.int .i64 0), (.string ⟨#[]⟩), (.string ⟨#[]⟩)]).cells (n + 1 - i) ++ Builtin.zeroCells (Value.agg #[(.int .i64 0), (.string ⟨#[]⟩), (.string ⟨#[]⟩)]).cells (G - (n + 1)) := ⟨_, rfl⟩
  have hRl : ROW.size = G * 3 := by
    have e : ∀ m, (Builtin.zeroCells (Value.agg #[(.int .i64 0), (.string ⟨#[]⟩), (.string ⟨#[]⟩)]).cells m).size = m * 3 := fun m => size_zeroCells _ _
    rw [hROW]
    simp only [Array.size_append, e, List.size_toArray, List.length_take, Array.length_toList]
    omega
  have hRt : ROW.toList.take (i * 3) = cur.toList.take (i * 3) := by
    rw [hROW]
    simp only [Array.toList_append, List.append_assoc]
    exact List.take_left' (by rw [List.length_take, Array.length_toList]; omega)
  obtain ⟨W1, hW1⟩ : ∃ W1, W1 = w.drew.alloc (.cells ROW 134) := ⟨_, rfl⟩
  have hrz : ∀ ty, (Builtin.append_ #[68, 3] ty #[.slice (some ⟨g, 0, none⟩) i n, .int .i64 ((n : Int) + 1 - (i : Int))]).run Try.prog w = .ok (.slice (some ⟨w.heap.size, 0, none⟩) (n + 1) G) W1 := fun ty => by
    have h := Lib.run_append_grow_zeros w 68 3 ty 134 i0 _ .i64 .i64 u1 u3 hi0 hz0 (some ⟨g, 0, none⟩) i n (cur.toList.take (i * 3)) hold (n + 1 - i) (by omega) (by omega) (by omega) (by omega) (by rw [hzb]; omega) (by rw [hzb, hik]; exact growslice_fits (by omega) (by omega))
    rw [hik] at h
    rw [hkk, hW1, hROW, hG]
    exact h
  have hN : W1.heap[w.heap.size]? = some (.cells ROW 134 (0, 0)) := by rw [hW1]; exact heap_alloc_new w.drew _
  have hg1 : W1.heap[g]? = some (.cells cur 134 (0, 0)) := by rw [hW1]; exact blk_alloc (blk_drew hg) _
  have hv1 : W1.heap[vb]? = some (.cells vs 134 (0, 0)) := by rw [hW1]; exact blk_alloc (blk_drew hv) _
  have hgr1 : w.grownBy W1 none := by rw [hW1]; exact ⟨rfl, rfl, rfl, by simp, fun k hk _ => heap_alloc_old w.drew _ hk⟩
  have hcpA : ∀ ty dc, (Builtin.copy_ #[68, 68] ty #[.slice (some ⟨w.heap.size, i * 3, none⟩) (n + 1 - i) dc, .slice (some ⟨vb, 0, none⟩) 1 1]).run Try.prog W1 = .ok (goInt ((1 : Nat) : Int)) (W1.setCells w.heap.size (i * 3) vs.toList) := fun ty dc =>
    x_copy W1 _ _ ty 134 3 w.heap.size (i * 3) (n + 1 - i) dc ⟨vb, 0, none⟩ 1 1 vs.toList u1 hsz 1 (by simp only [Nat.min_def]; split <;> omega) (by simp [hvl])
      (fun j v hj => by rw [add_at, Nat.zero_add, blk_cell hv1]; simpa using hj) (fun j hj => by rw [blk_cell hN, Array.getElem?_eq_getElem (by rw [Array.length_toList] at hj; omega)]; rfl) (fun j hj => blk_frozen hN _) h1v
  obtain ⟨c1, hc1, hc1s, hc1l⟩ := setCells_row vs.toList (i * 3) W1 ROW hN (by rw [Array.length_toList]; omega)
  obtain ⟨W2, hW2⟩ : ∃ W2, W2 = W1.setCells w.heap.size (i * 3) vs.toList := ⟨_, rfl⟩
  rw [← hW2] at hc1 hcpA
  have hgr2 : w.grownBy W2 none := by rw [hW2]; exact x_grown_cells _ _ hgr1 (fun k hk _ => by omega)
  have hg2 : W2.heap[g]? = some (.cells cur 134 (0, 0)) := by rw [hW2, setCells_far vs.toList _ g (by omega)]; exact hg1
  have hcpB : ∀ ty dc sc, (Builtin.copy_ #[68, 68] ty #[.slice (some ⟨w.heap.size, (i + 1) * 3, none⟩) (n - i) dc, .slice (some ⟨g, i * 3, none⟩) (n - i) sc]).run Try.prog W2.drew = .ok (goInt ((n - i : Nat) : Int)) (W2.drew.setCells w.heap.size ((i + 1) * 3) D) := fun ty dc sc =>
    x_copy W2.drew _ _ ty 134 3 w.heap.size ((i + 1) * 3) (n - i) dc ⟨g, i * 3, none⟩ (n - i) sc D u1 hsz (n - i) (by simp only [Nat.min_def]; split <;> omega) hdl
      (fun j v hj => by rw [add_at]; exact hDc _ (blk_drew hg2) j v hj) (fun j hj => by rw [blk_cell (blk_drew hc1), Array.getElem?_eq_getElem (by omega)]; rfl) (fun j hj => blk_frozen (blk_drew hc1) _) h1D
  obtain ⟨c2, hc2, hc2s, hc2l⟩ := setCells_row D ((i + 1) * 3) W2.drew c1 (blk_drew hc1) (by omega)
  obtain ⟨W3, hW3⟩ : ∃ W3, W3 = W2.drew.setCells w.heap.size ((i + 1) * 3) D := ⟨_, rfl⟩
  rw [← hW3] at hc2 hcpB
  have hgr3 : w.grownBy W3 none := by rw [hW3]; exact x_grown_cells _ _ ⟨hgr2.os, hgr2.tape, hgr2.output, hgr2.size, hgr2.block⟩ (fun k hk _ => by omega)
  have hfin : c2.toList.take ((n + 1) * 3) = cur.toList.take (i * 3) ++ vs.toList ++ D := by
    have h := x_row_b (cur := ROW.toList) (c1 := c1.toList) (c2 := c2.toList) (o := i * 3) (s := 3) (m := (n - i) * 3) (V := vs.toList) (D := D) (by rw [Array.length_toList]; exact hvl) hdl (by rw [Array.length_toList]; omega) hc1l (by rw [show (i + 1) * 3 = i * 3 + 3 by omega] at hc2l; exact hc2l)
    rw [hRt] at h
    rw [show (n + 1) * 3 = i * 3 + 3 + (n - i) * 3 by omega]
    exact h
  have POST := Aside0.mk (show InsPost w.heap.size (n + 1) (cur.toList.take (i * 3) ++ vs.toList ++ D) w (.returned (.slice (some ⟨w.heap.size, 0, none⟩) (n + 1) G)) W3 from ⟨G, c2, rfl, hGn, hGm, hc2, by omega, hfin, ⟨hgr3.os, hgr3.tape, hgr3.output, hgr3.size, fun k hk _ => hgr3.block k hk (by simp)⟩⟩)
  have hw1 : IntKind.i64.wrap ((i : Int) + 1) = (i : Int) + 1 := by rw [IntKind.wrap_i64]; omega
  have hb1 : (0 : Int) ≤ (i : Int) + 1 := by omega
  have hin : i ≤ n := by omega
  have htn : ((i : Int) + 1).toNat = i + 1 := by omega
  have hb2 : ¬ (G = i + 1) := by omega
  have hb3 : (i : Int) ≤ (n : Int) + 1 := by omega
  have hb4 : ¬ (G = i) := by omega
  have hb5 : ¬ (n = i) := by omega
  have hz3 : (n : Int) < (n : Int) + 1 := by omega
  have hG63 : G ≤ 9223372036854775807 := by unfold maxLen at hGm; exact hGm
  clear hc1 hc1s hc1l hc2 hc2s hc2l hN hg1 hg2 hv1 hDc hg hv hcs hvl h1c h1v h1D hD hdl hW1 hW2 hW3 hgr1 hgr2 hgr3 hfin hROW hRl hRt hG hold hik hkk hGm hz0 hzs hzb hi0 i0
  go_enter Try.func156, Try.ntmps156
  go_wp2_with (first
    | (at_builtin; refine Lib.wpList_append_run _ rfl _ _ _ _ rfl _ _ rfl rfl _ _ (hrz _) ?_)
    | (at_builtin; refine x_wpList_copy _ rfl _ _ 68 68 rfl _ _ rfl rfl (hcpA _ _) ?_))
  go_region_law (refine x_step_copy rfl _ _ 68 68 rfl _ _ (by simp [Act.eval, Act.put]) (by simp [Act.eval, Act.put]) (hcpB _ _ _) ?_)
  go_wp2
  go_ret
  exact POST.out
def InsR (base : Nat) (l : List S134) (w : World) (row : Option Nat) (e : Ending) (w' : World) : Prop :=
  ∃ v1 : Value, e = .returned v1 ∧ Kd.R k134 134 w' base (fun _ => True) v1 l ∧ w.grownBy w' row
theorem R_of_cells {w : World} {base : Nat} {v : Value} {l : List S134} {cs : List Value} (ho : w.ownsRow base 134 3 v l.length cs)
    (hr : Reps (fun (x : S134) (c : List Value) => c = [.int .i64 x.f0, .string x.f1, .string x.f2]) 3 l cs) : Kd.R k134 134 w base (fun _ => True) v l :=
  ⟨fun _ _ => trivial, cs, ho, hr.imp_ (fun p c hc => by rw [hc]; exact k134_mkM _ _ _ p)⟩
set_option maxHeartbeats 4000000 in
set_option maxRecDepth 100000 in
theorem insert_end (base : Nat) (v : Value) (l : List S134) (x : S134) (inner : List Value) (vb : Nat) (w : World) (ho : w.ownsRow base 134 3 v l.length inner)
    (hr : Reps (fun (x : S134) (c : List Value) => c = [.int .i64 x.f0, .string x.f1, .string x.f2]) 3 l inner) (hl : l.length ≤ 1000) (hbase : base ≤ w.heap.size)
    (hv : w.heap[vb]? = some (.cells #[.int .i64 x.f0, .string x.f1, .string x.f2] 134 (0, 0))) :
    Calls Try.prog 156 #[v, .int .i64 l.length, .slice (some ⟨vb, 0, none⟩) 1 1] w (InsR base (l ++ [x]) w v.ownBlock) := by
  have u1 := Try.underlying68
  obtain ⟨i0, hi0, hz0, hzs, hzb⟩ := info_parts info134
  obtain ⟨A, c, rfl⟩ := own_slice ho
  have HO := Aside0.mk ho
  have HR := Aside0.mk hr
  have hnews : ∀ (j : Nat) (u : Value), ([.int .i64 x.f0, .string x.f1, .string x.f2] : List Value)[j]? = some u → w.cell? ((⟨vb, 0, none⟩ : Addr).add j) = some u := fun j u hj => by
    rw [add_at, Nat.zero_add, blk_cell hv]
    simpa using hj
  have HN := Aside0.mk hnews
  have hlen : l.length ≤ c := own_le ho
  clear ho hr hnews hv
  go_enter Try.func156, Try.ntmps156
  go_wp2_with (at_builtin; refine wpList_append_own_at _ rfl _ _ 68 rfl base 134 i0 _ 3 40 u1 hi0 hz0 hzs hzb rfl (by decide) _ l.length inner rfl HO.out ⟨vb, 0, none⟩ 1 1 [.int .i64 x.f0, .string x.f1, .string x.f2] rfl rfl HN.out (by intro u hu; simp at hu; rcases hu with rfl | rfl | rfl <;> rfl) (by unfold maxLen; omega) (by omega) hbase ?_; intro v1 w1 hown hg _ hat; have HV := Aside0.mk hown; have HG := Aside0.mk (show w.grownBy w1 (Value.slice A _ _).ownBlock from hg); clear hown hg hat)
  all_goals
    go_ret
    exact ⟨v1, rfl, R_of_cells (by simpa using HV.out) (HR.out.snoc rfl rfl), by first | exact HG.out | (cases A <;> exact HG.out)⟩
theorem insert_any (base : Nat) (v : Value) (l : List S134) (i : Nat) (x : S134) (vb : Nat) (w : World) (hR : Kd.R k134 134 w base (fun _ => True) v l) (hi : i ≤ l.length) (hl : l.length ≤ 1000) (hbase : base ≤ w.heap.size)
    (hv : w.heap[vb]? = some (.cells #[.int .i64 x.f0, .string x.f1, .string x.f2] 134 (0, 0))) (hne : some vb ≠ v.ownBlock) :
    Calls Try.prog 156 #[v, .int .i64 i, .slice (some ⟨vb, 0, none⟩) 1 1] w (InsR base (l.take i ++ [x] ++ l.drop i) w v.ownBlock) := by
  obtain ⟨h0, inner, ho, hr0⟩ := hR
  have hr : Reps (fun (x : S134) (c : List Value) => c = [.int .i64 x.f0, .string x.f1, .string x.f2]) 3 l inner := hr0.imp_ (fun p c hc => k134_openM hc)
  have ho : w.ownsRow base 134 3 v l.length inner := ho
  by_cases hin : i = l.length
  · subst hin
    rw [List.take_length, List.drop_length, List.append_nil]
    exact insert_end base v l x inner vb w ho hr hl hbase hv
  have hin : i < l.length := by omega
  have hone : ∀ u ∈ inner, u.oneCell' = true := Kd.reps_one hr (by decide) (fun p c hc u hu => by rw [hc] at hu; simp at hu; rcases hu with rfl | rfl | rfl <;> rfl)
  have hrn : Reps (fun (x : S134) (c : List Value) => c = [.int .i64 x.f0, .string x.f1, .string x.f2]) 3 (l.take i ++ [x] ++ l.drop i) (inner.take (i * 3) ++ [.int .i64 x.f0, .string x.f1, .string x.f2] ++ inner.drop (i * 3)) :=
    Kd.reps_append ((Kd.reps_take hr hi).snoc rfl rfl) (Kd.reps_drop hr)
  have hln : (l.take i ++ [x] ++ l.drop i).length = l.length + 1 := by simp; omega
  rcases ho.2 with ⟨rfl, hn0⟩ | ⟨g, cap, cur, rfl, hbg, hg, hnc, hcm, hcs, htake⟩
  · omega
  have hvg : vb ≠ g := fun e => hne (by rw [e]; rfl)
  by_cases hroom : l.length + 1 ≤ cap
  · refine (insert_shift g l.length cap i vb cur #[.int .i64 x.f0, .string x.f1, .string x.f2] w hin hroom (by unfold maxLen at hcm; exact hcm) hvg hg hcs hv rfl (by rw [htake]; exact hone) (by intro u hu; simp at hu; rcases hu with rfl | rfl | rfl <;> rfl)).mono ?_
    rintro e w' ⟨rfl, rfl⟩
    rw [htake]
    have hdl : (inner.drop (i * 3)).length = (l.length - i) * 3 := by rw [List.length_drop, ho.1]; omega
    obtain ⟨c1, hc1, hc1s, hc1l⟩ := setCells_row (inner.drop (i * 3)) ((i + 1) * 3) w.drew cur (blk_drew hg) (by rw [hdl]; omega)
    obtain ⟨c2, hc2, hc2s, hc2l⟩ := setCells_row [.int .i64 x.f0, .string x.f1, .string x.f2] (i * 3) _ c1 hc1 (by simp; omega)
    have h := x_row_a (cur := cur.toList) (c1 := c1.toList) (c2 := c2.toList) (o := i * 3) (s := 3) (m := (l.length - i) * 3) (V := [.int .i64 x.f0, .string x.f1, .string x.f2]) (D := inner.drop (i * 3)) rfl hdl (by have := Array.length_toList (xs := cur); omega) (by rw [show (i + 1) * 3 = i * 3 + 3 by omega] at hc1l; exact hc1l) hc2l
    have hti : cur.toList.take (i * 3) = inner.take (i * 3) := by rw [← htake, List.take_take, Nat.min_eq_left (by omega)]
    rw [hti] at h
    refine ⟨_, rfl, R_of_cells (cs := inner.take (i * 3) ++ [.int .i64 x.f0, .string x.f1, .string x.f2] ++ inner.drop (i * 3)) ?_ hrn, ?_⟩
    · rw [hln]
      refine ⟨by rw [hrn.1, hln], .inr ⟨g, cap, c2, rfl, hbg, hc2, hroom, hcm, by omega, ?_⟩⟩
      rw [← h]
      congr 1
      omega
    · have hg0 : w.grownBy w.drew (some g) := ⟨rfl, rfl, rfl, Nat.le_refl _, fun _ _ _ => rfl⟩
      exact x_grown_cells _ _ (x_grown_cells _ _ hg0 (fun k _ hk => fun e => hk (congrArg some e))) (fun k _ hk => fun e => hk (congrArg some e))
  · obtain rfl : cap = l.length := by omega
    refine (insert_grow g l.length i vb cur #[.int .i64 x.f0, .string x.f1, .string x.f2] w hin hl hg hcs hv rfl (by rw [htake]; exact hone) (by intro u hu; simp at hu; rcases hu with rfl | rfl | rfl <;> rfl)).mono ?_
    rintro e w' ⟨G, c2, rfl, hG, hGm, hc2, hc2s, hc2l, hgr⟩
    rw [htake] at hc2l
    have hti : cur.toList.take (i * 3) = inner.take (i * 3) := by rw [← htake, List.take_take, Nat.min_eq_left (by omega)]
    rw [hti] at hc2l
    refine ⟨_, rfl, R_of_cells (cs := inner.take (i * 3) ++ [.int .i64 x.f0, .string x.f1, .string x.f2] ++ inner.drop (i * 3)) ?_ hrn, ?_⟩
    · rw [hln]
      exact ⟨by rw [hrn.1, hln], .inr ⟨w.heap.size, G, c2, rfl, hbase, hc2, hG, hGm, hc2s, hc2l⟩⟩
    · exact ⟨hgr.os, hgr.tape, hgr.output, hgr.size, fun k hk _ => hgr.block k hk (by simp; omega)⟩
def placeIdx (l : List S134) (a : Int) : Nat := (l.takeWhile (fun x => decide (x.f0 < a))).length
theorem placeIdx_le (l : List S134) (a : Int) : placeIdx l a ≤ l.length := (List.takeWhile_sublist _).length_le
theorem all_takeWhile {α : Type} (p : α → Bool) : ∀ (l : List α) (x : α), x ∈ l.takeWhile p → p x = true
  | [], x, h => by simp at h
  | y :: t, x, h => by
    cases hp : p y
    · simp [List.takeWhile, hp] at h
    · simp only [List.takeWhile, hp, List.mem_cons] at h
      rcases h with rfl | h
      · exact hp
      · exact all_takeWhile p t x h
theorem placeIdx_lt (l : List S134) (a : Int) (i : Nat) (h : i < placeIdx l a) : (rd_T134 l i).f0 < a := by
  have hl : i < l.length := Nat.lt_of_lt_of_le h (placeIdx_le l a)
  have h1 : (l.takeWhile (fun x => decide (x.f0 < a)))[i]? = l[i]? := by
    have := List.takeWhile_prefix (l := l) (fun x => decide (x.f0 < a))
    rw [List.getElem?_eq_getElem h, List.getElem?_eq_getElem hl]
    congr 1
    exact this.getElem h
  have h2 : l[i]'hl ∈ l.takeWhile (fun x => decide (x.f0 < a)) := by
    rw [List.getElem?_eq_getElem hl] at h1
    exact List.mem_of_getElem? h1
  have h3 := all_takeWhile _ l _ h2
  unfold rd_T134
  rw [Int.toNat_natCast, List.getD_eq_getElem?_getD, List.getElem?_eq_getElem hl]
  simpa using h3
theorem placeIdx_ge (l : List S134) (a : Int) : placeIdx l a < l.length → ¬ (rd_T134 l (placeIdx l a)).f0 < a := by
  induction l with
  | nil => intro h; simp [placeIdx] at h
  | cons x t ih =>
    intro h
    by_cases hx : x.f0 < a
    · have e : placeIdx (x :: t) a = placeIdx t a + 1 := by simp [placeIdx, hx]
      rw [e] at h ⊢
      have := ih (by simpa using h)
      unfold rd_T134 at this ⊢
      rw [Int.toNat_natCast] at this ⊢
      simpa using this
    · have e : placeIdx (x :: t) a = 0 := by simp [placeIdx, hx]
      rw [e]
      unfold rd_T134
      simpa using hx
def placeL (l : List S134) (x : S134) : List S134 := l.take (placeIdx l x.f0) ++ [x] ++ l.drop (placeIdx l x.f0)
def impl_placed.f (a0_0 : Int) (l0_1 : List S134) (a1_0 : Int) (a1_1 a1_2 : ByteArray) : Option (Int × List S134) := if l0_1.length ≤ 1000 then some (a0_0, placeL l0_1 ⟨a1_0, a1_1, a1_2⟩) else none
set_option maxHeartbeats 4000000 in
set_option maxRecDepth 100000 in
theorem impl_placed.calls (a0_0 : Int) (A0_1 : Option Addr) (c0_1 : Nat) (l0_1 : List S134) (a1_0 : Int) (a1_1 : ByteArray) (a1_2 : ByteArray) (r1 : Int) (r2 : List S134) (w : World) (hr0_1 : Kd.C k134 w A0_1 l0_1.length l0_1) (hc0_1 : l0_1.length ≤ c0_1) (h : impl_placed.f a0_0 l0_1 a1_0 a1_1 a1_2 = some (r1, r2)) :
    Calls Try.prog 117 #[.agg #[.int .i64 a0_0, .slice A0_1 l0_1.length c0_1], .agg #[.int .i64 a1_0, .string a1_1, .string a1_2]] w fun e w' => ∃ v1_ : Value, e = .returned (.agg #[.int .i64 r1, v1_]) ∧ Kd.R k134 134 w' w.heap.size (fun _ => True) v1_ r2 ∧ Below w.heap.size w w' := by
  unfold impl_placed.f at h
  have hl : l0_1.length ≤ 1000 := by
    by_cases hl : l0_1.length ≤ 1000
    · exact hl
    · rw [if_neg hl] at h; cases h
  rw [if_pos hl] at h
  simp only [Option.some.injEq, Prod.mk.injEq] at h
  obtain ⟨rfl, rfl⟩ := h
  have hcopy : impl_copyDisk.f a0_0 l0_1 = some (a0_0, l0_1) := by
    unfold impl_copyDisk.f
    simp only [Option.bind_some, List.length_nil, Nat.zero_add, List.nil_append]
    rw [if_pos (by omega)]
  have hu70 := Try.underlying70
  have hu68 := Try.underlying68
  have HR := Aside0.mk hr0_1
  have HC := Aside0.mk hc0_1
  have HCP := Aside0.mk hcopy
  clear hr0_1 hc0_1 hcopy
  go_enter Try.func117, Try.ntmps117
  go_wp2_with fail
  go_at_call 115
  refine (impl_copyDisk.calls a0_0 A0_1 c0_1 l0_1 a0_0 l0_1 _ ?s1 ?s2 HCP.out).mono ?_
  case s1 => exact Kd.C_alloc (Kd.C_alloc (Kd.C_alloc HR.out _) _) _
  case s2 => exact HC.out
  rintro e w1 ⟨v1, rfl, hR, hb⟩
  have h1 : w.heap.size + 3 ≤ w1.heap.size := by have := hb.size; simp at this; omega
  have hF : w1.heap[w.heap.size + 1]? = some (.cells #[.int .i64 a1_0, .string a1_1, .string a1_2] 134 (0, 0)) := blk_below (by have := blk_alloc (w := (w.alloc (.cells #[.int .i64 a0_0, .slice A0_1 l0_1.length c0_1] 70)).alloc (.cells #[.int .i64 a1_0, .string a1_1, .string a1_2] 134)) (heap_alloc_new _ _) (.cells #[.int .i64 0, .slice none 0 0] 70); simpa using this) hb
  have hO : w1.heap[w.heap.size + 2]? = some (.cells #[.int .i64 0, .slice none 0 0] 70 (0, 0)) := blk_below (by have := heap_alloc_new ((w.alloc (.cells #[.int .i64 a0_0, .slice A0_1 l0_1.length c0_1] 70)).alloc (.cells #[.int .i64 a1_0, .string a1_1, .string a1_2] 134)) (.cells #[.int .i64 0, .slice none 0 0] 70); simpa using this) hb
  have hB : Below w.heap.size w w1 := below_step (below_alloc (below_alloc (below_alloc (Below.refl _ w) _) _) _) hb
  have hR : Kd.R k134 134 w1 (w.heap.size + 3) (fun _ => True) v1 l0_1 := by have := hR; simpa using this
  obtain ⟨A1, c1, rfl⟩ := Kd.R_slice hR
  have HF := Aside0.mk hF
  have HO := Aside0.mk hO
  have HB := Aside0.mk hB
  have HR1 := Aside0.mk hR
  have H1 := Aside0.mk h1
  clear hF hO hB hR h1 hb
  go_wp2
  go_loopg [6] (l0_1.length + 1) (fun gg s6 wr => ∃ i : Nat, s6 = .int .i64 i ∧ i ≤ placeIdx l0_1 a1_0 ∧ l0_1.length - i < gg ∧ Aside0 (Kd.R k134 134 wr (w.heap.size + 3) (fun _ => True) (.slice A1 l0_1.length c1) l0_1) ∧ Aside0 (wr.heap[w.heap.size + 1]? = some (.cells #[.int .i64 a1_0, .string a1_1, .string a1_2] 134 (0, 0))) ∧ Aside0 (wr.heap[w.heap.size + 2]? = some (.cells #[.int .i64 0, .slice none 0 0] 70 (0, 0))) ∧ Aside0 (wr.heap[w1.heap.size]? = some (.cells #[.int .i64 a0_0, .slice A1 l0_1.length c1] 70 (0, 0))) ∧ Aside0 (Below w.heap.size w wr) ∧ Aside0 (w.heap.size + 3 ≤ wr.heap.size))
  case atStart => exact ⟨0, rfl, by omega, by omega, ⟨Kd.R_alloc HR1.out _⟩, ⟨blk_alloc HF.out _⟩, ⟨blk_alloc HO.out _⟩, ⟨heap_alloc_new _ _⟩, ⟨below_alloc HB.out _⟩, ⟨by have := H1.out; simp; omega⟩⟩
  case round =>
    clear HF HO HB HR1
    obtain ⟨i, rfl, hi, hg, HR1, HF, HO, HU, HB, HS⟩ := hrel
    by_cases hlt : i < placeIdx l0_1 a1_0
    · have hll := placeIdx_le l0_1 a1_0
      have hp := placeIdx_lt l0_1 a1_0 i hlt
      obtain ⟨ad, hA, hx0, _, _⟩ := at_T134 (Kd.R_reads' HR1.out).2.2 (i : Int) (by omega) (by omega)
      have hu0 : wr.cell? ⟨w1.heap.size, 1, none⟩ = some (.slice A1 l0_1.length c1) := (blk_cell HU.out 1).trans rfl
      have hf0 : wr.cell? ⟨w.heap.size + 1, 0, none⟩ = some (.int .i64 a1_0) := (blk_cell HF.out 0).trans rfl
      have hlt2 : decide ((i : Int) < (l0_1.length : Int)) = true := decide_eq_true (by omega)
      have hlt4 : i < l0_1.length := by omega
      have hlt3 : decide ((rd_T134 l0_1 (i : Int)).f0 < a1_0) = true := decide_eq_true hp
      subst hA
      rw [Int.toNat_natCast] at hx0
      have HLT := Aside0.mk hlt
      clear hp hlt hll
      have HG := Aside0.mk hg
      have HI := Aside0.mk hi
      clear hg hi
      go_wp2
      go_quiet (fail)
      go_wp2
      go_roundg (l0_1.length - i)
      case measure => have := HG.out; omega
      case rel => exact ⟨i + 1, by go_num, HLT.out, by omega, ⟨Kd.R_drewN HR1.out _⟩, ⟨blk_drewN HF.out _⟩, ⟨blk_drewN HO.out _⟩, ⟨blk_drewN HU.out _⟩, ⟨pw_below_drewN HB.out _⟩, HS⟩
    · obtain rfl : i = placeIdx l0_1 a1_0 := by omega
      have hu0 : wr.cell? ⟨w1.heap.size, 1, none⟩ = some (.slice A1 l0_1.length c1) := (blk_cell HU.out 1).trans rfl
      have hf0 : wr.cell? ⟨w.heap.size + 1, 0, none⟩ = some (.int .i64 a1_0) := (blk_cell HF.out 0).trans rfl
      have hf1 : wr.cell? ⟨w.heap.size + 1, 1, none⟩ = some (.string a1_1) := (blk_cell HF.out 1).trans rfl
      have hf2 : wr.cell? ⟨w.heap.size + 1, 2, none⟩ = some (.string a1_2) := (blk_cell HF.out 2).trans rfl
      clear hi hlt
      obtain ⟨p, hP⟩ : ∃ p, p = placeIdx l0_1 a1_0 := ⟨_, rfl⟩
      have HPL := placeIdx_le l0_1 a1_0
      have HPG := placeIdx_ge l0_1 a1_0
      rw [← hP] at HPL HPG hg ⊢
      by_cases hlt : p < l0_1.length
      · have hq := HPG hlt
        obtain ⟨ad, hA, hx0, _, _⟩ := at_T134 (Kd.R_reads' HR1.out).2.2 (p : Int) (by omega) (by omega)
        subst hA
        rw [Int.toNat_natCast] at hx0
        have hlt2 : decide ((p : Int) < (l0_1.length : Int)) = true := decide_eq_true (by omega)
        have hlt3 : decide ((rd_T134 l0_1 (p : Int)).f0 < a1_0) = false := decide_eq_false hq
        have HP := Aside0.mk hP
        have HPL := Aside0.mk HPL
        clear HPG hq hg hP
        go_wp2
        go_quiet (fail)
        go_wp2_with fail
        go_at_call 156
        refine (insert_any (w.heap.size + 3) (.slice (some ad) l0_1.length c1) l0_1 p ⟨a1_0, a1_1, a1_2⟩ wr.heap.size _ (Kd.R_alloc (Kd.R_drewN HR1.out _) _) HPL.out hl (by have := HS.out; simp; omega) (heap_alloc_new (wr.drewN _) _) (fun e => by have := Kd.R_lt HR1.out _ e.symm; omega)).mono ?_
        rintro e w2 ⟨v2, rfl, hR2, hg2⟩
        have HU2 := Aside0.mk (blk_grown (blk_alloc (blk_drewN HU.out _) _) hg2 (Kd.R_ne HR1.out HU.out (by decide)))
        have HO2 := Aside0.mk (blk_grown (blk_alloc (blk_drewN HO.out _) _) hg2 (Kd.R_ne HR1.out HO.out (by decide)))
        have HB2 := Aside0.mk (pw_below_grown (below_alloc (pw_below_drewN HB.out _) _) _ (by have := HS.out; simp; omega) hg2 (fun k hk => by have := Kd.R_base HR1.out k hk; omega))
        have HR2 := Aside0.mk (show Kd.R k134 134 w2 (w.heap.size + 3) (fun _ => True) v2 (placeL l0_1 ⟨a1_0, a1_1, a1_2⟩) from (by unfold placeL; rw [← HP.out]; exact hR2))
        have hsz : w.heap.size + 3 ≤ w2.heap.size := by have := hg2.size; have := HS.out; simp at *; omega
        clear hR2 hg2 HU HO HB HR1 HF hu0 hf0 hf1 hf2
        obtain ⟨L2, hL2⟩ : ∃ L2, L2 = placeL l0_1 ⟨a1_0, a1_1, a1_2⟩ := ⟨_, rfl⟩
        rw [← hL2] at HR2
        have HL := Aside0.mk hL2
        clear hL2
        obtain ⟨A2, c2, hv2⟩ := Kd.R_slice HR2.out
        subst hv2
        have n12 : w1.heap.size ≠ w.heap.size + 2 := by have := H1.out; omega
        have n21 : w.heap.size + 2 ≠ w1.heap.size := n12.symm
        have hu1 : w2.cell? ⟨w1.heap.size, 0, none⟩ = some (.int .i64 a0_0) := (blk_cell HU2.out 0).trans rfl
        have hu2 : w2.cell? ⟨w1.heap.size, 1, none⟩ = some (.slice (some ad) l0_1.length c1) := (blk_cell HU2.out 1).trans rfl
        have hu3 := fun i => blk_frozen HU2.out i
        have ho1 : w2.cell? ⟨w.heap.size + 2, 0, none⟩ = some (.int .i64 0) := (blk_cell HO2.out 0).trans rfl
        have ho2 : w2.cell? ⟨w.heap.size + 2, 1, none⟩ = some (.slice none 0 0) := (blk_cell HO2.out 1).trans rfl
        have ho3 := fun i => blk_frozen HO2.out i
        go_wp2
        refine bodyPost_ret (results_cell_row rfl _ _ (w.heap.size + 2) 70 #[.int .i64 a0_0, .slice A2 L2.length c2] (0, 0) _ rfl (by refine blk_put (cs := #[.int .i64 a0_0, .slice none 0 0]) ?_ 1 _ rfl; refine blk_put (cs := #[.int .i64 0, .slice none 0 0]) ?_ 0 _ rfl; exact blk_far HO2.out n21 _) Try.underlying70 rfl (by kernel_rfl)) rfl ?_
        refine ⟨_, rfl, by rw [← HL.out]; exact Kd.R_lower (Kd.R_set (Kd.R_set (Kd.R_set HR2.out HU2.out (by decide) 1 _) (blk_far HO2.out n21 _) (by decide) 0 _) (blk_put (blk_far HO2.out n21 _) 0 _ rfl) (by decide) 1 _) (Nat.le_add_right _ 3), ?_⟩
        exact below_set (below_set (below_set HB2.out (by have := H1.out; omega)) (by omega)) (by omega)
      · obtain rfl : p = l0_1.length := by omega
        have hlt2 : decide ((l0_1.length : Int) < (l0_1.length : Int)) = false := decide_eq_false (by omega)
        have HP := Aside0.mk hP
        have HPL := Aside0.mk HPL
        clear HPG hg hP
        go_wp2
        go_quiet (fail)
        go_wp2_with fail
        go_at_call 156
        refine (insert_any (w.heap.size + 3) (.slice A1 l0_1.length c1) l0_1 l0_1.length ⟨a1_0, a1_1, a1_2⟩ wr.heap.size _ (Kd.R_alloc (Kd.R_drewN HR1.out _) _) HPL.out hl (by have := HS.out; simp; omega) (heap_alloc_new (wr.drewN _) _) (fun e => by have := Kd.R_lt HR1.out _ e.symm; omega)).mono ?_
        rintro e w2 ⟨v2, rfl, hR2, hg2⟩
        have HU2 := Aside0.mk (blk_grown (blk_alloc (blk_drewN HU.out _) _) hg2 (Kd.R_ne HR1.out HU.out (by decide)))
        have HO2 := Aside0.mk (blk_grown (blk_alloc (blk_drewN HO.out _) _) hg2 (Kd.R_ne HR1.out HO.out (by decide)))
        have HB2 := Aside0.mk (pw_below_grown (below_alloc (pw_below_drewN HB.out _) _) _ (by have := HS.out; simp; omega) hg2 (fun k hk => by have := Kd.R_base HR1.out k hk; omega))
        have HR2 := Aside0.mk (show Kd.R k134 134 w2 (w.heap.size + 3) (fun _ => True) v2 (placeL l0_1 ⟨a1_0, a1_1, a1_2⟩) from (by unfold placeL; rw [← HP.out]; exact hR2))
        have hsz : w.heap.size + 3 ≤ w2.heap.size := by have := hg2.size; have := HS.out; simp at *; omega
        clear hR2 hg2 HU HO HB HR1 HF hu0 hf0 hf1 hf2
        obtain ⟨L2, hL2⟩ : ∃ L2, L2 = placeL l0_1 ⟨a1_0, a1_1, a1_2⟩ := ⟨_, rfl⟩
        rw [← hL2] at HR2
        have HL := Aside0.mk hL2
        clear hL2
        obtain ⟨A2, c2, hv2⟩ := Kd.R_slice HR2.out
        subst hv2
        have n12 : w1.heap.size ≠ w.heap.size + 2 := by have := H1.out; omega
        have n21 : w.heap.size + 2 ≠ w1.heap.size := n12.symm
        have hu1 : w2.cell? ⟨w1.heap.size, 0, none⟩ = some (.int .i64 a0_0) := (blk_cell HU2.out 0).trans rfl
        have hu2 : w2.cell? ⟨w1.heap.size, 1, none⟩ = some (.slice A1 l0_1.length c1) := (blk_cell HU2.out 1).trans rfl
        have hu3 := fun i => blk_frozen HU2.out i
        have ho1 : w2.cell? ⟨w.heap.size + 2, 0, none⟩ = some (.int .i64 0) := (blk_cell HO2.out 0).trans rfl
        have ho2 : w2.cell? ⟨w.heap.size + 2, 1, none⟩ = some (.slice none 0 0) := (blk_cell HO2.out 1).trans rfl
        have ho3 := fun i => blk_frozen HO2.out i
        go_wp2
        refine bodyPost_ret (results_cell_row rfl _ _ (w.heap.size + 2) 70 #[.int .i64 a0_0, .slice A2 L2.length c2] (0, 0) _ rfl (by refine blk_put (cs := #[.int .i64 a0_0, .slice none 0 0]) ?_ 1 _ rfl; refine blk_put (cs := #[.int .i64 0, .slice none 0 0]) ?_ 0 _ rfl; exact blk_far HO2.out n21 _) Try.underlying70 rfl (by kernel_rfl)) rfl ?_
        refine ⟨_, rfl, by rw [← HL.out]; exact Kd.R_lower (Kd.R_set (Kd.R_set (Kd.R_set HR2.out HU2.out (by decide) 1 _) (blk_far HO2.out n21 _) (by decide) 0 _) (blk_put (blk_far HO2.out n21 _) 0 _ rfl) (by decide) 1 _) (Nat.le_add_right _ 3), ?_⟩
        exact below_set (below_set (below_set HB2.out (by have := H1.out; omega)) (by omega)) (by omega)


/-! ### impl_DiskAppend: function 40 -/
def impl_DiskAppend.j0 : Nat → Int → ByteArray → Bool → Int → List (S134) → Option (Int × (List (S134)) × Int)
 | 0, _, _, _, _, _ => none
 | k + 1, x1, x2, x17, x183000, x183001 => if x17 = true then (some (0, ([] : List (S134)), 1)) else ((impl_sizeOf.f k x183000 x183001).bind fun t186 => (if (wrap64 (t186 + (x2.size : Int))) > x183000 then ((impl_copyDisk.f x183000 x183001).bind fun bt187 => (some (bt187.1, bt187.2, 3))) else ((impl_fileAt.f x183000 x183001 x1).bind fun t191 => (if t191 < 0 then ((impl_placed.f x183000 x183001 x1 (⟨#[]⟩ : ByteArray) x2).bind fun bt192 => (some (bt192.1, bt192.2, 0))) else ((impl_copyDisk.f x183000 x183001).bind fun bt196 => (if 0 ≤ t191 then (if t191 < (bt196.2.length : Int) then (if ((rd_T134 bt196.2 t191).f2).size + x2.size ≤ 9223372036854775807 then (some (bt196.1, (bt196.2.set (t191 : Int).toNat (⟨(rd_T134 bt196.2 t191).f0, (rd_T134 bt196.2 t191).f1, ((rd_T134 bt196.2 t191).f2) ++ x2⟩ : S134)), 0)) else (none)) else (none)) else (none)))))))
def impl_DiskAppend.f (k : Nat) (a0_0 : Int) (l0_1 : List (S134)) (a1 : Int) (a2 : ByteArray) : Option (Int × (List (S134)) × Int) := (impl_DiskOk.f k a0_0 l0_1).bind fun t184 => (if t184 = true then ((impl_isFile.f a1).bind fun t185 => (impl_DiskAppend.j0 k a1 a2 (!t185) a0_0 l0_1)) else (impl_DiskAppend.j0 k a1 a2 true a0_0 l0_1))
set_option maxRecDepth 100000 in
theorem impl_DiskAppend.mono_l : ∀ k, (∀ y0 y1 y2 y3 y4, LeO (impl_DiskAppend.j0 k y0 y1 y2 y3 y4) (impl_DiskAppend.j0 (k + 1) y0 y1 y2 y3 y4))
 | 0 => fun _ _ _ _ _ r h => by simp [impl_DiskAppend.j0] at h
 | k + 1 => by
  have ih0 := impl_DiskAppend.mono_l k
  ·intro y0 y1 y2 y3 y4
   unfold impl_DiskAppend.j0
   repeat' first
   | (with_reducible exact ih0 _ _ _ _ _)
   | (with_reducible exact impl_DiskOk.mono _ _ _)
   | (with_reducible exact impl_sizeOf.mono _ _ _)
   | (with_reducible exact LeO.refl _)
   | (with_reducible exact LeO.none _)
   | (with_reducible refine LeO.ite ?_ ?_)
   | (with_reducible refine LeO.bind ?_ (fun _ => ?_))
   | exact ih0 _ _ _ _ _
   | exact impl_DiskOk.mono _ _ _
   | exact impl_sizeOf.mono _ _ _
   | exact LeO.none _
   | refine LeO.ite ?_ ?_
   | refine LeO.bind ?_ (fun _ => ?_)
theorem impl_DiskAppend.mono : ∀ a0 a1 a2 a3 k, LeO (impl_DiskAppend.f k a0 a1 a2 a3) (impl_DiskAppend.f (k + 1) a0 a1 a2 a3) := by
 intro a0 a1 a2 a3 k
 have ih0 := impl_DiskAppend.mono_l k
 unfold impl_DiskAppend.f
 repeat' first
  | (with_reducible exact ih0 _ _ _ _ _)
  | (with_reducible exact impl_DiskOk.mono _ _ _)
  | (with_reducible exact impl_sizeOf.mono _ _ _)
  | (with_reducible exact LeO.refl _)
  | (with_reducible exact LeO.none _)
  | (with_reducible refine LeO.ite ?_ ?_)
  | (with_reducible refine LeO.bind ?_ (fun _ => ?_))
  | exact ih0 _ _ _ _ _
  | exact impl_DiskOk.mono _ _ _
  | exact impl_sizeOf.mono _ _ _
  | exact LeO.none _
  | refine LeO.ite ?_ ?_
  | refine LeO.bind ?_ (fun _ => ?_)
def impl_DiskAppend.T3 : Bool × List (List Nat × List Nat) := (true, [([], []), ([0], [0]), ([], []), ([2], [2]), ([1, 3], [1, 3]), ([], []), ([5], [5]), ([4, 6], [4, 6])])
def impl_DiskAppend.B3 : List Nat := [0, 1, 0, 4, 15, 0, 32, 127]
theorem impl_DiskAppend.tab3 : rtab .any (opsOf Try.f40 3) = impl_DiskAppend.T3 := by kernel_rfl
theorem impl_DiskAppend.bits3 : waitsOk impl_DiskAppend.T3.2 impl_DiskAppend.B3 = true := by kernel_rfl
set_option maxHeartbeats 8000000 in
set_option maxRecDepth 100000 in
theorem impl_DiskAppend.calls (k : Nat) (a0_0 : Int) (A0_1 : Option Addr) (c0_1 : Nat) (l0_1 : List (S134)) (a1 : Int) (a2 : ByteArray) (r1 : Int) (r2 : List (S134)) (r3 : Int) (w : World) (hr0_1 : Kd.C k134 w A0_1 l0_1.length l0_1) (hc0_1 : l0_1.length ≤ c0_1) (h : impl_DiskAppend.f k a0_0 l0_1 a1 a2 = some (r1, r2, r3)) :
 Calls Try.prog 40 #[.agg #[.int .i64 a0_0, .slice A0_1 l0_1.length c0_1], .int .i64 a1, .string a2] w fun e w' => ∃ v1_ : Value, e = .returned (.tuple #[.agg #[.int .i64 r1, v1_], .int .i64 r3]) ∧ Kd.R k134 134 w' w.heap.size (fun _ => True) v1_ r2 ∧ Below w.heap.size w w' := by
 have hu70 := Try.underlying70
 have hu134 := Try.underlying134
 have HR0_1 := aM hr0_1
 have HC0_1 := aM hc0_1
 clear hr0_1 hc0_1
 have HB := aM (Below.refl w.heap.size w)
 have H : ((impl_DiskOk.f k a0_0 l0_1).bind fun t184 => (if t184 = true then ((impl_isFile.f a1).bind fun t185 => (impl_DiskAppend.j0 k a1 a2 (!t185) a0_0 l0_1)) else (impl_DiskAppend.j0 k a1 a2 true a0_0 l0_1))) = some (r1, r2, r3) := h
 clear h
 have HC4 := aM H
 clear H
 go_enter Try.func40, Try.ntmps40
 go_upto_region 1 with (first | ((with_reducible refine gate_dst (N := 3) rfl ?_); refine box_event ?hg (N := 3) ?hd (cs := #[.int .i64 a0_0, .slice A0_1 l0_1.length c0_1]) (t := 70) ?hr ?_; (case hd => rfl); (case hg => rfl); (case hr => first | (go_simp; done) | (go_simp; rfl)); intro gb182 hg w5 hbox hb; have BK182 := aM (hbox); have GW182 := aM (xge hg); have GE182 := aM (xge hg); replace HB := xbs hb; clear hb hbox hg) | ((with_reducible refine gate_dst (N := 6) rfl ?_); refine box_event ?hg (N := 6) ?hd (cs := #[.int .i64 0, .slice none 0 0]) (t := 70) ?hr ?_; (case hd => rfl); (case hg => rfl); (case hr => first | (go_simp; done) | (go_simp; rfl)); intro gb183 hg w6 hbox hb; have GW183 := aM (xge hg); have GE183 := aM (xge hg); replace HB := xbs hb; have NB182_183 := aM ((by rw [hg]; exact Nat.ne_of_lt (blk_lt (g := gb182) (o := .cells #[.int .i64 a0_0, .slice A0_1 l0_1.length c0_1] 70 (0, 0)) xblk) : gb182 ≠ gb183)); have NB183_182 := aM ((by rw [hg]; exact Nat.ne_of_gt (blk_lt (g := gb182) (o := .cells #[.int .i64 a0_0, .slice A0_1 l0_1.length c0_1] 70 (0, 0)) xblk) : gb183 ≠ gb182)); replace BK182 := xbb BK182 hb; have BK183 := aM (hbox); clear hb hbox hg))
 (try simp only [Act.put, List.setIfInBounds_toArray, List.set_cons_zero, List.set_cons_succ])
 go_cut [17] (fun v17 wc => ∃ (kq : Nat) (x17_3 : Bool), v17 = .bool x17_3 ∧ Aside0 (impl_DiskAppend.j0 kq a1 a2 x17_3 a0_0 l0_1 = some (r1, r2, r3)) ∧ Aside0 (kq ≤ k) ∧ Aside0 (wc.heap[gb182]? = some (.cells #[.int .i64 a0_0, (.slice A0_1 l0_1.length c0_1)] 70 (0, 0))) ∧ Aside0 (wc.heap[gb183]? = some (.cells #[.int .i64 0, (.slice none 0 0)] 70 (0, 0))) ∧ Aside0 (Below w.heap.size w wc))
 case first =>
  have H := HC4.out; clear HC4; replace H := Option.bind_eq_some_iff.mp H
  obtain ⟨t184, A70, H⟩ := H
  replace H : (if t184 = true then ((impl_isFile.f a1).bind fun t185 => (impl_DiskAppend.j0 k a1 a2 (!t185) a0_0 l0_1)) else (impl_DiskAppend.j0 k a1 a2 true a0_0 l0_1)) = some (r1, r2, r3) := H; have A7 := aM A70; clear A70
  by_cases c8 : t184 = true
  ·subst c8
   have H1 : ((impl_isFile.f a1).bind fun t185 => (impl_DiskAppend.j0 k a1 a2 (!t185) a0_0 l0_1)) = some (r1, r2, r3) := by rw [if_pos rfl] at H; exact H
   clear H; have H := H1; clear H1; replace H := Option.bind_eq_some_iff.mp H
   obtain ⟨t185, A90, H⟩ := H
   replace H : (impl_DiskAppend.j0 k a1 a2 (!t185) a0_0 l0_1) = some (r1, r2, r3) := H; have A9 := aM A90; clear A90
   have H' := aM H
   clear H; have hnb10 := NB182_183.out; have hnc10 := NB183_182.out; obtain ⟨hcz11_0, hcz11_1, hfz11_0, hfz11_1⟩ := xf2 (w := w6) BK182
   go_wp2_with (first | ((with_reducible refine gate_callee (f := 52) rfl ?_); refine goesL_ (some 11) rfl rfl Try.func52 (by kernel_rfl) rfl #[.agg #[.int .i64 a0_0, .slice A0_1 l0_1.length c0_1]] rfl (by (try simp only [List.map_toArray, List.map_cons, List.map_nil]); first | done | rfl | (simp only [List.length_drop, List.length_take]; rfl)) ?_; (with_reducible refine (impl_DiskOk.calls k a0_0 _ _ l0_1 true _ ?side1 ?side2 A7.out).mono ?_); (case side1 => exact xcb HR0_1); (case side2 => exact HC0_1.out); rintro e w12 ⟨rfl, hb⟩; refine ⟨_, rfl, ?_⟩; replace BK182 := xbb BK182 hb; replace BK183 := xbb BK183 hb; replace HB := xbs hb; (try clear hb); (try clear hb2); (try clear hk); (try clear hi)) | (go_at_call 113; (with_reducible refine (impl_isFile.calls a1 t185 _ A9.out).mono ?_); rintro e w' ⟨rfl, ⟨nd, rfl⟩⟩))
   go_meet
   case rel => exact ⟨_, (!t185), (by first | rfl | (simp; done) | (simp [*]; done)), H', ⟨by first | omega | exact Nat.le_refl _⟩, ⟨xblk⟩, ⟨xblk⟩, ⟨xbg⟩⟩
  ·replace c8 := Bool.eq_false_iff.mpr c8
   subst c8
   have H1 : (impl_DiskAppend.j0 k a1 a2 true a0_0 l0_1) = some (r1, r2, r3) := by rw [if_neg (show ¬ (false = true) by decide)] at H; exact H
   clear H; have H := H1; clear H1
   have H' := aM H
   clear H; have hnb13 := NB182_183.out; have hnc13 := NB183_182.out; obtain ⟨hcz14_0, hcz14_1, hfz14_0, hfz14_1⟩ := xf2 (w := w6) BK182
   go_wp2_with (first | ((with_reducible refine gate_callee (f := 52) rfl ?_); refine goesL_ (some 11) rfl rfl Try.func52 (by kernel_rfl) rfl #[.agg #[.int .i64 a0_0, .slice A0_1 l0_1.length c0_1]] rfl (by (try simp only [List.map_toArray, List.map_cons, List.map_nil]); first | done | rfl | (simp only [List.length_drop, List.length_take]; rfl)) ?_; (with_reducible refine (impl_DiskOk.calls k a0_0 _ _ l0_1 false _ ?side1 ?side2 A7.out).mono ?_); (case side1 => exact xcb HR0_1); (case side2 => exact HC0_1.out); rintro e w15 ⟨rfl, hb⟩; refine ⟨_, rfl, ?_⟩; replace BK182 := xbb BK182 hb; replace BK183 := xbb BK183 hb; replace HB := xbs hb; (try clear hb); (try clear hb2); (try clear hk); (try clear hi)))
   go_meet
   case rel => exact ⟨_, (true), (by first | rfl | (simp; done) | (simp [*]; done)), H', ⟨by first | omega | exact Nat.le_refl _⟩, ⟨xblk⟩, ⟨xblk⟩, ⟨xbg⟩⟩
 case rest =>
  clear HC4
  try clear c1
  try clear p2
  try clear c4
  try clear c5
  try clear c8
  try clear c10
  try clear c13
  try clear hcz11_0
  try clear hcz11_1
  try clear hcz14_0
  try clear hcz14_1
  try clear hfz11_0
  try clear hfz11_1
  try clear hfz14_0
  try clear hfz14_1
  obtain ⟨kq, x17_3, rfl, HA, HJ3, BK182, BK183, HB⟩ := hcut
  cases kq with
  | zero => exact absurd HA.out (by simp [impl_DiskAppend.j0])
  | succ kj3 =>
   have H := HA.out; clear HA
   simp only [impl_DiskAppend.j0] at H
   by_cases c16 : x17_3 = true
   ·subst c16
    have H1 : (some (0, ([] : List (S134)), 1)) = some (r1, r2, r3) := by rw [if_pos rfl] at H; exact H
    clear H; have H := H1; clear H1
    simp only [Option.some.injEq, Prod.mk.injEq] at H
    obtain ⟨rfl, rfl, rfl⟩ := H
    have hnb17 := NB183_182.out; have hnc17 := NB182_183.out; obtain ⟨hcz18_0, hcz18_1, hfz18_0, hfz18_1⟩ := xf2 (w := wc) BK183
    go_wp2
    refine bodyPost_ret (results_ct rfl _ _ gb183 70 #[.int .i64 0, .slice none 0 0] (0, 0) _ rfl (by (with_reducible repeat (first | refine blk_drewN ?_ _ | refine blk_drew ?_ | refine blk_alloc ?_ _)); refine blk_put (cs := #[.int .i64 0, .slice none 0 0]) ?_ 1 _ rfl; (with_reducible repeat (first | refine blk_drewN ?_ _ | refine blk_drew ?_ | refine blk_alloc ?_ _)); refine blk_put (cs := #[.int .i64 0, .slice none 0 0]) ?_ 0 _ rfl; (with_reducible repeat (first | refine blk_drewN ?_ _ | refine blk_drew ?_ | refine blk_alloc ?_ _)); exact BK183.out) Try.underlying70 rfl (by kernel_rfl)) rfl ?_
    exact ⟨_, by first | rfl | (simp [errW_none, errW_some] <;> rfl) | (simp [*, errW_none, errW_some] <;> rfl), by first | exact Kd.R_nil _ _ _ _ _ | exact Kd.N_nil _ _ _ _ _ | exact Kd.V_nil _ _ _ _ _ | exact Kd.Q_nil _ _ _ _ _ | exact Kd.S_nil _ _ _ _ _, xbg⟩
   ·replace c16 := Bool.eq_false_iff.mpr c16
    subst c16
    have H1 : ((impl_sizeOf.f kj3 a0_0 l0_1).bind fun t186 => (if (wrap64 (t186 + (a2.size : Int))) > a0_0 then ((impl_copyDisk.f a0_0 l0_1).bind fun bt187 => (some (bt187.1, bt187.2, 3))) else ((impl_fileAt.f a0_0 l0_1 a1).bind fun t191 => (if t191 < 0 then ((impl_placed.f a0_0 l0_1 a1 (⟨#[]⟩ : ByteArray) a2).bind fun bt192 => (some (bt192.1, bt192.2, 0))) else ((impl_copyDisk.f a0_0 l0_1).bind fun bt196 => (if 0 ≤ t191 then (if t191 < (bt196.2.length : Int) then (if ((rd_T134 bt196.2 t191).f2).size + a2.size ≤ 9223372036854775807 then (some (bt196.1, (bt196.2.set (t191 : Int).toNat (⟨(rd_T134 bt196.2 t191).f0, (rd_T134 bt196.2 t191).f1, ((rd_T134 bt196.2 t191).f2) ++ a2⟩ : S134)), 0)) else (none)) else (none)) else (none))))))) = some (r1, r2, r3) := by rw [if_neg (show ¬ (false = true) by decide)] at H; exact H
    clear H; have H := H1; clear H1; replace H := Option.bind_eq_some_iff.mp H
    obtain ⟨t186, A190, H⟩ := H
    replace H : (if (wrap64 (t186 + (a2.size : Int))) > a0_0 then ((impl_copyDisk.f a0_0 l0_1).bind fun bt187 => (some (bt187.1, bt187.2, 3))) else ((impl_fileAt.f a0_0 l0_1 a1).bind fun t191 => (if t191 < 0 then ((impl_placed.f a0_0 l0_1 a1 (⟨#[]⟩ : ByteArray) a2).bind fun bt192 => (some (bt192.1, bt192.2, 0))) else ((impl_copyDisk.f a0_0 l0_1).bind fun bt196 => (if 0 ≤ t191 then (if t191 < (bt196.2.length : Int) then (if ((rd_T134 bt196.2 t191).f2).size + a2.size ≤ 9223372036854775807 then (some (bt196.1, (bt196.2.set (t191 : Int).toNat (⟨(rd_T134 bt196.2 t191).f0, (rd_T134 bt196.2 t191).f1, ((rd_T134 bt196.2 t191).f2) ++ a2⟩ : S134)), 0)) else (none)) else (none)) else (none)))))) = some (r1, r2, r3) := H; have A19 := aM A190; clear A190
    by_cases c20 : (wrap64 (t186 + (a2.size : Int))) > a0_0
    ·rw [if_pos c20] at H
     have c20b0 : decide (a0_0 < (wrap64 (t186 + (a2.size : Int)))) = true := decide_eq_true c20; clear c20; replace H := Option.bind_eq_some_iff.mp H
     obtain ⟨⟨t187, t188⟩, A210, H⟩ := H
     replace H : (some (t187, t188, 3)) = some (r1, r2, r3) := H; have A21 := aM A210; clear A210
     simp only [Option.some.injEq, Prod.mk.injEq] at H
     obtain ⟨rfl, rfl, rfl⟩ := H
     try go_wp2
     replace BK182 := aM (blk_drew BK182.out); replace BK183 := aM (blk_drew BK183.out); replace HB := aM (below_drew1 HB.out)
     refine start_ (n := 8) (S := fun w' => w'.cell? ⟨gb182, 0, none⟩ = some (.int .i64 a0_0) ∧ w'.cell? ⟨gb182, 1, none⟩ = some (.slice A0_1 l0_1.length c0_1)) (ds := []) #[false, false, false, false, false, false, false, false] (by kernel_rfl) rfl rfl ⟨xc BK182 0 rfl, xc BK182 1 rfl⟩ (fun hHeld => ?_); refine with_tabW impl_DiskAppend.tab3 impl_DiskAppend.bits3 (fun HT_ HW_ => ?_)
     generalize wc.drew = w22 at BK182 BK183 HB hHeld ⊢
     refine pv_ 2 21 (h := ?_)
     refine pv_ 3 22 (h := ?_)
     refine pv_ 5 24 (h := ?_)
     refine tk_ 0 19 (h := ?_)
     refine tk_ 6 25 (h := ?_)
     refine on_ 1 20 (h := fun K hK => ?_)
     refine goesY Try.func114 #[.agg #[.int .i64 a0_0, .slice A0_1 l0_1.length c0_1]] ?_
     with_reducible refine (impl_sizeOf.calls kj3 a0_0 _ _ l0_1 t186 _ ?side1 ?side2 A19.out).mono ?_
     (case side1 => exact xcb HR0_1)
     (case side2 => exact HC0_1.out)
     rintro e w23 ⟨rfl, hb⟩
     refine ⟨_, rfl, ?_⟩
     replace BK182 := xbb BK182 hb; replace BK183 := xbb BK183 hb; replace HB := xbs hb
     (try clear hb); (try clear hb2); (try clear hk); (try clear hi)
     refine hK.out _ _ ⟨xc BK182 0 rfl, xc BK182 1 rfl⟩ (fun hHeld => ?_)
     clear hK K
     refine norm_ (a' := ?_) ?_ ?_
     rotate_left
     ·show Act.put _ (some 20) _ = _
      simp only [Act.put, List.setIfInBounds_toArray, List.set_cons_zero, List.set_cons_succ, i64_w, i32_w]
      rfl
     refine pv_ 4 23 (h := ?_)
     refine pv_ 7 26 (h := ?_)
     refine done_ (done_of HT_.out (by kernel_rfl)) ?_
     have hnb24 := NB182_183.out; have hnc24 := NB183_182.out; obtain ⟨hcz25_0, hcz25_1, hfz25_0, hfz25_1⟩ := xf2 (w := w23) BK182
     try go_wp2_with (first | ((with_reducible refine gate_callee (f := 115) rfl ?_); refine goesL_ (some 28) rfl rfl Try.func115 (by kernel_rfl) rfl #[.agg #[.int .i64 a0_0, .slice A0_1 l0_1.length c0_1]] rfl (by (try simp only [List.map_toArray, List.map_cons, List.map_nil]); first | done | rfl | (simp only [List.length_drop, List.length_take]; rfl)) ?_; (with_reducible refine (impl_copyDisk.calls a0_0 _ _ l0_1 t187 t188 _ ?side1 ?side2 A21.out).mono ?_); (case side1 => exact xcb HR0_1); (case side2 => exact HC0_1.out); rintro e w26 ⟨v189, rfl, ho0, hb⟩; refine ⟨_, rfl, ?_⟩; have HO190 := aM (Kd.R_lower ho0 (below_size xbg)); replace BK182 := xbb BK182 hb; replace BK183 := xbb BK183 hb; replace HB := xbs hb; (try clear hb); (try clear hb2); (try clear hk); (try clear hi); (try clear ho0); obtain ⟨hcz27_0, hcz27_1, hfz27_0, hfz27_1⟩ := xf2 (w := w26) BK183; obtain ⟨Ao28, co28, eo28⟩ := Kd.R_slice HO190.out; subst eo28))
     refine bodyPost_ret (results_ct rfl _ _ gb183 70 #[.int .i64 t187, .slice Ao28 t188.length co28] (0, 0) _ rfl (by (with_reducible repeat (first | refine blk_drewN ?_ _ | refine blk_drew ?_ | refine blk_alloc ?_ _)); refine blk_put (cs := #[.int .i64 t187, .slice none 0 0]) ?_ 1 _ rfl; (with_reducible repeat (first | refine blk_drewN ?_ _ | refine blk_drew ?_ | refine blk_alloc ?_ _)); refine blk_put (cs := #[.int .i64 0, .slice none 0 0]) ?_ 0 _ rfl; (with_reducible repeat (first | refine blk_drewN ?_ _ | refine blk_drew ?_ | refine blk_alloc ?_ _)); exact BK183.out) Try.underlying70 rfl (by kernel_rfl)) rfl ?_
     exact ⟨_, by first | rfl | (simp [errW_none, errW_some] <;> rfl) | (simp [*, errW_none, errW_some] <;> rfl), by (with_reducible repeat (first | apply Kd.R_alloc | apply Kd.R_drewN | apply Kd.R_drew)); exact Kd.R_mono (Kd.R_far (p := ⟨gb183, 1, none⟩) (Kd.R_far (p := ⟨gb183, 0, none⟩) (Kd.R_types HO190.out BK183.out (by decide)) (fun _ hk => hk.2) (.int .i64 t187)) (fun _ hk => hk.2) (.slice Ao28 t188.length co28)) (fun _ hk => trivial), xbg⟩
    ·rw [if_neg c20] at H
     have c20b0 : decide (a0_0 < (wrap64 (t186 + (a2.size : Int)))) = false := decide_eq_false c20; clear c20; replace H := Option.bind_eq_some_iff.mp H
     obtain ⟨t191, A290, H⟩ := H
     replace H : (if t191 < 0 then ((impl_placed.f a0_0 l0_1 a1 (⟨#[]⟩ : ByteArray) a2).bind fun bt192 => (some (bt192.1, bt192.2, 0))) else ((impl_copyDisk.f a0_0 l0_1).bind fun bt196 => (if 0 ≤ t191 then (if t191 < (bt196.2.length : Int) then (if ((rd_T134 bt196.2 t191).f2).size + a2.size ≤ 9223372036854775807 then (some (bt196.1, (bt196.2.set (t191 : Int).toNat (⟨(rd_T134 bt196.2 t191).f0, (rd_T134 bt196.2 t191).f1, ((rd_T134 bt196.2 t191).f2) ++ a2⟩ : S134)), 0)) else (none)) else (none)) else (none)))) = some (r1, r2, r3) := H; have A29 := aM A290; clear A290
     by_cases c30 : t191 < 0
     ·rw [if_pos c30] at H
      have c30b0 : decide (t191 < 0) = true := decide_eq_true c30; clear c30; replace H := Option.bind_eq_some_iff.mp H
      obtain ⟨⟨t192, t193⟩, A310, H⟩ := H
      replace H : (some (t192, t193, 0)) = some (r1, r2, r3) := H; have A31 := aM A310; clear A310
      simp only [Option.some.injEq, Prod.mk.injEq] at H
      obtain ⟨rfl, rfl, rfl⟩ := H
      try go_wp2
      replace BK182 := aM (blk_drew BK182.out); replace BK183 := aM (blk_drew BK183.out); replace HB := aM (below_drew1 HB.out)
      refine start_ (n := 8) (S := fun w' => w'.cell? ⟨gb182, 0, none⟩ = some (.int .i64 a0_0) ∧ w'.cell? ⟨gb182, 1, none⟩ = some (.slice A0_1 l0_1.length c0_1)) (ds := []) #[false, false, false, false, false, false, false, false] (by kernel_rfl) rfl rfl ⟨xc BK182 0 rfl, xc BK182 1 rfl⟩ (fun hHeld => ?_); refine with_tabW impl_DiskAppend.tab3 impl_DiskAppend.bits3 (fun HT_ HW_ => ?_)
      generalize wc.drew = w32 at BK182 BK183 HB hHeld ⊢
      refine pv_ 2 21 (h := ?_)
      refine pv_ 3 22 (h := ?_)
      refine pv_ 5 24 (h := ?_)
      refine tk_ 0 19 (h := ?_)
      refine tk_ 6 25 (h := ?_)
      refine on_ 1 20 (h := fun K hK => ?_)
      refine goesY Try.func114 #[.agg #[.int .i64 a0_0, .slice A0_1 l0_1.length c0_1]] ?_
      with_reducible refine (impl_sizeOf.calls kj3 a0_0 _ _ l0_1 t186 _ ?side1 ?side2 A19.out).mono ?_
      (case side1 => exact xcb HR0_1)
      (case side2 => exact HC0_1.out)
      rintro e w33 ⟨rfl, hb⟩
      refine ⟨_, rfl, ?_⟩
      replace BK182 := xbb BK182 hb; replace BK183 := xbb BK183 hb; replace HB := xbs hb
      (try clear hb); (try clear hb2); (try clear hk); (try clear hi)
      refine hK.out _ _ ⟨xc BK182 0 rfl, xc BK182 1 rfl⟩ (fun hHeld => ?_)
      clear hK K
      refine norm_ (a' := ?_) ?_ ?_
      rotate_left
      ·show Act.put _ (some 20) _ = _
       simp only [Act.put, List.setIfInBounds_toArray, List.set_cons_zero, List.set_cons_succ, i64_w, i32_w]
       rfl
      refine pv_ 4 23 (h := ?_)
      refine pv_ 7 26 (h := ?_)
      refine done_ (done_of HT_.out (by kernel_rfl)) ?_
      have hnb34 := NB182_183.out; have hnc34 := NB183_182.out; obtain ⟨hcz35_0, hcz35_1, hfz35_0, hfz35_1⟩ := xf2 (w := w33) BK182
      try go_wp2_with (first | ((with_reducible refine gate_callee (f := 116) rfl ?_); refine goesL_ (some 31) rfl rfl Try.func116 (by kernel_rfl) rfl #[.agg #[.int .i64 a0_0, .slice A0_1 l0_1.length c0_1], .int .i64 a1] rfl (by (try simp only [List.map_toArray, List.map_cons, List.map_nil]); first | done | rfl | (simp only [List.length_drop, List.length_take]; rfl)) ?_; (with_reducible refine (impl_fileAt.calls a0_0 _ _ l0_1 a1 t191 _ ?side1 ?side2 A29.out).mono ?_); (case side1 => exact xcb HR0_1); (case side2 => exact HC0_1.out); rintro e w36 ⟨rfl, hb⟩; refine ⟨_, rfl, ?_⟩; replace BK182 := xbb BK182 hb; replace BK183 := xbb BK183 hb; replace HB := xbs hb; (try clear hb); (try clear hb2); (try clear hk); (try clear hi); obtain ⟨hcz37_0, hcz37_1, hfz37_0, hfz37_1⟩ := xf2 (w := w36) BK182) | ((with_reducible refine gate_callee (f := 117) rfl ?_); refine goesL_ (some 38) rfl rfl Try.func117 (by kernel_rfl) rfl #[.agg #[.int .i64 a0_0, .slice A0_1 l0_1.length c0_1], .agg #[.int .i64 a1, .string (⟨#[]⟩ : ByteArray), .string a2]] rfl (by (try simp only [List.map_toArray, List.map_cons, List.map_nil]); first | done | rfl | (simp only [List.length_drop, List.length_take]; rfl)) ?_; (with_reducible refine (impl_placed.calls a0_0 _ _ l0_1 a1 (⟨#[]⟩ : ByteArray) a2 t192 t193 _ ?side1 ?side2 A31.out).mono ?_); (case side1 => exact xcb HR0_1); (case side2 => exact HC0_1.out); rintro e w38 ⟨v194, rfl, ho0, hb⟩; refine ⟨_, rfl, ?_⟩; have HO195 := aM (Kd.R_lower ho0 (below_size xbg)); replace BK182 := xbb BK182 hb; replace BK183 := xbb BK183 hb; replace HB := xbs hb; (try clear hb); (try clear hb2); (try clear hk); (try clear hi); (try clear ho0); obtain ⟨hcz39_0, hcz39_1, hfz39_0, hfz39_1⟩ := xf2 (w := w38) BK183; obtain ⟨Ao40, co40, eo40⟩ := Kd.R_slice HO195.out; subst eo40))
      refine bodyPost_ret (results_ct rfl _ _ gb183 70 #[.int .i64 t192, .slice Ao40 t193.length co40] (0, 0) _ rfl (by (with_reducible repeat (first | refine blk_drewN ?_ _ | refine blk_drew ?_ | refine blk_alloc ?_ _)); refine blk_put (cs := #[.int .i64 t192, .slice none 0 0]) ?_ 1 _ rfl; (with_reducible repeat (first | refine blk_drewN ?_ _ | refine blk_drew ?_ | refine blk_alloc ?_ _)); refine blk_put (cs := #[.int .i64 0, .slice none 0 0]) ?_ 0 _ rfl; (with_reducible repeat (first | refine blk_drewN ?_ _ | refine blk_drew ?_ | refine blk_alloc ?_ _)); exact BK183.out) Try.underlying70 rfl (by kernel_rfl)) rfl ?_
      exact ⟨_, by first | rfl | (simp [errW_none, errW_some] <;> rfl) | (simp [*, errW_none, errW_some] <;> rfl), by (with_reducible repeat (first | apply Kd.R_alloc | apply Kd.R_drewN | apply Kd.R_drew)); exact Kd.R_mono (Kd.R_far (p := ⟨gb183, 1, none⟩) (Kd.R_far (p := ⟨gb183, 0, none⟩) (Kd.R_types HO195.out BK183.out (by decide)) (fun _ hk => hk.2) (.int .i64 t192)) (fun _ hk => hk.2) (.slice Ao40 t193.length co40)) (fun _ hk => trivial), xbg⟩
     ·rw [if_neg c30] at H
      have c30b0 : decide (t191 < 0) = false := decide_eq_false c30; clear c30; replace H := Option.bind_eq_some_iff.mp H
      obtain ⟨⟨t196, t197⟩, A410, H⟩ := H
      replace H : (if 0 ≤ t191 then (if t191 < (t197.length : Int) then (if ((rd_T134 t197 t191).f2).size + a2.size ≤ 9223372036854775807 then (some (t196, (t197.set (t191 : Int).toNat (⟨(rd_T134 t197 t191).f0, (rd_T134 t197 t191).f1, ((rd_T134 t197 t191).f2) ++ a2⟩ : S134)), 0)) else (none)) else (none)) else (none)) = some (r1, r2, r3) := H; have A41 := aM A410; clear A410
      by_cases c42 : 0 ≤ t191
      ·rw [if_pos c42] at H
       have c42b0 : decide (0 ≤ t191) = true := decide_eq_true c42; clear c42
       by_cases c43 : t191 < (t197.length : Int)
       ·rw [if_pos c43] at H
        have c43b0 : decide (t191 < (t197.length : Int)) = true := decide_eq_true c43; clear c43
        by_cases c44 : ((rd_T134 t197 t191).f2).size + a2.size ≤ 9223372036854775807
        ·rw [if_pos c44] at H
         have c44b0 := eq_true c44; have c44b1 : decide (((rd_T134 t197 t191).f2).size + a2.size ≤ 9223372036854775807) = true := decide_eq_true c44
         try have c44b2 : (9223372036854775807 < ((rd_T134 t197 t191).f2).size + a2.size) = False := eq_false (Nat.not_lt.2 c44)
         obtain ⟨y202, hy202⟩ : ∃ y_ : List (S134), y_ = (t197.set (t191 : Int).toNat (⟨(rd_T134 t197 t191).f0, (rd_T134 t197 t191).f1, ((rd_T134 t197 t191).f2) ++ a2⟩ : S134)) := ⟨_, rfl⟩
         replace H : (some (t196, y202, 0)) = some (r1, r2, r3) := by first | (rw [hy202]; with_reducible exact H) | (have H2_ := (Option.bind_some _ _).symm.trans H; rw [hy202]; with_reducible exact H2_) | (have H2_ := (Option.bind_some _ _).symm.trans H; with_reducible exact H2_) | with_reducible exact H | (rw [hy202]; exact H) | exact H
         have Ny202 := aM hy202; clear hy202
         simp only [Option.some.injEq, Prod.mk.injEq] at H
         obtain ⟨rfl, rfl, rfl⟩ := H
         try go_wp2
         replace BK182 := aM (blk_drew BK182.out); replace BK183 := aM (blk_drew BK183.out); replace HB := aM (below_drew1 HB.out)
         refine start_ (n := 8) (S := fun w' => w'.cell? ⟨gb182, 0, none⟩ = some (.int .i64 a0_0) ∧ w'.cell? ⟨gb182, 1, none⟩ = some (.slice A0_1 l0_1.length c0_1)) (ds := []) #[false, false, false, false, false, false, false, false] (by kernel_rfl) rfl rfl ⟨xc BK182 0 rfl, xc BK182 1 rfl⟩ (fun hHeld => ?_); refine with_tabW impl_DiskAppend.tab3 impl_DiskAppend.bits3 (fun HT_ HW_ => ?_)
         generalize wc.drew = w46 at BK182 BK183 HB hHeld ⊢
         refine pv_ 2 21 (h := ?_)
         refine pv_ 3 22 (h := ?_)
         refine pv_ 5 24 (h := ?_)
         refine tk_ 0 19 (h := ?_)
         refine tk_ 6 25 (h := ?_)
         refine on_ 1 20 (h := fun K hK => ?_)
         refine goesY Try.func114 #[.agg #[.int .i64 a0_0, .slice A0_1 l0_1.length c0_1]] ?_
         with_reducible refine (impl_sizeOf.calls kj3 a0_0 _ _ l0_1 t186 _ ?side1 ?side2 A19.out).mono ?_
         (case side1 => exact xcb HR0_1)
         (case side2 => exact HC0_1.out)
         rintro e w47 ⟨rfl, hb⟩
         refine ⟨_, rfl, ?_⟩
         replace BK182 := xbb BK182 hb; replace BK183 := xbb BK183 hb; replace HB := xbs hb
         (try clear hb); (try clear hb2); (try clear hk); (try clear hi)
         refine hK.out _ _ ⟨xc BK182 0 rfl, xc BK182 1 rfl⟩ (fun hHeld => ?_)
         clear hK K
         refine norm_ (a' := ?_) ?_ ?_
         rotate_left
         ·show Act.put _ (some 20) _ = _
          simp only [Act.put, List.setIfInBounds_toArray, List.set_cons_zero, List.set_cons_succ, i64_w, i32_w]
          rfl
         refine pv_ 4 23 (h := ?_)
         refine pv_ 7 26 (h := ?_)
         refine done_ (done_of HT_.out (by kernel_rfl)) ?_
         have hnb48 := NB182_183.out; have hnc48 := NB183_182.out; obtain ⟨hcz49_0, hcz49_1, hfz49_0, hfz49_1⟩ := xf2 (w := w47) BK182
         try go_wp2_with (first | ((with_reducible refine gate_callee (f := 116) rfl ?_); refine goesL_ (some 31) rfl rfl Try.func116 (by kernel_rfl) rfl #[.agg #[.int .i64 a0_0, .slice A0_1 l0_1.length c0_1], .int .i64 a1] rfl (by (try simp only [List.map_toArray, List.map_cons, List.map_nil]); first | done | rfl | (simp only [List.length_drop, List.length_take]; rfl)) ?_; (with_reducible refine (impl_fileAt.calls a0_0 _ _ l0_1 a1 t191 _ ?side1 ?side2 A29.out).mono ?_); (case side1 => exact xcb HR0_1); (case side2 => exact HC0_1.out); rintro e w50 ⟨rfl, hb⟩; refine ⟨_, rfl, ?_⟩; replace BK182 := xbb BK182 hb; replace BK183 := xbb BK183 hb; replace HB := xbs hb; (try clear hb); (try clear hb2); (try clear hk); (try clear hi); obtain ⟨hcz51_0, hcz51_1, hfz51_0, hfz51_1⟩ := xf2 (w := w50) BK182) | ((with_reducible refine gate_callee (f := 115) rfl ?_); refine goesL_ (some 40) rfl rfl Try.func115 (by kernel_rfl) rfl #[.agg #[.int .i64 a0_0, .slice A0_1 l0_1.length c0_1]] rfl (by (try simp only [List.map_toArray, List.map_cons, List.map_nil]); first | done | rfl | (simp only [List.length_drop, List.length_take]; rfl)) ?_; (with_reducible refine (impl_copyDisk.calls a0_0 _ _ l0_1 t196 t197 _ ?side1 ?side2 A41.out).mono ?_); (case side1 => exact xcb HR0_1); (case side2 => exact HC0_1.out); rintro e w52 ⟨v198, rfl, ho0, hb⟩; refine ⟨_, rfl, ?_⟩; have HO199 := aM (Kd.R_lower ho0 (below_size xbg)); replace BK182 := xbb BK182 hb; replace BK183 := xbb BK183 hb; replace HB := xbs hb; (try clear hb); (try clear hb2); (try clear hk); (try clear hi); (try clear ho0)) | ((with_reducible refine gate_dst (N := 9) rfl ?_); refine box_event ?hg (N := 9) ?hd (cs := #[.int .i64 0, .slice none 0 0]) (t := 70) ?hr ?_; (case hd => rfl); (case hg => rfl); (case hr => first | (go_simp; done) | (go_simp; rfl)); intro gb200 hg w53 hbox hb; replace HO199 := aM (Kd.R_below (xr HO199) hb); have GW200 := aM (xge hg); have GE200 := aM (xge hg); replace HB := xbs hb; have NB182_200 := aM ((by rw [hg]; exact Nat.ne_of_lt (blk_lt (g := gb182) (o := .cells #[.int .i64 a0_0, .slice A0_1 l0_1.length c0_1] 70 (0, 0)) xblk) : gb182 ≠ gb200)); have NB200_182 := aM ((by rw [hg]; exact Nat.ne_of_gt (blk_lt (g := gb182) (o := .cells #[.int .i64 a0_0, .slice A0_1 l0_1.length c0_1] 70 (0, 0)) xblk) : gb200 ≠ gb182)); have NB183_200 := aM ((by rw [hg]; exact Nat.ne_of_lt (blk_lt (g := gb183) (o := .cells #[.int .i64 0, .slice none 0 0] 70 (0, 0)) xblk) : gb183 ≠ gb200)); have NB200_183 := aM ((by rw [hg]; exact Nat.ne_of_gt (blk_lt (g := gb183) (o := .cells #[.int .i64 0, .slice none 0 0] 70 (0, 0)) xblk) : gb200 ≠ gb183)); replace BK182 := xbb BK182 hb; replace BK183 := xbb BK183 hb; have BK200 := aM (hbox); clear hb hbox hg; have hnb54 := NB200_182.out; have hnc54 := NB182_200.out; have hnb55 := NB200_183.out; have hnc55 := NB183_200.out; obtain ⟨hcz56_0, hcz56_1, hfz56_0, hfz56_1⟩ := xf2 (w := w53) BK200; obtain ⟨Ao57, co57, eo57⟩ := Kd.R_slice HO199.out; subst eo57) | ((with_reducible refine gate_store (t := 70) (p := 9) rfl ?_); refine store_event (t := 70) (p := 9) (v := ?vo_w58) (w1 := ((w53.setCell ⟨gb200, 0, none⟩ (.int .i64 t196)).setCell ⟨gb200, 1, none⟩ (.slice Ao57 t197.length co57))) ?hg ?ho ?hn ?hr ?_; (case ho | hg | hn => rfl); (case hr => first | (go_simp; done) | (go_simp; rfl)); intro w58 hw; replace HO199 : Aside0 (Kd.R k134 134 w58 w.heap.size (fun _ => True) (.slice Ao57 t197.length co57) t197) := ⟨(by rw [hw]; exact (by (with_reducible repeat (first | apply Kd.R_alloc | apply Kd.R_drewN | apply Kd.R_drew)); exact Kd.R_mono (Kd.R_far (p := ⟨gb200, 1, none⟩) (Kd.R_far (p := ⟨gb200, 0, none⟩) (Kd.R_types HO199.out BK200.out (by decide)) (fun _ hk => hk.2) (.int .i64 t196)) (fun _ hk => hk.2) (.slice Ao57 t197.length co57)) (fun _ hk => trivial)))⟩; replace BK182 : Aside0 (w58.heap[gb182]? = some (.cells #[.int .i64 a0_0, .slice A0_1 l0_1.length c0_1] 70 (0, 0))) := ⟨(by rw [hw]; exact (by (with_reducible repeat (first | refine blk_drewN ?_ _ | refine blk_drew ?_ | refine blk_alloc ?_ _)); refine blk_far ?_ NB182_200.out _; (with_reducible repeat (first | refine blk_drewN ?_ _ | refine blk_drew ?_ | refine blk_alloc ?_ _)); refine blk_far ?_ NB182_200.out _; (with_reducible repeat (first | refine blk_drewN ?_ _ | refine blk_drew ?_ | refine blk_alloc ?_ _)); exact BK182.out))⟩; replace BK183 : Aside0 (w58.heap[gb183]? = some (.cells #[.int .i64 0, .slice none 0 0] 70 (0, 0))) := ⟨(by rw [hw]; exact (by (with_reducible repeat (first | refine blk_drewN ?_ _ | refine blk_drew ?_ | refine blk_alloc ?_ _)); refine blk_far ?_ NB183_200.out _; (with_reducible repeat (first | refine blk_drewN ?_ _ | refine blk_drew ?_ | refine blk_alloc ?_ _)); refine blk_far ?_ NB183_200.out _; (with_reducible repeat (first | refine blk_drewN ?_ _ | refine blk_drew ?_ | refine blk_alloc ?_ _)); exact BK183.out))⟩; replace BK200 : Aside0 (w58.heap[gb200]? = some (.cells #[.int .i64 t196, .slice Ao57 t197.length co57] 70 (0, 0))) := ⟨(by rw [hw]; exact (by (with_reducible repeat (first | refine blk_drewN ?_ _ | refine blk_drew ?_ | refine blk_alloc ?_ _)); refine blk_put (cs := #[.int .i64 t196, .slice none 0 0]) ?_ 1 _ rfl; (with_reducible repeat (first | refine blk_drewN ?_ _ | refine blk_drew ?_ | refine blk_alloc ?_ _)); refine blk_put (cs := #[.int .i64 0, .slice none 0 0]) ?_ 0 _ rfl; (with_reducible repeat (first | refine blk_drewN ?_ _ | refine blk_drew ?_ | refine blk_alloc ?_ _)); exact BK200.out))⟩; replace HB : Aside0 (Below w.heap.size w w58) := ⟨(by rw [hw]; exact xbg)⟩; clear hw; obtain ⟨hcz59_0, hcz59_1, hfz59_0, hfz59_1⟩ := xf2 (w := w58) BK200; have p201 : 0 ≤ (t191 : Int) := oda; have q201 : t191 < (t197.length : Int) := oda; obtain ⟨ad201, e201, hx201_0, hx201_1, hx201_2⟩ := at_T134 (Kd.R_reads' HO199.out).2.2 t191 p201 q201; cases e201; replace p201 := eq_true p201; replace q201 := eq_true q201; have p45 : 0 ≤ (t191 : Int) := oda; have q45 : (t191 : Int) < ((t197.length : Int) : Int) := oda; obtain ⟨go45, co45, eo45, gb45, gl45, cl45, HG45⟩ := Kd.R_form HO199.out (by omega); (first | cases eo45 | (injection eo45 with ea_ en_ ec_; (first | subst ea_ | (injection ea_ with ea_; subst ea_)); subst ec_; clear en_)); have GB45 := aM gb45; have GG45 := aM HG45; clear gb45 gl45 HG45; (first | simp only [add_plain] at hx201_0 | skip); (first | simp only [add_plain] at hx201_1 | skip); (first | simp only [add_plain] at hx201_2 | skip); obtain ⟨ce45, hcl45, hM45, hcc45, hfr45⟩ := Kd.R_elem HO199.out z134 (t191 : Int) p45 q45; obtain rfl := k134_openM hM45; have hx45_0 : w58.cell? ⟨go45, (t191 : Int).toNat * 3, none⟩ = some (.int .i64 ((rd_T134 t197 t191).f0)) := hcc45 0 _ rfl; have hx45_1 : w58.cell? ⟨go45, (t191 : Int).toNat * 3 + 1, none⟩ = some (.string ((rd_T134 t197 t191).f1)) := hcc45 1 _ rfl; have hx45_2 : w58.cell? ⟨go45, (t191 : Int).toNat * 3 + 2, none⟩ = some (.string ((rd_T134 t197 t191).f2)) := hcc45 2 _ rfl; have hf45_0 : w58.frozen? ⟨go45, (t191 : Int).toNat * 3, none⟩ = false := hfr45 0; have hf45_1 : w58.frozen? ⟨go45, (t191 : Int).toNat * 3 + 1, none⟩ = false := hfr45 1; have hf45_2 : w58.frozen? ⟨go45, (t191 : Int).toNat * 3 + 2, none⟩ = false := hfr45 2; clear hcl45 hcc45 hfr45 hM45; replace p45 := eq_true p45; replace q45 := eq_true q45; have HX60 := aM (show Kd.R k134 134 w58 w.heap.size (fun _ => True) (.slice (some ⟨go45, 0, none⟩) t197.length co57) t197 from (xr HO199)); obtain ⟨ce60, hcl60, hM60, hcc60, hfr60⟩ := Kd.R_elem HX60.out z134 (t191 : Int) (oda) (by have h_ : (t191 : Int) < ((t197.length : Int) : Int) := oda; first | exact h_ | (have e_ := (Kd.R_reads' HO199.out).1; omega) | simpa using h_); obtain rfl := k134_openM hM60; have HP60 := Kd.R_seg HX60.out (t191 : Int) (oda) (by have h_ : (t191 : Int) < ((t197.length : Int) : Int) := oda; first | exact h_ | (have e_ := (Kd.R_reads' HO199.out).1; omega) | simpa using h_) (seg := [.string (((rd_T134 t197 t191).f2) ++ a2)]) (j := 2) hcl60 hcc60 (show 3 ≤ 3 from by decide) (x' := (⟨(rd_T134 t197 t191).f0, (rd_T134 t197 t191).f1, ((rd_T134 t197 t191).f2) ++ a2⟩ : S134)) (k134_mkM _ _ _ (⟨(rd_T134 t197 t191).f0, (rd_T134 t197 t191).f1, ((rd_T134 t197 t191).f2) ++ a2⟩ : S134) ) (fun _ hk => hk); have hx60_2 := hcc60 2 _ rfl; (try simp only [show (k134).sz = 3 from rfl, Nat.mul_one, Nat.add_zero] at hx60_2); have hf60_2 := hfr60 2; (try simp only [show (k134).sz = 3 from rfl, Nat.mul_one, Nat.add_zero] at hf60_2); clear hcl60 hcc60 hfr60 hM60) | ((with_reducible refine gate_store (t := 9) (p := 50) rfl ?_); refine store_event (t := 9) (p := 50) (v := ?vo_w61) (w1 := (w58.setCell ⟨go45, (t191 : Int).toNat * 3 + 2, none⟩ (.string (((rd_T134 t197 t191).f2) ++ a2)))) ?hg ?ho ?hn ?hr ?_; (case ho | hg | hn => rfl); (case hr => first | (go_simp; done) | (go_simp; rfl)); intro w61 hw; have hg : w58.grownBy w61 (some go45) := (by rw [hw]; exact HP60.2); have hp_ : Kd.R k134 134 w61 w.heap.size (fun _ => True) (.slice (some ⟨go45, 0, none⟩) t197.length co57) y202 := (by rw [hw, Ny202.out]; exact HP60.1); clear HP60; have n0_ := aM (blk_grown (g := gb182) (o := .cells #[.int .i64 a0_0, .slice A0_1 l0_1.length c0_1] 70 (0, 0)) xblk hg (Kd.R_ne HO199.out BK182.out (by decide))); have n1_ := aM (blk_grown (g := gb183) (o := .cells #[.int .i64 0, .slice none 0 0] 70 (0, 0)) xblk hg (Kd.R_ne HO199.out BK183.out (by decide))); have n2_ := aM (hp_); have n3_ := aM (blk_grown (g := gb200) (o := .cells #[.int .i64 t196, .slice (some ⟨go45, 0, none⟩) t197.length co57] 70 (0, 0)) xblk hg (Kd.R_ne HO199.out BK200.out (by decide))); have n4_ := aM ((by rw [hw]; exact below_set (HB.out) GB45.out : Below w.heap.size w w61)); clear BK182; clear BK183; clear HO199; clear BK200; clear HB; have BK182 := n0_; have BK183 := n1_; have HO199 := n2_; have BK200 := n3_; have HB := n4_; clear n0_ n1_ n2_ n3_ n4_; clear hg hw hp_; obtain ⟨hcz62_0, hcz62_1, hfz62_0, hfz62_1⟩ := xf2 (w := w61) BK200; obtain ⟨hcz63_0, hcz63_1, hfz63_0, hfz63_1⟩ := xf2 (w := w61) BK183))
         refine bodyPost_ret (results_ct rfl _ _ gb183 70 #[.int .i64 t196, .slice (some ⟨go45, 0, none⟩) t197.length co57] (0, 0) _ rfl (by (with_reducible repeat (first | refine blk_drewN ?_ _ | refine blk_drew ?_ | refine blk_alloc ?_ _)); refine blk_put (cs := #[.int .i64 t196, .slice none 0 0]) ?_ 1 _ rfl; (with_reducible repeat (first | refine blk_drewN ?_ _ | refine blk_drew ?_ | refine blk_alloc ?_ _)); refine blk_put (cs := #[.int .i64 0, .slice none 0 0]) ?_ 0 _ rfl; (with_reducible repeat (first | refine blk_drewN ?_ _ | refine blk_drew ?_ | refine blk_alloc ?_ _)); exact BK183.out) Try.underlying70 rfl (by kernel_rfl)) rfl ?_
         exact ⟨_, by first | rfl | (simp [errW_none, errW_some] <;> rfl) | (simp [*, errW_none, errW_some] <;> rfl), by (with_reducible repeat (first | apply Kd.R_alloc | apply Kd.R_drewN | apply Kd.R_drew)); exact Kd.R_mono (Kd.R_far (p := ⟨gb183, 1, none⟩) (Kd.R_far (p := ⟨gb183, 0, none⟩) (Kd.R_types HO199.out BK183.out (by decide)) (fun _ hk => hk.2) (.int .i64 t196)) (fun _ hk => hk.2) (.slice (some ⟨go45, 0, none⟩) t197.length co57)) (fun _ hk => trivial), xbg⟩
        ·rw [if_neg c44] at H
         exact absurd H (by simp)
       ·rw [if_neg c43] at H
        exact absurd H (by simp)
      ·rw [if_neg c42] at H
       exact absurd H (by simp)

-- NOT PRINTED: function 121 (impl_File_121)

end Go.Proofs.Ytnjpfllmcmomoaa.QFnFiles
