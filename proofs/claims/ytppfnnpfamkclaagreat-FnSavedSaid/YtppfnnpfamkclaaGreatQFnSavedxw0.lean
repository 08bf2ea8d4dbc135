/- Weak contracts: what only the draws reach ends, and keeps within its bounds. No condition. -/
import Derived.Test.YtppfnnpfamkclaaGreatPureFnSaved
import Derived.Deep.WholeRow
namespace Go.Proofs.YtppfnnpfamkclaaGreat.QFnSaved
open Go.RowKit Go.Proofs.YtppfnnpfamkclaaGreat.Pure Go.Proofs.YtppfnnpfamkclaaGreatW.PrintWords Go.Proofs.YtppfnnpfamkclaaGreatW.PrintLast Go.Proofs.YtppfnnpfamkclaaGreatW.PrintMore
set_option linter.unusedVariables false
set_option linter.unusedSimpArgs false
def Dr (w0 w w' : World) (g : Nat) : Prop := (∃ l a b, IsS70 w0 w' g l a b ∧ (0 ≤ a ∧ a ≤ 9223372036854775807) ∧ l.length ≤ 140737488355328) ∧ Below w0.heap.size w0 w' ∧ KeepBut w w' g none
theorem below_c (g : Nat) (n : Int) (w0 : World) {w1 w : World} (h : Dr w0 w1 w g) :
 Calls Tryz.prog 18 #[.pointer (some ⟨g, 0, none⟩), .int .i64 n] w fun e w' => ∃ x, e = .returned (.int .i64 x) ∧ (0 ≤ x ∧ (0 < n → x < n)) ∧ Dr w0 w w' g := by
 obtain ⟨⟨l, a, b, hI, ha, hl⟩, hB, hK⟩ := h
 obtain ⟨x, a', b', e, h2, h3, h4⟩ := l1Below_ok l a b n ha hl
 refine (spec_l1Below.calls g w0 e hI hB).mono fun _ w' ⟨he, i, b1, k⟩ => ⟨x, he, ⟨l1Below_nn _ _ _ _ _ _ _ e, fun hn => (h4 hn).2⟩, ⟨l, a', b', i, h2, hl⟩, b1, k⟩
theorem once_c (g : Nat) (n : Int) (w0 : World) {w1 w : World} (h : Dr w0 w1 w g) :
 Calls Tryz.prog 16 #[.pointer (some ⟨g, 0, none⟩), .int .i64 n] w fun e w' => ∃ x, e = .returned (.bool x) ∧ Dr w0 w w' g := by
 obtain ⟨⟨l, a, b, hI, ha, hl⟩, hB, hK⟩ := h
 obtain ⟨x, a', b', e, h2⟩ := l1Once_ok l a b n ha hl
 refine (spec_l1Once.calls g w0 e hI hB).mono fun _ w' ⟨he, i, b1, k⟩ => ⟨x, he, ⟨l, a', b', i, h2, hl⟩, b1, k⟩
theorem pick_c (g : Nat) (w0 : World) {w1 w : World} {A : Option Addr} {c : Nat} {q : List Int} (h : Dr w0 w1 w g) (hq : Kd.C (Kd.int .i64) w A q.length q) (hc : q.length ≤ c) (hn : 0 < q.length) (ha : ∀ ad, A = some ad → 0 < q.length → ad.block ≠ g) :
 Calls Tryz.prog 37 #[.pointer (some ⟨g, 0, none⟩), .slice A q.length c] w fun e w' => ∃ x, e = .returned (.int .i64 x) ∧ x ∈ q ∧ Dr w0 w w' g := by
 obtain ⟨⟨l, a, b, hI, h0, hl⟩, hB, hK⟩ := h
 obtain ⟨x, a', b', e, h2, h3⟩ := l1PickInt_ok l a b q h0 hl hn
 refine (spec_l1PickInt.calls g w0 e hI hB hq hc ha).mono fun _ w' ⟨he, i, b1, k⟩ => ⟨x, he, h3, ⟨l, a', b', i, h2, hl⟩, b1, k⟩
theorem Dr.then_ {w0 w w1 w2 : World} {g : Nat} (h : Dr w0 w w1 g) (h2 : Dr w0 w1 w2 g) : Dr w0 w w2 g := ⟨h2.1, h2.2.1, KeepBut.trans h.2.2 h2.2.2 (.inl rfl)⟩
theorem Dr.below {w0 w w1 w2 : World} {g : Nat} (h : Dr w0 w w1 g) (hb : Below w1.heap.size w1 w2) : Dr w0 w w2 g := by
 obtain ⟨⟨l, a, b, hI, h0, hl⟩, hB, hK⟩ := h
 exact ⟨⟨l, a, b, hI.below hb, h0, hl⟩, below_step hB hb, KeepBut.trans hK (KeepBut.of_below hb g none) (.inl rfl)⟩
theorem Dr.lt {w0 w w1 : World} {g : Nat} (h : Dr w0 w w1 g) : g < w1.heap.size := by
 obtain ⟨⟨l, a, b, hI, h0, hl⟩, hB, hK⟩ := h; exact hI.lt
theorem Dr.ge {w0 w w1 : World} {g : Nat} (h : Dr w0 w w1 g) : w0.heap.size ≤ g := by
 obtain ⟨⟨l, a, b, hI, h0, hl⟩, hB, hK⟩ := h; exact hI.ge
theorem Dr.size {w0 w w1 : World} {g : Nat} (h : Dr w0 w w1 g) : w0.heap.size ≤ w1.heap.size := h.2.1.size
theorem Dr.sz {w0 w w1 : World} {g : Nat} (h : Dr w0 w w1 g) : w.heap.size ≤ w1.heap.size := keep_size h.2.2
theorem Dr.step {w0 w W W1 : World} {g : Nat} (h : Dr w0 w W g) (hb : Below W.heap.size W W1) : Dr w0 w W1 g := h.below hb
theorem Dr.alloc {w0 w W : World} {g : Nat} (h : Dr w0 w W g) (o : Obj) : Dr w0 w (W.alloc o) g := h.below (below_alloc (Below.refl _ _) o)
theorem Dr.drewN {w0 w W : World} {g : Nat} (h : Dr w0 w W g) (m : Nat) : Dr w0 w (W.drewN m) g := h.below (pw_below_drewN (Below.refl _ _) m)
theorem Dr.drew {w0 w W : World} {g : Nat} (h : Dr w0 w W g) : Dr w0 w W.drew g := h.below (below_drew1 (Below.refl _ _))
theorem Dr.set {w0 w W : World} {g b i : Nat} {u : Value} (h : Dr w0 w W g) (hz : w0.heap.size ≤ w.heap.size) (hl : w.heap.size ≤ b) (hn : g ≠ b) : Dr w0 w (W.setCell ⟨b, i, none⟩ u) g := by
 obtain ⟨⟨l, a, c, hI, h0, hl2⟩, hB, hK⟩ := h
 exact ⟨⟨l, a, c, hI.far hn u, h0, hl2⟩, below_set hB (Nat.le_trans hz hl), keep_far (p := ⟨b, i, none⟩) hK hl u⟩
theorem Dr.self {w0 w w1 : World} {g : Nat} (h : Dr w0 w w1 g) : Aside0 (Dr w0 w1 w1 g) := ⟨h.1, h.2.1, KeepBut.refl _ _ _⟩
theorem xD {w0 w W : World} {g : Nat} (h : Dr w0 w W g := by repeat (first | (with_reducible first | exact HD.out | apply Dr.alloc | apply Dr.drewN | apply Dr.drew) | ((with_reducible apply Dr.set); (case hz => exact Z0.out); (case hl => apply Aside0.out; assumption); (case hn => apply Aside0.out; assumption)) | exact HD.out)) : Dr w0 w W g := h
theorem pick_r (g : Nat) (w0 : World) {w1 w : World} {v : Value} {b : Nat} {ok : Nat → Prop} {q : List Int} (h : Dr w0 w1 w g) (hw : Kd.R (Kd.int .i64) 3 w b ok v q) (hn : 0 < q.length) :
 Calls Tryz.prog 37 #[.pointer (some ⟨g, 0, none⟩), v] w fun e w' => ∃ x, e = .returned (.int .i64 x) ∧ Dr w0 w w' g := by
 obtain ⟨A, c, rfl⟩ := Kd.R_slice hw
 obtain ⟨h1, hc, hC⟩ := Kd.R_reads' hw
 obtain ⟨l, a, b', hI, _⟩ := h.1
 exact (pick_c g w0 h hC hc hn (fun ad ha _ he => IsS70.own_ne hI hw (by decide) (by subst ha; subst he; rfl))).mono fun e w' ⟨x, h1, _, h2⟩ => ⟨x, h1, h2⟩
theorem xDb {w0 w W W0 W1 : World} {g : Nat} (_ : Aside0 (Dr w0 w W0 g)) (hb : Below W.heap.size W W1) (h : Dr w0 w W g := by exact xD) : Aside0 (Dr w0 w W1 g) := ⟨h.below hb⟩
theorem xDw {w0 w W W0 w' : World} {g : Nat} (_ : Aside0 (Dr w0 w W0 g)) (hw : w' = W) (h : Dr w0 w W g := by exact xD) : Aside0 (Dr w0 w w' g) := ⟨by subst hw; exact h⟩
theorem xDd {w0 w W W0 w' : World} {g : Nat} (_ : Aside0 (Dr w0 w W0 g)) (hd : Dr w0 W w' g) (h : Dr w0 w W g := by exact xD) : Aside0 (Dr w0 w w' g) := ⟨h.then_ hd⟩
theorem bxD {w0 w W : World} {g a : Nat} (hg : a = W.heap.size) (G0 : Aside0 (g < w.heap.size)) (h : Dr w0 w W g := by exact xD) : Aside0 (w.heap.size ≤ a) ∧ Aside0 (a ≠ g) ∧ Aside0 (g ≠ a) := by
 have := h.sz; have := G0.out; exact ⟨⟨by omega⟩, ⟨by omega⟩, ⟨by omega⟩⟩
theorem xO {W W0 : World} {g : Nat} {o o' : Obj} (b : Aside0 (W0.heap[g]? = some o)) (h : W0.heap[g]? = some o → W.heap[g]? = some o' := by
    intro h; repeat (first | (with_reducible first | exact h | apply blk_drewN | apply blk_drew | apply blk_alloc) | ((with_reducible apply blk_far); (case hp => apply Aside0.out; assumption)) | (with_reducible apply blk_set))) : W.heap[g]? = some o' := h b.out
theorem xwO {w' W W0 : World} {g : Nat} {o o' : Obj} (hw : w' = W) (b : Aside0 (W0.heap[g]? = some o)) (h : W0.heap[g]? = some o → W.heap[g]? = some o' := by intro h; repeat (first | (with_reducible first | exact h | apply blk_drewN | apply blk_drew | apply blk_alloc) | ((with_reducible apply blk_far); (case hp => apply Aside0.out; assumption)) | (with_reducible apply blk_set))) : Aside0 (w'.heap[g]? = some o') := ⟨by subst hw; exact h b.out⟩
theorem gS {P : Program} {ops : Array Oper} {o : Oper} {rest : List Oper} {a : Act} {Q : Exit → Act → World → Prop} {W : World} {t : TypeId} {p : Tmp} {v : Operand} (ho : o.op = .store t (.tmp p) v) (h : o.op = .store t (.tmp p) v → wpList P ops Q (o :: rest) a W) : wpList P ops Q (o :: rest) a W := h ho
def Cm (n : Nat) (u : Array Value) : Prop := ∃ (a b c d : Int) (s : ByteArray), u = #[.int .i64 a, .int .i64 b, .int .i64 c, .int .i64 d, .string s] ∧ s.size ≤ n
def Rc (n : Nat) (u : Array Value) : Prop := ∃ (a b c d e f g h i : Int) (s : ByteArray), u = #[.int .i64 a, .int .i64 b, .int .i64 c, .int .i64 d, .int .i64 e, .int .i64 f, .int .i64 g, .int .i64 h, .int .i64 i, .string s] ∧ s.size ≤ n
theorem sK_ {P : Program} {ops : Array Oper} {Q : Exit → Act → World → Prop} {oi : Oper} {a : Act} {w w1 : World} {K : Act → World → Prop} (h : ∀ w', w' = w1 → K a w') (hw : Region.wanted oi (yielded ops a.tmps) = true := by rfl) (hN : oi.dst = none := by rfl) (hr : (execOp a.eval oi).run P w = .ok .skip w1 := by first | (go_simp; done) | (go_simp; rfl)) :
  if Region.wanted oi (yielded ops a.tmps) = true then Oper.wp P oi a w K Q else K (a.put none undef) w := skip_ hw hN hr (h _ rfl)
theorem xRd {w0 w W W0 W1 : World} {g : Nat} {α : Type} {d : Kd α} {e base : Nat} {ok : Nat → Prop} {v : Value} {xs : List α} (_ : Aside0 (Dr w0 w W0 g)) (hd : Dr w0 W W1 g) (ho : d.R e W base ok v xs) (h : Dr w0 w W g := by exact xD) (ht : ∀ q, q ∈ e :: d.E → q ≠ 70 := by decide) : Aside0 (d.R e W1 base ok v xs) := by
 obtain ⟨l, a, b, hI, _⟩ := h.1
 exact ⟨Kd.R_mono (Kd.R_keep (hI.apart ho ht) hd.2.2 (fun _ h => h.2)) (fun _ h => h.1)⟩
section
variable {P : Program} {md : Region.Mode} {ops : Array Oper} {Q : Exit → Act → World → Prop} {S : World → Prop} {ds : List Nat}
theorem tw_ (i j Ni Nj : Nat) {oi oj : Oper} {fuel : Nat} {l : Array Bool} {a : Act} {w : World}
  (h1 : ∀ K : Act → World → Prop, Shut (∀ a' w', S w' → (S w' → wpAnyLast P md ops Q S ds fuel (l.setIfInBounds i true) a' w') → K a' w') → if Region.wanted oi (yielded ops a.tmps) = true then Oper.wp P oi a w K Q else K (a.put (some Ni) undef) w)
  (h2 : ∀ K : Act → World → Prop, Shut (∀ a' w', S w' → (S w' → wpAnyLast P md ops Q S ds fuel (l.setIfInBounds j true) a' w') → K a' w') → if Region.wanted oj (yielded ops a.tmps) = true then Oper.wp P oj a w K Q else K (a.put (some Nj) undef) w)
  (hi : ops[i]? = some oi := by rfl) (hj : ops[j]? = some oj := by rfl) (hNi : oi.dst = some Ni := by rfl) (hNj : oj.dst = some Nj := by rfl) (hc : (Region.ready md ops l == [i, j] && l.setIfInBounds i true == l.setIfInBounds i true && l.setIfInBounds j true == l.setIfInBounds j true) = true := by exact two_of HT_.out (by kernel_rfl)) (hdi : i ∉ ds := by decide) (hdj : j ∉ ds := by decide) : wpAnyLast P md ops Q S ds (fuel + 1) l a w := two_ _ _ hi hj hNi hNj hc hdi hdj h1 h2
theorem eS_ (i : Nat) {oi : Oper} {fuel : Nat} {l : Array Bool} {a : Act} {w : World}
  (h : ∀ K : Act → World → Prop, Shut (∀ a' w', S w' → (S w' → wpAnyLast P md ops Q S ds fuel (l.setIfInBounds i true) a' w') → K a' w') → if Region.wanted oi (yielded ops a.tmps) = true then Oper.wp P oi a w K Q else K (a.put none undef) w)
  (hi : ops[i]? = some oi := by rfl) (hN : oi.dst = none := by rfl) (hc : readyB md ops l (l.setIfInBounds i true) i = true := by exact one_of HT_.out (by kernel_rfl)) (hd : i ∉ ds := by decide) : wpAnyLast P md ops Q S ds (fuel + 1) l a w := one_ _ hi hN hc hd h
end
section
variable {P : Program} {ops : Array Oper} {rest : List Oper} {o : Oper} {a : Act} {W : World} {Q : Exit → Act → World → Prop}
theorem l0_ {α : Type} (d : Kd α) (e : Nat) {N : Tmp} (hd : o.dst = some N) (h : ∀ v1 w1, Aside0 (d.R e w1 W.heap.size (fun _ => True) v1 []) → Below W.heap.size W w1 → wpList P ops Q rest (a.put o.dst v1) w1) (hg : o.guard = none := by rfl)
    (hr : (execOp a.eval o).run P W = .ok (.value (.slice (some ⟨W.heap.size, 0, none⟩) 0 0)) (W.alloc (.cells #[] e)) := by first | (go_simp; done) | (go_simp; rfl)) : wpList P ops Q (o :: rest) a W :=
  Kd.R_lit d _ e hg hd (xs := []) (inner := []) (ok := fun _ => True) (okp := fun _ => True) hr (Reps.none _ _) (fun _ hk => hk) trivial (Below.refl _ _) (Nat.le_refl _) (by simp) (fun v1 w1 h1 h2 _ _ => h v1 w1 ⟨h1⟩ h2)
end
theorem Dr.grow {w0 w W w1 : World} {g : Nat} {α : Type} {d : Kd α} {e : Nat} {ok : Nat → Prop} {v : Value} {xs : List α} (h : Dr w0 w W g) (z : w0.heap.size ≤ w.heap.size) (r : d.R e W w.heap.size ok v xs) (hb : Below w.heap.size W w1) (hg : W.grownBy w1 v.ownBlock) (ht : e ≠ 70 := by decide) : Dr w0 w w1 g := by
 obtain ⟨⟨l, a, b, hI, h0, hl⟩, hB, hK⟩ := h
 exact ⟨⟨l, a, b, hI.grown hg (hI.own_ne r ht), h0, hl⟩, below_weaken hB z hb, KeepBut.trans hK (KeepBut.of_grown hg g) (Kd.R_base2 r)⟩
theorem xwf {α : Type} {d : Kd α} {e base : Nat} {g : Nat} {W0 W w' : World} {v : Value} {xs : List α} {ok : Nat → Prop} (hw : w' = W) (h0 : Aside0 (Kd.R d e W0 base ok v xs)) (hk : ∀ k, ok k → k ≠ g) (h : Kd.R d e W0 base (fun k => k ≠ g) v xs → Kd.R d e W base (fun k => k ≠ g) v xs := by intro h; (repeat (first | (with_reducible first | apply Kd.R_alloc | apply Kd.R_drewN | apply Kd.R_drew) | ((with_reducible apply Kd.R_far); (case hok => exact fun _ h => h)))); exact h) : Aside0 (Kd.R d e w' base (fun k => k ≠ g) v xs) := ⟨by subst hw; exact h (Kd.R_mono h0.out hk)⟩
section
variable {ops : Array Oper} {rest : List Oper} {o : Oper} {a : Act} {Q : Exit → Act → World → Prop}
theorem ap_ {α : Type} {d : Kd α} {W : World} {b e t bytes : Nat} {z v : Value} {xs : List α} {p : α} {cs : List Value} {ok : Nat → Prop} (s x : Tmp)
  (HO : d.R e W b ok v xs) (hp : d.M W b (fun _ => False) p cs) (hl : (xs.length + 1) * bytes ≤ 140737488355328) (hf : ∀ k, W.heap.size ≤ k → ok k) (hb : b ≤ W.heap.size) (ht : Tryz.prog.underlying t = some (.slice e)) (hi : (Tryz.prog.info? e).map (fun i => (i.zero, i.size, i.bytes)) = some (some z, d.sz, bytes)) (hz : z.cells.size = d.sz) (hs0 : 0 < d.sz) (h0 : 0 < bytes)
  (h : ∀ v1 w1, Aside0 (d.R e w1 b ok v1 (xs ++ [p])) → Below b W w1 → W.grownBy w1 v.ownBlock → wpList Tryz.prog ops Q rest (a.put o.dst v1) w1)
  (ho : o.op = .call { callee := .builtin .append, args := #[.tmp s, .tmp x], argTypes := #[t, t] } := by rfl) (hg : o.guard = none := by rfl) (hs : a.eval (.tmp s) = v := by rfl) (hx : a.eval (.tmp x) = .slice (some ⟨W.heap.size, 0, none⟩) 1 1 := by rfl) : wpList Tryz.prog ops Q (o :: rest) a (W.alloc (.cells cs.toArray e)) :=
 Kd.R_append d b hg (.tmp s) (.tmp x) t e z bytes ho ht hi hz hs0 h0 v xs p cs ok (fun _ => False) hs hx hp (fun _ hk => hk.elim) hf HO (Below.refl _ _) hb hl fun v1 w1 h1 h2 h3 h4 => h v1 w1 ⟨h1⟩ h2 h3
end
theorem Dr.ne {w0 w W : World} {g a : Nat} {cs : Array Value} {t : TypeId} {fr : Nat × Nat} (h : Dr w0 w W g) (b : W.heap[a]? = some (.cells cs t fr)) (ht : t ≠ 70 := by decide) : g ≠ a := by
 obtain ⟨l, x, y, hI, _⟩ := h.1
 exact hI.ne_blk b ht
theorem bxE {w0 w W : World} {g a : Nat} (hg : a = W.heap.size) (h : Dr w0 w W g := by exact xD) : Aside0 (w.heap.size ≤ a) ∧ Aside0 (a ≠ g) ∧ Aside0 (g ≠ a) := by
 have := h.sz; have := h.lt; exact ⟨⟨by omega⟩, ⟨by omega⟩, ⟨by omega⟩⟩
theorem new_c {w W : World} {A : Option Addr} {c : Nat} {l : List Int} (hB : Below w.heap.size w W) (hC : Kd.C (Kd.int .u8) w A l.length l) (hc : l.length ≤ c) (hl : l.length ≤ 140737488355328) :
 Calls Tryz.prog 13 #[.slice A l.length c] W fun e w' => ∃ g, e = .returned (.pointer (some ⟨g, 0, none⟩)) ∧ Dr w w w' g ∧ Below W.heap.size W w' := by
 obtain ⟨h', K, hK⟩ := l1New_ev l hl
 exact (spec_l1New.calls w (hK K (Nat.le_refl _)) hB hC hc).mono fun e w' ⟨g, h1, hI, h2, h3⟩ => ⟨g, h1, ⟨⟨l, 0, h', hI, by omega, hl⟩, h2, KeepBut.of_below h2 g none⟩, h3⟩
theorem dDr {w0 w W : World} {g : Nat} (h : Aside0 (Dr w0 w W g)) : Aside0 (Dr w0 w W.drew g) := ⟨h.out.drew⟩
theorem gR (id : Nat) {P : Program} {ops : Array Oper} {Q : Exit → Act → World → Prop} {a : Act} {w : World} (h : (Code.region id ops true).wp P Q a w) : (Code.region id ops true).wp P Q a w := h
theorem gX {P : Program} {f : Func} {Q : Ending → World → Prop} {e : Exit} {a : Act} {w : World} (h : bodyPost P f Q e a w) : bodyPost P f Q e a w := h
theorem vK_ {P : Program} {ops : Array Oper} {Q : Exit → Act → World → Prop} {oi : Oper} {a : Act} {w w1 : World} {K : Act → World → Prop} {N : Tmp} {v : Value} (h : K (a.put (some N) v) w1) (hw : Region.wanted oi (yielded ops a.tmps) = true := by rfl) (hN : oi.dst = some N := by rfl) (hr : (execOp a.eval oi).run P w = .ok (.value v) w1 := by first | (go_simp; done) | (go_simp; exact ⟨rfl, rfl⟩)) :
  if Region.wanted oi (yielded ops a.tmps) = true then Oper.wp P oi a w K Q else K (a.put (some N) undef) w := value_ hw hN hr h
theorem apK_ {ops : Array Oper} {o : Oper} {a : Act} {Q : Exit → Act → World → Prop} {Kc : Act → World → Prop} {α : Type} {d : Kd α} {W : World} {b e t bytes : Nat} {z v : Value} {xs : List α} {p : α} {cs : List Value} {ok : Nat → Prop} (s x : Tmp)
  (HO : d.R e W b ok v xs) (hp : d.M W b (fun _ => False) p cs) (hl : (xs.length + 1) * bytes ≤ 140737488355328) (hf : ∀ k, W.heap.size ≤ k → ok k) (hb : b ≤ W.heap.size) (ht : Tryz.prog.underlying t = some (.slice e)) (hi : (Tryz.prog.info? e).map (fun i => (i.zero, i.size, i.bytes)) = some (some z, d.sz, bytes)) (hz : z.cells.size = d.sz) (hs0 : 0 < d.sz) (h0 : 0 < bytes)
  (h : ∀ v1 w1, Aside0 (d.R e w1 b ok v1 (xs ++ [p])) → Below b W w1 → W.grownBy w1 v.ownBlock → Kc (a.put o.dst v1) w1)
  (ho : o.op = .call { callee := .builtin .append, args := #[.tmp s, .tmp x], argTypes := #[t, t] } := by rfl) (hw : Region.wanted o (yielded ops a.tmps) = true := by rfl) (hs : a.eval (.tmp s) = v := by rfl) (hx : a.eval (.tmp x) = .slice (some ⟨W.heap.size, 0, none⟩) 1 1 := by rfl) :
  if Region.wanted o (yielded ops a.tmps) = true then Oper.wp Tryz.prog o a (W.alloc (.cells cs.toArray e)) Kc Q else Kc (a.put o.dst undef) (W.alloc (.cells cs.toArray e)) :=
 Kd.R_append_step d b hw (.tmp s) (.tmp x) t e z bytes ho ht hi hz hs0 h0 v xs p cs ok (fun _ => False) hs hx hp (fun _ hk => hk.elim) hf HO (Below.refl _ _) hb hl fun v1 w1 h1 h2 h3 h4 => h v1 w1 ⟨h1⟩ h2 h3
section
variable {P : Program} {ops : Array Oper} {Q : Exit → Act → World → Prop}
theorem sT_ {id : Nat} {a : Act} {w : World} {l : Array Bool} (n : Nat) (ds : List Nat) (S : World → Prop) (T : Bool × List (List Nat × List Nat)) (B : List Nat) (hS : S w.drew)
    (h : S w.drew → Aside0 (rtab .any ops = T) → Aside0 (waitsOk T.2 B = true) → wpAnyLast P .any ops Q S ds n l a w.drew) (hT : rtab .any ops = T := by kernel_rfl) (hB : waitsOk T.2 B = true := by kernel_rfl) (hm : P.follows .mixedOrders = true := by kernel_rfl) (hn : ops.size = n := by rfl) (hl : Array.replicate n false = l := by simp only [← List.toArray_replicate, List.reduceReplicate]; rfl) : (Code.region id ops true).wp P Q a w :=
  start_ l hm hn hl hS (fun hh => with_tabW hT hB (h hh))
theorem eL_ {md : Region.Mode} {S : World → Prop} {ds : List Nat} (i : Nat) {oi : Oper} {fuel : Nat} {l : Array Bool} {a : Act} {w : World}
  (h : ∀ K : Act → World → Prop, Shut (∀ a' w', wpAnyLast P md ops Q S ds fuel (l.setIfInBounds i true) a' w' → K a' w') → if Region.wanted oi (yielded ops a.tmps) = true then Oper.wp P oi a w K Q else K (a.put none undef) w)
  (hi : ops[i]? = some oi := by rfl) (hN : oi.dst = none := by rfl) (hc : readyB md ops l (l.setIfInBounds i true) i = true := by exact one_of HT_.out (by kernel_rfl)) (hd : i ∈ ds := by decide) : wpAnyLast P md ops Q S ds (fuel + 1) l a w := last_ _ hi hN hc hd h
end
theorem lN_ {P : Program} {md : Region.Mode} {ops : Array Oper} {Q : Exit → Act → World → Prop} {S : World → Prop} {ds : List Nat} (i N : Nat) {oi : Oper} {fuel : Nat} {l : Array Bool} {a : Act} {w : World}
  (h : ∀ K : Act → World → Prop, Shut (∀ a' w', wpAnyLast P md ops Q S ds fuel (l.setIfInBounds i true) a' w' → K a' w') → if Region.wanted oi (yielded ops a.tmps) = true then Oper.wp P oi a w K Q else K (a.put (some N) undef) w)
  (hi : ops[i]? = some oi := by rfl) (hN : oi.dst = some N := by rfl) (hc : readyB md ops l (l.setIfInBounds i true) i = true := by exact one_of HT_.out (by kernel_rfl)) (hd : i ∈ ds := by decide) : wpAnyLast P md ops Q S ds (fuel + 1) l a w := last_ _ hi hN hc hd h
theorem rowx {k : IntKind} {e base : Nat} {ok : Nat → Prop} {W : World} {ad : Addr} {n c : Nat} {l : List Int} (h : (Kd.int k).R e W base ok (.slice (some ad) n c) l) (i : Nat) (hi : i < n) : W.cell? (ad.add i) = some (.int k (rd l i)) := by
 obtain ⟨hn, hc, hC⟩ := Kd.R_reads' h
 obtain ⟨ad', he, hx⟩ := Kd.at_int hC (i : Int) (by omega) (by omega)
 injection he with he; subst he; simpa using hx
theorem rown {k : IntKind} {e base : Nat} {ok : Nat → Prop} {W : World} {v : Value} {l : List Int} {n : Nat} (h : (Kd.int k).R e W base ok v l) (hn : l.length = n) (h0 : 0 < n) : ∃ ad c, v = .slice (some ad) n c ∧ n ≤ c := by
 obtain ⟨A, c, rfl⟩ := Kd.R_slice h
 obtain ⟨_, hc, hC⟩ := Kd.R_reads' h
 obtain ⟨ad, rfl, _⟩ := Kd.at_int hC 0 (by omega) (by omega)
 exact ⟨ad, c, by rw [hn], hn ▸ hc⟩
theorem rowf {k : IntKind} {e base : Nat} {ok : Nat → Prop} {W : World} {v : Value} {l : List Int} {n : Nat} (h : (Kd.int k).R e W base ok v l) (hn : l.length = n) (h0 : 0 < n) : ∃ g c, v = .slice (some ⟨g, 0, none⟩) n c := by
 obtain ⟨g, c, rfl, _⟩ := Kd.R_form h (by omega)
 exact ⟨g, c, by rw [hn]⟩
theorem rowg {k : IntKind} {e base : Nat} {ok : Nat → Prop} {W : World} {g n c : Nat} {l : List Int} (h : (Kd.int k).R e W base ok (.slice (some ⟨g, 0, none⟩) n c) l) (i : Nat) (hi : i < n) : W.cell? ⟨g, i, none⟩ = some (.int k (rd l i)) := by
 have := rowx h i hi
 by_cases e0 : i = 0
 · subst e0; simpa [Addr.add] using this
 · simpa [Addr.add, e0] using this
end Go.Proofs.YtppfnnpfamkclaaGreat.QFnSaved
