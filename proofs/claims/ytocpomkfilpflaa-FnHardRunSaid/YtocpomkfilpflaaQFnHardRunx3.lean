-- A walk, by a program of this session.
import Derived.Test.YtocpomkfilpflaaQFnHardRunx0
import Derived.Test.YtocpomkfilpflaaQFnHardRunx1
namespace Go.Proofs.Ytocpomkfilpflaa.QFnHardRun
open Go.RowKit Go.Proofs.YtocpomkfilpflaaW.PrintWords Go.Proofs.YtocpomkfilpflaaW.PrintLast Go.Proofs.YtocpomkfilpflaaW.PrintMore
attribute [local go_sem] max2_int min2_int max_two min_two max_three min_three max_four min_four   -- for this text's walks alone
set_option linter.unusedVariables false
set_option linter.unusedSimpArgs false

attribute [local go_sem high] eqA34
theorem u3_0 {p : Prop} (h : p := by first | rfl | (simp; done) | (simp [*]; done)) : p := h
theorem u3_1 {p : Prop} (h : p := by first | rfl | (simp [Array.getD]; done) | (clear fC cM bQ; simp [*]; done) | (clear fC cM bQ; simp [*]; assumption) | (clear fC cM bQ; simp [*]; rename_i h_; simpa using h_)) : p := h
theorem u3_2 {p : Prop} (h : p := by repeat (first | apply pw_below_drewN | apply below_alloc | exact Below.refl _ w)) : p := h
theorem u3_3 {p : Prop} (h : p := by repeat (first | (with_reducible first | exact HBW.out | apply below_alloc | apply pw_below_drewN | apply below_drew1) | exact HBW.out)) : p := h
theorem u3_4 {p : Prop} (h : p := by repeat (first | exact Drawn0.refl _ | apply Drawn0.step)) : p := h
/-! ### laws_big: function 6 -/
def laws_big.f (l0 : List Int) : Option (Bool) := some (decide ((l0.length : Int) > 1048576))
set_option maxHeartbeats 8000000 in
set_option maxRecDepth 100000 in
theorem laws_big.calls (A0 : Option Addr) (c0 : Nat) (l0 : List Int) (r : Bool) (w : World) (aO : Kd.C (Kd.int .u8) w A0 l0.length l0) (fV : l0.length ≤ c0) (h : laws_big.f l0 = some r) :
 Calls Try.prog 6 #[.slice A0 l0.length c0] w fun e w' => e = .returned (.bool r) ∧ Drawn0 w w' := by
 have iE := aM aO
 have qG := aM fV
 clear aO fV
 have H : (some (decide ((l0.length : Int) > 1048576))) = some r := h
 clear h
 obtain rfl := Option.some.inj H
 go_enter Try.func6, Try.ntmps6
 go_wp2
 go_ret
 exact ⟨u3_0, u3_4⟩

/-- A state of type 99 at block g of W; what its slices lead to came in by w0. -/
def IsS99 (w0 W : World) (g : Nat) (f0 : List Int) (f1 : Int) (f2 : Int) : Prop := ∃ A0 c0, W.heap[g]? = some (.cells #[.slice A0 f0.length c0, .int .i64 f1, .int .i64 f2] 99 (0, 0)) ∧ w0.heap.size ≤ g ∧ Kd.C (Kd.int .u8) w0 A0 f0.length f0
theorem IsS99.grown {w0 W : World} {g : Nat} {f0 : List Int} {f1 : Int} {f2 : Int} {W1 : World} {row : Option Nat} (h : IsS99 w0 W g f0 f1 f2) (hw : W.grownBy W1 row) (hne : some g ≠ row) : IsS99 w0 W1 g f0 f1 f2 := by
 obtain ⟨A0, c0, hb, hg, aO⟩ := h
 exact ⟨A0, c0, blk_grown hb hw hne, hg, aO⟩
theorem IsS99.own_neN {w0 W : World} {g : Nat} {f0 : List Int} {f1 : Int} {f2 : Int} {α : Type} {d : Kd α} {e : Nat} {base : Nat} {ok : Nat → Prop} {v : Value} {xs : List α} (h : IsS99 w0 W g f0 f1 f2) (ho : Kd.N d e W base ok v xs) (ht : e ≠ 99) : some g ≠ v.ownBlock := by
 obtain ⟨A0, c0, hb, hg, aO⟩ := h
 exact Kd.N_ne ho hb ht
theorem IsS99.fresh {w0 W : World} {g : Nat} {f0 : List Int} {f1 : Int} {f2 : Int} (h : IsS99 w0 W g f0 f1 f2) : ∀ k, W.heap.size ≤ k → k ≠ g := by
 obtain ⟨A0, c0, hb, hg, aO⟩ := h
 exact Kd.freshB hb
theorem IsS99.kept {w0 W : World} {g : Nat} {f0 : List Int} {f1 : Int} {f2 : Int} {W1 : World} {S : Nat → Prop} (h : IsS99 w0 W g f0 f1 f2) (hk : Kept W W1 S) (hne : ¬ S g) : IsS99 w0 W1 g f0 f1 f2 := by
 obtain ⟨A0, c0, hb, hg, aO⟩ := h
 exact ⟨A0, c0, blk_kept hb hk hne, hg, aO⟩
theorem IsS99.below {w0 W : World} {g : Nat} {f0 : List Int} {f1 : Int} {f2 : Int} {W1 : World} (h : IsS99 w0 W g f0 f1 f2) (hw : Below W.heap.size W W1) : IsS99 w0 W1 g f0 f1 f2 := h.grown (grown_of_below hw none) (by simp)
theorem IsS99.alloc {w0 W : World} {g : Nat} {f0 : List Int} {f1 : Int} {f2 : Int} (h : IsS99 w0 W g f0 f1 f2) (o : Obj) : IsS99 w0 (W.alloc o) g f0 f1 f2 := h.below (below_alloc (Below.refl _ _) o)
theorem IsS99.drewN {w0 W : World} {g : Nat} {f0 : List Int} {f1 : Int} {f2 : Int} (h : IsS99 w0 W g f0 f1 f2) (m : Nat) : IsS99 w0 (W.drewN m) g f0 f1 f2 := h
theorem IsS99.drew {w0 W : World} {g : Nat} {f0 : List Int} {f1 : Int} {f2 : Int} (h : IsS99 w0 W g f0 f1 f2) : IsS99 w0 W.drew g f0 f1 f2 := h
theorem IsS99.at_ {w0 W : World} {g : Nat} {f0 : List Int} {f1 : Int} {f2 : Int} {w' : World} {m : Nat} (hq : W.drewN m = w') (h : IsS99 w0 W g f0 f1 f2) : IsS99 w0 w' g f0 f1 f2 := by subst hq; exact IsS99.drewN h m
theorem IsS99.apart {w0 W : World} {g : Nat} {f0 : List Int} {f1 : Int} {f2 : Int} {α : Type} {d : Kd α} {e : Nat} {base : Nat} {ok : Nat → Prop} {v : Value} {xs : List α} (h : IsS99 w0 W g f0 f1 f2) (ho : d.R e W base ok v xs) (ht : ∀ q, q ∈ e :: d.E → q ≠ 99) : d.R e W base (fun k => ok k ∧ k ≠ g) v xs := by
 obtain ⟨A0, c0, hb, hg, aO⟩ := h
 exact Kd.R_types ho hb ht
theorem IsS99.own_ne {w0 W : World} {g : Nat} {f0 : List Int} {f1 : Int} {f2 : Int} {α : Type} {d : Kd α} {e : Nat} {base : Nat} {ok : Nat → Prop} {v : Value} {xs : List α} (h : IsS99 w0 W g f0 f1 f2) (ho : d.R e W base ok v xs) (ht : e ≠ 99) : some g ≠ v.ownBlock := by
 obtain ⟨A0, c0, hb, hg, aO⟩ := h
 exact Kd.R_ne ho hb ht
theorem IsS99.apartQ {w0 W : World} {g : Nat} {f0 : List Int} {f1 : Int} {f2 : Int} {α : Type} {d : Kd α} {e : Nat} {base : Nat} {ok : Nat → Prop} {v : Value} {xs : List α} (h : IsS99 w0 W g f0 f1 f2) (ho : d.Q e W base ok v xs) (ht : ∀ q, q ∈ e :: d.E → q ≠ 99) : d.Q e W base (fun k => ok k ∧ k ≠ g) v xs := by
 obtain ⟨A0, c0, hb, hg, aO⟩ := h
 exact Kd.Q_types ho hb ht
theorem IsS99.own_neQ {w0 W : World} {g : Nat} {f0 : List Int} {f1 : Int} {f2 : Int} {α : Type} {d : Kd α} {e : Nat} {base : Nat} {ok : Nat → Prop} {v : Value} {xs : List α} (h : IsS99 w0 W g f0 f1 f2) (ho : d.Q e W base ok v xs) (ht : e ≠ 99) : some g ≠ v.ownBlock := by
 obtain ⟨A0, c0, hb, hg, aO⟩ := h
 exact Kd.Q_ne ho hb ht
theorem IsS99.apartS {w0 W : World} {g : Nat} {f0 : List Int} {f1 : Int} {f2 : Int} {α : Type} {d : Kd α} {e : Nat} {base : Nat} {ok : Nat → Prop} {v : Value} {xs : List α} (h : IsS99 w0 W g f0 f1 f2) (ho : d.S e W base ok v xs) (ht : ∀ q, q ∈ e :: d.E → q ≠ 99) : d.S e W base (fun k => ok k ∧ k ≠ g) v xs := by
 obtain ⟨A0, c0, hb, hg, aO⟩ := h
 exact Kd.S_types ho hb ht
theorem IsS99.own_neS {w0 W : World} {g : Nat} {f0 : List Int} {f1 : Int} {f2 : Int} {α : Type} {d : Kd α} {e : Nat} {base : Nat} {ok : Nat → Prop} {v : Value} {xs : List α} (h : IsS99 w0 W g f0 f1 f2) (ho : d.S e W base ok v xs) (ht : e ≠ 99) : some g ≠ v.ownBlock := by
 obtain ⟨A0, c0, hb, hg, aO⟩ := h
 exact Kd.S_ne ho hb ht
theorem IsS99.lt {w0 W : World} {g : Nat} {f0 : List Int} {f1 : Int} {f2 : Int} (h : IsS99 w0 W g f0 f1 f2) : g < W.heap.size := by
 obtain ⟨A0, c0, hb, hg, aO⟩ := h
 exact blk_lt hb
theorem IsS99.ge {w0 W : World} {g : Nat} {f0 : List Int} {f1 : Int} {f2 : Int} (h : IsS99 w0 W g f0 f1 f2) : w0.heap.size ≤ g := by
 obtain ⟨A0, c0, hb, hg, aO⟩ := h
 exact hg
theorem IsS99.ne_blk {w0 W : World} {g : Nat} {f0 : List Int} {f1 : Int} {f2 : Int} {a : Nat} {cs : Array Value} {t : TypeId} {fr : Nat × Nat} (h : IsS99 w0 W g f0 f1 f2) (iF : W.heap[a]? = some (.cells cs t fr)) (ht : t ≠ 99) : g ≠ a := by
 obtain ⟨A0, c0, hb, hg, aO⟩ := h
 rintro rfl
 rw [hb] at iF
 injection iF with iF
 injection iF with _ ht2
 exact ht ht2.symm
theorem IsS99.far {w0 W : World} {g : Nat} {f0 : List Int} {f1 : Int} {f2 : Int} {p : Addr} (h : IsS99 w0 W g f0 f1 f2) (hne : g ≠ p.block) (u : Value) : IsS99 w0 (W.setCell p u) g f0 f1 f2 := by
 obtain ⟨A0, c0, hb, hg, aO⟩ := h
 exact ⟨A0, c0, blk_far hb hne u, hg, aO⟩
theorem cellS99_0 {W : World} {g : Nat} {A0 : Option Addr} {c0 : Nat} {f0 : List Int} {f1 : Int} {f2 : Int} (h : W.heap[g]? = some (.cells #[.slice A0 f0.length c0, .int .i64 f1, .int .i64 f2] 99 (0, 0))) : W.cell? ⟨g, 0, none⟩ = some (.slice A0 f0.length c0) := (blk_cell h 0).trans rfl
theorem cellS99_1 {W : World} {g : Nat} {A0 : Option Addr} {c0 : Nat} {f0 : List Int} {f1 : Int} {f2 : Int} (h : W.heap[g]? = some (.cells #[.slice A0 f0.length c0, .int .i64 f1, .int .i64 f2] 99 (0, 0))) : W.cell? ⟨g, 1, none⟩ = some (.int .i64 f1) := (blk_cell h 1).trans rfl
theorem IsS99.set_1 {w0 W : World} {g : Nat} {f0 : List Int} {f1 : Int} {f2 : Int} (h : IsS99 w0 W g f0 f1 f2) (x : Int) : IsS99 w0 (W.setCell ⟨g, 1, none⟩ (.int .i64 x)) g f0 x f2 := by
 obtain ⟨A0, c0, hb, hg, aO⟩ := h
 exact ⟨A0, c0, by simpa using blk_set hb 1 (.int .i64 x), hg, aO⟩
theorem cellS99_2 {W : World} {g : Nat} {A0 : Option Addr} {c0 : Nat} {f0 : List Int} {f1 : Int} {f2 : Int} (h : W.heap[g]? = some (.cells #[.slice A0 f0.length c0, .int .i64 f1, .int .i64 f2] 99 (0, 0))) : W.cell? ⟨g, 2, none⟩ = some (.int .i64 f2) := (blk_cell h 2).trans rfl
theorem IsS99.set_2 {w0 W : World} {g : Nat} {f0 : List Int} {f1 : Int} {f2 : Int} (h : IsS99 w0 W g f0 f1 f2) (x : Int) : IsS99 w0 (W.setCell ⟨g, 2, none⟩ (.int .i64 x)) g f0 f1 x := by
 obtain ⟨A0, c0, hb, hg, aO⟩ := h
 exact ⟨A0, c0, by simpa using blk_set hb 2 (.int .i64 x), hg, aO⟩
theorem IsS99.new (w0 W : World) (A0 : Option Addr) (c0 : Nat) (f0 : List Int) (f1 : Int) (f2 : Int) (hB : Below w0.heap.size w0 W) (aO : Kd.C (Kd.int .u8) w0 A0 f0.length f0) : IsS99 w0 (W.alloc (.cells #[.slice A0 f0.length c0, .int .i64 f1, .int .i64 f2] 99)) W.heap.size f0 f1 f2 := ⟨A0, c0, by simpa using heap_alloc_new W _, hB.size, aO⟩
theorem IsS99.s {w0 W : World} {g : Nat} {f0 : List Int} {f1 : Int} {f2 : Int} (h : IsS99 w0 W g f0 f1 f2 := by repeat (first | (with_reducible first | exact HI0.out | apply IsS99.alloc | apply IsS99.drewN | apply IsS99.drew | apply IsS99.set_1 | apply IsS99.set_2) | ((with_reducible apply IsS99.far); (case hne => apply Aside0.out; assumption)) | exact HI0.out)) : IsS99 w0 W g f0 f1 f2 := h
theorem IsS99.sw {w0 W0 W w' : World} {g : Nat} {f0 : List Int} {f1 : Int} {f2 : Int} {ef0 : List Int} {ef1 : Int} {ef2 : Int} (hw : w' = W) (h0 : Aside0 (IsS99 w0 W0 g ef0 ef1 ef2)) (h : IsS99 w0 W g f0 f1 f2 := by exact IsS99.s) : Aside0 (IsS99 w0 w' g f0 f1 f2) := ⟨by subst hw; exact h⟩
theorem IsS99.bl {w0 W0 W W1 : World} {g : Nat} {f0 : List Int} {f1 : Int} {f2 : Int} {ef0 : List Int} {ef1 : Int} {ef2 : Int} (h0 : Aside0 (IsS99 w0 W0 g ef0 ef1 ef2)) (hb : Below W.heap.size W W1) (h : IsS99 w0 W g f0 f1 f2 := by exact IsS99.s) : Aside0 (IsS99 w0 W1 g f0 f1 f2) := ⟨h.below hb⟩
theorem IsS99.rk {w0 W0 W W1 : World} {g : Nat} {f0 : List Int} {f1 : Int} {f2 : Int} {ef0 : List Int} {ef1 : Int} {ef2 : Int} {α : Type} {d : Kd α} {e base : Nat} {ok : Nat → Prop} {v : Value} {xs : List α} (h0 : Aside0 (IsS99 w0 W0 g ef0 ef1 ef2)) (hk : KeepBut W W1 g none) (ho : d.R e W base ok v xs) (h : IsS99 w0 W g f0 f1 f2 := by exact IsS99.s) (ht : ∀ q, q ∈ e :: d.E → q ≠ 99 := by decide) : Aside0 (d.R e W1 base ok v xs) := ⟨Kd.R_mono (Kd.R_keep (h.apart ho ht) hk (fun _ h => h.2)) (fun _ h => h.1)⟩
theorem IsS99.dD {w0 W : World} {g : Nat} {f0 : List Int} {f1 : Int} {f2 : Int} (h : Aside0 (IsS99 w0 W g f0 f1 f2)) : Aside0 (IsS99 w0 W.drew g f0 f1 f2) := ⟨h.out⟩
theorem IsS99.B {b : Nat} {w W : World} (h : Below b w W := by repeat (first | (with_reducible first | exact HB.out | apply below_alloc | apply pw_below_drewN | apply below_drew1) | ((with_reducible apply below_set); (case hg => first | with_reducible exact IsS99.ge HI0.out | (apply Aside0.out; assumption))) | exact HB.out)) : Below b w W := h
theorem IsS99.Bw {b : Nat} {w W0 W w' : World} (hw : w' = W) (h0 : Aside0 (Below b w W0)) (h : Below b w W := by exact IsS99.B) : Aside0 (Below b w w') := ⟨by subst hw; exact h⟩
theorem IsS99.Bb {w W0 W W1 : World} (h0 : Aside0 (Below w.heap.size w W0)) (hb : Below W.heap.size W W1) (h : Below w.heap.size w W := by exact IsS99.B) : Aside0 (Below w.heap.size w W1) := ⟨below_step h hb⟩

/-! ### spec_l1New: function 29 -/
def spec_l1New.l0 : Nat → List Int → Int → Int → Option (List Int × Int × Int)
 | 0, _, _, _ => none
 | k + 1, x0, x3, x4 => if x4 < (x0.length : Int) then (if x4 < 4000 then (if 0 ≤ x4 then (spec_l1New.l0 k x0 (Go.bits .and .i64 (wrap64 ((wrap64 ((wrap64 (x3 * 131)) + (wrap64 (rd x0 x4)))) + 7)) 1073741823) (wrap64 (x4 + 1))) else (none)) else (some (x0, 0, x3))) else (some (x0, 0, x3))
def spec_l1New.f (k : Nat) (l0 : List Int) : Option (List Int × Int × Int) := spec_l1New.l0 k l0 (wrap64 (10677 + (l0.length : Int))) 0
theorem u3_mq0 {p : Prop} (h : p := by repeat' first | (with_reducible first | exact fW _ _ _ | exact LeO.refl _ | exact LeO.none _ | refine LeO.ite ?_ ?_ | refine LeO.bind ?_ (fun _ => ?_)) | exact LeO.none _ | refine LeO.ite ?_ ?_ | refine LeO.bind ?_ (fun _ => ?_)) : p := h
set_option maxRecDepth 100000 in
theorem spec_l1New.mono_l : ∀ k, (∀ y0 y1 y2, LeO (spec_l1New.l0 k y0 y1 y2) (spec_l1New.l0 (k + 1) y0 y1 y2))
 | 0 => fun _ _ _ r h => by simp [spec_l1New.l0] at h
 | k + 1 => by
  have fW := spec_l1New.mono_l k
  ·intro y0 y1 y2; unfold spec_l1New.l0; exact u3_mq0
theorem spec_l1New.mono : ∀ a0 k, LeO (spec_l1New.f k a0) (spec_l1New.f (k + 1) a0) := by
 intro a0 k
 have fW := spec_l1New.mono_l k
 unfold spec_l1New.f
 exact u3_mq0
set_option maxHeartbeats 8000000 in
set_option maxRecDepth 100000 in
theorem spec_l1New.calls (k : Nat) (A0 : Option Addr) (c0 : Nat) (l0 : List Int) (r1 : List Int) (r2 : Int) (r3 : Int) (w0 w : World) (hB : Below w0.heap.size w0 w) (aO : Kd.C (Kd.int .u8) w0 A0 l0.length l0) (fV : l0.length ≤ c0) (h : spec_l1New.f k l0 = some (r1, r2, r3)) :
 Calls Try.prog 29 #[.slice A0 l0.length c0] w fun e w' => ∃ g_ : Nat, e = .returned (.pointer (some ⟨g_, 0, none⟩)) ∧ IsS99 w0 w' g_ r1 r2 r3 ∧ Below w0.heap.size w0 w' ∧ Below w.heap.size w w' := by
 have qH := Try.underlying99
 have iE := aM aO
 have qG := aM fV
 clear aO fV
 have HBW := aM (Below.refl w.heap.size w)
 have HW0 := aM hB.size
 have HB := aM hB
 clear hB
 have H : (spec_l1New.l0 k l0 (wrap64 (10677 + (l0.length : Int))) 0) = some (r1, r2, r3) := h
 clear h
 have H' := aM H
 clear H
 go_enter Try.func29, Try.ntmps29
 go_wp2
 go_loopg [3, 4] k (fun kq v3 v4 w' => ∃ (bA : Int) (aL : Int), v3 = .int .i64 bA ∧ v4 = .int .i64 aL ∧ Aside0 (spec_l1New.l0 kq l0 bA aL = some (r1, r2, r3)) ∧ Aside0 (kq ≤ k) ∧ Aside0 (Below w.heap.size w w') ∧ Aside0 (Below w0.heap.size w0 w'))
 case atStart => exact ⟨(wrap64 (10677 + (l0.length : Int))), (0), u3_0, u3_0, H', ⟨Nat.le_refl _⟩, ⟨u3_3⟩, ⟨xbel⟩⟩
 case round =>
  clear H'; obtain ⟨bA, aL, rfl, rfl, HA, HK1, HBW, HB⟩ := hrel; cases gk with
  | zero => exact absurd HA.out (by simp [spec_l1New.l0])
  | succ k1 =>
   have H := HA.out; clear HA; simp only [spec_l1New.l0] at H; by_cases c2 : aL < (l0.length : Int)
   ·rw [if_pos c2] at H; have bK : decide (aL < (l0.length : Int)) = true := decide_eq_true c2; clear c2; by_cases c3 : aL < 4000
    ·rw [if_pos c3] at H; have cN : decide (aL < 4000) = true := decide_eq_true c3; clear c3; by_cases c4 : 0 ≤ aL
     ·rw [if_pos c4] at H; have cO : decide (0 ≤ aL) = true := decide_eq_true c4; clear c4; have H' := aM H; clear H; have p101 : 0 ≤ (aL : Int) := oda; have q101 : aL < (l0.length : Int) := oda; obtain ⟨pA, nH, bC⟩ := Kd.at_int iE.out aL p101 q101; cases nH
      replace bC := pw_cell_below HB.out bC; replace p101 := eq_true p101; replace q101 := eq_true q101; go_wp2; go_roundg k1
      case measure => have := HK1.out; omega
      case rel => exact ⟨(Go.bits .and .i64 (wrap64 ((wrap64 ((wrap64 (bA * 131)) + (wrap64 (rd l0 aL)))) + 7)) 1073741823), (wrap64 (aL + 1)), u3_0, u3_0, H', ⟨by have := HK1.out; omega⟩, ⟨u3_3⟩, ⟨xbel⟩⟩
     ·rw [if_neg c4] at H; exact absurd H (by simp)
    ·rw [if_neg c3] at H; have cN : decide (aL < 4000) = false := decide_eq_false c3; clear c3; simp only [Option.some.injEq, Prod.mk.injEq] at H; obtain ⟨rfl, rfl, rfl⟩ := H; go_wp2_with (first | ((with_reducible refine gD 31 rfl ?_); refine boxE (N := 31) rfl (cs := #[.slice A0 l0.length c0, .int .i64 0, .int .i64 bA]) (t := 99) ?_; intro bE hg w5 hbox hb; replace HB := xbs hb; have pB := aM (hbox); have fX := aM ((by rw [hg]; exact (below_size u3_3) : w.heap.size ≤ bE)); have fY := aM ((Nat.le_trans HW0.out (by rw [hg]; exact (below_size u3_3) : w.heap.size ≤ bE) : w0.heap.size ≤ bE)); replace HBW := aM (below_step HBW.out hb); clear hb hbox hg))
     go_ret
     exact ⟨_, rfl, (show IsS99 w0 _ bE l0 0 bA from ⟨_, _, xB, fY.out, iE.out⟩), xbg, by repeat (first | (with_reducible first | exact HBW.out | apply below_alloc | apply pw_below_drewN | apply below_drew1 | refine below_set ?_ fX.out) | exact HBW.out)⟩
   ·rw [if_neg c2] at H; have bK : decide (aL < (l0.length : Int)) = false := decide_eq_false c2; clear c2; simp only [Option.some.injEq, Prod.mk.injEq] at H; obtain ⟨rfl, rfl, rfl⟩ := H; go_wp2_with (first | ((with_reducible refine gD 31 rfl ?_); refine boxE (N := 31) rfl (cs := #[.slice A0 l0.length c0, .int .i64 0, .int .i64 bA]) (t := 99) ?_; intro bG hg w6 hbox hb; replace HB := xbs hb; have pC := aM (hbox); have fZ := aM ((by rw [hg]; exact (below_size u3_3) : w.heap.size ≤ bG)); have gA := aM ((Nat.le_trans HW0.out (by rw [hg]; exact (below_size u3_3) : w.heap.size ≤ bG) : w0.heap.size ≤ bG)); replace HBW := aM (below_step HBW.out hb); clear hb hbox hg))
    go_ret
    exact ⟨_, rfl, (show IsS99 w0 _ bG l0 0 bA from ⟨_, _, xB, gA.out, iE.out⟩), xbg, by repeat (first | (with_reducible first | exact HBW.out | apply below_alloc | apply pw_below_drewN | apply below_drew1 | refine below_set ?_ fZ.out) | exact HBW.out)⟩

/-! ### spec_l1Byte: function 64 -/
def spec_l1Byte.f (s0_0 : List Int) (s0_1 : Int) (s0_2 : Int) : Option (Int × Int × Int) := if s0_1 < (s0_0.length : Int) then (if 0 ≤ s0_1 then (some (Go.bits .and .i64 (wrap64 ((Go.bits .and .i64 (Go.bits .xor .i64 ((wrap64 ((wrap64 (s0_2 * 6364136223846793005)) + 1442695040888963407)) / 8589934592) ((wrap64 ((wrap64 (s0_2 * 6364136223846793005)) + 1442695040888963407)) / 35184372088832)) 255) + (wrap64 (rd s0_0 s0_1)))) 255, wrap64 (s0_1 + 1), wrap64 ((wrap64 (s0_2 * 6364136223846793005)) + 1442695040888963407))) else (none)) else (some (Go.bits .and .i64 (Go.bits .xor .i64 ((wrap64 ((wrap64 (s0_2 * 6364136223846793005)) + 1442695040888963407)) / 8589934592) ((wrap64 ((wrap64 (s0_2 * 6364136223846793005)) + 1442695040888963407)) / 35184372088832)) 255, s0_1, wrap64 ((wrap64 (s0_2 * 6364136223846793005)) + 1442695040888963407)))
set_option maxHeartbeats 8000000 in
set_option maxRecDepth 100000 in
theorem spec_l1Byte.calls (g : Nat) (s0_0 : List Int) (s0_1 : Int) (s0_2 : Int) (r1 : Int) (r2 : Int) (r3 : Int) (w0 w : World) (hI : IsS99 w0 w g s0_0 s0_1 s0_2) (hB : Below w0.heap.size w0 w) (h : spec_l1Byte.f s0_0 s0_1 s0_2 = some (r1, r2, r3)) :
 Calls Try.prog 64 #[.pointer (some ⟨g, 0, none⟩)] w fun e w' => e = .returned (.int .i64 r1) ∧ IsS99 w0 w' g s0_0 r2 r3 ∧ Below w0.heap.size w0 w' ∧ KeepBut w w' g none := by
 have HI0 := aM hI
 have HK := aM (KeepBut.refl w g none)
 have HL := aM hB.size
 clear hI
 have HW0 := aM hB.size
 have HB := aM hB
 clear hB
 have H : (if s0_1 < (s0_0.length : Int) then (if 0 ≤ s0_1 then (some (Go.bits .and .i64 (wrap64 ((Go.bits .and .i64 (Go.bits .xor .i64 ((wrap64 ((wrap64 (s0_2 * 6364136223846793005)) + 1442695040888963407)) / 8589934592) ((wrap64 ((wrap64 (s0_2 * 6364136223846793005)) + 1442695040888963407)) / 35184372088832)) 255) + (wrap64 (rd s0_0 s0_1)))) 255, wrap64 (s0_1 + 1), wrap64 ((wrap64 (s0_2 * 6364136223846793005)) + 1442695040888963407))) else (none)) else (some (Go.bits .and .i64 (Go.bits .xor .i64 ((wrap64 ((wrap64 (s0_2 * 6364136223846793005)) + 1442695040888963407)) / 8589934592) ((wrap64 ((wrap64 (s0_2 * 6364136223846793005)) + 1442695040888963407)) / 35184372088832)) 255, s0_1, wrap64 ((wrap64 (s0_2 * 6364136223846793005)) + 1442695040888963407)))) = some (r1, r2, r3) := h
 clear h
 by_cases c2 : s0_1 < (s0_0.length : Int)
 ·rw [if_pos c2] at H; have bK : decide (s0_1 < (s0_0.length : Int)) = true := decide_eq_true c2; clear c2; by_cases c3 : 0 ≤ s0_1
  ·rw [if_pos c3] at H; have cN : decide (0 ≤ s0_1) = true := decide_eq_true c3; clear c3; simp only [Option.some.injEq, Prod.mk.injEq] at H; obtain ⟨rfl, rfl, rfl⟩ := H; obtain ⟨ASz4_0, cSz4_0, HGz4, hgz4, HSz4_0⟩ := HI0.out; have bR := cellS99_0 HGz4; have bU := cellS99_1 HGz4; have bV := cellS99_2 HGz4; have bW := blk_frozen HGz4 1; have bX := blk_frozen HGz4 2; clear HGz4 hgz4; have p104 : 0 ≤ (s0_1 : Int) := oda; have q104 : s0_1 < (s0_0.length : Int) := oda; obtain ⟨gB, nI, aK⟩ := Kd.at_int HSz4_0 s0_1 p104 q104; cases nI
   have hn104_0 : gB.block ≠ g := Nat.ne_of_lt (Nat.lt_of_lt_of_le (by have := World.block_lt_of_cell? _ _ aK; first | rwa [add_block] at this | exact this) (IsS99.ge HI0.out)); replace aK := pw_cell_below HB.out aK; replace aK := (cell_far (p := ⟨g, 2, none⟩) (by first | (rw [add_block]; exact hn104_0) | (show (Addr.add _ _).block ≠ _; rw [add_block]; exact hn104_0) | exact hn104_0) (.int .i64 (wrap64 ((wrap64 (s0_2 * 6364136223846793005)) + 1442695040888963407)))).trans aK; (try have iG := fun (n_ : Nat) => (show (((w.drewN n_).setCell ⟨g, 2, none⟩ (.int .i64 (wrap64 ((wrap64 (s0_2 * 6364136223846793005)) + 1442695040888963407))))).cell? _ = some _ from aK)); clear hn104_0; replace p104 := eq_true p104; replace q104 := eq_true q104; go_enter Try.func64, Try.ntmps64
   go_wp2
   repeat (go_quiet (fail); try go_wp2)
   go_ret
   exact ⟨xerr, IsS99.s, IsS99.B, xK⟩
  ·rw [if_neg c3] at H; exact absurd H (by simp)
 ·rw [if_neg c2] at H; have bK : decide (s0_1 < (s0_0.length : Int)) = false := decide_eq_false c2; clear c2; simp only [Option.some.injEq, Prod.mk.injEq] at H; obtain ⟨rfl, rfl, rfl⟩ := H; obtain ⟨ASz5_0, cSz5_0, HGz5, hgz5, HSz5_0⟩ := HI0.out; have nJ := cellS99_0 HGz5; have nK := cellS99_1 HGz5; have nL := cellS99_2 HGz5; have nM := blk_frozen HGz5 1; have nN := blk_frozen HGz5 2; clear HGz5 hgz5; go_enter Try.func64, Try.ntmps64
  go_wp2
  repeat (go_quiet (fail); try go_wp2)
  go_ret
  exact ⟨xerr, IsS99.s, IsS99.B, xK⟩

/-! ### spec_l1Below: function 31 -/
def spec_l1Below.f (s0_0 : List Int) (s0_1 : Int) (s0_2 : Int) (a1 : Int) : Option (Int × Int × Int) := if a1 ≤ 0 then (some (0, s0_1, s0_2)) else (if a1 ≤ 256 then ((spec_l1Byte.f s0_0 s0_1 s0_2).bind fun aQ => (if a1 = 0 then (none) else (some (Int.tmod aQ.1 a1, aQ.2.1, aQ.2.2)))) else ((spec_l1Byte.f s0_0 s0_1 s0_2).bind fun aR => ((spec_l1Byte.f s0_0 aR.2.1 aR.2.2).bind fun aS => ((spec_l1Byte.f s0_0 aS.2.1 aS.2.2).bind fun aT => ((spec_l1Byte.f s0_0 aT.2.1 aT.2.2).bind fun aU => (if a1 = 0 then (none) else (some (Int.tmod (wrap64 ((wrap64 ((wrap64 ((wrap64 (aR.1 * 16777216)) + (wrap64 (aS.1 * 65536)))) + (wrap64 (aT.1 * 256)))) + aU.1)) a1, aU.2.1, aU.2.2))))))))
set_option maxHeartbeats 8000000 in
set_option maxRecDepth 100000 in
theorem spec_l1Below.calls (g : Nat) (s0_0 : List Int) (s0_1 : Int) (s0_2 : Int) (a1 : Int) (r1 : Int) (r2 : Int) (r3 : Int) (w0 w : World) (hI : IsS99 w0 w g s0_0 s0_1 s0_2) (hB : Below w0.heap.size w0 w) (h : spec_l1Below.f s0_0 s0_1 s0_2 a1 = some (r1, r2, r3)) :
 Calls Try.prog 31 #[.pointer (some ⟨g, 0, none⟩), .int .i64 a1] w fun e w' => e = .returned (.int .i64 r1) ∧ IsS99 w0 w' g s0_0 r2 r3 ∧ Below w0.heap.size w0 w' ∧ KeepBut w w' g none := by
 have HI0 := aM hI
 have HK := aM (KeepBut.refl w g none)
 have HL := aM hB.size
 clear hI
 have HW0 := aM hB.size
 have HB := aM hB
 clear hB
 have H : (if a1 ≤ 0 then (some (0, s0_1, s0_2)) else (if a1 ≤ 256 then ((spec_l1Byte.f s0_0 s0_1 s0_2).bind fun aQ => (if a1 = 0 then (none) else (some (Int.tmod aQ.1 a1, aQ.2.1, aQ.2.2)))) else ((spec_l1Byte.f s0_0 s0_1 s0_2).bind fun aR => ((spec_l1Byte.f s0_0 aR.2.1 aR.2.2).bind fun aS => ((spec_l1Byte.f s0_0 aS.2.1 aS.2.2).bind fun aT => ((spec_l1Byte.f s0_0 aT.2.1 aT.2.2).bind fun aU => (if a1 = 0 then (none) else (some (Int.tmod (wrap64 ((wrap64 ((wrap64 ((wrap64 (aR.1 * 16777216)) + (wrap64 (aS.1 * 65536)))) + (wrap64 (aT.1 * 256)))) + aU.1)) a1, aU.2.1, aU.2.2))))))))) = some (r1, r2, r3) := h
 clear h
 by_cases c3 : a1 ≤ 0
 ·rw [if_pos c3] at H; have cN : decide (a1 ≤ 0) = true := decide_eq_true c3; clear c3; simp only [Option.some.injEq, Prod.mk.injEq] at H; obtain ⟨rfl, rfl, rfl⟩ := H; go_enter Try.func31, Try.ntmps31
  go_wp2; go_ret
  exact ⟨xerr, IsS99.s, IsS99.B, xK⟩
 ·rw [if_neg c3] at H; have cN : decide (a1 ≤ 0) = false := decide_eq_false c3; clear c3; by_cases c4 : a1 ≤ 256
  ·rw [if_pos c4] at H; have cO : decide (a1 ≤ 256) = true := decide_eq_true c4; clear c4; replace H := oB H; obtain ⟨⟨nO, nP, nQ⟩, pD, H⟩ := H; (try dsimp only at H); have A5 := aM pD; clear pD
   by_cases c6 : a1 = 0
   ·rw [if_pos c6] at H; exact absurd H (by simp)
   ·rw [if_neg c6] at H; obtain ⟨qI, qJ⟩ := bF c6; simp only [Option.some.injEq, Prod.mk.injEq] at H; obtain ⟨rfl, rfl, rfl⟩ := H; go_enter Try.func31, Try.ntmps31
    go_wp2_with (first | ((with_reducible refine gC 64 rfl ?_); refine goesLY (some 14) rfl Try.func64 #[.pointer (some ⟨g, 0, none⟩)] ?_; (with_reducible refine (spec_l1Byte.calls g s0_0 s0_1 s0_2 nO nP nQ w0 _ ?side1 ?side2 A5.out).mono ?_); (case side1 => exact IsS99.s); (case side2 => exact IsS99.B); rintro e w7 ⟨rfl, hi, hb, hk⟩; refine ⟨_, rfl, ?_⟩; replace HK := xhk HK hk; replace HB := aM (hb); replace HI0 := aM (hi); (try clear hb hk hi)))
    go_ret
    exact ⟨xerr, IsS99.s, IsS99.B, xK⟩
  ·rw [if_neg c4] at H; have cO : decide (a1 ≤ 256) = false := decide_eq_false c4; clear c4; replace H := oB H; obtain ⟨⟨nR, gE, gF⟩, pE, H⟩ := H; (try dsimp only at H); have A8 := aM pE; clear pE; replace H := oB H
   obtain ⟨⟨nS, gG, gH⟩, pF, H⟩ := H; (try dsimp only at H); have A9 := aM pF; clear pF; replace H := oB H
   obtain ⟨⟨nT, gI, gJ⟩, gK, H⟩ := H; (try dsimp only at H); have qK := aM gK; clear gK; replace H := oB H
   obtain ⟨⟨nU, nV, nW⟩, gL, H⟩ := H; (try dsimp only at H); have qL := aM gL; clear gL
   by_cases nX : a1 = 0
   ·rw [if_pos nX] at H; exact absurd H (by simp)
   ·rw [if_neg nX] at H; obtain ⟨pG, pH⟩ := bF nX; simp only [Option.some.injEq, Prod.mk.injEq] at H; obtain ⟨rfl, rfl, rfl⟩ := H; go_enter Try.func31, Try.ntmps31
    go_wp2_with (first | ((with_reducible refine gC 64 rfl ?_); refine goesLY (some 18) rfl Try.func64 #[.pointer (some ⟨g, 0, none⟩)] ?_; (with_reducible refine (spec_l1Byte.calls g s0_0 s0_1 s0_2 nR gE gF w0 _ ?side1 ?side2 A8.out).mono ?_); (case side1 => exact IsS99.s); (case side2 => exact IsS99.B); rintro e qS ⟨rfl, hi, hb, hk⟩; refine ⟨_, rfl, ?_⟩; replace HK := xhk HK hk; replace HB := aM (hb); replace HI0 := aM (hi); (try clear hb hk hi)) | ((with_reducible refine gC 64 rfl ?_); refine goesLY (some 20) rfl Try.func64 #[.pointer (some ⟨g, 0, none⟩)] ?_; (with_reducible refine (spec_l1Byte.calls g s0_0 gE gF nS gG gH w0 _ ?side1 ?side2 A9.out).mono ?_); (case side1 => exact IsS99.s); (case side2 => exact IsS99.B); rintro e nY ⟨rfl, hi, hb, hk⟩; refine ⟨_, rfl, ?_⟩; replace HK := xhk HK hk; replace HB := aM (hb); replace HI0 := aM (hi); (try clear hb hk hi)) | ((with_reducible refine gC 64 rfl ?_); refine goesLY (some 22) rfl Try.func64 #[.pointer (some ⟨g, 0, none⟩)] ?_; (with_reducible refine (spec_l1Byte.calls g s0_0 gG gH nT gI gJ w0 _ ?side1 ?side2 qK.out).mono ?_); (case side1 => exact IsS99.s); (case side2 => exact IsS99.B); rintro e qT ⟨rfl, hi, hb, hk⟩; refine ⟨_, rfl, ?_⟩; replace HK := xhk HK hk; replace HB := aM (hb); replace HI0 := aM (hi); (try clear hb hk hi)) | ((with_reducible refine gC 64 rfl ?_); refine goesLY (some 24) rfl Try.func64 #[.pointer (some ⟨g, 0, none⟩)] ?_; (with_reducible refine (spec_l1Byte.calls g s0_0 gI gJ nU nV nW w0 _ ?side1 ?side2 qL.out).mono ?_); (case side1 => exact IsS99.s); (case side2 => exact IsS99.B); rintro e qU ⟨rfl, hi, hb, hk⟩; refine ⟨_, rfl, ?_⟩; replace HK := xhk HK hk; replace HB := aM (hb); replace HI0 := aM (hi); (try clear hb hk hi)))
    go_ret
    exact ⟨xerr, IsS99.s, IsS99.B, xK⟩

/-! ### spec_l1Once: function 30 -/
def spec_l1Once.f (s0_0 : List Int) (s0_1 : Int) (s0_2 : Int) (a1 : Int) : Option (Bool × Int × Int) := (spec_l1Below.f s0_0 s0_1 s0_2 a1).bind fun aV => (some ((aV.1 == 0), aV.2.1, aV.2.2))
set_option maxHeartbeats 8000000 in
set_option maxRecDepth 100000 in
theorem spec_l1Once.calls (g : Nat) (s0_0 : List Int) (s0_1 : Int) (s0_2 : Int) (a1 : Int) (r1 : Bool) (r2 : Int) (r3 : Int) (w0 w : World) (hI : IsS99 w0 w g s0_0 s0_1 s0_2) (hB : Below w0.heap.size w0 w) (h : spec_l1Once.f s0_0 s0_1 s0_2 a1 = some (r1, r2, r3)) :
 Calls Try.prog 30 #[.pointer (some ⟨g, 0, none⟩), .int .i64 a1] w fun e w' => e = .returned (.bool r1) ∧ IsS99 w0 w' g s0_0 r2 r3 ∧ Below w0.heap.size w0 w' ∧ KeepBut w w' g none := by
 have HI0 := aM hI
 have HK := aM (KeepBut.refl w g none)
 have HL := aM hB.size
 clear hI
 have HW0 := aM hB.size
 have HB := aM hB
 clear hB
 have H : ((spec_l1Below.f s0_0 s0_1 s0_2 a1).bind fun aV => (some ((aV.1 == 0), aV.2.1, aV.2.2))) = some (r1, r2, r3) := h
 clear h
 replace H := oB H
 obtain ⟨⟨nZ, oA, oC⟩, pI, H⟩ := H
 (try dsimp only at H)
 have A3 := aM pI
 clear pI
 simp only [Option.some.injEq, Prod.mk.injEq] at H
 obtain ⟨rfl, rfl, rfl⟩ := H
 go_enter Try.func30, Try.ntmps30
 go_wp2_with (first | ((with_reducible refine gC 31 rfl ?_); refine goesLY (some 7) rfl Try.func31 #[.pointer (some ⟨g, 0, none⟩), .int .i64 a1] ?_; (with_reducible refine (spec_l1Below.calls g s0_0 s0_1 s0_2 a1 nZ oA oC w0 _ ?side1 ?side2 A3.out).mono ?_); (case side1 => exact IsS99.s); (case side2 => exact IsS99.B); rintro e w4 ⟨rfl, hi, hb, hk⟩; refine ⟨_, rfl, ?_⟩; replace HK := xhk HK hk; replace HB := aM (hb); replace HI0 := aM (hi); (try clear hb hk hi)))
 go_ret
 exact ⟨xerr, IsS99.s, IsS99.B, xK⟩

/-! ### spec_l1In: function 44 -/
def spec_l1In.f (a0 : Int) (a1 : Int) (a2 : Int) : Option (Bool) := if a0 ≥ a1 then (some (decide (a0 ≤ a2))) else (some false)
set_option maxHeartbeats 8000000 in
set_option maxRecDepth 100000 in
theorem spec_l1In.calls (a0 : Int) (a1 : Int) (a2 : Int) (r : Bool) (w : World) (h : spec_l1In.f a0 a1 a2 = some r) :
 Calls Try.prog 44 #[.int .i64 a0, .int .i64 a1, .int .i64 a2] w fun e w' => e = .returned (.bool r) ∧ Drawn0 w w' := by
 have H : (if a0 ≥ a1 then (some (decide (a0 ≤ a2))) else (some false)) = some r := h
 clear h
 by_cases c4 : a0 ≥ a1
 ·rw [if_pos c4] at H; have cO : decide (a1 ≤ a0) = true := decide_eq_true c4; clear c4; obtain rfl := Option.some.inj H; go_enter Try.func44, Try.ntmps44
  go_wp2; go_ret
  exact ⟨u3_0, u3_4⟩
 ·rw [if_neg c4] at H; have cO : decide (a1 ≤ a0) = false := decide_eq_false c4; clear c4; obtain rfl := Option.some.inj H; go_enter Try.func44, Try.ntmps44
  go_wp2; go_ret
  exact ⟨u3_0, u3_4⟩

/-! ### spec_l1Whole: function 43 -/
def spec_l1Whole.f (a0 : Int) : Option (Bool) := (spec_l1In.f a0 0 1000000000).bind fun bY => (some bY)
set_option maxHeartbeats 8000000 in
set_option maxRecDepth 100000 in
theorem spec_l1Whole.calls (a0 : Int) (r : Bool) (w : World) (h : spec_l1Whole.f a0 = some r) :
 Calls Try.prog 43 #[.int .i64 a0] w fun e w' => e = .returned (.bool r) ∧ Drawn0 w w' := by
 have H : ((spec_l1In.f a0 0 1000000000).bind fun bY => (some bY)) = some r := h
 clear h
 replace H := oB H
 obtain ⟨bY, gM, H⟩ := H
 (try dsimp only at H)
 have A2 := aM gM
 clear gM
 obtain rfl := Option.some.inj H
 go_enter Try.func43, Try.ntmps43
 go_wp2_with (first | ((with_reducible refine gC 44 rfl ?_); refine goesLY (some 4) rfl Try.func44 #[.int .i64 a0, .int .i64 0, .int .i64 1000000000] ?_; (with_reducible refine (spec_l1In.calls a0 0 1000000000 bY _ A2.out).mono ?_); rintro e w' ⟨rfl, ⟨nd, rfl⟩⟩; refine ⟨_, rfl, ?_⟩))
 go_ret
 exact ⟨u3_0, u3_4⟩

/-! ### spec_CmdOk: function 74 -/
def spec_CmdOk.j0 : Nat → Bool → Int → Int → Int → Int → ByteArray → Int → Int → Int → Int → ByteArray → Option (Bool)
 | 0, _, _, _, _, _, _, _, _, _, _, _ => none
 | k + 1, qM, aP, iH, aW, aX, aY, bH, iI, cP, bI, bJ => if qM = true then (some false) else (if aP = 2 then ((spec_l1In.f aX 0 1000).bind fun fD => (if fD = true then (if (aY.size : Int) = 32 then (some (aW == 0)) else (some false)) else (some false))) else (if aP = 3 then ((spec_l1In.f aW 0 4).bind fun fE => (if fE = true then (some (aP == bH && (aX == bI && (aY.toList == bJ.toList)))) else (some false))) else (some (aP == bH && (aW == cP && (aX == bI && (aY.toList == bJ.toList)))))))
def spec_CmdOk.f (k : Nat) (aA : Int) (aG : Int) (aF : Int) (aE : Int) (aH : ByteArray) : Option (Bool) := if aA = 1 then (some (aG == 0 && (aF == 0 && (aE == 0 && (aH.toList == ([] : List UInt8)))))) else ((spec_l1In.f aA 2 5).bind fun bZ => (if bZ = true then ((spec_l1In.f aG 1 1000).bind fun bL => (spec_CmdOk.j0 k (!bL) aA aG aF aE aH aA 0 0 0 (⟨#[]⟩ : ByteArray))) else (spec_CmdOk.j0 k true aA aG aF aE aH aA 0 0 0 (⟨#[]⟩ : ByteArray))))
theorem u3_mq1 {p : Prop} (h : p := by repeat' first | (with_reducible first | exact fW _ _ _ _ _ _ _ _ _ _ _ | exact LeO.refl _ | exact LeO.none _ | refine LeO.ite ?_ ?_ | refine LeO.bind ?_ (fun _ => ?_)) | exact LeO.none _ | refine LeO.ite ?_ ?_ | refine LeO.bind ?_ (fun _ => ?_)) : p := h
set_option maxRecDepth 100000 in
theorem spec_CmdOk.mono_l : ∀ k, (∀ y0 y1 y2 y3 y4 y5 y6 y7 y8 y9 oD, LeO (spec_CmdOk.j0 k y0 y1 y2 y3 y4 y5 y6 y7 y8 y9 oD) (spec_CmdOk.j0 (k + 1) y0 y1 y2 y3 y4 y5 y6 y7 y8 y9 oD))
 | 0 => fun _ _ _ _ _ _ _ _ _ _ _ r h => by simp [spec_CmdOk.j0] at h
 | k + 1 => by
  have fW := spec_CmdOk.mono_l k
  ·intro y0 y1 y2 y3 y4 y5 y6 y7 y8 y9 oD; unfold spec_CmdOk.j0; exact u3_mq1
theorem spec_CmdOk.mono : ∀ a0 a1 a2 a3 a4 k, LeO (spec_CmdOk.f k a0 a1 a2 a3 a4) (spec_CmdOk.f (k + 1) a0 a1 a2 a3 a4) := by
 intro a0 a1 a2 a3 a4 k
 have fW := spec_CmdOk.mono_l k
 unfold spec_CmdOk.f
 exact u3_mq1
set_option maxHeartbeats 8000000 in
set_option maxRecDepth 100000 in
theorem spec_CmdOk.calls (k : Nat) (aA : Int) (aG : Int) (aF : Int) (aE : Int) (aH : ByteArray) (r : Bool) (w : World) (h : spec_CmdOk.f k aA aG aF aE aH = some r) :
 Calls Try.prog 74 #[.agg #[.int .i64 aA, .int .i64 aG, .int .i64 aF, .int .i64 aE, .string aH]] w fun e w' => e = .returned (.bool r) ∧ Below w.heap.size w w' := by
 have bQ := Try.underlying34
 have HB := aM (Below.refl w.heap.size w)
 have H : (if aA = 1 then (some (aG == 0 && (aF == 0 && (aE == 0 && (aH.toList == ([] : List UInt8)))))) else ((spec_l1In.f aA 2 5).bind fun bZ => (if bZ = true then ((spec_l1In.f aG 1 1000).bind fun bL => (spec_CmdOk.j0 k (!bL) aA aG aF aE aH aA 0 0 0 (⟨#[]⟩ : ByteArray))) else (spec_CmdOk.j0 k true aA aG aF aE aH aA 0 0 0 (⟨#[]⟩ : ByteArray))))) = some r := h
 clear h
 by_cases c2 : aA = 1
 ·rw [if_pos c2] at H; obtain ⟨bK, gN⟩ := bT c2; clear c2; obtain rfl := Option.some.inj H; go_enter Try.func74, Try.ntmps74
  go_wp2_with (first | ((with_reducible refine gD 1 rfl ?_); (try (refine gate_guard (by rfl) ?_; dsimp only)); refine boxE (N := 1) rfl (cs := #[.int .i64 aA, .int .i64 aG, .int .i64 aF, .int .i64 aE, .string aH]) (t := 34) ?_; intro fB hg w3 hbox hb; have aD := aM (hbox); have gO := aM (xge hg); have gP := aM (xge hg); replace HB := xbs hb; clear hb hbox hg; obtain ⟨bR, bU, bV, fF, fG, fH, bW, bX, fI, fJ⟩ := xf5 (w := w3) aD) | ((with_reducible refine gD 3 rfl ?_); (try (refine gate_guard (by rfl) ?_; dsimp only)); refine boxE (N := 3) rfl (cs := #[.int .i64 0, .int .i64 0, .int .i64 0, .int .i64 0, .string (⟨#[]⟩ : ByteArray)]) (t := 34) ?_; intro aI hg w5 hbox hb; have gQ := aM (xge hg); have gR := aM (xge hg); replace HB := xbs hb; have aB := nblt aD hg; have aC := nbgt aD hg; replace aD := xbb aD hb; have aJ := aM (hbox); clear hb hbox hg; have qN := aC.out; have qO := aB.out; obtain ⟨fK, fL, fM, fN, fO, fP, fQ, fR, fS, fT⟩ := xf5 (w := w5) aJ) | ((with_reducible refine gate_store (t := 34) (p := 3) rfl ?_); refine store_event (t := 34) (p := 3) (v := ?vo_w8) (w1 := (((((w5.setCell ⟨aI, 0, none⟩ (.int .i64 aA)).setCell ⟨aI, 1, none⟩ (.int .i64 0)).setCell ⟨aI, 2, none⟩ (.int .i64 0)).setCell ⟨aI, 3, none⟩ (.int .i64 0)).setCell ⟨aI, 4, none⟩ (.string (⟨#[]⟩ : ByteArray)))) ?hg ?ho ?hn ?hr ?_; (case ho | hg | hn => rfl); (case hr => first | (go_simp; done) | (go_simp; rfl)); intro w8 hw; replace aD := xwc hw aD; replace aJ : Aside0 (w8.heap[aI]? = some (.cells #[.int .i64 aA, .int .i64 0, .int .i64 0, .int .i64 0, .string (⟨#[]⟩ : ByteArray)] 34 (0, 0))) := xwp hw; replace HB := xbw hw HB; clear hw; obtain ⟨cA, cB, cC, cD, cE, cF, cG, cH, cI, cJ⟩ := xf5 (w := w8) aD; obtain ⟨cQ, cS, cT, cU, cV, cW, cX, cY, cZ, dA⟩ := xf5 (w := w8) aJ))
  go_ret
  exact ⟨xerr, xbg⟩
 ·rw [if_neg c2] at H; obtain ⟨bK, gN⟩ := bF c2; have fU := aM H; clear H; go_enter Try.func74, Try.ntmps74
  go_upto_region 4 with (first | ((with_reducible refine gD 1 rfl ?_); (try (refine gate_guard (by rfl) ?_; dsimp only)); refine boxE (N := 1) rfl (cs := #[.int .i64 aA, .int .i64 aG, .int .i64 aF, .int .i64 aE, .string aH]) (t := 34) ?_; intro fB hg qP hbox hb; have aD := aM (hbox); have gO := aM (xge hg); have gP := aM (xge hg); replace HB := xbs hb; clear hb hbox hg; obtain ⟨dB, dC, dE, dF, dG, dH, dI, dJ, dK, dL⟩ := xf5 (w := qP) aD) | ((with_reducible refine gD 3 rfl ?_); (try (refine gate_guard (by rfl) ?_; dsimp only)); refine boxE (N := 3) rfl (cs := #[.int .i64 0, .int .i64 0, .int .i64 0, .int .i64 0, .string (⟨#[]⟩ : ByteArray)]) (t := 34) ?_; intro aI hg nY hbox hb; have gQ := aM (xge hg); have gR := aM (xge hg); replace HB := xbs hb; have aB := nblt aD hg; have aC := nbgt aD hg; replace aD := xbb aD hb; have aJ := aM (hbox); clear hb hbox hg; have pJ := aC.out; have pK := aB.out; obtain ⟨dM, dN, dO, dP, dQ, dR, dS, dU, dV, dW⟩ := xf5 (w := nY) aJ) | ((with_reducible refine gate_store (t := 34) (p := 3) rfl ?_); refine store_event (t := 34) (p := 3) (v := ?vo_w17) (w1 := (((((nY.setCell ⟨aI, 0, none⟩ (.int .i64 aA)).setCell ⟨aI, 1, none⟩ (.int .i64 0)).setCell ⟨aI, 2, none⟩ (.int .i64 0)).setCell ⟨aI, 3, none⟩ (.int .i64 0)).setCell ⟨aI, 4, none⟩ (.string (⟨#[]⟩ : ByteArray)))) ?hg ?ho ?hn ?hr ?_; (case ho | hg | hn => rfl); (case hr => first | (go_simp; done) | (go_simp; rfl)); intro iJ hw; replace aD := xwc hw aD; replace aJ : Aside0 (iJ.heap[aI]? = some (.cells #[.int .i64 aA, .int .i64 0, .int .i64 0, .int .i64 0, .string (⟨#[]⟩ : ByteArray)] 34 (0, 0))) := xwp hw; replace HB := xbw hw HB; clear hw; obtain ⟨dX, dY, dZ, eA, eB, eC, eD, eE, eF, eG⟩ := xf5 (w := iJ) aD))
  (try simp only [Act.put, List.setIfInBounds_toArray, List.set_cons_zero, List.set_cons_succ]); go_cut [22] (fun v22 wc => ∃ (kq : Nat) (aZ : Bool), v22 = .bool aZ ∧ Aside0 (spec_CmdOk.j0 kq aZ aA aG aF aE aH aA 0 0 0 (⟨#[]⟩ : ByteArray) = some r) ∧ Aside0 (kq ≤ k) ∧ Aside0 (wc.heap[fB]? = some (.cells #[.int .i64 aA, .int .i64 aG, .int .i64 aF, .int .i64 aE, .string aH] 34 (0, 0))) ∧ Aside0 (wc.heap[aI]? = some (.cells #[.int .i64 aA, .int .i64 0, .int .i64 0, .int .i64 0, .string (⟨#[]⟩ : ByteArray)] 34 (0, 0))) ∧ Aside0 (Below w.heap.size w wc))
  case first =>
   have H := fU.out; clear fU; replace H := oB H; obtain ⟨bZ, gS, H⟩ := H; (try dsimp only at H); have pL := aM gS; clear gS
   by_cases gT : bZ = true
   ·subst gT; replace H := iT H; replace H := oB H; obtain ⟨bL, gU, H⟩ := H; (try dsimp only at H); have qQ := aM gU; clear gU
    have H' := aM H; clear H; have pM := aB.out; have pN := aC.out; obtain ⟨eH, eI, eJ, eK, eL, eM, eN, eO, eP, eQ⟩ := xf5 (w := iJ) aD; go_wp2_with (first | ((with_reducible refine gC 44 rfl ?_); refine goesLY (some 15) rfl Try.func44 #[.int .i64 aA, .int .i64 2, .int .i64 5] ?_; (with_reducible refine (spec_l1In.calls aA 2 5 true _ pL.out).mono ?_); rintro e w' ⟨rfl, ⟨nd, rfl⟩⟩; refine ⟨_, rfl, ?_⟩) | (go_at_call 44; (with_reducible refine (spec_l1In.calls aG 1 1000 bL _ qQ.out).mono ?_); rintro e w' ⟨rfl, ⟨nd, rfl⟩⟩))
    go_meet
    case rel => exact ⟨_, (!bL), u3_0, H', ⟨by first | omega | exact Nat.le_refl _⟩, ⟨xblk⟩, ⟨xblk⟩, ⟨xbg⟩⟩
   ·replace gT := Bool.eq_false_iff.mpr gT; subst gT; replace H := iN H; have H' := aM H; clear H; have pO := aB.out; have pP := aC.out; obtain ⟨eR, eS, eT, eU, eV, eW, eX, eY, eZ, fA⟩ := xf5 (w := iJ) aD; go_wp2_with (first | ((with_reducible refine gC 44 rfl ?_); refine goesLY (some 15) rfl Try.func44 #[.int .i64 aA, .int .i64 2, .int .i64 5] ?_; (with_reducible refine (spec_l1In.calls aA 2 5 false _ pL.out).mono ?_); rintro e w' ⟨rfl, ⟨nd, rfl⟩⟩; refine ⟨_, rfl, ?_⟩))
    go_meet
    case rel => exact ⟨_, (true), u3_0, H', ⟨by first | omega | exact Nat.le_refl _⟩, ⟨xblk⟩, ⟨xblk⟩, ⟨xbg⟩⟩
  case rest =>
   clear fU; try clear c1
   try clear c2
   try clear bK
   try clear gN
   try clear p2
   try clear c4
   try clear c6
   try clear c7
   try clear qV
   try clear gT
   try clear qW
   try clear qX
   try clear cQ cS cT cU cV
   try clear dB dC dE dF dG
   try clear dM dN dO dP dQ
   try clear dX dY dZ eA eB
   try clear eH eI eJ eK eL
   try clear eR eS eT eU eV
   try clear bR bU bV fF fG
   try clear fK fL fM fN fO
   try clear cA cB cC cD cE
   try clear cW cX cY cZ dA
   try clear dH dI dJ dK dL
   try clear dR dS dU dV dW
   try clear eC eD eE eF eG
   try clear eM eN eO eP eQ
   try clear eW eX eY eZ fA
   try clear fH bW bX fI fJ
   try clear fP fQ fR fS fT
   try clear cF cG cH cI cJ
   obtain ⟨kq, aZ, rfl, HA, HJ10, aD, aJ, HB⟩ := hcut; cases kq with
   | zero => exact absurd HA.out (by simp [spec_CmdOk.j0])
   | succ qR =>
    have H := HA.out; clear HA; simp only [spec_CmdOk.j0] at H; by_cases iK : aZ = true
    ·subst iK; replace H := iT H; obtain rfl := Option.some.inj H; go_wp2; go_ret
     exact ⟨xerr, xbg⟩
    ·replace iK := Bool.eq_false_iff.mpr iK; subst iK; replace H := iN H; by_cases gV : aA = 2
     ·rw [if_pos gV] at H; obtain ⟨gW, gX⟩ := bT gV; clear gV; replace H := oB H; obtain ⟨fD, gY, H⟩ := H; (try dsimp only at H); have oE := aM gY; clear gY
      by_cases iL : fD = true
      ·subst iL; replace H := iT H; by_cases gZ : (aH.size : Int) = 32
       ·rw [if_pos gZ] at H; obtain ⟨hJ, hU⟩ := bT gZ; clear gZ; obtain rfl := Option.some.inj H; have pQ := aB.out; have pR := aC.out; obtain ⟨iM, iO, iP, iQ, iR, iS, iU, iV, iW, iX⟩ := xf5 (w := wc) aD; obtain ⟨iY, iZ, jA, jB, jC, jD, jE, jF, jG, jH⟩ := xf5 (w := wc) aJ; go_wp2_with (first | ((with_reducible refine gC 44 rfl ?_); refine goesLY (some 32) rfl Try.func44 #[.int .i64 aE, .int .i64 0, .int .i64 1000] ?_; (with_reducible refine (spec_l1In.calls aE 0 1000 true _ oE.out).mono ?_); rintro e w' ⟨rfl, ⟨nd, rfl⟩⟩; refine ⟨_, rfl, ?_⟩))
        go_ret
        exact ⟨xerr, xbg⟩
       ·rw [if_neg gZ] at H; obtain ⟨hJ, hU⟩ := bF gZ; obtain rfl := Option.some.inj H; have pS := aB.out; have pT := aC.out; obtain ⟨jI, jJ, jK, jL, jM, jN, jO, jP, jQ, jR⟩ := xf5 (w := wc) aD; obtain ⟨jS, jT, jU, jV, jW, jX, jY, jZ, kA, kB⟩ := xf5 (w := wc) aJ; go_wp2_with (first | ((with_reducible refine gC 44 rfl ?_); refine goesLY (some 32) rfl Try.func44 #[.int .i64 aE, .int .i64 0, .int .i64 1000] ?_; (with_reducible refine (spec_l1In.calls aE 0 1000 true _ oE.out).mono ?_); rintro e w' ⟨rfl, ⟨nd, rfl⟩⟩; refine ⟨_, rfl, ?_⟩))
        go_ret
        exact ⟨xerr, xbg⟩
      ·replace iL := Bool.eq_false_iff.mpr iL; subst iL; replace H := iN H; obtain rfl := Option.some.inj H; have pW := aB.out; have pX := aC.out; obtain ⟨kC, kE, kF, kG, kH, kI, kJ, kK, kL, kM⟩ := xf5 (w := wc) aD; obtain ⟨kN, kO, kP, kQ, kR, kS, kT, kU, kV, kW⟩ := xf5 (w := wc) aJ; go_wp2_with (first | ((with_reducible refine gC 44 rfl ?_); refine goesLY (some 32) rfl Try.func44 #[.int .i64 aE, .int .i64 0, .int .i64 1000] ?_; (with_reducible refine (spec_l1In.calls aE 0 1000 false _ oE.out).mono ?_); rintro e w' ⟨rfl, ⟨nd, rfl⟩⟩; refine ⟨_, rfl, ?_⟩))
       go_ret
       exact ⟨xerr, xbg⟩
     ·rw [if_neg gV] at H; obtain ⟨gW, gX⟩ := bF gV; by_cases hX : aA = 3
      ·rw [if_pos hX] at H; obtain ⟨hY, hZ⟩ := bT hX; clear hX; replace H := oB H; obtain ⟨fE, iA, H⟩ := H; (try dsimp only at H); have pY := aM iA; clear iA
       by_cases kX : fE = true
       ·subst kX; replace H := iT H; obtain rfl := Option.some.inj H; have pZ := aB.out; have qA := aC.out; obtain ⟨kY, kZ, lA, lB, lC, lE, lF, lG, lH, lI⟩ := xf5 (w := wc) aD; obtain ⟨lJ, lK, lL, lM, lN, lO, lP, lQ, lR, lS⟩ := xf5 (w := wc) aJ; go_wp2_with (first | ((with_reducible refine gC 44 rfl ?_); refine goesLY (some 51) rfl Try.func44 #[.int .i64 aF, .int .i64 0, .int .i64 4] ?_; (with_reducible refine (spec_l1In.calls aF 0 4 true _ pY.out).mono ?_); rintro e w' ⟨rfl, ⟨nd, rfl⟩⟩; refine ⟨_, rfl, ?_⟩))
        go_ret
        exact ⟨xerr, xbg⟩
       ·replace kX := Bool.eq_false_iff.mpr kX; subst kX; replace H := iN H; obtain rfl := Option.some.inj H; have qB := aB.out; have qC := aC.out; obtain ⟨lT, lU, lV, lW, lX, lY, lZ, mA, mB, mC⟩ := xf5 (w := wc) aD; obtain ⟨mD, mE, mF, mG, mH, mI, mJ, mK, mL, mM⟩ := xf5 (w := wc) aJ; go_wp2_with (first | ((with_reducible refine gC 44 rfl ?_); refine goesLY (some 51) rfl Try.func44 #[.int .i64 aF, .int .i64 0, .int .i64 4] ?_; (with_reducible refine (spec_l1In.calls aF 0 4 false _ pY.out).mono ?_); rintro e w' ⟨rfl, ⟨nd, rfl⟩⟩; refine ⟨_, rfl, ?_⟩))
        go_ret
        exact ⟨xerr, xbg⟩
      ·rw [if_neg hX] at H; obtain ⟨hY, hZ⟩ := bF hX; obtain rfl := Option.some.inj H; have qD := aB.out; have qE := aC.out; obtain ⟨mN, mO, mP, mQ, mR, mS, mT, mU, mV, mW⟩ := xf5 (w := wc) aD; obtain ⟨mX, mY, mZ, nA, nB, nC, nD, nE, nF, nG⟩ := xf5 (w := wc) aJ; go_wp2; go_ret
       exact ⟨xerr, xbg⟩

/-! ### spec_l6Entry: function 45 -/
def spec_l6Entry.f (k : Nat) (aA : Int) (aG : Int) (aF : Int) (aE : Int) (aH : Int) (aN : ByteArray) : Option (Bool) := (spec_l1In.f aA 1 1000000000).bind fun cK => (if cK = true then ((spec_CmdOk.f k aG aF aE aH aN).bind fun cL => (some cL)) else (some false))
theorem u3_mq2 {p : Prop} (h : p := by repeat' first | (with_reducible first | exact spec_CmdOk.mono _ _ _ _ _ _ | exact LeO.refl _ | exact LeO.none _ | refine LeO.ite ?_ ?_ | refine LeO.bind ?_ (fun _ => ?_)) | exact LeO.none _ | refine LeO.ite ?_ ?_ | refine LeO.bind ?_ (fun _ => ?_)) : p := h
theorem spec_l6Entry.mono : ∀ a0 a1 a2 a3 a4 a5 k, LeO (spec_l6Entry.f k a0 a1 a2 a3 a4 a5) (spec_l6Entry.f (k + 1) a0 a1 a2 a3 a4 a5) := by
 intro a0 a1 a2 a3 a4 a5 k
 unfold spec_l6Entry.f
 exact u3_mq2
set_option maxHeartbeats 8000000 in
set_option maxRecDepth 100000 in
theorem spec_l6Entry.calls (k : Nat) (aA : Int) (aG : Int) (aF : Int) (aE : Int) (aH : Int) (aN : ByteArray) (r : Bool) (w : World) (h : spec_l6Entry.f k aA aG aF aE aH aN = some r) :
 Calls Try.prog 45 #[.agg #[.int .i64 aA, .int .i64 aG, .int .i64 aF, .int .i64 aE, .int .i64 aH, .string aN]] w fun e w' => e = .returned (.bool r) ∧ Below w.heap.size w w' := by
 have cM := Try.underlying36
 have bQ := Try.underlying34
 have HB := aM (Below.refl w.heap.size w)
 have H : ((spec_l1In.f aA 1 1000000000).bind fun cK => (if cK = true then ((spec_CmdOk.f k aG aF aE aH aN).bind fun cL => (some cL)) else (some false))) = some r := h
 clear h
 replace H := oB H
 obtain ⟨cK, gM, H⟩ := H
 (try dsimp only at H)
 have A2 := aM gM
 clear gM
 by_cases c3 : cK = true
 ·subst c3; replace H := iT H; replace H := oB H; obtain ⟨cL, qF, H⟩ := H; (try dsimp only at H); have A4 := aM qF; clear qF
  obtain rfl := Option.some.inj H; go_enter Try.func45, Try.ntmps45
  go_wp2_with (first | ((with_reducible refine gD 1 rfl ?_); refine boxE (N := 1) rfl (cs := #[.int .i64 aA, .int .i64 aG, .int .i64 aF, .int .i64 aE, .int .i64 aH, .string aN]) (t := 36) ?_; intro iB hg w5 hbox hb; have bB := aM (hbox); have iC := aM (xge hg); have iD := aM (xge hg); replace HB := xbs hb; clear hb hbox hg; obtain ⟨oF, oG, oH, oI, oJ, oK, oL, oM, oO, oP, oQ, oR⟩ := xf6 (w := w5) bB) | ((with_reducible refine gC 44 rfl ?_); refine goesLY (some 5) rfl Try.func44 #[.int .i64 aA, .int .i64 1, .int .i64 1000000000] ?_; (with_reducible refine (spec_l1In.calls aA 1 1000000000 true _ A2.out).mono ?_); rintro e w' ⟨rfl, ⟨nd, rfl⟩⟩; refine ⟨_, rfl, ?_⟩) | (go_at_call 74; (with_reducible refine (spec_CmdOk.calls k aG aF aE aH aN cL _ A4.out).mono ?_); rintro e w7 ⟨rfl, hb⟩; replace bB := xbb bB hb; replace HB := xbs hb; (try clear hb)))
  go_ret
  exact ⟨xerr, xbg⟩
 ·replace c3 := Bool.eq_false_iff.mpr c3; subst c3; replace H := iN H; obtain rfl := Option.some.inj H; go_enter Try.func45, Try.ntmps45
  go_wp2_with (first | ((with_reducible refine gD 1 rfl ?_); refine boxE (N := 1) rfl (cs := #[.int .i64 aA, .int .i64 aG, .int .i64 aF, .int .i64 aE, .int .i64 aH, .string aN]) (t := 36) ?_; intro iB hg w8 hbox hb; have bB := aM (hbox); have iC := aM (xge hg); have iD := aM (xge hg); replace HB := xbs hb; clear hb hbox hg; obtain ⟨cA, cB, cC, cD, cE, oT, cF, cG, cH, cI, cJ, oU⟩ := xf6 (w := w8) bB) | ((with_reducible refine gC 44 rfl ?_); refine goesLY (some 5) rfl Try.func44 #[.int .i64 aA, .int .i64 1, .int .i64 1000000000] ?_; (with_reducible refine (spec_l1In.calls aA 1 1000000000 false _ A2.out).mono ?_); rintro e w' ⟨rfl, ⟨nd, rfl⟩⟩; refine ⟨_, rfl, ?_⟩))
  go_ret
  exact ⟨xerr, xbg⟩

/-! ### spec_RecOk: function 15 -/
def spec_RecOk.f (k : Nat) (aA : Int) (aG : Int) (aF : Int) (aE : Int) (aH : Int) (aN : Int) (bM : Int) (bN : Int) (bO : Int) (bP : ByteArray) : Option (Bool) :=
  if aA = 1 then ((spec_l1Whole.f aG).bind fun oV => (if oV = true then ((spec_l1In.f aF 0 5).bind fun oW => (if oW = true then (some (aE == 0 && ((aH == 0 && ((aN == 0 && (bM == 0 && (bN == 0 && (bO == 0 && (bP.toList == ([] : List UInt8))))))))))) else (some false))) else (some false)))
  else (if aA = 2 then ((spec_l1In.f aE 1 80).bind fun oX => (if oX = true then ((spec_l6Entry.f k aH aN bM bN bO bP).bind fun oY => (if oY = true then (some (aG == 0 && (aF == 0))) else (some false))) else (some false)))
  else (if aA = 3 then ((spec_l1In.f aE 0 80).bind fun oZ => (if oZ = true then (some (aG == 0 && (aF == 0 && ((aH == 0 && ((aN == 0 && (bM == 0 && (bN == 0 && (bO == 0 && (bP.toList == ([] : List UInt8)))))))))))) else (some false))) else (some false)))
theorem spec_RecOk.mono : ∀ a0 a1 a2 a3 a4 a5 a6 a7 a8 a9 k, LeO (spec_RecOk.f k a0 a1 a2 a3 a4 a5 a6 a7 a8 a9) (spec_RecOk.f (k + 1) a0 a1 a2 a3 a4 a5 a6 a7 a8 a9) := by
  intro a0 a1 a2 a3 a4 a5 a6 a7 a8 a9 k; unfold spec_RecOk.f
  repeat' first
  | exact spec_l6Entry.mono _ _ _ _ _ _ _
  | exact LeO.refl _
  | refine LeO.ite ?_ ?_
  | refine LeO.bind ?_ (fun _ => ?_)
theorem bcellR {W w1 : World} (hb : Below W.heap.size W w1) : (∀ b o, b < W.heap.size → w1.cell? ⟨b, o, none⟩ = W.cell? ⟨b, o, none⟩) ∧ (∀ b o, b < W.heap.size → w1.frozen? ⟨b, o, none⟩ = W.frozen? ⟨b, o, none⟩) :=
  ⟨fun b o h => hb.cell (p := ⟨b, o, none⟩) h, fun b o h => hb.frozen (p := ⟨b, o, none⟩) h⟩
set_option maxHeartbeats 8000000 in
set_option maxRecDepth 100000 in
theorem spec_RecOk.calls (k : Nat) (aA : Int) (aG : Int) (aF : Int) (aE : Int) (aH : Int) (aN : Int) (bM : Int) (bN : Int) (bO : Int) (bP : ByteArray) (r : Bool) (w : World) (h : spec_RecOk.f k aA aG aF aE aH aN bM bN bO bP = some r) :
    Calls Try.prog 15 #[.agg #[.int .i64 aA, .int .i64 aG, .int .i64 aF, .int .i64 aE, .int .i64 aH, .int .i64 aN, .int .i64 bM, .int .i64 bN, .int .i64 bO, .string bP]] w fun e w' => e = .returned (.bool r) ∧ Below w.heap.size w w' := by
  have fC := Try.underlying38; have cM := Try.underlying36; have bQ := Try.underlying34; unfold spec_RecOk.f at h; by_cases k1 : aA = 1
  · subst k1; rw [if_pos rfl] at h; obtain ⟨b1, A1, g⟩ := Option.bind_eq_some_iff.1 h; replace h := g; clear g; replace A1 := Aside0.mk A1; cases b1
    · simp only [Bool.false_eq_true, ↓reduceIte, Option.some.injEq] at h; subst h; go_enter Try.func15, Try.ntmps15
      go_wp2_with (first | (go_at_call 43; refine (spec_l1Whole.calls _ _ _ A1.out).mono ?_; rintro e w1 ⟨rfl, ⟨n1, rfl⟩⟩) | (go_at_call 44; refine (spec_l1In.calls _ _ _ _ _ A2.out).mono ?_; rintro e w1 ⟨rfl, ⟨n2, rfl⟩⟩))
      all_goals go_ret
      all_goals exact ⟨u3_1, u3_2⟩
    · simp only [↓reduceIte] at h; obtain ⟨b2, A2, g⟩ := Option.bind_eq_some_iff.1 h; replace h := g; clear g; replace A2 := Aside0.mk A2; cases b2
      · simp only [Bool.false_eq_true, ↓reduceIte, Option.some.injEq] at h; subst h; go_enter Try.func15, Try.ntmps15
        go_wp2_with (first | (go_at_call 43; refine (spec_l1Whole.calls _ _ _ A1.out).mono ?_; rintro e w1 ⟨rfl, ⟨n1, rfl⟩⟩) | (go_at_call 44; refine (spec_l1In.calls _ _ _ _ _ A2.out).mono ?_; rintro e w1 ⟨rfl, ⟨n2, rfl⟩⟩))
        all_goals go_ret
        all_goals exact ⟨u3_1, u3_2⟩
      · simp only [↓reduceIte, Option.some.injEq] at h; subst h; go_enter Try.func15, Try.ntmps15
        go_wp2_with (first | (go_at_call 43; refine (spec_l1Whole.calls _ _ _ A1.out).mono ?_; rintro e w1 ⟨rfl, ⟨n1, rfl⟩⟩) | (go_at_call 44; refine (spec_l1In.calls _ _ _ _ _ A2.out).mono ?_; rintro e w1 ⟨rfl, ⟨n2, rfl⟩⟩))
        all_goals go_ret
        all_goals exact ⟨u3_1, u3_2⟩
  · rw [if_neg k1] at h; have n1 : (aA == 1) = false := beq_eq_false_iff_ne.2 k1; by_cases k2 : aA = 2
    · subst k2; rw [if_pos rfl] at h; obtain ⟨b1, A1, g⟩ := Option.bind_eq_some_iff.1 h; replace h := g; clear g; replace A1 := Aside0.mk A1; cases b1
      · simp only [Bool.false_eq_true, ↓reduceIte, Option.some.injEq] at h; subst h; go_enter Try.func15, Try.ntmps15
        go_wp2_with (first | (go_at_call 44; refine (spec_l1In.calls _ _ _ _ _ A1.out).mono ?_; rintro e w1 ⟨rfl, ⟨n1, rfl⟩⟩) | (go_at_call 45; refine (spec_l6Entry.calls k _ _ _ _ _ _ _ _ A2.out).mono ?_; rintro e w1 ⟨rfl, hb⟩; obtain ⟨hc, hf⟩ := bcellR hb; have HB := Aside0.mk hb; clear hb))
        all_goals go_ret
        all_goals exact ⟨u3_1, u3_2⟩
      · simp only [↓reduceIte] at h; obtain ⟨b2, A2, g⟩ := Option.bind_eq_some_iff.1 h; replace h := g; clear g; replace A2 := Aside0.mk A2; cases b2
        · simp only [Bool.false_eq_true, ↓reduceIte, Option.some.injEq] at h; subst h; go_enter Try.func15, Try.ntmps15
          go_wp2_with (first | (go_at_call 44; refine (spec_l1In.calls _ _ _ _ _ A1.out).mono ?_; rintro e w1 ⟨rfl, ⟨n1, rfl⟩⟩) | (go_at_call 45; refine (spec_l6Entry.calls k _ _ _ _ _ _ _ _ A2.out).mono ?_; rintro e w1 ⟨rfl, hb⟩; obtain ⟨hc, hf⟩ := bcellR hb; have HB := Aside0.mk hb; clear hb))
          all_goals go_ret
          all_goals exact ⟨u3_1, below_step u3_2 HB.out⟩
        · simp only [↓reduceIte, Option.some.injEq] at h; subst h; go_enter Try.func15, Try.ntmps15
          go_wp2_with (first | (go_at_call 44; refine (spec_l1In.calls _ _ _ _ _ A1.out).mono ?_; rintro e w1 ⟨rfl, ⟨n1, rfl⟩⟩) | (go_at_call 45; refine (spec_l6Entry.calls k _ _ _ _ _ _ _ _ A2.out).mono ?_; rintro e w1 ⟨rfl, hb⟩; obtain ⟨hc, hf⟩ := bcellR hb; have HB := Aside0.mk hb; clear hb))
          all_goals go_ret
          all_goals exact ⟨u3_1, below_step u3_2 HB.out⟩
    · rw [if_neg k2] at h; have n2 : (aA == 2) = false := beq_eq_false_iff_ne.2 k2; by_cases k3 : aA = 3
      · subst k3; rw [if_pos rfl] at h; obtain ⟨b1, A1, g⟩ := Option.bind_eq_some_iff.1 h; replace h := g; clear g; replace A1 := Aside0.mk A1; cases b1
        · simp only [Bool.false_eq_true, ↓reduceIte, Option.some.injEq] at h; subst h; go_enter Try.func15, Try.ntmps15
          go_wp2_with (first | (go_at_call 44; refine (spec_l1In.calls _ _ _ _ _ A1.out).mono ?_; rintro e w1 ⟨rfl, ⟨n1, rfl⟩⟩))
          all_goals go_ret
          all_goals exact ⟨u3_1, u3_2⟩
        · simp only [↓reduceIte, Option.some.injEq] at h; subst h; go_enter Try.func15, Try.ntmps15
          go_wp2_with (first | (go_at_call 44; refine (spec_l1In.calls _ _ _ _ _ A1.out).mono ?_; rintro e w1 ⟨rfl, ⟨n1, rfl⟩⟩))
          all_goals go_ret
          all_goals exact ⟨u3_1, u3_2⟩
      · rw [if_neg k3] at h; have n3 : (aA == 3) = false := beq_eq_false_iff_ne.2 k3; obtain rfl := Option.some.inj h; go_enter Try.func15, Try.ntmps15
        go_wp2_with (first | (go_at_call 44; refine (spec_l1In.calls _ _ _ _ _ A1.out).mono ?_; rintro e w1 ⟨rfl, ⟨n1, rfl⟩⟩))
        all_goals go_ret
        all_goals exact ⟨u3_1, u3_2⟩


end Go.Proofs.Ytocpomkfilpflaa.QFnHardRun
