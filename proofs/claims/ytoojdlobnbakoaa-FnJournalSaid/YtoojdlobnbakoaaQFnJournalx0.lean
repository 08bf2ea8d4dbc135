-- A walk, by a program of this session.
import Derived.Test.YtoojdlobnbakoaaProg
import Derived.Below
import Derived.Deep.Draws
import Derived.Deep.AppendLies
import Derived.Maps.AppendAt
import Derived.OwnWalk
import Derived.Laws.BytesArg
import Derived.Laws.MakeOwn
import Derived.Laws.OwnMore
import Derived.Deep.OwnRows
import Derived.Tactics
import Derived.Lib.ConvBytes
import Derived.Laws.Slices
import Derived.WalkKit
import Derived.KernelRfl
import Derived.RowKit3
import Derived.Deep.LoopGhost
import Derived.Deep.QuietTactic
import Derived.BigQuiet
import Derived.WideLaws
import Derived.Deep.DeepCutAuto
import Derived.Deep.CutBlock
import Derived.Deep.RegionHeld3
import Derived.Laws.Rows
import Derived.Lib.AppendStr
import Derived.ArgAppend
import Derived.Laws.IdiomCopy
import Derived.OrdersHeld
import Derived.Laws.BitsLemmas
import Derived.RowKit
import Derived.Shelf.Abstract
import Derived.Deep.RegionLaw
import Derived.Test.YtoojdlobnbakoaaVFnJournal
namespace Go.Proofs.Ytoojdlobnbakoaa.QFnJournal
open Go.RowKit Go.Proofs.YtoojdlobnbakoaaW.PrintWords Go.Proofs.YtoojdlobnbakoaaW.PrintLast Go.Proofs.YtoojdlobnbakoaaW.PrintMore
attribute [local go_sem] max2_int min2_int max_two min_two max_three min_three max_four min_four   -- for this text's walks alone
set_option linter.unusedVariables false
set_option linter.unusedSimpArgs false



def errW : Option Int → Value
  | none => .nilIface
  | some c => .iface 0 (.int .i64 c)
theorem errW_none : errW none = .nilIface := rfl
theorem errW_some (c : Int) : errW (some c) = .iface 0 (.int .i64 c) := rfl

theorem info3 : (Try.prog.info? 3).map (fun i => (i.zero, i.size, i.bytes)) = some (some (.int .i64 0), 1, 8) := by kernel_rfl
theorem info5 : (Try.prog.info? 5).map (fun i => (i.zero, i.size, i.bytes)) = some (some (.int .u8 0), 1, 1) := by kernel_rfl
theorem info9 : (Try.prog.info? 9).map (fun i => (i.zero, i.size, i.bytes)) = some (some (.string ⟨#[]⟩), 1, 16) := by kernel_rfl
theorem info95 : (Try.prog.info? 95).map (fun i => (i.zero, i.size, i.bytes)) = some (some (.agg #[(.int .i64 0), (.string ⟨#[]⟩), (.string ⟨#[]⟩)]), 3, 40) := by kernel_rfl
-- the values' own types
/-! #### struct type 95 -/
structure S95 where
  f0 : Int
  f1 : ByteArray
  f2 : ByteArray
def z95 : S95 := ⟨(0 : Int), (⟨#[]⟩ : ByteArray), (⟨#[]⟩ : ByteArray)⟩
def k95 : Kd S95 := Kd.iso (Kd.pair (Kd.int .i64) (Kd.pair Kd.string Kd.string)) (fun x : S95 => (x.f0, x.f1, x.f2))
theorem k95_open {w : World} {x : S95} {cs : List Value} (h : k95.K w x cs) : cs = [.int .i64 x.f0, .string x.f1, .string x.f2] := by
  obtain ⟨_, _, rfl, rfl, ⟨_, _, rfl, rfl, rfl⟩⟩ := h; exact rfl
theorem k95_openM {w : World} {base : Nat} {ok : Nat → Prop} {x : S95} {cs : List Value} (h : k95.M w base ok x cs) : cs = [.int .i64 x.f0, .string x.f1, .string x.f2] := by
  obtain ⟨_, _, rfl, rfl, ⟨_, _, rfl, rfl, rfl⟩⟩ := h; exact rfl
theorem k95_mk (w : World) (x : S95)  : k95.K w x [.int .i64 x.f0, .string x.f1, .string x.f2] := ⟨[.int .i64 x.f0], [.string x.f1, .string x.f2], rfl, rfl, ⟨[.string x.f1], [.string x.f2], rfl, rfl, rfl⟩⟩
theorem k95_mkM (w : World) (base : Nat) (ok : Nat → Prop) (x : S95)  : k95.M w base ok x [.int .i64 x.f0, .string x.f1, .string x.f2] := ⟨[.int .i64 x.f0], [.string x.f1, .string x.f2], rfl, rfl, ⟨[.string x.f1], [.string x.f2], rfl, rfl, rfl⟩⟩
def rd_T95 (xs : List S95) (i : Int) : S95 := xs.getD i.toNat z95
theorem at_T95 {w : World} {A : Option Addr} {n : Nat} {xs : List S95} (h : Kd.C k95 w A n xs) (i : Int) (h0 : 0 ≤ i) (h1 : i < n) : ∃ ad , A = some ad ∧ w.cell? (ad.add (i.toNat * 3)) = some (.int .i64 (rd_T95 xs i).f0) ∧ w.cell? ⟨(ad.add (i.toNat * 3)).block, (ad.add (i.toNat * 3)).off + 1, none⟩ = some (.string (rd_T95 xs i).f1) ∧ w.cell? ⟨(ad.add (i.toNat * 3)).block, (ad.add (i.toNat * 3)).off + 2, none⟩ = some (.string (rd_T95 xs i).f2) := by
  obtain ⟨ad, c, e, _, hK, aA⟩ := Kd.C_get h z95 i h0 h1; have hc : ∀ j u, c[j]? = some u → w.cell? (ad.add (i.toNat * 3 + j)) = some u := aA; obtain rfl := k95_open hK; exact ⟨ad, e, hc 0 _ rfl, by rw [← add_field _ _ 1 (by omega)]; exact hc 1 _ rfl, by rw [← add_field _ _ 2 (by omega)]; exact hc 2 _ rfl⟩

def rd_L4 (xs : List (List S95)) (i : Int) : (List S95) := xs.getD i.toNat ([] : List S95)
theorem at_L4 {w : World} {A : Option Addr} {n : Nat} {xs : List (List S95)} (h : Kd.C (Kd.slice 95 k95) w A n xs) (i : Int) (h0 : 0 ≤ i) (h1 : i < n) : ∃ ad A0 c0, A = some ad ∧ w.cell? (ad.add i.toNat) = some (.slice A0 (rd_L4 xs i).length c0) ∧ (rd_L4 xs i).length ≤ c0 ∧ k95.C w A0 (rd_L4 xs i).length (rd_L4 xs i) := by
  obtain ⟨ad, c, e, _, hK, aA⟩ := Kd.C_get h ([] : List S95) i h0 h1; have hc : ∀ j u, c[j]? = some u → w.cell? (ad.add (i.toNat * 1 + j)) = some u := aA; obtain ⟨A0, c0, rfl, l0, g0⟩ := hK; exact ⟨ad, A0, c0, e, by have hq := hc 0 _ rfl; rwa [Nat.mul_one, Nat.add_zero] at hq, l0, g0⟩

/-! #### struct type 26 -/
structure S26 where
  f0 : Int
  f1 : (List S95)
def z26 : S26 := ⟨(0 : Int), ([] : List S95)⟩
def k26 : Kd S26 := Kd.iso (Kd.pair (Kd.int .i64) (Kd.slice 95 k95)) (fun x : S26 => (x.f0, x.f1))
theorem k26_open {w : World} {x : S26} {cs : List Value} (h : k26.K w x cs) : ∃ A1 c1, cs = [.int .i64 x.f0, .slice A1 x.f1.length c1] ∧ x.f1.length ≤ c1 ∧ k95.C w A1 x.f1.length x.f1 := by
  obtain ⟨_, _, rfl, rfl, ⟨A1, c1, rfl, l1, g1⟩⟩ := h; exact ⟨A1, c1, rfl, l1, g1⟩
theorem k26_openM {w : World} {base : Nat} {ok : Nat → Prop} {x : S26} {cs : List Value} (h : k26.M w base ok x cs) : ∃ v1, cs = [.int .i64 x.f0, v1] ∧ k95.R 95 w base ok v1 x.f1 := by
  obtain ⟨_, _, rfl, rfl, ⟨v1, rfl, g1⟩⟩ := h; exact ⟨v1, rfl, g1⟩
theorem k26_mk (w : World) (x : S26) {A1 : Option Addr} {c1 : Nat} (l1 : x.f1.length ≤ c1) (g1 : k95.C w A1 x.f1.length x.f1) : k26.K w x [.int .i64 x.f0, .slice A1 x.f1.length c1] := ⟨[.int .i64 x.f0], [.slice A1 x.f1.length c1], rfl, rfl, ⟨A1, c1, rfl, l1, g1⟩⟩
theorem k26_mkM (w : World) (base : Nat) (ok : Nat → Prop) (x : S26) {v1 : Value} (g1 : k95.R 95 w base ok v1 x.f1) : k26.M w base ok x [.int .i64 x.f0, v1] := ⟨[.int .i64 x.f0], [v1], rfl, rfl, ⟨v1, rfl, g1⟩⟩
def rd_T26 (xs : List S26) (i : Int) : S26 := xs.getD i.toNat z26
theorem at_T26 {w : World} {A : Option Addr} {n : Nat} {xs : List S26} (h : Kd.C k26 w A n xs) (i : Int) (h0 : 0 ≤ i) (h1 : i < n) : ∃ ad A1 c1, A = some ad ∧ w.cell? (ad.add (i.toNat * 2)) = some (.int .i64 (rd_T26 xs i).f0) ∧ w.cell? ⟨(ad.add (i.toNat * 2)).block, (ad.add (i.toNat * 2)).off + 1, none⟩ = some (.slice A1 (rd_T26 xs i).f1.length c1) ∧ (rd_T26 xs i).f1.length ≤ c1 ∧ k95.C w A1 (rd_T26 xs i).f1.length (rd_T26 xs i).f1 := by
  obtain ⟨ad, c, e, _, hK, aA⟩ := Kd.C_get h z26 i h0 h1; have hc : ∀ j u, c[j]? = some u → w.cell? (ad.add (i.toNat * 2 + j)) = some u := aA; obtain ⟨A1, c1, rfl, l1, g1⟩ := k26_open hK; exact ⟨ad, A1, c1, e, hc 0 _ rfl, by rw [← add_field _ _ 1 (by omega)]; exact hc 1 _ rfl, l1, g1⟩

def rd_L6 (xs : List (List Int)) (i : Int) : (List Int) := xs.getD i.toNat ([] : List Int)
theorem at_L6 {w : World} {A : Option Addr} {n : Nat} {xs : List (List Int)} (h : Kd.C (Kd.slice 5 (Kd.int .u8)) w A n xs) (i : Int) (h0 : 0 ≤ i) (h1 : i < n) : ∃ ad A0 c0, A = some ad ∧ w.cell? (ad.add i.toNat) = some (.slice A0 (rd_L6 xs i).length c0) ∧ (rd_L6 xs i).length ≤ c0 ∧ (Kd.int .u8).C w A0 (rd_L6 xs i).length (rd_L6 xs i) := by
  obtain ⟨ad, c, e, _, hK, aA⟩ := Kd.C_get h ([] : List Int) i h0 h1; have hc : ∀ j u, c[j]? = some u → w.cell? (ad.add (i.toNat * 1 + j)) = some u := aA; obtain ⟨A0, c0, rfl, l0, g0⟩ := hK; exact ⟨ad, A0, c0, e, by have hq := hc 0 _ rfl; rwa [Nat.mul_one, Nat.add_zero] at hq, l0, g0⟩

theorem u1_0 {p : Prop} (h : p := by first | rfl | (simp; done) | (simp [*]; done)) : p := h
theorem u1_1 {p : Prop} (h : p := by repeat (first | (with_reducible first | exact HBW.out | apply below_alloc | apply pw_below_drewN | apply below_drew1) | exact HBW.out)) : p := h
theorem u1_2 {p : Prop} (h : p := by repeat (first | exact Drawn0.refl _ | apply Drawn0.step)) : p := h
/-! ### laws_big: function 12 -/
def laws_big.f (l0 : List Int) : Option (Bool) := some (decide ((l0.length : Int) > 1048576))
set_option maxHeartbeats 8000000 in
set_option maxRecDepth 100000 in
theorem laws_big.calls (A0 : Option Addr) (c0 : Nat) (l0 : List Int) (r : Bool) (w : World) (aD : Kd.C (Kd.int .u8) w A0 l0.length l0) (bO : l0.length ≤ c0) (h : laws_big.f l0 = some r) :
 Calls Try.prog 12 #[.slice A0 l0.length c0] w fun e w' => e = .returned (.bool r) ∧ Drawn0 w w' := by
 have cJ := aM aD
 have eE := aM bO
 clear aD bO
 have H : (some (decide ((l0.length : Int) > 1048576))) = some r := h
 clear h
 obtain rfl := Option.some.inj H
 go_enter Try.func12, Try.ntmps12
 go_wp2
 go_ret
 exact ⟨u1_0, u1_2⟩

/-- A state of type 157 at block g of W; what its slices lead to came in by w0. -/
def IsS157 (w0 W : World) (g : Nat) (f0 : List Int) (f1 : Int) (f2 : Int) : Prop := ∃ A0 c0, W.heap[g]? = some (.cells #[.slice A0 f0.length c0, .int .i64 f1, .int .i64 f2] 157 (0, 0)) ∧ w0.heap.size ≤ g ∧ Kd.C (Kd.int .u8) w0 A0 f0.length f0
theorem IsS157.grown {w0 W : World} {g : Nat} {f0 : List Int} {f1 : Int} {f2 : Int} {W1 : World} {row : Option Nat} (h : IsS157 w0 W g f0 f1 f2) (hw : W.grownBy W1 row) (hne : some g ≠ row) : IsS157 w0 W1 g f0 f1 f2 := by
 obtain ⟨A0, c0, hb, hg, aD⟩ := h
 exact ⟨A0, c0, blk_grown hb hw hne, hg, aD⟩
theorem IsS157.own_neN {w0 W : World} {g : Nat} {f0 : List Int} {f1 : Int} {f2 : Int} {α : Type} {d : Kd α} {e : Nat} {base : Nat} {ok : Nat → Prop} {v : Value} {xs : List α} (h : IsS157 w0 W g f0 f1 f2) (ho : Kd.N d e W base ok v xs) (ht : e ≠ 157) : some g ≠ v.ownBlock := by
 obtain ⟨A0, c0, hb, hg, aD⟩ := h
 exact Kd.N_ne ho hb ht
theorem IsS157.fresh {w0 W : World} {g : Nat} {f0 : List Int} {f1 : Int} {f2 : Int} (h : IsS157 w0 W g f0 f1 f2) : ∀ k, W.heap.size ≤ k → k ≠ g := by
 obtain ⟨A0, c0, hb, hg, aD⟩ := h
 exact Kd.freshB hb
theorem IsS157.kept {w0 W : World} {g : Nat} {f0 : List Int} {f1 : Int} {f2 : Int} {W1 : World} {S : Nat → Prop} (h : IsS157 w0 W g f0 f1 f2) (hk : Kept W W1 S) (hne : ¬ S g) : IsS157 w0 W1 g f0 f1 f2 := by
 obtain ⟨A0, c0, hb, hg, aD⟩ := h
 exact ⟨A0, c0, blk_kept hb hk hne, hg, aD⟩
theorem IsS157.below {w0 W : World} {g : Nat} {f0 : List Int} {f1 : Int} {f2 : Int} {W1 : World} (h : IsS157 w0 W g f0 f1 f2) (hw : Below W.heap.size W W1) : IsS157 w0 W1 g f0 f1 f2 := h.grown (grown_of_below hw none) (by simp)
theorem IsS157.alloc {w0 W : World} {g : Nat} {f0 : List Int} {f1 : Int} {f2 : Int} (h : IsS157 w0 W g f0 f1 f2) (o : Obj) : IsS157 w0 (W.alloc o) g f0 f1 f2 := h.below (below_alloc (Below.refl _ _) o)
theorem IsS157.drewN {w0 W : World} {g : Nat} {f0 : List Int} {f1 : Int} {f2 : Int} (h : IsS157 w0 W g f0 f1 f2) (m : Nat) : IsS157 w0 (W.drewN m) g f0 f1 f2 := h
theorem IsS157.drew {w0 W : World} {g : Nat} {f0 : List Int} {f1 : Int} {f2 : Int} (h : IsS157 w0 W g f0 f1 f2) : IsS157 w0 W.drew g f0 f1 f2 := h
theorem IsS157.at_ {w0 W : World} {g : Nat} {f0 : List Int} {f1 : Int} {f2 : Int} {w' : World} {m : Nat} (hq : W.drewN m = w') (h : IsS157 w0 W g f0 f1 f2) : IsS157 w0 w' g f0 f1 f2 := by subst hq; exact IsS157.drewN h m
theorem IsS157.apart {w0 W : World} {g : Nat} {f0 : List Int} {f1 : Int} {f2 : Int} {α : Type} {d : Kd α} {e : Nat} {base : Nat} {ok : Nat → Prop} {v : Value} {xs : List α} (h : IsS157 w0 W g f0 f1 f2) (ho : d.R e W base ok v xs) (ht : ∀ q, q ∈ e :: d.E → q ≠ 157) : d.R e W base (fun k => ok k ∧ k ≠ g) v xs := by
 obtain ⟨A0, c0, hb, hg, aD⟩ := h
 exact Kd.R_types ho hb ht
theorem IsS157.own_ne {w0 W : World} {g : Nat} {f0 : List Int} {f1 : Int} {f2 : Int} {α : Type} {d : Kd α} {e : Nat} {base : Nat} {ok : Nat → Prop} {v : Value} {xs : List α} (h : IsS157 w0 W g f0 f1 f2) (ho : d.R e W base ok v xs) (ht : e ≠ 157) : some g ≠ v.ownBlock := by
 obtain ⟨A0, c0, hb, hg, aD⟩ := h
 exact Kd.R_ne ho hb ht
theorem IsS157.apartQ {w0 W : World} {g : Nat} {f0 : List Int} {f1 : Int} {f2 : Int} {α : Type} {d : Kd α} {e : Nat} {base : Nat} {ok : Nat → Prop} {v : Value} {xs : List α} (h : IsS157 w0 W g f0 f1 f2) (ho : d.Q e W base ok v xs) (ht : ∀ q, q ∈ e :: d.E → q ≠ 157) : d.Q e W base (fun k => ok k ∧ k ≠ g) v xs := by
 obtain ⟨A0, c0, hb, hg, aD⟩ := h
 exact Kd.Q_types ho hb ht
theorem IsS157.own_neQ {w0 W : World} {g : Nat} {f0 : List Int} {f1 : Int} {f2 : Int} {α : Type} {d : Kd α} {e : Nat} {base : Nat} {ok : Nat → Prop} {v : Value} {xs : List α} (h : IsS157 w0 W g f0 f1 f2) (ho : d.Q e W base ok v xs) (ht : e ≠ 157) : some g ≠ v.ownBlock := by
 obtain ⟨A0, c0, hb, hg, aD⟩ := h
 exact Kd.Q_ne ho hb ht
theorem IsS157.apartS {w0 W : World} {g : Nat} {f0 : List Int} {f1 : Int} {f2 : Int} {α : Type} {d : Kd α} {e : Nat} {base : Nat} {ok : Nat → Prop} {v : Value} {xs : List α} (h : IsS157 w0 W g f0 f1 f2) (ho : d.S e W base ok v xs) (ht : ∀ q, q ∈ e :: d.E → q ≠ 157) : d.S e W base (fun k => ok k ∧ k ≠ g) v xs := by
 obtain ⟨A0, c0, hb, hg, aD⟩ := h
 exact Kd.S_types ho hb ht
theorem IsS157.own_neS {w0 W : World} {g : Nat} {f0 : List Int} {f1 : Int} {f2 : Int} {α : Type} {d : Kd α} {e : Nat} {base : Nat} {ok : Nat → Prop} {v : Value} {xs : List α} (h : IsS157 w0 W g f0 f1 f2) (ho : d.S e W base ok v xs) (ht : e ≠ 157) : some g ≠ v.ownBlock := by
 obtain ⟨A0, c0, hb, hg, aD⟩ := h
 exact Kd.S_ne ho hb ht
theorem IsS157.lt {w0 W : World} {g : Nat} {f0 : List Int} {f1 : Int} {f2 : Int} (h : IsS157 w0 W g f0 f1 f2) : g < W.heap.size := by
 obtain ⟨A0, c0, hb, hg, aD⟩ := h
 exact blk_lt hb
theorem IsS157.ge {w0 W : World} {g : Nat} {f0 : List Int} {f1 : Int} {f2 : Int} (h : IsS157 w0 W g f0 f1 f2) : w0.heap.size ≤ g := by
 obtain ⟨A0, c0, hb, hg, aD⟩ := h
 exact hg
theorem IsS157.ne_blk {w0 W : World} {g : Nat} {f0 : List Int} {f1 : Int} {f2 : Int} {a : Nat} {cs : Array Value} {t : TypeId} {fr : Nat × Nat} (h : IsS157 w0 W g f0 f1 f2) (cK : W.heap[a]? = some (.cells cs t fr)) (ht : t ≠ 157) : g ≠ a := by
 obtain ⟨A0, c0, hb, hg, aD⟩ := h
 rintro rfl
 rw [hb] at cK
 injection cK with cK
 injection cK with _ ht2
 exact ht ht2.symm
theorem IsS157.far {w0 W : World} {g : Nat} {f0 : List Int} {f1 : Int} {f2 : Int} {p : Addr} (h : IsS157 w0 W g f0 f1 f2) (hne : g ≠ p.block) (u : Value) : IsS157 w0 (W.setCell p u) g f0 f1 f2 := by
 obtain ⟨A0, c0, hb, hg, aD⟩ := h
 exact ⟨A0, c0, blk_far hb hne u, hg, aD⟩
theorem cellS157_0 {W : World} {g : Nat} {A0 : Option Addr} {c0 : Nat} {f0 : List Int} {f1 : Int} {f2 : Int} (h : W.heap[g]? = some (.cells #[.slice A0 f0.length c0, .int .i64 f1, .int .i64 f2] 157 (0, 0))) : W.cell? ⟨g, 0, none⟩ = some (.slice A0 f0.length c0) := (blk_cell h 0).trans rfl
theorem cellS157_1 {W : World} {g : Nat} {A0 : Option Addr} {c0 : Nat} {f0 : List Int} {f1 : Int} {f2 : Int} (h : W.heap[g]? = some (.cells #[.slice A0 f0.length c0, .int .i64 f1, .int .i64 f2] 157 (0, 0))) : W.cell? ⟨g, 1, none⟩ = some (.int .i64 f1) := (blk_cell h 1).trans rfl
theorem IsS157.set_1 {w0 W : World} {g : Nat} {f0 : List Int} {f1 : Int} {f2 : Int} (h : IsS157 w0 W g f0 f1 f2) (x : Int) : IsS157 w0 (W.setCell ⟨g, 1, none⟩ (.int .i64 x)) g f0 x f2 := by
 obtain ⟨A0, c0, hb, hg, aD⟩ := h
 exact ⟨A0, c0, by simpa using blk_set hb 1 (.int .i64 x), hg, aD⟩
theorem cellS157_2 {W : World} {g : Nat} {A0 : Option Addr} {c0 : Nat} {f0 : List Int} {f1 : Int} {f2 : Int} (h : W.heap[g]? = some (.cells #[.slice A0 f0.length c0, .int .i64 f1, .int .i64 f2] 157 (0, 0))) : W.cell? ⟨g, 2, none⟩ = some (.int .i64 f2) := (blk_cell h 2).trans rfl
theorem IsS157.set_2 {w0 W : World} {g : Nat} {f0 : List Int} {f1 : Int} {f2 : Int} (h : IsS157 w0 W g f0 f1 f2) (x : Int) : IsS157 w0 (W.setCell ⟨g, 2, none⟩ (.int .i64 x)) g f0 f1 x := by
 obtain ⟨A0, c0, hb, hg, aD⟩ := h
 exact ⟨A0, c0, by simpa using blk_set hb 2 (.int .i64 x), hg, aD⟩
theorem IsS157.new (w0 W : World) (A0 : Option Addr) (c0 : Nat) (f0 : List Int) (f1 : Int) (f2 : Int) (hB : Below w0.heap.size w0 W) (aD : Kd.C (Kd.int .u8) w0 A0 f0.length f0) : IsS157 w0 (W.alloc (.cells #[.slice A0 f0.length c0, .int .i64 f1, .int .i64 f2] 157)) W.heap.size f0 f1 f2 := ⟨A0, c0, by simpa using heap_alloc_new W _, hB.size, aD⟩
theorem IsS157.s {w0 W : World} {g : Nat} {f0 : List Int} {f1 : Int} {f2 : Int} (h : IsS157 w0 W g f0 f1 f2 := by repeat (first | (with_reducible first | exact HI0.out | apply IsS157.alloc | apply IsS157.drewN | apply IsS157.drew | apply IsS157.set_1 | apply IsS157.set_2) | ((with_reducible apply IsS157.far); (case hne => apply Aside0.out; assumption)) | exact HI0.out)) : IsS157 w0 W g f0 f1 f2 := h
theorem IsS157.sw {w0 W0 W w' : World} {g : Nat} {f0 : List Int} {f1 : Int} {f2 : Int} {ef0 : List Int} {ef1 : Int} {ef2 : Int} (hw : w' = W) (h0 : Aside0 (IsS157 w0 W0 g ef0 ef1 ef2)) (h : IsS157 w0 W g f0 f1 f2 := by exact IsS157.s) : Aside0 (IsS157 w0 w' g f0 f1 f2) := ⟨by subst hw; exact h⟩
theorem IsS157.bl {w0 W0 W W1 : World} {g : Nat} {f0 : List Int} {f1 : Int} {f2 : Int} {ef0 : List Int} {ef1 : Int} {ef2 : Int} (h0 : Aside0 (IsS157 w0 W0 g ef0 ef1 ef2)) (hb : Below W.heap.size W W1) (h : IsS157 w0 W g f0 f1 f2 := by exact IsS157.s) : Aside0 (IsS157 w0 W1 g f0 f1 f2) := ⟨h.below hb⟩
theorem IsS157.rk {w0 W0 W W1 : World} {g : Nat} {f0 : List Int} {f1 : Int} {f2 : Int} {ef0 : List Int} {ef1 : Int} {ef2 : Int} {α : Type} {d : Kd α} {e base : Nat} {ok : Nat → Prop} {v : Value} {xs : List α} (h0 : Aside0 (IsS157 w0 W0 g ef0 ef1 ef2)) (hk : KeepBut W W1 g none) (ho : d.R e W base ok v xs) (h : IsS157 w0 W g f0 f1 f2 := by exact IsS157.s) (ht : ∀ q, q ∈ e :: d.E → q ≠ 157 := by decide) : Aside0 (d.R e W1 base ok v xs) := ⟨Kd.R_mono (Kd.R_keep (h.apart ho ht) hk (fun _ h => h.2)) (fun _ h => h.1)⟩
theorem IsS157.dD {w0 W : World} {g : Nat} {f0 : List Int} {f1 : Int} {f2 : Int} (h : Aside0 (IsS157 w0 W g f0 f1 f2)) : Aside0 (IsS157 w0 W.drew g f0 f1 f2) := ⟨h.out⟩
theorem IsS157.B {b : Nat} {w W : World} (h : Below b w W := by repeat (first | (with_reducible first | exact HB.out | apply below_alloc | apply pw_below_drewN | apply below_drew1) | ((with_reducible apply below_set); (case hg => first | with_reducible exact IsS157.ge HI0.out | (apply Aside0.out; assumption))) | exact HB.out)) : Below b w W := h
theorem IsS157.Bw {b : Nat} {w W0 W w' : World} (hw : w' = W) (h0 : Aside0 (Below b w W0)) (h : Below b w W := by exact IsS157.B) : Aside0 (Below b w w') := ⟨by subst hw; exact h⟩
theorem IsS157.Bb {w W0 W W1 : World} (h0 : Aside0 (Below w.heap.size w W0)) (hb : Below W.heap.size W W1) (h : Below w.heap.size w W := by exact IsS157.B) : Aside0 (Below w.heap.size w W1) := ⟨below_step h hb⟩

/-! ### spec_l1New: function 103 -/
def spec_l1New.l0 : Nat → List Int → Int → Int → Option (List Int × Int × Int)
 | 0, _, _, _ => none
 | k + 1, x0, x3, x4 => if x4 < (x0.length : Int) then (if x4 < 4000 then (if 0 ≤ x4 then (spec_l1New.l0 k x0 (Go.bits .and .i64 (wrap64 ((wrap64 ((wrap64 (x3 * 131)) + (wrap64 (rd x0 x4)))) + 7)) 1073741823) (wrap64 (x4 + 1))) else (none)) else (some (x0, 0, x3))) else (some (x0, 0, x3))
def spec_l1New.f (k : Nat) (l0 : List Int) : Option (List Int × Int × Int) := spec_l1New.l0 k l0 (wrap64 (10677 + (l0.length : Int))) 0
theorem u1_mq0 {p : Prop} (h : p := by repeat' first | (with_reducible first | exact bP _ _ _ | exact LeO.refl _ | exact LeO.none _ | refine LeO.ite ?_ ?_ | refine LeO.bind ?_ (fun _ => ?_)) | exact LeO.none _ | refine LeO.ite ?_ ?_ | refine LeO.bind ?_ (fun _ => ?_)) : p := h
set_option maxRecDepth 100000 in
theorem spec_l1New.mono_l : ∀ k, (∀ y0 y1 y2, LeO (spec_l1New.l0 k y0 y1 y2) (spec_l1New.l0 (k + 1) y0 y1 y2))
 | 0 => fun _ _ _ r h => by simp [spec_l1New.l0] at h
 | k + 1 => by
  have bP := spec_l1New.mono_l k
  ·intro y0 y1 y2; unfold spec_l1New.l0; exact u1_mq0
theorem spec_l1New.mono : ∀ a0 k, LeO (spec_l1New.f k a0) (spec_l1New.f (k + 1) a0) := by
 intro a0 k
 have bP := spec_l1New.mono_l k
 unfold spec_l1New.f
 exact u1_mq0
set_option maxHeartbeats 8000000 in
set_option maxRecDepth 100000 in
theorem spec_l1New.calls (k : Nat) (A0 : Option Addr) (c0 : Nat) (l0 : List Int) (r1 : List Int) (r2 : Int) (r3 : Int) (w0 w : World) (hB : Below w0.heap.size w0 w) (aD : Kd.C (Kd.int .u8) w0 A0 l0.length l0) (bO : l0.length ≤ c0) (h : spec_l1New.f k l0 = some (r1, r2, r3)) :
 Calls Try.prog 103 #[.slice A0 l0.length c0] w fun e w' => ∃ g_ : Nat, e = .returned (.pointer (some ⟨g_, 0, none⟩)) ∧ IsS157 w0 w' g_ r1 r2 r3 ∧ Below w0.heap.size w0 w' ∧ Below w.heap.size w w' := by
 have dR := Try.underlying157
 have cJ := aM aD
 have eE := aM bO
 clear aD bO
 have HBW := aM (Below.refl w.heap.size w)
 have HW0 := aM hB.size
 have HB := aM hB
 clear hB
 have H : (spec_l1New.l0 k l0 (wrap64 (10677 + (l0.length : Int))) 0) = some (r1, r2, r3) := h
 clear h
 have H' := aM H
 clear H
 go_enter Try.func103, Try.ntmps103
 go_wp2
 go_loopg [3, 4] k (fun kq v3 v4 w' => ∃ (aE : Int) (aA : Int), v3 = .int .i64 aE ∧ v4 = .int .i64 aA ∧ Aside0 (spec_l1New.l0 kq l0 aE aA = some (r1, r2, r3)) ∧ Aside0 (kq ≤ k) ∧ Aside0 (Below w.heap.size w w') ∧ Aside0 (Below w0.heap.size w0 w'))
 case atStart => exact ⟨(wrap64 (10677 + (l0.length : Int))), (0), u1_0, u1_0, H', ⟨Nat.le_refl _⟩, ⟨u1_1⟩, ⟨xbel⟩⟩
 case round =>
  clear H'; try clear c1
  obtain ⟨aE, aA, rfl, rfl, HA, HK1, HBW, HB⟩ := hrel; cases gk with
  | zero => exact absurd HA.out (by simp [spec_l1New.l0])
  | succ k1 =>
   have H := HA.out; clear HA; simp only [spec_l1New.l0] at H; by_cases c2 : aA < (l0.length : Int)
   ·rw [if_pos c2] at H; have bK : decide (aA < (l0.length : Int)) = true := decide_eq_true c2; clear c2; by_cases c3 : aA < 4000
    ·rw [if_pos c3] at H; have aY : decide (aA < 4000) = true := decide_eq_true c3; clear c3; by_cases c4 : 0 ≤ aA
     ·rw [if_pos c4] at H; have aZ : decide (0 ≤ aA) = true := decide_eq_true c4; clear c4; have H' := aM H; clear H; have p101 : 0 ≤ (aA : Int) := oda; have q101 : aA < (l0.length : Int) := oda; obtain ⟨dS, cM, aO⟩ := Kd.at_int cJ.out aA p101 q101; cases cM
      replace aO := pw_cell_below HB.out aO; replace p101 := eq_true p101; replace q101 := eq_true q101; go_wp2; go_roundg k1
      case measure => have := HK1.out; omega
      case rel => exact ⟨(Go.bits .and .i64 (wrap64 ((wrap64 ((wrap64 (aE * 131)) + (wrap64 (rd l0 aA)))) + 7)) 1073741823), (wrap64 (aA + 1)), u1_0, u1_0, H', ⟨by have := HK1.out; omega⟩, ⟨u1_1⟩, ⟨xbel⟩⟩
     ·rw [if_neg c4] at H; exact absurd H (by simp)
    ·rw [if_neg c3] at H; have aY : decide (aA < 4000) = false := decide_eq_false c3; clear c3; simp only [Option.some.injEq, Prod.mk.injEq] at H; obtain ⟨rfl, rfl, rfl⟩ := H; go_wp2_with (first | ((with_reducible refine gD 31 rfl ?_); refine boxE (N := 31) rfl (cs := #[.slice A0 l0.length c0, .int .i64 0, .int .i64 aE]) (t := 157) ?_; intro aP hg w5 hbox hb; replace HB := xbs hb; have dU := aM (hbox); have bQ := aM ((by rw [hg]; exact (below_size u1_1) : w.heap.size ≤ aP)); have bR := aM ((Nat.le_trans HW0.out (by rw [hg]; exact (below_size u1_1) : w.heap.size ≤ aP) : w0.heap.size ≤ aP)); replace HBW := aM (below_step HBW.out hb); clear hb hbox hg))
     go_ret
     exact ⟨_, rfl, (show IsS157 w0 _ aP l0 0 aE from ⟨_, _, xB, bR.out, cJ.out⟩), xbg, by repeat (first | (with_reducible first | exact HBW.out | apply below_alloc | apply pw_below_drewN | apply below_drew1 | refine below_set ?_ bQ.out) | exact HBW.out)⟩
   ·rw [if_neg c2] at H; have bK : decide (aA < (l0.length : Int)) = false := decide_eq_false c2; clear c2; simp only [Option.some.injEq, Prod.mk.injEq] at H; obtain ⟨rfl, rfl, rfl⟩ := H; go_wp2_with (first | ((with_reducible refine gD 31 rfl ?_); refine boxE (N := 31) rfl (cs := #[.slice A0 l0.length c0, .int .i64 0, .int .i64 aE]) (t := 157) ?_; intro aQ hg w6 hbox hb; replace HB := xbs hb; have dV := aM (hbox); have bU := aM ((by rw [hg]; exact (below_size u1_1) : w.heap.size ≤ aQ)); have bV := aM ((Nat.le_trans HW0.out (by rw [hg]; exact (below_size u1_1) : w.heap.size ≤ aQ) : w0.heap.size ≤ aQ)); replace HBW := aM (below_step HBW.out hb); clear hb hbox hg))
    go_ret
    exact ⟨_, rfl, (show IsS157 w0 _ aQ l0 0 aE from ⟨_, _, xB, bV.out, cJ.out⟩), xbg, by repeat (first | (with_reducible first | exact HBW.out | apply below_alloc | apply pw_below_drewN | apply below_drew1 | refine below_set ?_ bU.out) | exact HBW.out)⟩

/-! ### spec_l1Byte: function 154 -/
def spec_l1Byte.f (s0_0 : List Int) (s0_1 : Int) (s0_2 : Int) : Option (Int × Int × Int) := if s0_1 < (s0_0.length : Int) then (if 0 ≤ s0_1 then (some (Go.bits .and .i64 (wrap64 ((Go.bits .and .i64 (Go.bits .xor .i64 ((wrap64 ((wrap64 (s0_2 * 6364136223846793005)) + 1442695040888963407)) / 8589934592) ((wrap64 ((wrap64 (s0_2 * 6364136223846793005)) + 1442695040888963407)) / 35184372088832)) 255) + (wrap64 (rd s0_0 s0_1)))) 255, wrap64 (s0_1 + 1), wrap64 ((wrap64 (s0_2 * 6364136223846793005)) + 1442695040888963407))) else (none)) else (some (Go.bits .and .i64 (Go.bits .xor .i64 ((wrap64 ((wrap64 (s0_2 * 6364136223846793005)) + 1442695040888963407)) / 8589934592) ((wrap64 ((wrap64 (s0_2 * 6364136223846793005)) + 1442695040888963407)) / 35184372088832)) 255, s0_1, wrap64 ((wrap64 (s0_2 * 6364136223846793005)) + 1442695040888963407)))
set_option maxHeartbeats 8000000 in
set_option maxRecDepth 100000 in
theorem spec_l1Byte.calls (g : Nat) (s0_0 : List Int) (s0_1 : Int) (s0_2 : Int) (r1 : Int) (r2 : Int) (r3 : Int) (w0 w : World) (hI : IsS157 w0 w g s0_0 s0_1 s0_2) (hB : Below w0.heap.size w0 w) (h : spec_l1Byte.f s0_0 s0_1 s0_2 = some (r1, r2, r3)) :
 Calls Try.prog 154 #[.pointer (some ⟨g, 0, none⟩)] w fun e w' => e = .returned (.int .i64 r1) ∧ IsS157 w0 w' g s0_0 r2 r3 ∧ Below w0.heap.size w0 w' ∧ KeepBut w w' g none := by
 have HI0 := aM hI
 have HK := aM (KeepBut.refl w g none)
 have HL := aM hB.size
 clear hI
 have HW0 := aM hB.size
 have HB := aM hB
 clear hB
 have H : (if s0_1 < (s0_0.length : Int) then (if 0 ≤ s0_1 then (some (Go.bits .and .i64 (wrap64 ((Go.bits .and .i64 (Go.bits .xor .i64 ((wrap64 ((wrap64 (s0_2 * 6364136223846793005)) + 1442695040888963407)) / 8589934592) ((wrap64 ((wrap64 (s0_2 * 6364136223846793005)) + 1442695040888963407)) / 35184372088832)) 255) + (wrap64 (rd s0_0 s0_1)))) 255, wrap64 (s0_1 + 1), wrap64 ((wrap64 (s0_2 * 6364136223846793005)) + 1442695040888963407))) else (none)) else (some (Go.bits .and .i64 (Go.bits .xor .i64 ((wrap64 ((wrap64 (s0_2 * 6364136223846793005)) + 1442695040888963407)) / 8589934592) ((wrap64 ((wrap64 (s0_2 * 6364136223846793005)) + 1442695040888963407)) / 35184372088832)) 255, s0_1, wrap64 ((wrap64 (s0_2 * 6364136223846793005)) + 1442695040888963407)))) = some (r1, r2, r3) := h
 clear h
 by_cases c2 : s0_1 < (s0_0.length : Int)
 ·rw [if_pos c2] at H; have bK : decide (s0_1 < (s0_0.length : Int)) = true := decide_eq_true c2; clear c2; by_cases c3 : 0 ≤ s0_1
  ·rw [if_pos c3] at H; have aY : decide (0 ≤ s0_1) = true := decide_eq_true c3; clear c3; simp only [Option.some.injEq, Prod.mk.injEq] at H; obtain ⟨rfl, rfl, rfl⟩ := H; obtain ⟨ASz4_0, cSz4_0, HGz4, hgz4, HSz4_0⟩ := HI0.out; have cN := cellS157_0 HGz4; have cO := cellS157_1 HGz4; have cP := cellS157_2 HGz4; have cQ := blk_frozen HGz4 1; have cS := blk_frozen HGz4 2; clear HGz4 hgz4; have p104 : 0 ≤ (s0_1 : Int) := oda; have q104 : s0_1 < (s0_0.length : Int) := oda; obtain ⟨bW, cT, aC⟩ := Kd.at_int HSz4_0 s0_1 p104 q104; cases cT
   have hn104_0 : bW.block ≠ g := Nat.ne_of_lt (Nat.lt_of_lt_of_le (by have := World.block_lt_of_cell? _ _ aC; first | rwa [add_block] at this | exact this) (IsS157.ge HI0.out)); replace aC := pw_cell_below HB.out aC; replace aC := (cell_far (p := ⟨g, 2, none⟩) (by first | (rw [add_block]; exact hn104_0) | (show (Addr.add _ _).block ≠ _; rw [add_block]; exact hn104_0) | exact hn104_0) (.int .i64 (wrap64 ((wrap64 (s0_2 * 6364136223846793005)) + 1442695040888963407)))).trans aC; (try have cL := fun (n_ : Nat) => (show (((w.drewN n_).setCell ⟨g, 2, none⟩ (.int .i64 (wrap64 ((wrap64 (s0_2 * 6364136223846793005)) + 1442695040888963407))))).cell? _ = some _ from aC)); clear hn104_0; replace p104 := eq_true p104; replace q104 := eq_true q104; go_enter Try.func154, Try.ntmps154
   go_wp2
   repeat (go_quiet (fail); try go_wp2)
   go_ret
   exact ⟨xerr, IsS157.s, IsS157.B, xK⟩
  ·rw [if_neg c3] at H; exact absurd H (by simp)
 ·rw [if_neg c2] at H; have bK : decide (s0_1 < (s0_0.length : Int)) = false := decide_eq_false c2; clear c2; simp only [Option.some.injEq, Prod.mk.injEq] at H; obtain ⟨rfl, rfl, rfl⟩ := H; obtain ⟨ASz5_0, cSz5_0, HGz5, hgz5, HSz5_0⟩ := HI0.out; have bL := cellS157_0 HGz5; have bM := cellS157_1 HGz5; have cU := cellS157_2 HGz5; have bN := blk_frozen HGz5 1; have cV := blk_frozen HGz5 2; clear HGz5 hgz5; go_enter Try.func154, Try.ntmps154
  go_wp2
  repeat (go_quiet (fail); try go_wp2)
  go_ret
  exact ⟨xerr, IsS157.s, IsS157.B, xK⟩

/-! ### spec_l1Below: function 108 -/
def spec_l1Below.f (s0_0 : List Int) (s0_1 : Int) (s0_2 : Int) (a1 : Int) : Option (Int × Int × Int) := if a1 ≤ 0 then (some (0, s0_1, s0_2)) else (if a1 ≤ 256 then ((spec_l1Byte.f s0_0 s0_1 s0_2).bind fun aG => (if a1 = 0 then (none) else (some (Int.tmod aG.1 a1, aG.2.1, aG.2.2)))) else ((spec_l1Byte.f s0_0 s0_1 s0_2).bind fun aH => ((spec_l1Byte.f s0_0 aH.2.1 aH.2.2).bind fun aI => ((spec_l1Byte.f s0_0 aI.2.1 aI.2.2).bind fun aJ => ((spec_l1Byte.f s0_0 aJ.2.1 aJ.2.2).bind fun aK => (if a1 = 0 then (none) else (some (Int.tmod (wrap64 ((wrap64 ((wrap64 ((wrap64 (aH.1 * 16777216)) + (wrap64 (aI.1 * 65536)))) + (wrap64 (aJ.1 * 256)))) + aK.1)) a1, aK.2.1, aK.2.2))))))))
set_option maxHeartbeats 8000000 in
set_option maxRecDepth 100000 in
theorem spec_l1Below.calls (g : Nat) (s0_0 : List Int) (s0_1 : Int) (s0_2 : Int) (a1 : Int) (r1 : Int) (r2 : Int) (r3 : Int) (w0 w : World) (hI : IsS157 w0 w g s0_0 s0_1 s0_2) (hB : Below w0.heap.size w0 w) (h : spec_l1Below.f s0_0 s0_1 s0_2 a1 = some (r1, r2, r3)) :
 Calls Try.prog 108 #[.pointer (some ⟨g, 0, none⟩), .int .i64 a1] w fun e w' => e = .returned (.int .i64 r1) ∧ IsS157 w0 w' g s0_0 r2 r3 ∧ Below w0.heap.size w0 w' ∧ KeepBut w w' g none := by
 have HI0 := aM hI
 have HK := aM (KeepBut.refl w g none)
 have HL := aM hB.size
 clear hI
 have HW0 := aM hB.size
 have HB := aM hB
 clear hB
 have H : (if a1 ≤ 0 then (some (0, s0_1, s0_2)) else (if a1 ≤ 256 then ((spec_l1Byte.f s0_0 s0_1 s0_2).bind fun aG => (if a1 = 0 then (none) else (some (Int.tmod aG.1 a1, aG.2.1, aG.2.2)))) else ((spec_l1Byte.f s0_0 s0_1 s0_2).bind fun aH => ((spec_l1Byte.f s0_0 aH.2.1 aH.2.2).bind fun aI => ((spec_l1Byte.f s0_0 aI.2.1 aI.2.2).bind fun aJ => ((spec_l1Byte.f s0_0 aJ.2.1 aJ.2.2).bind fun aK => (if a1 = 0 then (none) else (some (Int.tmod (wrap64 ((wrap64 ((wrap64 ((wrap64 (aH.1 * 16777216)) + (wrap64 (aI.1 * 65536)))) + (wrap64 (aJ.1 * 256)))) + aK.1)) a1, aK.2.1, aK.2.2))))))))) = some (r1, r2, r3) := h
 clear h
 by_cases c3 : a1 ≤ 0
 ·rw [if_pos c3] at H; have aY : decide (a1 ≤ 0) = true := decide_eq_true c3; clear c3; simp only [Option.some.injEq, Prod.mk.injEq] at H; obtain ⟨rfl, rfl, rfl⟩ := H; go_enter Try.func108, Try.ntmps108
  go_wp2; go_ret
  exact ⟨xerr, IsS157.s, IsS157.B, xK⟩
 ·rw [if_neg c3] at H; have aY : decide (a1 ≤ 0) = false := decide_eq_false c3; clear c3; by_cases c4 : a1 ≤ 256
  ·rw [if_pos c4] at H; have aZ : decide (a1 ≤ 256) = true := decide_eq_true c4; clear c4; replace H := oB H; obtain ⟨⟨cW, cX, cY⟩, dW, H⟩ := H; (try dsimp only at H); have A5 := aM dW; clear dW
   by_cases c6 : a1 = 0
   ·rw [if_pos c6] at H; exact absurd H (by simp)
   ·rw [if_neg c6] at H; obtain ⟨eF, eG⟩ := bF c6; simp only [Option.some.injEq, Prod.mk.injEq] at H; obtain ⟨rfl, rfl, rfl⟩ := H; go_enter Try.func108, Try.ntmps108
    go_wp2_with (first | ((with_reducible refine gC 154 rfl ?_); refine goesLY (some 14) rfl Try.func154 #[.pointer (some ⟨g, 0, none⟩)] ?_; (with_reducible refine (spec_l1Byte.calls g s0_0 s0_1 s0_2 cW cX cY w0 _ ?side1 ?side2 A5.out).mono ?_); (case side1 => exact IsS157.s); (case side2 => exact IsS157.B); rintro e w7 ⟨rfl, hi, hb, hk⟩; refine ⟨_, rfl, ?_⟩; replace HK := xhk HK hk; replace HB := aM (hb); replace HI0 := aM (hi); (try clear hb hk hi)))
    go_ret
    exact ⟨xerr, IsS157.s, IsS157.B, xK⟩
  ·rw [if_neg c4] at H; have aZ : decide (a1 ≤ 256) = false := decide_eq_false c4; clear c4; replace H := oB H; obtain ⟨⟨cZ, bX, bY⟩, dX, H⟩ := H; (try dsimp only at H); have A8 := aM dX; clear dX; replace H := oB H
   obtain ⟨⟨dA, bZ, cA⟩, dY, H⟩ := H; (try dsimp only at H); have A9 := aM dY; clear dY; replace H := oB H
   obtain ⟨⟨dB, cB, cC⟩, cD, H⟩ := H; (try dsimp only at H); have eH := aM cD; clear cD; replace H := oB H
   obtain ⟨⟨dC, dE, dF⟩, cE, H⟩ := H; (try dsimp only at H); have eI := aM cE; clear cE
   by_cases dG : a1 = 0
   ·rw [if_pos dG] at H; exact absurd H (by simp)
   ·rw [if_neg dG] at H; obtain ⟨dZ, eA⟩ := bF dG; simp only [Option.some.injEq, Prod.mk.injEq] at H; obtain ⟨rfl, rfl, rfl⟩ := H; go_enter Try.func108, Try.ntmps108
    go_wp2_with (first | ((with_reducible refine gC 154 rfl ?_); refine goesLY (some 18) rfl Try.func154 #[.pointer (some ⟨g, 0, none⟩)] ?_; (with_reducible refine (spec_l1Byte.calls g s0_0 s0_1 s0_2 cZ bX bY w0 _ ?side1 ?side2 A8.out).mono ?_); (case side1 => exact IsS157.s); (case side2 => exact IsS157.B); rintro e eK ⟨rfl, hi, hb, hk⟩; refine ⟨_, rfl, ?_⟩; replace HK := xhk HK hk; replace HB := aM (hb); replace HI0 := aM (hi); (try clear hb hk hi)) | ((with_reducible refine gC 154 rfl ?_); refine goesLY (some 20) rfl Try.func154 #[.pointer (some ⟨g, 0, none⟩)] ?_; (with_reducible refine (spec_l1Byte.calls g s0_0 bX bY dA bZ cA w0 _ ?side1 ?side2 A9.out).mono ?_); (case side1 => exact IsS157.s); (case side2 => exact IsS157.B); rintro e eL ⟨rfl, hi, hb, hk⟩; refine ⟨_, rfl, ?_⟩; replace HK := xhk HK hk; replace HB := aM (hb); replace HI0 := aM (hi); (try clear hb hk hi)) | ((with_reducible refine gC 154 rfl ?_); refine goesLY (some 22) rfl Try.func154 #[.pointer (some ⟨g, 0, none⟩)] ?_; (with_reducible refine (spec_l1Byte.calls g s0_0 bZ cA dB cB cC w0 _ ?side1 ?side2 eH.out).mono ?_); (case side1 => exact IsS157.s); (case side2 => exact IsS157.B); rintro e eM ⟨rfl, hi, hb, hk⟩; refine ⟨_, rfl, ?_⟩; replace HK := xhk HK hk; replace HB := aM (hb); replace HI0 := aM (hi); (try clear hb hk hi)) | ((with_reducible refine gC 154 rfl ?_); refine goesLY (some 24) rfl Try.func154 #[.pointer (some ⟨g, 0, none⟩)] ?_; (with_reducible refine (spec_l1Byte.calls g s0_0 cB cC dC dE dF w0 _ ?side1 ?side2 eI.out).mono ?_); (case side1 => exact IsS157.s); (case side2 => exact IsS157.B); rintro e eN ⟨rfl, hi, hb, hk⟩; refine ⟨_, rfl, ?_⟩; replace HK := xhk HK hk; replace HB := aM (hb); replace HI0 := aM (hi); (try clear hb hk hi)))
    go_ret
    exact ⟨xerr, IsS157.s, IsS157.B, xK⟩

/-! ### spec_l1Once: function 106 -/
def spec_l1Once.f (s0_0 : List Int) (s0_1 : Int) (s0_2 : Int) (a1 : Int) : Option (Bool × Int × Int) := (spec_l1Below.f s0_0 s0_1 s0_2 a1).bind fun aL => (some ((aL.1 == 0), aL.2.1, aL.2.2))
set_option maxHeartbeats 8000000 in
set_option maxRecDepth 100000 in
theorem spec_l1Once.calls (g : Nat) (s0_0 : List Int) (s0_1 : Int) (s0_2 : Int) (a1 : Int) (r1 : Bool) (r2 : Int) (r3 : Int) (w0 w : World) (hI : IsS157 w0 w g s0_0 s0_1 s0_2) (hB : Below w0.heap.size w0 w) (h : spec_l1Once.f s0_0 s0_1 s0_2 a1 = some (r1, r2, r3)) :
 Calls Try.prog 106 #[.pointer (some ⟨g, 0, none⟩), .int .i64 a1] w fun e w' => e = .returned (.bool r1) ∧ IsS157 w0 w' g s0_0 r2 r3 ∧ Below w0.heap.size w0 w' ∧ KeepBut w w' g none := by
 have HI0 := aM hI
 have HK := aM (KeepBut.refl w g none)
 have HL := aM hB.size
 clear hI
 have HW0 := aM hB.size
 have HB := aM hB
 clear hB
 have H : ((spec_l1Below.f s0_0 s0_1 s0_2 a1).bind fun aL => (some ((aL.1 == 0), aL.2.1, aL.2.2))) = some (r1, r2, r3) := h
 clear h
 replace H := oB H
 obtain ⟨⟨dH, dI, dJ⟩, eB, H⟩ := H
 (try dsimp only at H)
 have A3 := aM eB
 clear eB
 simp only [Option.some.injEq, Prod.mk.injEq] at H
 obtain ⟨rfl, rfl, rfl⟩ := H
 go_enter Try.func106, Try.ntmps106
 go_wp2_with (first | ((with_reducible refine gC 108 rfl ?_); refine goesLY (some 7) rfl Try.func108 #[.pointer (some ⟨g, 0, none⟩), .int .i64 a1] ?_; (with_reducible refine (spec_l1Below.calls g s0_0 s0_1 s0_2 a1 dH dI dJ w0 _ ?side1 ?side2 A3.out).mono ?_); (case side1 => exact IsS157.s); (case side2 => exact IsS157.B); rintro e w4 ⟨rfl, hi, hb, hk⟩; refine ⟨_, rfl, ?_⟩; replace HK := xhk HK hk; replace HB := aM (hb); replace HI0 := aM (hi); (try clear hb hk hi)))
 go_ret
 exact ⟨xerr, IsS157.s, IsS157.B, xK⟩

/-! ### spec_l1In: function 92 -/
def spec_l1In.f (a0 : Int) (a1 : Int) (a2 : Int) : Option (Bool) := if a0 ≥ a1 then (some (decide (a0 ≤ a2))) else (some false)
set_option maxHeartbeats 8000000 in
set_option maxRecDepth 100000 in
theorem spec_l1In.calls (a0 : Int) (a1 : Int) (a2 : Int) (r : Bool) (w : World) (h : spec_l1In.f a0 a1 a2 = some r) :
 Calls Try.prog 92 #[.int .i64 a0, .int .i64 a1, .int .i64 a2] w fun e w' => e = .returned (.bool r) ∧ Drawn0 w w' := by
 have H : (if a0 ≥ a1 then (some (decide (a0 ≤ a2))) else (some false)) = some r := h
 clear h
 by_cases c4 : a0 ≥ a1
 ·rw [if_pos c4] at H; have aZ : decide (a1 ≤ a0) = true := decide_eq_true c4; clear c4; obtain rfl := Option.some.inj H; go_enter Try.func92, Try.ntmps92
  go_wp2; go_ret
  exact ⟨u1_0, u1_2⟩
 ·rw [if_neg c4] at H; have aZ : decide (a1 ≤ a0) = false := decide_eq_false c4; clear c4; obtain rfl := Option.some.inj H; go_enter Try.func92, Try.ntmps92
  go_wp2; go_ret
  exact ⟨u1_0, u1_2⟩

/-! ### spec_l3Name: function 133 -/
def spec_l3Name.f (a0 : Int) : Option (Bool) := (spec_l1In.f a0 0 7).bind fun bA => (some bA)
set_option maxHeartbeats 8000000 in
set_option maxRecDepth 100000 in
theorem spec_l3Name.calls (a0 : Int) (r : Bool) (w : World) (h : spec_l3Name.f a0 = some r) :
 Calls Try.prog 133 #[.int .i64 a0] w fun e w' => e = .returned (.bool r) ∧ Drawn0 w w' := by
 have H : ((spec_l1In.f a0 0 7).bind fun bA => (some bA)) = some r := h
 clear h
 replace H := oB H
 obtain ⟨bA, eC, H⟩ := H
 (try dsimp only at H)
 have A2 := aM eC
 clear eC
 obtain rfl := Option.some.inj H
 go_enter Try.func133, Try.ntmps133
 go_wp2_with (first | ((with_reducible refine gC 92 rfl ?_); refine goesLY (some 4) rfl Try.func92 #[.int .i64 a0, .int .i64 0, .int .i64 7] ?_; (with_reducible refine (spec_l1In.calls a0 0 7 bA _ A2.out).mono ?_); rintro e w' ⟨rfl, ⟨nd, rfl⟩⟩; refine ⟨_, rfl, ?_⟩))
 go_ret
 exact ⟨u1_0, u1_2⟩

/-! ### spec_l3Size: function 174 -/
def spec_l3Size.l0 : Nat → Int → Int → Int → List (S95) → Option (Int)
 | 0, _, _, _, _ => none
 | k + 1, x3, x4, bE, aF => if x4 < (aF.length : Int) then (if 0 ≤ x4 then (spec_l3Size.l0 k (wrap64 ((wrap64 (x3 + (((rd_T95 aF x4).f1).size : Int))) + (((rd_T95 aF x4).f2).size : Int))) (wrap64 (x4 + 1)) bE aF) else (none)) else (some x3)
def spec_l3Size.f (k : Nat) (aN : Int) (aB : List (S95)) : Option (Int) := spec_l3Size.l0 k 0 0 aN aB
theorem u1_mq1 {p : Prop} (h : p := by repeat' first | (with_reducible first | exact bP _ _ _ _ | exact LeO.refl _ | exact LeO.none _ | refine LeO.ite ?_ ?_ | refine LeO.bind ?_ (fun _ => ?_)) | exact LeO.none _ | refine LeO.ite ?_ ?_ | refine LeO.bind ?_ (fun _ => ?_)) : p := h
set_option maxRecDepth 100000 in
theorem spec_l3Size.mono_l : ∀ k, (∀ y0 y1 y2 y3, LeO (spec_l3Size.l0 k y0 y1 y2 y3) (spec_l3Size.l0 (k + 1) y0 y1 y2 y3))
 | 0 => fun _ _ _ _ r h => by simp [spec_l3Size.l0] at h
 | k + 1 => by
  have bP := spec_l3Size.mono_l k
  ·intro y0 y1 y2 y3; unfold spec_l3Size.l0; exact u1_mq1
theorem spec_l3Size.mono : ∀ a0 a1 k, LeO (spec_l3Size.f k a0 a1) (spec_l3Size.f (k + 1) a0 a1) := by
 intro a0 a1 k
 have bP := spec_l3Size.mono_l k
 unfold spec_l3Size.f
 exact u1_mq1
set_option maxHeartbeats 8000000 in
set_option maxRecDepth 100000 in
theorem spec_l3Size.calls (k : Nat) (aN : Int) (bB : Option Addr) (bC : Nat) (aB : List (S95)) (r : Int) (w : World) (bG : Kd.C k95 w bB aB.length aB) (bH : aB.length ≤ bC) (h : spec_l3Size.f k aN aB = some r) :
 Calls Try.prog 174 #[.agg #[.int .i64 aN, .slice bB aB.length bC]] w fun e w' => e = .returned (.int .i64 r) ∧ Below w.heap.size w w' := by
 have eJ := Try.underlying26
 have bI := aM bG
 have eD := aM bH
 clear bG bH
 have HB := aM (Below.refl w.heap.size w)
 have H : (spec_l3Size.l0 k 0 0 aN aB) = some r := h
 clear h
 have H' := aM H
 clear H
 go_enter Try.func174, Try.ntmps174
 iterate 6 ((try go_quiet (first | ((with_reducible refine gD 1 rfl ?_); refine boxE (N := 1) rfl (cs := #[.int .i64 aN, .slice bB aB.length bC]) (t := 26) ?_; intro bJ hg w2 hbox hb; have aR := aM (hbox); have cF := aM (xge hg); have cG := aM (xge hg); replace HB := xbs hb; clear hb hbox hg))); (try go_wp2_with (first | ((with_reducible refine gD 1 rfl ?_); refine boxE (N := 1) rfl (cs := #[.int .i64 aN, .slice bB aB.length bC]) (t := 26) ?_; intro bJ hg w2 hbox hb; have aR := aM (hbox); have cF := aM (xge hg); have cG := aM (xge hg); replace HB := xbs hb; clear hb hbox hg))))
 go_loopg [3, 4] k (fun kq v3 v4 w' => ∃ (aE : Int) (aA : Int), v3 = .int .i64 aE ∧ v4 = .int .i64 aA ∧ Aside0 (spec_l3Size.l0 kq aE aA aN aB = some r) ∧ Aside0 (kq ≤ k) ∧ Aside0 (w'.heap[bJ]? = some (.cells #[.int .i64 aN, (.slice bB aB.length bC)] 26 (0, 0))) ∧ Aside0 (Below w.heap.size w w'))
 case atStart => exact ⟨(0), (0), u1_0, u1_0, H', ⟨Nat.le_refl _⟩, ⟨xblk⟩, ⟨xbg⟩⟩
 case round =>
  clear H'; try clear c1
  try clear p2
  obtain ⟨aE, aA, rfl, rfl, HA, HK1, aR, HB⟩ := hrel; cases gk with
  | zero => exact absurd HA.out (by simp [spec_l3Size.l0])
  | succ k1 =>
   have H := HA.out; clear HA; simp only [spec_l3Size.l0] at H; by_cases c3 : aA < (aB.length : Int)
   ·rw [if_pos c3] at H; have aY : decide (aA < (aB.length : Int)) = true := decide_eq_true c3; clear c3; by_cases c4 : 0 ≤ aA
    ·rw [if_pos c4] at H; have aZ : decide (0 ≤ aA) = true := decide_eq_true c4; clear c4; have H' := aM H; clear H; obtain ⟨bL, bM, dK, bN⟩ := xf2 (w := wr) aR; have p125 : 0 ≤ (aA : Int) := oda; have q125 : aA < (aB.length : Int) := oda; obtain ⟨cH, dL, aS, aT, aU⟩ := at_T95 bI.out aA p125 q125; cases dL
     replace aS := xce HB aS; replace aT := xce HB aT; replace aU := xce HB aU; replace p125 := eq_true p125; replace q125 := eq_true q125; have p126 : 0 ≤ (aA : Int) := oda; have q126 : aA < (aB.length : Int) := oda; obtain ⟨cI, dM, aV, aW, aX⟩ := at_T95 bI.out aA p126 q126; obtain rfl : cH = cI := (by injection dM); replace aV := xce HB aV; replace aW := xce HB aW; replace aX := xce HB aX; replace p126 := eq_true p126; replace q126 := eq_true q126; go_wp2
     repeat (go_quiet (fail); try go_wp2)
     go_roundg k1
     case measure => have := HK1.out; omega
     case rel => exact ⟨(wrap64 ((wrap64 (aE + (((rd_T95 aB aA).f1).size : Int))) + (((rd_T95 aB aA).f2).size : Int))), (wrap64 (aA + 1)), u1_0, u1_0, H', ⟨by have := HK1.out; omega⟩, ⟨xblk⟩, ⟨xbg⟩⟩
    ·rw [if_neg c4] at H; exact absurd H (by simp)
   ·rw [if_neg c3] at H; have aY : decide (aA < (aB.length : Int)) = false := decide_eq_false c3; clear c3; obtain rfl := Option.some.inj H; obtain ⟨dN, dO, dP, dQ⟩ := xf2 (w := wr) aR; go_wp2
    repeat (go_quiet (fail); try go_wp2)
    go_ret
    exact ⟨xerr, xbg⟩

theorem u2_0 {p : Prop} (h : p := by first | rfl | (simp; done) | (simp [*]; done)) : p := h
theorem u2_1 {p : Prop} (h : p := by first | rfl | (simp [errW_none, errW_some] <;> rfl) | (simp [*, errW_none, errW_some] <;> rfl)) : p := h
/-! ### spec_DiskOk: function 132 -/
mutual
def spec_DiskOk.j0 : Nat → Bool → Int → List (S95) → Option (Bool)
 | 0, _, _, _ => none
 | k + 1, gJ, bW, aP => if gJ = true then (some false) else (spec_DiskOk.l0 k 0 bW aP)
def spec_DiskOk.l0 : Nat → Int → Int → List (S95) → Option (Bool)
 | 0, _, _, _ => none
 | k + 1, x3, bW, aP => if x3 < (aP.length : Int) then (if 0 ≤ x3 then ((spec_l3Name.f ((rd_T95 aP x3).f0)).bind fun dW => (if dW = true then (if x3 > 0 then (if 0 ≤ (wrap64 (x3 - 1)) then (if (wrap64 (x3 - 1)) < (aP.length : Int) then (if ((rd_T95 aP (wrap64 (x3 - 1))).f0) ≥ ((rd_T95 aP x3).f0) then (some false) else (spec_DiskOk.l0 k (wrap64 (x3 + 1)) bW aP)) else (none)) else (none)) else (spec_DiskOk.l0 k (wrap64 (x3 + 1)) bW aP)) else (some false))) else (none)) else (some true)
end
def spec_DiskOk.f (k : Nat) (aE : Int) (aA : List (S95)) : Option (Bool) := (spec_l1In.f aE 0 40000).bind fun cO => (if cO = true then (if (aA.length : Int) > 8 then (spec_DiskOk.j0 k true aE aA) else ((spec_l3Size.f k aE aA).bind fun cN => (spec_DiskOk.j0 k (decide (cN > aE)) aE aA))) else (spec_DiskOk.j0 k true aE aA))
theorem u2_mq0 {p : Prop} (h : p := by repeat' first | (with_reducible first | exact eE _ _ _ | exact fS _ _ _ | exact spec_l3Size.mono _ _ _ | exact LeO.refl _ | exact LeO.none _ | refine LeO.ite ?_ ?_ | refine LeO.bind ?_ (fun _ => ?_)) | exact LeO.none _ | refine LeO.ite ?_ ?_ | refine LeO.bind ?_ (fun _ => ?_)) : p := h
set_option maxRecDepth 100000 in
theorem spec_DiskOk.mono_l : ∀ k, (∀ y0 y1 y2, LeO (spec_DiskOk.j0 k y0 y1 y2) (spec_DiskOk.j0 (k + 1) y0 y1 y2)) ∧ (∀ y0 y1 y2, LeO (spec_DiskOk.l0 k y0 y1 y2) (spec_DiskOk.l0 (k + 1) y0 y1 y2))
 | 0 => ⟨fun _ _ _ r h => by simp [spec_DiskOk.j0] at h, fun _ _ _ r h => by simp [spec_DiskOk.l0] at h⟩
 | k + 1 => by
  obtain ⟨eE, fS⟩ := spec_DiskOk.mono_l k; refine ⟨?_, ?_⟩
  ·intro y0 y1 y2; unfold spec_DiskOk.j0; exact u2_mq0
  ·intro y0 y1 y2; unfold spec_DiskOk.l0; exact u2_mq0
theorem spec_DiskOk.mono : ∀ a0 a1 k, LeO (spec_DiskOk.f k a0 a1) (spec_DiskOk.f (k + 1) a0 a1) := by
 intro a0 a1 k
 obtain ⟨eE, fS⟩ := spec_DiskOk.mono_l k
 unfold spec_DiskOk.f
 exact u2_mq0
def spec_DiskOk.T1 : Bool × List (List Nat × List Nat) := (true, [([], []), ([0], [0]), ([1], [1]), ([2], [2]), ([3, 2], [3]), ([4], [4]), ([5, 4], [4, 5]), ([6, 4], [4, 6]), ([7, 4], [4, 7]), ([4, 8], [4, 8]), ([9, 4], [9]), ([10], [10]), ([11, 10, 10], [10, 11]), ([10], [10]), ([13, 10], [10, 13]), ([12, 14, 10], [10, 12, 14]), ([10, 15], [10, 15])])
def spec_DiskOk.B1 : List Nat := [0, 1, 3, 7, 15, 31, 63, 127, 255, 511, 1023, 2047, 4095, 2047, 10239, 32767, 65535]
def spec_DiskOk.T6 : Bool × List (List Nat × List Nat) := (true, [([], []), ([0], [0]), ([], []), ([1, 2], [1, 2]), ([3], [3]), ([4], [4]), ([5], [5]), ([6], [6]), ([7, 6], [7]), ([8], [8]), ([9, 8], [8, 9]), ([10, 8, 8], [8, 10]), ([11], [11]), ([12, 11], [11, 12]), ([11], [11]), ([14, 11], [11, 14]), ([13, 15, 11], [11, 13, 15]), ([16, 11], [11, 16]), ([17, 11], [11, 17]), ([11], [11]), ([19, 11], [11, 19]), ([11], [11]), ([20, 21, 11], [11, 20, 21]), ([22, 11], [11, 22]), ([23, 11], [11, 23]), ([18, 24, 11], [11, 18, 24]), ([11, 25, 8], [8, 11, 25]), ([8, 26], [8, 26])])
def spec_DiskOk.B6 : List Nat := [0, 1, 0, 7, 15, 31, 63, 127, 255, 511, 1023, 2047, 4095, 8191, 4095, 20479, 65535, 131071, 262143, 4095, 528383, 4095, 3674111, 7868415, 16257023, 33554431, 67108863, 134217727]
set_option maxHeartbeats 8000000 in
set_option maxRecDepth 100000 in
theorem spec_DiskOk.calls (k : Nat) (aE : Int) (aY : Option Addr) (aQ : Nat) (aA : List (S95)) (r : Bool) (w : World) (bU : Kd.C k95 w aY aA.length aA) (bV : aA.length ≤ aQ) (h : spec_DiskOk.f k aE aA = some r) :
 Calls Try.prog 132 #[.agg #[.int .i64 aE, .slice aY aA.length aQ]] w fun e w' => e = .returned (.bool r) ∧ Below w.heap.size w w' := by
 have eF := Try.underlying26
 have aK := aM bU
 have aX := aM bV
 clear bU bV
 have HB := aM (Below.refl w.heap.size w)
 have H : ((spec_l1In.f aE 0 40000).bind fun cO => (if cO = true then (if (aA.length : Int) > 8 then (spec_DiskOk.j0 k true aE aA) else ((spec_l3Size.f k aE aA).bind fun cN => (spec_DiskOk.j0 k (decide (cN > aE)) aE aA))) else (spec_DiskOk.j0 k true aE aA))) = some r := h
 clear h
 have fE := aM H
 clear H
 go_enter Try.func132, Try.ntmps132
 go_upto_region 1 with (first | ((with_reducible refine gD 1 rfl ?_); (try (refine gate_guard (by rfl) ?_; dsimp only)); refine boxE (N := 1) rfl (cs := #[.int .i64 aE, .slice aY aA.length aQ]) (t := 26) ?_; intro bA hg w3 hbox hb; have aC := aM (hbox); have fT := aM (xge hg); have fU := aM (xge hg); replace HB := xbs hb; clear hb hbox hg))
 (try simp only [Act.put, List.setIfInBounds_toArray, List.set_cons_zero, List.set_cons_succ])
 go_cut [20] (fun gK wc => ∃ (kq : Nat) (cD : Bool), gK = .bool cD ∧ Aside0 (spec_DiskOk.j0 kq cD aE aA = some r) ∧ Aside0 (kq ≤ k) ∧ Aside0 (wc.heap[bA]? = some (.cells #[.int .i64 aE, (.slice aY aA.length aQ)] 26 (0, 0))) ∧ Aside0 (Below w.heap.size w wc))
 case first =>
  have H := fE.out; clear fE; replace H := oB H; obtain ⟨cO, eG, H⟩ := H; (try dsimp only at H); have A4 := aM eG; clear eG
  by_cases c5 : cO = true
  ·subst c5; replace H := iT H; by_cases c6 : (aA.length : Int) > 8
   ·rw [if_pos c6] at H; have bX : decide (8 < (aA.length : Int)) = true := decide_eq_true c6; have cP : decide (8 < aA.length) = true := decide_eq_true (by omega); clear c6; (first | rw [bX] | (simp only [i64_w, i32_w]; rw [bX]) | skip); have H' := aM H; clear H; try go_wp2
    replace aC := bD aC; replace HB := lD HB; refine sb2 17 spec_DiskOk.T1 spec_DiskOk.B1 aC (fun hHeld HT_ HW_ => ?_); generalize w3.drew = w7 at aC HB hHeld ⊢; refine pV 0 4 ?_; refine tK 1 5 ?_; refine oN 2 6 fun K hK => ?_
    refine goesY Try.func92 #[.int .i64 aE, .int .i64 0, .int .i64 40000] ?_; with_reducible refine (spec_l1In.calls aE 0 40000 true _ A4.out).mono ?_
    rintro e w' ⟨rfl, ⟨nd, rfl⟩⟩; refine ⟨_, rfl, ?_⟩; refine hK.out _ _ ⟨xc aC 0 rfl, xc aC 1 rfl⟩ (fun hHeld => ?_); clear hK K; refine nm_ (N := 6) ?_; refine pV 3 7 ?_; refine pV 4 8 ?_; refine pV 5 9 ?_; refine tK 6 10 ?_; refine pV 7 11 ?_; refine pV 8 12 ?_; refine pV 9 13 ?_; refine pV 10 14 ?_; refine pU 11 15 ?_; refine pU 12 16 ?_; refine pU 13 17 ?_; refine pU 14 18 ?_; refine pU 15 19 ?_; refine pV 16 20 ?_; refine dn_ ?_; try go_wp2
    go_meet
    case rel => exact ⟨_, (true), u2_0, H', ⟨by first | omega | exact Nat.le_refl _⟩, ⟨xblk⟩, ⟨xbg⟩⟩
   ·rw [if_neg c6] at H; have bX : decide (8 < (aA.length : Int)) = false := decide_eq_false c6; have cP : decide (8 < aA.length) = false := decide_eq_false (by omega); clear c6; (first | rw [bX] | (simp only [i64_w, i32_w]; rw [bX]) | skip); replace H := oB H; obtain ⟨cN, fV, H⟩ := H; (try dsimp only at H); have A8 := aM fV; clear fV
    have H' := aM H; clear H; try go_wp2
    replace aC := bD aC; replace HB := lD HB; refine sb2 17 spec_DiskOk.T1 spec_DiskOk.B1 aC (fun hHeld HT_ HW_ => ?_); generalize w3.drew = w9 at aC HB hHeld ⊢; refine pV 0 4 ?_; refine tK 1 5 ?_; refine oN 2 6 fun K hK => ?_
    refine goesY Try.func92 #[.int .i64 aE, .int .i64 0, .int .i64 40000] ?_; with_reducible refine (spec_l1In.calls aE 0 40000 true _ A4.out).mono ?_
    rintro e w' ⟨rfl, ⟨nd, rfl⟩⟩; refine ⟨_, rfl, ?_⟩; refine hK.out _ _ ⟨xc aC 0 rfl, xc aC 1 rfl⟩ (fun hHeld => ?_); clear hK K; refine nm_ (N := 6) ?_; refine pV 3 7 ?_; refine pV 4 8 ?_; refine pV 5 9 ?_; refine tK 6 10 ?_; refine pV 7 11 ?_; refine pV 8 12 ?_; refine pV 9 13 ?_; refine pV 10 14 ?_; refine pV 13 17 ?_; refine tK 11 15 ?_; refine tK 14 18 ?_; refine oN 12 16 fun K hK => ?_
    refine goesY Try.func174 #[.agg #[.int .i64 aE, .slice aY aA.length aQ]] ?_; with_reducible refine (spec_l3Size.calls k aE _ _ aA cN _ ?side1 ?side2 A8.out).mono ?_
    (case side1 => repeat (first | exact (Kd.C_below aK.out xbg) | (with_reducible refine Kd.C_alloc ?_ _) | (with_reducible refine Kd.C_drewN ?_ _) | (with_reducible refine Kd.C_drew ?_))); (case side2 => exact aX.out); rintro e gM ⟨rfl, hb⟩; refine ⟨_, rfl, ?_⟩; replace aC := xbb aC hb; replace HB := xbs hb; (try clear hb); refine hK.out _ _ ⟨xc aC 0 rfl, xc aC 1 rfl⟩ (fun hHeld => ?_); clear hK K; refine nm_ (N := 16) ?_; refine pV 15 19 ?_; refine pV 16 20 ?_; refine dn_ ?_; try go_wp2
    go_meet
    case rel => exact ⟨_, (decide (cN > aE)), u2_0, H', ⟨by first | omega | exact Nat.le_refl _⟩, ⟨xblk⟩, ⟨xbg⟩⟩
  ·replace c5 := Bool.eq_false_iff.mpr c5; subst c5; replace H := iN H; have H' := aM H; clear H; try go_wp2
   replace aC := bD aC; replace HB := lD HB; refine sb2 17 spec_DiskOk.T1 spec_DiskOk.B1 aC (fun hHeld HT_ HW_ => ?_); generalize w3.drew = fW at aC HB hHeld ⊢; refine pV 0 4 ?_; refine tK 1 5 ?_; refine oN 2 6 fun K hK => ?_
   refine goesY Try.func92 #[.int .i64 aE, .int .i64 0, .int .i64 40000] ?_; with_reducible refine (spec_l1In.calls aE 0 40000 false _ A4.out).mono ?_
   rintro e w' ⟨rfl, ⟨nd, rfl⟩⟩; refine ⟨_, rfl, ?_⟩; refine hK.out _ _ ⟨xc aC 0 rfl, xc aC 1 rfl⟩ (fun hHeld => ?_); clear hK K; refine nm_ (N := 6) ?_; refine pV 3 7 ?_; refine pV 4 8 ?_; refine pU 5 9 ?_; refine pU 6 10 ?_; refine pU 7 11 ?_; refine pU 8 12 ?_; refine pV 9 13 ?_; refine pV 10 14 ?_; refine pU 11 15 ?_; refine pU 12 16 ?_; refine pU 13 17 ?_; refine pU 14 18 ?_; refine pU 15 19 ?_; refine pV 16 20 ?_; refine dn_ ?_; try go_wp2
   go_meet
   case rel => exact ⟨_, (true), u2_0, H', ⟨by first | omega | exact Nat.le_refl _⟩, ⟨xblk⟩, ⟨xbg⟩⟩
 case rest =>
  clear fE; try clear c1
  try clear p2
  try clear c5
  try clear c6
  try clear bX
  try clear cP
  try clear c9
  obtain ⟨kq, cD, rfl, HA, HJ1, aC, HB⟩ := hcut; cases kq with
  | zero => exact absurd HA.out (by simp [spec_DiskOk.j0])
  | succ fX =>
   have H := HA.out; clear HA; simp only [spec_DiskOk.j0] at H; by_cases dB : cD = true
   ·subst dB; replace H := iT H; obtain rfl := Option.some.inj H; go_wp2; go_ret
    exact ⟨u2_1, xbg⟩
   ·replace dB := Bool.eq_false_iff.mpr dB; subst dB; replace H := iN H; have H' := aM H; clear H; go_wp2; go_loopg [3] fX (fun kq v3 w' => ∃ (aB : Int), v3 = .int .i64 aB ∧ Aside0 (spec_DiskOk.l0 kq aB aE aA = some r) ∧ Aside0 (kq ≤ fX) ∧ Aside0 (w'.heap[bA]? = some (.cells #[.int .i64 aE, (.slice aY aA.length aQ)] 26 (0, 0))) ∧ Aside0 (Below w.heap.size w w'))
    case atStart => exact ⟨(0), u2_0, H', ⟨Nat.le_refl _⟩, ⟨xblk⟩, ⟨xbg⟩⟩
    case round =>
     clear H'; try clear c1
     try clear p2
     try clear c5
     try clear c6
     try clear bX
     try clear cP
     try clear c9
     try clear dB
     try clear p2
     obtain ⟨aB, rfl, HA, HK2, aC, HB⟩ := hrel; cases gk with
     | zero => exact absurd HA.out (by simp [spec_DiskOk.l0])
     | succ k2 =>
      have H := HA.out; clear HA; simp only [spec_DiskOk.l0] at H; by_cases cQ : aB < (aA.length : Int)
      ·rw [if_pos cQ] at H; have dV : decide (aB < (aA.length : Int)) = true := decide_eq_true cQ; clear cQ; by_cases dC : 0 ≤ aB
       ·rw [if_pos dC] at H; have eH : decide (0 ≤ aB) = true := decide_eq_true dC; clear dC; replace H := oB H; obtain ⟨dW, eI, H⟩ := H; (try dsimp only at H); have eJ := aM eI; clear eI
        by_cases eO : dW = true
        ·subst eO; replace H := iT H; by_cases eC : aB > 0
         ·rw [if_pos eC] at H; have eK : decide (0 < aB) = true := decide_eq_true eC; clear eC; obtain ⟨ji18, hji18⟩ : ∃ j_ : Int, (wrap64 (aB - 1)) = j_ := ⟨_, rfl⟩; replace H : (if 0 ≤ (ji18) then (if (ji18) < (aA.length : Int) then (if ((rd_T95 aA (ji18)).f0) ≥ ((rd_T95 aA aB).f0) then (some false) else (spec_DiskOk.l0 k2 (wrap64 (aB + 1)) aE aA)) else (none)) else (none)) = some r := by first | (rw [hji18] at H; exact H) | (simp only [hji18] at H ⊢; exact H)
          (try rw [hji18] at eJ); have hji18w : (IntKind.i64.wrap (aB - 1)) = ji18 := (i64_w _).trans hji18; by_cases eP : 0 ≤ (ji18)
          ·rw [if_pos eP] at H; have fY : decide (0 ≤ (ji18)) = true := decide_eq_true eP; clear eP; by_cases eQ : (ji18) < (aA.length : Int)
           ·rw [if_pos eQ] at H; have fZ : decide ((ji18) < (aA.length : Int)) = true := decide_eq_true eQ; clear eQ; by_cases eD : ((rd_T95 aA (ji18)).f0) ≥ ((rd_T95 aA aB).f0)
            ·rw [if_pos eD] at H; have eL : decide (((rd_T95 aA aB).f0) ≤ ((rd_T95 aA (ji18)).f0)) = true := decide_eq_true eD; clear eD; obtain rfl := Option.some.inj H; obtain ⟨cE, cF, cG, cH⟩ := xf2 (w := wr) aC; try go_wp2
             replace aC := bD aC; replace HB := lD HB; have p130 : 0 ≤ (aB : Int) := oda; have q130 : aB < (aA.length : Int) := oda; obtain ⟨aD, cC, aG, aH, aI⟩ := at_T95 aK.out aB p130 q130; have aL := aI; have aN := aH; have aO := aG; cases cC
             replace aG := xce HB aG; replace aH := xce HB aH; replace aI := xce HB aI; replace p130 := eq_true p130; replace q130 := eq_true q130; have p132 : 0 ≤ ((ji18) : Int) := oda; have q132 : (ji18) < (aA.length : Int) := oda; obtain ⟨cS, dX, aR, aS, aT⟩ := at_T95 aK.out (ji18) p132 q132; have bB := aT; have bC := aS; have bE := aR; obtain rfl : aD = cS := (by injection dX); replace aR := xce HB aR; replace aS := xce HB aS; replace aT := xce HB aT; replace p132 := eq_true p132; replace q132 := eq_true q132; have p133 : 0 ≤ (aB : Int) := oda; have q133 : aB < (aA.length : Int) := oda; obtain ⟨cT, dY, aU, aV, aW⟩ := at_T95 aK.out aB p133 q133; have bG := aW; have bH := aV; have bI := aU; obtain rfl : aD = cT := (by injection dY); replace aU := xce HB aU; replace aV := xce HB aV; replace aW := xce HB aW; replace p133 := eq_true p133; replace q133 := eq_true q133; refine st_ 28 (fun w' => w'.cell? ⟨bA, 0, none⟩ = some (.int .i64 aE) ∧ w'.cell? ⟨bA, 1, none⟩ = some (.slice (some aD) aA.length aQ) ∧ w'.cell? (aD.add ((aB).toNat * 3)) = some (.int .i64 ((rd_T95 aA aB).f0)) ∧ w'.cell? ⟨(aD.add ((aB).toNat * 3)).block, (aD.add ((aB).toNat * 3)).off + 1, none⟩ = some (.string ((rd_T95 aA aB).f1)) ∧ w'.cell? ⟨(aD.add ((aB).toNat * 3)).block, (aD.add ((aB).toNat * 3)).off + 2, none⟩ = some (.string ((rd_T95 aA aB).f2)) ∧ w'.cell? (aD.add (((ji18)).toNat * 3)) = some (.int .i64 ((rd_T95 aA (ji18)).f0)) ∧ w'.cell? ⟨(aD.add (((ji18)).toNat * 3)).block, (aD.add (((ji18)).toNat * 3)).off + 1, none⟩ = some (.string ((rd_T95 aA (ji18)).f1)) ∧ w'.cell? ⟨(aD.add (((ji18)).toNat * 3)).block, (aD.add (((ji18)).toNat * 3)).off + 2, none⟩ = some (.string ((rd_T95 aA (ji18)).f2)) ∧ w'.cell? (aD.add ((aB).toNat * 3)) = some (.int .i64 ((rd_T95 aA aB).f0)) ∧ w'.cell? ⟨(aD.add ((aB).toNat * 3)).block, (aD.add ((aB).toNat * 3)).off + 1, none⟩ = some (.string ((rd_T95 aA aB).f1)) ∧ w'.cell? ⟨(aD.add ((aB).toNat * 3)).block, (aD.add ((aB).toNat * 3)).off + 2, none⟩ = some (.string ((rd_T95 aA aB).f2))) spec_DiskOk.T6 spec_DiskOk.B6 ⟨xc aC 0 rfl, xc aC 1 rfl, (xce HB aO), (xce HB aN), (xce HB aL), (xce HB bE), (xce HB bC), (xce HB bB), (xce HB bI), (xce HB bH), (xce HB bG)⟩ (fun hHeld HT_ HW_ => ?_); generalize wr.drew = eR at aC HB aG aH aI aR aS aT aU aV aW hHeld ⊢; refine pV 0 28 ?_; refine pV 2 30 ?_; refine tK 1 29 ?_; refine pV 3 31 ?_; refine pV 4 32 ?_; refine tK 5 33 ?_; refine oN 6 34 fun K hK => ?_
             refine goesY Try.func133 #[.int .i64 ((rd_T95 aA aB).f0)] ?_; with_reducible refine (spec_l3Name.calls ((rd_T95 aA aB).f0) true _ eJ.out).mono ?_
             rintro e w' ⟨rfl, ⟨nd, rfl⟩⟩; refine ⟨_, rfl, ?_⟩; refine hK.out _ _ ⟨xc aC 0 rfl, xc aC 1 rfl, (xce HB aO), (xce HB aN), (xce HB aL), (xce HB bE), (xce HB bC), (xce HB bB), (xce HB bI), (xce HB bH), (xce HB bG)⟩ (fun hHeld => ?_); clear hK K; refine nm_ (N := 34) ?_; refine pV 7 35 ?_; refine pV 8 36 ?_; refine pV 9 37 ?_; refine pV 10 38 ?_; refine pV 11 39 ?_; refine pV 12 40 ?_; refine pV 14 42 ?_; refine pV 15 43 ?_; refine pV 19 47 ?_; refine pV 21 49 ?_; refine tK 13 41 ?_; refine pV 16 44 ?_; refine pV 17 45 ?_; refine tK 18 46 ?_; refine tK 20 48 ?_; refine pV 22 50 ?_; refine pV 23 51 ?_; refine tK 24 52 ?_; refine pV 25 53 ?_; refine pV 26 54 ?_; refine pV 27 55 ?_; refine dn_ ?_; try go_wp2
             go_ret
             exact ⟨by first | rfl | (simp [errW_none, errW_some] <;> rfl) | (simp only [← hji18]; first | rfl | (simp [errW_none, errW_some] <;> rfl)) | (simp [*, errW_none, errW_some] <;> rfl), xbg⟩
            ·rw [if_neg eD] at H; have eL : decide (((rd_T95 aA aB).f0) ≤ ((rd_T95 aA (ji18)).f0)) = false := decide_eq_false eD; clear eD; have H' := aM H; clear H; obtain ⟨cI, cJ, cK, cL⟩ := xf2 (w := wr) aC; try go_wp2
             replace aC := bD aC; replace HB := lD HB; have p130 : 0 ≤ (aB : Int) := oda; have q130 : aB < (aA.length : Int) := oda; obtain ⟨aD, cC, aG, aH, aI⟩ := at_T95 aK.out aB p130 q130; have aL := aI; have aN := aH; have aO := aG; cases cC
             replace aG := xce HB aG; replace aH := xce HB aH; replace aI := xce HB aI; replace p130 := eq_true p130; replace q130 := eq_true q130; have p132 : 0 ≤ ((ji18) : Int) := oda; have q132 : (ji18) < (aA.length : Int) := oda; obtain ⟨cS, dX, aR, aS, aT⟩ := at_T95 aK.out (ji18) p132 q132; have bB := aT; have bC := aS; have bE := aR; obtain rfl : aD = cS := (by injection dX); replace aR := xce HB aR; replace aS := xce HB aS; replace aT := xce HB aT; replace p132 := eq_true p132; replace q132 := eq_true q132; have p133 : 0 ≤ (aB : Int) := oda; have q133 : aB < (aA.length : Int) := oda; obtain ⟨cT, dY, aU, aV, aW⟩ := at_T95 aK.out aB p133 q133; have bG := aW; have bH := aV; have bI := aU; obtain rfl : aD = cT := (by injection dY); replace aU := xce HB aU; replace aV := xce HB aV; replace aW := xce HB aW; replace p133 := eq_true p133; replace q133 := eq_true q133; refine st_ 28 (fun w' => w'.cell? ⟨bA, 0, none⟩ = some (.int .i64 aE) ∧ w'.cell? ⟨bA, 1, none⟩ = some (.slice (some aD) aA.length aQ) ∧ w'.cell? (aD.add ((aB).toNat * 3)) = some (.int .i64 ((rd_T95 aA aB).f0)) ∧ w'.cell? ⟨(aD.add ((aB).toNat * 3)).block, (aD.add ((aB).toNat * 3)).off + 1, none⟩ = some (.string ((rd_T95 aA aB).f1)) ∧ w'.cell? ⟨(aD.add ((aB).toNat * 3)).block, (aD.add ((aB).toNat * 3)).off + 2, none⟩ = some (.string ((rd_T95 aA aB).f2)) ∧ w'.cell? (aD.add (((ji18)).toNat * 3)) = some (.int .i64 ((rd_T95 aA (ji18)).f0)) ∧ w'.cell? ⟨(aD.add (((ji18)).toNat * 3)).block, (aD.add (((ji18)).toNat * 3)).off + 1, none⟩ = some (.string ((rd_T95 aA (ji18)).f1)) ∧ w'.cell? ⟨(aD.add (((ji18)).toNat * 3)).block, (aD.add (((ji18)).toNat * 3)).off + 2, none⟩ = some (.string ((rd_T95 aA (ji18)).f2)) ∧ w'.cell? (aD.add ((aB).toNat * 3)) = some (.int .i64 ((rd_T95 aA aB).f0)) ∧ w'.cell? ⟨(aD.add ((aB).toNat * 3)).block, (aD.add ((aB).toNat * 3)).off + 1, none⟩ = some (.string ((rd_T95 aA aB).f1)) ∧ w'.cell? ⟨(aD.add ((aB).toNat * 3)).block, (aD.add ((aB).toNat * 3)).off + 2, none⟩ = some (.string ((rd_T95 aA aB).f2))) spec_DiskOk.T6 spec_DiskOk.B6 ⟨xc aC 0 rfl, xc aC 1 rfl, (xce HB aO), (xce HB aN), (xce HB aL), (xce HB bE), (xce HB bC), (xce HB bB), (xce HB bI), (xce HB bH), (xce HB bG)⟩ (fun hHeld HT_ HW_ => ?_); generalize wr.drew = gA at aC HB aG aH aI aR aS aT aU aV aW hHeld ⊢; refine pV 0 28 ?_; refine pV 2 30 ?_; refine tK 1 29 ?_; refine pV 3 31 ?_; refine pV 4 32 ?_; refine tK 5 33 ?_; refine oN 6 34 fun K hK => ?_
             refine goesY Try.func133 #[.int .i64 ((rd_T95 aA aB).f0)] ?_; with_reducible refine (spec_l3Name.calls ((rd_T95 aA aB).f0) true _ eJ.out).mono ?_
             rintro e w' ⟨rfl, ⟨nd, rfl⟩⟩; refine ⟨_, rfl, ?_⟩; refine hK.out _ _ ⟨xc aC 0 rfl, xc aC 1 rfl, (xce HB aO), (xce HB aN), (xce HB aL), (xce HB bE), (xce HB bC), (xce HB bB), (xce HB bI), (xce HB bH), (xce HB bG)⟩ (fun hHeld => ?_); clear hK K; refine nm_ (N := 34) ?_; refine pV 7 35 ?_; refine pV 8 36 ?_; refine pV 9 37 ?_; refine pV 10 38 ?_; refine pV 11 39 ?_; refine pV 12 40 ?_; refine pV 14 42 ?_; refine pV 15 43 ?_; refine pV 19 47 ?_; refine pV 21 49 ?_; refine tK 13 41 ?_; refine pV 16 44 ?_; refine pV 17 45 ?_; refine tK 18 46 ?_; refine tK 20 48 ?_; refine pV 22 50 ?_; refine pV 23 51 ?_; refine tK 24 52 ?_; refine pV 25 53 ?_; refine pV 26 54 ?_; refine pV 27 55 ?_; refine dn_ ?_; try go_wp2
             go_roundg k2
             case measure => have := HJ1.out; have := HK2.out; omega
             case rel => exact ⟨(wrap64 (aB + 1)), u2_0, H', ⟨by have := HJ1.out; have := HK2.out; omega⟩, ⟨xblk⟩, ⟨xbg⟩⟩
           ·rw [if_neg eQ] at H; exact absurd H (by simp)
          ·rw [if_neg eP] at H; exact absurd H (by simp)
         ·rw [if_neg eC] at H; have eK : decide (0 < aB) = false := decide_eq_false eC; clear eC; have H' := aM H; clear H; obtain ⟨eS, eT, eU, eV⟩ := xf2 (w := wr) aC; try go_wp2
          replace aC := bD aC; replace HB := lD HB; have p130 : 0 ≤ (aB : Int) := oda; have q130 : aB < (aA.length : Int) := oda; obtain ⟨aD, cC, aG, aH, aI⟩ := at_T95 aK.out aB p130 q130; have aL := aI; have aN := aH; have aO := aG; cases cC
          replace aG := xce HB aG; replace aH := xce HB aH; replace aI := xce HB aI; replace p130 := eq_true p130; replace q130 := eq_true q130; refine st_ 28 (fun w' => w'.cell? ⟨bA, 0, none⟩ = some (.int .i64 aE) ∧ w'.cell? ⟨bA, 1, none⟩ = some (.slice (some aD) aA.length aQ) ∧ w'.cell? (aD.add ((aB).toNat * 3)) = some (.int .i64 ((rd_T95 aA aB).f0)) ∧ w'.cell? ⟨(aD.add ((aB).toNat * 3)).block, (aD.add ((aB).toNat * 3)).off + 1, none⟩ = some (.string ((rd_T95 aA aB).f1)) ∧ w'.cell? ⟨(aD.add ((aB).toNat * 3)).block, (aD.add ((aB).toNat * 3)).off + 2, none⟩ = some (.string ((rd_T95 aA aB).f2))) spec_DiskOk.T6 spec_DiskOk.B6 ⟨xc aC 0 rfl, xc aC 1 rfl, (xce HB aO), (xce HB aN), (xce HB aL)⟩ (fun hHeld HT_ HW_ => ?_); generalize wr.drew = gN at aC HB aG aH aI hHeld ⊢; refine pV 0 28 ?_; refine pV 2 30 ?_; refine tK 1 29 ?_; refine pV 3 31 ?_; refine pV 4 32 ?_; refine tK 5 33 ?_; refine oN 6 34 fun K hK => ?_
          refine goesY Try.func133 #[.int .i64 ((rd_T95 aA aB).f0)] ?_; with_reducible refine (spec_l3Name.calls ((rd_T95 aA aB).f0) true _ eJ.out).mono ?_
          rintro e w' ⟨rfl, ⟨nd, rfl⟩⟩; refine ⟨_, rfl, ?_⟩; refine hK.out _ _ ⟨xc aC 0 rfl, xc aC 1 rfl, (xce HB aO), (xce HB aN), (xce HB aL)⟩ (fun hHeld => ?_); clear hK K; refine nm_ (N := 34) ?_; refine pV 7 35 ?_; refine pV 8 36 ?_; refine pV 9 37 ?_; refine pV 10 38 ?_; refine pV 11 39 ?_; refine pU 12 40 ?_; refine pU 13 41 ?_; refine pU 14 42 ?_; refine pU 15 43 ?_; refine pU 16 44 ?_; refine pU 17 45 ?_; refine pU 18 46 ?_; refine pU 19 47 ?_; refine pU 20 48 ?_; refine pU 21 49 ?_; refine pU 22 50 ?_; refine pU 23 51 ?_; refine pU 24 52 ?_; refine pU 25 53 ?_; refine pV 26 54 ?_; refine pV 27 55 ?_; refine dn_ ?_; try go_wp2
          go_roundg k2
          case measure => have := HJ1.out; have := HK2.out; omega
          case rel => exact ⟨(wrap64 (aB + 1)), u2_0, H', ⟨by have := HJ1.out; have := HK2.out; omega⟩, ⟨xblk⟩, ⟨xbg⟩⟩
        ·replace eO := Bool.eq_false_iff.mpr eO; subst eO; replace H := iN H; obtain rfl := Option.some.inj H; obtain ⟨eW, eX, eY, eZ⟩ := xf2 (w := wr) aC; try go_wp2
         replace aC := bD aC; replace HB := lD HB; have p130 : 0 ≤ (aB : Int) := oda; have q130 : aB < (aA.length : Int) := oda; obtain ⟨aD, cC, aG, aH, aI⟩ := at_T95 aK.out aB p130 q130; have aL := aI; have aN := aH; have aO := aG; cases cC
         replace aG := xce HB aG; replace aH := xce HB aH; replace aI := xce HB aI; replace p130 := eq_true p130; replace q130 := eq_true q130; refine st_ 28 (fun w' => w'.cell? ⟨bA, 0, none⟩ = some (.int .i64 aE) ∧ w'.cell? ⟨bA, 1, none⟩ = some (.slice (some aD) aA.length aQ) ∧ w'.cell? (aD.add ((aB).toNat * 3)) = some (.int .i64 ((rd_T95 aA aB).f0)) ∧ w'.cell? ⟨(aD.add ((aB).toNat * 3)).block, (aD.add ((aB).toNat * 3)).off + 1, none⟩ = some (.string ((rd_T95 aA aB).f1)) ∧ w'.cell? ⟨(aD.add ((aB).toNat * 3)).block, (aD.add ((aB).toNat * 3)).off + 2, none⟩ = some (.string ((rd_T95 aA aB).f2))) spec_DiskOk.T6 spec_DiskOk.B6 ⟨xc aC 0 rfl, xc aC 1 rfl, (xce HB aO), (xce HB aN), (xce HB aL)⟩ (fun hHeld HT_ HW_ => ?_); generalize wr.drew = gO at aC HB aG aH aI hHeld ⊢; refine pV 0 28 ?_; refine pV 2 30 ?_; refine tK 1 29 ?_; refine pV 3 31 ?_; refine pV 4 32 ?_; refine tK 5 33 ?_; refine oN 6 34 fun K hK => ?_
         refine goesY Try.func133 #[.int .i64 ((rd_T95 aA aB).f0)] ?_; with_reducible refine (spec_l3Name.calls ((rd_T95 aA aB).f0) false _ eJ.out).mono ?_
         rintro e w' ⟨rfl, ⟨nd, rfl⟩⟩; refine ⟨_, rfl, ?_⟩; refine hK.out _ _ ⟨xc aC 0 rfl, xc aC 1 rfl, (xce HB aO), (xce HB aN), (xce HB aL)⟩ (fun hHeld => ?_); clear hK K; refine nm_ (N := 34) ?_; refine pV 7 35 ?_; refine pV 8 36 ?_; refine pU 9 37 ?_; refine pU 10 38 ?_; refine pU 11 39 ?_; refine pU 12 40 ?_; refine pU 13 41 ?_; refine pU 14 42 ?_; refine pU 15 43 ?_; refine pU 16 44 ?_; refine pU 17 45 ?_; refine pU 18 46 ?_; refine pU 19 47 ?_; refine pU 20 48 ?_; refine pU 21 49 ?_; refine pU 22 50 ?_; refine pU 23 51 ?_; refine pU 24 52 ?_; refine pU 25 53 ?_; refine pU 26 54 ?_; refine pV 27 55 ?_; refine dn_ ?_; try go_wp2
         go_ret
         exact ⟨u2_1, xbg⟩
       ·rw [if_neg dC] at H; exact absurd H (by simp)
      ·rw [if_neg cQ] at H; have dV : decide (aB < (aA.length : Int)) = false := decide_eq_false cQ; clear cQ; obtain rfl := Option.some.inj H; obtain ⟨fA, fB, fC, fD⟩ := xf2 (w := wr) aC; go_wp2; go_ret
       exact ⟨u2_1, xbg⟩

/-! ### spec_l3Find: function 134 -/
def spec_l3Find.l0 : Nat → Int → Int → Int → List (S95) → Option (Int)
 | 0, _, _, _, _ => none
 | k + 1, x1, x5, dD, bY => if x5 < (bY.length : Int) then (if 0 ≤ x5 then (if ((rd_T95 bY x5).f0) = x1 then (some x5) else (spec_l3Find.l0 k x1 (wrap64 (x5 + 1)) dD bY)) else (none)) else (some (-1))
def spec_l3Find.f (k : Nat) (aE : Int) (aA : List (S95)) (a1 : Int) : Option (Int) := spec_l3Find.l0 k a1 0 aE aA
theorem u2_mq1 {p : Prop} (h : p := by repeat' first | (with_reducible first | exact eE _ _ _ _ | exact LeO.refl _ | exact LeO.none _ | refine LeO.ite ?_ ?_ | refine LeO.bind ?_ (fun _ => ?_)) | exact LeO.none _ | refine LeO.ite ?_ ?_ | refine LeO.bind ?_ (fun _ => ?_)) : p := h
set_option maxRecDepth 100000 in
theorem spec_l3Find.mono_l : ∀ k, (∀ y0 y1 y2 y3, LeO (spec_l3Find.l0 k y0 y1 y2 y3) (spec_l3Find.l0 (k + 1) y0 y1 y2 y3))
 | 0 => fun _ _ _ _ r h => by simp [spec_l3Find.l0] at h
 | k + 1 => by
  have eE := spec_l3Find.mono_l k
  ·intro y0 y1 y2 y3; unfold spec_l3Find.l0; exact u2_mq1
theorem spec_l3Find.mono : ∀ a0 a1 a2 k, LeO (spec_l3Find.f k a0 a1 a2) (spec_l3Find.f (k + 1) a0 a1 a2) := by
 intro a0 a1 a2 k
 have eE := spec_l3Find.mono_l k
 unfold spec_l3Find.f
 exact u2_mq1
set_option maxHeartbeats 8000000 in
set_option maxRecDepth 100000 in
theorem spec_l3Find.calls (k : Nat) (aE : Int) (aY : Option Addr) (aQ : Nat) (aA : List (S95)) (a1 : Int) (r : Int) (w : World) (bU : Kd.C k95 w aY aA.length aA) (bV : aA.length ≤ aQ) (h : spec_l3Find.f k aE aA a1 = some r) :
 Calls Try.prog 134 #[.agg #[.int .i64 aE, .slice aY aA.length aQ], .int .i64 a1] w fun e w' => e = .returned (.int .i64 r) ∧ Below w.heap.size w w' := by
 have eF := Try.underlying26
 have aK := aM bU
 have aX := aM bV
 clear bU bV
 have HB := aM (Below.refl w.heap.size w)
 have H : (spec_l3Find.l0 k a1 0 aE aA) = some r := h
 clear h
 have H' := aM H
 clear H
 go_enter Try.func134, Try.ntmps134
 go_wp2_with (first | ((with_reducible refine gD 2 rfl ?_); refine boxE (N := 2) rfl (cs := #[.int .i64 aE, .slice aY aA.length aQ]) (t := 26) ?_; intro eM hg w3 hbox hb; have cM := aM (hbox); have gB := aM (xge hg); have gE := aM (xge hg); replace HB := xbs hb; clear hb hbox hg))
 go_loopg [5] k (fun kq v5 w' => ∃ (aZ : Int), v5 = .int .i64 aZ ∧ Aside0 (spec_l3Find.l0 kq a1 aZ aE aA = some r) ∧ Aside0 (kq ≤ k) ∧ Aside0 (w'.heap[eM]? = some (.cells #[.int .i64 aE, (.slice aY aA.length aQ)] 26 (0, 0))) ∧ Aside0 (Below w.heap.size w w'))
 case atStart => exact ⟨(0), u2_0, H', ⟨Nat.le_refl _⟩, ⟨xblk⟩, ⟨xbg⟩⟩
 case round =>
  clear H'; try clear c1
  try clear p2
  obtain ⟨aZ, rfl, HA, HK1, cM, HB⟩ := hrel; cases gk with
  | zero => exact absurd HA.out (by simp [spec_l3Find.l0])
  | succ k1 =>
   have H := HA.out; clear HA; simp only [spec_l3Find.l0] at H; by_cases c4 : aZ < (aA.length : Int)
   ·rw [if_pos c4] at H; have fF : decide (aZ < (aA.length : Int)) = true := decide_eq_true c4; clear c4; by_cases c5 : 0 ≤ aZ
    ·rw [if_pos c5] at H; have gL : decide (0 ≤ aZ) = true := decide_eq_true c5; clear c5; by_cases c6 : ((rd_T95 aA aZ).f0) = a1
     ·rw [if_pos c6] at H; obtain ⟨bX, cP⟩ := bT c6; clear c6; obtain rfl := Option.some.inj H; obtain ⟨fG, fH, fI, fJ⟩ := xf2 (w := wr) cM; have p135 : 0 ≤ (aZ : Int) := oda; have q135 : aZ < (aA.length : Int) := oda; obtain ⟨eN, dZ, bJ, bK, bL⟩ := at_T95 aK.out aZ p135 q135; cases dZ
      replace bJ := xce HB bJ; replace bK := xce HB bK; replace bL := xce HB bL; replace p135 := eq_true p135; replace q135 := eq_true q135; go_wp2; go_ret
      exact ⟨xerr, xbg⟩
     ·rw [if_neg c6] at H; obtain ⟨bX, cP⟩ := bF c6; have H' := aM H; clear H; obtain ⟨cU, cV, cW, cX⟩ := xf2 (w := wr) cM; have p135 : 0 ≤ (aZ : Int) := oda; have q135 : aZ < (aA.length : Int) := oda; obtain ⟨eN, dZ, bJ, bK, bL⟩ := at_T95 aK.out aZ p135 q135; cases dZ
      replace bJ := xce HB bJ; replace bK := xce HB bK; replace bL := xce HB bL; replace p135 := eq_true p135; replace q135 := eq_true q135; go_wp2; go_roundg k1
      case measure => have := HK1.out; omega
      case rel => exact ⟨(wrap64 (aZ + 1)), u2_0, H', ⟨by have := HK1.out; omega⟩, ⟨xblk⟩, ⟨xbg⟩⟩
    ·rw [if_neg c5] at H; exact absurd H (by simp)
   ·rw [if_neg c4] at H; have fF : decide (aZ < (aA.length : Int)) = false := decide_eq_false c4; clear c4; obtain rfl := Option.some.inj H; obtain ⟨fK, fL, fM, fN⟩ := xf2 (w := wr) cM; go_wp2; go_ret
    exact ⟨xerr, xbg⟩

/-! ### spec_DiskRead: function 130 -/
def spec_DiskRead.f (k : Nat) (aE : Int) (aA : List (S95)) (a1 : Int) : Option (ByteArray × Bool) := (spec_l3Find.f k aE aA a1).bind fun aJ => ((spec_DiskOk.f k aE aA).bind fun cY => (if cY = true then (if aJ < 0 then (some ((⟨#[]⟩ : ByteArray), false)) else (if 0 ≤ aJ then (if aJ < (aA.length : Int) then (if ((rd_T95 aA aJ).f1).size + ((rd_T95 aA aJ).f2).size ≤ 9223372036854775807 then (some (((rd_T95 aA aJ).f1) ++ ((rd_T95 aA aJ).f2), true)) else (none)) else (none)) else (none))) else (some ((⟨#[]⟩ : ByteArray), false))))
theorem u2_mq2 {p : Prop} (h : p := by repeat' first | (with_reducible first | exact spec_DiskOk.mono _ _ _ | exact spec_l3Find.mono _ _ _ _ | exact LeO.refl _ | exact LeO.none _ | refine LeO.ite ?_ ?_ | refine LeO.bind ?_ (fun _ => ?_)) | exact LeO.none _ | refine LeO.ite ?_ ?_ | refine LeO.bind ?_ (fun _ => ?_)) : p := h
theorem spec_DiskRead.mono : ∀ a0 a1 a2 k, LeO (spec_DiskRead.f k a0 a1 a2) (spec_DiskRead.f (k + 1) a0 a1 a2) := by
 intro a0 a1 a2 k
 unfold spec_DiskRead.f
 exact u2_mq2
set_option maxHeartbeats 8000000 in
set_option maxRecDepth 100000 in
theorem spec_DiskRead.calls (k : Nat) (aE : Int) (aY : Option Addr) (aQ : Nat) (aA : List (S95)) (a1 : Int) (r1 : ByteArray) (r2 : Bool) (w : World) (bU : Kd.C k95 w aY aA.length aA) (bV : aA.length ≤ aQ) (h : spec_DiskRead.f k aE aA a1 = some (r1, r2)) :
 Calls Try.prog 130 #[.agg #[.int .i64 aE, .slice aY aA.length aQ], .int .i64 a1] w fun e w' => e = .returned (.tuple #[.string r1, .bool r2]) ∧ Below w.heap.size w w' := by
 have eF := Try.underlying26
 have aK := aM bU
 have aX := aM bV
 clear bU bV
 have HB := aM (Below.refl w.heap.size w)
 have H : ((spec_l3Find.f k aE aA a1).bind fun aJ => ((spec_DiskOk.f k aE aA).bind fun cY => (if cY = true then (if aJ < 0 then (some ((⟨#[]⟩ : ByteArray), false)) else (if 0 ≤ aJ then (if aJ < (aA.length : Int) then (if ((rd_T95 aA aJ).f1).size + ((rd_T95 aA aJ).f2).size ≤ 9223372036854775807 then (some (((rd_T95 aA aJ).f1) ++ ((rd_T95 aA aJ).f2), true)) else (none)) else (none)) else (none))) else (some ((⟨#[]⟩ : ByteArray), false))))) = some (r1, r2) := h
 clear h
 replace H := oB H
 obtain ⟨aJ, gF, H⟩ := H
 (try dsimp only at H)
 have A3 := aM gF
 clear gF
 replace H := oB H
 obtain ⟨cY, eG, H⟩ := H
 (try dsimp only at H)
 have A4 := aM eG
 clear eG
 by_cases c5 : cY = true
 ·subst c5; replace H := iT H; by_cases c6 : aJ < 0
  ·rw [if_pos c6] at H; have bX : decide (aJ < 0) = true := decide_eq_true c6; clear c6; simp only [Option.some.injEq, Prod.mk.injEq] at H; obtain ⟨rfl, rfl⟩ := H; go_enter Try.func130, Try.ntmps130
   iterate 6 ((try go_quiet (first | ((with_reducible refine gD 2 rfl ?_); refine boxE (N := 2) rfl (cs := #[.int .i64 aE, .slice aY aA.length aQ]) (t := 26) ?_; intro bZ hg w7 hbox hb; have aF := aM (hbox); have cA := aM (xge hg); have cB := aM (xge hg); replace HB := xbs hb; clear hb hbox hg; obtain ⟨cU, cV, cW, cX⟩ := xf2 (w := w7) aF) | (go_at_call 134; (with_reducible refine (spec_l3Find.calls k aE _ _ aA a1 aJ _ ?side1 ?side2 A3.out).mono ?_); (case side1 => exact xcb aK); (case side2 => exact aX.out); rintro e w9 ⟨rfl, hb⟩; replace aF := xbb aF hb; replace HB := xbs hb; (try clear hb); obtain ⟨dE, dF, dG, dH⟩ := xf2 (w := w9) aF) | (go_at_call 132; (with_reducible refine (spec_DiskOk.calls k aE _ _ aA true _ ?side1 ?side2 A4.out).mono ?_); (case side1 => exact xcb aK); (case side2 => exact aX.out); rintro e fW ⟨rfl, hb⟩; replace aF := xbb aF hb; replace HB := xbs hb; (try clear hb)))); (try go_wp2_with (first | ((with_reducible refine gD 2 rfl ?_); refine boxE (N := 2) rfl (cs := #[.int .i64 aE, .slice aY aA.length aQ]) (t := 26) ?_; intro bZ hg w7 hbox hb; have aF := aM (hbox); have cA := aM (xge hg); have cB := aM (xge hg); replace HB := xbs hb; clear hb hbox hg; obtain ⟨cU, cV, cW, cX⟩ := xf2 (w := w7) aF) | (go_at_call 134; (with_reducible refine (spec_l3Find.calls k aE _ _ aA a1 aJ _ ?side1 ?side2 A3.out).mono ?_); (case side1 => exact xcb aK); (case side2 => exact aX.out); rintro e w9 ⟨rfl, hb⟩; replace aF := xbb aF hb; replace HB := xbs hb; (try clear hb); obtain ⟨dE, dF, dG, dH⟩ := xf2 (w := w9) aF) | (go_at_call 132; (with_reducible refine (spec_DiskOk.calls k aE _ _ aA true _ ?side1 ?side2 A4.out).mono ?_); (case side1 => exact xcb aK); (case side2 => exact aX.out); rintro e fW ⟨rfl, hb⟩; replace aF := xbb aF hb; replace HB := xbs hb; (try clear hb)))))
   go_ret2
   exact ⟨xerr, xbg⟩
  ·rw [if_neg c6] at H; have bX : decide (aJ < 0) = false := decide_eq_false c6; clear c6; by_cases dB : 0 ≤ aJ
   ·rw [if_pos dB] at H; have gG : decide (0 ≤ aJ) = true := decide_eq_true dB; clear dB; by_cases cQ : aJ < (aA.length : Int)
    ·rw [if_pos cQ] at H; have dV : decide (aJ < (aA.length : Int)) = true := decide_eq_true cQ; clear cQ; by_cases dC : ((rd_T95 aA aJ).f1).size + ((rd_T95 aA aJ).f2).size ≤ 9223372036854775807
     ·rw [if_pos dC] at H; have eH := eq_true dC; have gH : decide (((rd_T95 aA aJ).f1).size + ((rd_T95 aA aJ).f2).size ≤ 9223372036854775807) = true := decide_eq_true dC; try have gI : (9223372036854775807 < ((rd_T95 aA aJ).f1).size + ((rd_T95 aA aJ).f2).size) = False := eq_false (Nat.not_lt.2 dC)
      simp only [Option.some.injEq, Prod.mk.injEq] at H; obtain ⟨rfl, rfl⟩ := H; go_enter Try.func130, Try.ntmps130
      iterate 6 ((try go_quiet (first | ((with_reducible refine gD 2 rfl ?_); refine boxE (N := 2) rfl (cs := #[.int .i64 aE, .slice aY aA.length aQ]) (t := 26) ?_; intro bZ hg fO hbox hb; have aF := aM (hbox); have cA := aM (xge hg); have cB := aM (xge hg); replace HB := xbs hb; clear hb hbox hg; obtain ⟨dI, dJ, dK, dL⟩ := xf2 (w := fO) aF) | (go_at_call 134; (with_reducible refine (spec_l3Find.calls k aE _ _ aA a1 aJ _ ?side1 ?side2 A3.out).mono ?_); (case side1 => exact xcb aK); (case side2 => exact aX.out); rintro e fP ⟨rfl, hb⟩; replace aF := xbb aF hb; replace HB := xbs hb; (try clear hb); obtain ⟨dM, dN, dO, dP⟩ := xf2 (w := fP) aF) | (go_at_call 132; (with_reducible refine (spec_DiskOk.calls k aE _ _ aA true _ ?side1 ?side2 A4.out).mono ?_); (case side1 => exact xcb aK); (case side2 => exact aX.out); rintro e fQ ⟨rfl, hb⟩; replace aF := xbb aF hb; replace HB := xbs hb; (try clear hb); obtain ⟨dQ, dR, dS, dU⟩ := xf2 (w := fQ) aF; have p139 : 0 ≤ (aJ : Int) := oda; have q139 : aJ < (aA.length : Int) := oda; obtain ⟨cZ, eA, bM, bN, bO⟩ := at_T95 aK.out aJ p139 q139; cases eA; replace bM := xce HB bM; replace bN := xce HB bN; replace bO := xce HB bO; replace p139 := eq_true p139; replace q139 := eq_true q139; have p140 : 0 ≤ (aJ : Int) := oda; have q140 : aJ < (aA.length : Int) := oda; obtain ⟨dA, eB, bP, bQ, bR⟩ := at_T95 aK.out aJ p140 q140; obtain rfl : cZ = dA := (by injection eB); replace bP := xce HB bP; replace bQ := xce HB bQ; replace bR := xce HB bR; replace p140 := eq_true p140; replace q140 := eq_true q140))); (try go_wp2_with (first | ((with_reducible refine gD 2 rfl ?_); refine boxE (N := 2) rfl (cs := #[.int .i64 aE, .slice aY aA.length aQ]) (t := 26) ?_; intro bZ hg fO hbox hb; have aF := aM (hbox); have cA := aM (xge hg); have cB := aM (xge hg); replace HB := xbs hb; clear hb hbox hg; obtain ⟨dI, dJ, dK, dL⟩ := xf2 (w := fO) aF) | (go_at_call 134; (with_reducible refine (spec_l3Find.calls k aE _ _ aA a1 aJ _ ?side1 ?side2 A3.out).mono ?_); (case side1 => exact xcb aK); (case side2 => exact aX.out); rintro e fP ⟨rfl, hb⟩; replace aF := xbb aF hb; replace HB := xbs hb; (try clear hb); obtain ⟨dM, dN, dO, dP⟩ := xf2 (w := fP) aF) | (go_at_call 132; (with_reducible refine (spec_DiskOk.calls k aE _ _ aA true _ ?side1 ?side2 A4.out).mono ?_); (case side1 => exact xcb aK); (case side2 => exact aX.out); rintro e fQ ⟨rfl, hb⟩; replace aF := xbb aF hb; replace HB := xbs hb; (try clear hb); obtain ⟨dQ, dR, dS, dU⟩ := xf2 (w := fQ) aF; have p139 : 0 ≤ (aJ : Int) := oda; have q139 : aJ < (aA.length : Int) := oda; obtain ⟨cZ, eA, bM, bN, bO⟩ := at_T95 aK.out aJ p139 q139; cases eA; replace bM := xce HB bM; replace bN := xce HB bN; replace bO := xce HB bO; replace p139 := eq_true p139; replace q139 := eq_true q139; have p140 : 0 ≤ (aJ : Int) := oda; have q140 : aJ < (aA.length : Int) := oda; obtain ⟨dA, eB, bP, bQ, bR⟩ := at_T95 aK.out aJ p140 q140; obtain rfl : cZ = dA := (by injection eB); replace bP := xce HB bP; replace bQ := xce HB bQ; replace bR := xce HB bR; replace p140 := eq_true p140; replace q140 := eq_true q140))))
      go_ret2
      exact ⟨xerr, xbg⟩
     ·rw [if_neg dC] at H; exact absurd H (by simp)
    ·rw [if_neg cQ] at H; exact absurd H (by simp)
   ·rw [if_neg dB] at H; exact absurd H (by simp)
 ·replace c5 := Bool.eq_false_iff.mpr c5; subst c5; replace H := iN H; simp only [Option.some.injEq, Prod.mk.injEq] at H; obtain ⟨rfl, rfl⟩ := H; go_enter Try.func130, Try.ntmps130
  iterate 6 ((try go_quiet (first | ((with_reducible refine gD 2 rfl ?_); refine boxE (N := 2) rfl (cs := #[.int .i64 aE, .slice aY aA.length aQ]) (t := 26) ?_; intro bZ hg fR hbox hb; have aF := aM (hbox); have cA := aM (xge hg); have cB := aM (xge hg); replace HB := xbs hb; clear hb hbox hg; obtain ⟨cE, cF, cG, cH⟩ := xf2 (w := fR) aF) | (go_at_call 134; (with_reducible refine (spec_l3Find.calls k aE _ _ aA a1 aJ _ ?side1 ?side2 A3.out).mono ?_); (case side1 => exact xcb aK); (case side2 => exact aX.out); rintro e eR ⟨rfl, hb⟩; replace aF := xbb aF hb; replace HB := xbs hb; (try clear hb); obtain ⟨cI, cJ, cK, cL⟩ := xf2 (w := eR) aF) | (go_at_call 132; (with_reducible refine (spec_DiskOk.calls k aE _ _ aA false _ ?side1 ?side2 A4.out).mono ?_); (case side1 => exact xcb aK); (case side2 => exact aX.out); rintro e gA ⟨rfl, hb⟩; replace aF := xbb aF hb; replace HB := xbs hb; (try clear hb)))); (try go_wp2_with (first | ((with_reducible refine gD 2 rfl ?_); refine boxE (N := 2) rfl (cs := #[.int .i64 aE, .slice aY aA.length aQ]) (t := 26) ?_; intro bZ hg fR hbox hb; have aF := aM (hbox); have cA := aM (xge hg); have cB := aM (xge hg); replace HB := xbs hb; clear hb hbox hg; obtain ⟨cE, cF, cG, cH⟩ := xf2 (w := fR) aF) | (go_at_call 134; (with_reducible refine (spec_l3Find.calls k aE _ _ aA a1 aJ _ ?side1 ?side2 A3.out).mono ?_); (case side1 => exact xcb aK); (case side2 => exact aX.out); rintro e eR ⟨rfl, hb⟩; replace aF := xbb aF hb; replace HB := xbs hb; (try clear hb); obtain ⟨cI, cJ, cK, cL⟩ := xf2 (w := eR) aF) | (go_at_call 132; (with_reducible refine (spec_DiskOk.calls k aE _ _ aA false _ ?side1 ?side2 A4.out).mono ?_); (case side1 => exact xcb aK); (case side2 => exact aX.out); rintro e gA ⟨rfl, hb⟩; replace aF := xbb aF hb; replace HB := xbs hb; (try clear hb)))))
  go_ret2
  exact ⟨xerr, xbg⟩

theorem u3_0 {p : Prop} (h : p := by first | rfl | (simp; done) | (simp [*]; done)) : p := h
theorem u3_1 {p : Prop} (h : p := by repeat (first | exact Drawn0.refl _ | apply Drawn0.step)) : p := h
theorem u3_2 {p : Prop} (h : p := by first | (go_simp; done) | (go_simp; rfl)) : p := h
theorem u3_3 {p : Prop} (h : p := by first | (rw [hY]; with_reducible exact H) | (have H2_ := oS H; rw [hY]; with_reducible exact H2_) | (have H2_ := oS H; with_reducible exact H2_) | with_reducible exact H | (rw [hY]; exact H) | exact H) : p := h
theorem u3_4 {p : Prop} (h : p := by first | omega | exact oda) : p := h
theorem u3_5 {p : Prop} (h : p := by first | omega | exact Nat.le_refl _) : p := h
theorem u3_6 {p : Prop} (h : p := by first | rfl | (simp; done) | (simp only [← hji9] <;> (first | rfl | simp)) | (simp [*]; done)) : p := h
theorem u3_7 {p : Prop} (h : p := by first | (rw [← show ((l0.take ((ji16) : Int).toNat).drop (aA : Int).toNat).length = ((ji16).toNat - aA.toNat) from (by rw [List.length_drop, List.length_take]; have h_ : ((ji16) : Int) ≤ (l0.length : Int) := oda; omega)]; exact xcb cE) | (exact xcb cE)) : p := h
theorem u3_8 {p : Prop} (h : p := by have := LMc15.out; have hlx_ := (show ((l0.take ((ji16) : Int).toNat).drop (aA : Int).toNat).length = ((ji16).toNat - aA.toNat) from (by rw [List.length_drop, List.length_take]; have h_ : ((ji16) : Int) ≤ (l0.length : Int) := oda; omega)); omega) : p := h
theorem u3_9 {p : Prop} (h : p := by have h_ := (show ((l0.take ((wrap64 ((ji16) + 4)) : Int).toNat).drop ((ji16) : Int).toNat).length = ((wrap64 ((ji16) + 4)).toNat - (ji16).toNat) from (by rw [List.length_drop, List.length_take]; have h_ : ((wrap64 ((ji16) + 4)) : Int) ≤ (l0.length : Int) := oda; omega)); have h2_ := of_eq_true q161; omega) : p := h
theorem u3_10 {p : Prop} (h : p := by have h_ := (show ((l0.take ((wrap64 ((ji16) + 4)) : Int).toNat).drop ((ji16) : Int).toNat).length = ((wrap64 ((ji16) + 4)).toNat - (ji16).toNat) from (by rw [List.length_drop, List.length_take]; have h_ : ((wrap64 ((ji16) + 4)) : Int) ≤ (l0.length : Int) := oda; omega)); have h2_ := of_eq_true qi161; omega) : p := h
theorem u3_11 {p : Prop} (h : p := by have h_ := (show ((l0.take ((wrap64 ((ji16) + 4)) : Int).toNat).drop ((ji16) : Int).toNat).length = ((wrap64 ((ji16) + 4)).toNat - (ji16).toNat) from (by rw [List.length_drop, List.length_take]; have h_ : ((wrap64 ((ji16) + 4)) : Int) ≤ (l0.length : Int) := oda; omega)); have h2_ := of_eq_true q162; omega) : p := h
theorem u3_12 {p : Prop} (h : p := by have h_ := (show ((l0.take ((wrap64 ((ji16) + 4)) : Int).toNat).drop ((ji16) : Int).toNat).length = ((wrap64 ((ji16) + 4)).toNat - (ji16).toNat) from (by rw [List.length_drop, List.length_take]; have h_ : ((wrap64 ((ji16) + 4)) : Int) ≤ (l0.length : Int) := oda; omega)); have h2_ := of_eq_true qi162; omega) : p := h
theorem u3_13 {p : Prop} (h : p := by have h_ := (show ((l0.take ((wrap64 ((ji16) + 4)) : Int).toNat).drop ((ji16) : Int).toNat).length = ((wrap64 ((ji16) + 4)).toNat - (ji16).toNat) from (by rw [List.length_drop, List.length_take]; have h_ : ((wrap64 ((ji16) + 4)) : Int) ≤ (l0.length : Int) := oda; omega)); have h2_ := of_eq_true q163; omega) : p := h
theorem u3_14 {p : Prop} (h : p := by have h_ := (show ((l0.take ((wrap64 ((ji16) + 4)) : Int).toNat).drop ((ji16) : Int).toNat).length = ((wrap64 ((ji16) + 4)).toNat - (ji16).toNat) from (by rw [List.length_drop, List.length_take]; have h_ : ((wrap64 ((ji16) + 4)) : Int) ≤ (l0.length : Int) := oda; omega)); have h2_ := of_eq_true qi163; omega) : p := h
theorem u3_15 {p : Prop} (h : p := by have h_ := (show ((l0.take ((wrap64 ((ji16) + 4)) : Int).toNat).drop ((ji16) : Int).toNat).length = ((wrap64 ((ji16) + 4)).toNat - (ji16).toNat) from (by rw [List.length_drop, List.length_take]; have h_ : ((wrap64 ((ji16) + 4)) : Int) ≤ (l0.length : Int) := oda; omega)); have h2_ := of_eq_true q164; omega) : p := h
theorem u3_16 {p : Prop} (h : p := by have h_ := (show ((l0.take ((wrap64 ((ji16) + 4)) : Int).toNat).drop ((ji16) : Int).toNat).length = ((wrap64 ((ji16) + 4)).toNat - (ji16).toNat) from (by rw [List.length_drop, List.length_take]; have h_ : ((wrap64 ((ji16) + 4)) : Int) ≤ (l0.length : Int) := oda; omega)); have h2_ := of_eq_true qi164; omega) : p := h
theorem u3_17 {p : Prop} (h : p := by (with_reducible repeat (first | apply Kd.R_alloc | apply Kd.R_drewN | apply Kd.R_drew)); exact bL.out) : p := h
theorem u3_18 {p : Prop} (h : p := by (with_reducible repeat (first | apply Kd.V_alloc | apply Kd.V_drewN | apply Kd.V_drew)); exact bA.out) : p := h
theorem u3_19 {p : Prop} (h : p := by first | rfl | (simp [errW_none, errW_some] <;> rfl) | (simp only [← hji16]; first | rfl | (simp [errW_none, errW_some] <;> rfl)) | (simp [*, errW_none, errW_some] <;> rfl)) : p := h
theorem u3_20 {p : Prop} (h : p := by (with_reducible repeat (first | apply Kd.R_alloc | apply Kd.R_drewN | apply Kd.R_drew)); exact bB.out) : p := h
/-! ### spec_GetNum: function 172 -/
mutual
def spec_GetNum.j0 : Nat → List Int → Int → Bool → Option (Int × Int × Bool)
 | 0, _, _, _ => none
 | k + 1, x0, x1, jB => if jB = true then (some (0, 0, false)) else (spec_GetNum.l0 k x0 x1 0 1 0)
def spec_GetNum.l0 : Nat → List Int → Int → Int → Int → Int → Option (Int × Int × Bool)
 | 0, _, _, _, _, _ => none
 | k + 1, x0, x1, x7, x8, x9 => if x9 < 9 then (spec_GetNum.j2 k x0 x1 x7 x8 x9 (decide ((wrap64 (x1 + x9)) < (x0.length : Int)))) else (spec_GetNum.j2 k x0 x1 x7 x8 x9 false)
def spec_GetNum.j2 : Nat → List Int → Int → Int → Int → Int → Bool → Option (Int × Int × Bool)
 | 0, _, _, _, _, _, _ => none
 | k + 1, x0, x1, x7, x8, x9, jC => if jC = true then (if 0 ≤ (wrap64 (x1 + x9)) then (if (wrap64 (x1 + x9)) < (x0.length : Int) then (if (wrap64 (rd x0 (wrap64 (x1 + x9)))) < 128 then (if (wrap64 (rd x0 (wrap64 (x1 + x9)))) = 0 then (if x9 > 0 then (some (0, 0, false)) else (some (wrap64 (x7 + (wrap64 ((Int.tmod (wrap64 (rd x0 (wrap64 (x1 + x9)))) 128) * x8))), wrap64 ((wrap64 (x1 + x9)) + 1), true))) else (some (wrap64 (x7 + (wrap64 ((Int.tmod (wrap64 (rd x0 (wrap64 (x1 + x9)))) 128) * x8))), wrap64 ((wrap64 (x1 + x9)) + 1), true))) else (spec_GetNum.l0 k x0 x1 (wrap64 (x7 + (wrap64 ((Int.tmod (wrap64 (rd x0 (wrap64 (x1 + x9)))) 128) * x8)))) (wrap64 (x8 * 128)) (wrap64 (x9 + 1)))) else (none)) else (none)) else (some (0, 0, false))
end
def spec_GetNum.f (k : Nat) (l0 : List Int) (a1 : Int) : Option (Int × Int × Bool) := if a1 < 0 then (spec_GetNum.j0 k l0 a1 true) else (spec_GetNum.j0 k l0 a1 (decide (a1 ≥ (l0.length : Int))))
theorem u3_mq0 {p : Prop} (h : p := by repeat' first | (with_reducible first | exact dD _ _ _ | exact eT _ _ _ _ _ | exact iC _ _ _ _ _ _ | exact LeO.refl _ | exact LeO.none _ | refine LeO.ite ?_ ?_ | refine LeO.bind ?_ (fun _ => ?_)) | exact LeO.none _ | refine LeO.ite ?_ ?_ | refine LeO.bind ?_ (fun _ => ?_)) : p := h
set_option maxRecDepth 100000 in
theorem spec_GetNum.mono_l : ∀ k, (∀ y0 y1 y2, LeO (spec_GetNum.j0 k y0 y1 y2) (spec_GetNum.j0 (k + 1) y0 y1 y2)) ∧ (∀ y0 y1 y2 y3 y4, LeO (spec_GetNum.l0 k y0 y1 y2 y3 y4) (spec_GetNum.l0 (k + 1) y0 y1 y2 y3 y4)) ∧ (∀ y0 y1 y2 y3 y4 y5, LeO (spec_GetNum.j2 k y0 y1 y2 y3 y4 y5) (spec_GetNum.j2 (k + 1) y0 y1 y2 y3 y4 y5))
 | 0 => ⟨fun _ _ _ r h => by simp [spec_GetNum.j0] at h, fun _ _ _ _ _ r h => by simp [spec_GetNum.l0] at h, fun _ _ _ _ _ _ r h => by simp [spec_GetNum.j2] at h⟩
 | k + 1 => by
  obtain ⟨dD, eT, iC⟩ := spec_GetNum.mono_l k; refine ⟨?_, ?_, ?_⟩
  ·intro y0 y1 y2; unfold spec_GetNum.j0; exact u3_mq0
  ·intro y0 y1 y2 y3 y4; unfold spec_GetNum.l0; exact u3_mq0
  ·intro y0 y1 y2 y3 y4 y5; unfold spec_GetNum.j2; exact u3_mq0
theorem spec_GetNum.mono : ∀ a0 a1 k, LeO (spec_GetNum.f k a0 a1) (spec_GetNum.f (k + 1) a0 a1) := by
 intro a0 a1 k
 obtain ⟨dD, eT, iC⟩ := spec_GetNum.mono_l k
 unfold spec_GetNum.f
 exact u3_mq0
set_option maxHeartbeats 8000000 in
set_option maxRecDepth 100000 in
theorem spec_GetNum.calls (k : Nat) (A0 : Option Addr) (c0 : Nat) (l0 : List Int) (a1 : Int) (r1 : Int) (r2 : Int) (r3 : Bool) (w : World) (dZ : Kd.C (Kd.int .u8) w A0 l0.length l0) (eA : l0.length ≤ c0) (h : spec_GetNum.f k l0 a1 = some (r1, r2, r3)) :
 Calls Try.prog 172 #[.slice A0 l0.length c0, .int .i64 a1] w fun e w' => e = .returned (.tuple #[.int .i64 r1, .int .i64 r2, .bool r3]) ∧ Drawn0 w w' := by
 have cD := aM dZ
 have cZ := aM eA
 clear dZ eA
 have H : (if a1 < 0 then (spec_GetNum.j0 k l0 a1 true) else (spec_GetNum.j0 k l0 a1 (decide (a1 ≥ (l0.length : Int))))) = some (r1, r2, r3) := h
 clear h
 have gE := aM H
 clear H
 go_enter Try.func172, Try.ntmps172
 go_upto_region 1 with (fail)
 go_cut [18] (fun jD wc => ∃ (kq : Nat) (cQ : Bool), jD = .bool cQ ∧ Aside0 (spec_GetNum.j0 kq l0 a1 cQ = some (r1, r2, r3)) ∧ Aside0 (kq ≤ k) ∧ Drawn0 w wc)
 case first =>
  have H := gE.out; clear gE; by_cases c4 : a1 < 0
  ·rw [if_pos c4] at H; have cF : decide (a1 < 0) = true := decide_eq_true c4; clear c4; (first | rw [cF] | (simp only [i64_w, i32_w]; rw [cF]) | skip); have H' := aM H; clear H; go_wp2; go_meet
   case rel => exact ⟨_, (true), u3_0, H', ⟨u3_5⟩, u3_1⟩
  ·rw [if_neg c4] at H; have cF : decide (a1 < 0) = false := decide_eq_false c4; clear c4; (first | rw [cF] | (simp only [i64_w, i32_w]; rw [cF]) | skip); have H' := aM H; clear H; go_wp2; go_meet
   case rel => exact ⟨_, (decide (a1 ≥ (l0.length : Int))), u3_0, H', ⟨u3_5⟩, u3_1⟩
 case rest =>
  clear gE; try clear c1
  try clear p2
  try clear c4
  try clear cF
  obtain ⟨kq, cQ, rfl, HA, HJ2, ⟨mc2, rfl⟩⟩ := hcut; cases kq with
  | zero => exact absurd HA.out (by simp [spec_GetNum.j0])
  | succ iD =>
   have H := HA.out; clear HA; simp only [spec_GetNum.j0] at H; by_cases c5 : cQ = true
   ·subst c5; replace H := iT H; simp only [Option.some.injEq, Prod.mk.injEq] at H; obtain ⟨rfl, rfl, rfl⟩ := H; go_wp2; go_ret3
    exact ⟨u3_0, u3_1⟩
   ·replace c5 := Bool.eq_false_iff.mpr c5; subst c5; replace H := iN H; have H' := aM H; clear H; go_wp2; go_loopg [7, 8, 9] iD (fun kq v7 v8 v9 w' => ∃ (cG : Int) (bV : Int) (aX : Int), v7 = .int .i64 cG ∧ v8 = .int .i64 bV ∧ v9 = .int .i64 aX ∧ Aside0 (spec_GetNum.l0 kq l0 a1 cG bV aX = some (r1, r2, r3)) ∧ Aside0 (kq ≤ iD) ∧ Drawn0 w w')
    case atStart => exact ⟨(0), (1), (0), u3_0, u3_0, u3_0, H', ⟨Nat.le_refl _⟩, u3_1⟩
    case round =>
     clear H'; try clear c1
     try clear c2
     try clear p2
     try clear c4
     try clear cF
     try clear c5
     try clear p2
     obtain ⟨cG, bV, aX, rfl, rfl, rfl, HA, HK2, ⟨m2, rfl⟩⟩ := hrel; cases gk with
     | zero => exact absurd HA.out (by simp [spec_GetNum.l0])
     | succ k2 =>
      have H := HA.out; clear HA; simp only [spec_GetNum.l0] at H; have gF := aM H; clear H; go_upto_region 6 with (fail)
      go_cut [28] (fun jE wc => ∃ (kq : Nat) (cS : Bool), jE = .bool cS ∧ Aside0 (spec_GetNum.j2 kq l0 a1 cG bV aX cS = some (r1, r2, r3)) ∧ Aside0 (kq ≤ k2) ∧ Drawn0 w wc)
      case first =>
       have H := gF.out; clear gF; by_cases c7 : aX < 9
       ·rw [if_pos c7] at H; have dA : decide (aX < 9) = true := decide_eq_true c7; clear c7; (first | rw [dA] | (simp only [i64_w, i32_w]; rw [dA]) | skip); have H' := aM H; clear H; go_wp2; go_meet
        case rel => exact ⟨_, (decide ((wrap64 (a1 + aX)) < (l0.length : Int))), u3_0, H', ⟨by have := HJ2.out; have := HK2.out; first | omega | exact Nat.le_refl _⟩, u3_1⟩
       ·rw [if_neg c7] at H; have dA : decide (aX < 9) = false := decide_eq_false c7; clear c7; (first | rw [dA] | (simp only [i64_w, i32_w]; rw [dA]) | skip); have H' := aM H; clear H; go_wp2; go_meet
        case rel => exact ⟨_, (false), u3_0, H', ⟨by have := HJ2.out; have := HK2.out; first | omega | exact Nat.le_refl _⟩, u3_1⟩
      case rest =>
       clear gF; try clear c1
       try clear c2
       try clear p2
       try clear c4
       try clear cF
       try clear c5
       try clear p6
       try clear c7
       try clear dA
       try clear p2
       obtain ⟨kq, cS, rfl, HA, HJ5, ⟨mc5, rfl⟩⟩ := hcut; cases kq with
       | zero => exact absurd HA.out (by simp [spec_GetNum.j2])
       | succ iE =>
        have H := HA.out; clear HA; simp only [spec_GetNum.j2] at H; by_cases c8 : cS = true
        ·subst c8; replace H := iT H; obtain ⟨ji9, hji9⟩ : ∃ j_ : Int, (wrap64 (a1 + aX)) = j_ := ⟨_, rfl⟩; replace H : (if 0 ≤ (ji9) then (if (ji9) < (l0.length : Int) then (if (wrap64 (rd l0 (ji9))) < 128 then (if (wrap64 (rd l0 (ji9))) = 0 then (if aX > 0 then (some (0, 0, false)) else (some (wrap64 (cG + (wrap64 ((Int.tmod (wrap64 (rd l0 (ji9))) 128) * bV))), wrap64 ((ji9) + 1), true))) else (some (wrap64 (cG + (wrap64 ((Int.tmod (wrap64 (rd l0 (ji9))) 128) * bV))), wrap64 ((ji9) + 1), true))) else (spec_GetNum.l0 iE l0 a1 (wrap64 (cG + (wrap64 ((Int.tmod (wrap64 (rd l0 (ji9))) 128) * bV)))) (wrap64 (bV * 128)) (wrap64 (aX + 1)))) else (none)) else (none)) = some (r1, r2, r3) := by first | (rw [hji9] at H; exact H) | (simp only [hji9] at H ⊢; exact H)
         have hji9w : (IntKind.i64.wrap (a1 + aX)) = ji9 := (i64_w _).trans hji9; by_cases c10 : 0 ≤ (ji9)
         ·rw [if_pos c10] at H; have iF : decide (0 ≤ (ji9)) = true := decide_eq_true c10; clear c10; by_cases fQ : (ji9) < (l0.length : Int)
          ·rw [if_pos fQ] at H; have iG : decide ((ji9) < (l0.length : Int)) = true := decide_eq_true fQ; clear fQ; by_cases dB : (wrap64 (rd l0 (ji9))) < 128
           ·rw [if_pos dB] at H; have eB : decide ((wrap64 (rd l0 (ji9))) < 128) = true := decide_eq_true dB; clear dB; by_cases dC : (wrap64 (rd l0 (ji9))) = 0
            ·rw [if_pos dC] at H; obtain ⟨dE, dF⟩ := bT dC; clear dC; by_cases bZ : aX > 0
             ·rw [if_pos bZ] at H; have aZ : decide (0 < aX) = true := decide_eq_true bZ; clear bZ; simp only [Option.some.injEq, Prod.mk.injEq] at H; obtain ⟨rfl, rfl, rfl⟩ := H; have p141 : 0 ≤ ((ji9) : Int) := oda; have q141 : (ji9) < (l0.length : Int) := oda; obtain ⟨dG, cJ, cA⟩ := Kd.at_int cD.out (ji9) p141 q141; cases cJ
              replace p141 := eq_true p141; replace q141 := eq_true q141; go_wp2; go_ret3
              exact ⟨u3_6, u3_1⟩
             ·rw [if_neg bZ] at H; have aZ : decide (0 < aX) = false := decide_eq_false bZ; clear bZ; simp only [Option.some.injEq, Prod.mk.injEq] at H; obtain ⟨rfl, rfl, rfl⟩ := H; have p141 : 0 ≤ ((ji9) : Int) := oda; have q141 : (ji9) < (l0.length : Int) := oda; obtain ⟨dG, cJ, cA⟩ := Kd.at_int cD.out (ji9) p141 q141; cases cJ
              replace p141 := eq_true p141; replace q141 := eq_true q141; go_wp2; go_ret3
              exact ⟨u3_6, u3_1⟩
            ·rw [if_neg dC] at H; obtain ⟨dE, dF⟩ := bF dC; simp only [Option.some.injEq, Prod.mk.injEq] at H; obtain ⟨rfl, rfl, rfl⟩ := H; have p141 : 0 ≤ ((ji9) : Int) := oda; have q141 : (ji9) < (l0.length : Int) := oda; obtain ⟨dG, cJ, cA⟩ := Kd.at_int cD.out (ji9) p141 q141; cases cJ
             replace p141 := eq_true p141; replace q141 := eq_true q141; go_wp2; go_ret3
             exact ⟨u3_6, u3_1⟩
           ·rw [if_neg dB] at H; have eB : decide ((wrap64 (rd l0 (ji9))) < 128) = false := decide_eq_false dB; clear dB; have H' := aM H; clear H; have p141 : 0 ≤ ((ji9) : Int) := oda; have q141 : (ji9) < (l0.length : Int) := oda; obtain ⟨dG, cJ, cA⟩ := Kd.at_int cD.out (ji9) p141 q141; cases cJ
            replace p141 := eq_true p141; replace q141 := eq_true q141; go_wp2; go_roundg iE
            case measure => have := HJ2.out; have := HK2.out; have := HJ5.out; omega
            case rel => exact ⟨(wrap64 (cG + (wrap64 ((Int.tmod (wrap64 (rd l0 (ji9))) 128) * bV)))), (wrap64 (bV * 128)), (wrap64 (aX + 1)), u3_6, u3_0, u3_0, H', ⟨by have := HJ2.out; have := HK2.out; have := HJ5.out; omega⟩, u3_1⟩
          ·rw [if_neg fQ] at H; exact absurd H (by simp)
         ·rw [if_neg c10] at H; exact absurd H (by simp)
        ·replace c8 := Bool.eq_false_iff.mpr c8; subst c8; replace H := iN H; simp only [Option.some.injEq, Prod.mk.injEq] at H; obtain ⟨rfl, rfl, rfl⟩ := H; go_wp2; go_ret3
         exact ⟨u3_0, u3_1⟩

/-! ### spec_Sum: function 173 -/
def spec_Sum.l0 : Nat → List Int → Int → Int → Int → Option (Int)
 | 0, _, _, _, _ => none
 | k + 1, x0, x3, x4, x5 => if x5 < (x0.length : Int) then (if 0 ≤ x5 then (spec_Sum.l0 k x0 (Int.tmod (wrap64 (x3 + (wrap64 (rd x0 x5)))) 65521) (Int.tmod (wrap64 (x4 + (Int.tmod (wrap64 (x3 + (wrap64 (rd x0 x5)))) 65521))) 65521) (wrap64 (x5 + 1))) else (none)) else (some (wrap64 ((wrap64 (65536 * x4)) + x3)))
def spec_Sum.f (k : Nat) (l0 : List Int) : Option (Int) := spec_Sum.l0 k l0 1 0 0
theorem u3_mq1 {p : Prop} (h : p := by repeat' first | (with_reducible first | exact dD _ _ _ _ | exact LeO.refl _ | exact LeO.none _ | refine LeO.ite ?_ ?_ | refine LeO.bind ?_ (fun _ => ?_)) | exact LeO.none _ | refine LeO.ite ?_ ?_ | refine LeO.bind ?_ (fun _ => ?_)) : p := h
set_option maxRecDepth 100000 in
theorem spec_Sum.mono_l : ∀ k, (∀ y0 y1 y2 y3, LeO (spec_Sum.l0 k y0 y1 y2 y3) (spec_Sum.l0 (k + 1) y0 y1 y2 y3))
 | 0 => fun _ _ _ _ r h => by simp [spec_Sum.l0] at h
 | k + 1 => by
  have dD := spec_Sum.mono_l k
  ·intro y0 y1 y2 y3; unfold spec_Sum.l0; exact u3_mq1
theorem spec_Sum.mono : ∀ a0 k, LeO (spec_Sum.f k a0) (spec_Sum.f (k + 1) a0) := by
 intro a0 k
 have dD := spec_Sum.mono_l k
 unfold spec_Sum.f
 exact u3_mq1
set_option maxHeartbeats 8000000 in
set_option maxRecDepth 100000 in
theorem spec_Sum.calls (k : Nat) (A0 : Option Addr) (c0 : Nat) (l0 : List Int) (r : Int) (w : World) (dZ : Kd.C (Kd.int .u8) w A0 l0.length l0) (eA : l0.length ≤ c0) (h : spec_Sum.f k l0 = some r) :
 Calls Try.prog 173 #[.slice A0 l0.length c0] w fun e w' => e = .returned (.int .i64 r) ∧ Drawn0 w w' := by
 have cD := aM dZ
 have cZ := aM eA
 clear dZ eA
 have H : (spec_Sum.l0 k l0 1 0 0) = some r := h
 clear h
 have H' := aM H
 clear H
 go_enter Try.func173, Try.ntmps173
 go_wp2
 go_loopg [3, 4, 5] k (fun kq v3 v4 v5 w' => ∃ (dH : Int) (dS : Int) (bC : Int), v3 = .int .i64 dH ∧ v4 = .int .i64 dS ∧ v5 = .int .i64 bC ∧ Aside0 (spec_Sum.l0 kq l0 dH dS bC = some r) ∧ Aside0 (kq ≤ k) ∧ Drawn0 w w')
 case atStart => exact ⟨(1), (0), (0), u3_0, u3_0, u3_0, H', ⟨Nat.le_refl _⟩, u3_1⟩
 case round =>
  clear H'; try clear c1
  obtain ⟨dH, dS, bC, rfl, rfl, rfl, HA, HK1, ⟨m1, rfl⟩⟩ := hrel; cases gk with
  | zero => exact absurd HA.out (by simp [spec_Sum.l0])
  | succ k1 =>
   have H := HA.out; clear HA; simp only [spec_Sum.l0] at H; by_cases c2 : bC < (l0.length : Int)
   ·rw [if_pos c2] at H; have gG : decide (bC < (l0.length : Int)) = true := decide_eq_true c2; clear c2; by_cases c3 : 0 ≤ bC
    ·rw [if_pos c3] at H; have jF : decide (0 ≤ bC) = true := decide_eq_true c3; clear c3; have H' := aM H; clear H; have p142 : 0 ≤ (bC : Int) := oda; have q142 : bC < (l0.length : Int) := oda; obtain ⟨iH, gH, fR⟩ := Kd.at_int cD.out bC p142 q142; cases gH
     replace p142 := eq_true p142; replace q142 := eq_true q142; go_wp2; go_roundg k1
     case measure => have := HK1.out; omega
     case rel => exact ⟨(Int.tmod (wrap64 (dH + (wrap64 (rd l0 bC)))) 65521), (Int.tmod (wrap64 (dS + (Int.tmod (wrap64 (dH + (wrap64 (rd l0 bC)))) 65521))) 65521), (wrap64 (bC + 1)), u3_0, u3_0, u3_0, H', ⟨by have := HK1.out; omega⟩, u3_1⟩
    ·rw [if_neg c3] at H; exact absurd H (by simp)
   ·rw [if_neg c2] at H; have gG : decide (bC < (l0.length : Int)) = false := decide_eq_false c2; clear c2; obtain rfl := Option.some.inj H; go_wp2; go_ret
    exact ⟨u3_0, u3_1⟩

/-! ### spec_Unseal: function 131 -/
def spec_Unseal.j0 : Nat → List Int → Int → Int → Bool → Option (List Int × Int × Int)
 | 0, _, _, _, _ => none
 | k + 1, x0, x7, x8, jG => if jG = true then (some ((([] : List Int)), 0, 1)) else (if (wrap64 ((x0.length : Int) - x8)) < (wrap64 (x7 + 4)) then (some ((([] : List Int)), 0, 2)) else ((some (([] : List Int) : List Int)).bind fun bM => (if 0 ≤ x8 then (if x8 ≤ (wrap64 (x8 + x7)) then (if (wrap64 (x8 + x7)) ≤ (x0.length : Int) then (if bM.length + ((x0.take ((wrap64 (x8 + x7)) : Int).toNat).drop (x8 : Int).toNat).length < 140737488355328 then ((some (bM ++ ((x0.take ((wrap64 (x8 + x7)) : Int).toNat).drop (x8 : Int).toNat) : List Int)).bind fun bE => (if 0 ≤ (wrap64 (x8 + x7)) then (if (wrap64 (x8 + x7)) ≤ (wrap64 ((wrap64 (x8 + x7)) + 4)) then (if (wrap64 ((wrap64 (x8 + x7)) + 4)) ≤ (x0.length : Int) then ((spec_Sum.f k bE).bind fun bH => (if 0 < (((x0.take ((wrap64 ((wrap64 (x8 + x7)) + 4)) : Int).toNat).drop ((wrap64 (x8 + x7)) : Int).toNat).length : Int) then (if 1 < (((x0.take ((wrap64 ((wrap64 (x8 + x7)) + 4)) : Int).toNat).drop ((wrap64 (x8 + x7)) : Int).toNat).length : Int) then (if 2 < (((x0.take ((wrap64 ((wrap64 (x8 + x7)) + 4)) : Int).toNat).drop ((wrap64 (x8 + x7)) : Int).toNat).length : Int) then (if 3 < (((x0.take ((wrap64 ((wrap64 (x8 + x7)) + 4)) : Int).toNat).drop ((wrap64 (x8 + x7)) : Int).toNat).length : Int) then (if bH = (wrap64 ((wrap64 ((wrap64 ((wrap64 (rd ((x0.take ((wrap64 ((wrap64 (x8 + x7)) + 4)) : Int).toNat).drop ((wrap64 (x8 + x7)) : Int).toNat) 0)) + (wrap64 ((wrap64 (rd ((x0.take ((wrap64 ((wrap64 (x8 + x7)) + 4)) : Int).toNat).drop ((wrap64 (x8 + x7)) : Int).toNat) 1)) * 256)))) + (wrap64 ((wrap64 (rd ((x0.take ((wrap64 ((wrap64 (x8 + x7)) + 4)) : Int).toNat).drop ((wrap64 (x8 + x7)) : Int).toNat) 2)) * 65536)))) + (wrap64 ((wrap64 (rd ((x0.take ((wrap64 ((wrap64 (x8 + x7)) + 4)) : Int).toNat).drop ((wrap64 (x8 + x7)) : Int).toNat) 3)) * 16777216)))) then (some (bE, wrap64 ((wrap64 (x8 + x7)) + 4), 0)) else (some ((([] : List Int)), 0, 3))) else (none)) else (none)) else (none)) else (none))) else (none)) else (none)) else (none))) else (none)) else (none)) else (none)) else (none))))
def spec_Unseal.f (k : Nat) (l0 : List Int) (a1 : Int) : Option (List Int × Int × Int) := (spec_GetNum.f k l0 a1).bind fun aQ => (if aQ.2.2 = true then (spec_Unseal.j0 k l0 aQ.1 aQ.2.1 (decide (aQ.1 > 3000))) else (spec_Unseal.j0 k l0 aQ.1 aQ.2.1 true))
theorem u3_mq2 {p : Prop} (h : p := by repeat' first | (with_reducible first | exact dD _ _ _ _ | exact spec_GetNum.mono _ _ _ | exact spec_Sum.mono _ _ | exact LeO.refl _ | exact LeO.none _ | refine LeO.ite ?_ ?_ | refine LeO.bind ?_ (fun _ => ?_)) | exact LeO.none _ | refine LeO.ite ?_ ?_ | refine LeO.bind ?_ (fun _ => ?_)) : p := h
set_option maxRecDepth 100000 in
theorem spec_Unseal.mono_l : ∀ k, (∀ y0 y1 y2 y3, LeO (spec_Unseal.j0 k y0 y1 y2 y3) (spec_Unseal.j0 (k + 1) y0 y1 y2 y3))
 | 0 => fun _ _ _ _ r h => by simp [spec_Unseal.j0] at h
 | k + 1 => by
  have dD := spec_Unseal.mono_l k
  ·intro y0 y1 y2 y3; unfold spec_Unseal.j0; exact u3_mq2
theorem spec_Unseal.mono : ∀ a0 a1 k, LeO (spec_Unseal.f k a0 a1) (spec_Unseal.f (k + 1) a0 a1) := by
 intro a0 a1 k
 have dD := spec_Unseal.mono_l k
 unfold spec_Unseal.f
 exact u3_mq2
set_option maxHeartbeats 8000000 in
set_option maxRecDepth 100000 in
theorem spec_Unseal.calls (k : Nat) (A0 : Option Addr) (c0 : Nat) (l0 : List Int) (a1 : Int) (r1 : List Int) (r2 : Int) (r3 : Int) (w : World) (dZ : Kd.C (Kd.int .u8) w A0 l0.length l0) (eA : l0.length ≤ c0) (h : spec_Unseal.f k l0 a1 = some (r1, r2, r3)) :
 Calls Try.prog 131 #[.slice A0 l0.length c0, .int .i64 a1] w fun e w' => ∃ v0_ : Value, e = .returned (.tuple #[v0_, .int .i64 r2, .int .i64 r3]) ∧ Kd.R (Kd.int .u8) 5 w' w.heap.size (fun _ => True) v0_ r1 ∧ Below w.heap.size w w' := by
 have cD := aM dZ
 have cZ := aM eA
 clear dZ eA
 have HB := aM (Below.refl w.heap.size w)
 have H : ((spec_GetNum.f k l0 a1).bind fun aQ => (if aQ.2.2 = true then (spec_Unseal.j0 k l0 aQ.1 aQ.2.1 (decide (aQ.1 > 3000))) else (spec_Unseal.j0 k l0 aQ.1 aQ.2.1 true))) = some (r1, r2, r3) := h
 clear h
 replace H := oB H
 obtain ⟨⟨aC, aA, dU⟩, eK, H⟩ := H
 (try dsimp only at H)
 have A3 := aM eK
 clear eK
 have gI := aM H
 clear H
 go_enter Try.func131, Try.ntmps131
 go_upto_region 2 with (first | (go_at_call 172; (with_reducible refine (spec_GetNum.calls k _ _ l0 a1 aC aA dU _ ?side1 ?side2 A3.out).mono ?_); (case side1 => repeat (first | exact cD.out | (with_reducible refine Kd.C_alloc ?_ _) | (with_reducible refine Kd.C_drewN ?_ _) | (with_reducible refine Kd.C_drew ?_))); (case side2 => exact cZ.out); rintro e w' ⟨rfl, ⟨nd, rfl⟩⟩; (try first | exact ⟨rfl, _, World.drewN_drewN _ _ _⟩ | exact ⟨rfl, _, Eq.trans (World.drewN_drewN _ _ _) (congrArg (World.drewN _) (Nat.add_assoc _ _ _))⟩)))
 repeat (go_quiet (first | (go_at_call 172; (with_reducible refine (spec_GetNum.calls k _ _ l0 a1 aC aA dU _ ?side1 ?side2 A3.out).mono ?_); (case side1 => repeat (first | exact cD.out | (with_reducible refine Kd.C_alloc ?_ _) | (with_reducible refine Kd.C_drewN ?_ _) | (with_reducible refine Kd.C_drew ?_))); (case side2 => exact cZ.out); rintro e w' ⟨rfl, ⟨nd, rfl⟩⟩; (try first | exact ⟨rfl, _, World.drewN_drewN _ _ _⟩ | exact ⟨rfl, _, Eq.trans (World.drewN_drewN _ _ _) (congrArg (World.drewN _) (Nat.add_assoc _ _ _))⟩))); go_upto_region 2 with (first | (go_at_call 172; (with_reducible refine (spec_GetNum.calls k _ _ l0 a1 aC aA dU _ ?side1 ?side2 A3.out).mono ?_); (case side1 => repeat (first | exact cD.out | (with_reducible refine Kd.C_alloc ?_ _) | (with_reducible refine Kd.C_drewN ?_ _) | (with_reducible refine Kd.C_drew ?_))); (case side2 => exact cZ.out); rintro e w' ⟨rfl, ⟨nd, rfl⟩⟩; (try first | exact ⟨rfl, _, World.drewN_drewN _ _ _⟩ | exact ⟨rfl, _, Eq.trans (World.drewN_drewN _ _ _) (congrArg (World.drewN _) (Nat.add_assoc _ _ _))⟩))))
 (try simp only [Act.put, List.setIfInBounds_toArray, List.set_cons_zero, List.set_cons_succ])
 go_cut [24] (fun jH wc => ∃ (kq : Nat) (cT : Bool), jH = .bool cT ∧ Aside0 (spec_Unseal.j0 kq l0 aC aA cT = some (r1, r2, r3)) ∧ Aside0 (kq ≤ k) ∧ Aside0 (Below w.heap.size w wc))
 case first =>
  have H := gI.out; clear gI; by_cases c5 : dU = true
  ·subst c5; replace H := iT H; have H' := aM H; clear H; go_wp2
   repeat (go_quiet (fail); try go_wp2)
   go_meet
   case rel => exact ⟨_, (decide (aC > 3000)), u3_0, H', ⟨u3_5⟩, ⟨xbel⟩⟩
  ·replace c5 := Bool.eq_false_iff.mpr c5; subst c5; replace H := iN H; have H' := aM H; clear H; go_wp2
   repeat (go_quiet (fail); try go_wp2)
   go_meet
   case rel => exact ⟨_, (true), u3_0, H', ⟨u3_5⟩, ⟨xbel⟩⟩
 case rest =>
  clear gI; try clear c1
  try clear p2
  try clear c5
  obtain ⟨kq, cT, rfl, HA, HJ3, HB⟩ := hcut; cases kq with
  | zero => exact absurd HA.out (by simp [spec_Unseal.j0])
  | succ eL =>
   have H := HA.out; clear HA; simp only [spec_Unseal.j0] at H; by_cases c6 : cT = true
   ·subst c6; replace H := iT H; obtain ⟨gJ, hY⟩ : ∃ y_ : List Int, y_ = (([] : List Int)) := ⟨_, rfl⟩; replace H : (some (gJ, 0, 1)) = some (r1, r2, r3) := u3_3; have cU := aM hY; clear hY; simp only [Option.some.injEq, Prod.mk.injEq] at H; obtain ⟨rfl, rfl, rfl⟩ := H
    iterate 6 ((try go_quiet (first | ((with_reducible refine gD 25 rfl ?_); refine Kd.R_lit (Kd.int .u8) _ 5 ?hg (N := 25) ?hd (xs := ([] : List Int)) (inner := []) (ok := fun _ => True) (okp := fun _ => True) ?hr ?hp (fun _ hk => hk) trivial (Below.refl _ _) (Nat.le_refl _) (by simp) ?_; (case hd => rfl); (case hg => rfl); (case hr => exact u3_2); (case hp => exact (Reps.none _ _)); intro gK w7 cH hb hg_ hnew_; clear hg_ hnew_; (first | rw [← cU.out] at cH | (simp only [Int.reduceToNat] at cH; rw [← cU.out] at cH)); have eC := aM (Kd.R_lower cH (below_size xbel)); replace HB := xbs hb; clear hb cH))); (try go_wp2_with (first | ((with_reducible refine gD 25 rfl ?_); refine Kd.R_lit (Kd.int .u8) _ 5 ?hg (N := 25) ?hd (xs := ([] : List Int)) (inner := []) (ok := fun _ => True) (okp := fun _ => True) ?hr ?hp (fun _ hk => hk) trivial (Below.refl _ _) (Nat.le_refl _) (by simp) ?_; (case hd => rfl); (case hg => rfl); (case hr => exact u3_2); (case hp => exact (Reps.none _ _)); intro gK w7 cH hb hg_ hnew_; clear hg_ hnew_; (first | rw [← cU.out] at cH | (simp only [Int.reduceToNat] at cH; rw [← cU.out] at cH)); have eC := aM (Kd.R_lower cH (below_size xbel)); replace HB := xbs hb; clear hb cH))))
    go_ret3
    exact ⟨_, by first | rfl | (simp [errW_none, errW_some] <;> rfl) | (simp [*, errW_none, errW_some] <;> rfl), by (with_reducible repeat (first | apply Kd.R_alloc | apply Kd.R_drewN | apply Kd.R_drew)); exact eC.out, xbel⟩
   ·replace c6 := Bool.eq_false_iff.mpr c6; subst c6; replace H := iN H; by_cases c9 : (wrap64 ((l0.length : Int) - aA)) < (wrap64 (aC + 4))
    ·rw [if_pos c9] at H; have gL : decide ((wrap64 ((l0.length : Int) - aA)) < (wrap64 (aC + 4))) = true := decide_eq_true c9; clear c9; obtain ⟨gM, hY⟩ : ∃ y_ : List Int, y_ = (([] : List Int)) := ⟨_, rfl⟩; replace H : (some (gM, 0, 2)) = some (r1, r2, r3) := u3_3; have cV := aM hY; clear hY; simp only [Option.some.injEq, Prod.mk.injEq] at H; obtain ⟨rfl, rfl, rfl⟩ := H
     iterate 6 ((try go_quiet (first | ((with_reducible refine gD 33 rfl ?_); refine Kd.R_lit (Kd.int .u8) _ 5 ?hg (N := 33) ?hd (xs := ([] : List Int)) (inner := []) (ok := fun _ => True) (okp := fun _ => True) ?hr ?hp (fun _ hk => hk) trivial (Below.refl _ _) (Nat.le_refl _) (by simp) ?_; (case hd => rfl); (case hg => rfl); (case hr => exact u3_2); (case hp => exact (Reps.none _ _)); intro gN gO bN hb hg_ hnew_; clear hg_ hnew_; (first | rw [← cV.out] at bN | (simp only [Int.reduceToNat] at bN; rw [← cV.out] at bN)); have eD := aM (Kd.R_lower bN (below_size xbel)); replace HB := xbs hb; clear hb bN))); (try go_wp2_with (first | ((with_reducible refine gD 33 rfl ?_); refine Kd.R_lit (Kd.int .u8) _ 5 ?hg (N := 33) ?hd (xs := ([] : List Int)) (inner := []) (ok := fun _ => True) (okp := fun _ => True) ?hr ?hp (fun _ hk => hk) trivial (Below.refl _ _) (Nat.le_refl _) (by simp) ?_; (case hd => rfl); (case hg => rfl); (case hr => exact u3_2); (case hp => exact (Reps.none _ _)); intro gN gO bN hb hg_ hnew_; clear hg_ hnew_; (first | rw [← cV.out] at bN | (simp only [Int.reduceToNat] at bN; rw [← cV.out] at bN)); have eD := aM (Kd.R_lower bN (below_size xbel)); replace HB := xbs hb; clear hb bN))))
     go_ret3
     exact ⟨_, by first | rfl | (simp [errW_none, errW_some] <;> rfl) | (simp [*, errW_none, errW_some] <;> rfl), by (with_reducible repeat (first | apply Kd.R_alloc | apply Kd.R_drewN | apply Kd.R_drew)); exact eD.out, xbel⟩
    ·rw [if_neg c9] at H; have gL : decide ((wrap64 ((l0.length : Int) - aA)) < (wrap64 (aC + 4))) = false := decide_eq_false c9; clear c9; obtain ⟨bM, hY⟩ : ∃ y_ : List Int, y_ = (([] : List Int)) := ⟨_, rfl⟩; replace H : (if 0 ≤ aA then (if aA ≤ (wrap64 (aA + aC)) then (if (wrap64 (aA + aC)) ≤ (l0.length : Int) then (if bM.length + ((l0.take ((wrap64 (aA + aC)) : Int).toNat).drop (aA : Int).toNat).length < 140737488355328 then ((some (bM ++ ((l0.take ((wrap64 (aA + aC)) : Int).toNat).drop (aA : Int).toNat) : List Int)).bind fun bE => (if 0 ≤ (wrap64 (aA + aC)) then (if (wrap64 (aA + aC)) ≤ (wrap64 ((wrap64 (aA + aC)) + 4)) then (if (wrap64 ((wrap64 (aA + aC)) + 4)) ≤ (l0.length : Int) then ((spec_Sum.f eL bE).bind fun bH => (if 0 < (((l0.take ((wrap64 ((wrap64 (aA + aC)) + 4)) : Int).toNat).drop ((wrap64 (aA + aC)) : Int).toNat).length : Int) then (if 1 < (((l0.take ((wrap64 ((wrap64 (aA + aC)) + 4)) : Int).toNat).drop ((wrap64 (aA + aC)) : Int).toNat).length : Int) then (if 2 < (((l0.take ((wrap64 ((wrap64 (aA + aC)) + 4)) : Int).toNat).drop ((wrap64 (aA + aC)) : Int).toNat).length : Int) then (if 3 < (((l0.take ((wrap64 ((wrap64 (aA + aC)) + 4)) : Int).toNat).drop ((wrap64 (aA + aC)) : Int).toNat).length : Int) then (if bH = (wrap64 ((wrap64 ((wrap64 ((wrap64 (rd ((l0.take ((wrap64 ((wrap64 (aA + aC)) + 4)) : Int).toNat).drop ((wrap64 (aA + aC)) : Int).toNat) 0)) + (wrap64 ((wrap64 (rd ((l0.take ((wrap64 ((wrap64 (aA + aC)) + 4)) : Int).toNat).drop ((wrap64 (aA + aC)) : Int).toNat) 1)) * 256)))) + (wrap64 ((wrap64 (rd ((l0.take ((wrap64 ((wrap64 (aA + aC)) + 4)) : Int).toNat).drop ((wrap64 (aA + aC)) : Int).toNat) 2)) * 65536)))) + (wrap64 ((wrap64 (rd ((l0.take ((wrap64 ((wrap64 (aA + aC)) + 4)) : Int).toNat).drop ((wrap64 (aA + aC)) : Int).toNat) 3)) * 16777216)))) then (some (bE, wrap64 ((wrap64 (aA + aC)) + 4), 0)) else (some ((([] : List Int)), 0, 3))) else (none)) else (none)) else (none)) else (none))) else (none)) else (none)) else (none))) else (none)) else (none)) else (none)) else (none)) = some (r1, r2, r3) := u3_3; have bK := aM hY; clear hY; by_cases dB : 0 ≤ aA
     ·rw [if_pos dB] at H; have eB := eq_true dB; have iI : decide (0 ≤ aA) = true := decide_eq_true dB; clear dB; by_cases dC : aA ≤ (wrap64 (aA + aC))
      ·rw [if_pos dC] at H; have dE := eq_true dC; have dF : decide (aA ≤ (wrap64 (aA + aC))) = true := decide_eq_true dC; by_cases bZ : (wrap64 (aA + aC)) ≤ (l0.length : Int)
       ·rw [if_pos bZ] at H; have aZ := eq_true bZ; have eU : decide ((wrap64 (aA + aC)) ≤ (l0.length : Int)) = true := decide_eq_true bZ; by_cases fS : bM.length + ((l0.take ((wrap64 (aA + aC)) : Int).toNat).drop (aA : Int).toNat).length < 140737488355328
        ·rw [if_pos fS] at H; have LMc15 := aM fS; clear fS; obtain ⟨bE, hY⟩ : ∃ y_ : List Int, y_ = (bM ++ ((l0.take ((wrap64 (aA + aC)) : Int).toNat).drop (aA : Int).toNat)) := ⟨_, rfl⟩; replace H : (if 0 ≤ (wrap64 (aA + aC)) then (if (wrap64 (aA + aC)) ≤ (wrap64 ((wrap64 (aA + aC)) + 4)) then (if (wrap64 ((wrap64 (aA + aC)) + 4)) ≤ (l0.length : Int) then ((spec_Sum.f eL bE).bind fun bH => (if 0 < (((l0.take ((wrap64 ((wrap64 (aA + aC)) + 4)) : Int).toNat).drop ((wrap64 (aA + aC)) : Int).toNat).length : Int) then (if 1 < (((l0.take ((wrap64 ((wrap64 (aA + aC)) + 4)) : Int).toNat).drop ((wrap64 (aA + aC)) : Int).toNat).length : Int) then (if 2 < (((l0.take ((wrap64 ((wrap64 (aA + aC)) + 4)) : Int).toNat).drop ((wrap64 (aA + aC)) : Int).toNat).length : Int) then (if 3 < (((l0.take ((wrap64 ((wrap64 (aA + aC)) + 4)) : Int).toNat).drop ((wrap64 (aA + aC)) : Int).toNat).length : Int) then (if bH = (wrap64 ((wrap64 ((wrap64 ((wrap64 (rd ((l0.take ((wrap64 ((wrap64 (aA + aC)) + 4)) : Int).toNat).drop ((wrap64 (aA + aC)) : Int).toNat) 0)) + (wrap64 ((wrap64 (rd ((l0.take ((wrap64 ((wrap64 (aA + aC)) + 4)) : Int).toNat).drop ((wrap64 (aA + aC)) : Int).toNat) 1)) * 256)))) + (wrap64 ((wrap64 (rd ((l0.take ((wrap64 ((wrap64 (aA + aC)) + 4)) : Int).toNat).drop ((wrap64 (aA + aC)) : Int).toNat) 2)) * 65536)))) + (wrap64 ((wrap64 (rd ((l0.take ((wrap64 ((wrap64 (aA + aC)) + 4)) : Int).toNat).drop ((wrap64 (aA + aC)) : Int).toNat) 3)) * 16777216)))) then (some (bE, wrap64 ((wrap64 (aA + aC)) + 4), 0)) else (some ((([] : List Int)), 0, 3))) else (none)) else (none)) else (none)) else (none))) else (none)) else (none)) else (none)) = some (r1, r2, r3) := u3_3; have cI := aM hY; clear hY; obtain ⟨ji16, hji16⟩ : ∃ j_ : Int, (wrap64 (aA + aC)) = j_ := ⟨_, rfl⟩; replace H : (if 0 ≤ (ji16) then (if (ji16) ≤ (wrap64 ((ji16) + 4)) then (if (wrap64 ((ji16) + 4)) ≤ (l0.length : Int) then ((spec_Sum.f eL bE).bind fun bH => (if 0 < (((l0.take ((wrap64 ((ji16) + 4)) : Int).toNat).drop ((ji16) : Int).toNat).length : Int) then (if 1 < (((l0.take ((wrap64 ((ji16) + 4)) : Int).toNat).drop ((ji16) : Int).toNat).length : Int) then (if 2 < (((l0.take ((wrap64 ((ji16) + 4)) : Int).toNat).drop ((ji16) : Int).toNat).length : Int) then (if 3 < (((l0.take ((wrap64 ((ji16) + 4)) : Int).toNat).drop ((ji16) : Int).toNat).length : Int) then (if bH = (wrap64 ((wrap64 ((wrap64 ((wrap64 (rd ((l0.take ((wrap64 ((ji16) + 4)) : Int).toNat).drop ((ji16) : Int).toNat) 0)) + (wrap64 ((wrap64 (rd ((l0.take ((wrap64 ((ji16) + 4)) : Int).toNat).drop ((ji16) : Int).toNat) 1)) * 256)))) + (wrap64 ((wrap64 (rd ((l0.take ((wrap64 ((ji16) + 4)) : Int).toNat).drop ((ji16) : Int).toNat) 2)) * 65536)))) + (wrap64 ((wrap64 (rd ((l0.take ((wrap64 ((ji16) + 4)) : Int).toNat).drop ((ji16) : Int).toNat) 3)) * 16777216)))) then (some (bE, wrap64 ((ji16) + 4), 0)) else (some ((([] : List Int)), 0, 3))) else (none)) else (none)) else (none)) else (none))) else (none)) else (none)) else (none)) = some (r1, r2, r3) := by first | (rw [hji16] at H; exact H) | (simp only [hji16] at H ⊢; exact H)
         (try rw [hji16] at dE); (try rw [hji16] at dF); (try rw [hji16] at dC); (try rw [hji16] at aZ); (try rw [hji16] at eU); (try rw [hji16] at bZ); (try rw [hji16] at LMc15); (try rw [hji16] at cI); have hji16w : (IntKind.i64.wrap (aA + aC)) = ji16 := (i64_w _).trans hji16; by_cases eV : 0 ≤ (ji16)
         ·rw [if_pos eV] at H; have iJ := eq_true eV; have iK : decide (0 ≤ (ji16)) = true := decide_eq_true eV; clear eV; by_cases dV : (ji16) ≤ (wrap64 ((ji16) + 4))
          ·rw [if_pos dV] at H; have iL := eq_true dV; have iM : decide ((ji16) ≤ (wrap64 ((ji16) + 4))) = true := decide_eq_true dV; by_cases fT : (wrap64 ((ji16) + 4)) ≤ (l0.length : Int)
           ·rw [if_pos fT] at H; have iO := eq_true fT; have iP : decide ((wrap64 ((ji16) + 4)) ≤ (l0.length : Int)) = true := decide_eq_true fT; replace H := oB H; obtain ⟨bH, eW, H⟩ := H; (try dsimp only at H); have fU := aM eW; clear eW
            by_cases dW : 0 < (((l0.take ((wrap64 ((ji16) + 4)) : Int).toNat).drop ((ji16) : Int).toNat).length : Int)
            ·rw [if_pos dW] at H; have iQ : decide (0 < (((l0.take ((wrap64 ((ji16) + 4)) : Int).toNat).drop ((ji16) : Int).toNat).length : Int)) = true := decide_eq_true dW; have iR : decide (0 < ((l0.take ((wrap64 ((ji16) + 4)) : Int).toNat).drop ((ji16) : Int).toNat).length) = true := decide_eq_true (by omega); clear dW; by_cases fV : 1 < (((l0.take ((wrap64 ((ji16) + 4)) : Int).toNat).drop ((ji16) : Int).toNat).length : Int)
             ·rw [if_pos fV] at H; have iS : decide (1 < (((l0.take ((wrap64 ((ji16) + 4)) : Int).toNat).drop ((ji16) : Int).toNat).length : Int)) = true := decide_eq_true fV; have iU : decide (1 < ((l0.take ((wrap64 ((ji16) + 4)) : Int).toNat).drop ((ji16) : Int).toNat).length) = true := decide_eq_true (by omega); clear fV; by_cases fW : 2 < (((l0.take ((wrap64 ((ji16) + 4)) : Int).toNat).drop ((ji16) : Int).toNat).length : Int)
              ·rw [if_pos fW] at H; have iV : decide (2 < (((l0.take ((wrap64 ((ji16) + 4)) : Int).toNat).drop ((ji16) : Int).toNat).length : Int)) = true := decide_eq_true fW; have iW : decide (2 < ((l0.take ((wrap64 ((ji16) + 4)) : Int).toNat).drop ((ji16) : Int).toNat).length) = true := decide_eq_true (by omega); clear fW; by_cases fX : 3 < (((l0.take ((wrap64 ((ji16) + 4)) : Int).toNat).drop ((ji16) : Int).toNat).length : Int)
               ·rw [if_pos fX] at H; have iX : decide (3 < (((l0.take ((wrap64 ((ji16) + 4)) : Int).toNat).drop ((ji16) : Int).toNat).length : Int)) = true := decide_eq_true fX; have iY : decide (3 < ((l0.take ((wrap64 ((ji16) + 4)) : Int).toNat).drop ((ji16) : Int).toNat).length) = true := decide_eq_true (by omega); clear fX; by_cases eX : bH = (wrap64 ((wrap64 ((wrap64 ((wrap64 (rd ((l0.take ((wrap64 ((ji16) + 4)) : Int).toNat).drop ((ji16) : Int).toNat) 0)) + (wrap64 ((wrap64 (rd ((l0.take ((wrap64 ((ji16) + 4)) : Int).toNat).drop ((ji16) : Int).toNat) 1)) * 256)))) + (wrap64 ((wrap64 (rd ((l0.take ((wrap64 ((ji16) + 4)) : Int).toNat).drop ((ji16) : Int).toNat) 2)) * 65536)))) + (wrap64 ((wrap64 (rd ((l0.take ((wrap64 ((ji16) + 4)) : Int).toNat).drop ((ji16) : Int).toNat) 3)) * 16777216))))
                ·rw [if_pos eX] at H; obtain ⟨eY, eZ⟩ := bT eX; clear eX; simp only [Option.some.injEq, Prod.mk.injEq] at H; obtain ⟨rfl, rfl, rfl⟩ := H
                 iterate 6 ((try go_quiet (first | ((with_reducible refine gD 34 rfl ?_); refine Kd.R_lit (Kd.int .u8) _ 5 ?hg (N := 34) ?hd (xs := ([] : List Int)) (inner := []) (ok := fun _ => True) (okp := fun _ => True) ?hr ?hp (fun _ hk => hk) trivial (Below.refl _ _) (Nat.le_refl _) (by simp) ?_; (case hd => rfl); (case hg => rfl); (case hr => exact u3_2); (case hp => exact (Reps.none _ _)); intro cK jI bO hb hg_ hnew_; clear hg_ hnew_; (first | rw [← bK.out] at bO | (simp only [Int.reduceToNat] at bO; rw [← bK.out] at bO)); have aU := aM (Kd.R_lower bO (below_size xbel)); replace HB := xbs hb; clear hb bO; obtain ⟨i028, hi028, _, hsz28, _⟩ := info_parts info5; obtain ⟨jJ, hcut28, hA28, hC28⟩ := print_mid_of (P := Try.prog) (Value.int .u8) 0 22 5 .i64 .i64 Try.underlying22 hi028 hsz28 A0 c0 l0 aA (ji16) (oda) u3_4 (oda) cZ.out; have cE := aM (Kd.C_of_reads (h1 := fun _ => rfl) (hA28 _ (Kd.reads_of_C cD.out))); have dI := aM hC28; clear hA28 hC28 hi028 hsz28; (try rw [← show ((l0.take ((ji16) : Int).toNat).drop (aA : Int).toNat).length = ((ji16).toNat - aA.toNat) from (by rw [List.length_drop, List.length_take]; have h_ : ((ji16) : Int) ≤ (l0.length : Int) := oda; omega)] at hcut28)) | ((with_reducible refine gate_builtin (b := .append) (xs := #[.tmp 34, .tmp 40]) rfl ?_); at_builtin; refine Kd.R_append_rows (Kd.int .u8) (w0 := w) w.heap.size rfl (.tmp 34) (.tmp 40) 22 5 (.int .u8 0) 1 rfl Try.underlying22 info5 rfl (by decide) (by omega) cK bM ((l0.take ((ji16) : Int).toNat).drop (aA : Int).toNat) _ _ _ (fun _ => True) (fun _ => False) rfl rfl ?aO ?aR (fun _ _ h => h) (fun _ h => h.elim) ?aF ?aB ?aS ?aL ?_; (case aR => exact u3_7); (case aB => exact xbel); (case aF => exact (fun _ _ => trivial)); (case aO => exact (xr aU)); (case aS => exact (below_size xbel)); (case aL => exact u3_8); intro eM gP ho hb hg hat; rw [← cI.out] at ho; replace HB := aM (hb); have aI := aM (ho); clear aU; clear ho hb hg hat; obtain ⟨i030, hi030, _, hsz30, _⟩ := info_parts info5; obtain ⟨eK, hcut30, hA30, hC30⟩ := print_mid_of (P := Try.prog) (Value.int .u8) 0 22 5 .i64 .i64 Try.underlying22 hi030 hsz30 A0 c0 l0 (ji16) (wrap64 ((ji16) + 4)) (oda) u3_4 (oda) cZ.out; have aK := aM (Kd.C_of_reads (h1 := fun _ => rfl) (hA30 _ (Kd.reads_of_C cD.out))); have dJ := aM hC30; clear hA30 hC30 hi030 hsz30; (try rw [← show ((l0.take ((wrap64 ((ji16) + 4)) : Int).toNat).drop ((ji16) : Int).toNat).length = ((wrap64 ((ji16) + 4)).toNat - (ji16).toNat) from (by rw [List.length_drop, List.length_take]; have h_ : ((wrap64 ((ji16) + 4)) : Int) ≤ (l0.length : Int) := oda; omega)] at hcut30); obtain ⟨gQ, gR, eN⟩ := Kd.R_slice aI.out; subst eN; have p161 : 0 ≤ (0 : Int) := (by omega); have q161 : 0 < (((l0.take ((wrap64 ((ji16) + 4)) : Int).toNat).drop ((ji16) : Int).toNat).length : Int) := oda; obtain ⟨aN, cL, aD⟩ := Kd.at_int aK.out 0 p161 q161; cases cL; have qi161 : (0 < ((l0.take ((wrap64 ((ji16) + 4)) : Int).toNat).drop ((ji16) : Int).toNat).length) = True := eq_true (by omega); (try rw [show ((0 : Int)).toNat = 0 from rfl] at aD); (try rw [Addr.add_zero'] at aD); replace aD := xce HB aD; replace p161 := eq_true p161; replace q161 := eq_true q161; (try have qm161 : (0 < ((((wrap64 ((ji16) + 4)).toNat - (ji16).toNat) : Nat) : Int)) = True := eq_true u3_9); (try have qn161 : (0 < ((wrap64 ((ji16) + 4)).toNat - (ji16).toNat)) = True := eq_true u3_10); have p162 : 0 ≤ (1 : Int) := (by omega); have q162 : 1 < (((l0.take ((wrap64 ((ji16) + 4)) : Int).toNat).drop ((ji16) : Int).toNat).length : Int) := oda; obtain ⟨bP, cM, aE⟩ := Kd.at_int aK.out 1 p162 q162; obtain rfl : aN = bP := (by injection cM); (try simp only [show (1 : Int).toNat = 1 from rfl, Nat.reduceMul, Nat.reduceEqDiff, Go.Addr.add, ↓reduceIte] at aE); have qi162 : (1 < ((l0.take ((wrap64 ((ji16) + 4)) : Int).toNat).drop ((ji16) : Int).toNat).length) = True := eq_true (by omega); (try rw [show ((1 : Int)).toNat = 1 from rfl] at aE); replace aE := xce HB aE; replace p162 := eq_true p162; replace q162 := eq_true q162; (try have qm162 : (1 < ((((wrap64 ((ji16) + 4)).toNat - (ji16).toNat) : Nat) : Int)) = True := eq_true u3_11); (try have qn162 : (1 < ((wrap64 ((ji16) + 4)).toNat - (ji16).toNat)) = True := eq_true u3_12); have p163 : 0 ≤ (2 : Int) := (by omega); have q163 : 2 < (((l0.take ((wrap64 ((ji16) + 4)) : Int).toNat).drop ((ji16) : Int).toNat).length : Int) := oda; obtain ⟨bQ, cN, aG⟩ := Kd.at_int aK.out 2 p163 q163; obtain rfl : aN = bQ := (by injection cN); (try simp only [show (2 : Int).toNat = 2 from rfl, Nat.reduceMul, Nat.reduceEqDiff, Go.Addr.add, ↓reduceIte] at aG); have qi163 : (2 < ((l0.take ((wrap64 ((ji16) + 4)) : Int).toNat).drop ((ji16) : Int).toNat).length) = True := eq_true (by omega); (try rw [show ((2 : Int)).toNat = 2 from rfl] at aG); replace aG := xce HB aG; replace p163 := eq_true p163; replace q163 := eq_true q163; (try have qm163 : (2 < ((((wrap64 ((ji16) + 4)).toNat - (ji16).toNat) : Nat) : Int)) = True := eq_true u3_13); (try have qn163 : (2 < ((wrap64 ((ji16) + 4)).toNat - (ji16).toNat)) = True := eq_true u3_14); have p164 : 0 ≤ (3 : Int) := (by omega); have q164 : 3 < (((l0.take ((wrap64 ((ji16) + 4)) : Int).toNat).drop ((ji16) : Int).toNat).length : Int) := oda; obtain ⟨bR, cO, aH⟩ := Kd.at_int aK.out 3 p164 q164; obtain rfl : aN = bR := (by injection cO); (try simp only [show (3 : Int).toNat = 3 from rfl, Nat.reduceMul, Nat.reduceEqDiff, Go.Addr.add, ↓reduceIte] at aH); have qi164 : (3 < ((l0.take ((wrap64 ((ji16) + 4)) : Int).toNat).drop ((ji16) : Int).toNat).length) = True := eq_true (by omega); (try rw [show ((3 : Int)).toNat = 3 from rfl] at aH); replace aH := xce HB aH; replace p164 := eq_true p164; replace q164 := eq_true q164; (try have qm164 : (3 < ((((wrap64 ((ji16) + 4)).toNat - (ji16).toNat) : Nat) : Int)) = True := eq_true u3_15); (try have qn164 : (3 < ((wrap64 ((ji16) + 4)).toNat - (ji16).toNat)) = True := eq_true u3_16)) | (go_at_call 173; (with_reducible refine (spec_Sum.calls eL _ _ bE bH _ ?side1 ?side2 fU.out).mono ?_); (case side1 => exact xC aI); (case side2 => exact (Kd.R_reads' aI.out).2.1); rintro e w' ⟨rfl, ⟨nd, rfl⟩⟩; (try first | exact ⟨rfl, _, World.drewN_drewN _ _ _⟩ | exact ⟨rfl, _, Eq.trans (World.drewN_drewN _ _ _) (congrArg (World.drewN _) (Nat.add_assoc _ _ _))⟩)))); (try go_wp2_with (first | ((with_reducible refine gD 34 rfl ?_); refine Kd.R_lit (Kd.int .u8) _ 5 ?hg (N := 34) ?hd (xs := ([] : List Int)) (inner := []) (ok := fun _ => True) (okp := fun _ => True) ?hr ?hp (fun _ hk => hk) trivial (Below.refl _ _) (Nat.le_refl _) (by simp) ?_; (case hd => rfl); (case hg => rfl); (case hr => exact u3_2); (case hp => exact (Reps.none _ _)); intro cK jI bO hb hg_ hnew_; clear hg_ hnew_; (first | rw [← bK.out] at bO | (simp only [Int.reduceToNat] at bO; rw [← bK.out] at bO)); have aU := aM (Kd.R_lower bO (below_size xbel)); replace HB := xbs hb; clear hb bO; obtain ⟨i028, hi028, _, hsz28, _⟩ := info_parts info5; obtain ⟨jJ, hcut28, hA28, hC28⟩ := print_mid_of (P := Try.prog) (Value.int .u8) 0 22 5 .i64 .i64 Try.underlying22 hi028 hsz28 A0 c0 l0 aA (ji16) (oda) u3_4 (oda) cZ.out; have cE := aM (Kd.C_of_reads (h1 := fun _ => rfl) (hA28 _ (Kd.reads_of_C cD.out))); have dI := aM hC28; clear hA28 hC28 hi028 hsz28; (try rw [← show ((l0.take ((ji16) : Int).toNat).drop (aA : Int).toNat).length = ((ji16).toNat - aA.toNat) from (by rw [List.length_drop, List.length_take]; have h_ : ((ji16) : Int) ≤ (l0.length : Int) := oda; omega)] at hcut28)) | ((with_reducible refine gate_builtin (b := .append) (xs := #[.tmp 34, .tmp 40]) rfl ?_); at_builtin; refine Kd.R_append_rows (Kd.int .u8) (w0 := w) w.heap.size rfl (.tmp 34) (.tmp 40) 22 5 (.int .u8 0) 1 rfl Try.underlying22 info5 rfl (by decide) (by omega) cK bM ((l0.take ((ji16) : Int).toNat).drop (aA : Int).toNat) _ _ _ (fun _ => True) (fun _ => False) rfl rfl ?aO ?aR (fun _ _ h => h) (fun _ h => h.elim) ?aF ?aB ?aS ?aL ?_; (case aR => exact u3_7); (case aB => exact xbel); (case aF => exact (fun _ _ => trivial)); (case aO => exact (xr aU)); (case aS => exact (below_size xbel)); (case aL => exact u3_8); intro eM gP ho hb hg hat; rw [← cI.out] at ho; replace HB := aM (hb); have aI := aM (ho); clear aU; clear ho hb hg hat; obtain ⟨i030, hi030, _, hsz30, _⟩ := info_parts info5; obtain ⟨eK, hcut30, hA30, hC30⟩ := print_mid_of (P := Try.prog) (Value.int .u8) 0 22 5 .i64 .i64 Try.underlying22 hi030 hsz30 A0 c0 l0 (ji16) (wrap64 ((ji16) + 4)) (oda) u3_4 (oda) cZ.out; have aK := aM (Kd.C_of_reads (h1 := fun _ => rfl) (hA30 _ (Kd.reads_of_C cD.out))); have dJ := aM hC30; clear hA30 hC30 hi030 hsz30; (try rw [← show ((l0.take ((wrap64 ((ji16) + 4)) : Int).toNat).drop ((ji16) : Int).toNat).length = ((wrap64 ((ji16) + 4)).toNat - (ji16).toNat) from (by rw [List.length_drop, List.length_take]; have h_ : ((wrap64 ((ji16) + 4)) : Int) ≤ (l0.length : Int) := oda; omega)] at hcut30); obtain ⟨gQ, gR, eN⟩ := Kd.R_slice aI.out; subst eN; have p161 : 0 ≤ (0 : Int) := (by omega); have q161 : 0 < (((l0.take ((wrap64 ((ji16) + 4)) : Int).toNat).drop ((ji16) : Int).toNat).length : Int) := oda; obtain ⟨aN, cL, aD⟩ := Kd.at_int aK.out 0 p161 q161; cases cL; have qi161 : (0 < ((l0.take ((wrap64 ((ji16) + 4)) : Int).toNat).drop ((ji16) : Int).toNat).length) = True := eq_true (by omega); (try rw [show ((0 : Int)).toNat = 0 from rfl] at aD); (try rw [Addr.add_zero'] at aD); replace aD := xce HB aD; replace p161 := eq_true p161; replace q161 := eq_true q161; (try have qm161 : (0 < ((((wrap64 ((ji16) + 4)).toNat - (ji16).toNat) : Nat) : Int)) = True := eq_true u3_9); (try have qn161 : (0 < ((wrap64 ((ji16) + 4)).toNat - (ji16).toNat)) = True := eq_true u3_10); have p162 : 0 ≤ (1 : Int) := (by omega); have q162 : 1 < (((l0.take ((wrap64 ((ji16) + 4)) : Int).toNat).drop ((ji16) : Int).toNat).length : Int) := oda; obtain ⟨bP, cM, aE⟩ := Kd.at_int aK.out 1 p162 q162; obtain rfl : aN = bP := (by injection cM); (try simp only [show (1 : Int).toNat = 1 from rfl, Nat.reduceMul, Nat.reduceEqDiff, Go.Addr.add, ↓reduceIte] at aE); have qi162 : (1 < ((l0.take ((wrap64 ((ji16) + 4)) : Int).toNat).drop ((ji16) : Int).toNat).length) = True := eq_true (by omega); (try rw [show ((1 : Int)).toNat = 1 from rfl] at aE); replace aE := xce HB aE; replace p162 := eq_true p162; replace q162 := eq_true q162; (try have qm162 : (1 < ((((wrap64 ((ji16) + 4)).toNat - (ji16).toNat) : Nat) : Int)) = True := eq_true u3_11); (try have qn162 : (1 < ((wrap64 ((ji16) + 4)).toNat - (ji16).toNat)) = True := eq_true u3_12); have p163 : 0 ≤ (2 : Int) := (by omega); have q163 : 2 < (((l0.take ((wrap64 ((ji16) + 4)) : Int).toNat).drop ((ji16) : Int).toNat).length : Int) := oda; obtain ⟨bQ, cN, aG⟩ := Kd.at_int aK.out 2 p163 q163; obtain rfl : aN = bQ := (by injection cN); (try simp only [show (2 : Int).toNat = 2 from rfl, Nat.reduceMul, Nat.reduceEqDiff, Go.Addr.add, ↓reduceIte] at aG); have qi163 : (2 < ((l0.take ((wrap64 ((ji16) + 4)) : Int).toNat).drop ((ji16) : Int).toNat).length) = True := eq_true (by omega); (try rw [show ((2 : Int)).toNat = 2 from rfl] at aG); replace aG := xce HB aG; replace p163 := eq_true p163; replace q163 := eq_true q163; (try have qm163 : (2 < ((((wrap64 ((ji16) + 4)).toNat - (ji16).toNat) : Nat) : Int)) = True := eq_true u3_13); (try have qn163 : (2 < ((wrap64 ((ji16) + 4)).toNat - (ji16).toNat)) = True := eq_true u3_14); have p164 : 0 ≤ (3 : Int) := (by omega); have q164 : 3 < (((l0.take ((wrap64 ((ji16) + 4)) : Int).toNat).drop ((ji16) : Int).toNat).length : Int) := oda; obtain ⟨bR, cO, aH⟩ := Kd.at_int aK.out 3 p164 q164; obtain rfl : aN = bR := (by injection cO); (try simp only [show (3 : Int).toNat = 3 from rfl, Nat.reduceMul, Nat.reduceEqDiff, Go.Addr.add, ↓reduceIte] at aH); have qi164 : (3 < ((l0.take ((wrap64 ((ji16) + 4)) : Int).toNat).drop ((ji16) : Int).toNat).length) = True := eq_true (by omega); (try rw [show ((3 : Int)).toNat = 3 from rfl] at aH); replace aH := xce HB aH; replace p164 := eq_true p164; replace q164 := eq_true q164; (try have qm164 : (3 < ((((wrap64 ((ji16) + 4)).toNat - (ji16).toNat) : Nat) : Int)) = True := eq_true u3_15); (try have qn164 : (3 < ((wrap64 ((ji16) + 4)).toNat - (ji16).toNat)) = True := eq_true u3_16)) | (go_at_call 173; (with_reducible refine (spec_Sum.calls eL _ _ bE bH _ ?side1 ?side2 fU.out).mono ?_); (case side1 => exact xC aI); (case side2 => exact (Kd.R_reads' aI.out).2.1); rintro e w' ⟨rfl, ⟨nd, rfl⟩⟩; (try first | exact ⟨rfl, _, World.drewN_drewN _ _ _⟩ | exact ⟨rfl, _, Eq.trans (World.drewN_drewN _ _ _) (congrArg (World.drewN _) (Nat.add_assoc _ _ _))⟩)))))
                 go_ret3
                 exact ⟨_, u3_19, by (with_reducible repeat (first | apply Kd.R_alloc | apply Kd.R_drewN | apply Kd.R_drew)); exact aI.out, xbel⟩
                ·rw [if_neg eX] at H; obtain ⟨eY, eZ⟩ := bF eX; obtain ⟨gS, hY⟩ : ∃ y_ : List Int, y_ = (([] : List Int)) := ⟨_, rfl⟩; replace H : (some (gS, 0, 3)) = some (r1, r2, r3) := u3_3; have cW := aM hY; clear hY; simp only [Option.some.injEq, Prod.mk.injEq] at H; obtain ⟨rfl, rfl, rfl⟩ := H
                 iterate 6 ((try go_quiet (first | ((with_reducible refine gD 34 rfl ?_); refine Kd.R_lit (Kd.int .u8) _ 5 ?hg (N := 34) ?hd (xs := ([] : List Int)) (inner := []) (ok := fun _ => True) (okp := fun _ => True) ?hr ?hp (fun _ hk => hk) trivial (Below.refl _ _) (Nat.le_refl _) (by simp) ?_; (case hd => rfl); (case hg => rfl); (case hr => exact u3_2); (case hp => exact (Reps.none _ _)); intro cK iZ bU hb hg_ hnew_; clear hg_ hnew_; (first | rw [← bK.out] at bU | (simp only [Int.reduceToNat] at bU; rw [← bK.out] at bU)); have aU := aM (Kd.R_lower bU (below_size xbel)); replace HB := xbs hb; clear hb bU; obtain ⟨i034, hi034, _, hsz34, _⟩ := info_parts info5; obtain ⟨jK, hcut34, hA34, hC34⟩ := print_mid_of (P := Try.prog) (Value.int .u8) 0 22 5 .i64 .i64 Try.underlying22 hi034 hsz34 A0 c0 l0 aA (ji16) (oda) u3_4 (oda) cZ.out; have cE := aM (Kd.C_of_reads (h1 := fun _ => rfl) (hA34 _ (Kd.reads_of_C cD.out))); have dI := aM hC34; clear hA34 hC34 hi034 hsz34; (try rw [← show ((l0.take ((ji16) : Int).toNat).drop (aA : Int).toNat).length = ((ji16).toNat - aA.toNat) from (by rw [List.length_drop, List.length_take]; have h_ : ((ji16) : Int) ≤ (l0.length : Int) := oda; omega)] at hcut34)) | ((with_reducible refine gate_builtin (b := .append) (xs := #[.tmp 34, .tmp 40]) rfl ?_); at_builtin; refine Kd.R_append_rows (Kd.int .u8) (w0 := w) w.heap.size rfl (.tmp 34) (.tmp 40) 22 5 (.int .u8 0) 1 rfl Try.underlying22 info5 rfl (by decide) (by omega) cK bM ((l0.take ((ji16) : Int).toNat).drop (aA : Int).toNat) _ _ _ (fun _ => True) (fun _ => False) rfl rfl ?aO ?aR (fun _ _ h => h) (fun _ h => h.elim) ?aF ?aB ?aS ?aL ?_; (case aR => exact u3_7); (case aB => exact xbel); (case aF => exact (fun _ _ => trivial)); (case aO => exact (xr aU)); (case aS => exact (below_size xbel)); (case aL => exact u3_8); intro eM jL ho hb hg hat; rw [← cI.out] at ho; replace HB := aM (hb); have aI := aM (ho); clear aU; clear ho hb hg hat; obtain ⟨i036, hi036, _, hsz36, _⟩ := info_parts info5; obtain ⟨jM, hcut36, hA36, hC36⟩ := print_mid_of (P := Try.prog) (Value.int .u8) 0 22 5 .i64 .i64 Try.underlying22 hi036 hsz36 A0 c0 l0 (ji16) (wrap64 ((ji16) + 4)) (oda) u3_4 (oda) cZ.out; have aK := aM (Kd.C_of_reads (h1 := fun _ => rfl) (hA36 _ (Kd.reads_of_C cD.out))); have dJ := aM hC36; clear hA36 hC36 hi036 hsz36; (try rw [← show ((l0.take ((wrap64 ((ji16) + 4)) : Int).toNat).drop ((ji16) : Int).toNat).length = ((wrap64 ((ji16) + 4)).toNat - (ji16).toNat) from (by rw [List.length_drop, List.length_take]; have h_ : ((wrap64 ((ji16) + 4)) : Int) ≤ (l0.length : Int) := oda; omega)] at hcut36); obtain ⟨gT, gU, eO⟩ := Kd.R_slice aI.out; subst eO; have p161 : 0 ≤ (0 : Int) := (by omega); have q161 : 0 < (((l0.take ((wrap64 ((ji16) + 4)) : Int).toNat).drop ((ji16) : Int).toNat).length : Int) := oda; obtain ⟨aN, cL, aD⟩ := Kd.at_int aK.out 0 p161 q161; cases cL; have qi161 : (0 < ((l0.take ((wrap64 ((ji16) + 4)) : Int).toNat).drop ((ji16) : Int).toNat).length) = True := eq_true (by omega); (try rw [show ((0 : Int)).toNat = 0 from rfl] at aD); (try rw [Addr.add_zero'] at aD); replace aD := xce HB aD; replace p161 := eq_true p161; replace q161 := eq_true q161; (try have qm161 : (0 < ((((wrap64 ((ji16) + 4)).toNat - (ji16).toNat) : Nat) : Int)) = True := eq_true u3_9); (try have qn161 : (0 < ((wrap64 ((ji16) + 4)).toNat - (ji16).toNat)) = True := eq_true u3_10); have p162 : 0 ≤ (1 : Int) := (by omega); have q162 : 1 < (((l0.take ((wrap64 ((ji16) + 4)) : Int).toNat).drop ((ji16) : Int).toNat).length : Int) := oda; obtain ⟨bP, cM, aE⟩ := Kd.at_int aK.out 1 p162 q162; obtain rfl : aN = bP := (by injection cM); (try simp only [show (1 : Int).toNat = 1 from rfl, Nat.reduceMul, Nat.reduceEqDiff, Go.Addr.add, ↓reduceIte] at aE); have qi162 : (1 < ((l0.take ((wrap64 ((ji16) + 4)) : Int).toNat).drop ((ji16) : Int).toNat).length) = True := eq_true (by omega); (try rw [show ((1 : Int)).toNat = 1 from rfl] at aE); replace aE := xce HB aE; replace p162 := eq_true p162; replace q162 := eq_true q162; (try have qm162 : (1 < ((((wrap64 ((ji16) + 4)).toNat - (ji16).toNat) : Nat) : Int)) = True := eq_true u3_11); (try have qn162 : (1 < ((wrap64 ((ji16) + 4)).toNat - (ji16).toNat)) = True := eq_true u3_12); have p163 : 0 ≤ (2 : Int) := (by omega); have q163 : 2 < (((l0.take ((wrap64 ((ji16) + 4)) : Int).toNat).drop ((ji16) : Int).toNat).length : Int) := oda; obtain ⟨bQ, cN, aG⟩ := Kd.at_int aK.out 2 p163 q163; obtain rfl : aN = bQ := (by injection cN); (try simp only [show (2 : Int).toNat = 2 from rfl, Nat.reduceMul, Nat.reduceEqDiff, Go.Addr.add, ↓reduceIte] at aG); have qi163 : (2 < ((l0.take ((wrap64 ((ji16) + 4)) : Int).toNat).drop ((ji16) : Int).toNat).length) = True := eq_true (by omega); (try rw [show ((2 : Int)).toNat = 2 from rfl] at aG); replace aG := xce HB aG; replace p163 := eq_true p163; replace q163 := eq_true q163; (try have qm163 : (2 < ((((wrap64 ((ji16) + 4)).toNat - (ji16).toNat) : Nat) : Int)) = True := eq_true u3_13); (try have qn163 : (2 < ((wrap64 ((ji16) + 4)).toNat - (ji16).toNat)) = True := eq_true u3_14); have p164 : 0 ≤ (3 : Int) := (by omega); have q164 : 3 < (((l0.take ((wrap64 ((ji16) + 4)) : Int).toNat).drop ((ji16) : Int).toNat).length : Int) := oda; obtain ⟨bR, cO, aH⟩ := Kd.at_int aK.out 3 p164 q164; obtain rfl : aN = bR := (by injection cO); (try simp only [show (3 : Int).toNat = 3 from rfl, Nat.reduceMul, Nat.reduceEqDiff, Go.Addr.add, ↓reduceIte] at aH); have qi164 : (3 < ((l0.take ((wrap64 ((ji16) + 4)) : Int).toNat).drop ((ji16) : Int).toNat).length) = True := eq_true (by omega); (try rw [show ((3 : Int)).toNat = 3 from rfl] at aH); replace aH := xce HB aH; replace p164 := eq_true p164; replace q164 := eq_true q164; (try have qm164 : (3 < ((((wrap64 ((ji16) + 4)).toNat - (ji16).toNat) : Nat) : Int)) = True := eq_true u3_15); (try have qn164 : (3 < ((wrap64 ((ji16) + 4)).toNat - (ji16).toNat)) = True := eq_true u3_16)) | (go_at_call 173; (with_reducible refine (spec_Sum.calls eL _ _ bE bH _ ?side1 ?side2 fU.out).mono ?_); (case side1 => exact xC aI); (case side2 => exact (Kd.R_reads' aI.out).2.1); rintro e w' ⟨rfl, ⟨nd, rfl⟩⟩; (try first | exact ⟨rfl, _, World.drewN_drewN _ _ _⟩ | exact ⟨rfl, _, Eq.trans (World.drewN_drewN _ _ _) (congrArg (World.drewN _) (Nat.add_assoc _ _ _))⟩)) | ((with_reducible refine gD 76 rfl ?_); refine Kd.R_lit (Kd.int .u8) _ 5 ?hg (N := 76) ?hd (xs := ([] : List Int)) (inner := []) (ok := fun _ => True) (okp := fun _ => True) ?hr ?hp (fun _ hk => hk) trivial (Below.refl _ _) (Nat.le_refl _) (by simp) ?_; (case hd => rfl); (case hg => rfl); (case hr => exact u3_2); (case hp => exact (Reps.none _ _)); intro gV jN bI hb hg_ hnew_; clear hg_ hnew_; (first | rw [← cW.out] at bI | (simp only [Int.reduceToNat] at bI; rw [← cW.out] at bI)); have eE := aM (Kd.R_lower (Kd.R_new' bI (Kd.R_lt (xr aI))) (below_size xbel)); replace aI := aM (Kd.R_elder' (xr aI) (Kd.R_base bI) hb); replace HB := xbs hb; clear hb bI))); (try go_wp2_with (first | ((with_reducible refine gD 34 rfl ?_); refine Kd.R_lit (Kd.int .u8) _ 5 ?hg (N := 34) ?hd (xs := ([] : List Int)) (inner := []) (ok := fun _ => True) (okp := fun _ => True) ?hr ?hp (fun _ hk => hk) trivial (Below.refl _ _) (Nat.le_refl _) (by simp) ?_; (case hd => rfl); (case hg => rfl); (case hr => exact u3_2); (case hp => exact (Reps.none _ _)); intro cK iZ bU hb hg_ hnew_; clear hg_ hnew_; (first | rw [← bK.out] at bU | (simp only [Int.reduceToNat] at bU; rw [← bK.out] at bU)); have aU := aM (Kd.R_lower bU (below_size xbel)); replace HB := xbs hb; clear hb bU; obtain ⟨i034, hi034, _, hsz34, _⟩ := info_parts info5; obtain ⟨jK, hcut34, hA34, hC34⟩ := print_mid_of (P := Try.prog) (Value.int .u8) 0 22 5 .i64 .i64 Try.underlying22 hi034 hsz34 A0 c0 l0 aA (ji16) (oda) u3_4 (oda) cZ.out; have cE := aM (Kd.C_of_reads (h1 := fun _ => rfl) (hA34 _ (Kd.reads_of_C cD.out))); have dI := aM hC34; clear hA34 hC34 hi034 hsz34; (try rw [← show ((l0.take ((ji16) : Int).toNat).drop (aA : Int).toNat).length = ((ji16).toNat - aA.toNat) from (by rw [List.length_drop, List.length_take]; have h_ : ((ji16) : Int) ≤ (l0.length : Int) := oda; omega)] at hcut34)) | ((with_reducible refine gate_builtin (b := .append) (xs := #[.tmp 34, .tmp 40]) rfl ?_); at_builtin; refine Kd.R_append_rows (Kd.int .u8) (w0 := w) w.heap.size rfl (.tmp 34) (.tmp 40) 22 5 (.int .u8 0) 1 rfl Try.underlying22 info5 rfl (by decide) (by omega) cK bM ((l0.take ((ji16) : Int).toNat).drop (aA : Int).toNat) _ _ _ (fun _ => True) (fun _ => False) rfl rfl ?aO ?aR (fun _ _ h => h) (fun _ h => h.elim) ?aF ?aB ?aS ?aL ?_; (case aR => exact u3_7); (case aB => exact xbel); (case aF => exact (fun _ _ => trivial)); (case aO => exact (xr aU)); (case aS => exact (below_size xbel)); (case aL => exact u3_8); intro eM jL ho hb hg hat; rw [← cI.out] at ho; replace HB := aM (hb); have aI := aM (ho); clear aU; clear ho hb hg hat; obtain ⟨i036, hi036, _, hsz36, _⟩ := info_parts info5; obtain ⟨jM, hcut36, hA36, hC36⟩ := print_mid_of (P := Try.prog) (Value.int .u8) 0 22 5 .i64 .i64 Try.underlying22 hi036 hsz36 A0 c0 l0 (ji16) (wrap64 ((ji16) + 4)) (oda) u3_4 (oda) cZ.out; have aK := aM (Kd.C_of_reads (h1 := fun _ => rfl) (hA36 _ (Kd.reads_of_C cD.out))); have dJ := aM hC36; clear hA36 hC36 hi036 hsz36; (try rw [← show ((l0.take ((wrap64 ((ji16) + 4)) : Int).toNat).drop ((ji16) : Int).toNat).length = ((wrap64 ((ji16) + 4)).toNat - (ji16).toNat) from (by rw [List.length_drop, List.length_take]; have h_ : ((wrap64 ((ji16) + 4)) : Int) ≤ (l0.length : Int) := oda; omega)] at hcut36); obtain ⟨gT, gU, eO⟩ := Kd.R_slice aI.out; subst eO; have p161 : 0 ≤ (0 : Int) := (by omega); have q161 : 0 < (((l0.take ((wrap64 ((ji16) + 4)) : Int).toNat).drop ((ji16) : Int).toNat).length : Int) := oda; obtain ⟨aN, cL, aD⟩ := Kd.at_int aK.out 0 p161 q161; cases cL; have qi161 : (0 < ((l0.take ((wrap64 ((ji16) + 4)) : Int).toNat).drop ((ji16) : Int).toNat).length) = True := eq_true (by omega); (try rw [show ((0 : Int)).toNat = 0 from rfl] at aD); (try rw [Addr.add_zero'] at aD); replace aD := xce HB aD; replace p161 := eq_true p161; replace q161 := eq_true q161; (try have qm161 : (0 < ((((wrap64 ((ji16) + 4)).toNat - (ji16).toNat) : Nat) : Int)) = True := eq_true u3_9); (try have qn161 : (0 < ((wrap64 ((ji16) + 4)).toNat - (ji16).toNat)) = True := eq_true u3_10); have p162 : 0 ≤ (1 : Int) := (by omega); have q162 : 1 < (((l0.take ((wrap64 ((ji16) + 4)) : Int).toNat).drop ((ji16) : Int).toNat).length : Int) := oda; obtain ⟨bP, cM, aE⟩ := Kd.at_int aK.out 1 p162 q162; obtain rfl : aN = bP := (by injection cM); (try simp only [show (1 : Int).toNat = 1 from rfl, Nat.reduceMul, Nat.reduceEqDiff, Go.Addr.add, ↓reduceIte] at aE); have qi162 : (1 < ((l0.take ((wrap64 ((ji16) + 4)) : Int).toNat).drop ((ji16) : Int).toNat).length) = True := eq_true (by omega); (try rw [show ((1 : Int)).toNat = 1 from rfl] at aE); replace aE := xce HB aE; replace p162 := eq_true p162; replace q162 := eq_true q162; (try have qm162 : (1 < ((((wrap64 ((ji16) + 4)).toNat - (ji16).toNat) : Nat) : Int)) = True := eq_true u3_11); (try have qn162 : (1 < ((wrap64 ((ji16) + 4)).toNat - (ji16).toNat)) = True := eq_true u3_12); have p163 : 0 ≤ (2 : Int) := (by omega); have q163 : 2 < (((l0.take ((wrap64 ((ji16) + 4)) : Int).toNat).drop ((ji16) : Int).toNat).length : Int) := oda; obtain ⟨bQ, cN, aG⟩ := Kd.at_int aK.out 2 p163 q163; obtain rfl : aN = bQ := (by injection cN); (try simp only [show (2 : Int).toNat = 2 from rfl, Nat.reduceMul, Nat.reduceEqDiff, Go.Addr.add, ↓reduceIte] at aG); have qi163 : (2 < ((l0.take ((wrap64 ((ji16) + 4)) : Int).toNat).drop ((ji16) : Int).toNat).length) = True := eq_true (by omega); (try rw [show ((2 : Int)).toNat = 2 from rfl] at aG); replace aG := xce HB aG; replace p163 := eq_true p163; replace q163 := eq_true q163; (try have qm163 : (2 < ((((wrap64 ((ji16) + 4)).toNat - (ji16).toNat) : Nat) : Int)) = True := eq_true u3_13); (try have qn163 : (2 < ((wrap64 ((ji16) + 4)).toNat - (ji16).toNat)) = True := eq_true u3_14); have p164 : 0 ≤ (3 : Int) := (by omega); have q164 : 3 < (((l0.take ((wrap64 ((ji16) + 4)) : Int).toNat).drop ((ji16) : Int).toNat).length : Int) := oda; obtain ⟨bR, cO, aH⟩ := Kd.at_int aK.out 3 p164 q164; obtain rfl : aN = bR := (by injection cO); (try simp only [show (3 : Int).toNat = 3 from rfl, Nat.reduceMul, Nat.reduceEqDiff, Go.Addr.add, ↓reduceIte] at aH); have qi164 : (3 < ((l0.take ((wrap64 ((ji16) + 4)) : Int).toNat).drop ((ji16) : Int).toNat).length) = True := eq_true (by omega); (try rw [show ((3 : Int)).toNat = 3 from rfl] at aH); replace aH := xce HB aH; replace p164 := eq_true p164; replace q164 := eq_true q164; (try have qm164 : (3 < ((((wrap64 ((ji16) + 4)).toNat - (ji16).toNat) : Nat) : Int)) = True := eq_true u3_15); (try have qn164 : (3 < ((wrap64 ((ji16) + 4)).toNat - (ji16).toNat)) = True := eq_true u3_16)) | (go_at_call 173; (with_reducible refine (spec_Sum.calls eL _ _ bE bH _ ?side1 ?side2 fU.out).mono ?_); (case side1 => exact xC aI); (case side2 => exact (Kd.R_reads' aI.out).2.1); rintro e w' ⟨rfl, ⟨nd, rfl⟩⟩; (try first | exact ⟨rfl, _, World.drewN_drewN _ _ _⟩ | exact ⟨rfl, _, Eq.trans (World.drewN_drewN _ _ _) (congrArg (World.drewN _) (Nat.add_assoc _ _ _))⟩)) | ((with_reducible refine gD 76 rfl ?_); refine Kd.R_lit (Kd.int .u8) _ 5 ?hg (N := 76) ?hd (xs := ([] : List Int)) (inner := []) (ok := fun _ => True) (okp := fun _ => True) ?hr ?hp (fun _ hk => hk) trivial (Below.refl _ _) (Nat.le_refl _) (by simp) ?_; (case hd => rfl); (case hg => rfl); (case hr => exact u3_2); (case hp => exact (Reps.none _ _)); intro gV jN bI hb hg_ hnew_; clear hg_ hnew_; (first | rw [← cW.out] at bI | (simp only [Int.reduceToNat] at bI; rw [← cW.out] at bI)); have eE := aM (Kd.R_lower (Kd.R_new' bI (Kd.R_lt (xr aI))) (below_size xbel)); replace aI := aM (Kd.R_elder' (xr aI) (Kd.R_base bI) hb); replace HB := xbs hb; clear hb bI))))
                 go_ret3
                 exact ⟨_, u3_19, by (with_reducible repeat (first | apply Kd.R_alloc | apply Kd.R_drewN | apply Kd.R_drew)); exact Kd.R_mono eE.out (fun _ hk => trivial), xbel⟩
               ·rw [if_neg fX] at H; exact absurd H (by simp)
              ·rw [if_neg fW] at H; exact absurd H (by simp)
             ·rw [if_neg fV] at H; exact absurd H (by simp)
            ·rw [if_neg dW] at H; exact absurd H (by simp)
           ·rw [if_neg fT] at H; exact absurd H (by simp)
          ·rw [if_neg dV] at H; exact absurd H (by simp)
         ·rw [if_neg eV] at H; exact absurd H (by simp)
        ·rw [if_neg fS] at H; exact absurd H (by simp)
       ·rw [if_neg bZ] at H; exact absurd H (by simp)
      ·rw [if_neg dC] at H; exact absurd H (by simp)
     ·rw [if_neg dB] at H; exact absurd H (by simp)

/-! ### spec_JournalRead: function 69 -/
mutual
def spec_JournalRead.l0 : Nat → List ByteArray → List Int → Int → Option (List ByteArray × Int)
 | 0, _, _, _ => none
 | k + 1, x6, x9, eP => if eP < (x9.length : Int) then (spec_JournalRead.j1 k x6 x9 eP (decide ((x6.length : Int) < 2000))) else (spec_JournalRead.j1 k x6 x9 eP false)
def spec_JournalRead.j1 : Nat → List ByteArray → List Int → Int → Bool → Option (List ByteArray × Int)
 | 0, _, _, _, _ => none
 | k + 1, x6, x9, eP, jO => if jO = true then ((spec_Unseal.f k x9 eP).bind fun dK => (if dK.2.2 = 0 then (if x6.length < 8796093022208 then (spec_JournalRead.l0 k (x6 ++ [strOfNums dK.1]) x9 dK.2.1) else (none)) else (some (x6, eP)))) else (some (x6, eP))
end
def spec_JournalRead.f (k : Nat) (aY : Int) (aT : List (S95)) (a1 : Int) : Option (List ByteArray × Int) := (some (([] : List ByteArray) : List ByteArray)).bind fun bW => ((spec_DiskRead.f k aY aT a1).bind fun aV => (if aV.2 = true then (if aV.1.size ≤ 9223372036854775807 then (spec_JournalRead.l0 k bW (bytesOf aV.1) 0) else (none)) else (some (bW, 0))))
theorem u3_mq3 {p : Prop} (h : p := by repeat' first | (with_reducible first | exact dD _ _ _ | exact eT _ _ _ _ | exact spec_DiskRead.mono _ _ _ _ | exact spec_Unseal.mono _ _ _ | exact LeO.refl _ | exact LeO.none _ | refine LeO.ite ?_ ?_ | refine LeO.bind ?_ (fun _ => ?_)) | exact LeO.none _ | refine LeO.ite ?_ ?_ | refine LeO.bind ?_ (fun _ => ?_)) : p := h
set_option maxRecDepth 100000 in
theorem spec_JournalRead.mono_l : ∀ k, (∀ y0 y1 y2, LeO (spec_JournalRead.l0 k y0 y1 y2) (spec_JournalRead.l0 (k + 1) y0 y1 y2)) ∧ (∀ y0 y1 y2 y3, LeO (spec_JournalRead.j1 k y0 y1 y2 y3) (spec_JournalRead.j1 (k + 1) y0 y1 y2 y3))
 | 0 => ⟨fun _ _ _ r h => by simp [spec_JournalRead.l0] at h, fun _ _ _ _ r h => by simp [spec_JournalRead.j1] at h⟩
 | k + 1 => by
  obtain ⟨dD, eT⟩ := spec_JournalRead.mono_l k; refine ⟨?_, ?_⟩
  ·intro y0 y1 y2; unfold spec_JournalRead.l0; exact u3_mq3
  ·intro y0 y1 y2 y3; unfold spec_JournalRead.j1; exact u3_mq3
theorem spec_JournalRead.mono : ∀ a0 a1 a2 k, LeO (spec_JournalRead.f k a0 a1 a2) (spec_JournalRead.f (k + 1) a0 a1 a2) := by
 intro a0 a1 a2 k
 obtain ⟨dD, eT⟩ := spec_JournalRead.mono_l k
 unfold spec_JournalRead.f
 exact u3_mq3
set_option maxHeartbeats 8000000 in
set_option maxRecDepth 100000 in
theorem spec_JournalRead.calls (k : Nat) (aY : Int) (bX : Option Addr) (bY : Nat) (aT : List (S95)) (a1 : Int) (r1 : List ByteArray) (r2 : Int) (w : World) (eF : Kd.C k95 w bX aT.length aT) (eG : aT.length ≤ bY) (h : spec_JournalRead.f k aY aT a1 = some (r1, r2)) :
 Calls Try.prog 69 #[.agg #[.int .i64 aY, .slice bX aT.length bY], .int .i64 a1] w fun e w' => ∃ v0_ : Value, e = .returned (.tuple #[v0_, .int .i64 r2]) ∧ Kd.R Kd.string 9 w' w.heap.size (fun _ => True) v0_ r1 ∧ Below w.heap.size w w' := by
 have jP := Try.underlying26
 have eH := aM eF
 have eI := aM eG
 clear eF eG
 have HB := aM (Below.refl w.heap.size w)
 have H : ((some (([] : List ByteArray) : List ByteArray)).bind fun bW => ((spec_DiskRead.f k aY aT a1).bind fun aV => (if aV.2 = true then (if aV.1.size ≤ 9223372036854775807 then (spec_JournalRead.l0 k bW (bytesOf aV.1) 0) else (none)) else (some (bW, 0))))) = some (r1, r2) := h
 clear h
 obtain ⟨bW, hY⟩ : ∃ y_ : List ByteArray, y_ = (([] : List ByteArray)) := ⟨_, rfl⟩
 replace H : ((spec_DiskRead.f k aY aT a1).bind fun aV => (if aV.2 = true then (if aV.1.size ≤ 9223372036854775807 then (spec_JournalRead.l0 k bW (bytesOf aV.1) 0) else (none)) else (some (bW, 0)))) = some (r1, r2) := u3_3
 have cX := aM hY
 clear hY
 replace H := oB H
 obtain ⟨⟨cP, gW⟩, eK, H⟩ := H
 (try dsimp only at H)
 have A3 := aM eK
 clear eK
 by_cases c4 : gW = true
 ·subst c4; replace H := iT H; by_cases c5 : cP.size ≤ 9223372036854775807
  ·rw [if_pos c5] at H; have fA := eq_true c5; have fB : decide (cP.size ≤ 9223372036854775807) = true := decide_eq_true c5; try have fC : (9223372036854775807 < cP.size) = False := eq_false (Nat.not_lt.2 c5)
   clear c5; obtain ⟨bJ, hY⟩ : ∃ y_ : List Int, y_ = (bytesOf cP) := ⟨_, rfl⟩; replace H : (spec_JournalRead.l0 k bW bJ 0) = some (r1, r2) := u3_3; have eJ := aM hY; clear hY; have H' := aM H; clear H; go_enter Try.func69, Try.ntmps69
   go_wp2_with (first | ((with_reducible refine gD 2 rfl ?_); (try (refine gate_guard (by rfl) ?_; dsimp only)); refine boxE (N := 2) rfl (cs := #[.int .i64 aY, .slice bX aT.length bY]) (t := 26) ?_; intro bG hg w6 hbox hb; have aJ := aM (hbox); have fD := aM (xge hg); have fE := aM (xge hg); replace HB := xbs hb; clear hb hbox hg) | ((with_reducible refine gD 14 rfl ?_); (try (refine gate_guard (by rfl) ?_; dsimp only)); refine Kd.R_lit Kd.string _ 9 ?hg (N := 14) ?hd (xs := ([] : List ByteArray)) (inner := []) (ok := fun _ => True) (okp := fun _ => True) ?hr ?hp (fun _ hk => hk) trivial (Below.refl _ _) (Nat.le_refl _) (by simp) ?_; (case hd => rfl); (case hg => rfl); (case hr => exact u3_2); (case hp => exact (Reps.none _ _)); intro fF w7 cH hb hg_ hnew_; clear hg_ hnew_; (first | rw [← cX.out] at cH | (simp only [Int.reduceToNat] at cH; rw [← cX.out] at cH)); have bB := aM (Kd.R_lower cH (below_size xbg)); replace aJ := xbb aJ hb; replace HB := xbs hb; clear hb cH; obtain ⟨dL, dM, dN, dO⟩ := xf2 (w := w7) aJ) | ((with_reducible refine gC 130 rfl ?_); refine goesLY (some 18) rfl Try.func130 #[.agg #[.int .i64 aY, .slice bX aT.length bY], .int .i64 a1] ?_; (with_reducible refine (spec_DiskRead.calls k aY _ _ aT a1 cP true _ ?side1 ?side2 A3.out).mono ?_); (case side1 => exact xcb eH); (case side2 => exact eI.out); rintro e gO ⟨rfl, hb⟩; refine ⟨_, rfl, ?_⟩; replace bB := xrb bB hb; replace aJ := xbb aJ hb; replace HB := xbs hb; (try clear hb)) | ((with_reducible refine gD 25 rfl ?_); (try (refine gate_guard (by rfl) ?_; dsimp only)); refine Kd.V_conv _ 5 rfl (N := 25) rfl 9 22 _ rfl cP rfl Try.underlying9 Try.underlying22 Try.underlying5 (oda) (ok := fun k_ => gO.heap.size ≤ k_) (Nat.le_refl _) (Below.refl _ _) (Nat.le_refl _) ?_; intro fG jZ dP hb hg_ hnew_; clear hg_ hnew_; (first | rw [← eJ.out] at dP | (simp only [Int.reduceToNat] at dP; rw [← eJ.out] at dP)); have fH := aM (Kd.V_lower (Kd.V_mono (ok' := fun k_ => some k_ ≠ (fF : Value).ownBlock ∧ k_ ≠ bG) dP (fun k_ hk_ => ⟨(Kd.fresh' (Kd.R_lt (xr bB)) k_ hk_), (Kd.freshB (g := bG) (o := .cells #[.int .i64 aY, .slice bX aT.length bY] 26 (0, 0)) xblk k_ hk_)⟩)) (below_size xbg)); replace bB := xrb bB hb; replace aJ := xbb aJ hb; replace HB := xbs hb; clear hb dP))
   go_loopg [6, 10] k (fun kq v6 jQ w' => ∃ (cB : List ByteArray) (aW : Int), jQ = .int .i64 aW ∧ Aside0 (spec_JournalRead.l0 kq cB bJ aW = some (r1, r2)) ∧ Aside0 (kq ≤ k) ∧ Aside0 (Kd.R Kd.string 9 w' w.heap.size (fun _ => True) v6 cB) ∧ Aside0 (Kd.V (Kd.int .u8) 5 w' w.heap.size (fun k_ => some k_ ≠ (v6 : Value).ownBlock ∧ k_ ≠ bG) fG bJ) ∧ Aside0 (w'.heap[bG]? = some (.cells #[.int .i64 aY, (.slice bX aT.length bY)] 26 (0, 0))) ∧ Aside0 (Below w.heap.size w w'))
   case atStart => exact ⟨(bW), (0), u3_0, H', ⟨Nat.le_refl _⟩, ⟨u3_20⟩, ⟨by (with_reducible repeat (first | apply Kd.V_alloc | apply Kd.V_drewN | apply Kd.V_drew)); exact fH.out⟩, ⟨xblk⟩, ⟨xbg⟩⟩
   case round =>
    clear H'; try clear c1
    try clear p2
    try clear c4
    try clear c5
    try clear fA
    try clear fB
    try clear fC
    try clear c6
    try clear dL dM dN dO
    obtain ⟨cB, aW, rfl, HA, HK1, bL, bA, aJ, HB⟩ := hrel; cases gk with
    | zero => exact absurd HA.out (by simp [spec_JournalRead.l0])
    | succ k1 =>
     have H := HA.out; clear HA; simp only [spec_JournalRead.l0] at H; have eQ := aM H; clear H; go_upto_region 7 with (fail)
     go_cut [34] (fun jR wc => ∃ (kq : Nat) (cC : Bool), jR = .bool cC ∧ Aside0 (spec_JournalRead.j1 kq cB bJ aW cC = some (r1, r2)) ∧ Aside0 (kq ≤ k1) ∧ Aside0 (Kd.R Kd.string 9 wc w.heap.size (fun _ => True) u6 cB) ∧ Aside0 (Kd.V (Kd.int .u8) 5 wc w.heap.size (fun k_ => some k_ ≠ (u6 : Value).ownBlock ∧ k_ ≠ bG) fG bJ) ∧ Aside0 (wc.heap[bG]? = some (.cells #[.int .i64 aY, (.slice bX aT.length bY)] 26 (0, 0))) ∧ Aside0 (Below w.heap.size w wc))
     case first =>
      have H := eQ.out; clear eQ; by_cases bZ : aW < (bJ.length : Int)
      ·rw [if_pos bZ] at H; have aZ : decide (aW < (bJ.length : Int)) = true := decide_eq_true bZ; clear bZ; (first | rw [aZ] | (simp only [i64_w, i32_w]; rw [aZ]) | skip); have H' := aM H; clear H; obtain ⟨jS, jT, gX⟩ := Kd.V_slice bA.out; subst gX; obtain ⟨jU, jV, gY⟩ := Kd.R_slice bL.out; subst gY; go_wp2; go_meet
       case rel => exact ⟨_, (decide ((cB.length : Int) < 2000)), u3_0, H', ⟨by have := HK1.out; first | omega | exact Nat.le_refl _⟩, ⟨u3_17⟩, ⟨u3_18⟩, ⟨xblk⟩, ⟨xbg⟩⟩
      ·rw [if_neg bZ] at H; have aZ : decide (aW < (bJ.length : Int)) = false := decide_eq_false bZ; clear bZ; (first | rw [aZ] | (simp only [i64_w, i32_w]; rw [aZ]) | skip); have H' := aM H; clear H; obtain ⟨jW, jX, gZ⟩ := Kd.V_slice bA.out; subst gZ; go_wp2; go_meet
       case rel => exact ⟨_, (false), u3_0, H', ⟨by have := HK1.out; first | omega | exact Nat.le_refl _⟩, ⟨u3_17⟩, ⟨u3_18⟩, ⟨xblk⟩, ⟨xbg⟩⟩
     case rest =>
      clear eQ; try clear c1
      try clear p2
      try clear c4
      try clear c5
      try clear fA
      try clear fB
      try clear fC
      try clear c6
      try clear dC
      try clear bZ
      try clear aZ
      try clear dL dM dN dO
      try clear p2
      obtain ⟨kq, cC, rfl, HA, HJ12, bL, bA, aJ, HB⟩ := hcut; cases kq with
      | zero => exact absurd HA.out (by simp [spec_JournalRead.j1])
      | succ dX =>
       have H := HA.out; clear HA; simp only [spec_JournalRead.j1] at H; by_cases dV : cC = true
       ·subst dV; replace H := iT H; replace H := oB H; obtain ⟨⟨dQ, dY, eR⟩, fI, H⟩ := H; (try dsimp only at H); have jA := aM fI; clear fI
        by_cases fJ : eR = 0
        ·rw [if_pos fJ] at H; obtain ⟨fK, fL⟩ := bT fJ; clear fJ; by_cases dW : cB.length < 8796093022208
         ·rw [if_pos dW] at H; have LMc21 := aM dW; clear dW; obtain ⟨fM, hY⟩ : ∃ y_ : List ByteArray, y_ = (cB ++ [strOfNums dQ]) := ⟨_, rfl⟩; replace H : (spec_JournalRead.l0 dX fM bJ dY) = some (r1, r2) := u3_3; have fN := aM hY; clear hY; have H' := aM H; clear H; obtain ⟨hJ, hU, hX⟩ := Kd.V_slice bA.out; subst hX; go_wp2_with (first | ((with_reducible refine gC 131 rfl ?_); refine goesLY (some 38) rfl Try.func131 #[.slice hJ bJ.length hU, .int .i64 aW] ?_; (with_reducible refine (spec_Unseal.calls dX _ _ bJ aW dQ dY eR _ ?side1 ?side2 jA.out).mono ?_); (case side1 => repeat (first | exact (Kd.V_reads' bA.out).2.2 | (with_reducible refine Kd.C_alloc ?_ _) | (with_reducible refine Kd.C_drewN ?_ _) | (with_reducible refine Kd.C_drew ?_))); (case side2 => exact (Kd.V_reads' bA.out).2.1); rintro e kA ⟨fO, rfl, eS, hb⟩; refine ⟨_, rfl, ?_⟩; replace bL := xrb bL hb; replace bA := aM (Kd.V_elder' u3_18 (Kd.R_base eS) hb); have cY := aM (Kd.R_lower eS (below_size xbg)); replace aJ := xbb aJ hb; replace HB := xbs hb; (try clear hb eS); have hcv24 := own_string (P := Try.prog) Try.underlying22 Try.underlying5 Try.underlying9 (Kd.own_of_R cY.out)) | ((with_reducible refine gate_builtin (b := .append) (xs := #[.tmp 46, .tmp 49]) rfl ?_); (try (refine gate_guard (by rfl) ?_; dsimp only)); at_builtin; refine Kd.R_append Kd.string (w0 := w) w.heap.size rfl (.tmp 46) (.tmp 49) 27 9 (.string ⟨#[]⟩) 16 rfl Try.underlying27 info9 rfl (by decide) (by omega) u6 cB (strOfNums dQ) [.string (strOfNums dQ)] (fun _ => True) (fun _ => False) rfl rfl ?aP (fun _ hk => hk.elim) ?aF ?aO ?aB ?aS ?aL ?_; (case aP => exact rfl); (case aB => exact xbg); (case aF => exact (fun _ _ => trivial)); (case aO => exact (xr bL)); (case aS => exact (below_size xbg)); (case aL => have := LMc21.out; omega); intro jY kB ho hb hg hat; rw [← fN.out] at ho; replace bA := aM (Kd.V_afterv (ok := (fun k_ => some k_ ≠ (fO : Value).ownBlock ∧ k_ ≠ bG)) (by (with_reducible repeat (first | apply Kd.V_alloc | apply Kd.V_drewN | apply Kd.V_drew)); exact Kd.V_mono bA.out (fun _ hk => ⟨⟨hk.2, hk.1.2⟩, hk.1.1⟩)) hg hat); replace aJ := aM (blk_grown (g := bG) (o := .cells #[.int .i64 aY, .slice bX aT.length bY] 26 (0, 0)) xblk hg (Kd.R_ne bL.out aJ.out (by decide))); replace cY := aM (Kd.R_over' (xr cY) (Kd.R_typed (xr bL)) (by decide) hg); replace HB := aM (hb); have fP := aM (ho); clear bL; clear ho hb hg hat))
          go_roundg dX
          case measure => have := HK1.out; have := HJ12.out; omega
          case rel => exact ⟨(fM), (dY), u3_0, H', ⟨by have := HK1.out; have := HJ12.out; omega⟩, ⟨by (with_reducible repeat (first | apply Kd.R_alloc | apply Kd.R_drewN | apply Kd.R_drew)); exact fP.out⟩, ⟨by (with_reducible repeat (first | apply Kd.V_alloc | apply Kd.V_drewN | apply Kd.V_drew)); exact Kd.V_mono bA.out (fun _ hk => ⟨hk.2, hk.1.2⟩)⟩, ⟨xblk⟩, ⟨xbg⟩⟩
         ·rw [if_neg dW] at H; exact absurd H (by simp)
        ·rw [if_neg fJ] at H; obtain ⟨fK, fL⟩ := bF fJ; simp only [Option.some.injEq, Prod.mk.injEq] at H; obtain ⟨rfl, rfl⟩ := H; obtain ⟨hZ, iA, iB⟩ := Kd.V_slice bA.out; subst iB; go_wp2_with (first | ((with_reducible refine gC 131 rfl ?_); refine goesLY (some 38) rfl Try.func131 #[.slice hZ bJ.length iA, .int .i64 aW] ?_; (with_reducible refine (spec_Unseal.calls dX _ _ bJ aW dQ dY eR _ ?side1 ?side2 jA.out).mono ?_); (case side1 => repeat (first | exact (Kd.V_reads' bA.out).2.2 | (with_reducible refine Kd.C_alloc ?_ _) | (with_reducible refine Kd.C_drewN ?_ _) | (with_reducible refine Kd.C_drew ?_))); (case side2 => exact (Kd.V_reads' bA.out).2.1); rintro e kC ⟨fO, rfl, eS, hb⟩; refine ⟨_, rfl, ?_⟩; replace bL := xrb bL hb; replace bA := aM (Kd.V_elder' u3_18 (Kd.R_base eS) hb); have cY := aM (Kd.R_lower eS (below_size xbg)); replace aJ := xbb aJ hb; replace HB := xbs hb; (try clear hb eS)))
         go_ret2
         exact ⟨_, xerr, u3_17, xbg⟩
       ·replace dV := Bool.eq_false_iff.mpr dV; subst dV; replace H := iN H; simp only [Option.some.injEq, Prod.mk.injEq] at H; obtain ⟨rfl, rfl⟩ := H; go_wp2; go_ret2
        exact ⟨_, xerr, u3_17, xbg⟩
  ·rw [if_neg c5] at H; exact absurd H (by simp)
 ·replace c4 := Bool.eq_false_iff.mpr c4; subst c4; replace H := iN H; simp only [Option.some.injEq, Prod.mk.injEq] at H; obtain ⟨rfl, rfl⟩ := H; go_enter Try.func69, Try.ntmps69
  go_wp2_with (first | ((with_reducible refine gD 2 rfl ?_); (try (refine gate_guard (by rfl) ?_; dsimp only)); refine boxE (N := 2) rfl (cs := #[.int .i64 aY, .slice bX aT.length bY]) (t := 26) ?_; intro bG hg kE hbox hb; have aJ := aM (hbox); have fD := aM (xge hg); have fE := aM (xge hg); replace HB := xbs hb; clear hb hbox hg) | ((with_reducible refine gD 14 rfl ?_); (try (refine gate_guard (by rfl) ?_; dsimp only)); refine Kd.R_lit Kd.string _ 9 ?hg (N := 14) ?hd (xs := ([] : List ByteArray)) (inner := []) (ok := fun _ => True) (okp := fun _ => True) ?hr ?hp (fun _ hk => hk) trivial (Below.refl _ _) (Nat.le_refl _) (by simp) ?_; (case hd => rfl); (case hg => rfl); (case hr => exact u3_2); (case hp => exact (Reps.none _ _)); intro fF gP dR hb hg_ hnew_; clear hg_ hnew_; (first | rw [← cX.out] at dR | (simp only [Int.reduceToNat] at dR; rw [← cX.out] at dR)); have bB := aM (Kd.R_lower dR (below_size xbg)); replace aJ := xbb aJ hb; replace HB := xbs hb; clear hb dR; obtain ⟨fY, fZ, gA, gB⟩ := xf2 (w := gP) aJ) | ((with_reducible refine gC 130 rfl ?_); refine goesLY (some 18) rfl Try.func130 #[.agg #[.int .i64 aY, .slice bX aT.length bY], .int .i64 a1] ?_; (with_reducible refine (spec_DiskRead.calls k aY _ _ aT a1 cP false _ ?side1 ?side2 A3.out).mono ?_); (case side1 => exact xcb eH); (case side2 => exact eI.out); rintro e iZ ⟨rfl, hb⟩; refine ⟨_, rfl, ?_⟩; replace bB := xrb bB hb; replace aJ := xbb aJ hb; replace HB := xbs hb; (try clear hb)))
  go_ret2
  exact ⟨_, xerr, u3_20, xbg⟩

theorem u4_0 {p : Prop} (h : p := by first | rfl | (simp; done) | (simp [*]; done)) : p := h
theorem u4_1 {p : Prop} (h : p := by first | (rw [hY]; with_reducible exact H) | (have H2_ := oS H; rw [hY]; with_reducible exact H2_) | (have H2_ := oS H; with_reducible exact H2_) | with_reducible exact H | (rw [hY]; exact H) | exact H) : p := h
theorem u4_2 {p : Prop} (h : p := by exact (fun k_ hk => Kd.freshB (g := aN) (o := .cells #[.int .i64 aV, .string aX, .string aY] 95 (0, 0)) xblk k_ hk)) : p := h
theorem u4_3 {p : Prop} (h : p := by have := HK1.out; have := HJ14.out; omega) : p := h
theorem u4_4 {p : Prop} (h : p := by (with_reducible repeat (first | apply Kd.R_alloc | apply Kd.R_drewN | apply Kd.R_drew)); exact aA.out) : p := h
theorem u4_5 {p : Prop} (h : p := by exact k95_mkM _ _ _ (⟨aV, aX, aY⟩ : S95)) : p := h
theorem u4_6 {p : Prop} (h : p := by exact k95_mkM _ _ _ (⟨(rd_T95 aE aC).f0, (rd_T95 aE aC).f1, (rd_T95 aE aC).f2⟩ : S95)) : p := h
/-! ### spec_l3Copy: function 135 -/
def spec_l3Copy.f (aK : Int) (aE : List (S95)) : Option (Int × (List (S95))) := (some (([] : List (S95)) : List (S95))).bind fun dF => (if dF.length + aE.length < 3518437208883 then (some (aK, (dF ++ aE))) else (none))
def spec_l3Copy.T1 : Bool × List (List Nat × List Nat) := (true, [([], []), ([0], [0]), ([], []), ([], []), ([3], [3]), ([2, 4], [2, 4]), ([1, 5], [1, 5]), ([6, 5, 0, 1, 2, 3, 4, 5, 6], [6])])
def spec_l3Copy.B1 : List Nat := [0, 1, 0, 0, 8, 28, 63, 127]
set_option maxHeartbeats 8000000 in
set_option maxRecDepth 100000 in
theorem spec_l3Copy.calls (aK : Int) (cK : Option Addr) (bO : Nat) (aE : List (S95)) (r1 : Int) (r2 : List (S95)) (w : World) (dS : Kd.C k95 w cK aE.length aE) (dU : aE.length ≤ bO) (h : spec_l3Copy.f aK aE = some (r1, r2)) :
 Calls Try.prog 135 #[.agg #[.int .i64 aK, .slice cK aE.length bO]] w fun e w' => ∃ v1_ : Value, e = .returned (.agg #[.int .i64 r1, v1_]) ∧ Kd.R k95 95 w' w.heap.size (fun _ => True) v1_ r2 ∧ Below w.heap.size w w' := by
 have jR := Try.underlying26
 have cL := aM dS
 have fC := aM dU
 clear dS dU
 have HB := aM (Below.refl w.heap.size w)
 have H : ((some (([] : List (S95)) : List (S95))).bind fun dF => (if dF.length + aE.length < 3518437208883 then (some (aK, (dF ++ aE))) else (none))) = some (r1, r2) := h
 clear h
 obtain ⟨dF, hY⟩ : ∃ y_ : List (S95), y_ = (([] : List (S95))) := ⟨_, rfl⟩
 replace H : (if dF.length + aE.length < 3518437208883 then (some (aK, (dF ++ aE))) else (none)) = some (r1, r2) := u4_1
 have eN := aM hY
 clear hY
 by_cases c2 : dF.length + aE.length < 3518437208883
 ·rw [if_pos c2] at H; have LMc2 := aM c2; clear c2; obtain ⟨fD, hY⟩ : ∃ y_ : List (S95), y_ = (dF ++ aE) := ⟨_, rfl⟩; replace H : (some (aK, fD)) = some (r1, r2) := u4_1; have fE := aM hY; clear hY; simp only [Option.some.injEq, Prod.mk.injEq] at H; obtain ⟨rfl, rfl⟩ := H; go_enter Try.func135, Try.ntmps135
  try go_wp2_with (first | ((with_reducible refine gD 1 rfl ?_); refine boxE (N := 1) rfl (cs := #[.int .i64 aK, .slice cK aE.length bO]) (t := 26) ?_; intro fF hg w3 hbox hb; have bN := aM (hbox); have kL := aM (xge hg); have kM := aM (xge hg); replace HB := xbs hb; clear hb hbox hg) | ((with_reducible refine gD 2 rfl ?_); refine boxE (N := 2) rfl (cs := #[.int .i64 0, .slice none 0 0]) (t := 26) ?_; intro cS hg w4 hbox hb; have kN := aM (xge hg); have kO := aM (xge hg); replace HB := xbs hb; have cA := nblt bN hg; have dI := nbgt bN hg; replace bN := xbb bN hb; have cE := aM (hbox); clear hb hbox hg))
  replace bN := bD bN; replace cE := bD cE; replace HB := lD HB; refine sb2 8 spec_l3Copy.T1 spec_l3Copy.B1 bN (fun hHeld HT_ HW_ => ?_); generalize w4.drew = w5 at bN cE HB hHeld ⊢; refine pV 0 3 ?_; refine pV 3 6 ?_; refine tK 1 4 ?_; refine tK 4 7 ?_; refine oN 2 5 fun K hK => ?_
  refine Kd.R_lit_step k95 _ 95 ?hg (N := 5) ?hd (xs := ([] : List (S95))) (inner := []) (ok := fun _ => True) (okp := fun _ => True) ?hr ?hp (fun _ hk => hk) trivial (Below.refl _ _) (Nat.le_refl _) (by simp) ?_; (case hd => rfl); (case hg => rfl); (case hr => first | (go_simp; done) | (go_simp; rfl)); (case hp => exact (Reps.none _ _)); intro jS w6 fG hb hg_ hnew_; clear hg_ hnew_; (first | rw [← eN.out] at fG | (simp only [Int.reduceToNat] at fG; rw [← eN.out] at fG)); have dW := aM (Kd.R_lower fG (below_size xbg)); replace bN := xbb bN hb; replace cE := xbb cE hb; replace HB := xbs hb; clear hb fG; refine hK.out _ _ ⟨xc bN 0 rfl, xc bN 1 rfl⟩ (fun hHeld => ?_); clear hK K; refine nm_ (N := 5) ?_; refine oN 5 8 fun K hK => ?_
  refine Kd.R_append_rows_step k95 (w0 := w) w.heap.size (by rfl) (.tmp 5) (.tmp 7) 24 95 (.agg #[(.int .i64 0), (.string ⟨#[]⟩), (.string ⟨#[]⟩)]) 40 rfl Try.underlying24 info95 rfl (by decide) (by omega) jS dF aE _ _ _ (fun _ => True) (fun _ => False) rfl rfl ?aO ?aR (fun _ _ h => h) (fun _ h => h.elim) ?aF ?aB ?aS ?aL ?_; (case aR => exact xcb cL); (case aB => exact xbg); (case aF => exact (fun _ _ => trivial)); (case aO => exact (xr dW)); (case aS => exact (below_size xbg)); (case aL => have := LMc2.out; omega); intro nK w8 ho hb hg hat; rw [← fE.out] at ho; replace bN := aM (blk_grown (g := fF) (o := .cells #[.int .i64 aK, .slice cK aE.length bO] 26 (0, 0)) xblk hg (Kd.R_ne dW.out bN.out (by decide))); replace cE := aM (blk_grown (g := cS) (o := .cells #[.int .i64 0, .slice none 0 0] 26 (0, 0)) xblk hg (Kd.R_ne dW.out cE.out (by decide))); replace HB := aM (hb); have eO := aM (ho); clear dW ho hb hg hat; obtain ⟨nL, nM, kP⟩ := Kd.R_slice eO.out; (first | subst kP | (injection kP with f1_ f2_ f3_; have f4_ := f1_.symm; have f5_ := f3_.symm; clear f1_ f2_ f3_; subst f4_; subst f5_)); refine hK.out _ _ ⟨xc bN 0 rfl, xc bN 1 rfl⟩ (fun hHeld => ?_); clear hK K; refine nm_ (N := 8) ?_; refine pV 6 9 ?_; refine one_ (i := 7) (N := none) #[true, true, true, true, true, true, true, true] rfl rfl (one_of HT_.out (by kernel_rfl)) (by decide) (fun K hK => ?_); have hs10 : w8.cell? ⟨cS, 0, none⟩ = some (.int .i64 0) := xc cE 0 rfl; have hfs10 := blk_frozen cE.out 0; have hns10_0 := cA.out; have hms10_0 := dI.out; have hs11 : w8.cell? ⟨cS, 1, none⟩ = some (.slice none 0 0) := xc cE 1 rfl; have hfs11 := blk_frozen cE.out 1; have hns11_0 := cA.out; have hms11_0 := dI.out; refine skip_ (w1 := ?_) (by rfl) rfl ?_ ?_; rotate_left
  ·go_simp
   rfl
  refine hK.out _ _ ⟨((cell_far (p := ⟨cS, _, none⟩) cA.out _).trans (((cell_far (p := ⟨cS, _, none⟩) cA.out _).trans (hHeld.1)))), ((cell_far (p := ⟨cS, _, none⟩) cA.out _).trans (((cell_far (p := ⟨cS, _, none⟩) cA.out _).trans (hHeld.2))))⟩ (fun hHeld => ?_); clear hK K; refine dn_ ?_; try go_wp2
  refine bodyPost_ret (results_cell_row rfl _ _ cS 26 #[.int .i64 aK, .slice nL fD.length nM] (0, 0) _ rfl xP Try.underlying26 rfl (by kernel_rfl)) rfl ?_; exact ⟨_, xerr, xrm eO (fun _ _ => trivial), xbg⟩
 ·rw [if_neg c2] at H; exact absurd H (by simp)

/-! ### spec_l1Min: function 136 -/
def spec_l1Min.f (a0 : Int) (a1 : Int) : Option (Int) := if a0 < a1 then (some a0) else (some a1)
set_option maxHeartbeats 8000000 in
set_option maxRecDepth 100000 in
theorem spec_l1Min.calls (a0 : Int) (a1 : Int) (r : Int) (w : World) (h : spec_l1Min.f a0 a1 = some r) :
 Calls Try.prog 136 #[.int .i64 a0, .int .i64 a1] w fun e w' => e = .returned (.int .i64 r) ∧ Drawn0 w w' := by
 have H : (if a0 < a1 then (some a0) else (some a1)) = some r := h
 clear h
 by_cases c3 : a0 < a1
 ·rw [if_pos c3] at H; have jT : decide (a0 < a1) = true := decide_eq_true c3; clear c3; obtain rfl := Option.some.inj H; go_enter Try.func136, Try.ntmps136
  go_wp2; go_ret
  exact ⟨u4_0, by repeat (first | exact Drawn0.refl _ | apply Drawn0.step)⟩
 ·rw [if_neg c3] at H; have jT : decide (a0 < a1) = false := decide_eq_false c3; clear c3; obtain rfl := Option.some.inj H; go_enter Try.func136, Try.ntmps136
  go_wp2; go_ret
  exact ⟨u4_0, by repeat (first | exact Drawn0.refl _ | apply Drawn0.step)⟩

/-! ### spec_l3Put: function 137 -/
mutual
def spec_l3Put.l0 : Nat → Bool → Int → Int → List (S95) → Int → ByteArray → ByteArray → Int → List (S95) → Option (Int × (List (S95)))
 | 0, _, _, _, _, _, _, _, _, _ => none
 | k + 1, x6, x7, cD, aQ, bE, bP, bQ, bR, bI => if x7 < (aQ.length : Int) then (if x6 = true then (spec_l3Put.j1 k x6 x7 false cD aQ bE bP bQ bR bI) else (if 0 ≤ x7 then (spec_l3Put.j1 k x6 x7 (decide (((rd_T95 aQ x7).f0) ≥ bE)) cD aQ bE bP bQ bR bI) else (none))) else (if x6 = true then (some (bR, bI)) else (if bI.length < 3518437208883 then (some (bR, (bI ++ [(⟨bE, bP, bQ⟩ : S95)]))) else (none)))
def spec_l3Put.j1 : Nat → Bool → Int → Bool → Int → List (S95) → Int → ByteArray → ByteArray → Int → List (S95) → Option (Int × (List (S95)))
 | 0, _, _, _, _, _, _, _, _, _, _ => none
 | k + 1, x6, x7, nN, cD, aQ, bE, bP, bQ, bR, bI => if nN = true then (if bI.length < 3518437208883 then ((some (bI ++ [(⟨bE, bP, bQ⟩ : S95)] : List (S95))).bind fun aZ => (if 0 ≤ x7 then (if x7 < (aQ.length : Int) then (if ((rd_T95 aQ x7).f0) = bE then (spec_l3Put.l0 k true (wrap64 (x7 + 1)) cD aQ bE bP bQ bR aZ) else (if aZ.length < 3518437208883 then (spec_l3Put.l0 k true (wrap64 (x7 + 1)) cD aQ bE bP bQ bR (aZ ++ [(⟨(rd_T95 aQ x7).f0, (rd_T95 aQ x7).f1, (rd_T95 aQ x7).f2⟩ : S95)])) else (none))) else (none)) else (none))) else (none)) else (if 0 ≤ x7 then (if x7 < (aQ.length : Int) then (if ((rd_T95 aQ x7).f0) = bE then (spec_l3Put.l0 k x6 (wrap64 (x7 + 1)) cD aQ bE bP bQ bR bI) else (if bI.length < 3518437208883 then (spec_l3Put.l0 k x6 (wrap64 (x7 + 1)) cD aQ bE bP bQ bR (bI ++ [(⟨(rd_T95 aQ x7).f0, (rd_T95 aQ x7).f1, (rd_T95 aQ x7).f2⟩ : S95)])) else (none))) else (none)) else (none))
end
def spec_l3Put.f (k : Nat) (aK : Int) (aE : List (S95)) (aV : Int) (aX : ByteArray) (aY : ByteArray) : Option (Int × (List (S95))) := spec_l3Put.l0 k false 0 aK aE aV aX aY aK ([] : List (S95))
theorem u4_mq0 {p : Prop} (h : p := by repeat' first | (with_reducible first | exact kQ _ _ _ _ _ _ _ _ _ | exact kR _ _ _ _ _ _ _ _ _ _ | exact LeO.refl _ | exact LeO.none _ | refine LeO.ite ?_ ?_ | refine LeO.bind ?_ (fun _ => ?_)) | exact LeO.none _ | refine LeO.ite ?_ ?_ | refine LeO.bind ?_ (fun _ => ?_)) : p := h
set_option maxRecDepth 100000 in
theorem spec_l3Put.mono_l : ∀ k, (∀ y0 y1 y2 y3 y4 y5 y6 y7 y8, LeO (spec_l3Put.l0 k y0 y1 y2 y3 y4 y5 y6 y7 y8) (spec_l3Put.l0 (k + 1) y0 y1 y2 y3 y4 y5 y6 y7 y8)) ∧ (∀ y0 y1 y2 y3 y4 y5 y6 y7 y8 y9, LeO (spec_l3Put.j1 k y0 y1 y2 y3 y4 y5 y6 y7 y8 y9) (spec_l3Put.j1 (k + 1) y0 y1 y2 y3 y4 y5 y6 y7 y8 y9))
 | 0 => ⟨fun _ _ _ _ _ _ _ _ _ r h => by simp [spec_l3Put.l0] at h, fun _ _ _ _ _ _ _ _ _ _ r h => by simp [spec_l3Put.j1] at h⟩
 | k + 1 => by
  obtain ⟨kQ, kR⟩ := spec_l3Put.mono_l k; refine ⟨?_, ?_⟩
  ·intro y0 y1 y2 y3 y4 y5 y6 y7 y8; unfold spec_l3Put.l0; exact u4_mq0
  ·intro y0 y1 y2 y3 y4 y5 y6 y7 y8 y9; unfold spec_l3Put.j1; exact u4_mq0
theorem spec_l3Put.mono : ∀ a0 a1 a2 a3 a4 k, LeO (spec_l3Put.f k a0 a1 a2 a3 a4) (spec_l3Put.f (k + 1) a0 a1 a2 a3 a4) := by
 intro a0 a1 a2 a3 a4 k
 obtain ⟨kQ, kR⟩ := spec_l3Put.mono_l k
 unfold spec_l3Put.f
 exact u4_mq0
def spec_l3Put.T6 : Bool × List (List Nat × List Nat) := (true, [([], []), ([0], [0]), ([1], [1]), ([2], [2]), ([3, 2], [2, 3]), ([2], [2]), ([4, 5, 2], [2, 4, 5]), ([6, 2], [2, 6]), ([7, 2], [2, 7]), ([2], [2]), ([9, 2], [2, 9]), ([8, 10, 2], [2, 8, 10]), ([2, 11], [2, 11])])
def spec_l3Put.B6 : List Nat := [0, 1, 3, 7, 15, 7, 63, 127, 255, 7, 519, 2047, 4095]
def spec_l3Put.T9 : Bool × List (List Nat × List Nat) := (true, [([], []), ([0], [0]), ([], []), ([1, 2], [1, 2]), ([3], [3]), ([4], [4]), ([], []), ([6], [6]), ([5, 7], [5, 7])])
def spec_l3Put.B9 : List Nat := [0, 1, 0, 7, 15, 31, 0, 64, 255]
def spec_l3Put.T10 : Bool × List (List Nat × List Nat) := (true, [([], []), ([0], [0]), ([], []), ([2], [2]), ([], []), ([3, 4], [3, 4]), ([5], [5]), ([6], [6]), ([1, 7], [1, 7]), ([0, 1, 2, 3, 4, 5, 6, 7, 8], []), ([9, 8, 8, 0, 1, 2, 3, 4, 5, 6, 7, 8], [8, 9])])
def spec_l3Put.B10 : List Nat := [0, 1, 0, 4, 0, 28, 60, 124, 255, 511, 1023]
theorem spec_l3Put.tab10 : rtab .any (opsOf Try.f137 10) = spec_l3Put.T10 := by kernel_rfl
theorem spec_l3Put.bits10 : waitsOk spec_l3Put.T10.2 spec_l3Put.B10 = true := by kernel_rfl
set_option maxHeartbeats 8000000 in
set_option maxRecDepth 100000 in
theorem spec_l3Put.calls (k : Nat) (aK : Int) (cK : Option Addr) (bO : Nat) (aE : List (S95)) (aV : Int) (aX : ByteArray) (aY : ByteArray) (r1 : Int) (r2 : List (S95)) (w : World) (dS : Kd.C k95 w cK aE.length aE) (dU : aE.length ≤ bO) (h : spec_l3Put.f k aK aE aV aX aY = some (r1, r2)) :
 Calls Try.prog 137 #[.agg #[.int .i64 aK, .slice cK aE.length bO], .agg #[.int .i64 aV, .string aX, .string aY]] w fun e w' => ∃ v1_ : Value, e = .returned (.agg #[.int .i64 r1, v1_]) ∧ Kd.R k95 95 w' w.heap.size (fun _ => True) v1_ r2 ∧ Below w.heap.size w w' := by
 have jR := Try.underlying26
 have nO := Try.underlying95
 have cL := aM dS
 have fC := aM dU
 clear dS dU
 have HB := aM (Below.refl w.heap.size w)
 have H : (spec_l3Put.l0 k false 0 aK aE aV aX aY aK ([] : List (S95))) = some (r1, r2) := h
 clear h
 have H' := aM H
 clear H
 go_enter Try.func137, Try.ntmps137
 go_wp2_with (first | ((with_reducible refine gD 2 rfl ?_); refine boxE (N := 2) rfl (cs := #[.int .i64 aK, .slice cK aE.length bO]) (t := 26) ?_; intro bA hg w3 hbox hb; have aD := aM (hbox); have kS := aM (xge hg); have kT := aM (xge hg); replace HB := xbs hb; clear hb hbox hg) | ((with_reducible refine gD 3 rfl ?_); refine boxE (N := 3) rfl (cs := #[.int .i64 aV, .string aX, .string aY]) (t := 95) ?_; intro aN hg w4 hbox hb; have kU := aM (xge hg); have kV := aM (xge hg); replace HB := xbs hb; have cB := nblt aD hg; have cC := nbgt aD hg; replace aD := xbb aD hb; have aH := aM (hbox); clear hb hbox hg) | ((with_reducible refine gD 4 rfl ?_); refine boxE (N := 4) rfl (cs := #[.int .i64 0, .slice none 0 0]) (t := 26) ?_; intro cF hg w5 hbox hb; have kW := aM (xge hg); have kX := aM (xge hg); replace HB := xbs hb; have cG := nblt aD hg; have cH := nbgt aD hg; have cI := nblt aH hg; have cJ := nbgt aH hg; replace aD := xbb aD hb; replace aH := xbb aH hb; have aI := aM (hbox); clear hb hbox hg; have nP := cB.out; have nQ := cC.out; have nR := cG.out; have nS := cH.out; obtain ⟨eB, eC, eD, eE⟩ := xf2 (w := w5) aD) | ((with_reducible refine gD 5 rfl ?_); refine boxE (N := 5) rfl (cs := #[.int .i64 0, .slice none 0 0]) (t := 26) ?_; intro aT hg w9 hbox hb; have kY := aM (xge hg); have kZ := aM (xge hg); replace HB := xbs hb; have bG := nblt aD hg; have bH := nbgt aD hg; have bJ := nblt aH hg; have bK := nbgt aH hg; have bL := nblt aI hg; have bM := nbgt aI hg; replace aD := xbb aD hb; replace aH := xbb aH hb; replace aI := xbb aI hb; have aG := aM (hbox); clear hb hbox hg; have lA := bH.out; have lB := bG.out; have lC := bK.out; have lE := bJ.out; have lF := bM.out; have lG := bL.out; obtain ⟨dX, dY, dZ, eA⟩ := xf2 (w := w9) aG))
 go_loopg [6, 7] k (fun kq v6 v7 w' => ∃ (dK : Bool) (aC : Int) (aJ : List (S95)) (aU : Value), v6 = .bool dK ∧ v7 = .int .i64 aC ∧ Aside0 (spec_l3Put.l0 kq dK aC aK aE aV aX aY aK aJ = some (r1, r2)) ∧ Aside0 (kq ≤ k) ∧ Aside0 (Kd.R k95 95 w' w.heap.size (fun k_ => k_ ≠ aN) aU aJ) ∧ Aside0 (w'.heap[bA]? = some (.cells #[.int .i64 aK, (.slice cK aE.length bO)] 26 (0, 0))) ∧ Aside0 (w'.heap[aN]? = some (.cells #[.int .i64 aV, .string aX, .string aY] 95 (0, 0))) ∧ Aside0 (w'.heap[cF]? = some (.cells #[.int .i64 0, (.slice none 0 0)] 26 (0, 0))) ∧ Aside0 (w'.heap[aT]? = some (.cells #[.int .i64 aK, aU] 26 (0, 0))) ∧ Aside0 (Below w.heap.size w w'))
 case atStart => exact ⟨(false), (0), (([] : List (S95))), (.slice none 0 0), u4_0, u4_0, H', ⟨Nat.le_refl _⟩, ⟨by first | exact Kd.R_nil _ _ _ _ _ | exact Kd.N_nil _ _ _ _ _ | exact Kd.V_nil _ _ _ _ _ | exact Kd.Q_nil _ _ _ _ _ | exact Kd.S_nil _ _ _ _ _⟩, ⟨xB⟩, ⟨xB⟩, ⟨xB⟩, ⟨xP⟩, ⟨xbg⟩⟩
 case round =>
  clear H'; try clear c1
  try clear p2
  try clear c6
  try clear c7
  try clear c10
  try clear nT
  try clear nU
  try clear nV
  try clear dX dY
  try clear eB eC
  try clear dZ eA
  try clear eD eE
  obtain ⟨dK, aC, aJ, aU, rfl, rfl, HA, HK1, aA, aD, aH, aI, aG, HB⟩ := hrel; cases gk with
  | zero => exact absurd HA.out (by simp [spec_l3Put.l0])
  | succ k1 =>
   have H := HA.out; clear HA; simp only [spec_l3Put.l0] at H; by_cases eW : aC < (aE.length : Int)
   ·rw [if_pos eW] at H; have eP : decide (aC < (aE.length : Int)) = true := decide_eq_true eW; clear eW; have eX := aM H; clear H; have lH := cB.out; have lI := cC.out; have lJ := cG.out; have lK := cH.out; have lL := bG.out; have lM := bH.out; obtain ⟨eG, eH, eI, eJ⟩ := xf2 (w := wr) aD; go_upto_region 6 with (fail)
    go_cut [30] (fun nW wc => ∃ (kq : Nat) (dL : Bool), nW = .bool dL ∧ Aside0 (spec_l3Put.j1 kq dK aC dL aK aE aV aX aY aK aJ = some (r1, r2)) ∧ Aside0 (kq ≤ k1) ∧ Aside0 (Kd.R k95 95 wc w.heap.size (fun k_ => k_ ≠ aN) aU aJ) ∧ Aside0 (wc.heap[bA]? = some (.cells #[.int .i64 aK, (.slice cK aE.length bO)] 26 (0, 0))) ∧ Aside0 (wc.heap[aN]? = some (.cells #[.int .i64 aV, .string aX, .string aY] 95 (0, 0))) ∧ Aside0 (wc.heap[cF]? = some (.cells #[.int .i64 0, (.slice none 0 0)] 26 (0, 0))) ∧ Aside0 (wc.heap[aT]? = some (.cells #[.int .i64 aK, aU] 26 (0, 0))) ∧ Aside0 (Below w.heap.size w wc))
    case first =>
     have H := eX.out; clear eX; by_cases fH : dK = true
     ·subst fH; replace H := iT H; have H' := aM H; clear H; try go_wp2
      replace aA := rD aA; replace aD := bD aD; replace aH := bD aH; replace aI := bD aI; replace aG := bD aG; replace HB := lD HB; refine st_ 13 (fun w' => True) spec_l3Put.T6 spec_l3Put.B6 trivial (fun hHeld HT_ HW_ => ?_); generalize wr.drew = oI at aA aD aH aI aG HB hHeld ⊢; refine pV 0 18 ?_; refine pV 1 19 ?_; refine pV 2 20 ?_; refine pU 3 21 ?_; refine pU 4 22 ?_; refine pU 5 23 ?_; refine pU 6 24 ?_; refine pU 7 25 ?_; refine pU 8 26 ?_; refine pU 9 27 ?_; refine pU 10 28 ?_; refine pU 11 29 ?_; refine pV 12 30 ?_; refine dn_ ?_; try go_wp2
      go_meet
      case rel => exact ⟨_, (false), u4_0, H', ⟨by have := HK1.out; first | omega | exact Nat.le_refl _⟩, ⟨u4_4⟩, ⟨xblk⟩, ⟨xblk⟩, ⟨xblk⟩, ⟨xblk⟩, ⟨xbg⟩⟩
     ·replace fH := Bool.eq_false_iff.mpr fH; subst fH; replace H := iN H; by_cases fI : 0 ≤ aC
      ·rw [if_pos fI] at H; have eF : decide (0 ≤ aC) = true := decide_eq_true fI; clear fI; (first | rw [eF] | (simp only [i64_w, i32_w]; rw [eF]) | skip); have H' := aM H; clear H; try go_wp2
       replace aA := rD aA; replace aD := bD aD; replace aH := bD aH; replace aI := bD aI; replace aG := bD aG; replace HB := lD HB; have p200 : 0 ≤ (aC : Int) := oda; have q200 : aC < (aE.length : Int) := oda; obtain ⟨dJ, jU, cM, cN, cO⟩ := at_T95 cL.out aC p200 q200; have eK := cO; have eL := cN; have eM := cM; cases jU
       replace cM := xce HB cM; replace cN := xce HB cN; replace cO := xce HB cO; replace p200 := eq_true p200; replace q200 := eq_true q200; refine st_ 13 (fun w' => w'.cell? ⟨bA, 0, none⟩ = some (.int .i64 aK) ∧ w'.cell? ⟨bA, 1, none⟩ = some (.slice (some dJ) aE.length bO) ∧ w'.cell? ⟨aN, 0, none⟩ = some (.int .i64 aV) ∧ w'.cell? ⟨aN, 1, none⟩ = some (.string aX) ∧ w'.cell? ⟨aN, 2, none⟩ = some (.string aY) ∧ w'.cell? (dJ.add ((aC).toNat * 3)) = some (.int .i64 ((rd_T95 aE aC).f0)) ∧ w'.cell? ⟨(dJ.add ((aC).toNat * 3)).block, (dJ.add ((aC).toNat * 3)).off + 1, none⟩ = some (.string ((rd_T95 aE aC).f1)) ∧ w'.cell? ⟨(dJ.add ((aC).toNat * 3)).block, (dJ.add ((aC).toNat * 3)).off + 2, none⟩ = some (.string ((rd_T95 aE aC).f2))) spec_l3Put.T6 spec_l3Put.B6 ⟨xc aD 0 rfl, xc aD 1 rfl, xc aH 0 rfl, xc aH 1 rfl, xc aH 2 rfl, (xce HB eM), (xce HB eL), (xce HB eK)⟩ (fun hHeld HT_ HW_ => ?_); generalize wr.drew = oJ at aA aD aH aI aG HB cM cN cO hHeld ⊢; refine pV 0 18 ?_; refine pV 1 19 ?_; refine pV 2 20 ?_; refine pV 3 21 ?_; refine pV 5 23 ?_; refine pV 9 27 ?_; refine tK 4 22 ?_; refine pV 6 24 ?_; refine pV 7 25 ?_; refine tK 8 26 ?_; refine tK 10 28 ?_; refine pV 11 29 ?_; refine pV 12 30 ?_; refine dn_ ?_; try go_wp2
       go_meet
       case rel => exact ⟨_, (decide (((rd_T95 aE aC).f0) ≥ aV)), u4_0, H', ⟨by have := HK1.out; first | omega | exact Nat.le_refl _⟩, ⟨u4_4⟩, ⟨xblk⟩, ⟨xblk⟩, ⟨xblk⟩, ⟨xblk⟩, ⟨xbg⟩⟩
      ·rw [if_neg fI] at H; exact absurd H (by simp)
    case rest =>
     clear eX; try clear c1
     try clear c2
     try clear p2
     try clear q2
     try clear oK
     try clear c6
     try clear c7
     try clear c10
     try clear nT
     try clear nU
     try clear nV
     try clear eW
     try clear eP
     try clear oL
     try clear oM
     try clear oO
     try clear fH
     try clear p20
     try clear q20
     try clear nX
     try clear fI
     try clear eF
     try clear dX dY
     try clear eG eH
     try clear eB eC
     try clear dZ eA
     try clear eI eJ
     try clear eD eE
     try clear cM
     try clear cN
     try clear cO
     try clear p2
     try clear p200
     try clear q200
     obtain ⟨kq, dL, rfl, HA, HJ14, aA, aD, aH, aI, aG, HB⟩ := hcut; cases kq with
     | zero => exact absurd HA.out (by simp [spec_l3Put.j1])
     | succ dV =>
      have H := HA.out; clear HA; simp only [spec_l3Put.j1] at H; by_cases fX : dL = true
      ·subst fX; replace H := iT H; by_cases fY : aJ.length < 3518437208883
       ·rw [if_pos fY] at H; have LMc25 := aM fY; clear fY; obtain ⟨aZ, hY⟩ : ∃ y_ : List (S95), y_ = (aJ ++ [(⟨aV, aX, aY⟩ : S95)]) := ⟨_, rfl⟩; replace H : (if 0 ≤ aC then (if aC < (aE.length : Int) then (if ((rd_T95 aE aC).f0) = aV then (spec_l3Put.l0 dV true (wrap64 (aC + 1)) aK aE aV aX aY aK aZ) else (if aZ.length < 3518437208883 then (spec_l3Put.l0 dV true (wrap64 (aC + 1)) aK aE aV aX aY aK (aZ ++ [(⟨(rd_T95 aE aC).f0, (rd_T95 aE aC).f1, (rd_T95 aE aC).f2⟩ : S95)])) else (none))) else (none)) else (none)) = some (r1, r2) := u4_1; have eQ := aM hY; clear hY; by_cases fZ : 0 ≤ aC
        ·rw [if_pos fZ] at H; have lN : decide (0 ≤ aC) = true := decide_eq_true fZ; clear fZ; by_cases gA : aC < (aE.length : Int)
         ·rw [if_pos gA] at H; have lO : decide (aC < (aE.length : Int)) = true := decide_eq_true gA; clear gA; by_cases fJ : ((rd_T95 aE aC).f0) = aV
          ·rw [if_pos fJ] at H; obtain ⟨fK, fL⟩ := bT fJ; clear fJ; have H' := aM H; clear H; have lP := bH.out; have lQ := bG.out; have lR := bK.out; have lS := bJ.out; have lT := bM.out; have lU := bL.out; obtain ⟨gB, gE, gF, gG⟩ := xf2 (w := wc) aG; have lV := cC.out; have lW := cB.out; have lX := cI.out; have lY := cJ.out; obtain ⟨gH, gI, gJ, gK, gL, gM⟩ := xf3 (w := wc) aH; try go_wp2_with (first | ((with_reducible refine gate_builtin (b := .append) (xs := #[.tmp 32, .tmp 34]) rfl ?_); at_builtin; refine Kd.R_append k95 (w0 := w) w.heap.size rfl (.tmp 32) (.tmp 34) 24 95 (.agg #[(.int .i64 0), (.string ⟨#[]⟩), (.string ⟨#[]⟩)]) 40 rfl Try.underlying24 info95 rfl (by decide) (by omega) aU aJ (⟨aV, aX, aY⟩ : S95) [.int .i64 aV, .string aX, .string aY] (fun k_ => k_ ≠ aN) (fun _ => False) rfl rfl ?aP (fun _ hk => hk.elim) ?aF ?aO ?aB ?aS ?aL ?_; (case aP => exact u4_5); (case aB => exact xbg); (case aF => exact u4_2); (case aO => exact (xr aA)); (case aS => exact (below_size xbg)); (case aL => have := LMc25.out; omega); intro jV eR ho hb hg hat; rw [← eQ.out] at ho; replace aD := aM (blk_grown (g := bA) (o := .cells #[.int .i64 aK, .slice cK aE.length bO] 26 (0, 0)) xblk hg (Kd.R_ne aA.out aD.out (by decide))); replace aH := aM (blk_grown (g := aN) (o := .cells #[.int .i64 aV, .string aX, .string aY] 95 (0, 0)) xblk hg (Kd.R_away aA.out (fun _ hk => hk))); replace aI := aM (blk_grown (g := cF) (o := .cells #[.int .i64 0, .slice none 0 0] 26 (0, 0)) xblk hg (Kd.R_ne aA.out aI.out (by decide))); replace aG := aM (blk_grown (g := aT) (o := .cells #[.int .i64 aK, aU] 26 (0, 0)) xblk hg (Kd.R_ne aA.out aG.out (by decide))); replace HB := aM (hb); have aW := aM (ho); clear aA; clear ho hb hg hat; obtain ⟨dG, dH, jW⟩ := Kd.R_slice aW.out; subst jW; obtain ⟨gN, gO, gP, gQ⟩ := xf2 (w := eR) aG))
           have n0_ : Aside0 (Kd.R k95 95 (eR.setCell ⟨aT, 1, none⟩ (.slice dG aZ.length dH)) w.heap.size (fun k_ => k_ ≠ aN) (.slice dG aZ.length dH) aZ) := ⟨xrs aW⟩; have n1_ : Aside0 ((eR.setCell ⟨aT, 1, none⟩ (.slice dG aZ.length dH)).heap[bA]? = some (.cells #[.int .i64 aK, .slice cK aE.length bO] 26 (0, 0))) := ⟨xB⟩; have n2_ : Aside0 ((eR.setCell ⟨aT, 1, none⟩ (.slice dG aZ.length dH)).heap[aN]? = some (.cells #[.int .i64 aV, .string aX, .string aY] 95 (0, 0))) := ⟨xB⟩; have n3_ : Aside0 ((eR.setCell ⟨aT, 1, none⟩ (.slice dG aZ.length dH)).heap[cF]? = some (.cells #[.int .i64 0, .slice none 0 0] 26 (0, 0))) := ⟨xB⟩; have n4_ : Aside0 ((eR.setCell ⟨aT, 1, none⟩ (.slice dG aZ.length dH)).heap[aT]? = some (.cells #[.int .i64 aK, .slice dG aZ.length dH] 26 (0, 0))) := ⟨xP⟩; have n5_ : Aside0 (Below w.heap.size w (eR.setCell ⟨aT, 1, none⟩ (.slice dG aZ.length dH))) := ⟨xbg⟩; (try clear aW); (try clear aD); (try clear aH); (try clear aI); (try clear aG); (try clear HB)
           generalize (eR.setCell ⟨aT, 1, none⟩ (.slice dG aZ.length dH)) = nY at n0_ n1_ n2_ n3_ n4_ n5_ ⊢; have aW := n0_; have aD := n1_; have aH := n2_; have aI := n3_; have aG := n4_; have HB := n5_; clear n0_ n1_ n2_ n3_ n4_ n5_; replace aW := rD aW; replace aD := bD aD; replace aH := bD aH; replace aI := bD aI; replace aG := bD aG; replace HB := lD HB; have p204 : 0 ≤ (aC : Int) := oda; have q204 : aC < (aE.length : Int) := oda; obtain ⟨bB, eY, bU, bV, bW⟩ := at_T95 cL.out aC p204 q204; have dM := bW; have dN := bV; have dO := bU; cases eY
           replace bU := xce HB bU; replace bV := xce HB bV; replace bW := xce HB bW; replace p204 := eq_true p204; replace q204 := eq_true q204; refine st_ 9 (fun w' => w'.cell? ⟨bA, 0, none⟩ = some (.int .i64 aK) ∧ w'.cell? ⟨bA, 1, none⟩ = some (.slice (some bB) aE.length bO) ∧ w'.cell? ⟨aN, 0, none⟩ = some (.int .i64 aV) ∧ w'.cell? ⟨aN, 1, none⟩ = some (.string aX) ∧ w'.cell? ⟨aN, 2, none⟩ = some (.string aY) ∧ w'.cell? (bB.add ((aC).toNat * 3)) = some (.int .i64 ((rd_T95 aE aC).f0)) ∧ w'.cell? ⟨(bB.add ((aC).toNat * 3)).block, (bB.add ((aC).toNat * 3)).off + 1, none⟩ = some (.string ((rd_T95 aE aC).f1)) ∧ w'.cell? ⟨(bB.add ((aC).toNat * 3)).block, (bB.add ((aC).toNat * 3)).off + 2, none⟩ = some (.string ((rd_T95 aE aC).f2))) spec_l3Put.T9 spec_l3Put.B9 ⟨xc aD 0 rfl, xc aD 1 rfl, xc aH 0 rfl, xc aH 1 rfl, xc aH 2 rfl, (xce HB dO), (xce HB dN), (xce HB dM)⟩ (fun hHeld HT_ HW_ => ?_); generalize nY.drew = oP at aW aD aH aI aG HB bU bV bW hHeld ⊢; refine pV 0 37 ?_; refine pV 2 39 ?_; refine pV 6 43 ?_; refine tK 1 38 ?_; refine pV 3 40 ?_; refine pV 4 41 ?_; refine tK 5 42 ?_; refine tK 7 44 ?_; refine pV 8 45 ?_; refine dn_ ?_; try go_wp2
           go_roundg dV
           case measure => have := HK1.out; have := HJ14.out; omega
           case rel => exact ⟨(true), (wrap64 (aC + 1)), (aZ), (.slice dG aZ.length dH), u4_0, u4_0, H', ⟨u4_3⟩, ⟨by (with_reducible repeat (first | apply Kd.R_alloc | apply Kd.R_drewN | apply Kd.R_drew)); exact aW.out⟩, ⟨xblk⟩, ⟨xblk⟩, ⟨xblk⟩, ⟨xblk⟩, ⟨xbg⟩⟩
          ·rw [if_neg fJ] at H; obtain ⟨fK, fL⟩ := bF fJ; by_cases gR : aZ.length < 3518437208883
           ·rw [if_pos gR] at H; have LMc41 := aM gR; clear gR; obtain ⟨eZ, hY⟩ : ∃ y_ : List (S95), y_ = (aZ ++ [(⟨(rd_T95 aE aC).f0, (rd_T95 aE aC).f1, (rd_T95 aE aC).f2⟩ : S95)]) := ⟨_, rfl⟩; replace H : (spec_l3Put.l0 dV true (wrap64 (aC + 1)) aK aE aV aX aY aK eZ) = some (r1, r2) := u4_1; have fM := aM hY; clear hY; have H' := aM H; clear H; have lZ := bH.out; have mA := bG.out; have mB := bK.out; have mC := bJ.out; have mD := bM.out; have mE := bL.out; obtain ⟨gS, gT, gU, gV⟩ := xf2 (w := wc) aG; have mF := cC.out; have mG := cB.out; have mH := cI.out; have mI := cJ.out; obtain ⟨gW, gX, gY, gZ, hJ, hU⟩ := xf3 (w := wc) aH; try go_wp2_with (first | ((with_reducible refine gate_builtin (b := .append) (xs := #[.tmp 32, .tmp 34]) rfl ?_); at_builtin; refine Kd.R_append k95 (w0 := w) w.heap.size rfl (.tmp 32) (.tmp 34) 24 95 (.agg #[(.int .i64 0), (.string ⟨#[]⟩), (.string ⟨#[]⟩)]) 40 rfl Try.underlying24 info95 rfl (by decide) (by omega) aU aJ (⟨aV, aX, aY⟩ : S95) [.int .i64 aV, .string aX, .string aY] (fun k_ => k_ ≠ aN) (fun _ => False) rfl rfl ?aP (fun _ hk => hk.elim) ?aF ?aO ?aB ?aS ?aL ?_; (case aP => exact u4_5); (case aB => exact xbg); (case aF => exact u4_2); (case aO => exact (xr aA)); (case aS => exact (below_size xbg)); (case aL => have := LMc25.out; omega); intro jV eS ho hb hg hat; rw [← eQ.out] at ho; replace aD := aM (blk_grown (g := bA) (o := .cells #[.int .i64 aK, .slice cK aE.length bO] 26 (0, 0)) xblk hg (Kd.R_ne aA.out aD.out (by decide))); replace aH := aM (blk_grown (g := aN) (o := .cells #[.int .i64 aV, .string aX, .string aY] 95 (0, 0)) xblk hg (Kd.R_away aA.out (fun _ hk => hk))); replace aI := aM (blk_grown (g := cF) (o := .cells #[.int .i64 0, .slice none 0 0] 26 (0, 0)) xblk hg (Kd.R_ne aA.out aI.out (by decide))); replace aG := aM (blk_grown (g := aT) (o := .cells #[.int .i64 aK, aU] 26 (0, 0)) xblk hg (Kd.R_ne aA.out aG.out (by decide))); replace HB := aM (hb); have aW := aM (ho); clear aA; clear ho hb hg hat; obtain ⟨cP, cQ, jX⟩ := Kd.R_slice aW.out; subst jX; obtain ⟨hX, hZ, iA, iB⟩ := xf2 (w := eS) aG))
            have n0_ : Aside0 (Kd.R k95 95 (eS.setCell ⟨aT, 1, none⟩ (.slice cP aZ.length cQ)) w.heap.size (fun k_ => k_ ≠ aN) (.slice cP aZ.length cQ) aZ) := ⟨xrs aW⟩; have n1_ : Aside0 ((eS.setCell ⟨aT, 1, none⟩ (.slice cP aZ.length cQ)).heap[bA]? = some (.cells #[.int .i64 aK, .slice cK aE.length bO] 26 (0, 0))) := ⟨xB⟩; have n2_ : Aside0 ((eS.setCell ⟨aT, 1, none⟩ (.slice cP aZ.length cQ)).heap[aN]? = some (.cells #[.int .i64 aV, .string aX, .string aY] 95 (0, 0))) := ⟨xB⟩; have n3_ : Aside0 ((eS.setCell ⟨aT, 1, none⟩ (.slice cP aZ.length cQ)).heap[cF]? = some (.cells #[.int .i64 0, .slice none 0 0] 26 (0, 0))) := ⟨xB⟩; have n4_ : Aside0 ((eS.setCell ⟨aT, 1, none⟩ (.slice cP aZ.length cQ)).heap[aT]? = some (.cells #[.int .i64 aK, .slice cP aZ.length cQ] 26 (0, 0))) := ⟨xP⟩; have n5_ : Aside0 (Below w.heap.size w (eS.setCell ⟨aT, 1, none⟩ (.slice cP aZ.length cQ))) := ⟨xbg⟩; (try clear aW); (try clear aD); (try clear aH); (try clear aI); (try clear aG); (try clear HB)
            generalize (eS.setCell ⟨aT, 1, none⟩ (.slice cP aZ.length cQ)) = nZ at n0_ n1_ n2_ n3_ n4_ n5_ ⊢; have aW := n0_; have aD := n1_; have aH := n2_; have aI := n3_; have aG := n4_; have HB := n5_; clear n0_ n1_ n2_ n3_ n4_ n5_; replace aW := rD aW; replace aD := bD aD; replace aH := bD aH; replace aI := bD aI; replace aG := bD aG; replace HB := lD HB; have p204 : 0 ≤ (aC : Int) := oda; have q204 : aC < (aE.length : Int) := oda; obtain ⟨bB, eY, bU, bV, bW⟩ := at_T95 cL.out aC p204 q204; have dM := bW; have dN := bV; have dO := bU; cases eY
            replace bU := xce HB bU; replace bV := xce HB bV; replace bW := xce HB bW; replace p204 := eq_true p204; replace q204 := eq_true q204; refine st_ 9 (fun w' => w'.cell? ⟨bA, 0, none⟩ = some (.int .i64 aK) ∧ w'.cell? ⟨bA, 1, none⟩ = some (.slice (some bB) aE.length bO) ∧ w'.cell? ⟨aN, 0, none⟩ = some (.int .i64 aV) ∧ w'.cell? ⟨aN, 1, none⟩ = some (.string aX) ∧ w'.cell? ⟨aN, 2, none⟩ = some (.string aY) ∧ w'.cell? (bB.add ((aC).toNat * 3)) = some (.int .i64 ((rd_T95 aE aC).f0)) ∧ w'.cell? ⟨(bB.add ((aC).toNat * 3)).block, (bB.add ((aC).toNat * 3)).off + 1, none⟩ = some (.string ((rd_T95 aE aC).f1)) ∧ w'.cell? ⟨(bB.add ((aC).toNat * 3)).block, (bB.add ((aC).toNat * 3)).off + 2, none⟩ = some (.string ((rd_T95 aE aC).f2))) spec_l3Put.T9 spec_l3Put.B9 ⟨xc aD 0 rfl, xc aD 1 rfl, xc aH 0 rfl, xc aH 1 rfl, xc aH 2 rfl, (xce HB dO), (xce HB dN), (xce HB dM)⟩ (fun hHeld HT_ HW_ => ?_); generalize nZ.drew = oA at aW aD aH aI aG HB bU bV bW hHeld ⊢; refine pV 0 37 ?_; refine pV 2 39 ?_; refine pV 6 43 ?_; refine tK 1 38 ?_; refine pV 3 40 ?_; refine pV 4 41 ?_; refine tK 5 42 ?_; refine tK 7 44 ?_; refine pV 8 45 ?_; refine dn_ ?_; try go_wp2
            replace aW := rD aW; replace aD := bD aD; replace aH := bD aH; replace aI := bD aI; replace aG := bD aG; replace HB := lD HB; have p205 : 0 ≤ (aC : Int) := oda; have q205 : aC < (aE.length : Int) := oda; obtain ⟨fN, jY, cT, cU, cV⟩ := at_T95 cL.out aC p205 q205; have cW := cV; have cX := cU; have cY := cT; obtain rfl : bB = fN := (by injection jY); replace cT := xce HB cT; replace cU := xce HB cU; replace cV := xce HB cV; replace p205 := eq_true p205; replace q205 := eq_true q205; refine start_ (n := 11) (S := fun w' => w'.cell? ⟨aT, 0, none⟩ = some (.int .i64 aK) ∧ w'.cell? ⟨aT, 1, none⟩ = some (.slice cP aZ.length cQ) ∧ w'.cell? ⟨bA, 0, none⟩ = some (.int .i64 aK) ∧ w'.cell? ⟨bA, 1, none⟩ = some (.slice (some bB) aE.length bO) ∧ w'.cell? (bB.add ((aC).toNat * 3)) = some (.int .i64 ((rd_T95 aE aC).f0)) ∧ w'.cell? ⟨(bB.add ((aC).toNat * 3)).block, (bB.add ((aC).toNat * 3)).off + 1, none⟩ = some (.string ((rd_T95 aE aC).f1)) ∧ w'.cell? ⟨(bB.add ((aC).toNat * 3)).block, (bB.add ((aC).toNat * 3)).off + 2, none⟩ = some (.string ((rd_T95 aE aC).f2))) (ds := [10]) #[false, false, false, false, false, false, false, false, false, false, false] (by kernel_rfl) rfl rfl ⟨xc aG 0 rfl, xc aG 1 rfl, xc aD 0 rfl, xc aD 1 rfl, (xce HB cY), (xce HB cX), (xce HB cW)⟩ (fun hHeld => ?_); refine with_tabW spec_l3Put.tab10 spec_l3Put.bits10 (fun HT_ HW_ => ?_); generalize oA.drew = oQ at aW aD aH aI aG HB cT cU cV hHeld ⊢; refine pV 0 46 ?_; refine pV 2 48 ?_; refine pV 4 50 ?_; refine tK 1 47 ?_; refine tK 3 49 ?_; refine pV 5 51 ?_; refine tK 6 52 ?_; refine oN 7 53 fun K hK => ?_
            refine value_ (w1 := ?_) (v := ?_) (by rfl) rfl ?_ ?_; rotate_left 2
            ·go_simp
             constructor
             ·rfl
             ·rfl
            refine hK.out _ _ ⟨(blk_cell (blk_alloc aG.out _) 0).trans rfl, (blk_cell (blk_alloc aG.out _) 1).trans rfl, (blk_cell (blk_alloc aD.out _) 0).trans rfl, (blk_cell (blk_alloc aD.out _) 1).trans rfl, (World.cell?_alloc_lt _ _ _ (World.block_lt_of_cell? _ _ ((xce HB cY)))).trans ((xce HB cY)), (World.cell?_alloc_lt _ _ _ (World.block_lt_of_cell? _ _ ((xce HB cX)))).trans ((xce HB cX)), (World.cell?_alloc_lt _ _ _ (World.block_lt_of_cell? _ _ ((xce HB cW)))).trans ((xce HB cW))⟩ (fun hHeld => ?_); clear hK K; refine nm_ (N := 53) ?_; refine oN 8 54 fun K hK => ?_
            refine Kd.R_append_step k95 (w0 := w) w.heap.size (by rfl) (.tmp 47) (.tmp 53) 24 95 (.agg #[(.int .i64 0), (.string ⟨#[]⟩), (.string ⟨#[]⟩)]) 40 rfl Try.underlying24 info95 rfl (by decide) (by omega) (.slice cP aZ.length cQ) aZ (⟨(rd_T95 aE aC).f0, (rd_T95 aE aC).f1, (rd_T95 aE aC).f2⟩ : S95) [.int .i64 ((rd_T95 aE aC).f0), .string ((rd_T95 aE aC).f1), .string ((rd_T95 aE aC).f2)] (fun k_ => k_ ≠ aN) (fun _ => False) rfl rfl ?aP (fun _ hk => hk.elim) ?aF ?aO ?aB ?aS ?aL ?_; (case aP => exact u4_6); (case aB => exact xbg); (case aF => exact u4_2); (case aO => exact (xr aW)); (case aS => exact (below_size xbg)); (case aL => have := LMc41.out; omega); intro oC oD ho hb hg hat; rw [← fM.out] at ho; replace aD := aM (blk_grown (g := bA) (o := .cells #[.int .i64 aK, .slice (some bB) aE.length bO] 26 (0, 0)) xblk hg (Kd.R_ne aW.out aD.out (by decide))); replace aH := aM (blk_grown (g := aN) (o := .cells #[.int .i64 aV, .string aX, .string aY] 95 (0, 0)) xblk hg (Kd.R_away aW.out (fun _ hk => hk))); replace aI := aM (blk_grown (g := cF) (o := .cells #[.int .i64 0, .slice none 0 0] 26 (0, 0)) xblk hg (Kd.R_ne aW.out aI.out (by decide))); replace aG := aM (blk_grown (g := aT) (o := .cells #[.int .i64 aK, .slice cP aZ.length cQ] 26 (0, 0)) xblk hg (Kd.R_ne aW.out aG.out (by decide))); replace HB := aM (hb); have eT := aM (ho); clear aW ho hb hg hat; obtain ⟨jZ, kA, fO⟩ := Kd.R_slice eT.out; (first | subst fO | (injection fO with f1_ f2_ f3_; have f4_ := f1_.symm; have f5_ := f3_.symm; clear f1_ f2_ f3_; subst f4_; subst f5_)); refine hK.out _ _ ⟨xc aG 0 rfl, xc aG 1 rfl, xc aD 0 rfl, xc aD 1 rfl, (xce HB cY), (xce HB cX), (xce HB cW)⟩ (fun hHeld => ?_); clear hK K; refine nm_ (N := 54) ?_; refine pV 9 55 ?_; refine last_ (i := 10) (N := none) #[true, true, true, true, true, true, true, true, true, true, true] rfl rfl (one_of HT_.out (by kernel_rfl)) (by decide) (fun K hK => ?_); have hs57 : oD.cell? ⟨aT, 1, none⟩ = some (.slice cP aZ.length cQ) := xc aG 1 rfl; have hfs57 := blk_frozen aG.out 1; have hns57_0 := bG.out; have hns57_1 := bJ.out; have hns57_2 := bL.out; have hms57_0 := bH.out; have hms57_1 := bK.out; have hms57_2 := bM.out; refine skip_ (w1 := ?_) (by rfl) rfl ?_ ?_; rotate_left
            ·go_simp
             rfl
            refine hK.out _ _ ?_; clear hK K; refine dn_ ?_; try go_wp2
            go_roundg dV
            case measure => have := HK1.out; have := HJ14.out; omega
            case rel => exact ⟨(true), (wrap64 (aC + 1)), (eZ), (.slice jZ eZ.length kA), u4_0, u4_0, H', ⟨u4_3⟩, ⟨xrs eT⟩, ⟨xB⟩, ⟨xB⟩, ⟨xB⟩, ⟨xP⟩, ⟨xbg⟩⟩
           ·rw [if_neg gR] at H; exact absurd H (by simp)
         ·rw [if_neg gA] at H; exact absurd H (by simp)
        ·rw [if_neg fZ] at H; exact absurd H (by simp)
       ·rw [if_neg fY] at H; exact absurd H (by simp)
      ·replace fX := Bool.eq_false_iff.mpr fX; subst fX; replace H := iN H; by_cases iC : 0 ≤ aC
       ·rw [if_pos iC] at H; have mJ : decide (0 ≤ aC) = true := decide_eq_true iC; clear iC; by_cases iD : aC < (aE.length : Int)
        ·rw [if_pos iD] at H; have mK : decide (aC < (aE.length : Int)) = true := decide_eq_true iD; clear iD; by_cases fP : ((rd_T95 aE aC).f0) = aV
         ·rw [if_pos fP] at H; obtain ⟨fQ, fR⟩ := bT fP; clear fP; have H' := aM H; clear H; try go_wp2
          replace aA := rD aA; replace aD := bD aD; replace aH := bD aH; replace aI := bD aI; replace aG := bD aG; replace HB := lD HB; have p209 : 0 ≤ (aC : Int) := oda; have q209 : aC < (aE.length : Int) := oda; obtain ⟨bC, fA, bX, bY, bZ⟩ := at_T95 cL.out aC p209 q209; have dP := bZ; have dQ := bY; have dR := bX; cases fA
          replace bX := xce HB bX; replace bY := xce HB bY; replace bZ := xce HB bZ; replace p209 := eq_true p209; replace q209 := eq_true q209; refine st_ 9 (fun w' => w'.cell? ⟨bA, 0, none⟩ = some (.int .i64 aK) ∧ w'.cell? ⟨bA, 1, none⟩ = some (.slice (some bC) aE.length bO) ∧ w'.cell? ⟨aN, 0, none⟩ = some (.int .i64 aV) ∧ w'.cell? ⟨aN, 1, none⟩ = some (.string aX) ∧ w'.cell? ⟨aN, 2, none⟩ = some (.string aY) ∧ w'.cell? (bC.add ((aC).toNat * 3)) = some (.int .i64 ((rd_T95 aE aC).f0)) ∧ w'.cell? ⟨(bC.add ((aC).toNat * 3)).block, (bC.add ((aC).toNat * 3)).off + 1, none⟩ = some (.string ((rd_T95 aE aC).f1)) ∧ w'.cell? ⟨(bC.add ((aC).toNat * 3)).block, (bC.add ((aC).toNat * 3)).off + 2, none⟩ = some (.string ((rd_T95 aE aC).f2))) spec_l3Put.T9 spec_l3Put.B9 ⟨xc aD 0 rfl, xc aD 1 rfl, xc aH 0 rfl, xc aH 1 rfl, xc aH 2 rfl, (xce HB dR), (xce HB dQ), (xce HB dP)⟩ (fun hHeld HT_ HW_ => ?_); generalize wc.drew = oR at aA aD aH aI aG HB bX bY bZ hHeld ⊢; refine pV 0 37 ?_; refine pV 2 39 ?_; refine pV 6 43 ?_; refine tK 1 38 ?_; refine pV 3 40 ?_; refine pV 4 41 ?_; refine tK 5 42 ?_; refine tK 7 44 ?_; refine pV 8 45 ?_; refine dn_ ?_; try go_wp2
          go_roundg dV
          case measure => have := HK1.out; have := HJ14.out; omega
          case rel => exact ⟨(dK), (wrap64 (aC + 1)), (aJ), (aU), u4_0, u4_0, H', ⟨u4_3⟩, ⟨u4_4⟩, ⟨xblk⟩, ⟨xblk⟩, ⟨xblk⟩, ⟨xblk⟩, ⟨xbg⟩⟩
         ·rw [if_neg fP] at H; obtain ⟨fQ, fR⟩ := bF fP; by_cases iE : aJ.length < 3518437208883
          ·rw [if_pos iE] at H; have LMc62 := aM iE; clear iE; obtain ⟨fB, hY⟩ : ∃ y_ : List (S95), y_ = (aJ ++ [(⟨(rd_T95 aE aC).f0, (rd_T95 aE aC).f1, (rd_T95 aE aC).f2⟩ : S95)]) := ⟨_, rfl⟩; replace H : (spec_l3Put.l0 dV dK (wrap64 (aC + 1)) aK aE aV aX aY aK fB) = some (r1, r2) := u4_1; have fS := aM hY; clear hY; have H' := aM H; clear H; try go_wp2
           replace aA := rD aA; replace aD := bD aD; replace aH := bD aH; replace aI := bD aI; replace aG := bD aG; replace HB := lD HB; have p209 : 0 ≤ (aC : Int) := oda; have q209 : aC < (aE.length : Int) := oda; obtain ⟨bC, fA, bX, bY, bZ⟩ := at_T95 cL.out aC p209 q209; have dP := bZ; have dQ := bY; have dR := bX; cases fA
           replace bX := xce HB bX; replace bY := xce HB bY; replace bZ := xce HB bZ; replace p209 := eq_true p209; replace q209 := eq_true q209; refine st_ 9 (fun w' => w'.cell? ⟨bA, 0, none⟩ = some (.int .i64 aK) ∧ w'.cell? ⟨bA, 1, none⟩ = some (.slice (some bC) aE.length bO) ∧ w'.cell? ⟨aN, 0, none⟩ = some (.int .i64 aV) ∧ w'.cell? ⟨aN, 1, none⟩ = some (.string aX) ∧ w'.cell? ⟨aN, 2, none⟩ = some (.string aY) ∧ w'.cell? (bC.add ((aC).toNat * 3)) = some (.int .i64 ((rd_T95 aE aC).f0)) ∧ w'.cell? ⟨(bC.add ((aC).toNat * 3)).block, (bC.add ((aC).toNat * 3)).off + 1, none⟩ = some (.string ((rd_T95 aE aC).f1)) ∧ w'.cell? ⟨(bC.add ((aC).toNat * 3)).block, (bC.add ((aC).toNat * 3)).off + 2, none⟩ = some (.string ((rd_T95 aE aC).f2))) spec_l3Put.T9 spec_l3Put.B9 ⟨xc aD 0 rfl, xc aD 1 rfl, xc aH 0 rfl, xc aH 1 rfl, xc aH 2 rfl, (xce HB dR), (xce HB dQ), (xce HB dP)⟩ (fun hHeld HT_ HW_ => ?_); generalize wc.drew = oE at aA aD aH aI aG HB bX bY bZ hHeld ⊢; refine pV 0 37 ?_; refine pV 2 39 ?_; refine pV 6 43 ?_; refine tK 1 38 ?_; refine pV 3 40 ?_; refine pV 4 41 ?_; refine tK 5 42 ?_; refine tK 7 44 ?_; refine pV 8 45 ?_; refine dn_ ?_; try go_wp2
           replace aA := rD aA; replace aD := bD aD; replace aH := bD aH; replace aI := bD aI; replace aG := bD aG; replace HB := lD HB; have p210 : 0 ≤ (aC : Int) := oda; have q210 : aC < (aE.length : Int) := oda; obtain ⟨fT, kB, cZ, dA, dB⟩ := at_T95 cL.out aC p210 q210; have dC := dB; have dD := dA; have dE := cZ; obtain rfl : bC = fT := (by injection kB); replace cZ := xce HB cZ; replace dA := xce HB dA; replace dB := xce HB dB; replace p210 := eq_true p210; replace q210 := eq_true q210; refine start_ (n := 11) (S := fun w' => w'.cell? ⟨aT, 0, none⟩ = some (.int .i64 aK) ∧ w'.cell? ⟨aT, 1, none⟩ = some (aU) ∧ w'.cell? ⟨bA, 0, none⟩ = some (.int .i64 aK) ∧ w'.cell? ⟨bA, 1, none⟩ = some (.slice (some bC) aE.length bO) ∧ w'.cell? (bC.add ((aC).toNat * 3)) = some (.int .i64 ((rd_T95 aE aC).f0)) ∧ w'.cell? ⟨(bC.add ((aC).toNat * 3)).block, (bC.add ((aC).toNat * 3)).off + 1, none⟩ = some (.string ((rd_T95 aE aC).f1)) ∧ w'.cell? ⟨(bC.add ((aC).toNat * 3)).block, (bC.add ((aC).toNat * 3)).off + 2, none⟩ = some (.string ((rd_T95 aE aC).f2))) (ds := [10]) #[false, false, false, false, false, false, false, false, false, false, false] (by kernel_rfl) rfl rfl ⟨xc aG 0 rfl, xc aG 1 rfl, xc aD 0 rfl, xc aD 1 rfl, (xce HB dE), (xce HB dD), (xce HB dC)⟩ (fun hHeld => ?_); refine with_tabW spec_l3Put.tab10 spec_l3Put.bits10 (fun HT_ HW_ => ?_); generalize oE.drew = oT at aA aD aH aI aG HB cZ dA dB hHeld ⊢; refine pV 0 46 ?_; refine pV 2 48 ?_; refine pV 4 50 ?_; refine tK 1 47 ?_; refine tK 3 49 ?_; refine pV 5 51 ?_; refine tK 6 52 ?_; refine oN 7 53 fun K hK => ?_
           refine value_ (w1 := ?_) (v := ?_) (by rfl) rfl ?_ ?_; rotate_left 2
           ·go_simp
            constructor
            ·rfl
            ·rfl
           refine hK.out _ _ ⟨(blk_cell (blk_alloc aG.out _) 0).trans rfl, (blk_cell (blk_alloc aG.out _) 1).trans rfl, (blk_cell (blk_alloc aD.out _) 0).trans rfl, (blk_cell (blk_alloc aD.out _) 1).trans rfl, (World.cell?_alloc_lt _ _ _ (World.block_lt_of_cell? _ _ ((xce HB dE)))).trans ((xce HB dE)), (World.cell?_alloc_lt _ _ _ (World.block_lt_of_cell? _ _ ((xce HB dD)))).trans ((xce HB dD)), (World.cell?_alloc_lt _ _ _ (World.block_lt_of_cell? _ _ ((xce HB dC)))).trans ((xce HB dC))⟩ (fun hHeld => ?_); clear hK K; refine nm_ (N := 53) ?_; refine oN 8 54 fun K hK => ?_
           refine Kd.R_append_step k95 (w0 := w) w.heap.size (by rfl) (.tmp 47) (.tmp 53) 24 95 (.agg #[(.int .i64 0), (.string ⟨#[]⟩), (.string ⟨#[]⟩)]) 40 rfl Try.underlying24 info95 rfl (by decide) (by omega) aU aJ (⟨(rd_T95 aE aC).f0, (rd_T95 aE aC).f1, (rd_T95 aE aC).f2⟩ : S95) [.int .i64 ((rd_T95 aE aC).f0), .string ((rd_T95 aE aC).f1), .string ((rd_T95 aE aC).f2)] (fun k_ => k_ ≠ aN) (fun _ => False) rfl rfl ?aP (fun _ hk => hk.elim) ?aF ?aO ?aB ?aS ?aL ?_; (case aP => exact u4_6); (case aB => exact xbg); (case aF => exact u4_2); (case aO => exact (xr aA)); (case aS => exact (below_size xbg)); (case aL => have := LMc62.out; omega); intro oF oG ho hb hg hat; rw [← fS.out] at ho; replace aD := aM (blk_grown (g := bA) (o := .cells #[.int .i64 aK, .slice (some bC) aE.length bO] 26 (0, 0)) xblk hg (Kd.R_ne aA.out aD.out (by decide))); replace aH := aM (blk_grown (g := aN) (o := .cells #[.int .i64 aV, .string aX, .string aY] 95 (0, 0)) xblk hg (Kd.R_away aA.out (fun _ hk => hk))); replace aI := aM (blk_grown (g := cF) (o := .cells #[.int .i64 0, .slice none 0 0] 26 (0, 0)) xblk hg (Kd.R_ne aA.out aI.out (by decide))); replace aG := aM (blk_grown (g := aT) (o := .cells #[.int .i64 aK, aU] 26 (0, 0)) xblk hg (Kd.R_ne aA.out aG.out (by decide))); replace HB := aM (hb); have eU := aM (ho); clear aA ho hb hg hat; obtain ⟨kC, kE, fU⟩ := Kd.R_slice eU.out; (first | subst fU | (injection fU with f1_ f2_ f3_; have f4_ := f1_.symm; have f5_ := f3_.symm; clear f1_ f2_ f3_; subst f4_; subst f5_)); refine hK.out _ _ ⟨xc aG 0 rfl, xc aG 1 rfl, xc aD 0 rfl, xc aD 1 rfl, (xce HB dE), (xce HB dD), (xce HB dC)⟩ (fun hHeld => ?_); clear hK K; refine nm_ (N := 54) ?_; refine pV 9 55 ?_; refine last_ (i := 10) (N := none) #[true, true, true, true, true, true, true, true, true, true, true] rfl rfl (one_of HT_.out (by kernel_rfl)) (by decide) (fun K hK => ?_); have hs67 : oG.cell? ⟨aT, 1, none⟩ = some (aU) := xc aG 1 rfl; have hfs67 := blk_frozen aG.out 1; have hns67_0 := bG.out; have hns67_1 := bJ.out; have hns67_2 := bL.out; have hms67_0 := bH.out; have hms67_1 := bK.out; have hms67_2 := bM.out; refine skip_ (w1 := ?_) (by rfl) rfl ?_ ?_; rotate_left
           ·go_simp
            rfl
           refine hK.out _ _ ?_; clear hK K; refine dn_ ?_; try go_wp2
           go_roundg dV
           case measure => have := HK1.out; have := HJ14.out; omega
           case rel => exact ⟨(dK), (wrap64 (aC + 1)), (fB), (.slice kC fB.length kE), u4_0, u4_0, H', ⟨u4_3⟩, ⟨xrs eU⟩, ⟨xB⟩, ⟨xB⟩, ⟨xB⟩, ⟨xP⟩, ⟨xbg⟩⟩
          ·rw [if_neg iE] at H; exact absurd H (by simp)
        ·rw [if_neg iD] at H; exact absurd H (by simp)
       ·rw [if_neg iC] at H; exact absurd H (by simp)
   ·rw [if_neg eW] at H; have eP : decide (aC < (aE.length : Int)) = false := decide_eq_false eW; clear eW; by_cases iF : dK = true
    ·subst iF; replace H := iT H; simp only [Option.some.injEq, Prod.mk.injEq] at H; obtain ⟨rfl, rfl⟩ := H; have mL := cB.out; have mM := cC.out; have mN := cG.out; have mO := cH.out; have mP := bG.out; have mQ := bH.out; obtain ⟨iG, iH, iI, iJ⟩ := xf2 (w := wr) aD; have mR := bK.out; have mS := bJ.out; have mT := bM.out; have mU := bL.out; obtain ⟨iK, iL, iM, iO⟩ := xf2 (w := wr) aG; have mV := cJ.out; have mW := cI.out; obtain ⟨iP, iQ, iR, iS⟩ := xf2 (w := wr) aI; obtain ⟨kF, kG, kH⟩ := Kd.R_slice aA.out; subst kH; go_wp2; refine bodyPost_ret (results_cell_row rfl _ _ cF 26 #[.int .i64 aK, .slice kF aJ.length kG] (0, 0) _ rfl xP Try.underlying26 rfl (by kernel_rfl)) rfl ?_; exact ⟨_, xerr, xrm aA (fun _ _ => trivial), xbg⟩
    ·replace iF := Bool.eq_false_iff.mpr iF; subst iF; replace H := iN H; by_cases iU : aJ.length < 3518437208883
     ·rw [if_pos iU] at H; have LMc79 := aM iU; clear iU; obtain ⟨fV, hY⟩ : ∃ y_ : List (S95), y_ = (aJ ++ [(⟨aV, aX, aY⟩ : S95)]) := ⟨_, rfl⟩; replace H : (some (aK, fV)) = some (r1, r2) := u4_1; have fW := aM hY; clear hY; simp only [Option.some.injEq, Prod.mk.injEq] at H; obtain ⟨rfl, rfl⟩ := H; have mX := cB.out; have mY := cC.out; have mZ := cG.out; have nA := cH.out; have nB := bG.out; have nC := bH.out; obtain ⟨iV, iW, iX, iY⟩ := xf2 (w := wr) aD; have nD := bK.out; have nE := bJ.out; have nF := bM.out; have nG := bL.out; obtain ⟨iZ, jA, jB, jC⟩ := xf2 (w := wr) aG; have nH := cI.out; have nI := cJ.out; obtain ⟨jD, jE, jF, jG, jH, jI⟩ := xf3 (w := wr) aH; go_wp2_with (first | ((with_reducible refine gate_builtin (b := .append) (xs := #[.tmp 59, .tmp 61]) rfl ?_); at_builtin; refine Kd.R_append k95 (w0 := w) w.heap.size rfl (.tmp 59) (.tmp 61) 24 95 (.agg #[(.int .i64 0), (.string ⟨#[]⟩), (.string ⟨#[]⟩)]) 40 rfl Try.underlying24 info95 rfl (by decide) (by omega) aU aJ (⟨aV, aX, aY⟩ : S95) [.int .i64 aV, .string aX, .string aY] (fun k_ => k_ ≠ aN) (fun _ => False) rfl rfl ?aP (fun _ hk => hk.elim) ?aF ?aO ?aB ?aS ?aL ?_; (case aP => exact u4_5); (case aB => exact xbg); (case aF => exact u4_2); (case aO => exact (xr aA)); (case aS => exact (below_size xbg)); (case aL => have := LMc79.out; omega); intro oH nJ ho hb hg hat; rw [← fW.out] at ho; replace aD := aM (blk_grown (g := bA) (o := .cells #[.int .i64 aK, .slice cK aE.length bO] 26 (0, 0)) xblk hg (Kd.R_ne aA.out aD.out (by decide))); replace aH := aM (blk_grown (g := aN) (o := .cells #[.int .i64 aV, .string aX, .string aY] 95 (0, 0)) xblk hg (Kd.R_away aA.out (fun _ hk => hk))); replace aI := aM (blk_grown (g := cF) (o := .cells #[.int .i64 0, .slice none 0 0] 26 (0, 0)) xblk hg (Kd.R_ne aA.out aI.out (by decide))); replace aG := aM (blk_grown (g := aT) (o := .cells #[.int .i64 aK, aU] 26 (0, 0)) xblk hg (Kd.R_ne aA.out aG.out (by decide))); replace HB := aM (hb); have eV := aM (ho); clear aA; clear ho hb hg hat; obtain ⟨kI, kJ, kK⟩ := Kd.R_slice eV.out; subst kK; obtain ⟨jJ, jK, jL, jM⟩ := xf2 (w := nJ) aG; obtain ⟨jN, jO, jP, jQ⟩ := xf2 (w := nJ) aI))
      refine bodyPost_ret (results_cell_row rfl _ _ cF 26 #[.int .i64 aK, .slice kI fV.length kJ] (0, 0) _ rfl xP Try.underlying26 rfl (by kernel_rfl)) rfl ?_; exact ⟨_, xerr, xrm eV (fun _ _ => trivial), xbg⟩
     ·rw [if_neg iU] at H; exact absurd H (by simp)

end Go.Proofs.Ytoojdlobnbakoaa.QFnJournal
