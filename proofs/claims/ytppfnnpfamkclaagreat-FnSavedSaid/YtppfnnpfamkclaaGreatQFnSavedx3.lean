-- A walk, by a program of this session.
import Derived.Test.YtppfnnpfamkclaaGreatQFnSavedx0
namespace Go.Proofs.YtppfnnpfamkclaaGreat.QFnSaved
open Go.RowKit Go.Proofs.YtppfnnpfamkclaaGreatW.PrintWords Go.Proofs.YtppfnnpfamkclaaGreatW.PrintLast Go.Proofs.YtppfnnpfamkclaaGreatW.PrintMore
attribute [local go_sem] max2_int min2_int max_two min_two max_three min_three max_four min_four   -- for this text's walks alone
set_option maxHeartbeats 8000000
set_option maxRecDepth 100000
set_option linter.unusedVariables false
set_option linter.unusedSimpArgs false
theorem u3_0 {p : Prop} (h : p := by first | rfl | (simp; done) | (simp [*]; done)) : p := h
theorem u3_1 {p : Prop} (h : p := by repeat (first | (with_reducible first | exact HBW.out | apply below_alloc | apply pw_below_drewN | apply below_drew1) | exact HBW.out)) : p := h
theorem u3_2 {p : Prop} (h : p := by repeat (first | exact Drawn0.refl _ | apply Drawn0.step)) : p := h
def laws_big.f (l0 : List Int) : Option (Bool) := some (decide ((l0.length : Int) > 1048576))
theorem laws_big.calls {A0 : Option Addr} {c0 : Nat} {l0 : List Int} {r : Bool} {w : World} (h : laws_big.f l0 = some r) (aD : Kd.C (Kd.int .u8) w A0 l0.length l0) (bN : l0.length ≤ c0) :
 Calls Tryz.prog 4 #[.slice A0 l0.length c0] w fun e w' => e = .returned (.bool r) ∧ Drawn0 w w' := by
 have cG := aM aD; have dY := aM bN
 clear aD bN
 have H := h; unfold laws_big.f at H
 clear h
 obtain rfl := Option.some.inj H
 go_enter Tryz.func4, Tryz.ntmps4
 go_wp2
 go_ret
 exact ⟨u3_0, u3_2⟩
def IsS70 (w0 W : World) (g : Nat) (f0 : List Int) (f1 : Int) (f2 : Int) : Prop := ∃ A0 c0, W.heap[g]? = some (.cells #[.slice A0 f0.length c0, .int .i64 f1, .int .i64 f2] 70 (0, 0)) ∧ w0.heap.size ≤ g ∧ Kd.C (Kd.int .u8) w0 A0 f0.length f0
theorem IsS70.grown {w0 W : World} {g : Nat} {f0 : List Int} {f1 : Int} {f2 : Int} {W1 : World} {row : Option Nat} (h : IsS70 w0 W g f0 f1 f2) (hw : W.grownBy W1 row) (hne : some g ≠ row) : IsS70 w0 W1 g f0 f1 f2 := by
 obtain ⟨A0, c0, hb, hg, aD⟩ := h
 exact ⟨A0, c0, blk_grown hb hw hne, hg, aD⟩
theorem IsS70.below {w0 W : World} {g : Nat} {f0 : List Int} {f1 : Int} {f2 : Int} {W1 : World} (h : IsS70 w0 W g f0 f1 f2) (hw : Below W.heap.size W W1) : IsS70 w0 W1 g f0 f1 f2 := h.grown (grown_of_below hw none) (by simp)
theorem IsS70.alloc {w0 W : World} {g : Nat} {f0 : List Int} {f1 : Int} {f2 : Int} (h : IsS70 w0 W g f0 f1 f2) (o : Obj) : IsS70 w0 (W.alloc o) g f0 f1 f2 := h.below (below_alloc (Below.refl _ _) o)
theorem IsS70.drewN {w0 W : World} {g : Nat} {f0 : List Int} {f1 : Int} {f2 : Int} (h : IsS70 w0 W g f0 f1 f2) (m : Nat) : IsS70 w0 (W.drewN m) g f0 f1 f2 := h
theorem IsS70.drew {w0 W : World} {g : Nat} {f0 : List Int} {f1 : Int} {f2 : Int} (h : IsS70 w0 W g f0 f1 f2) : IsS70 w0 W.drew g f0 f1 f2 := h
theorem IsS70.at_ {w0 W : World} {g : Nat} {f0 : List Int} {f1 : Int} {f2 : Int} {w' : World} {m : Nat} (hq : W.drewN m = w') (h : IsS70 w0 W g f0 f1 f2) : IsS70 w0 w' g f0 f1 f2 := by subst hq; exact IsS70.drewN h m
theorem IsS70.apart {w0 W : World} {g : Nat} {f0 : List Int} {f1 : Int} {f2 : Int} {α : Type} {d : Kd α} {e : Nat} {base : Nat} {ok : Nat → Prop} {v : Value} {xs : List α} (h : IsS70 w0 W g f0 f1 f2) (ho : d.R e W base ok v xs) (ht : ∀ q, q ∈ e :: d.E → q ≠ 70) : d.R e W base (fun k => ok k ∧ k ≠ g) v xs := by
 obtain ⟨A0, c0, hb, hg, aD⟩ := h
 exact Kd.R_types ho hb ht
theorem IsS70.own_ne {w0 W : World} {g : Nat} {f0 : List Int} {f1 : Int} {f2 : Int} {α : Type} {d : Kd α} {e : Nat} {base : Nat} {ok : Nat → Prop} {v : Value} {xs : List α} (h : IsS70 w0 W g f0 f1 f2) (ho : d.R e W base ok v xs) (ht : e ≠ 70) : some g ≠ v.ownBlock := by
 obtain ⟨A0, c0, hb, hg, aD⟩ := h
 exact Kd.R_ne ho hb ht
theorem IsS70.lt {w0 W : World} {g : Nat} {f0 : List Int} {f1 : Int} {f2 : Int} (h : IsS70 w0 W g f0 f1 f2) : g < W.heap.size := by
 obtain ⟨A0, c0, hb, hg, aD⟩ := h
 exact blk_lt hb
theorem IsS70.ge {w0 W : World} {g : Nat} {f0 : List Int} {f1 : Int} {f2 : Int} (h : IsS70 w0 W g f0 f1 f2) : w0.heap.size ≤ g := by
 obtain ⟨A0, c0, hb, hg, aD⟩ := h
 exact hg
theorem IsS70.ne_blk {w0 W : World} {g : Nat} {f0 : List Int} {f1 : Int} {f2 : Int} {a : Nat} {cs : Array Value} {t : TypeId} {fr : Nat × Nat} (h : IsS70 w0 W g f0 f1 f2) (cH : W.heap[a]? = some (.cells cs t fr)) (ht : t ≠ 70) : g ≠ a := by
 obtain ⟨A0, c0, hb, hg, aD⟩ := h
 rintro rfl
 rw [hb] at cH
 injection cH with cH
 injection cH with _ ht2
 exact ht ht2.symm
theorem IsS70.far {w0 W : World} {g : Nat} {f0 : List Int} {f1 : Int} {f2 : Int} {p : Addr} (h : IsS70 w0 W g f0 f1 f2) (hne : g ≠ p.block) (u : Value) : IsS70 w0 (W.setCell p u) g f0 f1 f2 := by
 obtain ⟨A0, c0, hb, hg, aD⟩ := h
 exact ⟨A0, c0, blk_far hb hne u, hg, aD⟩
theorem cellS70_0 {W : World} {g : Nat} {A0 : Option Addr} {c0 : Nat} {f0 : List Int} {f1 : Int} {f2 : Int} (h : W.heap[g]? = some (.cells #[.slice A0 f0.length c0, .int .i64 f1, .int .i64 f2] 70 (0, 0))) : W.cell? ⟨g, 0, none⟩ = some (.slice A0 f0.length c0) := (blk_cell h 0).trans rfl
theorem cellS70_1 {W : World} {g : Nat} {A0 : Option Addr} {c0 : Nat} {f0 : List Int} {f1 : Int} {f2 : Int} (h : W.heap[g]? = some (.cells #[.slice A0 f0.length c0, .int .i64 f1, .int .i64 f2] 70 (0, 0))) : W.cell? ⟨g, 1, none⟩ = some (.int .i64 f1) := (blk_cell h 1).trans rfl
theorem IsS70.set_1 {w0 W : World} {g : Nat} {f0 : List Int} {f1 : Int} {f2 : Int} (h : IsS70 w0 W g f0 f1 f2) (x : Int) : IsS70 w0 (W.setCell ⟨g, 1, none⟩ (.int .i64 x)) g f0 x f2 := by
 obtain ⟨A0, c0, hb, hg, aD⟩ := h
 exact ⟨A0, c0, by simpa using blk_set hb 1 (.int .i64 x), hg, aD⟩
theorem cellS70_2 {W : World} {g : Nat} {A0 : Option Addr} {c0 : Nat} {f0 : List Int} {f1 : Int} {f2 : Int} (h : W.heap[g]? = some (.cells #[.slice A0 f0.length c0, .int .i64 f1, .int .i64 f2] 70 (0, 0))) : W.cell? ⟨g, 2, none⟩ = some (.int .i64 f2) := (blk_cell h 2).trans rfl
theorem IsS70.set_2 {w0 W : World} {g : Nat} {f0 : List Int} {f1 : Int} {f2 : Int} (h : IsS70 w0 W g f0 f1 f2) (x : Int) : IsS70 w0 (W.setCell ⟨g, 2, none⟩ (.int .i64 x)) g f0 f1 x := by
 obtain ⟨A0, c0, hb, hg, aD⟩ := h
 exact ⟨A0, c0, by simpa using blk_set hb 2 (.int .i64 x), hg, aD⟩
theorem IsS70.s {w0 W : World} {g : Nat} {f0 : List Int} {f1 : Int} {f2 : Int} (h : IsS70 w0 W g f0 f1 f2 := by repeat (first | (with_reducible first | exact HI0.out | apply IsS70.alloc | apply IsS70.drewN | apply IsS70.drew | apply IsS70.set_1 | apply IsS70.set_2) | ((with_reducible apply IsS70.far); (case hne => apply Aside0.out; assumption)) | exact HI0.out)) : IsS70 w0 W g f0 f1 f2 := h
theorem IsS70.dD {w0 W : World} {g : Nat} {f0 : List Int} {f1 : Int} {f2 : Int} (h : Aside0 (IsS70 w0 W g f0 f1 f2)) : Aside0 (IsS70 w0 W.drew g f0 f1 f2) := ⟨h.out⟩
theorem IsS70.B {b : Nat} {w W : World} (h : Below b w W := by repeat (first | (with_reducible first | exact HB.out | apply below_alloc | apply pw_below_drewN | apply below_drew1) | ((with_reducible apply below_set); (case hg => first | with_reducible exact IsS70.ge HI0.out | (apply Aside0.out; assumption))) | exact HB.out)) : Below b w W := h
def spec_l1New.l0 : Nat → List Int → Int → Int → Option (List Int × Int × Int)
 | 0, _, _, _ => none
 | k + 1, x0, x3, x4 => if x4 < (x0.length : Int) then (if x4 < 4000 then (if 0 ≤ x4 then (spec_l1New.l0 k x0 (Go.bits .and .i64 (wrap64 ((wrap64 ((wrap64 (x3 * 131)) + (wrap64 (rd x0 x4)))) + 7)) 1073741823) (wrap64 (x4 + 1))) else (none)) else (some (x0, 0, x3))) else (some (x0, 0, x3))
def spec_l1New.f (k : Nat) (l0 : List Int) : Option (List Int × Int × Int) := spec_l1New.l0 k l0 (wrap64 (10677 + (l0.length : Int))) 0
theorem spec_l1New.calls {k : Nat} {A0 : Option Addr} {c0 : Nat} {l0 r1 : List Int} {r2 r3 : Int} (w0 : World) {w : World} (h : spec_l1New.f k l0 = some (r1, r2, r3)) (hB : Below w0.heap.size w0 w) (aD : Kd.C (Kd.int .u8) w0 A0 l0.length l0) (bN : l0.length ≤ c0) :
 Calls Tryz.prog 13 #[.slice A0 l0.length c0] w fun e w' => ∃ g_ : Nat, e = .returned (.pointer (some ⟨g_, 0, none⟩)) ∧ IsS70 w0 w' g_ r1 r2 r3 ∧ Below w0.heap.size w0 w' ∧ Below w.heap.size w w' := by
 have dZ := Tryz.underlying70; have cG := aM aD; have dY := aM bN
 clear aD bN
 have HBW := aM (Below.refl w.heap.size w); have HW0 := aM hB.size; have HB := aM hB
 clear hB
 have H := h; unfold spec_l1New.f at H
 clear h
 replace H := aM H
 go_enter Tryz.func13, Tryz.ntmps13
 go_wp2
 go_loopg [3, 4] k (fun kq v3 v4 w' => ∃ (aE : Int) (aA : Int), v3 = .int .i64 aE ∧ v4 = .int .i64 aA ∧ Aside0 (spec_l1New.l0 kq l0 aE aA = some (r1, r2, r3)) ∧ Aside0 (kq ≤ k) ∧ Aside0 (Below w.heap.size w w') ∧ Aside0 (Below w0.heap.size w0 w'))
 case atStart => exact ⟨_, _, u3_0, u3_0, H, ⟨Nat.le_refl _⟩, ⟨u3_1⟩, ⟨xbel⟩⟩
 case round =>
  clear H
  obtain ⟨aE, aA, rfl, rfl, HA, HK1, HBW, HB⟩ := hrel; cases gk with
  | zero => exact absurd HA.out (by simp [spec_l1New.l0])
  | succ k1 =>
   have H := HA.out; clear HA; simp only [spec_l1New.l0] at H; replace H := dI_ H; obtain ⟨bJ, H⟩ | ⟨bJ, H⟩ := H
   ·replace H := dI_ H; obtain ⟨aY, H⟩ | ⟨aY, H⟩ := H
    ·replace H := dN_ H; obtain ⟨aZ, H⟩ := H; replace H := aM H; have p101 : 0 ≤ (aA : Int) := oda; have q101 : aA < (l0.length : Int) := oda; obtain ⟨dN, cJ, aO⟩ := Kd.at_int cG.out aA p101 q101; cases cJ
     replace aO := pw_cell_below HB.out aO; replace p101 := eq_true p101; replace q101 := eq_true q101; go_wp2; go_roundg k1
     case measure => have := HK1.out; omega
     case rel => exact ⟨_, _, u3_0, u3_0, H, ⟨by have := HK1.out; omega⟩, ⟨u3_1⟩, ⟨xbel⟩⟩
    obtain ⟨rfl, rfl, rfl⟩ := i3_ H; go_wp2_with (first | (refine bE_ (N := 31) rfl ?_; intro aP hg w5 dO hb; replace HB := xbs hb; have bP := aM ((by rw [hg]; exact (below_size u3_1) : w.heap.size ≤ aP)); have bQ := aM ((Nat.le_trans HW0.out (by rw [hg]; exact (below_size u3_1) : w.heap.size ≤ aP) : w0.heap.size ≤ aP)); replace HBW := aM (below_step HBW.out hb); clear hb hg))
    go_ret
    exact ⟨_, rfl, (show IsS70 w0 _ aP l0 0 aE from ⟨_, _, xB, bQ.out, cG.out⟩), xbg, by repeat (first | (with_reducible first | exact HBW.out | apply below_alloc | apply pw_below_drewN | apply below_drew1 | refine below_set ?_ bP.out) | exact HBW.out)⟩
   obtain ⟨rfl, rfl, rfl⟩ := i3_ H; go_wp2_with (first | (refine bE_ (N := 31) rfl ?_; intro aQ hg w6 dP hb; replace HB := xbs hb; have bR := aM ((by rw [hg]; exact (below_size u3_1) : w.heap.size ≤ aQ)); have bS := aM ((Nat.le_trans HW0.out (by rw [hg]; exact (below_size u3_1) : w.heap.size ≤ aQ) : w0.heap.size ≤ aQ)); replace HBW := aM (below_step HBW.out hb); clear hb hg))
   go_ret
   exact ⟨_, rfl, (show IsS70 w0 _ aQ l0 0 aE from ⟨_, _, xB, bS.out, cG.out⟩), xbg, by repeat (first | (with_reducible first | exact HBW.out | apply below_alloc | apply pw_below_drewN | apply below_drew1 | refine below_set ?_ bR.out) | exact HBW.out)⟩
def spec_l1Byte.f (s0_0 : List Int) (s0_1 : Int) (s0_2 : Int) : Option (Int × Int × Int) := if s0_1 < (s0_0.length : Int) then (if 0 ≤ s0_1 then (some (Go.bits .and .i64 (wrap64 ((Go.bits .and .i64 (Go.bits .xor .i64 ((wrap64 ((wrap64 (s0_2 * 6364136223846793005)) + 1442695040888963407)) / 8589934592) ((wrap64 ((wrap64 (s0_2 * 6364136223846793005)) + 1442695040888963407)) / 35184372088832)) 255) + (wrap64 (rd s0_0 s0_1)))) 255, wrap64 (s0_1 + 1), wrap64 ((wrap64 (s0_2 * 6364136223846793005)) + 1442695040888963407))) else (none)) else (some (Go.bits .and .i64 (Go.bits .xor .i64 ((wrap64 ((wrap64 (s0_2 * 6364136223846793005)) + 1442695040888963407)) / 8589934592) ((wrap64 ((wrap64 (s0_2 * 6364136223846793005)) + 1442695040888963407)) / 35184372088832)) 255, s0_1, wrap64 ((wrap64 (s0_2 * 6364136223846793005)) + 1442695040888963407)))
theorem spec_l1Byte.calls (g : Nat) {s0_0 : List Int} {s0_1 s0_2 r1 r2 r3 : Int} (w0 : World) {w : World} (h : spec_l1Byte.f s0_0 s0_1 s0_2 = some (r1, r2, r3)) (hI : IsS70 w0 w g s0_0 s0_1 s0_2) (hB : Below w0.heap.size w0 w) :
 Calls Tryz.prog 39 #[.pointer (some ⟨g, 0, none⟩)] w fun e w' => e = .returned (.int .i64 r1) ∧ IsS70 w0 w' g s0_0 r2 r3 ∧ Below w0.heap.size w0 w' ∧ KeepBut w w' g none := by
 have HI0 := aM hI; have HK := aM (KeepBut.refl w g none); have HL := aM hB.size
 clear hI
 have HW0 := aM hB.size; have HB := aM hB
 clear hB
 have H := h; unfold spec_l1Byte.f at H
 clear h
 replace H := dI_ H; obtain ⟨bJ, H⟩ | ⟨bJ, H⟩ := H
 ·replace H := dN_ H; obtain ⟨aY, H⟩ := H; obtain ⟨rfl, rfl, rfl⟩ := i3_ H; obtain ⟨ASz4_0, cSz4_0, HGz4, hgz4, HSz4_0⟩ := HI0.out; have cK := cellS70_0 HGz4; have cL := cellS70_1 HGz4; have cM := cellS70_2 HGz4; have cN := blk_frozen HGz4 1; have cO := blk_frozen HGz4 2; clear HGz4 hgz4; have p104 : 0 ≤ (s0_1 : Int) := oda; have q104 : s0_1 < (s0_0.length : Int) := oda; obtain ⟨bT, cP, aC⟩ := Kd.at_int HSz4_0 s0_1 p104 q104; cases cP; have hn104_0 : bT.block ≠ g := Nat.ne_of_lt (Nat.lt_of_lt_of_le (by have := World.block_lt_of_cell? _ _ aC; first | rwa [add_block] at this | exact this) (IsS70.ge HI0.out)); replace aC := pw_cell_below HB.out aC; replace aC := (cell_far (p := ⟨g, 2, none⟩) (by first | (rw [add_block]; exact hn104_0) | (show (Addr.add _ _).block ≠ _; rw [add_block]; exact hn104_0) | exact hn104_0) (.int .i64 (wrap64 ((wrap64 (s0_2 * 6364136223846793005)) + 1442695040888963407)))).trans aC; (try have cI := fun (n_ : Nat) => (show (((w.drewN n_).setCell ⟨g, 2, none⟩ (.int .i64 (wrap64 ((wrap64 (s0_2 * 6364136223846793005)) + 1442695040888963407))))).cell? _ = some _ from aC)); clear hn104_0; replace p104 := eq_true p104; replace q104 := eq_true q104; go_enter Tryz.func39, Tryz.ntmps39
  go_wp2
  repeat (go_quiet (fail); try go_wp2)
  go_ret
  exact ⟨xerr, IsS70.s, IsS70.B, xK⟩
 obtain ⟨rfl, rfl, rfl⟩ := i3_ H; obtain ⟨ASz5_0, cSz5_0, HGz5, hgz5, HSz5_0⟩ := HI0.out; have bK := cellS70_0 HGz5; have bL := cellS70_1 HGz5; have cQ := cellS70_2 HGz5; have bM := blk_frozen HGz5 1; have cR := blk_frozen HGz5 2; clear HGz5 hgz5; go_enter Tryz.func39, Tryz.ntmps39
 go_wp2
 repeat (go_quiet (fail); try go_wp2)
 go_ret
 exact ⟨xerr, IsS70.s, IsS70.B, xK⟩
def spec_l1Below.f (s0_0 : List Int) (s0_1 : Int) (s0_2 : Int) (a1 : Int) : Option (Int × Int × Int) := if a1 ≤ 0 then (some (0, s0_1, s0_2)) else (if a1 ≤ 256 then ((spec_l1Byte.f s0_0 s0_1 s0_2).bind fun aG => (if a1 = 0 then (none) else (some (Int.tmod aG.1 a1, aG.2.1, aG.2.2)))) else ((spec_l1Byte.f s0_0 s0_1 s0_2).bind fun aH => ((spec_l1Byte.f s0_0 aH.2.1 aH.2.2).bind fun aI => ((spec_l1Byte.f s0_0 aI.2.1 aI.2.2).bind fun aJ => ((spec_l1Byte.f s0_0 aJ.2.1 aJ.2.2).bind fun aK => (if a1 = 0 then (none) else (some (Int.tmod (wrap64 ((wrap64 ((wrap64 ((wrap64 (aH.1 * 16777216)) + (wrap64 (aI.1 * 65536)))) + (wrap64 (aJ.1 * 256)))) + aK.1)) a1, aK.2.1, aK.2.2))))))))
theorem spec_l1Below.calls (g : Nat) {s0_0 : List Int} {s0_1 s0_2 a1 r1 r2 r3 : Int} (w0 : World) {w : World} (h : spec_l1Below.f s0_0 s0_1 s0_2 a1 = some (r1, r2, r3)) (hI : IsS70 w0 w g s0_0 s0_1 s0_2) (hB : Below w0.heap.size w0 w) :
 Calls Tryz.prog 18 #[.pointer (some ⟨g, 0, none⟩), .int .i64 a1] w fun e w' => e = .returned (.int .i64 r1) ∧ IsS70 w0 w' g s0_0 r2 r3 ∧ Below w0.heap.size w0 w' ∧ KeepBut w w' g none := by
 have HI0 := aM hI; have HK := aM (KeepBut.refl w g none); have HL := aM hB.size
 clear hI
 have HW0 := aM hB.size; have HB := aM hB
 clear hB
 have H := h; unfold spec_l1Below.f at H
 clear h
 replace H := dI_ H; obtain ⟨aY, H⟩ | ⟨aY, H⟩ := H
 ·obtain ⟨rfl, rfl, rfl⟩ := i3_ H; go_enter Tryz.func18, Tryz.ntmps18
  go_wp2; go_ret
  exact ⟨xerr, IsS70.s, IsS70.B, xK⟩
 replace H := dI_ H; obtain ⟨aZ, H⟩ | ⟨aZ, H⟩ := H
 ·replace H := oA_ H; obtain ⟨⟨cS, cT, cU⟩, A5, H⟩ := H; (try dsimp only at H); replace H := eI_ H; obtain ⟨_, _, H⟩ | ⟨c6, eA, eB, H⟩ := H
  ·cases H
  obtain ⟨rfl, rfl, rfl⟩ := i3_ H; go_enter Tryz.func18, Tryz.ntmps18
  go_wp2_with (first | (refine gN_ 39 14 rfl rfl ?_; refine c0_ Tryz.func39 (spec_l1Byte.calls g w0 A5.out IsS70.s IsS70.B) ?_; rintro w7 ⟨hi, hb, hk⟩; replace HK := xhk HK hk; replace HB := aM (hb); replace HI0 := aM (hi); (try clear hb hk hi)))
  go_ret
  exact ⟨xerr, IsS70.s, IsS70.B, xK⟩
 replace H := oA_ H; obtain ⟨⟨cV, bU, bV⟩, A8, H⟩ := H; (try dsimp only at H); replace H := oA_ H; obtain ⟨⟨cW, bW, bX⟩, A9, H⟩ := H; (try dsimp only at H); replace H := oA_ H; obtain ⟨⟨cX, bY, bZ⟩, eC, H⟩ := H; (try dsimp only at H); replace H := oA_ H; obtain ⟨⟨cY, cZ, dA⟩, eD, H⟩ := H; (try dsimp only at H); replace H := eI_ H; obtain ⟨_, _, H⟩ | ⟨dB, dT, dU, H⟩ := H
 ·cases H
 obtain ⟨rfl, rfl, rfl⟩ := i3_ H; go_enter Tryz.func18, Tryz.ntmps18
 go_wp2_with (first | (refine gN_ 39 18 rfl rfl ?_; refine c0_ Tryz.func39 (spec_l1Byte.calls g w0 A8.out IsS70.s IsS70.B) ?_; rintro eF ⟨hi, hb, hk⟩; replace HK := xhk HK hk; replace HB := aM (hb); replace HI0 := aM (hi); (try clear hb hk hi)) | (refine gN_ 39 20 rfl rfl ?_; refine c0_ Tryz.func39 (spec_l1Byte.calls g w0 A9.out IsS70.s IsS70.B) ?_; rintro eG ⟨hi, hb, hk⟩; replace HK := xhk HK hk; replace HB := aM (hb); replace HI0 := aM (hi); (try clear hb hk hi)) | (refine gN_ 39 22 rfl rfl ?_; refine c0_ Tryz.func39 (spec_l1Byte.calls g w0 eC.out IsS70.s IsS70.B) ?_; rintro eH ⟨hi, hb, hk⟩; replace HK := xhk HK hk; replace HB := aM (hb); replace HI0 := aM (hi); (try clear hb hk hi)) | (refine gN_ 39 24 rfl rfl ?_; refine c0_ Tryz.func39 (spec_l1Byte.calls g w0 eD.out IsS70.s IsS70.B) ?_; rintro eI ⟨hi, hb, hk⟩; replace HK := xhk HK hk; replace HB := aM (hb); replace HI0 := aM (hi); (try clear hb hk hi)))
 go_ret
 exact ⟨xerr, IsS70.s, IsS70.B, xK⟩
def spec_l1Once.f (s0_0 : List Int) (s0_1 : Int) (s0_2 : Int) (a1 : Int) : Option (Bool × Int × Int) := (spec_l1Below.f s0_0 s0_1 s0_2 a1).bind fun aL => (some ((aL.1 == 0), aL.2.1, aL.2.2))
theorem spec_l1Once.calls (g : Nat) {s0_0 : List Int} {s0_1 s0_2 a1 : Int} {r1 : Bool} {r2 r3 : Int} (w0 : World) {w : World} (h : spec_l1Once.f s0_0 s0_1 s0_2 a1 = some (r1, r2, r3)) (hI : IsS70 w0 w g s0_0 s0_1 s0_2) (hB : Below w0.heap.size w0 w) :
 Calls Tryz.prog 16 #[.pointer (some ⟨g, 0, none⟩), .int .i64 a1] w fun e w' => e = .returned (.bool r1) ∧ IsS70 w0 w' g s0_0 r2 r3 ∧ Below w0.heap.size w0 w' ∧ KeepBut w w' g none := by
 have HI0 := aM hI; have HK := aM (KeepBut.refl w g none); have HL := aM hB.size
 clear hI
 have HW0 := aM hB.size; have HB := aM hB
 clear hB
 have H := h; unfold spec_l1Once.f at H
 clear h
 replace H := oB H; obtain ⟨⟨dC, dE, dF⟩, dV, H⟩ := H; (try dsimp only at H); have A3 := aM dV
 clear dV
 obtain ⟨rfl, rfl, rfl⟩ := i3_ H
 go_enter Tryz.func16, Tryz.ntmps16
 go_wp2_with (first | (refine gN_ 18 7 rfl rfl ?_; refine c0_ Tryz.func18 (spec_l1Below.calls g w0 A3.out IsS70.s IsS70.B) ?_; rintro w4 ⟨hi, hb, hk⟩; replace HK := xhk HK hk; replace HB := aM (hb); replace HI0 := aM (hi); (try clear hb hk hi)))
 go_ret
 exact ⟨xerr, IsS70.s, IsS70.B, xK⟩
def spec_l1In.f (a0 : Int) (a1 : Int) (a2 : Int) : Option (Bool) := if a0 ≥ a1 then (some (decide (a0 ≤ a2))) else (some false)
theorem spec_l1In.calls {a0 a1 a2 : Int} {r : Bool} {w : World} (h : spec_l1In.f a0 a1 a2 = some r) :
 Calls Tryz.prog 88 #[.int .i64 a0, .int .i64 a1, .int .i64 a2] w fun e w' => e = .returned (.bool r) ∧ Drawn0 w w' := by
 have H := h; unfold spec_l1In.f at H
 clear h
 replace H := dI_ H; obtain ⟨aZ, H⟩ | ⟨aZ, H⟩ := H
 ·obtain rfl := Option.some.inj H; go_enter Tryz.func88, Tryz.ntmps88
  go_wp2; go_ret
  exact ⟨u3_0, u3_2⟩
 obtain rfl := Option.some.inj H; go_enter Tryz.func88, Tryz.ntmps88
 go_wp2; go_ret
 exact ⟨u3_0, u3_2⟩
def spec_l3Name.f (a0 : Int) : Option (Bool) := (spec_l1In.f a0 0 7).bind fun bA => (some bA)
theorem spec_l3Name.calls {a0 : Int} {r : Bool} {w : World} (h : spec_l3Name.f a0 = some r) :
 Calls Tryz.prog 62 #[.int .i64 a0] w fun e w' => e = .returned (.bool r) ∧ Drawn0 w w' := by
 have H := h; unfold spec_l3Name.f at H
 clear h
 replace H := oB H; obtain ⟨bA, dW, H⟩ := H; (try dsimp only at H); have A2 := aM dW
 clear dW
 obtain rfl := Option.some.inj H
 go_enter Tryz.func62, Tryz.ntmps62
 go_wp2_with (first | (refine gN_ 88 4 rfl rfl ?_; refine c0_ Tryz.func88 (spec_l1In.calls A2.out) ?_; rintro w' ⟨nd, rfl⟩))
 go_ret
 exact ⟨u3_0, u3_2⟩
def spec_l3Size.l0 : Nat → Int → Int → Int → List (S66) → Option (Int)
 | 0, _, _, _, _ => none
 | k + 1, x3, x4, bD, aF => if x4 < (aF.length : Int) then (if 0 ≤ x4 then (spec_l3Size.l0 k (wrap64 ((wrap64 (x3 + (((rd_T66 aF x4).f1).size : Int))) + (((rd_T66 aF x4).f2).size : Int))) (wrap64 (x4 + 1)) bD aF) else (none)) else (some x3)
def spec_l3Size.f (k : Nat) (aN : Int) (aB : List (S66)) : Option (Int) := spec_l3Size.l0 k 0 0 aN aB
theorem spec_l3Size.calls {k : Nat} {aN : Int} {bB : Option Addr} {bC : Nat} {aB : List (S66)} {r : Int} {w : World} (h : spec_l3Size.f k aN aB = some r) (bE : Kd.C k66 w bB aB.length aB) (bG : aB.length ≤ bC) :
 Calls Tryz.prog 63 #[.agg #[.int .i64 aN, .slice bB aB.length bC]] w fun e w' => e = .returned (.int .i64 r) ∧ Below w.heap.size w w' := by
 have eE := Tryz.underlying26; have bH := aM bE; have dX := aM bG
 clear bE bG
 have HB := aM (Below.refl w.heap.size w); have H := h; unfold spec_l3Size.f at H
 clear h
 replace H := aM H
 go_enter Tryz.func63, Tryz.ntmps63
 iterate 6 ((try go_quiet (fail)); (try go_wp2_with (first | (refine bE_ (N := 1) rfl ?_; intro bI hg w2 aR hb; have cC := aM (xge hg); have cD := aM (xge hg); replace HB := xbs hb; clear hb hg))))
 go_loopg [3, 4] k (fun kq v3 v4 w' => ∃ (aE : Int) (aA : Int), v3 = .int .i64 aE ∧ v4 = .int .i64 aA ∧ Aside0 (spec_l3Size.l0 kq aE aA aN aB = some r) ∧ Aside0 (kq ≤ k) ∧ Aside0 (w'.heap[bI]? = some (.cells #[.int .i64 aN, (.slice bB aB.length bC)] 26 (0, 0))) ∧ Aside0 (Below w.heap.size w w'))
 case atStart => exact ⟨_, _, u3_0, u3_0, H, ⟨Nat.le_refl _⟩, ⟨xblk⟩, ⟨xbg⟩⟩
 case round =>
  clear H
  obtain ⟨aE, aA, rfl, rfl, HA, HK1, aR, HB⟩ := hrel; cases gk with
  | zero => exact absurd HA.out (by simp [spec_l3Size.l0])
  | succ k1 =>
   have H := HA.out; clear HA; simp only [spec_l3Size.l0] at H; replace H := dI_ H; obtain ⟨aY, H⟩ | ⟨aY, H⟩ := H
   ·replace H := dN_ H; obtain ⟨aZ, H⟩ := H; replace H := aM H; have bK := xf2 (w := wr) aR; have p125 : 0 ≤ (aA : Int) := oda; have q125 : aA < (aB.length : Int) := oda; obtain ⟨cE, dH, aS, aT, aU⟩ := at_T66 bH.out aA p125 q125; cases dH
    replace aS := xce HB aS; replace aT := xce HB aT; replace aU := xce HB aU; replace p125 := eq_true p125; replace q125 := eq_true q125; have p126 : 0 ≤ (aA : Int) := oda; have q126 : aA < (aB.length : Int) := oda; obtain ⟨cF, dI, aV, aW, aX⟩ := at_T66 bH.out aA p126 q126; obtain rfl : cE = cF := (by injection dI); replace aV := xce HB aV; replace aW := xce HB aW; replace aX := xce HB aX; replace p126 := eq_true p126; replace q126 := eq_true q126; go_wp2
    repeat (go_quiet (fail); try go_wp2)
    go_roundg k1
    case measure => have := HK1.out; omega
    case rel => exact ⟨_, _, u3_0, u3_0, H, ⟨by have := HK1.out; omega⟩, ⟨xblk⟩, ⟨xbg⟩⟩
   obtain rfl := Option.some.inj H; have dJ := xf2 (w := wr) aR; go_wp2
   repeat (go_quiet (fail); try go_wp2)
   go_ret
   exact ⟨xerr, xbg⟩
end Go.Proofs.YtppfnnpfamkclaaGreat.QFnSaved
