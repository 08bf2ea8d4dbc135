-- A walk, by a program of this session.
import Derived.Test.YtppfnnpfamkclaaGreatQFnSavedx0
import Derived.Test.YtppfnnpfamkclaaGreatQFnSavedx3
import Derived.Test.YtppfnnpfamkclaaGreatQFnSavedx4
import Derived.Test.YtppfnnpfamkclaaGreatQFnSavedx5
import Derived.Test.YtppfnnpfamkclaaGreatQFnSavedx6
import Derived.Test.YtppfnnpfamkclaaGreatQFnSavedx7
import Derived.Test.YtppfnnpfamkclaaGreatQFnSavedx8
namespace Go.Proofs.YtppfnnpfamkclaaGreat.QFnSaved
open Go.RowKit Go.Proofs.YtppfnnpfamkclaaGreatW.PrintWords Go.Proofs.YtppfnnpfamkclaaGreatW.PrintLast Go.Proofs.YtppfnnpfamkclaaGreatW.PrintMore
attribute [local go_sem] max2_int min2_int max_two min_two max_three min_three max_four min_four   -- for this text's walks alone
set_option maxHeartbeats 8000000
set_option maxRecDepth 100000
set_option linter.unusedVariables false
set_option linter.unusedSimpArgs false
def spec_l1PickInt.f (s0_0 : List Int) (s0_1 : Int) (s0_2 : Int) (l1 : List Int) : Option (Int × Int × Int) := (spec_l1Below.f s0_0 s0_1 s0_2 (l1.length : Int)).bind fun aX => (if 0 ≤ aX.1 then (if aX.1 < (l1.length : Int) then (some (rd l1 aX.1, aX.2.1, aX.2.2)) else (none)) else (none))
theorem spec_l1PickInt.calls (g : Nat) {s0_0 : List Int} {s0_1 s0_2 : Int} {A1 : Option Addr} {c1 : Nat} {l1 : List Int} {r1 r2 r3 : Int} (w0 : World) {w : World} (h : spec_l1PickInt.f s0_0 s0_1 s0_2 l1 = some (r1, r2, r3)) (hI : IsS70 w0 w g s0_0 s0_1 s0_2) (hB : Below w0.heap.size w0 w) (kN : Kd.C (Kd.int .i64) w A1 l1.length l1) (kO : l1.length ≤ c1) (iI : ∀ ad, A1 = some ad → 0 < l1.length → ad.block ≠ g) :
 Calls Tryz.prog 37 #[.pointer (some ⟨g, 0, none⟩), .slice A1 l1.length c1] w fun e w' => e = .returned (.int .i64 r1) ∧ IsS70 w0 w' g s0_0 r2 r3 ∧ Below w0.heap.size w0 w' ∧ KeepBut w w' g none := by
 have lG := aM kN; have lS := aM kO
 clear kN kO
 have HI0 := aM hI; have HK := aM (KeepBut.refl w g none); have HL := aM hB.size
 clear hI
 have HW0 := aM hB.size; have HB := aM hB
 clear hB
 have H := h; unfold spec_l1PickInt.f at H
 clear h
 replace H := oB H; obtain ⟨⟨cD, iJ, iK⟩, eT, H⟩ := H; (try dsimp only at H); have A3 := aM eT
 clear eT
 replace H := dI_ H; obtain ⟨lH, H⟩ | ⟨_, H⟩ := H
 ·replace H := dN_ H; obtain ⟨eU, H⟩ := H; obtain ⟨rfl, rfl, rfl⟩ := i3_ H; go_enter Tryz.func37, Tryz.ntmps37
  go_wp2_with (first | (refine gN_ 18 9 rfl rfl ?_; refine c0_ Tryz.func18 (spec_l1Below.calls g w0 A3.out IsS70.s IsS70.B) ?_; rintro w6 ⟨hi, hb, hk⟩; replace HK := xhk HK hk; replace HB := aM (hb); replace HI0 := aM (hi); (try clear hb hk hi); have p381 : 0 ≤ (cD : Int) := oda; have q381 : cD < (l1.length : Int) := oda; obtain ⟨fG, iL, cW⟩ := Kd.at_int lG.out cD p381 q381; cases iL; replace cW := keep_cell HK.out cW (by first | (rw [add_block]; exact iI _ rfl (by omega)) | exact iI _ rfl (by omega) | exact iI fG rfl (by omega)); replace p381 := eq_true p381; replace q381 := eq_true q381))
  go_ret
  exact ⟨xerr, IsS70.s, IsS70.B, xK⟩
 cases H
end Go.Proofs.YtppfnnpfamkclaaGreat.QFnSaved
