-- A walk, by a program of this session.
import Derived.Test.YtppfnnpfamkclaaQFnExactRollFindx0
import Derived.Test.YtppfnnpfamkclaaQFnExactRollFindx2
namespace Go.Proofs.Ytppfnnpfamkclaa.QFnExactRollFind
open Go.RowKit Go.Proofs.YtppfnnpfamkclaaW.PrintWords Go.Proofs.YtppfnnpfamkclaaW.PrintLast Go.Proofs.YtppfnnpfamkclaaW.PrintMore
attribute [local go_sem] max2_int min2_int max_two min_two max_three min_three max_four min_four   -- for this text's walks alone
set_option linter.unusedVariables false
set_option linter.unusedSimpArgs false

theorem u3_0 {p : Prop} (h : p := by repeat (first | exact Drawn0.refl _ | apply Drawn0.step)) : p := h
theorem u3_1 {p : Prop} (h : p := by first | rfl | (simp; done) | (simp [*]; done)) : p := h
/-! ### spec_l7Nodes: function 36 -/
def spec_l7Nodes.l0 : Nat → List Int → Int → Int → Option (Bool)
 | 0, _, _, _ => none
 | k + 1, x0, x1, x5 => if x5 < (x0.length : Int) then (if 0 ≤ x5 then ((spec_l1In.f (rd x0 x5) 0 (wrap64 (x1 - 1))).bind fun aJ => (if aJ = true then (if x5 > 0 then (if 0 ≤ (wrap64 (x5 - 1)) then (if (wrap64 (x5 - 1)) < (x0.length : Int) then (if (rd x0 (wrap64 (x5 - 1))) ≥ (rd x0 x5) then (some false) else (spec_l7Nodes.l0 k x0 x1 (wrap64 (x5 + 1)))) else (none)) else (none)) else (spec_l7Nodes.l0 k x0 x1 (wrap64 (x5 + 1)))) else (some false))) else (none)) else (some true)
def spec_l7Nodes.f (k : Nat) (l0 : List Int) (a1 : Int) : Option (Bool) := spec_l7Nodes.l0 k l0 a1 0
theorem u3_mq0 {p : Prop} (h : p := by repeat' first | (with_reducible first | exact aR _ _ _ | exact LeO.refl _ | exact LeO.none _ | refine LeO.ite ?_ ?_ | refine LeO.bind ?_ (fun _ => ?_)) | exact LeO.none _ | refine LeO.ite ?_ ?_ | refine LeO.bind ?_ (fun _ => ?_)) : p := h
set_option maxRecDepth 100000 in
theorem spec_l7Nodes.mono_l : ∀ k, (∀ y0 y1 y2, LeO (spec_l7Nodes.l0 k y0 y1 y2) (spec_l7Nodes.l0 (k + 1) y0 y1 y2))
 | 0 => fun _ _ _ r h => by simp [spec_l7Nodes.l0] at h
 | k + 1 => by
  have aR := spec_l7Nodes.mono_l k
  ·intro y0 y1 y2; unfold spec_l7Nodes.l0; exact u3_mq0
theorem spec_l7Nodes.mono : ∀ a0 a1 k, LeO (spec_l7Nodes.f k a0 a1) (spec_l7Nodes.f (k + 1) a0 a1) := by
 intro a0 a1 k
 have aR := spec_l7Nodes.mono_l k
 unfold spec_l7Nodes.f
 exact u3_mq0
set_option maxHeartbeats 8000000 in
set_option maxRecDepth 100000 in
theorem spec_l7Nodes.calls (k : Nat) (A0 : Option Addr) (c0 : Nat) (l0 : List Int) (a1 : Int) (r : Bool) (w : World) (aS : Kd.C (Kd.int .i64) w A0 l0.length l0) (aT : l0.length ≤ c0) (h : spec_l7Nodes.f k l0 a1 = some r) :
 Calls Try.prog 36 #[.slice A0 l0.length c0, .int .i64 a1] w fun e w' => e = .returned (.bool r) ∧ Drawn0 w w' := by
 have aI := aM aS
 have aY := aM aT
 clear aS aT
 have H : (spec_l7Nodes.l0 k l0 a1 0) = some r := h
 clear h
 have H' := aM H
 clear H
 go_enter Try.func36, Try.ntmps36
 go_wp2
 repeat (go_quiet (fail); try go_wp2)
 go_loopg [5] k (fun kq v5 w' => ∃ (aA : Int), v5 = .int .i64 aA ∧ Aside0 (spec_l7Nodes.l0 kq l0 a1 aA = some r) ∧ Aside0 (kq ≤ k) ∧ Drawn0 w w')
 case atStart => exact ⟨(0), u3_1, H', ⟨Nat.le_refl _⟩, u3_0⟩
 case round =>
  clear H'; try clear p2
  obtain ⟨aA, rfl, HA, HK1, ⟨m1, rfl⟩⟩ := hrel; cases gk with
  | zero => exact absurd HA.out (by simp [spec_l7Nodes.l0])
  | succ k1 =>
   have H := HA.out; clear HA; simp only [spec_l7Nodes.l0] at H; by_cases c3 : aA < (l0.length : Int)
   ·rw [if_pos c3] at H; have aP : decide (aA < (l0.length : Int)) = true := decide_eq_true c3; clear c3; by_cases c4 : 0 ≤ aA
    ·rw [if_pos c4] at H; have aW : decide (0 ≤ aA) = true := decide_eq_true c4; clear c4; replace H := oB H; obtain ⟨aJ, aU, H⟩ := H; (try dsimp only at H); have A5 := aM aU; clear aU
     by_cases c6 : aJ = true
     ·subst c6; replace H := iT H; by_cases c7 : aA > 0
      ·rw [if_pos c7] at H; have aQ : decide (0 < aA) = true := decide_eq_true c7; clear c7; obtain ⟨ji8, hji8⟩ : ∃ j_ : Int, (wrap64 (aA - 1)) = j_ := ⟨_, rfl⟩; replace H : (if 0 ≤ (ji8) then (if (ji8) < (l0.length : Int) then (if (rd l0 (ji8)) ≥ (rd l0 aA) then (some false) else (spec_l7Nodes.l0 k1 l0 a1 (wrap64 (aA + 1)))) else (none)) else (none)) = some r := by first | (rw [hji8] at H; exact H) | (simp only [hji8] at H ⊢; exact H)
       (try rw [hji8] at A5); have hji8w : (IntKind.i64.wrap (aA - 1)) = ji8 := (i64_w _).trans hji8; by_cases c9 : 0 ≤ (ji8)
       ·rw [if_pos c9] at H; have aX : decide (0 ≤ (ji8)) = true := decide_eq_true c9; clear c9; by_cases c10 : (ji8) < (l0.length : Int)
        ·rw [if_pos c10] at H; have aV : decide ((ji8) < (l0.length : Int)) = true := decide_eq_true c10; clear c10; by_cases aN : (rd l0 (ji8)) ≥ (rd l0 aA)
         ·rw [if_pos aN] at H; have aO : decide ((rd l0 aA) ≤ (rd l0 (ji8))) = true := decide_eq_true aN; clear aN; obtain rfl := Option.some.inj H; have p156 : 0 ≤ (aA : Int) := oda; have q156 : aA < (l0.length : Int) := oda; obtain ⟨aB, aD, aC⟩ := Kd.at_int aI.out aA p156 q156; cases aD
          replace p156 := eq_true p156; replace q156 := eq_true q156; have p158 : 0 ≤ ((ji8) : Int) := oda; have q158 : (ji8) < (l0.length : Int) := oda; obtain ⟨aE, aK, aG⟩ := Kd.at_int aI.out (ji8) p158 q158; obtain rfl : aB = aE := (by injection aK); replace p158 := eq_true p158; replace q158 := eq_true q158; have p159 : 0 ≤ (aA : Int) := oda; have q159 : aA < (l0.length : Int) := oda; obtain ⟨aF, aL, aH⟩ := Kd.at_int aI.out aA p159 q159; obtain rfl : aB = aF := (by injection aL); replace p159 := eq_true p159; replace q159 := eq_true q159
          iterate 6 ((try go_quiet (first | (go_at_call 22; (with_reducible refine (spec_l1In.calls (rd l0 aA) 0 (wrap64 (a1 - 1)) true _ A5.out).mono ?_); rintro e w' ⟨rfl, ⟨nd, rfl⟩⟩; (try first | exact ⟨rfl, _, World.drewN_drewN _ _ _⟩ | exact ⟨rfl, _, Eq.trans (World.drewN_drewN _ _ _) (congrArg (World.drewN _) (Nat.add_assoc _ _ _))⟩)))); (try go_wp2_with (first | (go_at_call 22; (with_reducible refine (spec_l1In.calls (rd l0 aA) 0 (wrap64 (a1 - 1)) true _ A5.out).mono ?_); rintro e w' ⟨rfl, ⟨nd, rfl⟩⟩; (try first | exact ⟨rfl, _, World.drewN_drewN _ _ _⟩ | exact ⟨rfl, _, Eq.trans (World.drewN_drewN _ _ _) (congrArg (World.drewN _) (Nat.add_assoc _ _ _))⟩)))))
          go_ret
          exact ⟨by first | rfl | (simp; done) | (simp only [← hji8] <;> (first | rfl | simp)) | (simp [*]; done), u3_0⟩
         ·rw [if_neg aN] at H; have aO : decide ((rd l0 aA) ≤ (rd l0 (ji8))) = false := decide_eq_false aN; clear aN; have H' := aM H; clear H; have p156 : 0 ≤ (aA : Int) := oda; have q156 : aA < (l0.length : Int) := oda; obtain ⟨aB, aD, aC⟩ := Kd.at_int aI.out aA p156 q156; cases aD
          replace p156 := eq_true p156; replace q156 := eq_true q156; have p158 : 0 ≤ ((ji8) : Int) := oda; have q158 : (ji8) < (l0.length : Int) := oda; obtain ⟨aE, aK, aG⟩ := Kd.at_int aI.out (ji8) p158 q158; obtain rfl : aB = aE := (by injection aK); replace p158 := eq_true p158; replace q158 := eq_true q158; have p159 : 0 ≤ (aA : Int) := oda; have q159 : aA < (l0.length : Int) := oda; obtain ⟨aF, aL, aH⟩ := Kd.at_int aI.out aA p159 q159; obtain rfl : aB = aF := (by injection aL); replace p159 := eq_true p159; replace q159 := eq_true q159
          iterate 6 ((try go_quiet (first | (go_at_call 22; (with_reducible refine (spec_l1In.calls (rd l0 aA) 0 (wrap64 (a1 - 1)) true _ A5.out).mono ?_); rintro e w' ⟨rfl, ⟨nd, rfl⟩⟩; (try first | exact ⟨rfl, _, World.drewN_drewN _ _ _⟩ | exact ⟨rfl, _, Eq.trans (World.drewN_drewN _ _ _) (congrArg (World.drewN _) (Nat.add_assoc _ _ _))⟩)))); (try go_wp2_with (first | (go_at_call 22; (with_reducible refine (spec_l1In.calls (rd l0 aA) 0 (wrap64 (a1 - 1)) true _ A5.out).mono ?_); rintro e w' ⟨rfl, ⟨nd, rfl⟩⟩; (try first | exact ⟨rfl, _, World.drewN_drewN _ _ _⟩ | exact ⟨rfl, _, Eq.trans (World.drewN_drewN _ _ _) (congrArg (World.drewN _) (Nat.add_assoc _ _ _))⟩)))))
          go_roundg k1
          case measure => have := HK1.out; omega
          case rel => exact ⟨(wrap64 (aA + 1)), u3_1, H', ⟨by have := HK1.out; omega⟩, u3_0⟩
        ·rw [if_neg c10] at H; exact absurd H (by simp)
       ·rw [if_neg c9] at H; exact absurd H (by simp)
      ·rw [if_neg c7] at H; have aQ : decide (0 < aA) = false := decide_eq_false c7; clear c7; have H' := aM H; clear H; have p156 : 0 ≤ (aA : Int) := oda; have q156 : aA < (l0.length : Int) := oda; obtain ⟨aB, aD, aC⟩ := Kd.at_int aI.out aA p156 q156; cases aD
       replace p156 := eq_true p156; replace q156 := eq_true q156
       iterate 6 ((try go_quiet (first | (go_at_call 22; (with_reducible refine (spec_l1In.calls (rd l0 aA) 0 (wrap64 (a1 - 1)) true _ A5.out).mono ?_); rintro e w' ⟨rfl, ⟨nd, rfl⟩⟩; (try first | exact ⟨rfl, _, World.drewN_drewN _ _ _⟩ | exact ⟨rfl, _, Eq.trans (World.drewN_drewN _ _ _) (congrArg (World.drewN _) (Nat.add_assoc _ _ _))⟩)))); (try go_wp2_with (first | (go_at_call 22; (with_reducible refine (spec_l1In.calls (rd l0 aA) 0 (wrap64 (a1 - 1)) true _ A5.out).mono ?_); rintro e w' ⟨rfl, ⟨nd, rfl⟩⟩; (try first | exact ⟨rfl, _, World.drewN_drewN _ _ _⟩ | exact ⟨rfl, _, Eq.trans (World.drewN_drewN _ _ _) (congrArg (World.drewN _) (Nat.add_assoc _ _ _))⟩)))))
       go_roundg k1
       case measure => have := HK1.out; omega
       case rel => exact ⟨(wrap64 (aA + 1)), u3_1, H', ⟨by have := HK1.out; omega⟩, u3_0⟩
     ·replace c6 := Bool.eq_false_iff.mpr c6; subst c6; replace H := iN H; obtain rfl := Option.some.inj H; have p156 : 0 ≤ (aA : Int) := oda; have q156 : aA < (l0.length : Int) := oda; obtain ⟨aB, aD, aC⟩ := Kd.at_int aI.out aA p156 q156; cases aD
      replace p156 := eq_true p156; replace q156 := eq_true q156
      iterate 6 ((try go_quiet (first | (go_at_call 22; (with_reducible refine (spec_l1In.calls (rd l0 aA) 0 (wrap64 (a1 - 1)) false _ A5.out).mono ?_); rintro e w' ⟨rfl, ⟨nd, rfl⟩⟩; (try first | exact ⟨rfl, _, World.drewN_drewN _ _ _⟩ | exact ⟨rfl, _, Eq.trans (World.drewN_drewN _ _ _) (congrArg (World.drewN _) (Nat.add_assoc _ _ _))⟩)))); (try go_wp2_with (first | (go_at_call 22; (with_reducible refine (spec_l1In.calls (rd l0 aA) 0 (wrap64 (a1 - 1)) false _ A5.out).mono ?_); rintro e w' ⟨rfl, ⟨nd, rfl⟩⟩; (try first | exact ⟨rfl, _, World.drewN_drewN _ _ _⟩ | exact ⟨rfl, _, Eq.trans (World.drewN_drewN _ _ _) (congrArg (World.drewN _) (Nat.add_assoc _ _ _))⟩)))))
      go_ret
      exact ⟨u3_1, u3_0⟩
    ·rw [if_neg c4] at H; exact absurd H (by simp)
   ·rw [if_neg c3] at H; have aP : decide (aA < (l0.length : Int)) = false := decide_eq_false c3; clear c3; obtain rfl := Option.some.inj H; go_wp2
    repeat (go_quiet (fail); try go_wp2)
    go_ret
    exact ⟨u3_1, u3_0⟩

end Go.Proofs.Ytppfnnpfamkclaa.QFnExactRollFind
