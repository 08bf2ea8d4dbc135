/- FnHardRun holds of all bytes: through a drawn row of records terms never fall, a vote of a term is never turned, and what the row makes is what its steps make. -/
import Derived.Test.YtocpomkfilpflaaQFnHardRunx13
namespace Go.Proofs.Ytocpomkfilpflaa.Pure
open Go.RowKit Go.Proofs.Ytocpomkfilpflaa.QFnHardRun Go.Proofs.YtocpomkfilpflaaW.PrintWords Go.Proofs.YtocpomkfilpflaaW.PrintLast
set_option linter.unusedVariables false
set_option linter.unusedSimpArgs false
theorem w64 {x : Int} (h0 : -9223372036854775808 ≤ x) (h1 : x ≤ 9223372036854775807) : wrap64 x = x := by
  unfold wrap64; omega
def By (l : List Int) : Prop := ∀ x ∈ l, 0 ≤ x ∧ x ≤ 255
theorem wraps_i64 (n : Int) (h₀ : 0 ≤ n) (h₁ : n < 2 ^ 63) : IntKind.i64.wrap n = n := by rw [IntKind.wrap_i64]; omega
def low (x : Int) : Int := Go.bits .and .i64 x 4294967295
def trn (x n : Int) : Int := low (Go.bits .or .i64 (shr .i64 x n) (shl .i64 x (32 - n)))
theorem l2Low_eq (x : Int) : spec_l2Low.f x = some (low x) := rfl
theorem l2Turn_eq (x n : Int) (h0 : 0 ≤ n) (h1 : n ≤ 32) : spec_l2Turn.f x n = some (trn x n) := by
  unfold spec_l2Turn.f
  rw [w64 (x := 32 - n) (by omega) (by omega), if_pos h0, if_pos (by omega), l2Low_eq]
  rfl
def wd (b : List Int) (i : Nat) : Int := Go.bits .or .i64 (Go.bits .or .i64 (Go.bits .or .i64 (wrap64 ((wrap64 (rd b ((4 * i : Nat) : Int))) * 16777216)) (wrap64 ((wrap64 (rd b ((4 * i + 1 : Nat) : Int))) * 65536))) (wrap64 ((wrap64 (rd b ((4 * i + 2 : Nat) : Int))) * 256))) (wrap64 (rd b ((4 * i + 3 : Nat) : Int)))
def s0w (x : Int) : Int := Go.bits .xor .i64 (Go.bits .xor .i64 (trn x 7) (trn x 18)) (x / 8)
def s1w (y : Int) : Int := Go.bits .xor .i64 (Go.bits .xor .i64 (trn y 17) (trn y 19)) (y / 1024)
def nextw (ws : List Int) (t : Nat) : Int := low (wrap64 ((wrap64 ((wrap64 (s1w (rd ws ((t - 2 : Nat) : Int)) + rd ws ((t - 7 : Nat) : Int))) + s0w (rd ws ((t - 15 : Nat) : Int)))) + rd ws ((t - 16 : Nat) : Int)))
def expd : Nat → Nat → List Int → List Int
  | 0, _, ws => ws
  | n + 1, t, ws => expd n (t + 1) (ws ++ [nextw ws t])
def keysS : List Int := [1116352408, 1899447441, 3049323471, 3921009573, 961987163, 1508970993, 2453635748, 2870763221, 3624381080, 310598401, 607225278, 1426881987, 1925078388, 2162078206, 2614888103, 3248222580, 3835390401, 4022224774, 264347078, 604807628, 770255983, 1249150122, 1555081692, 1996064986, 2554220882, 2821834349, 2952996808, 3210313671, 3336571891, 3584528711, 113926993, 338241895, 666307205, 773529912, 1294757372, 1396182291, 1695183700, 1986661051, 2177026350, 2456956037, 2730485921, 2820302411, 3259730800, 3345764771, 3516065817, 3600352804, 4094571909, 275423344, 430227734, 506948616, 659060556, 883997877, 958139571, 1322822218, 1537002063, 1747873779, 1955562222, 2024104815, 2227730452, 2361852424, 2428436474, 2756734187, 3204031479, 3329325298]
def t1S (v : List Int) (kk ww : Int) : Int := low (wrap64 ((wrap64 ((wrap64 ((wrap64 ((rd v 7) + (Go.bits .xor .i64 (Go.bits .xor .i64 (trn (rd v 4) 6) (trn (rd v 4) 11)) (trn (rd v 4) 25)))) + (Go.bits .xor .i64 (Go.bits .and .i64 (rd v 4) (rd v 5)) (Go.bits .and .i64 (Go.bits .xor .i64 4294967295 (rd v 4)) (rd v 6))))) + kk)) + ww))
def t2S (v : List Int) : Int := low (wrap64 ((Go.bits .xor .i64 (Go.bits .xor .i64 (trn (rd v 0) 2) (trn (rd v 0) 13)) (trn (rd v 0) 22)) + (Go.bits .xor .i64 (Go.bits .xor .i64 (Go.bits .and .i64 (rd v 0) (rd v 1)) (Go.bits .and .i64 (rd v 0) (rd v 2))) (Go.bits .and .i64 (rd v 1) (rd v 2)))))
def rndS (ws : List Int) (v : List Int) (t : Nat) : List Int :=
  [low (wrap64 (t1S v (rd keysS (t : Int)) (rd ws (t : Int)) + t2S v)), rd v 0, rd v 1, rd v 2, low (wrap64 ((rd v 3) + t1S v (rd keysS (t : Int)) (rd ws (t : Int)))), rd v 4, rd v 5, rd v 6]
def rndsS (ws : List Int) : Nat → Nat → List Int → List Int
  | 0, _, v => v
  | n + 1, t, v => rndsS ws n (t + 1) (rndS ws v t)
def addS (h v : List Int) : List Int := (List.range 8).map fun (i : Nat) => low (wrap64 ((rd h (i : Int)) + (rd v (i : Int))))
def blockS (h b : List Int) : List Int := addS h (rndsS (expd 48 16 ((List.range 16).map (wd b))) 64 0 h)
theorem expd_len : ∀ (n t : Nat) (ws : List Int), (expd n t ws).length = ws.length + n
  | 0, _, ws => rfl
  | n + 1, t, ws => by rw [expd, expd_len n]; simp; omega
theorem block_l0 (h b : List Int) (hb : b.length = 64) (R : List Int) (hR : Ev (fun k => spec_l2Block.l1 k h ((List.range 16).map (wd b)) 16) R) (d : Nat) : ∀ i : Nat, i + d = 16 → Ev (fun k => spec_l2Block.l0 k h b ((List.range i).map (wd b)) (i : Int)) R := by
  induction d with
  | zero =>
    intro i hi
    obtain rfl : i = 16 := by omega
    refine Ev.step (fun k => by simp only [spec_l2Block.l0]; rw [if_neg (by omega)]) ?_
    exact hR
  | succ d ih =>
    intro i hi
    have h0 := ih (i + 1) (by omega)
    have e0 : wrap64 (4 * (i : Int)) = ((4 * i : Nat) : Int) := by rw [w64 (by omega) (by omega)]; omega
    have e1 : wrap64 (((4 * i : Nat) : Int) + 1) = ((4 * i + 1 : Nat) : Int) := by rw [w64 (by omega) (by omega)]; omega
    have e2 : wrap64 (((4 * i : Nat) : Int) + 2) = ((4 * i + 2 : Nat) : Int) := by rw [w64 (by omega) (by omega)]; omega
    have e3 : wrap64 (((4 * i : Nat) : Int) + 3) = ((4 * i + 3 : Nat) : Int) := by rw [w64 (by omega) (by omega)]; omega
    have e4 : wrap64 ((i : Int) + 1) = ((i + 1 : Nat) : Int) := by rw [w64 (by omega) (by omega)]; omega
    refine Ev.step (fun k => ?_) h0
    simp only [spec_l2Block.l0]
    rw [if_pos (by omega), e0, e1, e2, e3, e4, if_pos (by omega), if_pos (by omega), if_pos (by omega), if_pos (by omega), if_pos (by omega), if_pos (by omega), if_pos (by omega), if_pos (by omega), if_pos (by simp; omega)]
    rw [List.range_succ, List.map_append]
    rfl
theorem block_l1 (h : List Int) (hh : h.length = 8) (R : List Int) (d : Nat) : ∀ (t : Nat) (ws : List Int), t + d = 64 → 16 ≤ t → ws.length = t → Ev (fun k => spec_l2Block.l2 k h (expd d t ws) keysS h 0) R → Ev (fun k => spec_l2Block.l1 k h ws (t : Int)) R := by
  induction d with
  | zero =>
    intro t ws ht h16 hl hR
    refine Ev.step (fun k => ?_) hR
    simp only [spec_l2Block.l1]
    rw [if_neg (by omega)]
    simp only [spec_l2Keys.f, Option.bind_some, List.length_nil, List.nil_append]
    rw [if_pos (by omega)]
    rfl
  | succ d ih =>
    intro t ws ht h16 hl hR
    have h0 := ih (t + 1) (ws ++ [nextw ws t]) (by omega) (by omega) (by rw [List.length_append, hl]; rfl) hR
    clear hR ih
    have g0 : (t : Int) < 64 := by omega
    have g15 : ((t - 15 : Nat) : Int) < (ws.length : Int) := by omega
    have g2 : ((t - 2 : Nat) : Int) < (ws.length : Int) := by omega
    have g7 : ((t - 7 : Nat) : Int) < (ws.length : Int) := by omega
    have g16 : ((t - 16 : Nat) : Int) < (ws.length : Int) := by omega
    have gl : ws.length < 17592186044416 := by omega
    have e1 : wrap64 ((t : Int) - 15) = ((t - 15 : Nat) : Int) := by rw [w64 (by omega) (by omega)]; omega
    have e2 : wrap64 ((t : Int) - 2) = ((t - 2 : Nat) : Int) := by rw [w64 (by omega) (by omega)]; omega
    have e3 : wrap64 ((t : Int) - 7) = ((t - 7 : Nat) : Int) := by rw [w64 (by omega) (by omega)]; omega
    have e4 : wrap64 ((t : Int) - 16) = ((t - 16 : Nat) : Int) := by rw [w64 (by omega) (by omega)]; omega
    have e5 : wrap64 ((t : Int) + 1) = ((t + 1 : Nat) : Int) := by rw [w64 (by omega) (by omega)]; omega
    refine Ev.step (fun k => ?_) h0
    simp only [spec_l2Block.l1]
    rw [if_pos g0, e1, e2, e3, e4, e5, if_pos (Int.natCast_nonneg _), if_pos g15]
    simp only [l2Turn_eq _ 7 (by decide) (by decide), l2Turn_eq _ 18 (by decide) (by decide), l2Turn_eq _ 17 (by decide) (by decide), l2Turn_eq _ 19 (by decide) (by decide), l2Low_eq, Option.bind_some]
    rw [if_pos (Int.natCast_nonneg _), if_pos g2, if_pos (Int.natCast_nonneg _), if_pos g7, if_pos (Int.natCast_nonneg _), if_pos g16, if_pos gl]
    unfold nextw s1w s0w
    with_reducible rfl
theorem rndS_len (ws v : List Int) (t : Nat) : (rndS ws v t).length = 8 := rfl
theorem block_l2 (h ws : List Int) (hw : ws.length = 64) (R : List Int) (d : Nat) : ∀ (t : Nat) (v : List Int), t + d = 64 → v.length = 8 → Ev (fun k => spec_l2Block.l3 k h (rndsS ws d t v) [] 0) R → Ev (fun k => spec_l2Block.l2 k h ws keysS v (t : Int)) R := by
  have hk : keysS.length = 64 := rfl
  induction d with
  | zero =>
    intro t v ht hv hR
    refine Ev.step (fun k => ?_) hR
    simp only [spec_l2Block.l2]
    rw [if_neg (by omega)]
    rfl
  | succ d ih =>
    intro t v ht hv hR
    have h0 := ih (t + 1) (rndS ws v t) (by omega) (rndS_len ws v t) hR
    clear hR ih
    have g0 : (t : Int) < 64 := by omega
    have gk : (t : Int) < (keysS.length : Int) := by rw [hk]; exact g0
    have gw : (t : Int) < (ws.length : Int) := by rw [hw]; exact g0
    have g7 : (7 : Int) < (v.length : Int) := by omega
    have g6 : (6 : Int) < (v.length : Int) := by omega
    have g5 : (5 : Int) < (v.length : Int) := by omega
    have g4 : (4 : Int) < (v.length : Int) := by omega
    have g3 : (3 : Int) < (v.length : Int) := by omega
    have g2 : (2 : Int) < (v.length : Int) := by omega
    have g1 : (1 : Int) < (v.length : Int) := by omega
    have gz : (0 : Int) < (v.length : Int) := by omega
    have gt : 0 ≤ (t : Int) := Int.natCast_nonneg _
    have e5 : wrap64 ((t : Int) + 1) = ((t + 1 : Nat) : Int) := by rw [w64 (by omega) (by omega)]; omega
    refine Ev.step (fun k => ?_) h0
    simp only [spec_l2Block.l2]
    simp only [if_pos g0, if_pos gk, if_pos gw, if_pos g7, if_pos g6, if_pos g5, if_pos g4, if_pos g3, if_pos g2, if_pos g1, if_pos gz, if_pos gt, l2Turn_eq _ 6 (by decide) (by decide), l2Turn_eq _ 11 (by decide) (by decide), l2Turn_eq _ 25 (by decide) (by decide), l2Turn_eq _ 2 (by decide) (by decide), l2Turn_eq _ 13 (by decide) (by decide), l2Turn_eq _ 22 (by decide) (by decide), l2Low_eq, Option.bind_some, e5]
    unfold rndS t1S t2S
    with_reducible rfl
theorem block_l3 (h v : List Int) (hh : h.length = 8) (hv : v.length = 8) (d : Nat) : ∀ i : Nat, i + d = 8 → Ev (fun k => spec_l2Block.l3 k h v ((List.range i).map fun (i : Nat) => low (wrap64 ((rd h (i : Int)) + (rd v (i : Int))))) (i : Int)) (addS h v) := by
  induction d with
  | zero =>
    intro i hi
    obtain rfl : i = 8 := by omega
    refine Ev.step (f := fun _ => some (addS h v)) (fun k => ?_) (Ev.now _)
    simp only [spec_l2Block.l3]
    rw [if_neg (by omega)]
    rfl
  | succ d ih =>
    intro i hi
    have h0 := ih (i + 1) (by omega)
    have e4 : wrap64 ((i : Int) + 1) = ((i + 1 : Nat) : Int) := by rw [w64 (by omega) (by omega)]; omega
    refine Ev.step (fun k => ?_) h0
    simp only [spec_l2Block.l3]
    rw [if_pos (by omega), if_pos (by omega), if_pos (by omega), if_pos (by omega)]
    simp only [l2Low_eq, Option.bind_some]
    rw [if_pos (by simp; omega), e4, List.range_succ, List.map_append]
    rfl
theorem rndsS_len (ws : List Int) : ∀ (n t : Nat) (v : List Int), v.length = 8 → (rndsS ws n t v).length = 8
  | 0, _, v, h => h
  | n + 1, t, v, h => by rw [rndsS]; exact rndsS_len ws n _ _ (rndS_len ws v t)
theorem addS_len (h v : List Int) : (addS h v).length = 8 := by simp [addS]
theorem l2Block_ev (h b : List Int) (hh : h.length = 8) (hb : b.length = 64) : Ev (fun k => spec_l2Block.f k h b) (blockS h b) := by
  unfold spec_l2Block.f
  refine block_l0 h b hb _ ?_ 16 0 (by omega)
  refine block_l1 h hh _ 48 16 _ (by omega) (by omega) (by simp) ?_
  have hw : (expd 48 16 ((List.range 16).map (wd b))).length = 64 := by rw [expd_len]; simp
  refine block_l2 h _ hw _ 64 0 h (by omega) hh ?_
  exact block_l3 h _ hh (rndsS_len _ _ _ _ hh) 8 0 (by omega)
def lbS (b : List Int) (j : Nat) : Int := (shr .i64 (wrap64 (8 * (b.length : Int))) ((8 * j : Nat) : Int)) % 256
def padS (b : List Int) : List Int := b ++ [128] ++ List.replicate ((119 - b.length % 64) % 64) 0 ++ (List.range 8).reverse.map (lbS b)
def h0S : List Int := [1779033703, 3144134277, 1013904242, 2773480762, 1359893119, 2600822924, 528734635, 1541459225]
def blksS : Nat → List Int → List Int → List Int
  | 0, _, h => h
  | n + 1, m, h => blksS n (m.drop 64) (blockS h (m.take 64))
def out4 (x : Int) : List Int := [x / 16777216 % 256, x / 65536 % 256, x / 256 % 256, x % 256]
def shaS (b : List Int) : List Int := if (b.length : Int) > 4000 then [] else (List.range 8).flatMap fun (i : Nat) => out4 (rd (blksS ((padS b).length / 64) (padS b) h0S) (i : Int))
theorem padS_len (b : List Int) : (padS b).length % 64 = 0 ∧ (padS b).length ≤ b.length + 80 := by
  unfold padS
  simp only [List.length_append, List.length_replicate, List.length_map, List.length_reverse, List.length_range, List.length_cons, List.length_nil]
  omega
theorem sha_l3 (v : List Int) (hv : v.length = 8) (d : Nat) : ∀ i : Nat, i + d = 8 → Ev (fun k => spec_Sha.l3 k ((List.range i).flatMap fun (i : Nat) => out4 (rd v (i : Int))) v (i : Int)) ((List.range 8).flatMap fun (i : Nat) => out4 (rd v (i : Int))) := by
  have hlen : ∀ i : Nat, ((List.range i).flatMap fun (i : Nat) => out4 (rd v (i : Int))).length = 4 * i := by
    intro i
    induction i with
    | zero => rfl
    | succ i ih => rw [List.range_succ, List.flatMap_append, List.length_append, ih]; simp [out4]; omega
  induction d with
  | zero =>
    intro i hi
    obtain rfl : i = 8 := by omega
    refine Ev.step (f := fun _ => some _) (fun k => ?_) (Ev.now _)
    simp only [spec_Sha.l3]
    rw [if_neg (by omega)]
  | succ d ih =>
    intro i hi
    have h0 := ih (i + 1) (by omega)
    have e4 : wrap64 ((i : Int) + 1) = ((i + 1 : Nat) : Int) := by rw [w64 (by omega) (by omega)]; omega
    have hl := hlen i
    refine Ev.step (fun k => ?_) h0
    simp only [spec_Sha.l3]
    rw [if_pos (by omega), if_pos (by omega), if_pos (by omega)]
    simp only [Option.bind_some]
    rw [if_pos (by rw [hl]; simp; omega), e4, List.range_succ, List.flatMap_append]
    simp [out4]
theorem sha_l2 (out : List Int) (hout : out = []) (m : List Int) (hm : m.length ≤ 1000000) (d : Nat) : ∀ (q : Nat) (h : List Int), 64 * (q + d) = m.length → h.length = 8 → Ev (fun k => spec_Sha.l2 k out m h ((64 * q : Nat) : Int)) ((List.range 8).flatMap fun (i : Nat) => out4 (rd (blksS d (m.drop (64 * q)) h) (i : Int))) := by
  subst hout
  induction d with
  | zero =>
    intro q h hq hh
    refine Ev.step (fun k => by simp only [spec_Sha.l2]; rw [if_neg (by omega)]) ?_
    exact sha_l3 h hh 8 0 (by omega)
  | succ d ih =>
    intro q h hq hh
    have hl : ((m.drop (64 * q)).take 64).length = 64 := by rw [List.length_take, List.length_drop]; omega
    have h0 := ih (q + 1) (blockS h ((m.drop (64 * q)).take 64)) (by omega) (addS_len _ _)
    have e4 : wrap64 (((64 * q : Nat) : Int) + 64) = ((64 * (q + 1) : Nat) : Int) := by rw [w64 (by omega) (by omega)]; omega
    have es : (m.take ((64 * (q + 1) : Nat) : Int).toNat).drop (((64 * q : Nat) : Int)).toNat = (m.drop (64 * q)).take 64 := by
      rw [Int.toNat_natCast, Int.toNat_natCast, List.drop_take]
      congr 1
      omega
    have ed : blksS (d + 1) (m.drop (64 * q)) h = blksS d (m.drop (64 * (q + 1))) (blockS h ((m.drop (64 * q)).take 64)) := by
      rw [blksS, List.drop_drop]
      rfl
    rw [ed]
    refine Ev.step (fun k => by simp only [spec_Sha.l2]; rw [if_pos (by omega), if_pos (by omega), e4, if_pos (by omega), if_pos (by omega), es]) ?_
    exact Ev.bind (l2Block_ev h _ hh hl) h0
theorem sha_l1 (b out : List Int) (R : List Int) (hb : b.length ≤ 4000) (d : Nat) : ∀ (m : List Int), d ≤ 8 → m.length + d ≤ 5000 → Ev (fun k => spec_Sha.l2 k out (m ++ (List.range d).reverse.map (lbS b)) h0S 0) R → Ev (fun k => spec_Sha.l1 k b out m ((d : Int) - 1)) R := by
  induction d with
  | zero =>
    intro m hd hm hR
    refine Ev.step (fun k => ?_) hR
    simp only [spec_Sha.l1]
    rw [if_neg (by omega)]
    simp [h0S]
  | succ d ih =>
    intro m hd hm hR
    have e1 : wrap64 (8 * (((d + 1 : Nat) : Int) - 1)) = ((8 * d : Nat) : Int) := by rw [w64 (by omega) (by omega)]; omega
    have e2 : wrap64 (((d + 1 : Nat) : Int) - 1 - 1) = (d : Int) - 1 := by rw [w64 (by omega) (by omega)]; omega
    have h0 := ih (m ++ [lbS b d]) (by omega) (by simp; omega) (by
      rw [List.range_succ, List.reverse_append, List.reverse_singleton, List.singleton_append, List.map_cons] at hR
      simpa using hR)
    refine Ev.step (fun k => ?_) h0
    simp only [spec_Sha.l1]
    rw [if_pos (by omega), e1, e2, if_pos (by omega), if_pos (by omega)]
    rfl
theorem sha_l0 (b out : List Int) (R : List Int) (d : Nat) : ∀ (m : List Int), d < 64 → (m.length + d) % 64 = 56 → m.length + d ≤ 5000 → Ev (fun k => spec_Sha.l1 k b out (m ++ List.replicate d 0) 7) R → Ev (fun k => spec_Sha.l0 k b out m) R := by
  induction d with
  | zero =>
    intro m hd hm hl hR
    refine Ev.step (fun k => ?_) hR
    simp only [spec_Sha.l0]
    rw [if_pos (by omega)]
    simp
  | succ d ih =>
    intro m hd hm hl hR
    have h0 := ih (m ++ [0]) (by omega) (by simp; omega) (by simp; omega) (by rw [List.replicate_succ] at hR; simpa using hR)
    refine Ev.step (fun k => ?_) h0
    simp only [spec_Sha.l0]
    rw [if_neg (by omega), if_pos (by omega)]
theorem specSha_ev (b : List Int) (hl : b.length ≤ 140737488355328) : Ev (fun k => spec_Sha.f k b) (shaS b) := by
  unfold spec_Sha.f shaS
  simp only [Option.bind_some, List.length_nil, List.nil_append]
  by_cases h : (b.length : Int) > 4000
  · simp only [h, ↓reduceIte]; exact Ev.now _
  · simp only [h, ↓reduceIte]
    have g1 : 0 + b.length < 140737488355328 := by omega
    have g2 : b.length < 140737488355328 := by omega
    simp only [if_pos g1, if_pos g2]
    have hp := padS_len b
    refine sha_l0 b [] _ ((119 - b.length % 64) % 64) (b ++ [128]) (by omega) (by simp; omega) (by simp; omega) ?_
    refine sha_l1 b [] _ (by omega) 8 _ (by omega) (by simp; omega) ?_
    have e : b ++ [128] ++ List.replicate ((119 - b.length % 64) % 64) 0 ++ (List.range 8).reverse.map (lbS b) = padS b := rfl
    rw [e]
    have h2 := sha_l2 [] rfl (padS b) (by omega) ((padS b).length / 64) 0 h0S (by omega) rfl
    simpa using h2
theorem shaS_by (b : List Int) : By (shaS b) ∧ (shaS b).length ≤ 32 := by
  unfold shaS
  split
  · exact ⟨fun x hx => by simp at hx, by simp⟩
  · constructor
    · intro x hx
      obtain ⟨i, _, hx⟩ := List.mem_flatMap.1 hx
      unfold out4 at hx
      simp only [List.mem_cons, List.not_mem_nil, or_false] at hx
      omega
    · simp [out4, List.flatMap, List.range, List.range.loop]

theorem l1Byte_ok (b : List Int) (i h : Int) (hi : 0 ≤ i ∧ i ≤ 9223372036854775807) (hb : b.length ≤ 140737488355328) : ∃ x i' h', spec_l1Byte.f b i h = some (x, i', h') ∧ 0 ≤ i' ∧ i' ≤ 9223372036854775807 := by
  unfold spec_l1Byte.f
  by_cases c : i < (b.length : Int)
  · rw [if_pos c, if_pos hi.1, w64 (x := i + 1) (by omega) (by omega)]
    exact ⟨_, _, _, rfl, by omega, by omega⟩
  · rw [if_neg c]
    exact ⟨_, _, _, rfl, hi.1, hi.2⟩
theorem l1Below_ok (b : List Int) (i h a : Int) (hi : 0 ≤ i ∧ i ≤ 9223372036854775807) (hb : b.length ≤ 140737488355328) : ∃ x i' h', spec_l1Below.f b i h a = some (x, i', h') ∧ (0 ≤ i' ∧ i' ≤ 9223372036854775807) ∧ (a ≤ 0 → x = 0) ∧ (0 < a → -a < x ∧ x < a) := by
  unfold spec_l1Below.f
  by_cases c : a ≤ 0
  · rw [if_pos c]
    exact ⟨_, _, _, rfl, hi, fun _ => rfl, fun h => by omega⟩
  · rw [if_neg c]
    have ht : ∀ x : Int, -a < Int.tmod x a ∧ Int.tmod x a < a := fun x => by
      have h1 := Int.tmod_lt_of_pos x (show 0 < a by omega)
      have h2 := Int.lt_tmod_of_pos x (show 0 < a by omega)
      omega
    by_cases c2 : a ≤ 256
    · rw [if_pos c2]
      obtain ⟨x, i', h', e, p⟩ := l1Byte_ok b i h hi hb
      rw [e]
      simp only [Option.bind_some]
      rw [if_neg (by omega)]
      exact ⟨_, _, _, rfl, p, fun h => by omega, fun _ => ht _⟩
    · rw [if_neg c2]
      obtain ⟨x1, i1, h1, e1, p1⟩ := l1Byte_ok b i h hi hb
      obtain ⟨x2, i2, h2, e2, p2⟩ := l1Byte_ok b i1 h1 p1 hb
      obtain ⟨x3, i3, h3, e3, p3⟩ := l1Byte_ok b i2 h2 p2 hb
      obtain ⟨x4, i4, h4, e4, p4⟩ := l1Byte_ok b i3 h3 p3 hb
      rw [e1]; simp only [Option.bind_some]
      rw [e2]; simp only [Option.bind_some]
      rw [e3]; simp only [Option.bind_some]
      rw [e4]; simp only [Option.bind_some]
      rw [if_neg (by omega)]
      exact ⟨_, _, _, rfl, p4, fun h => by omega, fun _ => ht _⟩
theorem l1New_l (l : List Int) (hl : l.length ≤ 140737488355328) (d : Nat) : ∀ (h i : Int), 0 ≤ i → i + d = 4000 → ∃ h', Ev (fun k => spec_l1New.l0 k l h i) (l, 0, h') := by
  induction d with
  | zero =>
    intro h i h0 hd
    refine ⟨h, ?_⟩
    refine Ev.step (f := fun _ => some (l, 0, h)) (fun k => ?_) (Ev.now _)
    simp only [spec_l1New.l0]
    split
    · rw [if_neg (by omega)]
    · rfl
  | succ d ih =>
    intro h i h0 hd
    by_cases c : i < (l.length : Int)
    · obtain ⟨h', hh⟩ := ih (Go.bits .and .i64 (wrap64 ((wrap64 ((wrap64 (h * 131)) + (wrap64 (rd l i)))) + 7)) 1073741823) (i + 1) (by omega) (by omega)
      refine ⟨h', Ev.step (fun k => ?_) hh⟩
      simp only [spec_l1New.l0]
      rw [if_pos c, if_pos (by omega), if_pos h0, w64 (x := i + 1) (by omega) (by omega)]
    · refine ⟨h, Ev.step (f := fun _ => some (l, 0, h)) (fun k => ?_) (Ev.now _)⟩
      simp only [spec_l1New.l0]
      rw [if_neg c]
theorem l1New_ev (l : List Int) (hl : l.length ≤ 140737488355328) : ∃ h', Ev (fun k => spec_l1New.f k l) (l, 0, h') := by
  unfold spec_l1New.f
  exact l1New_l l hl 4000 _ 0 (by omega) (by omega)
theorem l1Once_ok (b : List Int) (i h a : Int) (hi : 0 ≤ i ∧ i ≤ 9223372036854775807) (hb : b.length ≤ 140737488355328) : ∃ x i' h', spec_l1Once.f b i h a = some (x, i', h') ∧ (0 ≤ i' ∧ i' ≤ 9223372036854775807) := by
  unfold spec_l1Once.f
  obtain ⟨x, i', h', e, p, _⟩ := l1Below_ok b i h a hi hb
  rw [e]
  exact ⟨_, _, _, rfl, p⟩

theorem and_maskZ (i : Nat) (hi : i ≤ 62) (x : Int) : Go.bits .and .i64 x (2 ^ i - 1) = x % 2 ^ i := by
  have hpos : 0 < 2 ^ i := Nat.two_pow_pos i
  have hle : 2 ^ i ≤ 2 ^ 62 := Nat.pow_le_pow_right (by decide) hi
  have hc : ((2 : Int) ^ i - 1) = ((2 ^ i - 1 : Nat) : Int) := by rw [Int.natCast_sub hpos]; simp
  have hb : IntKind.i64.bits = 64 := rfl
  have hd : ((2 : Int) ^ i) ∣ ((2 : Int) ^ 64) := ⟨2 ^ (64 - i), by rw [← Int.pow_add]; congr 1; omega⟩
  have hx : (((x % (2 : Int) ^ 64).toNat : Nat) : Int) = x % (2 : Int) ^ 64 := Int.toNat_of_nonneg (Int.emod_nonneg _ (by decide))
  rw [hc]
  simp only [Go.bits, hb, BitVec.ofInt_natCast, BitVec.toNat_and, BitVec.toNat_ofNat, BitVec.toNat_ofInt]
  rw [Nat.mod_eq_of_lt (show 2 ^ i - 1 < 2 ^ 64 by omega), Nat.and_two_pow_sub_one_eq_mod]
  have e : (((x % ((2 ^ 64 : Nat) : Int)).toNat % 2 ^ i : Nat) : Int) = x % 2 ^ i := by
    rw [Int.natCast_emod]
    have : ((2 ^ 64 : Nat) : Int) = (2 : Int) ^ 64 := by simp
    rw [this, hx]
    have h2 : ((2 ^ i : Nat) : Int) = (2 : Int) ^ i := by simp
    rw [h2, Int.emod_emod_of_dvd _ hd]
  rw [e]
  have h1 := Int.emod_nonneg x (show (2 : Int) ^ i ≠ 0 by exact_mod_cast Nat.ne_of_gt hpos)
  have h2 := Int.emod_lt_of_pos x (show (0 : Int) < 2 ^ i by exact_mod_cast hpos)
  have h3 : (2 : Int) ^ i ≤ 2 ^ 62 := by exact_mod_cast hle
  exact wraps_i64 _ h1 (by omega)
theorem and255 (x : Int) : Go.bits .and .i64 x 255 = x % 256 := and_maskZ 8 (by decide) x

theorem l1Byte_nn (b : List Int) (i h x : Int) (i' h' : Int) (e : spec_l1Byte.f b i h = some (x, i', h')) : 0 ≤ x ∧ x ≤ 255 := by
  unfold spec_l1Byte.f at e
  simp only [and255] at e
  split at e
  · split at e
    · simp only [Option.some.injEq, Prod.mk.injEq] at e; omega
    · simp at e
  · simp only [Option.some.injEq, Prod.mk.injEq] at e; omega
theorem l1Below_nn (b : List Int) (i h a x : Int) (i' h' : Int) (e : spec_l1Below.f b i h a = some (x, i', h')) : 0 ≤ x := by
  unfold spec_l1Below.f at e
  split at e
  · simp only [Option.some.injEq, Prod.mk.injEq] at e; omega
  · split at e
    · obtain ⟨⟨x1, i1, h1⟩, e1, e⟩ := Option.bind_eq_some_iff.1 e
      have := l1Byte_nn _ _ _ _ _ _ e1
      simp only at e
      split at e
      · simp at e
      · simp only [Option.some.injEq, Prod.mk.injEq] at e
        rw [← e.1]; exact Int.tmod_nonneg _ (by omega)
    · obtain ⟨⟨x1, i1, h1⟩, e1, e⟩ := Option.bind_eq_some_iff.1 e
      obtain ⟨⟨x2, i2, h2⟩, e2, e⟩ := Option.bind_eq_some_iff.1 e
      obtain ⟨⟨x3, i3, h3⟩, e3, e⟩ := Option.bind_eq_some_iff.1 e
      obtain ⟨⟨x4, i4, h4⟩, e4, e⟩ := Option.bind_eq_some_iff.1 e
      have b1 := l1Byte_nn _ _ _ _ _ _ e1
      have b2 := l1Byte_nn _ _ _ _ _ _ e2
      have b3 := l1Byte_nn _ _ _ _ _ _ e3
      have b4 := l1Byte_nn _ _ _ _ _ _ e4
      simp only at e
      split at e
      · simp at e
      · simp only [Option.some.injEq, Prod.mk.injEq] at e
        rw [← e.1]
        refine Int.tmod_nonneg _ ?_
        rw [w64 (x := x1 * 16777216) (by omega) (by omega), w64 (x := x2 * 65536) (by omega) (by omega), w64 (x := x3 * 256) (by omega) (by omega), w64 (x := x1 * 16777216 + x2 * 65536) (by omega) (by omega), w64 (x := x1 * 16777216 + x2 * 65536 + x3 * 256) (by omega) (by omega), w64 (by omega) (by omega)]
        omega
theorem rd_mem (l : List Int) (i : Int) (h0 : 0 ≤ i) (h1 : i < l.length) : rd l i ∈ l := by
  unfold rd
  rw [List.getD_eq_getElem?_getD, List.getElem?_eq_getElem (by omega)]
  exact List.getElem_mem _
theorem l1PickInt_ok (b : List Int) (i h : Int) (l : List Int) (hi : 0 ≤ i ∧ i ≤ 9223372036854775807) (hb : b.length ≤ 140737488355328) (hl : 0 < l.length) : ∃ x i' h', spec_l1PickInt.f b i h l = some (x, i', h') ∧ (0 ≤ i' ∧ i' ≤ 9223372036854775807) ∧ x ∈ l := by
  obtain ⟨x, i', h', e, p, _, hx⟩ := l1Below_ok b i h l.length hi hb
  have hn := l1Below_nn _ _ _ _ _ _ _ e
  have hx := hx (by omega)
  refine ⟨rd l x, i', h', ?_, p, rd_mem l x hn hx.2⟩
  unfold spec_l1PickInt.f
  rw [e]
  simp only [Option.bind_some]
  rw [if_pos hn, if_pos hx.2]
def inr (a b c : Int) : Bool := decide (b ≤ a ∧ a ≤ c)
theorem ba_nil : (⟨#[]⟩ : ByteArray).toList = [] := by rw [ByteArray.toList, ByteArray.toList.loop]; rfl
theorem if_eq0 (a c : Int) (x : Bool) : (if a = c then some x else some false) = some (a == c && x) := by
  by_cases h : a = c
  · subst h; simp
  · have b : (a == c) = false := by simpa using h
    simp [h, b]
theorem if_tt (b x : Bool) : (if b = true then some x else some false) = some (b && x) := by cases b <;> rfl

def cmdOk (kind rel node size : Int) (dig : ByteArray) : Bool :=
  if kind = 1 then (rel == 0 && (node == 0 && (size == 0 && (dig.toList == ([] : List UInt8)))))
  else if kind = 2 then (inr rel 1 1000 && (inr size 0 1000 && (decide ((dig.size : Int) = 32) && (node == 0))))
  else if kind = 3 then (inr rel 1 1000 && (inr node 0 4 && (size == 0 && (dig.toList == ([] : List UInt8)))))
  else if kind = 4 ∨ kind = 5 then (inr rel 1 1000 && (node == 0 && (size == 0 && (dig.toList == ([] : List UInt8)))))
  else false

theorem l1In_eq (a b c : Int) : spec_l1In.f a b c = some (inr a b c) := by
  unfold spec_l1In.f inr
  by_cases h : a ≥ b
  · rw [if_pos h]; congr 1; by_cases h2 : a ≤ c <;> simp [h, h2]
  · rw [if_neg h]; congr 1; simp; omega

theorem specCmdOk_ev (kind rel node size : Int) (dig : ByteArray) : Ev (fun k => spec_CmdOk.f k kind rel node size dig) (cmdOk kind rel node size dig) := by
  unfold spec_CmdOk.f
  simp only [l1In_eq, Option.bind_some]
  by_cases h1 : kind = 1
  · simp only [cmdOk, h1, ↓reduceIte]; exact Ev.now _
  · simp only [h1, ↓reduceIte]
    by_cases h2 : 2 ≤ kind ∧ kind ≤ 5
    · have e : inr kind 2 5 = true := decide_eq_true h2
      simp only [e, ↓reduceIte]
      refine Ev.step (f := fun _ => some (cmdOk kind rel node size dig)) (fun k => ?_) (Ev.now _)
      simp only [spec_CmdOk.j0, l1In_eq, Option.bind_some, ba_nil, cmdOk]
      have h3 : kind = 2 ∨ kind = 3 ∨ kind = 4 ∨ kind = 5 := by omega
      cases inr rel 1 1000 <;> rcases h3 with rfl | rfl | rfl | rfl <;> cases inr size 0 1000 <;> cases inr node 0 4 <;> by_cases hd : (dig.size : Int) = 32 <;> simp [hd]
    · have e : inr kind 2 5 = false := decide_eq_false h2
      simp only [e, Bool.false_eq_true, ↓reduceIte]
      refine Ev.step (f := fun _ => some false) (fun k => ?_) ?_
      · simp only [spec_CmdOk.j0, ↓reduceIte]
      · have : cmdOk kind rel node size dig = false := by
          unfold cmdOk
          rw [if_neg h1, if_neg (by omega), if_neg (by omega), if_neg (by omega)]
        rw [this]; exact Ev.now _

theorem strOf_size' (l : List Int) : (strOfNums l).size = l.length := by rw [← data_length, strOfNums_data, List.length_map]
theorem l5DrawDigest_ok (b : List Int) (i h : Int) (hb : b.length ≤ 140737488355328) (hi : 0 ≤ i ∧ i ≤ 9223372036854775807) : ∃ s i' h', Ev (fun k => spec_l5DrawDigest.f k b i h) (s, i', h') ∧ s.size ≤ 32 ∧ (0 ≤ i' ∧ i' ≤ 9223372036854775807) := by
  obtain ⟨x, i1, h1, e1, p1, _⟩ := l1Below_ok b i h 4 hi hb
  refine ⟨strOfNums (shaS [x % 256]), i1, h1, ?_, ?_, p1⟩
  · unfold spec_l5DrawDigest.f
    simp only [e1, Option.bind_some]
    exact Ev.bind (specSha_ev [x % 256] (by simp)) (Ev.now _)
  · rw [strOf_size']; exact (shaS_by _).2
theorem l5DrawRight_ok (b : List Int) (i h : Int) (hb : b.length ≤ 140737488355328) (hi : 0 ≤ i ∧ i ≤ 9223372036854775807) : ∃ kd rl nd sz dg i' h', Ev (fun k => spec_l5DrawRight.f k b i h) (kd, rl, nd, sz, dg, i', h') ∧ dg.size ≤ 32 ∧ (0 ≤ i' ∧ i' ≤ 9223372036854775807) := by
  have j0 : ∀ (kd rl nd sz i h : Int), (0 ≤ i ∧ i ≤ 9223372036854775807) → ∃ kd' rl' nd' sz' dg i' h', Ev (fun k => spec_l5DrawRight.j0 k b i h kd rl nd sz (⟨#[]⟩ : ByteArray)) (kd', rl', nd', sz', dg, i', h') ∧ dg.size ≤ 32 ∧ (0 ≤ i' ∧ i' ≤ 9223372036854775807) := by
    intro kd rl nd sz i h hi
    have z : (⟨#[]⟩ : ByteArray).size ≤ 32 := by decide
    by_cases k3 : kd = 3
    · obtain ⟨x, i1, h1, e1, p1, _⟩ := l1Below_ok b i h 3 hi hb
      refine ⟨kd, rl, x, sz, _, i1, h1, Ev.step (f := fun _ => _) (fun k => ?_) (Ev.now _), z, p1⟩
      simp only [spec_l5DrawRight.j0]
      rw [if_pos k3, e1]
      rfl
    · by_cases k2 : kd = 2
      · obtain ⟨x, i1, h1, e1, p1, _⟩ := l1Below_ok b i h 40 hi hb
        obtain ⟨s, i2, h2, e2, q2, p2⟩ := l5DrawDigest_ok b i1 h1 hb p1
        refine ⟨kd, rl, nd, x, s, i2, h2, Ev.step (fun k => by simp only [spec_l5DrawRight.j0]; rw [if_neg k3, if_pos k2, e1]; rfl) (Ev.bind e2 (Ev.now _)), q2, p2⟩
      · refine ⟨kd, rl, nd, sz, _, i, h, Ev.step (f := fun _ => _) (fun k => ?_) (Ev.now _), z, hi⟩
        simp only [spec_l5DrawRight.j0]
        rw [if_neg k3, if_neg k2]
  obtain ⟨x, i1, h1, e1, p1, _⟩ := l1Below_ok b i h 5 hi hb
  unfold spec_l5DrawRight.f
  simp only [e1, Option.bind_some]
  by_cases c : wrap64 (1 + x) = 1
  · simp only [c, ↓reduceIte]
    exact j0 _ _ _ _ _ _ p1
  · obtain ⟨y, i2, h2, e2, p2, _⟩ := l1Below_ok b i1 h1 4 p1 hb
    simp only [c, ↓reduceIte, e2, Option.bind_some]
    exact j0 _ _ _ _ _ _ p2
theorem rdE_mid (P : List S36) (x : S36) (t : List S36) : rd_T36 (P ++ x :: t) (P.length : Int) = x := by
  unfold rd_T36; simp
theorem rdE_last (P : List S36) (y : S36) (t : List S36) : rd_T36 (P ++ [y] ++ t) (((P ++ [y]).length : Int) - 1) = y := by
  unfold rd_T36
  have : (((P ++ [y]).length : Int) - 1).toNat = P.length := by simp
  rw [this]; simp
def cmdOkE (x : S36) : Bool := cmdOk x.f1.f0 x.f1.f1 x.f1.f2 x.f1.f3 x.f1.f4
def logOk : Int → Int → List S36 → Bool
  | _, _, [] => true
  | lo, h, x :: t => (decide (lo ≤ x.f0 ∧ x.f0 ≤ h) && cmdOkE x) && logOk x.f0 h t
def hardOk (term vote : Int) (l : List S36) : Bool := inr term 0 1000000000 && (inr vote 0 5 && (decide ((l.length : Int) ≤ 80) && logOk 1 term l))

theorem l1Whole_eq (a : Int) : spec_l1Whole.f a = some (inr a 0 1000000000) := by unfold spec_l1Whole.f; rw [l1In_eq]; rfl
theorem l6Entry_ev (x : S36) : Ev (fun k => spec_l6Entry.f k x.f0 x.f1.f0 x.f1.f1 x.f1.f2 x.f1.f3 x.f1.f4) (inr x.f0 1 1000000000 && cmdOkE x) := by
  unfold spec_l6Entry.f
  simp only [l1In_eq, Option.bind_some]
  cases inr x.f0 1 1000000000
  · simp only [Bool.false_eq_true, ↓reduceIte, Bool.false_and]; exact Ev.now _
  · simp only [↓reduceIte, Bool.true_and]
    refine Ev.bind (specCmdOk_ev _ _ _ _ _) ?_
    exact Ev.now _
theorem specHardOk_l (term vote : Int) (ht : term ≤ 1000000000) (rest : List S36) : ∀ (P : List S36) (lo : Int), 1 ≤ lo → (P = [] ∧ lo = 1 ∨ ∃ P' y, P = P' ++ [y] ∧ lo = y.f0) → P.length + rest.length ≤ 140737488355328 → Ev (fun k => spec_HardOk.l0 k (P.length : Int) term vote (P ++ rest)) (logOk lo term rest) := by
  induction rest with
  | nil =>
    intro P lo h0 hP hl
    refine Ev.step (f := fun _ => some true) (fun k => ?_) (Ev.now _)
    simp only [spec_HardOk.l0]
    rw [if_neg (by simp)]
  | cons x t ih =>
    intro P lo h0 hP hl
    simp only [List.length_cons] at hl
    have el : ((P ++ x :: t).length : Int) = P.length + t.length + 1 := by simp; omega
    have ea : P ++ x :: t = P ++ [x] ++ t := by simp
    have hw1 : wrap64 ((P.length : Int) + 1) = ((P ++ [x]).length : Int) := by rw [w64 (by omega) (by omega)]; simp
    refine Ev.step (fun k => by simp only [spec_HardOk.l0]; rw [if_pos (by omega), if_pos (by omega), rdE_mid]) ?_
    refine Ev.bind (l6Entry_ev x) ?_
    cases hb : (inr x.f0 1 1000000000 && cmdOkE x)
    · simp only [Bool.false_eq_true, ↓reduceIte]
      have : logOk lo term (x :: t) = false := by
        rw [Bool.and_eq_false_iff] at hb
        rcases hb with hb | hb
        · have hb := of_decide_eq_false hb
          have : ¬ (lo ≤ x.f0 ∧ x.f0 ≤ term) := by omega
          simp [logOk, this]
        · simp [logOk, hb]
      rw [this]; exact Ev.now _
    · rw [Bool.and_eq_true] at hb
      have hb1 := of_decide_eq_true hb.1
      simp only [↓reduceIte]
      by_cases c1 : x.f0 > term
      · have : logOk lo term (x :: t) = false := by
          have : ¬ (lo ≤ x.f0 ∧ x.f0 ≤ term) := by omega
          simp [logOk, this]
        simp only [c1, ↓reduceIte]
        rw [this]; exact Ev.now _
      · simp only [c1, ↓reduceIte]
        have hi := ih (P ++ [x]) x.f0 (by omega) (.inr ⟨P, x, rfl, rfl⟩) (by simp; omega)
        have hlog : lo ≤ x.f0 → logOk lo term (x :: t) = logOk x.f0 term t := by
          intro h
          have : lo ≤ x.f0 ∧ x.f0 ≤ term := by omega
          simp [logOk, this, hb.2]
        rcases hP with ⟨rfl, rfl⟩ | ⟨P', y, rfl, rfl⟩
        · rw [hlog (by omega)]
          refine Ev.congr (fun k => ?_) hi
          rw [if_neg (by simp), hw1, ea]
        · have ep : ((P' ++ [y]).length : Int) = P'.length + 1 := by simp
          by_cases c2 : x.f0 < y.f0
          · have : logOk y.f0 term (x :: t) = false := by
              have : ¬ (y.f0 ≤ x.f0 ∧ x.f0 ≤ term) := by omega
              simp [logOk, this]
            rw [this]
            refine Ev.congr (fun k => ?_) (Ev.now false)
            rw [if_pos (by omega), w64 (x := ((P' ++ [y]).length : Int) - 1) (by omega) (by omega), if_pos (by omega), if_pos (by omega), show P' ++ [y] ++ x :: t = P' ++ [y] ++ (x :: t) from rfl, rdE_last, if_pos c2]
          · rw [hlog (by omega)]
            refine Ev.congr (fun k => ?_) hi
            rw [if_pos (by omega), w64 (x := ((P' ++ [y]).length : Int) - 1) (by omega) (by omega), if_pos (by omega), if_pos (by omega), show P' ++ [y] ++ x :: t = P' ++ [y] ++ (x :: t) from rfl, rdE_last, if_neg c2, hw1, ea]
theorem specHardOk_ev (term vote : Int) (l : List S36) (hl : l.length ≤ 140737488355328) : Ev (fun k => spec_HardOk.f k term vote l) (hardOk term vote l) := by
  unfold spec_HardOk.f hardOk
  simp only [l1Whole_eq, l1In_eq, Option.bind_some]
  have hj : Ev (fun k => spec_HardOk.j0 k true term vote l) false := by
    refine Ev.step (f := fun _ => some false) (fun k => ?_) (Ev.now _)
    simp only [spec_HardOk.j0, ↓reduceIte]
  cases h : inr term 0 1000000000
  · simp only [Bool.false_eq_true, ↓reduceIte, Bool.false_and]; exact hj
  · have ht := of_decide_eq_true h
    simp only [↓reduceIte, Bool.true_and]
    cases h2 : inr vote 0 5
    · simp only [Bool.false_eq_true, ↓reduceIte, Bool.false_and]; exact hj
    · simp only [↓reduceIte, Bool.true_and]
      by_cases h80 : (l.length : Int) > 80
      · simp only [h80, decide_true, show ¬ (l.length : Int) ≤ 80 by omega, decide_false, Bool.false_and]; exact hj
      · simp only [h80, decide_false, show (l.length : Int) ≤ 80 by omega, decide_true, Bool.true_and]
        refine Ev.step (f := fun k => spec_HardOk.l0 k 0 term vote l) (fun k => ?_) ?_
        · simp only [spec_HardOk.j0]; rfl
        · exact specHardOk_l term vote ht.2 l [] 1 (by omega) (.inl ⟨rfl, rfl⟩) (by simpa using hl)

theorem within_eq (a b c : Int) : impl_within.f a b c = some (inr a b c) := by
  unfold impl_within.f inr
  by_cases h : a ≥ b
  · rw [if_pos h]; congr 1; by_cases h2 : a ≤ c <;> simp [h, h2]
  · rw [if_neg h]; congr 1; simp; omega

theorem isRelease_eq (a : Int) : impl_isRelease.f a = some (inr a 1 1000) := by unfold impl_isRelease.f; rw [within_eq]; rfl
theorem isSize_eq (a : Int) : impl_isSize.f a = some (inr a 0 1000) := by unfold impl_isSize.f; rw [within_eq]; rfl
theorem isNode_eq (a : Int) : impl_isNode.f a = some (inr a 0 4) := by unfold impl_isNode.f; rw [within_eq]; rfl
theorem implCmdOk_j2 (k : Nat) (x : Bool) (a b c d : Int) (s : ByteArray) : impl_CmdOk.j2 (k + 1) x a b c d s = some (x && (a == 0 && (b == 0 && (c == 0 && (d == 0 && (s.toList == ([] : List UInt8))))))) := by
  simp only [impl_CmdOk.j2]; cases x <;> simp
theorem implCmdOk_ev (kind rel node size : Int) (dig : ByteArray) : Ev (fun k => impl_CmdOk.f k kind rel node size dig) (cmdOk kind rel node size dig) := by
  refine ⟨3, fun k hk => ?_⟩
  obtain ⟨k, rfl⟩ : ∃ m, k = m + 3 := ⟨k - 3, by omega⟩
  unfold impl_CmdOk.f
  simp only [isRelease_eq, isSize_eq, isNode_eq, Option.bind_some, cmdOk]
  by_cases h1 : kind = 1
  · simp only [h1, ↓reduceIte]; rw [implCmdOk_j2]; simp
  · by_cases h2 : kind = 2
    · simp only [h2, ↓reduceIte]
      cases inr rel 1 1000 <;> cases inr size 0 1000 <;> by_cases hd : (dig.size : Int) = 32 <;> simp [impl_CmdOk.j0, implCmdOk_j2, ba_nil, hd]
    · by_cases h3 : kind = 3
      · simp only [h3, ↓reduceIte]
        cases inr rel 1 1000 <;> cases inr node 0 4 <;> simp [impl_CmdOk.j1, implCmdOk_j2]
      · by_cases h4 : kind = 4
        · simp only [h4, ↓reduceIte]
          cases inr rel 1 1000 <;> simp [impl_CmdOk.j1, implCmdOk_j2]
        · by_cases h5 : kind = 5
          · simp only [h5, ↓reduceIte]
            cases inr rel 1 1000 <;> simp [impl_CmdOk.j1, implCmdOk_j2]
          · simp [h1, h2, h3, h4, h5, impl_CmdOk.j1]

theorem isWhole_eq (a : Int) : impl_isWhole.f a = some (inr a 0 1000000000) := by unfold impl_isWhole.f; rw [within_eq]; rfl
def lastT (P : List S36) : Int := match P.getLast? with | none => 0 | some y => y.f0
theorem lastTerm_eq (P : List S36) (hl : P.length ≤ 140737488355328) : impl_lastTerm.f P = some (lastT P) := by
  unfold impl_lastTerm.f
  rcases List.eq_nil_or_concat P with rfl | ⟨P', y, rfl⟩
  · rfl
  · rw [List.concat_eq_append] at hl ⊢
    have ep : ((P' ++ [y]).length : Int) = P'.length + 1 := by simp
    rw [if_neg (by omega), w64 (x := ((P' ++ [y]).length : Int) - 1) (by omega) (by omega), if_pos (by omega), if_pos (by omega)]
    have := rdE_last P' y []
    rw [List.append_nil] at this
    rw [this]
    simp [lastT]
theorem implHardOk_l (term vote : Int) (F : List S36) (hF : F.length ≤ 140737488355328) (rest : List S36) : ∀ (P : List S36) (lo : Int), F = P ++ rest → mx 1 (lastT P) = lo → Ev (fun k => impl_HardOk.l0 k F (F.length : Int) (P.length : Int) term vote F) (logOk lo term rest && (inr term 0 1000000000 && (inr vote 0 5 && decide ((F.length : Int) ≤ 80)))) := by
  induction rest with
  | nil =>
    intro P lo hPF hlo
    refine Ev.step (f := fun _ => some (inr term 0 1000000000 && (inr vote 0 5 && decide ((F.length : Int) ≤ 80)))) (fun k => ?_) ?_
    · simp only [impl_HardOk.l0]
      rw [if_neg (by rw [hPF]; simp)]
      simp only [isWhole_eq, within_eq, Option.bind_some]
      cases inr term 0 1000000000 <;> cases inr vote 0 5 <;> rfl
    · simp only [logOk, Bool.true_and]; exact Ev.now _
  | cons x t ih =>
    intro P lo hPF hlo
    have el : (F.length : Int) = P.length + t.length + 1 := by rw [hPF]; simp; omega
    have hr : rd_T36 F (P.length : Int) = x := by rw [hPF]; exact rdE_mid P x t
    have hw1 : wrap64 ((P.length : Int) + 1) = ((P ++ [x]).length : Int) := by rw [w64 (by omega) (by omega)]; simp
    have htk : F.take (P.length : Int).toNat = P := by rw [hPF]; simp
    refine Ev.step (fun k => by simp only [impl_HardOk.l0]; rw [if_pos (by omega), if_pos (by omega), if_pos (by omega), hr]) ?_
    refine Ev.bind (implCmdOk_ev _ _ _ _ _) ?_
    change Ev (fun k => if cmdOkE x = true then _ else _) _
    cases hc : cmdOkE x
    · simp only [Bool.false_eq_true, ↓reduceIte]
      have : logOk lo term (x :: t) = false := by simp [logOk, hc]
      rw [this]; exact Ev.now _
    · simp only [↓reduceIte]
      rw [htk, lastTerm_eq P (by omega)]
      simp only [show (P.length : Int) ≤ (F.length : Int) by omega, ↓reduceIte, Option.bind_some, within_eq, hlo]
      by_cases c : lo ≤ x.f0 ∧ x.f0 ≤ term
      · have e : inr x.f0 lo term = true := decide_eq_true c
        have hlog : logOk lo term (x :: t) = logOk x.f0 term t := by simp [logOk, c, hc]
        rw [e, hlog, hw1]
        simp only [↓reduceIte]
        have hlo1 : 1 ≤ lo := by rw [← hlo]; unfold mx; split <;> omega
        exact ih (P ++ [x]) x.f0 (by rw [hPF]; simp) (by simp only [lastT, List.getLast?_append, List.getLast?_singleton, Option.some_or]; unfold mx; split <;> omega)
      · have e : inr x.f0 lo term = false := decide_eq_false c
        have hlog : logOk lo term (x :: t) = false := by simp only [logOk, c, decide_false, Bool.false_and]
        rw [e, hlog]
        simp only [Bool.false_eq_true, ↓reduceIte]; exact Ev.now _
theorem implHardOk_ev (term vote : Int) (l : List S36) (hl : l.length ≤ 140737488355328) : Ev (fun k => impl_HardOk.f k term vote l) (hardOk term vote l) := by
  have h := implHardOk_l term vote l hl l [] 1 rfl rfl
  have e : hardOk term vote l = (logOk 1 term l && (inr term 0 1000000000 && (inr vote 0 5 && decide ((l.length : Int) ≤ 80)))) := by
    unfold hardOk
    cases logOk 1 term l <;> cases inr term 0 1000000000 <;> cases inr vote 0 5 <;> simp
  rw [e]; exact h

def entryOk (term ek er en es : Int) (dig : ByteArray) : Bool := inr term 1 1000000000 && cmdOk ek er en es dig
def zero6 (et ek er en es : Int) (dig : ByteArray) : Bool := et == 0 && ((ek == 0 && (er == 0 && (en == 0 && (es == 0 && (dig.toList == ([] : List UInt8)))))))
def recOk (kind term vote pos et ek er en es : Int) (dig : ByteArray) : Bool :=
  if kind = 1 then (inr term 0 1000000000 && (inr vote 0 5 && (pos == 0 && zero6 et ek er en es dig)))
  else if kind = 2 then (inr pos 1 80 && (entryOk et ek er en es dig && (term == 0 && vote == 0)))
  else if kind = 3 then (inr pos 0 80 && (term == 0 && (vote == 0 && zero6 et ek er en es dig)))
  else false

theorem l6EntryF_ev (term ek er en es : Int) (dig : ByteArray) : Ev (fun k => spec_l6Entry.f k term ek er en es dig) (entryOk term ek er en es dig) := by
  unfold spec_l6Entry.f entryOk
  simp only [l1In_eq, Option.bind_some]
  cases inr term 1 1000000000
  · simp only [Bool.false_eq_true, ↓reduceIte, Bool.false_and]; exact Ev.now _
  · simp only [↓reduceIte, Bool.true_and]
    refine Ev.bind (specCmdOk_ev ek er en es dig) ?_
    exact Ev.now _
theorem specRecOk_ev (kind term vote pos et ek er en es : Int) (dig : ByteArray) : Ev (fun k => spec_RecOk.f k kind term vote pos et ek er en es dig) (recOk kind term vote pos et ek er en es dig) := by
  unfold spec_RecOk.f recOk
  simp only [l1In_eq, l1Whole_eq, Option.bind_some]
  by_cases h1 : kind = 1
  · simp only [h1, ↓reduceIte]
    cases inr term 0 1000000000 <;> cases inr vote 0 5 <;> simp only [Bool.false_eq_true, ↓reduceIte, Bool.false_and, Bool.true_and] <;> exact Ev.now _
  · by_cases h2 : kind = 2
    · simp only [h2, ↓reduceIte, show ¬ (2 : Int) = 1 by omega]
      cases inr pos 1 80
      · simp only [Bool.false_eq_true, ↓reduceIte, Bool.false_and]; exact Ev.now _
      · simp only [↓reduceIte, Bool.true_and]
        refine Ev.bind (l6EntryF_ev et ek er en es dig) ?_
        cases entryOk et ek er en es dig <;> simp only [Bool.false_eq_true, ↓reduceIte, Bool.false_and, Bool.true_and] <;> exact Ev.now _
    · by_cases h3 : kind = 3
      · simp only [h3, ↓reduceIte, show ¬ (3 : Int) = 1 by omega, show ¬ (3 : Int) = 2 by omega]
        cases inr pos 0 80 <;> simp only [Bool.false_eq_true, ↓reduceIte, Bool.false_and, Bool.true_and] <;> exact Ev.now _
      · simp only [h1, h2, h3, ↓reduceIte]; exact Ev.now _

theorem entryOk_ev (term ek er en es : Int) (dig : ByteArray) : Ev (fun k => impl_entryOk.f k term ek er en es dig) (entryOk term ek er en es dig) := by
  unfold impl_entryOk.f entryOk
  simp only [within_eq, Option.bind_some]
  cases inr term 1 1000000000
  · simp only [Bool.false_eq_true, ↓reduceIte, Bool.false_and]; exact Ev.now _
  · simp only [↓reduceIte, Bool.true_and]
    refine Ev.bind (implCmdOk_ev ek er en es dig) ?_
    exact Ev.now _
theorem implRecOk_ev (kind term vote pos et ek er en es : Int) (dig : ByteArray) : Ev (fun k => impl_RecOk.f k kind term vote pos et ek er en es dig) (recOk kind term vote pos et ek er en es dig) := by
  unfold impl_RecOk.f recOk
  simp only [within_eq, isWhole_eq, Option.bind_some]
  by_cases h1 : kind = 1
  · simp only [h1, ↓reduceIte, if_eq0, if_tt]
    exact Ev.now _
  · by_cases h2 : kind = 2
    · simp only [h2, ↓reduceIte, show ¬ (2 : Int) = 1 by omega, if_eq0]
      cases inr pos 1 80
      · simp only [Bool.false_eq_true, ↓reduceIte, Bool.false_and]; exact Ev.now _
      · simp only [↓reduceIte, Bool.true_and]
        refine Ev.bind (entryOk_ev et ek er en es dig) ?_
        simp only [if_tt]
        exact Ev.now _
    · by_cases h3 : kind = 3
      · simp only [h3, ↓reduceIte, show ¬ (3 : Int) = 1 by omega, show ¬ (3 : Int) = 2 by omega, if_eq0, if_tt]
        exact Ev.now _
      · simp only [h1, h2, h3, ↓reduceIte]; exact Ev.now _

theorem copyHard_eq (t v : Int) (l : List S36) (hl : l.length ≤ 140737488355) : impl_copyHard.f t v l = some (t, v, l) := by
  unfold impl_copyHard.f impl_copyLog.f
  simp only [Option.bind_some, List.length_nil, List.nil_append]
  rw [if_pos (by omega)]
  rfl
theorem l6Copy_eq (t v : Int) (l : List S36) (hl : l.length ≤ 140737488355) : spec_l6Copy.f t v l = some (t, v, l) := by
  unfold spec_l6Copy.f
  simp only [Option.bind_some, List.length_nil, List.nil_append]
  rw [if_pos (by omega)]
def mayR (t v : Int) (n : Nat) (k tm vt pos : Int) : Bool :=
  if k = 1 then decide (tm > t) || (tm == t && (v == 0 || v == vt)) else if k = 2 then pos == (n : Int) + 1 else if k = 3 then inr pos 0 n else false
def candR (t v : Int) (l : List S36) (k tm vt pos : Int) (e : S36) : Int × Int × List S36 :=
  if k = 1 then (tm, vt, l) else if k = 2 then (t, v, l ++ [e]) else if k = 3 then (t, v, l.take pos.toNat) else (t, v, l)
def hardApply (t v : Int) (l : List S36) (k tm vt pos : Int) (e : S36) : Int × Int × List S36 × Bool :=
  if hardOk t v l = true then
    (if (mayR t v l.length k tm vt pos && (recOk k tm vt pos e.f0 e.f1.f0 e.f1.f1 e.f1.f2 e.f1.f3 e.f1.f4 && hardOk (candR t v l k tm vt pos e).1 (candR t v l k tm vt pos e).2.1 (candR t v l k tm vt pos e).2.2)) = true
      then ((candR t v l k tm vt pos e).1, (candR t v l k tm vt pos e).2.1, (candR t v l k tm vt pos e).2.2, true) else (t, v, l, false))
  else (0, 0, [], false)
theorem candR_len (t v : Int) (l : List S36) (k tm vt pos : Int) (e : S36) : (candR t v l k tm vt pos e).2.2.length ≤ l.length + 1 := by
  unfold candR
  split
  · simp
  · split
    · simp
    · split
      · simp only [List.length_take]; omega
      · simp
theorem hardApply_len (t v : Int) (l : List S36) (k tm vt pos : Int) (e : S36) : (hardApply t v l k tm vt pos e).2.2.1.length ≤ l.length + 1 := by
  have := candR_len t v l k tm vt pos e
  unfold hardApply
  split
  · split
    · exact this
    · simp
  · simp
theorem hardOk_len {t v : Int} {l : List S36} (h : hardOk t v l = true) : l.length ≤ 80 := by
  unfold hardOk at h
  simp only [Bool.and_eq_true, decide_eq_true_eq] at h
  omega
theorem implHA_j0 (may : Bool) (t v : Int) (l : List S36) (k tm vt pos : Int) (e : S36) (c0 c1 : Int) (c2 : List S36) (hl : l.length ≤ 140737488355) (hc : c2.length ≤ 140737488355) :
    Ev (fun r => impl_HardApply.j0 r may t v l k tm vt pos e.f0 e.f1.f0 e.f1.f1 e.f1.f2 e.f1.f3 e.f1.f4 c0 c1 c2) (if (may && (recOk k tm vt pos e.f0 e.f1.f0 e.f1.f1 e.f1.f2 e.f1.f3 e.f1.f4 && hardOk c0 c1 c2)) = true then (c0, c1, c2, true) else (t, v, l, false)) := by
  refine Ev.step (fun r => by simp only [impl_HardApply.j0]; rfl) ?_
  cases may
  · simp only [Bool.false_eq_true, ↓reduceIte, copyHard_eq t v l hl, Option.bind_some, Bool.false_and]
    exact Ev.now _
  · simp only [↓reduceIte, Bool.true_and]
    refine Ev.bind (implRecOk_ev k tm vt pos e.f0 e.f1.f0 e.f1.f1 e.f1.f2 e.f1.f3 e.f1.f4) ?_
    cases recOk k tm vt pos e.f0 e.f1.f0 e.f1.f1 e.f1.f2 e.f1.f3 e.f1.f4
    · simp only [Bool.false_eq_true, ↓reduceIte, copyHard_eq t v l hl, Option.bind_some, Bool.false_and]
      exact Ev.now _
    · simp only [↓reduceIte, Bool.true_and]
      refine Ev.bind (implHardOk_ev c0 c1 c2 (by omega)) ?_
      cases hardOk c0 c1 c2
      · simp only [Bool.false_eq_true, ↓reduceIte, copyHard_eq t v l hl, Option.bind_some]
        exact Ev.now _
      · simp only [↓reduceIte]
        exact Ev.now _
theorem specHA_j0 (may : Bool) (t v : Int) (l : List S36) (c0 c1 : Int) (c2 : List S36) (hl : l.length ≤ 140737488355) (hc : c2.length ≤ 140737488355) :
    Ev (fun r => spec_HardApply.j0 r may t v l c0 c1 c2) (if (may && hardOk c0 c1 c2) = true then (c0, c1, c2, true) else (t, v, l, false)) := by
  refine Ev.step (fun r => by simp only [spec_HardApply.j0]; rfl) ?_
  cases may
  · simp only [Bool.false_eq_true, ↓reduceIte, l6Copy_eq t v l hl, Option.bind_some, Bool.false_and]
    exact Ev.now _
  · simp only [↓reduceIte, Bool.true_and]
    refine Ev.bind (specHardOk_ev c0 c1 c2 (by omega)) ?_
    cases hardOk c0 c1 c2
    · simp only [Bool.false_eq_true, ↓reduceIte, l6Copy_eq t v l hl, Option.bind_some]
      exact Ev.now _
    · simp only [↓reduceIte]
      exact Ev.now _
theorem recOk_other {k tm vt pos et ek er en es : Int} {dig : ByteArray} (h1 : k ≠ 1) (h2 : k ≠ 2) (h3 : k ≠ 3) : recOk k tm vt pos et ek er en es dig = false := by
  unfold recOk
  rw [if_neg h1, if_neg h2, if_neg h3]
theorem recOk_cut {tm vt pos et ek er en es : Int} {dig : ByteArray} (h : recOk 3 tm vt pos et ek er en es dig = true) : 0 ≤ pos := by
  unfold recOk at h
  rw [if_neg (by omega), if_neg (by omega), if_pos rfl] at h
  simp only [Bool.and_eq_true, inr, decide_eq_true_eq] at h
  omega
theorem implHardApply_ev (t v : Int) (l : List S36) (k tm vt pos : Int) (e : S36) (hl : l.length ≤ 1048576) :
    Ev (fun r => impl_HardApply.f r t v l k tm vt pos e.f0 e.f1.f0 e.f1.f1 e.f1.f2 e.f1.f3 e.f1.f4) (hardApply t v l k tm vt pos e) := by
  unfold impl_HardApply.f hardApply
  refine Ev.bind (implHardOk_ev t v l (by omega)) ?_
  cases ho : hardOk t v l
  · simp only [Bool.false_eq_true, ↓reduceIte]; exact Ev.now _
  · have h80 := hardOk_len ho
    simp only [↓reduceIte, copyHard_eq t v l (by omega), Option.bind_some]
    unfold candR mayR
    by_cases k1 : k = 1
    · subst k1
      simp only [↓reduceIte]
      have J := fun b => implHA_j0 b t v l 1 tm vt pos e tm vt l (by omega) (by omega)
      by_cases a : tm > t
      · simp only [a, ↓reduceIte, decide_true, Bool.true_or]; exact J true
      · simp only [a, ↓reduceIte, decide_false, Bool.false_or]
        by_cases b : tm = t
        · by_cases c : v = 0
          · simp only [b, c, ↓reduceIte, beq_self_eq_true, Bool.true_or, Bool.true_and]
            have := J true
            simp only [b, c] at this
            exact this
          · have hb : (tm == t) = true := beq_iff_eq.2 b
            have hc : (v == 0) = false := beq_eq_false_iff_ne.2 c
            simp only [if_pos b, if_neg c, hb, hc]
            simp only [Bool.true_and, Bool.false_or]
            exact J (v == vt)
        · have hb : (tm == t) = false := beq_eq_false_iff_ne.2 b
          simp only [if_neg b, hb]
          exact J false
    · simp only [k1, ↓reduceIte]
      by_cases k2 : k = 2
      · subst k2
        simp only [↓reduceIte, show l.length < 2513169434916 by omega]
        rw [w64 (by omega) (by omega)]
        exact implHA_j0 _ t v l 2 tm vt pos e t v (l ++ [e]) (by omega) (by simp; omega)
      · simp only [k2, ↓reduceIte]
        by_cases k3 : k = 3
        · subst k3
          simp only [↓reduceIte, within_eq, Option.bind_some]
          have m0 : 0 ≤ mn (mx pos 0) (l.length : Int) := by unfold mn mx; split <;> split <;> omega
          have m1 : mn (mx pos 0) (l.length : Int) ≤ (l.length : Int) := by unfold mn mx; split <;> split <;> omega
          simp only [m0, m1, ↓reduceIte]
          have J := implHA_j0 (inr pos 0 l.length) t v l 3 tm vt pos e t v (l.take (mn (mx pos 0) (l.length : Int)).toNat) (by omega) (by rw [List.length_take]; omega)
          cases hi : inr pos 0 l.length
          · rw [hi] at J
            simpa using J
          · have hm : mn (mx pos 0) (l.length : Int) = pos := by
              simp only [inr, decide_eq_true_eq] at hi
              unfold mn mx; split <;> split <;> omega
            rw [hi, hm] at J
            rw [hm]
            exact J
        · simp only [k3, ↓reduceIte]
          exact implHA_j0 false t v l k tm vt pos e t v l (by omega) (by omega)
theorem specHardApply_ev (t v : Int) (l : List S36) (k tm vt pos : Int) (e : S36) (hl : l.length ≤ 1048576) :
    Ev (fun r => spec_HardApply.f r t v l k tm vt pos e.f0 e.f1.f0 e.f1.f1 e.f1.f2 e.f1.f3 e.f1.f4) (hardApply t v l k tm vt pos e) := by
  unfold spec_HardApply.f hardApply
  refine Ev.bind (specHardOk_ev t v l (by omega)) ?_
  cases ho : hardOk t v l
  · simp only [Bool.false_eq_true, ↓reduceIte]; exact Ev.now _
  · have h80 := hardOk_len ho
    simp only [↓reduceIte, l6Copy_eq t v l (by omega), Option.bind_some]
    refine Ev.bind (specRecOk_ev k tm vt pos e.f0 e.f1.f0 e.f1.f1 e.f1.f2 e.f1.f3 e.f1.f4) ?_
    unfold candR mayR
    have F : ∀ c0 c1 c2, c2.length ≤ 1048577 → Ev (fun r => spec_HardApply.j0 r false t v l c0 c1 c2) (t, v, l, false) := fun c0 c1 c2 hc => by
      have := specHA_j0 false t v l c0 c1 c2 (by omega) (by omega)
      simpa using this
    by_cases k1 : k = 1
    · subst k1
      simp only [↓reduceIte]
      cases hr : recOk 1 tm vt pos e.f0 e.f1.f0 e.f1.f1 e.f1.f2 e.f1.f3 e.f1.f4
      · simp only [Bool.false_eq_true, ↓reduceIte, Bool.false_and, Bool.and_false]
        exact F _ _ _ (by omega)
      · simp only [↓reduceIte, Bool.true_and]
        have J := fun b => specHA_j0 b t v l tm vt l (by omega) (by omega)
        by_cases a : tm > t
        · simp only [a, ↓reduceIte, decide_true, Bool.true_or]; exact J true
        · simp only [a, ↓reduceIte, decide_false, Bool.false_or]
          by_cases b : tm = t
          · by_cases c : v = 0
            · simp only [b, c, ↓reduceIte, beq_self_eq_true, Bool.true_or, Bool.true_and]
              have := J true
              simp only [b, c] at this
              exact this
            · have hb : (tm == t) = true := beq_iff_eq.2 b
              have hc : (v == 0) = false := beq_eq_false_iff_ne.2 c
              simp only [if_pos b, if_neg c, hb, hc]
              simp only [Bool.true_and, Bool.false_or]
              exact J (v == vt)
          · have hb : (tm == t) = false := beq_eq_false_iff_ne.2 b
            simp only [if_neg b, hb]
            exact J false
    · simp only [k1, ↓reduceIte]
      by_cases k2 : k = 2
      · subst k2
        simp only [↓reduceIte, show l.length < 2513169434916 by omega]
        cases hr : recOk 2 tm vt pos e.f0 e.f1.f0 e.f1.f1 e.f1.f2 e.f1.f3 e.f1.f4
        · simp only [Bool.false_eq_true, ↓reduceIte, Bool.false_and, Bool.and_false]
          exact F _ _ _ (by simp; omega)
        · simp only [↓reduceIte, Bool.true_and]
          rw [w64 (by omega) (by omega)]
          exact specHA_j0 _ t v l t v (l ++ [e]) (by omega) (by simp; omega)
      · simp only [k2, ↓reduceIte]
        by_cases k3 : k = 3
        · subst k3
          simp only [↓reduceIte]
          cases hr : recOk 3 tm vt pos e.f0 e.f1.f0 e.f1.f1 e.f1.f2 e.f1.f3 e.f1.f4
          · simp only [Bool.false_eq_true, ↓reduceIte, Bool.false_and, Bool.and_false]
            exact F _ _ _ (by omega)
          · have h0 := recOk_cut hr
            simp only [↓reduceIte, Bool.true_and]
            by_cases c : pos ≤ (l.length : Int)
            · have hi : inr pos 0 l.length = true := decide_eq_true ⟨h0, c⟩
              simp only [c, h0, ↓reduceIte, decide_true, hi]
              exact specHA_j0 true t v l t v (l.take pos.toNat) (by omega) (by rw [List.length_take]; omega)
            · have hi : inr pos 0 l.length = false := decide_eq_false (by omega)
              simp only [c, ↓reduceIte, decide_false, hi, Bool.false_and, Bool.false_eq_true]
              exact F _ _ _ (by omega)
        · simp only [k3, ↓reduceIte]
          rw [recOk_other k1 k2 k3]
          simp only [Bool.false_and, Bool.false_eq_true, ↓reduceIte]
          exact F _ _ _ (by omega)

theorem l1Max_eq (a b : Int) : spec_l1Max.f a b = some (mx a b) := by
  unfold spec_l1Max.f mx
  by_cases h : a > b
  · rw [if_pos h, if_neg (by omega)]
  · rw [if_neg h]
    by_cases h2 : a < b
    · rw [if_pos h2]
    · rw [if_neg h2]; exact congrArg some (by omega)
theorem rdR_mid (P : List S38) (x : S38) (t : List S38) : rd_T38 (P ++ x :: t) (P.length : Int) = x := by
  unfold rd_T38; simp
theorem l6DrawNext_ok (b : List Int) (hb : b.length ≤ 140737488355328) (i h t v : Int) (l : List S36) (hi : 0 ≤ i ∧ i ≤ 9223372036854775807) :
    ∃ (x0 x1 x2 x3 x4 x5 x6 x7 x8 : Int) (x9 : ByteArray) (i' h' : Int), Ev (fun k => spec_l6DrawNext.f k b i h t v l) (x0, x1, x2, x3, x4, x5, x6, x7, x8, x9, i', h') ∧ (0 ≤ i' ∧ i' ≤ 9223372036854775807) := by
  obtain ⟨z, i1, h1, e1, p1, _, b1⟩ := l1Below_ok b i h 9 hi hb
  have key : ∀ w : Bool, ∃ (x0 x1 x2 x3 x4 x5 x6 x7 x8 : Int) (x9 : ByteArray) (i' h' : Int), Ev (fun k => spec_l6DrawNext.j0 k z w b i1 h1 t v l) (x0, x1, x2, x3, x4, x5, x6, x7, x8, x9, i', h') ∧ (0 ≤ i' ∧ i' ≤ 9223372036854775807) := by
    intro w
    cases w
    · by_cases c3 : z = 3
      · obtain ⟨y, i2, h2, e2, p2, _, _⟩ := l1Below_ok b i1 h1 (wrap64 ((l.length : Int) + 2)) p1 hb
        refine ⟨3, 0, 0, y, 0, 0, 0, 0, 0, (⟨#[]⟩ : ByteArray), i2, h2, Ev.step (f := fun _ => some _) (fun k => ?_) (Ev.now _), p2⟩
        simp only [spec_l6DrawNext.j0, Bool.false_eq_true, ↓reduceIte, c3, e2, Option.bind_some]
      · obtain ⟨o, i2, h2, e2, p2⟩ := l1Once_ok b i1 h1 9 p1 hb
        cases o
        · obtain ⟨y, i3, h3, e3, p3, _, _⟩ := l1Below_ok b i2 h2 12 p2 hb
          obtain ⟨kd, rl, nd, sz, dg, i4, h4, e4, _, p4⟩ := l5DrawRight_ok b i3 h3 hb p3
          refine ⟨2, 0, 0, wrap64 ((wrap64 ((l.length : Int) + 1)) + (wrap64 (Int.tdiv y 11))), mx t 1, kd, rl, nd, sz, dg, i4, h4, ?_, p4⟩
          refine Ev.step (fun k => by simp only [spec_l6DrawNext.j0, Bool.false_eq_true, ↓reduceIte, c3, l1Max_eq, e2, e3, Option.bind_some]; rfl) ?_
          exact Ev.bind e4 (Ev.now _)
        · obtain ⟨y, i3, h3, e3, p3, _, _⟩ := l1Below_ok b i2 h2 4 p2 hb
          obtain ⟨y', i4, h4, e4, p4, _, _⟩ := l1Below_ok b i3 h3 12 p3 hb
          obtain ⟨kd, rl, nd, sz, dg, i5, h5, e5, _, p5⟩ := l5DrawRight_ok b i4 h4 hb p4
          refine ⟨2, 0, 0, wrap64 ((wrap64 ((l.length : Int) + 1)) + (wrap64 (Int.tdiv y' 11))), wrap64 (1 + y), kd, rl, nd, sz, dg, i5, h5, ?_, p5⟩
          refine Ev.step (fun k => by simp only [spec_l6DrawNext.j0, Bool.false_eq_true, ↓reduceIte, c3, l1Max_eq, e2, e3, e4, Option.bind_some]; rfl) ?_
          exact Ev.bind e5 (Ev.now _)
    · obtain ⟨y, i2, h2, e2, p2, _, _⟩ := l1Below_ok b i1 h1 3 p1 hb
      obtain ⟨y', i3, h3, e3, p3, _, _⟩ := l1Below_ok b i2 h2 4 p2 hb
      obtain ⟨o, i4, h4, e4, p4⟩ := l1Once_ok b i3 h3 9 p3 hb
      cases o
      · refine ⟨1, wrap64 (t + y), y', 0, 0, 0, 0, 0, 0, (⟨#[]⟩ : ByteArray), i4, h4, Ev.step (f := fun _ => some _) (fun k => ?_) (Ev.now _), p4⟩
        simp only [spec_l6DrawNext.j0, Bool.false_eq_true, ↓reduceIte, e2, e3, e4, Option.bind_some]
      · obtain ⟨q, i5, h5, e5, p5, _⟩ := l1PickInt_ok b i4 h4 [0, 1000000000, 1] p4 hb (by simp)
        refine ⟨1, q, y', 0, 0, 0, 0, 0, 0, (⟨#[]⟩ : ByteArray), i5, h5, Ev.step (f := fun _ => some _) (fun k => ?_) (Ev.now _), p5⟩
        simp only [spec_l6DrawNext.j0, ↓reduceIte, e2, e3, e4, e5, Option.bind_some]
  unfold spec_l6DrawNext.f
  simp only [e1, Option.bind_some]
  by_cases z0 : z = 0
  · simp only [z0, ↓reduceIte]; have := key (z == 0); rw [z0] at this; exact this
  · by_cases z1 : z = 1
    · simp only [z0, z1, ↓reduceIte, show ¬ ((1 : Int) = 0) by decide]; have := key (z == 1); rw [z1] at this; exact this
    · simp only [z0, z1, ↓reduceIte]; exact key (z == 2)
theorem drawRecs_l (b : List Int) (hb : b.length ≤ 140737488355328) (a : Int) (ha : 0 ≤ a ∧ a ≤ 100) (d : Nat) : ∀ (x i h t v : Int) (acc : List S38) (l : List S36), 0 ≤ x → x + d = a + 1 → (acc.length : Int) ≤ x → (l.length : Int) ≤ x → (0 ≤ i ∧ i ≤ 9223372036854775807) →
    ∃ r i' h', Ev (fun k => spec_l6DrawRecs.l0 k a acc x b i h t v l) (r, i', h') ∧ (r.length : Int) ≤ a + 1 ∧ (0 ≤ i' ∧ i' ≤ 9223372036854775807) := by
  have hw0 : wrap64 (a + 1) = a + 1 := w64 (by omega) (by omega)
  induction d with
  | zero =>
    intro x i h t v acc l hx hd hc hl hi
    obtain ⟨y, i1, h1, e1, p1, _, b1⟩ := l1Below_ok b i h (a + 1) hi hb
    have b1 := b1 (by omega)
    refine ⟨acc, i1, h1, ?_, by omega, p1⟩
    refine Ev.step (f := fun _ => some (acc, i1, h1)) (fun k => ?_) (Ev.now _)
    simp only [spec_l6DrawRecs.l0, hw0, e1, Option.bind_some]
    rw [if_neg (by omega)]
  | succ d ih =>
    intro x i h t v acc l hx hd hc hl hi
    have hw : wrap64 (x + 1) = x + 1 := w64 (by omega) (by omega)
    obtain ⟨y, i1, h1, e1, p1, _, b1⟩ := l1Below_ok b i h (a + 1) hi hb
    by_cases c : ¬ x < y
    · refine ⟨acc, i1, h1, ?_, by omega, p1⟩
      refine Ev.step (f := fun _ => some (acc, i1, h1)) (fun k => ?_) (Ev.now _)
      simp only [spec_l6DrawRecs.l0, hw0, e1, Option.bind_some, c, ↓reduceIte]
    · replace c := Decidable.not_not.1 c
      obtain ⟨x0, x1, x2, x3, x4, x5, x6, x7, x8, x9, i2, h2, e2, p2⟩ := l6DrawNext_ok b hb i1 h1 t v l p1
      have eA := specHardApply_ev t v l x0 x1 x2 x3 ⟨x4, ⟨x5, x6, x7, x8, x9⟩⟩ (by omega)
      have hn := hardApply_len t v l x0 x1 x2 x3 ⟨x4, ⟨x5, x6, x7, x8, x9⟩⟩
      generalize hardApply t v l x0 x1 x2 x3 ⟨x4, ⟨x5, x6, x7, x8, x9⟩⟩ = U at *
      obtain ⟨u0, u1, u2, u3⟩ := U
      simp only at hn eA
      have k1 : acc.length < 1599289640401 := by omega
      cases u3
      · obtain ⟨o, i3, h3, e3, p3⟩ := l1Once_ok b i2 h2 25 p2 hb
        cases o
        · obtain ⟨r, i', h', e', B, p'⟩ := ih (x + 1) i3 h3 t v acc l (by omega) (by omega) (by omega) (by omega) p3
          refine ⟨r, i', h', ?_, B, p'⟩
          refine Ev.step (fun k => by simp only [spec_l6DrawRecs.l0, hw0, e1, Option.bind_some, c, ↓reduceIte]; rfl) ?_
          refine Ev.bind e2 (Ev.bind eA ?_)
          simp only [Bool.false_eq_true, ↓reduceIte, e3, Option.bind_some, hw]; exact e'
        · obtain ⟨r, i', h', e', B, p'⟩ := ih (x + 1) i3 h3 u0 u1 (acc ++ [⟨x0, x1, x2, x3, ⟨x4, ⟨x5, x6, x7, x8, x9⟩⟩⟩]) u2 (by omega) (by omega) (by simp; omega) (by omega) p3
          refine ⟨r, i', h', ?_, B, p'⟩
          refine Ev.step (fun k => by simp only [spec_l6DrawRecs.l0, hw0, e1, Option.bind_some, c, ↓reduceIte]; rfl) ?_
          refine Ev.bind e2 (Ev.bind eA ?_)
          simp only [Bool.false_eq_true, ↓reduceIte, e3, Option.bind_some, hw, k1]; exact e'
      · obtain ⟨r, i', h', e', B, p'⟩ := ih (x + 1) i2 h2 u0 u1 (acc ++ [⟨x0, x1, x2, x3, ⟨x4, ⟨x5, x6, x7, x8, x9⟩⟩⟩]) u2 (by omega) (by omega) (by simp; omega) (by omega) p2
        refine ⟨r, i', h', ?_, B, p'⟩
        refine Ev.step (fun k => by simp only [spec_l6DrawRecs.l0, hw0, e1, Option.bind_some, c, ↓reduceIte]; rfl) ?_
        refine Ev.bind e2 (Ev.bind eA ?_)
        simp only [↓reduceIte, hw, k1]; exact e'
theorem l6DrawRecs_ok (b : List Int) (hb : b.length ≤ 140737488355328) (a : Int) (ha : 0 ≤ a ∧ a ≤ 100) (i h : Int) (hi : 0 ≤ i ∧ i ≤ 9223372036854775807) :
    ∃ r i' h', Ev (fun k => spec_l6DrawRecs.f k b i h a) (r, i', h') ∧ (r.length : Int) ≤ a + 1 ∧ (0 ≤ i' ∧ i' ≤ 9223372036854775807) :=
  drawRecs_l b hb a ha (a + 1).toNat 0 i h 0 0 [] [] (by omega) (by omega) (by simp) (by simp) hi

def hoG : List S38 → Int → Int → Int → List S36 → Int × Int × List S36 × Int
  | [], i, t, v, l => (t, v, l, i)
  | x :: r, i, t, v, l => if (hardApply t v l x.f0 x.f1 x.f2 x.f3 x.f4).2.2.2 = true then hoG r (i + 1) (hardApply t v l x.f0 x.f1 x.f2 x.f3 x.f4).1 (hardApply t v l x.f0 x.f1 x.f2 x.f3 x.f4).2.1 (hardApply t v l x.f0 x.f1 x.f2 x.f3 x.f4).2.2.1 else (t, v, l, i)
theorem hoG_len : ∀ (r : List S38) (i t v : Int) (l : List S36), (hoG r i t v l).2.2.1.length ≤ l.length + r.length
  | [], i, t, v, l => by simp [hoG]
  | x :: r, i, t, v, l => by
    have h1 := hardApply_len t v l x.f0 x.f1 x.f2 x.f3 x.f4
    have h2 := hoG_len r (i + 1) (hardApply t v l x.f0 x.f1 x.f2 x.f3 x.f4).1 (hardApply t v l x.f0 x.f1 x.f2 x.f3 x.f4).2.1 (hardApply t v l x.f0 x.f1 x.f2 x.f3 x.f4).2.2.1
    simp only [hoG]
    split
    · simp only [List.length_cons]; omega
    · simp
theorem specHO_l (rest : List S38) : ∀ (P : List S38) (t v : Int) (l : List S36), P.length + rest.length ≤ 2000 → l.length ≤ P.length → Ev (fun k => spec_HardOf.l0 k (P ++ rest) (P.length : Int) t v l) (hoG rest P.length t v l) := by
  induction rest with
  | nil =>
    intro P t v l hl ho
    refine Ev.step (f := fun _ => some (t, v, l, ((P ++ []).length : Int))) (fun k => ?_) ?_
    · simp only [spec_HardOf.l0]
      rw [if_neg (by simp)]
    · simp [hoG]; exact Ev.now _
  | cons x r ih =>
    intro P t v l hl ho
    simp only [List.length_cons] at hl
    have el : ((P ++ x :: r).length : Int) = P.length + r.length + 1 := by simp; omega
    have hw : wrap64 ((P.length : Int) + 1) = ((P ++ [x]).length : Int) := by rw [w64 (by omega) (by omega)]; simp
    have hA := specHardApply_ev t v l x.f0 x.f1 x.f2 x.f3 x.f4 (by omega)
    have hn := hardApply_len t v l x.f0 x.f1 x.f2 x.f3 x.f4
    refine Ev.step (fun k => by simp only [spec_HardOf.l0]; rw [if_pos (by omega)]) ?_
    refine Ev.step (fun k => by simp only [spec_HardOf.j2]; rw [if_pos (by omega), if_pos (by omega), rdR_mid]) ?_
    simp only [hoG]
    refine Ev.bind hA ?_
    generalize hardApply t v l x.f0 x.f1 x.f2 x.f3 x.f4 = U at *
    obtain ⟨u0, u1, u2, u3⟩ := U
    simp only at hn ⊢
    cases u3
    · simp only [Bool.false_eq_true, ↓reduceIte]; exact Ev.now _
    · simp only [↓reduceIte]
      refine Ev.step (fun k => by simp only [spec_HardOf.j3]; rw [hw]) ?_
      have h := ih (P ++ [x]) u0 u1 u2 (by simp; omega) (by simp; omega)
      simpa using h
theorem implHO_l (rest : List S38) : ∀ (P : List S38) (t v : Int) (l : List S36), P.length + rest.length ≤ 2000 → l.length ≤ P.length → Ev (fun k => impl_HardOf.l0 k (P ++ rest) (P ++ rest) ((P ++ rest).length : Int) (P.length : Int) t v l) (hoG rest P.length t v l) := by
  induction rest with
  | nil =>
    intro P t v l hl ho
    refine Ev.step (f := fun _ => some (t, v, l, ((P ++ []).length : Int))) (fun k => ?_) ?_
    · simp only [impl_HardOf.l0]
      rw [if_neg (by simp)]
    · simp [hoG]; exact Ev.now _
  | cons x r ih =>
    intro P t v l hl ho
    simp only [List.length_cons] at hl
    have el : ((P ++ x :: r).length : Int) = P.length + r.length + 1 := by simp; omega
    have hw : wrap64 ((P.length : Int) + 1) = ((P ++ [x]).length : Int) := by rw [w64 (by omega) (by omega)]; simp
    have hA := implHardApply_ev t v l x.f0 x.f1 x.f2 x.f3 x.f4 (by omega)
    have hn := hardApply_len t v l x.f0 x.f1 x.f2 x.f3 x.f4
    refine Ev.step (fun k => by simp only [impl_HardOf.l0]; rw [if_pos (by omega)]) ?_
    refine Ev.step (fun k => by simp only [impl_HardOf.j2]; rw [if_pos (by omega), if_pos (by omega), rdR_mid]) ?_
    simp only [hoG]
    refine Ev.bind hA ?_
    generalize hardApply t v l x.f0 x.f1 x.f2 x.f3 x.f4 = U at *
    obtain ⟨u0, u1, u2, u3⟩ := U
    simp only at hn ⊢
    cases u3
    · simp only [Bool.false_eq_true, ↓reduceIte]; exact Ev.now _
    · simp only [↓reduceIte]
      refine Ev.step (fun k => by simp only [impl_HardOf.j3]; rw [hw]) ?_
      have h := ih (P ++ [x]) u0 u1 u2 (by simp; omega) (by simp; omega)
      simpa using h
def hardOf (r : List S38) : Int × Int × List S36 × Int := if r.length > 2000 then (0, 0, [], 0) else hoG r 0 0 0 []
theorem specHardOf_ev (r : List S38) (hl : r.length ≤ 140737488355328) : Ev (fun k => spec_HardOf.f k r) (hardOf r) := by
  unfold spec_HardOf.f hardOf
  by_cases c : r.length > 2000
  · simp only [show (r.length : Int) > 2000 by omega, c, ↓reduceIte]; exact Ev.now _
  · simp only [show ¬ (r.length : Int) > 2000 by omega, c, ↓reduceIte]
    refine Ev.step (fun k => by simp only [spec_HardOf.j0]; rfl) ?_
    have h := specHO_l r [] 0 0 [] (by simp; omega) (by simp)
    simpa using h
theorem implHardOf_ev (r : List S38) (hl : r.length ≤ 140737488355328) : Ev (fun k => impl_HardOf.f k r) (hardOf r) := by
  unfold impl_HardOf.f hardOf
  by_cases c : r.length > 2000
  · simp only [show (r.length : Int) > 2000 by omega, c, ↓reduceIte]; exact Ev.now _
  · simp only [show ¬ (r.length : Int) > 2000 by omega, c, ↓reduceIte]
    refine Ev.step (fun k => by simp only [impl_HardOf.j0]; rfl) ?_
    have h := implHO_l r [] 0 0 [] (by simp; omega) (by simp)
    simpa using h

theorem drawHardOf_l (n : Nat) (hn : n ≤ 140737488355328) (d : Nat) : ∀ (i : Nat) (Q : List S38), Q.length = n → i + d = n → ∃ R : List S38, Ev (fun k => spec_DrawHardOf.l0 k Q (i : Int)) R ∧ R.length = n := by
  induction d with
  | zero =>
    intro i Q hQ hi
    refine ⟨Q, Ev.step (f := fun _ => some Q) (fun k => ?_) (Ev.now _), hQ⟩
    simp only [spec_DrawHardOf.l0]
    rw [if_neg (by omega)]
  | succ d ih =>
    intro i Q hQ hi
    have hw : wrap64 ((i : Int) + 1) = ((i + 1 : Nat) : Int) := by rw [w64 (by omega) (by omega)]; omega
    obtain ⟨R, e, h⟩ := ih (i + 1) (Q.set i ⟨1, 0, 0, 0, ⟨0, ⟨0, 0, 0, 0, (⟨#[]⟩ : ByteArray)⟩⟩⟩) (by simpa using hQ) (by omega)
    refine ⟨R, Ev.step (fun k => ?_) e, h⟩
    simp only [spec_DrawHardOf.l0]
    rw [if_pos (by omega), if_pos (by omega), hw]
    rfl
theorem drawHardOf_ok (l : List Int) (hl : l.length ≤ 140737488355328) : ∃ r : List S38, Ev (fun k => spec_DrawHardOf.f k l) r ∧ r.length ≤ 2001 := by
  obtain ⟨h0, e0⟩ := l1New_ev l hl
  obtain ⟨o, i1, h1, e1, p1⟩ := l1Once_ok l 0 h0 40 (by omega) hl
  cases o
  · obtain ⟨r, i2, h2, e2, B, _⟩ := l6DrawRecs_ok l hl 25 (by omega) i1 h1 p1
    refine ⟨r, ?_, by omega⟩
    unfold spec_DrawHardOf.f
    refine Ev.bind e0 ?_
    simp only [e1, Option.bind_some, Bool.false_eq_true, ↓reduceIte]
    exact Ev.bind e2 (Ev.now _)
  · obtain ⟨y, i2, h2, e2, p2, _, b2⟩ := l1Below_ok l i1 h1 2 p1 hl
    have b2 := b2 (by omega)
    have hw : wrap64 (2000 + y) = 2000 + y := w64 (by omega) (by omega)
    obtain ⟨R, e, h⟩ := drawHardOf_l (2000 + y).toNat (by omega) (2000 + y).toNat 0 (List.replicate (2000 + y).toNat z38) (by simp) (by omega)
    refine ⟨R, ?_, by omega⟩
    unfold spec_DrawHardOf.f
    refine Ev.bind e0 ?_
    simp only [e1, e2, Option.bind_some, ↓reduceIte, hw]
    simp only [show 0 ≤ 2000 + y by omega, show (2000 + y).toNat ≤ 3198579280802 by omega, ↓reduceIte]
    exact e
theorem sameEntries_l (l : List S36) (hl : l.length ≤ 140737488355328) (d : Nat) : ∀ i : Nat, i + d = l.length → Ev (fun k => laws_sameEntries.l0 k l l (i : Int)) true := by
  induction d with
  | zero =>
    intro i hi
    refine Ev.step (f := fun _ => some true) (fun k => ?_) (Ev.now _)
    simp only [laws_sameEntries.l0]
    rw [if_neg (by omega)]
  | succ d ih =>
    intro i hi
    have h := ih (i + 1) (by omega)
    have hw : wrap64 ((i : Int) + 1) = ((i + 1 : Nat) : Int) := by rw [w64 (by omega) (by omega)]; omega
    refine Ev.step (fun k => ?_) h
    simp only [laws_sameEntries.l0]
    rw [if_pos (by omega), if_pos (by omega), if_pos (by omega)]
    simp only [beq_self_eq_true, Bool.not_true, Bool.or_self, Bool.false_eq_true, ↓reduceIte, hw]
theorem sameEntries_ev (l : List S36) (hl : l.length ≤ 140737488355328) : Ev (fun k => laws_sameEntries.f k l l) true := by
  unfold laws_sameEntries.f
  simp only [↓reduceIte]
  exact sameEntries_l l hl l.length 0 (by omega)
theorem apply_facts (t v : Int) (l : List S36) (x : S38) (h : (hardApply t v l x.f0 x.f1 x.f2 x.f3 x.f4).2.2.2 = true) :
    t ≤ (hardApply t v l x.f0 x.f1 x.f2 x.f3 x.f4).1 ∧ ((hardApply t v l x.f0 x.f1 x.f2 x.f3 x.f4).1 = t → v ≠ 0 → (hardApply t v l x.f0 x.f1 x.f2 x.f3 x.f4).2.1 = v) ∧ hardOk (hardApply t v l x.f0 x.f1 x.f2 x.f3 x.f4).1 (hardApply t v l x.f0 x.f1 x.f2 x.f3 x.f4).2.1 (hardApply t v l x.f0 x.f1 x.f2 x.f3 x.f4).2.2.1 = true := by
  unfold hardApply at h ⊢
  by_cases c1 : hardOk t v l = true
  · rw [if_pos c1] at h ⊢
    by_cases c2 : (mayR t v l.length x.f0 x.f1 x.f2 x.f3 && (recOk x.f0 x.f1 x.f2 x.f3 x.f4.f0 x.f4.f1.f0 x.f4.f1.f1 x.f4.f1.f2 x.f4.f1.f3 x.f4.f1.f4 && hardOk (candR t v l x.f0 x.f1 x.f2 x.f3 x.f4).1 (candR t v l x.f0 x.f1 x.f2 x.f3 x.f4).2.1 (candR t v l x.f0 x.f1 x.f2 x.f3 x.f4).2.2)) = true
    · rw [if_pos c2]
      simp only [Bool.and_eq_true] at c2
      obtain ⟨m, _, ok⟩ := c2
      refine ⟨?_, ?_, ok⟩
      · unfold mayR at m
        unfold candR
        split at m
        · rename_i k1
          simp only [k1, ↓reduceIte]
          simp only [Bool.or_eq_true, decide_eq_true_eq, Bool.and_eq_true, beq_iff_eq] at m
          omega
        · rename_i k1
          simp only [k1, ↓reduceIte]
          split
          · exact Int.le_refl _
          · split <;> exact Int.le_refl _
      · unfold mayR at m
        unfold candR
        split at m
        · rename_i k1
          simp only [k1, ↓reduceIte]
          simp only [Bool.or_eq_true, decide_eq_true_eq, Bool.and_eq_true, beq_iff_eq] at m
          intro e1 e2
          rcases m with m | ⟨_, m | m⟩
          · omega
          · exact absurd m e2
          · exact m.symm
        · rename_i k1
          simp only [k1, ↓reduceIte]
          intro _ _
          split
          · rfl
          · split <;> rfl
    · rw [if_neg c2] at h; simp at h
  · rw [if_neg c1] at h; simp at h
theorem hoG_n : ∀ (r : List S38) (i t v : Int) (l : List S36), i ≤ (hoG r i t v l).2.2.2 ∧ (hoG r i t v l).2.2.2 ≤ i + r.length
  | [], i, t, v, l => by simp [hoG]
  | x :: r, i, t, v, l => by
    have h2 := hoG_n r (i + 1) (hardApply t v l x.f0 x.f1 x.f2 x.f3 x.f4).1 (hardApply t v l x.f0 x.f1 x.f2 x.f3 x.f4).2.1 (hardApply t v l x.f0 x.f1 x.f2 x.f3 x.f4).2.2.1
    simp only [hoG]
    split
    · simp only [List.length_cons]; omega
    · simp only [List.length_cons]; omega
theorem hoG_ok : ∀ (r : List S38) (i t v : Int) (l : List S36), hardOk t v l = true → hardOk (hoG r i t v l).1 (hoG r i t v l).2.1 (hoG r i t v l).2.2.1 = true
  | [], i, t, v, l, h => by simpa [hoG] using h
  | x :: r, i, t, v, l, h => by
    simp only [hoG]
    split
    · rename_i c
      exact hoG_ok r (i + 1) _ _ _ (apply_facts t v l x c).2.2
    · exact h
theorem run_j3 (t v : Int) (l : List S36) (hl : l.length ≤ 140737488355328) : Ev (fun k => laws_FnHardRun.j3 k t v l t v l) true := by
  refine Ev.step (fun k => by simp only [laws_FnHardRun.j3, ↓reduceIte]; rfl) ?_
  refine Ev.bind (sameEntries_ev l hl) (Ev.now _)
theorem run_l (T V n : Int) (L : List S36) (rest : List S38) : ∀ (P : List S38) (t v : Int) (l : List S36), hoG rest (P.length : Int) t v l = (T, V, L, n) → P.length + rest.length ≤ 2000 → l.length ≤ P.length → P.length ≤ 100 → hardOk t v l = true →
    Ev (fun k => laws_FnHardRun.l0 k (P ++ rest) n (P.length : Int) T V L t v l) true := by
  induction rest with
  | nil =>
    intro P t v l h hp hl hc hk
    simp only [hoG, Prod.mk.injEq] at h
    obtain ⟨rfl, rfl, rfl, rfl⟩ := h
    refine Ev.step (f := fun k => laws_FnHardRun.j1 k (P ++ []) (P.length : Int) (P.length : Int) false t v l t v l) (fun k => by simp only [laws_FnHardRun.l0]; rw [if_neg (by omega)]) ?_
    refine Ev.step (fun k => by simp only [laws_FnHardRun.j1, Bool.false_eq_true, ↓reduceIte]; rw [if_neg (by omega), if_neg (by simp)]) ?_
    exact run_j3 t v l (by omega)
  | cons x r ih =>
    intro P t v l h hp hl hc hk
    simp only [List.length_cons] at hp
    have el : ((P ++ x :: r).length : Int) = P.length + r.length + 1 := by simp; omega
    have hA := implHardApply_ev t v l x.f0 x.f1 x.f2 x.f3 x.f4 (by omega)
    have hn := hardApply_len t v l x.f0 x.f1 x.f2 x.f3 x.f4
    have hF := apply_facts t v l x
    simp only [hoG] at h
    by_cases c : (hardApply t v l x.f0 x.f1 x.f2 x.f3 x.f4).2.2.2 = true
    · rw [if_pos c] at h
      obtain ⟨f1, f2, f3⟩ := hF c
      have h2 := (hoG_n r ((P.length : Int) + 1) (hardApply t v l x.f0 x.f1 x.f2 x.f3 x.f4).1 (hardApply t v l x.f0 x.f1 x.f2 x.f3 x.f4).2.1 (hardApply t v l x.f0 x.f1 x.f2 x.f3 x.f4).2.2.1).1
      have h3 := hoG_ok r ((P.length : Int) + 1) _ _ _ f3
      have h4 := hoG_len r ((P.length : Int) + 1) (hardApply t v l x.f0 x.f1 x.f2 x.f3 x.f4).1 (hardApply t v l x.f0 x.f1 x.f2 x.f3 x.f4).2.1 (hardApply t v l x.f0 x.f1 x.f2 x.f3 x.f4).2.2.1
      rw [h] at h2 h3 h4
      simp only at h2 h3 h4
      by_cases c1 : P.length < 100
      · have ih := ih (P ++ [x]) (hardApply t v l x.f0 x.f1 x.f2 x.f3 x.f4).1 (hardApply t v l x.f0 x.f1 x.f2 x.f3 x.f4).2.1 (hardApply t v l x.f0 x.f1 x.f2 x.f3 x.f4).2.2.1
          (by rw [← h]; simp) (by simp; omega) (by simp; omega) (by simp; omega) f3
        have hO := implHardOk_ev (hardApply t v l x.f0 x.f1 x.f2 x.f3 x.f4).1 (hardApply t v l x.f0 x.f1 x.f2 x.f3 x.f4).2.1 (hardApply t v l x.f0 x.f1 x.f2 x.f3 x.f4).2.2.1 (by omega)
        rw [f3] at hO
        have hw : wrap64 ((P.length : Int) + 1) = ((P ++ [x]).length : Int) := by rw [w64 (by omega) (by omega)]; simp
        have j2 : Ev (fun k => laws_FnHardRun.j2 k (P ++ x :: r) n (P.length : Int) false T V L (hardApply t v l x.f0 x.f1 x.f2 x.f3 x.f4).1 (hardApply t v l x.f0 x.f1 x.f2 x.f3 x.f4).2.1 (hardApply t v l x.f0 x.f1 x.f2 x.f3 x.f4).2.2.1) true := by
          refine Ev.step (fun k => by simp only [laws_FnHardRun.j2, Bool.false_eq_true, ↓reduceIte]; rw [hw]) ?_
          simpa using ih
        refine Ev.step (f := fun k => laws_FnHardRun.j1 k (P ++ x :: r) n (P.length : Int) true T V L t v l) (fun k => by simp only [laws_FnHardRun.l0]; rw [if_pos (by omega), decide_eq_true (by omega)]) ?_
        refine Ev.step (fun k => by simp only [laws_FnHardRun.j1, ↓reduceIte]; rw [if_pos (by omega), if_pos (by omega), rdR_mid]) ?_
        refine Ev.bind hA ?_
        simp only [c, ↓reduceIte]
        have k0 := eq_false (show ¬ (hardApply t v l x.f0 x.f1 x.f2 x.f3 x.f4).1 < t by omega)
        have fin : Ev (fun k => (impl_HardOk.f k (hardApply t v l x.f0 x.f1 x.f2 x.f3 x.f4).1 (hardApply t v l x.f0 x.f1 x.f2 x.f3 x.f4).2.1 (hardApply t v l x.f0 x.f1 x.f2 x.f3 x.f4).2.2.1).bind fun g => laws_FnHardRun.j2 k (P ++ x :: r) n (P.length : Int) (!g) T V L (hardApply t v l x.f0 x.f1 x.f2 x.f3 x.f4).1 (hardApply t v l x.f0 x.f1 x.f2 x.f3 x.f4).2.1 (hardApply t v l x.f0 x.f1 x.f2 x.f3 x.f4).2.2.1) true := Ev.bind hO j2
        by_cases c2 : (hardApply t v l x.f0 x.f1 x.f2 x.f3 x.f4).1 = t
        · have k2 := eq_true c2
          by_cases c3 : v = 0
          · have k3 := eq_true c3
            simp only [k0, k2, k3, ↓reduceIte]; exact fin
          · have k3 := eq_false c3
            have k4 := eq_true (f2 c2 c3)
            simp only [k0, k2, k3, k4, ↓reduceIte]; exact fin
        · have k2 := eq_false c2
          simp only [k0, k2, ↓reduceIte]; exact fin
      · refine Ev.step (f := fun k => laws_FnHardRun.j1 k (P ++ x :: r) n (P.length : Int) false T V L t v l) (fun k => by simp only [laws_FnHardRun.l0]; rw [if_pos (by omega), decide_eq_false (by omega)]) ?_
        have hO := implHardOk_ev T V L (by omega)
        rw [h3] at hO
        refine Ev.step (fun k => by simp only [laws_FnHardRun.j1, Bool.false_eq_true, ↓reduceIte]; rw [if_pos (by omega)]) ?_
        exact Ev.bind hO (Ev.now _)
    · rw [if_neg c] at h
      simp only [Prod.mk.injEq] at h
      obtain ⟨rfl, rfl, rfl, rfl⟩ := h
      refine Ev.step (f := fun k => laws_FnHardRun.j1 k (P ++ x :: r) (P.length : Int) (P.length : Int) false t v l t v l) (fun k => by simp only [laws_FnHardRun.l0]; rw [if_neg (by omega)]) ?_
      refine Ev.step (fun k => by simp only [laws_FnHardRun.j1, Bool.false_eq_true, ↓reduceIte]; rw [if_neg (by omega), if_pos (by omega), if_pos (by omega), rdR_mid]) ?_
      refine Ev.bind hA ?_
      simp only [c, Bool.false_eq_true, ↓reduceIte]
      exact run_j3 t v l (by omega)
theorem FnHardRun : laws_FnHardRun.Pure := by
  intro l hm hl hw
  apply Ev.rounds
  unfold laws_FnHardRun.f laws_big.f
  simp only [Option.bind_some]
  by_cases h : (l.length : Int) > 1048576
  · simp only [h, decide_true, ↓reduceIte]; exact Ev.now _
  simp only [h, decide_false, Bool.false_eq_true, ↓reduceIte]
  obtain ⟨r, e1, hr⟩ := drawHardOf_ok l (by omega)
  refine Ev.bind e1 ?_
  refine Ev.bind (implHardOf_ev r (by omega)) ?_
  refine Ev.bind (specHardOf_ev r (by omega)) ?_
  simp only [↓reduceIte]
  by_cases c : r.length > 2000
  · have e : hardOf r = (0, 0, [], 0) := by unfold hardOf; rw [if_pos c]
    simp only [show (r.length : Int) > 2000 by omega, ↓reduceIte, e, beq_self_eq_true]
    exact Ev.now _
  · have e : hardOf r = hoG r 0 0 0 [] := by unfold hardOf; rw [if_neg c]
    simp only [show ¬ (r.length : Int) > 2000 by omega, ↓reduceIte, e]
    have := run_l (hoG r 0 0 0 []).1 (hoG r 0 0 0 []).2.1 (hoG r 0 0 0 []).2.2.2 (hoG r 0 0 0 []).2.2.1 r [] 0 0 [] rfl (by simp; omega) (by simp) (by simp) (by decide)
    simpa using this

end Go.Proofs.Ytocpomkfilpflaa.Pure
