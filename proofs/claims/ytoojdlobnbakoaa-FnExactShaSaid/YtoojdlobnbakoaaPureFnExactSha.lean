/- Sha of the program and of the reference give the same bytes for every slice of bytes, in memory of their own, and the program leaves the slice as it was; no condition. -/
import Derived.Test.YtoojdlobnbakoaaQFnExactShax5
namespace Go.Proofs.Ytoojdlobnbakoaa.Pure
open Go.RowKit Go.Proofs.Ytoojdlobnbakoaa.QFnExactSha Go.Proofs.YtoojdlobnbakoaaW.PrintWords Go.Proofs.YtoojdlobnbakoaaW.PrintLast
set_option linter.unusedVariables false
set_option linter.unusedSimpArgs false
theorem w64 {x : Int} (h0 : -9223372036854775808 ≤ x) (h1 : x ≤ 9223372036854775807) : wrap64 x = x := by
  unfold wrap64; omega
def By (l : List Int) : Prop := ∀ x ∈ l, 0 ≤ x ∧ x ≤ 255
theorem by_wf {l : List Int} (h : ∀ x ∈ l, (Lit.int .u8 x).wf = true) : By l := fun x hx => by
  have := h x hx
  simpa [Lit.wf, IntKind.min, IntKind.max, IntKind.bits, IntKind.signed] using this
theorem rd_nat (l : List Int) (i : Nat) : rd l (i : Int) = l.getD i 0 := by simp [rd]
theorem By.at_ {l : List Int} (h : By l) (i : Int) : 0 ≤ rd l i ∧ rd l i ≤ 255 := by
  unfold rd
  rw [List.getD_eq_getElem?_getD]
  rcases Nat.lt_or_ge i.toNat l.length with hi | hi
  · rw [List.getElem?_eq_getElem hi]; exact h _ (List.getElem_mem hi)
  · rw [List.getElem?_eq_none hi]; simp
theorem wraps_i64 (n : Int) (h₀ : 0 ≤ n) (h₁ : n < 2 ^ 63) : IntKind.i64.wrap n = n := by rw [IntKind.wrap_i64]; omega
theorem or_join (i : Nat) {x y : Int} (hx₀ : 0 ≤ x) (hx : x % 2 ^ i = 0) (hx₁ : x ≤ 9223372036854775807) (hy₀ : 0 ≤ y) (hy : y < 2 ^ i) (hy₁ : y ≤ 9223372036854775807) : Go.bits .or .i64 x y = x + y :=
  bits_join .i64 63 (by decide) wraps_i64 i x y hx₀ hx (by omega) hy₀ hy (by omega)

def low (x : Int) : Int := Go.bits .and .i64 x 4294967295
def trn (x n : Int) : Int := low (Go.bits .or .i64 (shr .i64 x n) (shl .i64 x (32 - n)))
theorem l2Low_eq (x : Int) : spec_l2Low.f x = some (low x) := rfl
theorem l2Turn_eq (x n : Int) (h0 : 0 ≤ n) (h1 : n ≤ 32) : spec_l2Turn.f x n = some (trn x n) := by
  unfold spec_l2Turn.f
  rw [w64 (x := 32 - n) (by omega) (by omega), if_pos h0, if_pos (by omega), l2Low_eq]
  rfl
def wd (b : List Int) (i : Nat) : Int := Go.bits .or .i64 (Go.bits .or .i64 (Go.bits .or .i64 (wrap64 ((wrap64 (rd b ((4 * i : Nat) : Int))) * 16777216)) (wrap64 ((wrap64 (rd b ((4 * i + 1 : Nat) : Int))) * 65536))) (wrap64 ((wrap64 (rd b ((4 * i + 2 : Nat) : Int))) * 256))) (wrap64 (rd b ((4 * i + 3 : Nat) : Int)))
def s0w (x : Int) : Int := Go.bits .xor .i64 (Go.bits .xor .i64 (trn x 7) (trn x 18)) (x / 8)
def s1w (y : Int) : Int := Go.bits .xor .i64 (Go.bits .xor .i64 (trn y 17) (trn y 19)) (y / 1024)
def nextw (ws : List Int) (t : Nat) : Int := low (wrap64 ((wrap64 ((wrap64 (s1w (rd ws ((t - 2 : Nat) : Int)) + rd ws ((t - 7 : Nat) : Int))) + s0w (rd ws ((t - 15 : Nat) : Int)))) + rd ws ((t - 16 : Nat) : Int)))
def expd : Nat → Nat → List Int → List Int
  | 0, _, ws => ws
  | n + 1, t, ws => expd n (t + 1) (ws ++ [nextw ws t])
def keysS : List Int := [1116352408, 1899447441, 3049323471, 3921009573, 961987163, 1508970993, 2453635748, 2870763221, 3624381080, 310598401, 607225278, 1426881987, 1925078388, 2162078206, 2614888103, 3248222580, 3835390401, 4022224774, 264347078, 604807628, 770255983, 1249150122, 1555081692, 1996064986, 2554220882, 2821834349, 2952996808, 3210313671, 3336571891, 3584528711, 113926993, 338241895, 666307205, 773529912, 1294757372, 1396182291, 1695183700, 1986661051, 2177026350, 2456956037, 2730485921, 2820302411, 3259730800, 3345764771, 3516065817, 3600352804, 4094571909, 275423344, 430227734, 506948616, 659060556, 883997877, 958139571, 1322822218, 1537002063, 1747873779, 1955562222, 2024104815, 2227730452, 2361852424, 2428436474, 2756734187, 3204031479, 3329325298]
def t1S (v : List Int) (kk ww : Int) : Int := low (wrap64 ((wrap64 ((wrap64 ((wrap64 ((rd v 7) + (Go.bits .xor .i64 (Go.bits .xor .i64 (trn (rd v 4) 6) (trn (rd v 4) 11)) (trn (rd v 4) 25)))) + (Go.bits .xor .i64 (Go.bits .and .i64 (rd v 4) (rd v 5)) (Go.bits .and .i64 (Go.bits .xor .i64 4294967295 (rd v 4)) (rd v 6))))) + kk)) + ww))
def t2S (v : List Int) : Int := low (wrap64 ((Go.bits .xor .i64 (Go.bits .xor .i64 (trn (rd v 0) 2) (trn (rd v 0) 13)) (trn (rd v 0) 22)) + (Go.bits .xor .i64 (Go.bits .xor .i64 (Go.bits .and .i64 (rd v 0) (rd v 1)) (Go.bits .and .i64 (rd v 0) (rd v 2))) (Go.bits .and .i64 (rd v 1) (rd v 2)))))
def rndS (ws : List Int) (v : List Int) (t : Nat) : List Int :=
  [low (wrap64 (t1S v (rd keysS (t : Int)) (rd ws (t : Int)) + t2S v)), rd v 0, rd v 1, rd v 2, low (wrap64 ((rd v 3) + t1S v (rd keysS (t : Int)) (rd ws (t : Int)))), rd v 4, rd v 5, rd v 6]
def rndsS (ws : List Int) : Nat → Nat → List Int → List Int
  | 0, _, v => v
  | n + 1, t, v => rndsS ws n (t + 1) (rndS ws v t)
def addS (h v : List Int) : List Int := (List.range 8).map fun (i : Nat) => low (wrap64 ((rd h (i : Int)) + (rd v (i : Int))))
def blockS (h b : List Int) : List Int := addS h (rndsS (expd 48 16 ((List.range 16).map (wd b))) 64 0 h)
theorem expd_len : ∀ (n t : Nat) (ws : List Int), (expd n t ws).length = ws.length + n
  | 0, _, ws => rfl
  | n + 1, t, ws => by rw [expd, expd_len n]; simp; omega
theorem block_l0 (h b : List Int) (hb : b.length = 64) (R : List Int) (hR : Ev (fun k => spec_l2Block.l1 k h ((List.range 16).map (wd b)) 16) R) (d : Nat) : ∀ i : Nat, i + d = 16 → Ev (fun k => spec_l2Block.l0 k h b ((List.range i).map (wd b)) (i : Int)) R := by
  induction d with
  | zero =>
    intro i hi
    obtain rfl : i = 16 := by omega
    refine Ev.step (fun k => by simp only [spec_l2Block.l0]; rw [if_neg (by omega)]) ?_
    exact hR
  | succ d ih =>
    intro i hi
    have h0 := ih (i + 1) (by omega)
    have e0 : wrap64 (4 * (i : Int)) = ((4 * i : Nat) : Int) := by rw [w64 (by omega) (by omega)]; omega
    have e1 : wrap64 (((4 * i : Nat) : Int) + 1) = ((4 * i + 1 : Nat) : Int) := by rw [w64 (by omega) (by omega)]; omega
    have e2 : wrap64 (((4 * i : Nat) : Int) + 2) = ((4 * i + 2 : Nat) : Int) := by rw [w64 (by omega) (by omega)]; omega
    have e3 : wrap64 (((4 * i : Nat) : Int) + 3) = ((4 * i + 3 : Nat) : Int) := by rw [w64 (by omega) (by omega)]; omega
    have e4 : wrap64 ((i : Int) + 1) = ((i + 1 : Nat) : Int) := by rw [w64 (by omega) (by omega)]; omega
    refine Ev.step (fun k => ?_) h0
    simp only [spec_l2Block.l0]
    rw [if_pos (by omega), e0, e1, e2, e3, e4, if_pos (by omega), if_pos (by omega), if_pos (by omega), if_pos (by omega), if_pos (by omega), if_pos (by omega), if_pos (by omega), if_pos (by omega), if_pos (by simp; omega)]
    rw [List.range_succ, List.map_append]
    rfl
theorem block_l1 (h : List Int) (hh : h.length = 8) (R : List Int) (d : Nat) : ∀ (t : Nat) (ws : List Int), t + d = 64 → 16 ≤ t → ws.length = t → Ev (fun k => spec_l2Block.l2 k h (expd d t ws) keysS h 0) R → Ev (fun k => spec_l2Block.l1 k h ws (t : Int)) R := by
  induction d with
  | zero =>
    intro t ws ht h16 hl hR
    refine Ev.step (fun k => ?_) hR
    simp only [spec_l2Block.l1]
    rw [if_neg (by omega)]
    simp only [spec_l2Keys.f, Option.bind_some, List.length_nil, List.nil_append]
    rw [if_pos (by omega)]
    rfl
  | succ d ih =>
    intro t ws ht h16 hl hR
    have h0 := ih (t + 1) (ws ++ [nextw ws t]) (by omega) (by omega) (by rw [List.length_append, hl]; rfl) hR
    clear hR ih
    have g0 : (t : Int) < 64 := by omega
    have g15 : ((t - 15 : Nat) : Int) < (ws.length : Int) := by omega
    have g2 : ((t - 2 : Nat) : Int) < (ws.length : Int) := by omega
    have g7 : ((t - 7 : Nat) : Int) < (ws.length : Int) := by omega
    have g16 : ((t - 16 : Nat) : Int) < (ws.length : Int) := by omega
    have gl : ws.length < 17592186044416 := by omega
    have e1 : wrap64 ((t : Int) - 15) = ((t - 15 : Nat) : Int) := by rw [w64 (by omega) (by omega)]; omega
    have e2 : wrap64 ((t : Int) - 2) = ((t - 2 : Nat) : Int) := by rw [w64 (by omega) (by omega)]; omega
    have e3 : wrap64 ((t : Int) - 7) = ((t - 7 : Nat) : Int) := by rw [w64 (by omega) (by omega)]; omega
    have e4 : wrap64 ((t : Int) - 16) = ((t - 16 : Nat) : Int) := by rw [w64 (by omega) (by omega)]; omega
    have e5 : wrap64 ((t : Int) + 1) = ((t + 1 : Nat) : Int) := by rw [w64 (by omega) (by omega)]; omega
    refine Ev.step (fun k => ?_) h0
    simp only [spec_l2Block.l1]
    rw [if_pos g0, e1, e2, e3, e4, e5, if_pos (Int.natCast_nonneg _), if_pos g15]
    simp only [l2Turn_eq _ 7 (by decide) (by decide), l2Turn_eq _ 18 (by decide) (by decide), l2Turn_eq _ 17 (by decide) (by decide), l2Turn_eq _ 19 (by decide) (by decide), l2Low_eq, Option.bind_some]
    rw [if_pos (Int.natCast_nonneg _), if_pos g2, if_pos (Int.natCast_nonneg _), if_pos g7, if_pos (Int.natCast_nonneg _), if_pos g16, if_pos gl]
    unfold nextw s1w s0w
    with_reducible rfl
theorem rndS_len (ws v : List Int) (t : Nat) : (rndS ws v t).length = 8 := rfl
theorem block_l2 (h ws : List Int) (hw : ws.length = 64) (R : List Int) (d : Nat) : ∀ (t : Nat) (v : List Int), t + d = 64 → v.length = 8 → Ev (fun k => spec_l2Block.l3 k h (rndsS ws d t v) [] 0) R → Ev (fun k => spec_l2Block.l2 k h ws keysS v (t : Int)) R := by
  have hk : keysS.length = 64 := rfl
  induction d with
  | zero =>
    intro t v ht hv hR
    refine Ev.step (fun k => ?_) hR
    simp only [spec_l2Block.l2]
    rw [if_neg (by omega)]
    rfl
  | succ d ih =>
    intro t v ht hv hR
    have h0 := ih (t + 1) (rndS ws v t) (by omega) (rndS_len ws v t) hR
    clear hR ih
    have g0 : (t : Int) < 64 := by omega
    have gk : (t : Int) < (keysS.length : Int) := by rw [hk]; exact g0
    have gw : (t : Int) < (ws.length : Int) := by rw [hw]; exact g0
    have g7 : (7 : Int) < (v.length : Int) := by omega
    have g6 : (6 : Int) < (v.length : Int) := by omega
    have g5 : (5 : Int) < (v.length : Int) := by omega
    have g4 : (4 : Int) < (v.length : Int) := by omega
    have g3 : (3 : Int) < (v.length : Int) := by omega
    have g2 : (2 : Int) < (v.length : Int) := by omega
    have g1 : (1 : Int) < (v.length : Int) := by omega
    have gz : (0 : Int) < (v.length : Int) := by omega
    have gt : 0 ≤ (t : Int) := Int.natCast_nonneg _
    have e5 : wrap64 ((t : Int) + 1) = ((t + 1 : Nat) : Int) := by rw [w64 (by omega) (by omega)]; omega
    refine Ev.step (fun k => ?_) h0
    simp only [spec_l2Block.l2]
    simp only [if_pos g0, if_pos gk, if_pos gw, if_pos g7, if_pos g6, if_pos g5, if_pos g4, if_pos g3, if_pos g2, if_pos g1, if_pos gz, if_pos gt, l2Turn_eq _ 6 (by decide) (by decide), l2Turn_eq _ 11 (by decide) (by decide), l2Turn_eq _ 25 (by decide) (by decide), l2Turn_eq _ 2 (by decide) (by decide), l2Turn_eq _ 13 (by decide) (by decide), l2Turn_eq _ 22 (by decide) (by decide), l2Low_eq, Option.bind_some, e5]
    unfold rndS t1S t2S
    with_reducible rfl
theorem block_l3 (h v : List Int) (hh : h.length = 8) (hv : v.length = 8) (d : Nat) : ∀ i : Nat, i + d = 8 → Ev (fun k => spec_l2Block.l3 k h v ((List.range i).map fun (i : Nat) => low (wrap64 ((rd h (i : Int)) + (rd v (i : Int))))) (i : Int)) (addS h v) := by
  induction d with
  | zero =>
    intro i hi
    obtain rfl : i = 8 := by omega
    refine Ev.step (f := fun _ => some (addS h v)) (fun k => ?_) (Ev.now _)
    simp only [spec_l2Block.l3]
    rw [if_neg (by omega)]
    rfl
  | succ d ih =>
    intro i hi
    have h0 := ih (i + 1) (by omega)
    have e4 : wrap64 ((i : Int) + 1) = ((i + 1 : Nat) : Int) := by rw [w64 (by omega) (by omega)]; omega
    refine Ev.step (fun k => ?_) h0
    simp only [spec_l2Block.l3]
    rw [if_pos (by omega), if_pos (by omega), if_pos (by omega), if_pos (by omega)]
    simp only [l2Low_eq, Option.bind_some]
    rw [if_pos (by simp; omega), e4, List.range_succ, List.map_append]
    rfl
theorem rndsS_len (ws : List Int) : ∀ (n t : Nat) (v : List Int), v.length = 8 → (rndsS ws n t v).length = 8
  | 0, _, v, h => h
  | n + 1, t, v, h => by rw [rndsS]; exact rndsS_len ws n _ _ (rndS_len ws v t)
theorem addS_len (h v : List Int) : (addS h v).length = 8 := by simp [addS]
theorem l2Block_ev (h b : List Int) (hh : h.length = 8) (hb : b.length = 64) : Ev (fun k => spec_l2Block.f k h b) (blockS h b) := by
  unfold spec_l2Block.f
  refine block_l0 h b hb _ ?_ 16 0 (by omega)
  refine block_l1 h hh _ 48 16 _ (by omega) (by omega) (by simp) ?_
  have hw : (expd 48 16 ((List.range 16).map (wd b))).length = 64 := by rw [expd_len]; simp
  refine block_l2 h _ hw _ 64 0 h (by omega) hh ?_
  exact block_l3 h _ hh (rndsS_len _ _ _ _ hh) 8 0 (by omega)
def lbS (b : List Int) (j : Nat) : Int := (shr .i64 (wrap64 (8 * (b.length : Int))) ((8 * j : Nat) : Int)) % 256
def padS (b : List Int) : List Int := b ++ [128] ++ List.replicate ((119 - b.length % 64) % 64) 0 ++ (List.range 8).reverse.map (lbS b)
def h0S : List Int := [1779033703, 3144134277, 1013904242, 2773480762, 1359893119, 2600822924, 528734635, 1541459225]
def blksS : Nat → List Int → List Int → List Int
  | 0, _, h => h
  | n + 1, m, h => blksS n (m.drop 64) (blockS h (m.take 64))
def out4 (x : Int) : List Int := [x / 16777216 % 256, x / 65536 % 256, x / 256 % 256, x % 256]
def shaS (b : List Int) : List Int := if (b.length : Int) > 4000 then [] else (List.range 8).flatMap fun (i : Nat) => out4 (rd (blksS ((padS b).length / 64) (padS b) h0S) (i : Int))
theorem padS_len (b : List Int) : (padS b).length % 64 = 0 ∧ (padS b).length ≤ b.length + 80 := by
  unfold padS
  simp only [List.length_append, List.length_replicate, List.length_map, List.length_reverse, List.length_range, List.length_cons, List.length_nil]
  omega
theorem sha_l3 (v : List Int) (hv : v.length = 8) (d : Nat) : ∀ i : Nat, i + d = 8 → Ev (fun k => spec_Sha.l3 k ((List.range i).flatMap fun (i : Nat) => out4 (rd v (i : Int))) v (i : Int)) ((List.range 8).flatMap fun (i : Nat) => out4 (rd v (i : Int))) := by
  have hlen : ∀ i : Nat, ((List.range i).flatMap fun (i : Nat) => out4 (rd v (i : Int))).length = 4 * i := by
    intro i
    induction i with
    | zero => rfl
    | succ i ih => rw [List.range_succ, List.flatMap_append, List.length_append, ih]; simp [out4]; omega
  induction d with
  | zero =>
    intro i hi
    obtain rfl : i = 8 := by omega
    refine Ev.step (f := fun _ => some _) (fun k => ?_) (Ev.now _)
    simp only [spec_Sha.l3]
    rw [if_neg (by omega)]
  | succ d ih =>
    intro i hi
    have h0 := ih (i + 1) (by omega)
    have e4 : wrap64 ((i : Int) + 1) = ((i + 1 : Nat) : Int) := by rw [w64 (by omega) (by omega)]; omega
    have hl := hlen i
    refine Ev.step (fun k => ?_) h0
    simp only [spec_Sha.l3]
    rw [if_pos (by omega), if_pos (by omega), if_pos (by omega)]
    simp only [Option.bind_some]
    rw [if_pos (by rw [hl]; simp; omega), e4, List.range_succ, List.flatMap_append]
    simp [out4]
theorem sha_l2 (out : List Int) (hout : out = []) (m : List Int) (hm : m.length ≤ 1000000) (d : Nat) : ∀ (q : Nat) (h : List Int), 64 * (q + d) = m.length → h.length = 8 → Ev (fun k => spec_Sha.l2 k out m h ((64 * q : Nat) : Int)) ((List.range 8).flatMap fun (i : Nat) => out4 (rd (blksS d (m.drop (64 * q)) h) (i : Int))) := by
  subst hout
  induction d with
  | zero =>
    intro q h hq hh
    refine Ev.step (fun k => by simp only [spec_Sha.l2]; rw [if_neg (by omega)]) ?_
    exact sha_l3 h hh 8 0 (by omega)
  | succ d ih =>
    intro q h hq hh
    have hl : ((m.drop (64 * q)).take 64).length = 64 := by rw [List.length_take, List.length_drop]; omega
    have h0 := ih (q + 1) (blockS h ((m.drop (64 * q)).take 64)) (by omega) (addS_len _ _)
    have e4 : wrap64 (((64 * q : Nat) : Int) + 64) = ((64 * (q + 1) : Nat) : Int) := by rw [w64 (by omega) (by omega)]; omega
    have es : (m.take ((64 * (q + 1) : Nat) : Int).toNat).drop (((64 * q : Nat) : Int)).toNat = (m.drop (64 * q)).take 64 := by
      rw [Int.toNat_natCast, Int.toNat_natCast, List.drop_take]
      congr 1
      omega
    have ed : blksS (d + 1) (m.drop (64 * q)) h = blksS d (m.drop (64 * (q + 1))) (blockS h ((m.drop (64 * q)).take 64)) := by
      rw [blksS, List.drop_drop]
      rfl
    rw [ed]
    refine Ev.step (fun k => by simp only [spec_Sha.l2]; rw [if_pos (by omega), if_pos (by omega), e4, if_pos (by omega), if_pos (by omega), es]) ?_
    exact Ev.bind (l2Block_ev h _ hh hl) h0
theorem sha_l1 (b out : List Int) (R : List Int) (hb : b.length ≤ 4000) (d : Nat) : ∀ (m : List Int), d ≤ 8 → m.length + d ≤ 5000 → Ev (fun k => spec_Sha.l2 k out (m ++ (List.range d).reverse.map (lbS b)) h0S 0) R → Ev (fun k => spec_Sha.l1 k b out m ((d : Int) - 1)) R := by
  induction d with
  | zero =>
    intro m hd hm hR
    refine Ev.step (fun k => ?_) hR
    simp only [spec_Sha.l1]
    rw [if_neg (by omega)]
    simp [h0S]
  | succ d ih =>
    intro m hd hm hR
    have e1 : wrap64 (8 * (((d + 1 : Nat) : Int) - 1)) = ((8 * d : Nat) : Int) := by rw [w64 (by omega) (by omega)]; omega
    have e2 : wrap64 (((d + 1 : Nat) : Int) - 1 - 1) = (d : Int) - 1 := by rw [w64 (by omega) (by omega)]; omega
    have h0 := ih (m ++ [lbS b d]) (by omega) (by simp; omega) (by
      rw [List.range_succ, List.reverse_append, List.reverse_singleton, List.singleton_append, List.map_cons] at hR
      simpa using hR)
    refine Ev.step (fun k => ?_) h0
    simp only [spec_Sha.l1]
    rw [if_pos (by omega), e1, e2, if_pos (by omega), if_pos (by omega)]
    rfl
theorem sha_l0 (b out : List Int) (R : List Int) (d : Nat) : ∀ (m : List Int), d < 64 → (m.length + d) % 64 = 56 → m.length + d ≤ 5000 → Ev (fun k => spec_Sha.l1 k b out (m ++ List.replicate d 0) 7) R → Ev (fun k => spec_Sha.l0 k b out m) R := by
  induction d with
  | zero =>
    intro m hd hm hl hR
    refine Ev.step (fun k => ?_) hR
    simp only [spec_Sha.l0]
    rw [if_pos (by omega)]
    simp
  | succ d ih =>
    intro m hd hm hl hR
    have h0 := ih (m ++ [0]) (by omega) (by simp; omega) (by simp; omega) (by rw [List.replicate_succ] at hR; simpa using hR)
    refine Ev.step (fun k => ?_) h0
    simp only [spec_Sha.l0]
    rw [if_neg (by omega), if_pos (by omega)]
theorem specSha_ev (b : List Int) (hl : b.length ≤ 140737488355328) : Ev (fun k => spec_Sha.f k b) (shaS b) := by
  unfold spec_Sha.f shaS
  simp only [Option.bind_some, List.length_nil, List.nil_append]
  by_cases h : (b.length : Int) > 4000
  · simp only [h, ↓reduceIte]; exact Ev.now _
  · simp only [h, ↓reduceIte]
    have g1 : 0 + b.length < 140737488355328 := by omega
    have g2 : b.length < 140737488355328 := by omega
    simp only [if_pos g1, if_pos g2]
    have hp := padS_len b
    refine sha_l0 b [] _ ((119 - b.length % 64) % 64) (b ++ [128]) (by omega) (by simp; omega) (by simp; omega) ?_
    refine sha_l1 b [] _ (by omega) 8 _ (by omega) (by simp; omega) ?_
    have e : b ++ [128] ++ List.replicate ((119 - b.length % 64) % 64) 0 ++ (List.range 8).reverse.map (lbS b) = padS b := rfl
    rw [e]
    have h2 := sha_l2 [] rfl (padS b) (by omega) ((padS b).length / 64) 0 h0S (by omega) rfl
    simpa using h2
theorem shaS_by (b : List Int) : By (shaS b) ∧ (shaS b).length ≤ 32 := by
  unfold shaS
  split
  · exact ⟨fun x hx => by simp at hx, by simp⟩
  · constructor
    · intro x hx
      obtain ⟨i, _, hx⟩ := List.mem_flatMap.1 hx
      unfold out4 at hx
      simp only [List.mem_cons, List.not_mem_nil, or_false] at hx
      omega
    · simp [out4, List.flatMap, List.range, List.range.loop]

theorem and_maskZ (i : Nat) (hi : i ≤ 62) (x : Int) : Go.bits .and .i64 x (2 ^ i - 1) = x % 2 ^ i := by
  have hpos : 0 < 2 ^ i := Nat.two_pow_pos i
  have hle : 2 ^ i ≤ 2 ^ 62 := Nat.pow_le_pow_right (by decide) hi
  have hc : ((2 : Int) ^ i - 1) = ((2 ^ i - 1 : Nat) : Int) := by rw [Int.natCast_sub hpos]; simp
  have hb : IntKind.i64.bits = 64 := rfl
  have hd : ((2 : Int) ^ i) ∣ ((2 : Int) ^ 64) := ⟨2 ^ (64 - i), by rw [← Int.pow_add]; congr 1; omega⟩
  have hx : (((x % (2 : Int) ^ 64).toNat : Nat) : Int) = x % (2 : Int) ^ 64 := Int.toNat_of_nonneg (Int.emod_nonneg _ (by decide))
  rw [hc]
  simp only [Go.bits, hb, BitVec.ofInt_natCast, BitVec.toNat_and, BitVec.toNat_ofNat, BitVec.toNat_ofInt]
  rw [Nat.mod_eq_of_lt (show 2 ^ i - 1 < 2 ^ 64 by omega), Nat.and_two_pow_sub_one_eq_mod]
  have e : (((x % ((2 ^ 64 : Nat) : Int)).toNat % 2 ^ i : Nat) : Int) = x % 2 ^ i := by
    rw [Int.natCast_emod]
    have : ((2 ^ 64 : Nat) : Int) = (2 : Int) ^ 64 := by simp
    rw [this, hx]
    have h2 : ((2 ^ i : Nat) : Int) = (2 : Int) ^ i := by simp
    rw [h2, Int.emod_emod_of_dvd _ hd]
  rw [e]
  have h1 := Int.emod_nonneg x (show (2 : Int) ^ i ≠ 0 by exact_mod_cast Nat.ne_of_gt hpos)
  have h2 := Int.emod_lt_of_pos x (show (0 : Int) < 2 ^ i by exact_mod_cast hpos)
  have h3 : (2 : Int) ^ i ≤ 2 ^ 62 := by exact_mod_cast hle
  exact wraps_i64 _ h1 (by omega)
theorem and255 (x : Int) : Go.bits .and .i64 x 255 = x % 256 := and_maskZ 8 (by decide) x

theorem low_mod (x : Int) : low x = x % 4294967296 := and_maskZ 32 (by decide) x
theorem rd_app (xs ys : List Int) (k : Nat) (h : k < xs.length) : rd (xs ++ ys) (k : Int) = rd xs (k : Int) := by
  simp only [rd, Int.toNat_natCast, List.getD_eq_getElem?_getD, List.getElem?_append_left h]
theorem wd_sum (b : List Int) (hb : By b) (i : Nat) : wd b i = rd b ((4 * i : Nat) : Int) * 16777216 + rd b ((4 * i + 1 : Nat) : Int) * 65536 + rd b ((4 * i + 2 : Nat) : Int) * 256 + rd b ((4 * i + 3 : Nat) : Int) := by
  have h0 := hb.at_ ((4 * i : Nat) : Int)
  have h1 := hb.at_ ((4 * i + 1 : Nat) : Int)
  have h2 := hb.at_ ((4 * i + 2 : Nat) : Int)
  have h3 := hb.at_ ((4 * i + 3 : Nat) : Int)
  unfold wd
  generalize rd b ((4 * i : Nat) : Int) = a at *
  generalize rd b ((4 * i + 1 : Nat) : Int) = c at *
  generalize rd b ((4 * i + 2 : Nat) : Int) = d at *
  generalize rd b ((4 * i + 3 : Nat) : Int) = e at *
  rw [w64 (x := a) (by omega) (by omega), w64 (x := c) (by omega) (by omega), w64 (x := d) (by omega) (by omega), w64 (x := e) (by omega) (by omega)]
  rw [w64 (x := a * 16777216) (by omega) (by omega), w64 (x := c * 65536) (by omega) (by omega), w64 (x := d * 256) (by omega) (by omega)]
  rw [or_join 24 (x := a * 16777216) (y := c * 65536) (by omega) (by omega) (by omega) (by omega) (by omega) (by omega)]
  rw [or_join 16 (x := a * 16777216 + c * 65536) (y := d * 256) (by omega) (by omega) (by omega) (by omega) (by omega) (by omega)]
  rw [or_join 8 (x := a * 16777216 + c * 65536 + d * 256) (y := e) (by omega) (by omega) (by omega) (by omega) (by omega) (by omega)]
theorem acc_step (x y : Int) (hx : 0 ≤ x) (hx1 : x ≤ 16777215) (hy : 0 ≤ y) (hy1 : y ≤ 255) : Go.bits .or .i64 (shl8 x) (wrap64 y) = x * 256 + y := by
  unfold shl8
  rw [w64 (x := x * 256) (by omega) (by omega), w64 (x := y) (by omega) (by omega), or_join 8 (x := x * 256) (y := y) (by omega) (by omega) (by omega) (by omega) (by omega) (by omega)]
theorem acc_wd (b : List Int) (hb : By b) (i : Nat) : accI b i 4 = wd b i := by
  have h0 := hb.at_ ((4 * i + 0 : Nat) : Int)
  have h1 := hb.at_ ((4 * i + 1 : Nat) : Int)
  have h2 := hb.at_ ((4 * i + 2 : Nat) : Int)
  have h3 := hb.at_ ((4 * i + 3 : Nat) : Int)
  rw [wd_sum b hb i]
  simp only [accI]
  rw [show (4 * i : Nat) = 4 * i + 0 from rfl]
  rw [show 4 * i + 0 + 1 = 4 * i + 1 from rfl, show 4 * i + 0 + 2 = 4 * i + 2 from rfl, show 4 * i + 0 + 3 = 4 * i + 3 from rfl]
  generalize rd b ((4 * i + 0 : Nat) : Int) = a at *
  generalize rd b ((4 * i + 1 : Nat) : Int) = c at *
  generalize rd b ((4 * i + 2 : Nat) : Int) = d at *
  generalize rd b ((4 * i + 3 : Nat) : Int) = e at *
  rw [acc_step 0 a (by omega) (by omega) (by omega) (by omega), acc_step _ c (by omega) (by omega) (by omega) (by omega), acc_step _ d (by omega) (by omega) (by omega) (by omega), acc_step _ e (by omega) (by omega) (by omega) (by omega)]
  omega
theorem next_eq (xs ys : List Int) (t : Nat) (ht : xs.length = t) (h16 : 16 ≤ t) : nextI (xs ++ ys) t = nextw xs t := by
  unfold nextI nextw
  rw [rd_app xs ys (t - 2) (by omega), rd_app xs ys (t - 7) (by omega), rd_app xs ys (t - 15) (by omega), rd_app xs ys (t - 16) (by omega)]
  rfl
theorem exp_eq : ∀ (n t : Nat) (xs : List Int), xs.length = t → 16 ≤ t → expI n t (xs ++ List.replicate n 0) = expd n t xs
  | 0, _, xs, _, _ => by simp [expI, expd]
  | n + 1, t, xs, ht, h16 => by
    rw [expI, expd, next_eq xs _ t ht h16, ← exp_eq n (t + 1) (xs ++ [nextw xs t]) (by simp [ht]) (by omega)]
    congr 1
    rw [List.replicate_succ, List.set_append_right _ _ (by omega), ht, Nat.sub_self, List.set_cons_zero, List.append_assoc]
    rfl
theorem words_eq (b : List Int) (hb : By b) : expI 48 16 (wordsI b 16) = expd 48 16 ((List.range 16).map (wd b)) := by
  rw [← exp_eq 48 16 _ (by simp) (by omega)]
  unfold wordsI
  congr 2
  exact List.map_congr_left fun i _ => acc_wd b hb i
theorem wrap_low (x : Int) : low (wrap64 x) = x % 4294967296 := by
  rw [low_mod]
  unfold wrap64
  omega
theorem low_two (x y : Int) : low (wrap64 (low x + low y)) = low (wrap64 (x + y)) := by
  rw [wrap_low, wrap_low, low_mod, low_mod]
  omega
theorem low_one (x y : Int) : low (wrap64 (x + low y)) = low (wrap64 (x + y)) := by
  rw [wrap_low, wrap_low, low_mod]
  omega
theorem t1_eq (v : List Int) (a b : Int) : t1S v a b = low (t1I v a b) := rfl
theorem t2_eq (v : List Int) : t2S v = low (t2I v) := rfl
theorem rnd_eq (ws v : List Int) (t : Nat) : rndI ws v t = rndS ws v t := by
  unfold rndI rndS
  rw [t1_eq, t2_eq, low_two, low_one]
  rfl
theorem rnds_eq (ws : List Int) : ∀ (n t : Nat) (v : List Int), rndsI ws n t v = rndsS ws n t v
  | 0, _, _ => rfl
  | n + 1, t, v => by rw [rndsI, rndsS, rnd_eq, rnds_eq ws n]
theorem add_eq (h v : List Int) : addI h v 8 = addS h v := by
  unfold addI addS
  refine List.map_congr_left fun i hi => ?_
  rw [if_pos (List.mem_range.1 hi)]
  rfl
theorem block_eq (h l : List Int) (hb : By l) : blockI h l = blockS h l := by
  unfold blockI blockS
  rw [words_eq l hb, rnds_eq, add_eq]
theorem by_take {l : List Int} (h : By l) (n : Nat) : By (l.take n) := fun x hx => h x (List.mem_of_mem_take hx)
theorem by_drop {l : List Int} (h : By l) (n : Nat) : By (l.drop n) := fun x hx => h x (List.mem_of_mem_drop hx)
theorem blks_eq : ∀ (n : Nat) (m h : List Int), By m → blksI n m h = blksS n m h
  | 0, _, _, _ => rfl
  | n + 1, m, h, hb => by rw [blksI, blksS, block_eq _ _ (by_take hb 64), blks_eq n _ _ (by_drop hb 64)]
theorem lb_eq (l : List Int) (j : Nat) : lbI l j = lbS l j := by
  unfold lbI lbS
  rw [and255]
  exact Int.emod_emod_of_dvd _ (by decide)
theorem txt_eq (l : List Int) : txtI l = padS l := by
  unfold txtI padS padK
  rw [show (120 - (l.length + 1) % 64) % 64 = (119 - l.length % 64) % 64 by omega]
  congr 1
  exact List.map_congr_left fun i _ => lb_eq l i
theorem padS_by (l : List Int) (hb : By l) : By (padS l) := by
  intro x hx
  unfold padS at hx
  simp only [List.mem_append, List.mem_map, List.mem_replicate, List.mem_cons, List.not_mem_nil, or_false] at hx
  rcases hx with ((hx | hx) | hx) | ⟨j, _, hx⟩
  · exact hb x hx
  · omega
  · omega
  · unfold lbS at hx
    omega
theorem out_eq (x : Int) : outI x = out4 x := by
  unfold outI out4
  rw [and255, and255, and255]
  simp only [Int.emod_emod_of_dvd _ (show (256 : Int) ∣ 256 by decide)]
theorem implSha_eq (l : List Int) (hb : By l) : impl_Sha.f l = some (shaS l) := by
  unfold impl_Sha.f shaS
  by_cases h : 4000 < l.length
  · rw [if_pos h, if_pos (show (l.length : Int) > 4000 by omega)]
  · rw [if_neg h, if_neg (show ¬ (l.length : Int) > 4000 by omega)]
    congr 1
    unfold shaI
    rw [txt_eq, blks_eq _ _ _ (padS_by l hb)]
    rw [List.flatMap_def]
    congr 1
    exact List.map_congr_left fun i _ => out_eq _

theorem set_fill (l : List Int) (i d : Nat) (hi : i + (d + 1) = l.length) : (l.take i ++ List.replicate (d + 1) 0).set i (l.getD i 0) = l.take (i + 1) ++ List.replicate d 0 := by
  have hlt : i < l.length := by omega
  have h1 : (l.take i).length = i := by rw [List.length_take]; omega
  rw [List.set_append_right _ _ (by omega), h1, Nat.sub_self, List.replicate_succ, List.set_cons_zero, List.take_succ_eq_append_getElem hlt, List.append_assoc]
  simp [List.getD_eq_getElem?_getD, hlt]
theorem toByteS_l (l : List Int) (hl : l.length ≤ 140737488355328) (d : Nat) : ∀ i : Nat, i + d = l.length → Ev (fun k => laws_toByteS.l0 k l (l.take i ++ List.replicate d 0) (i : Int)) l := by
  induction d with
  | zero =>
    intro i hi
    refine Ev.step (f := fun _ => some l) (fun k => ?_) (Ev.now _)
    simp only [laws_toByteS.l0]
    rw [if_neg (by omega)]
    have : l.take i = l := List.take_of_length_le (by omega)
    simp [this]
  | succ d ih =>
    intro i hi
    refine Ev.step (f := fun k => laws_toByteS.l0 k l (l.take (i + 1) ++ List.replicate d 0) ((i + 1 : Nat) : Int)) (fun k => ?_) (ih (i + 1) (by omega))
    simp only [laws_toByteS.l0]
    rw [if_pos (by omega), if_pos (by omega), if_pos (by simp; omega), w64 (by omega) (by omega), rd_nat, Int.toNat_natCast, set_fill l i d hi]
    rfl
theorem toByteS_ev (l : List Int) (hl : l.length ≤ 140737488355328) : Ev (fun k => laws_toByteS.f k l) l := by
  refine Ev.congr (fun k => ?_) (toByteS_l l hl l.length 0 (by omega))
  unfold laws_toByteS.f
  rw [if_pos (by omega), if_pos (by simp; omega)]
  simp

theorem eqByteS_l (l : List Int) (hl : l.length ≤ 140737488355328) (d : Nat) : ∀ i : Nat, i + d = l.length → Ev (fun k => laws_eqByteS.l0 k l l (i : Int)) true := by
  induction d with
  | zero =>
    intro i hi
    refine Ev.step (f := fun _ => some true) (fun k => ?_) (Ev.now _)
    simp only [laws_eqByteS.l0]
    rw [if_neg (by omega)]
  | succ d ih =>
    intro i hi
    refine Ev.step (f := fun k => laws_eqByteS.l0 k l l ((i + 1 : Nat) : Int)) (fun k => ?_) (ih (i + 1) (by omega))
    simp only [laws_eqByteS.l0]
    rw [if_pos (by omega), if_pos (by omega), if_pos (by omega), if_pos trivial, w64 (by omega) (by omega)]
    rfl
theorem eqByteS_ev (l : List Int) (hl : l.length ≤ 140737488355328) : Ev (fun k => laws_eqByteS.f k l l) true := by
  refine Ev.congr (fun k => ?_) (eqByteS_l l hl l.length 0 (by omega))
  unfold laws_eqByteS.f
  rw [if_pos rfl]; rfl

def marks : Nat → Int → List Int
  | 0, _ => []
  | n + 1, q => (q % 256) :: marks n (q + 1)
theorem marks_length : ∀ (n : Nat) (q : Int), (marks n q).length = n
  | 0, _ => rfl
  | n + 1, q => by rw [marks, List.length_cons, marks_length n]
theorem mark_l (rest : List Int) : ∀ (P : List Int) (q : Int), P.length + rest.length ≤ 140737488355328 → 0 ≤ q → q + rest.length ≤ 281474976710656 →
    Ev (fun k => laws_markByteS.l0 k (P ++ rest) q (P.length : Int)) (q + rest.length, P ++ marks rest.length q) := by
  induction rest with
  | nil =>
    intro P q hl h0 h1
    refine Ev.step (f := fun _ => some (q, P)) (fun k => ?_) ?_
    · simp only [laws_markByteS.l0]
      rw [if_neg (by simp)]; simp
    · simp [marks]; exact Ev.now _
  | cons a rest ih =>
    intro P q hl h0 h1
    simp only [List.length_cons] at hl h1
    have h := ih (P ++ [q % 256]) (q + 1) (by simp; omega) (by omega) (by omega)
    refine Ev.step (f := fun k => laws_markByteS.l0 k ((P ++ [q % 256]) ++ rest) (q + 1) ((P ++ [q % 256]).length : Int)) (fun k => ?_) ?_
    · simp only [laws_markByteS.l0]
      rw [if_pos (by simp; omega), if_pos (by omega), w64 (by omega) (by omega), w64 (by omega) (by omega), Int.toNat_natCast, List.set_append_right _ _ (Nat.le_refl _), Nat.sub_self, List.set_cons_zero]
      simp
    · have e : (q + 1 + (rest.length : Int), P ++ [q % 256] ++ marks rest.length (q + 1)) = (q + ((a :: rest).length : Int), P ++ marks (a :: rest).length q) := by
        simp [marks]; omega
      rw [← e]; exact h
theorem held_l (n : Nat) : ∀ (P : List Int) (q : Int), P.length + n ≤ 140737488355328 → 0 ≤ q → q + n ≤ 281474976710656 →
    Ev (fun k => laws_heldByteS.l0 k (P ++ marks n q) q (P.length : Int)) (q + n) := by
  induction n with
  | zero =>
    intro P q hl h0 h1
    refine Ev.step (f := fun _ => some q) (fun k => ?_) ?_
    · simp only [laws_heldByteS.l0]
      rw [if_neg (by simp [marks])]
    · simp; exact Ev.now _
  | succ n ih =>
    intro P q hl h0 h1
    have h := ih (P ++ [q % 256]) (q + 1) (by simp; omega) (by omega) (by omega)
    have e : P ++ marks (n + 1) q = P ++ [q % 256] ++ marks n (q + 1) := by simp [marks]
    have el : (P ++ marks (n + 1) q).length = P.length + (n + 1) := by rw [List.length_append, marks_length]
    refine Ev.step (f := fun k => laws_heldByteS.l0 k ((P ++ [q % 256]) ++ marks n (q + 1)) (q + 1) ((P ++ [q % 256]).length : Int)) (fun k => ?_) ?_
    · simp only [laws_heldByteS.l0]
      rw [if_pos (by rw [el]; omega), if_pos (by omega), if_pos (by rw [rd_nat]; simp [marks]), w64 (by omega) (by omega), w64 (by omega) (by omega), e]
      simp
    · have e2 : (q + 1 + (n : Int)) = q + ((n + 1 : Nat) : Int) := by omega
      rw [← e2]; exact h
theorem mark_ev (l : List Int) (q : Int) (hl : l.length ≤ 140737488355328) (h0 : 0 ≤ q) (h1 : q ≤ 140737488355328) : Ev (fun k => laws_markByteS.f k l q) (q + l.length, marks l.length q) := by
  have h := mark_l l [] q (by simpa using hl) h0 (by omega)
  simpa [laws_markByteS.f] using h
theorem held_ev (n : Nat) (q : Int) (hl : n ≤ 140737488355328) (h0 : 0 ≤ q) (h1 : q ≤ 140737488355328) : Ev (fun k => laws_heldByteS.f k (marks n q) q) (q + n) := by
  have h := held_l n [] q (by simpa using hl) h0 (by omega)
  simpa [laws_heldByteS.f] using h

theorem FnExactSha : laws_FnExactSha.Pure := by
  intro l hm hl hw
  have hb := by_wf hw
  apply Ev.rounds
  unfold laws_FnExactSha.f
  by_cases h : (l.length : Int) > 1048576
  · simp only [h, ↓reduceIte]; exact Ev.now _
  · simp only [h, ↓reduceIte]
    have hs := specSha_ev l (by omega)
    have hi := implSha_eq l hb
    have hq := (shaS_by l).2
    generalize shaS l = r at *
    refine Ev.bind (toByteS_ev l (by omega)) ?_
    refine Ev.bind hs ?_
    refine Ev.bind (toByteS_ev l (by omega)) ?_
    simp only [hi, Option.bind_some]
    refine Ev.bind (eqByteS_ev r (by omega)) ?_
    simp only [↓reduceIte]
    refine Ev.bind (toByteS_ev l (by omega)) ?_
    refine Ev.bind (eqByteS_ev l (by omega)) ?_
    simp only [↓reduceIte]
    refine Ev.bind (mark_ev l 1 (by omega) (by omega) (by omega)) ?_
    simp only [show ¬ (1 + (l.length : Int) < 0) by omega, ↓reduceIte]
    refine Ev.bind (eqByteS_ev r (by omega)) ?_
    refine Ev.step (fun k => by simp only [laws_FnExactSha.j0]; rfl) ?_
    simp only [Bool.not_true, Bool.false_eq_true, ↓reduceIte]
    refine Ev.bind (mark_ev r 1 (by omega) (by omega) (by omega)) ?_
    refine Ev.bind (held_ev r.length 1 (by omega) (by omega) (by omega)) ?_
    simp only [show ¬ (1 + (r.length : Int) < 0) by omega, ↓reduceIte]
    refine Ev.bind (toByteS_ev l (by omega)) ?_
    simp only [hi, Option.bind_some]
    refine Ev.bind (eqByteS_ev r (by omega)) ?_
    simp only [↓reduceIte]
    refine Ev.bind (held_ev r.length 1 (by omega) (by omega) (by omega)) ?_
    simp only [show ¬ (1 + (r.length : Int) < 0) by omega, ↓reduceIte]
    exact Ev.now _

end Go.Proofs.Ytoojdlobnbakoaa.Pure
