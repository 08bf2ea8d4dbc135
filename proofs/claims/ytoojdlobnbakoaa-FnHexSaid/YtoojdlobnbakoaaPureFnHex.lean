/- for every drawn slice of bytes HexOf, FromHex, Sha and ShaText of the program keep the laws of hexadecimal texts: what was written is read back, a digest has 32 bytes and 64 digits, what is read with success is written back the same; no condition. -/
import Derived.Test.YtoojdlobnbakoaaQFnHexx5
namespace Go.Proofs.Ytoojdlobnbakoaa.Pure
open Go.RowKit Go.Proofs.Ytoojdlobnbakoaa.QFnHex Go.Proofs.YtoojdlobnbakoaaW.PrintWords Go.Proofs.YtoojdlobnbakoaaW.PrintLast
set_option linter.unusedVariables false
set_option linter.unusedSimpArgs false
theorem w64 {x : Int} (h0 : -9223372036854775808 ≤ x) (h1 : x ≤ 9223372036854775807) : wrap64 x = x := by
  unfold wrap64; omega
def By (l : List Int) : Prop := ∀ x ∈ l, 0 ≤ x ∧ x ≤ 255
theorem rd_nat (l : List Int) (i : Nat) : rd l (i : Int) = l.getD i 0 := by simp [rd]
theorem By.at_ {l : List Int} (h : By l) (i : Int) : 0 ≤ rd l i ∧ rd l i ≤ 255 := by
  unfold rd
  rw [List.getD_eq_getElem?_getD]
  rcases Nat.lt_or_ge i.toNat l.length with hi | hi
  · rw [List.getElem?_eq_getElem hi]; exact h _ (List.getElem_mem hi)
  · rw [List.getElem?_eq_none hi]; simp
theorem wraps_i64 (n : Int) (h₀ : 0 ≤ n) (h₁ : n < 2 ^ 63) : IntKind.i64.wrap n = n := by rw [IntKind.wrap_i64]; omega
theorem and_mask (i : Nat) (hi : i ≤ 63) {x : Int} (h₀ : 0 ≤ x) (h₁ : x ≤ 9223372036854775807) : Go.bits .and .i64 x (2 ^ i - 1) = x % 2 ^ i :=
  bits_mask .i64 63 (by decide) wraps_i64 i hi x h₀ (by omega)
theorem or_join (i : Nat) {x y : Int} (hx₀ : 0 ≤ x) (hx : x % 2 ^ i = 0) (hx₁ : x ≤ 9223372036854775807) (hy₀ : 0 ≤ y) (hy : y < 2 ^ i) (hy₁ : y ≤ 9223372036854775807) : Go.bits .or .i64 x y = x + y :=
  bits_join .i64 63 (by decide) wraps_i64 i x y hx₀ hx (by omega) hy₀ hy (by omega)

def low (x : Int) : Int := Go.bits .and .i64 x 4294967295
def trn (x n : Int) : Int := low (Go.bits .or .i64 (shr .i64 x n) (shl .i64 x (32 - n)))
def wd (b : List Int) (i : Nat) : Int := Go.bits .or .i64 (Go.bits .or .i64 (Go.bits .or .i64 (wrap64 ((wrap64 (rd b ((4 * i : Nat) : Int))) * 16777216)) (wrap64 ((wrap64 (rd b ((4 * i + 1 : Nat) : Int))) * 65536))) (wrap64 ((wrap64 (rd b ((4 * i + 2 : Nat) : Int))) * 256))) (wrap64 (rd b ((4 * i + 3 : Nat) : Int)))
def s0w (x : Int) : Int := Go.bits .xor .i64 (Go.bits .xor .i64 (trn x 7) (trn x 18)) (x / 8)
def s1w (y : Int) : Int := Go.bits .xor .i64 (Go.bits .xor .i64 (trn y 17) (trn y 19)) (y / 1024)
def nextw (ws : List Int) (t : Nat) : Int := low (wrap64 ((wrap64 ((wrap64 (s1w (rd ws ((t - 2 : Nat) : Int)) + rd ws ((t - 7 : Nat) : Int))) + s0w (rd ws ((t - 15 : Nat) : Int)))) + rd ws ((t - 16 : Nat) : Int)))
def expd : Nat → Nat → List Int → List Int
  | 0, _, ws => ws
  | n + 1, t, ws => expd n (t + 1) (ws ++ [nextw ws t])
def keysS : List Int := [1116352408, 1899447441, 3049323471, 3921009573, 961987163, 1508970993, 2453635748, 2870763221, 3624381080, 310598401, 607225278, 1426881987, 1925078388, 2162078206, 2614888103, 3248222580, 3835390401, 4022224774, 264347078, 604807628, 770255983, 1249150122, 1555081692, 1996064986, 2554220882, 2821834349, 2952996808, 3210313671, 3336571891, 3584528711, 113926993, 338241895, 666307205, 773529912, 1294757372, 1396182291, 1695183700, 1986661051, 2177026350, 2456956037, 2730485921, 2820302411, 3259730800, 3345764771, 3516065817, 3600352804, 4094571909, 275423344, 430227734, 506948616, 659060556, 883997877, 958139571, 1322822218, 1537002063, 1747873779, 1955562222, 2024104815, 2227730452, 2361852424, 2428436474, 2756734187, 3204031479, 3329325298]
def t1S (v : List Int) (kk ww : Int) : Int := low (wrap64 ((wrap64 ((wrap64 ((wrap64 ((rd v 7) + (Go.bits .xor .i64 (Go.bits .xor .i64 (trn (rd v 4) 6) (trn (rd v 4) 11)) (trn (rd v 4) 25)))) + (Go.bits .xor .i64 (Go.bits .and .i64 (rd v 4) (rd v 5)) (Go.bits .and .i64 (Go.bits .xor .i64 4294967295 (rd v 4)) (rd v 6))))) + kk)) + ww))
def t2S (v : List Int) : Int := low (wrap64 ((Go.bits .xor .i64 (Go.bits .xor .i64 (trn (rd v 0) 2) (trn (rd v 0) 13)) (trn (rd v 0) 22)) + (Go.bits .xor .i64 (Go.bits .xor .i64 (Go.bits .and .i64 (rd v 0) (rd v 1)) (Go.bits .and .i64 (rd v 0) (rd v 2))) (Go.bits .and .i64 (rd v 1) (rd v 2)))))
def rndS (ws : List Int) (v : List Int) (t : Nat) : List Int :=
  [low (wrap64 (t1S v (rd keysS (t : Int)) (rd ws (t : Int)) + t2S v)), rd v 0, rd v 1, rd v 2, low (wrap64 ((rd v 3) + t1S v (rd keysS (t : Int)) (rd ws (t : Int)))), rd v 4, rd v 5, rd v 6]
def rndsS (ws : List Int) : Nat → Nat → List Int → List Int
  | 0, _, v => v
  | n + 1, t, v => rndsS ws n (t + 1) (rndS ws v t)
def addS (h v : List Int) : List Int := (List.range 8).map fun (i : Nat) => low (wrap64 ((rd h (i : Int)) + (rd v (i : Int))))
def blockS (h b : List Int) : List Int := addS h (rndsS (expd 48 16 ((List.range 16).map (wd b))) 64 0 h)
def lbS (b : List Int) (j : Nat) : Int := (shr .i64 (wrap64 (8 * (b.length : Int))) ((8 * j : Nat) : Int)) % 256
def padS (b : List Int) : List Int := b ++ [128] ++ List.replicate ((119 - b.length % 64) % 64) 0 ++ (List.range 8).reverse.map (lbS b)
def h0S : List Int := [1779033703, 3144134277, 1013904242, 2773480762, 1359893119, 2600822924, 528734635, 1541459225]
def blksS : Nat → List Int → List Int → List Int
  | 0, _, h => h
  | n + 1, m, h => blksS n (m.drop 64) (blockS h (m.take 64))
def out4 (x : Int) : List Int := [x / 16777216 % 256, x / 65536 % 256, x / 256 % 256, x % 256]
def shaS (b : List Int) : List Int := if (b.length : Int) > 4000 then [] else (List.range 8).flatMap fun (i : Nat) => out4 (rd (blksS ((padS b).length / 64) (padS b) h0S) (i : Int))
theorem shaS_by (b : List Int) : By (shaS b) ∧ (shaS b).length ≤ 32 := by
  unfold shaS
  split
  · exact ⟨fun x hx => by simp at hx, by simp⟩
  · constructor
    · intro x hx
      obtain ⟨i, _, hx⟩ := List.mem_flatMap.1 hx
      unfold out4 at hx
      simp only [List.mem_cons, List.not_mem_nil, or_false] at hx
      omega
    · simp [out4, List.flatMap, List.range, List.range.loop]

theorem and_maskZ (i : Nat) (hi : i ≤ 62) (x : Int) : Go.bits .and .i64 x (2 ^ i - 1) = x % 2 ^ i := by
  have hpos : 0 < 2 ^ i := Nat.two_pow_pos i
  have hle : 2 ^ i ≤ 2 ^ 62 := Nat.pow_le_pow_right (by decide) hi
  have hc : ((2 : Int) ^ i - 1) = ((2 ^ i - 1 : Nat) : Int) := by rw [Int.natCast_sub hpos]; simp
  have hb : IntKind.i64.bits = 64 := rfl
  have hd : ((2 : Int) ^ i) ∣ ((2 : Int) ^ 64) := ⟨2 ^ (64 - i), by rw [← Int.pow_add]; congr 1; omega⟩
  have hx : (((x % (2 : Int) ^ 64).toNat : Nat) : Int) = x % (2 : Int) ^ 64 := Int.toNat_of_nonneg (Int.emod_nonneg _ (by decide))
  rw [hc]
  simp only [Go.bits, hb, BitVec.ofInt_natCast, BitVec.toNat_and, BitVec.toNat_ofNat, BitVec.toNat_ofInt]
  rw [Nat.mod_eq_of_lt (show 2 ^ i - 1 < 2 ^ 64 by omega), Nat.and_two_pow_sub_one_eq_mod]
  have e : (((x % ((2 ^ 64 : Nat) : Int)).toNat % 2 ^ i : Nat) : Int) = x % 2 ^ i := by
    rw [Int.natCast_emod]
    have : ((2 ^ 64 : Nat) : Int) = (2 : Int) ^ 64 := by simp
    rw [this, hx]
    have h2 : ((2 ^ i : Nat) : Int) = (2 : Int) ^ i := by simp
    rw [h2, Int.emod_emod_of_dvd _ hd]
  rw [e]
  have h1 := Int.emod_nonneg x (show (2 : Int) ^ i ≠ 0 by exact_mod_cast Nat.ne_of_gt hpos)
  have h2 := Int.emod_lt_of_pos x (show (0 : Int) < 2 ^ i by exact_mod_cast hpos)
  have h3 : (2 : Int) ^ i ≤ 2 ^ 62 := by exact_mod_cast hle
  exact wraps_i64 _ h1 (by omega)
theorem and255 (x : Int) : Go.bits .and .i64 x 255 = x % 256 := and_maskZ 8 (by decide) x

theorem low_mod (x : Int) : low x = x % 4294967296 := and_maskZ 32 (by decide) x
theorem rd_app (xs ys : List Int) (k : Nat) (h : k < xs.length) : rd (xs ++ ys) (k : Int) = rd xs (k : Int) := by
  simp only [rd, Int.toNat_natCast, List.getD_eq_getElem?_getD, List.getElem?_append_left h]
theorem wd_sum (b : List Int) (hb : By b) (i : Nat) : wd b i = rd b ((4 * i : Nat) : Int) * 16777216 + rd b ((4 * i + 1 : Nat) : Int) * 65536 + rd b ((4 * i + 2 : Nat) : Int) * 256 + rd b ((4 * i + 3 : Nat) : Int) := by
  have h0 := hb.at_ ((4 * i : Nat) : Int)
  have h1 := hb.at_ ((4 * i + 1 : Nat) : Int)
  have h2 := hb.at_ ((4 * i + 2 : Nat) : Int)
  have h3 := hb.at_ ((4 * i + 3 : Nat) : Int)
  unfold wd
  generalize rd b ((4 * i : Nat) : Int) = a at *
  generalize rd b ((4 * i + 1 : Nat) : Int) = c at *
  generalize rd b ((4 * i + 2 : Nat) : Int) = d at *
  generalize rd b ((4 * i + 3 : Nat) : Int) = e at *
  rw [w64 (x := a) (by omega) (by omega), w64 (x := c) (by omega) (by omega), w64 (x := d) (by omega) (by omega), w64 (x := e) (by omega) (by omega)]
  rw [w64 (x := a * 16777216) (by omega) (by omega), w64 (x := c * 65536) (by omega) (by omega), w64 (x := d * 256) (by omega) (by omega)]
  rw [or_join 24 (x := a * 16777216) (y := c * 65536) (by omega) (by omega) (by omega) (by omega) (by omega) (by omega)]
  rw [or_join 16 (x := a * 16777216 + c * 65536) (y := d * 256) (by omega) (by omega) (by omega) (by omega) (by omega) (by omega)]
  rw [or_join 8 (x := a * 16777216 + c * 65536 + d * 256) (y := e) (by omega) (by omega) (by omega) (by omega) (by omega) (by omega)]
theorem acc_step (x y : Int) (hx : 0 ≤ x) (hx1 : x ≤ 16777215) (hy : 0 ≤ y) (hy1 : y ≤ 255) : Go.bits .or .i64 (shl8 x) (wrap64 y) = x * 256 + y := by
  unfold shl8
  rw [w64 (x := x * 256) (by omega) (by omega), w64 (x := y) (by omega) (by omega), or_join 8 (x := x * 256) (y := y) (by omega) (by omega) (by omega) (by omega) (by omega) (by omega)]
theorem acc_wd (b : List Int) (hb : By b) (i : Nat) : accI b i 4 = wd b i := by
  have h0 := hb.at_ ((4 * i + 0 : Nat) : Int)
  have h1 := hb.at_ ((4 * i + 1 : Nat) : Int)
  have h2 := hb.at_ ((4 * i + 2 : Nat) : Int)
  have h3 := hb.at_ ((4 * i + 3 : Nat) : Int)
  rw [wd_sum b hb i]
  simp only [accI]
  rw [show (4 * i : Nat) = 4 * i + 0 from rfl]
  rw [show 4 * i + 0 + 1 = 4 * i + 1 from rfl, show 4 * i + 0 + 2 = 4 * i + 2 from rfl, show 4 * i + 0 + 3 = 4 * i + 3 from rfl]
  generalize rd b ((4 * i + 0 : Nat) : Int) = a at *
  generalize rd b ((4 * i + 1 : Nat) : Int) = c at *
  generalize rd b ((4 * i + 2 : Nat) : Int) = d at *
  generalize rd b ((4 * i + 3 : Nat) : Int) = e at *
  rw [acc_step 0 a (by omega) (by omega) (by omega) (by omega), acc_step _ c (by omega) (by omega) (by omega) (by omega), acc_step _ d (by omega) (by omega) (by omega) (by omega), acc_step _ e (by omega) (by omega) (by omega) (by omega)]
  omega
theorem next_eq (xs ys : List Int) (t : Nat) (ht : xs.length = t) (h16 : 16 ≤ t) : nextI (xs ++ ys) t = nextw xs t := by
  unfold nextI nextw
  rw [rd_app xs ys (t - 2) (by omega), rd_app xs ys (t - 7) (by omega), rd_app xs ys (t - 15) (by omega), rd_app xs ys (t - 16) (by omega)]
  rfl
theorem exp_eq : ∀ (n t : Nat) (xs : List Int), xs.length = t → 16 ≤ t → expI n t (xs ++ List.replicate n 0) = expd n t xs
  | 0, _, xs, _, _ => by simp [expI, expd]
  | n + 1, t, xs, ht, h16 => by
    rw [expI, expd, next_eq xs _ t ht h16, ← exp_eq n (t + 1) (xs ++ [nextw xs t]) (by simp [ht]) (by omega)]
    congr 1
    rw [List.replicate_succ, List.set_append_right _ _ (by omega), ht, Nat.sub_self, List.set_cons_zero, List.append_assoc]
    rfl
theorem words_eq (b : List Int) (hb : By b) : expI 48 16 (wordsI b 16) = expd 48 16 ((List.range 16).map (wd b)) := by
  rw [← exp_eq 48 16 _ (by simp) (by omega)]
  unfold wordsI
  congr 2
  exact List.map_congr_left fun i _ => acc_wd b hb i
theorem wrap_low (x : Int) : low (wrap64 x) = x % 4294967296 := by
  rw [low_mod]
  unfold wrap64
  omega
theorem low_two (x y : Int) : low (wrap64 (low x + low y)) = low (wrap64 (x + y)) := by
  rw [wrap_low, wrap_low, low_mod, low_mod]
  omega
theorem low_one (x y : Int) : low (wrap64 (x + low y)) = low (wrap64 (x + y)) := by
  rw [wrap_low, wrap_low, low_mod]
  omega
theorem t1_eq (v : List Int) (a b : Int) : t1S v a b = low (t1I v a b) := rfl
theorem t2_eq (v : List Int) : t2S v = low (t2I v) := rfl
theorem rnd_eq (ws v : List Int) (t : Nat) : rndI ws v t = rndS ws v t := by
  unfold rndI rndS
  rw [t1_eq, t2_eq, low_two, low_one]
  rfl
theorem rnds_eq (ws : List Int) : ∀ (n t : Nat) (v : List Int), rndsI ws n t v = rndsS ws n t v
  | 0, _, _ => rfl
  | n + 1, t, v => by rw [rndsI, rndsS, rnd_eq, rnds_eq ws n]
theorem add_eq (h v : List Int) : addI h v 8 = addS h v := by
  unfold addI addS
  refine List.map_congr_left fun i hi => ?_
  rw [if_pos (List.mem_range.1 hi)]
  rfl
theorem block_eq (h l : List Int) (hb : By l) : blockI h l = blockS h l := by
  unfold blockI blockS
  rw [words_eq l hb, rnds_eq, add_eq]
theorem by_take {l : List Int} (h : By l) (n : Nat) : By (l.take n) := fun x hx => h x (List.mem_of_mem_take hx)
theorem by_drop {l : List Int} (h : By l) (n : Nat) : By (l.drop n) := fun x hx => h x (List.mem_of_mem_drop hx)
theorem blks_eq : ∀ (n : Nat) (m h : List Int), By m → blksI n m h = blksS n m h
  | 0, _, _, _ => rfl
  | n + 1, m, h, hb => by rw [blksI, blksS, block_eq _ _ (by_take hb 64), blks_eq n _ _ (by_drop hb 64)]
theorem lb_eq (l : List Int) (j : Nat) : lbI l j = lbS l j := by
  unfold lbI lbS
  rw [and255]
  exact Int.emod_emod_of_dvd _ (by decide)
theorem txt_eq (l : List Int) : txtI l = padS l := by
  unfold txtI padS padK
  rw [show (120 - (l.length + 1) % 64) % 64 = (119 - l.length % 64) % 64 by omega]
  congr 1
  exact List.map_congr_left fun i _ => lb_eq l i
theorem padS_by (l : List Int) (hb : By l) : By (padS l) := by
  intro x hx
  unfold padS at hx
  simp only [List.mem_append, List.mem_map, List.mem_replicate, List.mem_cons, List.not_mem_nil, or_false] at hx
  rcases hx with ((hx | hx) | hx) | ⟨j, _, hx⟩
  · exact hb x hx
  · omega
  · omega
  · unfold lbS at hx
    omega
theorem out_eq (x : Int) : outI x = out4 x := by
  unfold outI out4
  rw [and255, and255, and255]
  simp only [Int.emod_emod_of_dvd _ (show (256 : Int) ∣ 256 by decide)]
theorem implSha_eq (l : List Int) (hb : By l) : impl_Sha.f l = some (shaS l) := by
  unfold impl_Sha.f shaS
  by_cases h : 4000 < l.length
  · rw [if_pos h, if_pos (show (l.length : Int) > 4000 by omega)]
  · rw [if_neg h, if_neg (show ¬ (l.length : Int) > 4000 by omega)]
    congr 1
    unfold shaI
    rw [txt_eq, blks_eq _ _ _ (padS_by l hb)]
    rw [List.flatMap_def]
    congr 1
    exact List.map_congr_left fun i _ => out_eq _

def hexd (n : Int) : Int := bt (⟨#[48, 49, 50, 51, 52, 53, 54, 55, 56, 57, 97, 98, 99, 100, 101, 102]⟩ : ByteArray) n
def hexs : List Int → List Int
  | [] => []
  | c :: t => hexd (c / 16) :: hexd (c % 16) :: hexs t
theorem hexs_length : ∀ l : List Int, (hexs l).length = 2 * l.length
  | [] => rfl
  | c :: t => by simp only [hexs, List.length_cons, hexs_length t]; omega
theorem rd_midh (P : List Int) (c : Int) (t : List Int) : rd (P ++ c :: t) (P.length : Int) = c := by rw [rd_nat]; simp

theorem l2Digit_eq {a : Int} (h0 : 0 ≤ a) (h1 : a ≤ 9223372036854775807) : spec_l2Digit.f a = some (hexd (a % 16)) := by
  unfold spec_l2Digit.f hexd
  have e : Go.bits .and .i64 a 15 = a % 16 := and_mask 4 (by decide) h0 h1
  rw [e, if_pos (by omega), if_pos (by omega)]

theorem specHexOf_l (rest : List Int) : ∀ (P acc : List Int), By rest → P.length + rest.length ≤ 140737488355328 → acc.length + 2 * rest.length ≤ 140737488355000 → Ev (fun k => spec_HexOf.l0 k (P ++ rest) acc (P.length : Int)) (strOfNums (acc ++ hexs rest)) := by
  induction rest with
  | nil =>
    intro P acc hb hl hl2
    refine Ev.step (f := fun _ => some (strOfNums (acc ++ hexs []))) (fun k => ?_) (Ev.now _)
    simp only [spec_HexOf.l0]
    rw [if_neg (by simp)]; simp [hexs]
  | cons c t ih =>
    intro P acc hb hl hl2
    have hc := hb c (by simp)
    simp only [List.length_cons] at hl hl2
    have h := ih (P ++ [c]) (acc ++ [hexd (c / 16), hexd (c % 16)]) (fun z hz => hb z (by simp [hz])) (by simp; omega) (by simp; omega)
    have e : acc ++ hexs (c :: t) = acc ++ [hexd (c / 16), hexd (c % 16)] ++ hexs t := by simp [hexs]
    rw [e]
    refine Ev.step (fun k => ?_) h
    simp only [spec_HexOf.l0]
    rw [if_pos (by simp; omega), if_pos (by omega), rd_midh, w64 (x := c) (by omega) (by omega), Int.tdiv_eq_ediv_of_nonneg (by omega), w64 (x := c / 16) (by omega) (by omega), l2Digit_eq (by omega) (by omega), l2Digit_eq (by omega) (by omega)]
    simp only [Option.bind_some]
    rw [if_pos (by simp; omega), w64 (by omega) (by omega)]
    have e2 : c / 16 % 16 = c / 16 := by omega
    rw [e2]
    simp
theorem specHexOf_ev (l : List Int) (hb : By l) (hl : l.length ≤ 4000) : Ev (fun k => spec_HexOf.f k l) (strOfNums (hexs l)) := by
  have h := specHexOf_l l [] [] hb (by simp; omega) (by simp; omega)
  refine Ev.congr (fun k => ?_) h
  unfold spec_HexOf.f
  rw [if_neg (by omega)]; rfl
theorem implHexOf_l (rest : List Int) : ∀ (P acc : List Int) (n : Int), n = P.length + rest.length → By rest → P.length + rest.length ≤ 140737488355328 → acc.length + 2 * rest.length ≤ 140737488355000 → Ev (fun k => impl_HexOf.l0 k acc (P ++ rest) n (P.length : Int)) (strOfNums (acc ++ hexs rest)) := by
  induction rest with
  | nil =>
    intro P acc n hn hb hl hl2
    refine Ev.step (f := fun _ => some (strOfNums (acc ++ hexs []))) (fun k => ?_) (Ev.now _)
    simp only [impl_HexOf.l0]
    rw [if_neg (by simp at hn; omega)]; simp [hexs]
  | cons c t ih =>
    intro P acc n hn hb hl hl2
    have hc := hb c (by simp)
    simp only [List.length_cons] at hl hl2 hn
    have h := ih (P ++ [c]) (acc ++ [hexd (c / 16), hexd (c % 16)]) n (by simp; omega) (fun z hz => hb z (by simp [hz])) (by simp; omega) (by simp; omega)
    have e : acc ++ hexs (c :: t) = acc ++ [hexd (c / 16), hexd (c % 16)] ++ hexs t := by simp [hexs]
    rw [e]
    refine Ev.step (fun k => ?_) h
    have e1 : IntKind.u8.wrap (Int.tdiv c 16) = c / 16 := by rw [IntKind.wrap_u8, Int.tdiv_eq_ediv_of_nonneg (by omega)]; omega
    have e2 : Int.tmod c 16 = c % 16 := Int.tmod_eq_emod_of_nonneg (by omega)
    simp only [impl_HexOf.l0]
    rw [if_pos (by omega), if_pos (by omega), if_pos (by simp; omega), rd_midh, e1, e2, if_pos (by omega), if_pos (by omega), if_pos (by omega), if_pos (by omega)]
    simp only [Option.bind_some]
    rw [if_pos (by simp; omega), w64 (by omega) (by omega)]
    simp [hexd]
theorem implHexOf_ev (l : List Int) (hb : By l) (hl : l.length ≤ 4000) : Ev (fun k => impl_HexOf.f k l) (strOfNums (hexs l)) := by
  have h := implHexOf_l l [] [] l.length (by simp) hb (by simp; omega) (by simp; omega)
  refine Ev.congr (fun k => ?_) h
  unfold impl_HexOf.f
  rw [if_neg (by omega)]; rfl
theorem implHexOf_long (l : List Int) (hl : ¬ l.length ≤ 4000) : Ev (fun k => impl_HexOf.f k l) ⟨#[]⟩ := by
  refine Ev.congr (fun k => ?_) (Ev.now _)
  unfold impl_HexOf.f
  rw [if_pos (by omega)]

def hvalF : Nat → Int → Int → Int
  | 0, _, _ => -1
  | d + 1, c, i => if hexd i = c then i else hvalF d c (i + 1)
def hval (c : Int) : Int := hvalF 16 c 0
theorem hvalF_b : ∀ (d : Nat) (c i : Int), 0 ≤ i → -1 ≤ hvalF d c i ∧ hvalF d c i < i + d
  | 0, c, i, h => by simp only [hvalF]; omega
  | d + 1, c, i, h => by
    simp only [hvalF]
    split
    · omega
    · have := hvalF_b d c (i + 1) (by omega); omega
theorem hval_b (c : Int) : -1 ≤ hval c ∧ hval c < 16 := by have := hvalF_b 16 c 0 (by omega); unfold hval; omega

def fhGo : Nat → ByteArray → Int → List Int → List Int × Bool
  | 0, _, _, acc => (acc, true)
  | d + 1, s, i, acc => if hval (bt s i) < 0 then ([], false) else if hval (bt s (i + 1)) < 0 then ([], false) else fhGo d s (i + 2) (acc ++ [16 * hval (bt s i) + hval (bt s (i + 1))])
theorem fhGo_len : ∀ (d : Nat) (s : ByteArray) (i : Int) (acc : List Int), (fhGo d s i acc).1.length ≤ acc.length + d
  | 0, _, _, acc => by simp [fhGo]
  | d + 1, s, i, acc => by
    simp only [fhGo]
    split
    · simp
    · split
      · simp
      · have := fhGo_len d s (i + 2) (acc ++ [16 * hval (bt s i) + hval (bt s (i + 1))])
        simp at this; omega
def fromHex (s : ByteArray) : List Int × Bool := if (s.size : Int) % 2 = 1 ∨ (s.size : Int) > 8000 then ([], false) else fhGo (s.size / 2) s 0 []
theorem fromHex_len (s : ByteArray) : (fromHex s).1.length ≤ 4000 := by
  unfold fromHex
  split
  · simp
  · have := fhGo_len (s.size / 2) s 0 []
    simp at this; omega

theorem l2Value_l (d : Nat) : ∀ (c i : Int), 0 ≤ i → i + d = 16 → Ev (fun k => spec_l2Value.l0 k c i) (hvalF d c i) := by
  induction d with
  | zero =>
    intro c i h0 h1
    refine Ev.step (f := fun _ => some (-1)) (fun k => ?_) (Ev.now _)
    simp only [spec_l2Value.l0]
    rw [if_neg (by omega)]
  | succ d ih =>
    intro c i h0 h1
    have e : i % 16 = i := by omega
    by_cases h : hexd i = c
    · refine Ev.step (f := fun _ => some i) (fun k => ?_) ?_
      · simp only [spec_l2Value.l0]
        rw [if_pos (by omega), l2Digit_eq h0 (by omega), e]
        simp only [Option.bind_some]
        rw [if_pos h]
      · simp only [hvalF, h, ↓reduceIte]; exact Ev.now _
    · refine Ev.step (f := fun k => spec_l2Value.l0 k c (i + 1)) (fun k => ?_) ?_
      · simp only [spec_l2Value.l0]
        rw [if_pos (by omega), l2Digit_eq h0 (by omega), e]
        simp only [Option.bind_some]
        rw [if_neg h, w64 (by omega) (by omega)]
      · simp only [hvalF, h, ↓reduceIte]; exact ih c (i + 1) (by omega) (by omega)
theorem l2Value_ev (c : Int) : Ev (fun k => spec_l2Value.f k c) (hval c) := l2Value_l 16 c 0 (by omega) (by omega)

theorem specFromHex_l (d : Nat) : ∀ (s : ByteArray) (i : Int) (acc : List Int), 0 ≤ i → i + 2 * d = s.size → s.size ≤ 8000 → acc.length + d ≤ 8000 → Ev (fun k => spec_FromHex.l0 k s acc i) (fhGo d s i acc) := by
  induction d with
  | zero =>
    intro s i acc h0 h1 h2 h3
    refine Ev.step (f := fun _ => some (acc, true)) (fun k => ?_) (Ev.now _)
    simp only [spec_FromHex.l0]
    rw [if_neg (by omega)]
  | succ d ih =>
    intro s i acc h0 h1 h2 h3
    have b1 := hval_b (bt s i)
    have b2 := hval_b (bt s (i + 1))
    refine Ev.step (f := fun k => (spec_l2Value.f k (bt s i)).bind fun t1 => (spec_l2Value.f k (bt s (i + 1))).bind fun t2 => if t1 < 0 then some ([], false) else if t2 < 0 then some ([], false) else if acc.length < 140737488355328 then spec_FromHex.l0 k s (acc ++ [(wrap64 (wrap64 (16 * t1) + t2)) % 256]) (i + 2) else none) (fun k => ?_) ?_
    · simp only [spec_FromHex.l0]
      rw [if_pos (by omega), if_pos h0, w64 (x := i + 1) (by omega) (by omega), w64 (x := i + 2) (by omega) (by omega)]
      simp only [show 0 ≤ i + 1 by omega, show i + 1 < (s.size : Int) by omega, ↓reduceIte]
    · refine Ev.bind (l2Value_ev _) ?_
      refine Ev.bind (l2Value_ev _) ?_
      simp only [fhGo]
      by_cases c1 : hval (bt s i) < 0
      · simp only [c1, ↓reduceIte]; exact Ev.now _
      · by_cases c2 : hval (bt s (i + 1)) < 0
        · simp only [c1, c2, ↓reduceIte]; exact Ev.now _
        · have e : wrap64 (wrap64 (16 * hval (bt s i)) + hval (bt s (i + 1))) % 256 = 16 * hval (bt s i) + hval (bt s (i + 1)) := by
            rw [w64 (x := 16 * _) (by omega) (by omega), w64 (by omega) (by omega)]; omega
          simp only [c1, c2, ↓reduceIte, e, show acc.length < 140737488355328 by omega]
          exact ih s (i + 2) _ (by omega) (by omega) h2 (by simp; omega)
theorem specFromHex_ev (s : ByteArray) (hs : s.size ≤ 140737488355328) : Ev (fun k => spec_FromHex.f k s) (fromHex s) := by
  unfold spec_FromHex.f fromHex
  simp only [Option.bind_some]
  by_cases h1 : (s.size : Int) % 2 = 1
  · simp only [h1, ↓reduceIte, true_or]
    refine Ev.step (f := fun _ => some ([], false)) (fun k => ?_) (Ev.now _)
    simp only [spec_FromHex.j0, ↓reduceIte]
  · by_cases h2 : (s.size : Int) > 8000
    · simp only [h1, h2, ↓reduceIte, or_true, decide_true]
      refine Ev.step (f := fun _ => some ([], false)) (fun k => ?_) (Ev.now _)
      simp only [spec_FromHex.j0, ↓reduceIte]
    · simp only [h1, h2, ↓reduceIte, or_self, decide_false]
      refine Ev.step (f := fun k => spec_FromHex.l0 k s [] 0) (fun k => ?_) ?_
      · simp only [spec_FromHex.j0]; rfl
      · exact specFromHex_l _ s 0 [] (by omega) (by omega) (by omega) (by simp; omega)

theorem hexValue_l (d : Nat) : ∀ (c i : Int), 0 ≤ i → i + d = 16 → Ev (fun k => impl_hexValue.l0 k c i) (hvalF d c i) := by
  induction d with
  | zero =>
    intro c i h0 h1
    refine Ev.step (f := fun _ => some (-1)) (fun k => ?_) (Ev.now _)
    simp only [impl_hexValue.l0]
    rw [if_neg (by omega)]
  | succ d ih =>
    intro c i h0 h1
    by_cases h : hexd i = c
    · refine Ev.step (f := fun _ => some i) (fun k => ?_) ?_
      · simp only [impl_hexValue.l0]
        have h' := h; unfold hexd at h'
        rw [if_pos (by omega), if_pos h0, if_pos h']
      · simp only [hvalF, h, ↓reduceIte]; exact Ev.now _
    · refine Ev.step (f := fun k => impl_hexValue.l0 k c (i + 1)) (fun k => ?_) ?_
      · simp only [impl_hexValue.l0]
        have h' := h; unfold hexd at h'
        rw [if_pos (by omega), if_pos h0, if_neg h', w64 (by omega) (by omega)]
      · simp only [hvalF, h, ↓reduceIte]; exact ih c (i + 1) (by omega) (by omega)
theorem hexValue_ev (c : Int) : Ev (fun k => impl_hexValue.f k c) (hval c) := hexValue_l 16 c 0 (by omega) (by omega)

theorem implFromHex_l (d : Nat) : ∀ (s : ByteArray) (i : Int) (acc : List Int), 0 ≤ i → i + 2 * d = s.size → s.size ≤ 8000 → acc.length + d ≤ 8000 → Ev (fun k => impl_FromHex.l0 k s acc i) (fhGo d s i acc) := by
  induction d with
  | zero =>
    intro s i acc h0 h1 h2 h3
    refine Ev.step (f := fun _ => some (acc, true)) (fun k => ?_) (Ev.now _)
    simp only [impl_FromHex.l0]
    rw [if_neg (by omega)]
  | succ d ih =>
    intro s i acc h0 h1 h2 h3
    have b1 := hval_b (bt s i)
    have b2 := hval_b (bt s (i + 1))
    refine Ev.step (f := fun k => (impl_hexValue.f k (bt s i)).bind fun t1 => (impl_hexValue.f k (bt s (i + 1))).bind fun t2 => if t1 < 0 then some ([], false) else if t2 < 0 then some ([], false) else if acc.length < 140737488355328 then impl_FromHex.l0 k s (acc ++ [(wrap64 (wrap64 (16 * t1) + t2)) % 256]) (i + 2) else none) (fun k => ?_) ?_
    · simp only [impl_FromHex.l0]
      rw [if_pos (by omega), if_pos h0, w64 (x := i + 1) (by omega) (by omega), w64 (x := i + 2) (by omega) (by omega)]
      simp only [show 0 ≤ i + 1 by omega, show i + 1 < (s.size : Int) by omega, ↓reduceIte]
    · refine Ev.bind (hexValue_ev _) ?_
      refine Ev.bind (hexValue_ev _) ?_
      simp only [fhGo]
      by_cases c1 : hval (bt s i) < 0
      · simp only [c1, ↓reduceIte]; exact Ev.now _
      · by_cases c2 : hval (bt s (i + 1)) < 0
        · simp only [c1, c2, ↓reduceIte]; exact Ev.now _
        · have e : wrap64 (wrap64 (16 * hval (bt s i)) + hval (bt s (i + 1))) % 256 = 16 * hval (bt s i) + hval (bt s (i + 1)) := by
            rw [w64 (x := 16 * _) (by omega) (by omega), w64 (by omega) (by omega)]; omega
          simp only [c1, c2, ↓reduceIte, e, show acc.length < 140737488355328 by omega]
          exact ih s (i + 2) _ (by omega) (by omega) h2 (by simp; omega)
theorem implFromHex_ev (s : ByteArray) (hs : s.size ≤ 140737488355328) : Ev (fun k => impl_FromHex.f k s) (fromHex s) := by
  unfold impl_FromHex.f fromHex
  by_cases h1 : (s.size : Int) % 2 = 1
  · simp only [h1, ↓reduceIte, true_or]
    refine Ev.step (f := fun _ => some ([], false)) (fun k => ?_) (Ev.now _)
    simp only [impl_FromHex.j0, ↓reduceIte]
  · by_cases h2 : (s.size : Int) > 8000
    · simp only [h1, h2, ↓reduceIte, or_true, decide_true]
      refine Ev.step (f := fun _ => some ([], false)) (fun k => ?_) (Ev.now _)
      simp only [impl_FromHex.j0, ↓reduceIte]
    · simp only [h1, h2, ↓reduceIte, or_self, decide_false]
      refine Ev.step (f := fun k => impl_FromHex.l0 k s [] 0) (fun k => ?_) ?_
      · simp only [impl_FromHex.j0]; rfl
      · exact implFromHex_l _ s 0 [] (by omega) (by omega) (by omega) (by simp; omega)

theorem l1Byte_ok (b : List Int) (i h : Int) (hi : 0 ≤ i ∧ i ≤ 9223372036854775807) (hb : b.length ≤ 140737488355328) : ∃ x i' h', spec_l1Byte.f b i h = some (x, i', h') ∧ 0 ≤ i' ∧ i' ≤ 9223372036854775807 := by
  unfold spec_l1Byte.f
  by_cases c : i < (b.length : Int)
  · rw [if_pos c, if_pos hi.1, w64 (x := i + 1) (by omega) (by omega)]
    exact ⟨_, _, _, rfl, by omega, by omega⟩
  · rw [if_neg c]
    exact ⟨_, _, _, rfl, hi.1, hi.2⟩
theorem l1Below_ok (b : List Int) (i h a : Int) (hi : 0 ≤ i ∧ i ≤ 9223372036854775807) (hb : b.length ≤ 140737488355328) : ∃ x i' h', spec_l1Below.f b i h a = some (x, i', h') ∧ (0 ≤ i' ∧ i' ≤ 9223372036854775807) ∧ (a ≤ 0 → x = 0) ∧ (0 < a → -a < x ∧ x < a) := by
  unfold spec_l1Below.f
  by_cases c : a ≤ 0
  · rw [if_pos c]
    exact ⟨_, _, _, rfl, hi, fun _ => rfl, fun h => by omega⟩
  · rw [if_neg c]
    have ht : ∀ x : Int, -a < Int.tmod x a ∧ Int.tmod x a < a := fun x => by
      have h1 := Int.tmod_lt_of_pos x (show 0 < a by omega)
      have h2 := Int.lt_tmod_of_pos x (show 0 < a by omega)
      omega
    by_cases c2 : a ≤ 256
    · rw [if_pos c2]
      obtain ⟨x, i', h', e, p⟩ := l1Byte_ok b i h hi hb
      rw [e]
      simp only [Option.bind_some]
      rw [if_neg (by omega)]
      exact ⟨_, _, _, rfl, p, fun h => by omega, fun _ => ht _⟩
    · rw [if_neg c2]
      obtain ⟨x1, i1, h1, e1, p1⟩ := l1Byte_ok b i h hi hb
      obtain ⟨x2, i2, h2, e2, p2⟩ := l1Byte_ok b i1 h1 p1 hb
      obtain ⟨x3, i3, h3, e3, p3⟩ := l1Byte_ok b i2 h2 p2 hb
      obtain ⟨x4, i4, h4, e4, p4⟩ := l1Byte_ok b i3 h3 p3 hb
      rw [e1]; simp only [Option.bind_some]
      rw [e2]; simp only [Option.bind_some]
      rw [e3]; simp only [Option.bind_some]
      rw [e4]; simp only [Option.bind_some]
      rw [if_neg (by omega)]
      exact ⟨_, _, _, rfl, p4, fun h => by omega, fun _ => ht _⟩
theorem l1New_l (l : List Int) (hl : l.length ≤ 140737488355328) (d : Nat) : ∀ (h i : Int), 0 ≤ i → i + d = 4000 → ∃ h', Ev (fun k => spec_l1New.l0 k l h i) (l, 0, h') := by
  induction d with
  | zero =>
    intro h i h0 hd
    refine ⟨h, ?_⟩
    refine Ev.step (f := fun _ => some (l, 0, h)) (fun k => ?_) (Ev.now _)
    simp only [spec_l1New.l0]
    split
    · rw [if_neg (by omega)]
    · rfl
  | succ d ih =>
    intro h i h0 hd
    by_cases c : i < (l.length : Int)
    · obtain ⟨h', hh⟩ := ih (Go.bits .and .i64 (wrap64 ((wrap64 ((wrap64 (h * 131)) + (wrap64 (rd l i)))) + 7)) 1073741823) (i + 1) (by omega) (by omega)
      refine ⟨h', Ev.step (fun k => ?_) hh⟩
      simp only [spec_l1New.l0]
      rw [if_pos c, if_pos (by omega), if_pos h0, w64 (x := i + 1) (by omega) (by omega)]
    · refine ⟨h, Ev.step (f := fun _ => some (l, 0, h)) (fun k => ?_) (Ev.now _)⟩
      simp only [spec_l1New.l0]
      rw [if_neg c]
theorem l1New_ev (l : List Int) (hl : l.length ≤ 140737488355328) : ∃ h', Ev (fun k => spec_l1New.f k l) (l, 0, h') := by
  unfold spec_l1New.f
  exact l1New_l l hl 4000 _ 0 (by omega) (by omega)
theorem l1Size_ok (l : List Int) (a : Int) (h0 : 2 ≤ a) (hl : l.length ≤ 140737488355328) : ∃ n, spec_l1Size.f l a = some n ∧ 2 ≤ n ∧ n ≤ a := by
  unfold spec_l1Size.f
  rw [w64 (x := (l.length : Int) / 20) (by omega) (by omega), w64 (by omega) (by omega)]
  split
  · exact ⟨_, rfl, h0, by omega⟩
  · exact ⟨_, rfl, by omega, by omega⟩
theorem l1Once_ok (b : List Int) (i h a : Int) (hi : 0 ≤ i ∧ i ≤ 9223372036854775807) (hb : b.length ≤ 140737488355328) : ∃ x i' h', spec_l1Once.f b i h a = some (x, i', h') ∧ (0 ≤ i' ∧ i' ≤ 9223372036854775807) := by
  unfold spec_l1Once.f
  obtain ⟨x, i', h', e, p, _⟩ := l1Below_ok b i h a hi hb
  rw [e]
  exact ⟨_, _, _, rfl, p⟩

theorem l1DrawBytes_l (b : List Int) (hb : b.length ≤ 140737488355328) (n : Int) (hn : n ≤ 1000000) (d : Nat) : ∀ (acc : List Int) (j i h : Int), By acc → (acc.length : Int) = j → 0 ≤ j → (j ≤ n → j + d = n) → (n < j → d = 0) → (0 ≤ i ∧ i ≤ 9223372036854775807) → ∃ r i' h', Ev (fun k => spec_l1DrawBytes.l0 k acc n j b i h) (r, i', h') ∧ By r ∧ ((r.length : Int) ≤ n ∨ r = acc) ∧ (0 ≤ i' ∧ i' ≤ 9223372036854775807) := by
  induction d with
  | zero =>
    intro acc j i h ha hl h0 hd hd2 hi
    refine ⟨acc, i, h, Ev.step (f := fun _ => some (acc, i, h)) (fun k => ?_) (Ev.now _), ha, .inr rfl, hi⟩
    simp only [spec_l1DrawBytes.l0]
    rw [if_neg (by omega)]
  | succ d ih =>
    intro acc j i h ha hl h0 hd hd2 hi
    have c : j < n := by omega
    obtain ⟨x, i1, h1, e, p⟩ := l1Byte_ok b i h hi hb
    obtain ⟨r, i', h', hh, hr, hrl, hi'⟩ := ih (acc ++ [x % 256]) (j + 1) i1 h1 (fun y hy => by
      rcases List.mem_append.1 hy with hy | hy
      · exact ha y hy
      · simp at hy; omega) (by simp; omega) (by omega) (by omega) (by omega) p
    refine ⟨r, i', h', Ev.step (fun k => ?_) hh, hr, .inl ?_, hi'⟩
    · simp only [spec_l1DrawBytes.l0]
      rw [if_pos c, e]
      simp only [Option.bind_some]
      rw [if_pos (by omega), w64 (by omega) (by omega)]
    · rcases hrl with h | rfl
      · exact h
      · simp; omega
theorem l1DrawBytes_ev (b : List Int) (i h a : Int) (hb : b.length ≤ 140737488355328) (hi : 0 ≤ i ∧ i ≤ 9223372036854775807) (ha : 0 ≤ a ∧ a ≤ 1000000) : ∃ r i' h', Ev (fun k => spec_l1DrawBytes.f k b i h a) (r, i', h') ∧ By r ∧ (r.length : Int) ≤ a ∧ (0 ≤ i' ∧ i' ≤ 9223372036854775807) := by
  unfold spec_l1DrawBytes.f
  rw [w64 (x := a + 1) (by omega) (by omega)]
  obtain ⟨n, i1, h1, e, p, hx0, hx⟩ := l1Below_ok b i h (a + 1) hi hb
  have hx := hx (by omega)
  obtain ⟨r, i', h', hh, hr, hrl, hi'⟩ := l1DrawBytes_l b hb n (by omega) n.toNat [] 0 i1 h1 (by intro y hy; simp at hy) rfl (by omega) (by omega) (by omega) p
  refine ⟨r, i', h', ?_, hr, ?_, hi'⟩
  · rw [e]
    simp only [Option.bind_some]
    exact hh
  · rcases hrl with h | rfl
    · omega
    · simp; omega

theorem l1Byte_nn (b : List Int) (i h x : Int) (i' h' : Int) (e : spec_l1Byte.f b i h = some (x, i', h')) : 0 ≤ x ∧ x ≤ 255 := by
  unfold spec_l1Byte.f at e
  simp only [and255] at e
  split at e
  · split at e
    · simp only [Option.some.injEq, Prod.mk.injEq] at e; omega
    · simp at e
  · simp only [Option.some.injEq, Prod.mk.injEq] at e; omega
theorem l1Below_nn (b : List Int) (i h a x : Int) (i' h' : Int) (e : spec_l1Below.f b i h a = some (x, i', h')) : 0 ≤ x := by
  unfold spec_l1Below.f at e
  split at e
  · simp only [Option.some.injEq, Prod.mk.injEq] at e; omega
  · split at e
    · obtain ⟨⟨x1, i1, h1⟩, e1, e⟩ := Option.bind_eq_some_iff.1 e
      have := l1Byte_nn _ _ _ _ _ _ e1
      simp only at e
      split at e
      · simp at e
      · simp only [Option.some.injEq, Prod.mk.injEq] at e
        rw [← e.1]; exact Int.tmod_nonneg _ (by omega)
    · obtain ⟨⟨x1, i1, h1⟩, e1, e⟩ := Option.bind_eq_some_iff.1 e
      obtain ⟨⟨x2, i2, h2⟩, e2, e⟩ := Option.bind_eq_some_iff.1 e
      obtain ⟨⟨x3, i3, h3⟩, e3, e⟩ := Option.bind_eq_some_iff.1 e
      obtain ⟨⟨x4, i4, h4⟩, e4, e⟩ := Option.bind_eq_some_iff.1 e
      have b1 := l1Byte_nn _ _ _ _ _ _ e1
      have b2 := l1Byte_nn _ _ _ _ _ _ e2
      have b3 := l1Byte_nn _ _ _ _ _ _ e3
      have b4 := l1Byte_nn _ _ _ _ _ _ e4
      simp only at e
      split at e
      · simp at e
      · simp only [Option.some.injEq, Prod.mk.injEq] at e
        rw [← e.1]
        refine Int.tmod_nonneg _ ?_
        rw [w64 (x := x1 * 16777216) (by omega) (by omega), w64 (x := x2 * 65536) (by omega) (by omega), w64 (x := x3 * 256) (by omega) (by omega), w64 (x := x1 * 16777216 + x2 * 65536) (by omega) (by omega), w64 (x := x1 * 16777216 + x2 * 65536 + x3 * 256) (by omega) (by omega), w64 (by omega) (by omega)]
        omega
theorem rd_mem (l : List Int) (i : Int) (h0 : 0 ≤ i) (h1 : i < l.length) : rd l i ∈ l := by
  unfold rd
  rw [List.getD_eq_getElem?_getD, List.getElem?_eq_getElem (by omega)]
  exact List.getElem_mem _
theorem l1PickInt_ok (b : List Int) (i h : Int) (l : List Int) (hi : 0 ≤ i ∧ i ≤ 9223372036854775807) (hb : b.length ≤ 140737488355328) (hl : 0 < l.length) : ∃ x i' h', spec_l1PickInt.f b i h l = some (x, i', h') ∧ (0 ≤ i' ∧ i' ≤ 9223372036854775807) ∧ x ∈ l := by
  obtain ⟨x, i', h', e, p, _, hx⟩ := l1Below_ok b i h l.length hi hb
  have hn := l1Below_nn _ _ _ _ _ _ _ e
  have hx := hx (by omega)
  refine ⟨rd l x, i', h', ?_, p, rd_mem l x hn hx.2⟩
  unfold spec_l1PickInt.f
  rw [e]
  simp only [Option.bind_some]
  rw [if_pos hn, if_pos hx.2]
theorem toList_inj {a b : ByteArray} (h : a.toList = b.toList) : a = b := by
  rw [ByteArray.toList_eq, ByteArray.toList_eq] at h
  exact ByteArray.ext (Array.toList_inj.1 h)
theorem strOf_bytesOf (s : ByteArray) : strOfNums (bytesOf s) = s := by
  apply ByteArray.ext
  apply Array.toList_inj.1
  have h := strOfNums_data (bytesOf s)
  rw [h]
  unfold bytesOf
  rw [List.map_map]
  have : ((fun n : Int => UInt8.ofNat n.toNat) ∘ fun b : UInt8 => (b.toNat : Int)) = id := by
    funext b
    simp
  rw [this, List.map_id]
theorem hexd_hvalF : ∀ (d : Nat) (c i : Int), 0 ≤ i → 0 ≤ hvalF d c i → hexd (hvalF d c i) = c
  | 0, c, i, _, h => by simp only [hvalF] at h; omega
  | d + 1, c, i, h0, h => by
    simp only [hvalF] at h ⊢
    split at h
    · rename_i e; rw [if_pos e]; exact e
    · rename_i e; rw [if_neg e]; exact hexd_hvalF d c (i + 1) (by omega) h
theorem hexd_hval (c : Int) (h : 0 ≤ hval c) : hexd (hval c) = c := hexd_hvalF 16 c 0 (by omega) h
theorem hval_hexd (n : Int) (h0 : 0 ≤ n) (h1 : n < 16) : hval (hexd n) = n := by
  obtain rfl | rfl | rfl | rfl | rfl | rfl | rfl | rfl | rfl | rfl | rfl | rfl | rfl | rfl | rfl | rfl : n = 0 ∨ n = 1 ∨ n = 2 ∨ n = 3 ∨ n = 4 ∨ n = 5 ∨ n = 6 ∨ n = 7 ∨ n = 8 ∨ n = 9 ∨ n = 10 ∨ n = 11 ∨ n = 12 ∨ n = 13 ∨ n = 14 ∨ n = 15 := by omega
  all_goals decide
theorem bt_bytes (s : ByteArray) (i : Nat) (h : i < s.size) : bt s (i : Int) = rd (bytesOf s) (i : Int) := by
  rw [rd_nat]
  unfold bt bytesOf
  simp only [Int.toNat_natCast, h, ↓reduceDIte, List.getD_eq_getElem?_getD, List.getElem?_map]
  rw [Array.getElem?_toList, Array.getElem?_eq_getElem h]
  rfl
theorem bytes_strOf (l : List Int) (hb : By l) : bytesOf (strOfNums l) = l := by
  unfold bytesOf
  have e : (strOfNums l).data.toList = l.map fun n => UInt8.ofNat n.toNat := by rw [strOfNums_data]
  rw [e, List.map_map]
  conv => rhs; rw [← List.map_id l]
  refine List.map_congr_left fun x hx => ?_
  have := hb x hx
  simp only [Function.comp, UInt8.toNat_ofNat', id]
  omega
theorem hexd_by (n : Int) : 0 ≤ hexd n ∧ hexd n ≤ 255 := by
  unfold hexd bt
  split
  · rename_i h
    generalize (ByteArray.mk #[48, 49, 50, 51, 52, 53, 54, 55, 56, 57, 97, 98, 99, 100, 101, 102])[n.toNat]'h = u
    have := UInt8.toNat_lt u
    omega
  · omega
theorem hexs_by : ∀ l : List Int, By (hexs l)
  | [] => fun x hx => by simp [hexs] at hx
  | c :: t => fun x hx => by
    simp only [hexs, List.mem_cons] at hx
    rcases hx with rfl | rfl | hx
    · exact hexd_by _
    · exact hexd_by _
    · exact hexs_by t x hx
theorem strOf_len (l : List Int) : (strOfNums l).size = l.length := by rw [← data_length, strOfNums_data, List.length_map]
theorem fhGo_hexs (rest : List Int) : ∀ (P acc : List Int) (s : ByteArray), By rest → bytesOf s = P ++ hexs rest → fhGo rest.length s (P.length : Int) acc = (acc ++ rest, true) := by
  induction rest with
  | nil => intro P acc s _ _; simp [fhGo]
  | cons c t ih =>
    intro P acc s hb hs
    have hc := hb c (by simp)
    have hl : s.size = P.length + (2 + 2 * t.length) := by
      have := congrArg List.length hs
      simp only [bytesOf_length, List.length_append, hexs, List.length_cons, hexs_length] at this
      omega
    have e0 : bt s (P.length : Int) = hexd (c / 16) := by
      rw [bt_bytes s _ (by omega), hs, hexs, rd_midh]
    have e1 : bt s ((P.length : Int) + 1) = hexd (c % 16) := by
      have := bt_bytes s (P.length + 1) (by omega)
      rw [show ((P.length + 1 : Nat) : Int) = (P.length : Int) + 1 by omega] at this
      rw [this, hs, hexs, show P ++ hexd (c / 16) :: hexd (c % 16) :: hexs t = (P ++ [hexd (c / 16)]) ++ hexd (c % 16) :: hexs t by simp]
      have := rd_midh (P ++ [hexd (c / 16)]) (hexd (c % 16)) (hexs t)
      simpa using this
    rw [List.length_cons, fhGo, e0, e1, hval_hexd _ (by omega) (by omega), hval_hexd _ (by omega) (by omega), if_neg (by omega), if_neg (by omega)]
    have h := ih (P ++ [hexd (c / 16), hexd (c % 16)]) (acc ++ [c]) s (fun z hz => hb z (by simp [hz])) (by rw [hs]; simp [hexs])
    have e2 : ((P ++ [hexd (c / 16), hexd (c % 16)]).length : Int) = (P.length : Int) + 2 := by simp
    rw [e2] at h
    rw [show 16 * (c / 16) + c % 16 = c by omega, h]
    simp
theorem fromHex_hexs (l : List Int) (hb : By l) (hl : l.length ≤ 4000) : fromHex (strOfNums (hexs l)) = (l, true) := by
  have hs : (strOfNums (hexs l)).size = 2 * l.length := by rw [strOf_len, hexs_length]
  unfold fromHex
  rw [if_neg (by omega), hs, show 2 * l.length / 2 = l.length by omega]
  have := fhGo_hexs l [] [] (strOfNums (hexs l)) hb (by rw [bytes_strOf _ (hexs_by l)]; rfl)
  simpa using this
theorem fhGo_back : ∀ (d : Nat) (s : ByteArray) (P acc r : List Int), bytesOf s = hexs acc ++ P → P.length = 2 * d → By acc → fhGo d s ((2 * acc.length : Nat) : Int) acc = (r, true) → bytesOf s = hexs r ∧ By r
  | 0, s, P, acc, r, hs, hl, hb, h => by
    obtain rfl : P = [] := List.length_eq_zero_iff.1 (by omega)
    simp only [fhGo, Prod.mk.injEq, and_true] at h
    subst h
    exact ⟨by rw [hs, List.append_nil], hb⟩
  | d + 1, s, P, acc, r, hs, hl, hb, h => by
    match P, hl with
    | x :: y :: t, hl =>
      simp only [List.length_cons] at hl
      have hz : s.size = 2 * acc.length + (t.length + 2) := by
        have := congrArg List.length hs
        simp only [bytesOf_length, List.length_append, hexs_length, List.length_cons] at this
        omega
      have hal : (hexs acc).length = 2 * acc.length := hexs_length acc
      have e0 : bt s ((2 * acc.length : Nat) : Int) = x := by
        rw [bt_bytes s _ (by omega), hs, ← hal, rd_midh]
      have e1 : bt s (((2 * acc.length : Nat) : Int) + 1) = y := by
        have := bt_bytes s (2 * acc.length + 1) (by omega)
        rw [show ((2 * acc.length + 1 : Nat) : Int) = ((2 * acc.length : Nat) : Int) + 1 by omega] at this
        rw [this, hs, show hexs acc ++ x :: y :: t = (hexs acc ++ [x]) ++ y :: t by simp]
        have := rd_midh (hexs acc ++ [x]) y t
        rw [List.length_append, hal] at this
        simpa using this
      rw [fhGo, e0, e1] at h
      split at h
      · simp at h
      · split at h
        · simp at h
        · rename_i n0 n1
          have b0 := hval_b x
          have b1 := hval_b y
          have x0 := hexd_hval x (by omega)
          have y0 := hexd_hval y (by omega)
          have hap : ∀ a : List Int, hexs (a ++ [16 * hval x + hval y]) = hexs a ++ [x, y] := by
            intro a
            induction a with
            | nil => simp only [List.nil_append, hexs]; rw [show (16 * hval x + hval y) / 16 = hval x by omega, show (16 * hval x + hval y) % 16 = hval y by omega, x0, y0]
            | cons c u ih => simp only [List.cons_append, hexs, ih]
          refine fhGo_back d s t (acc ++ [16 * hval x + hval y]) r (by rw [hs, hap]; simp) (by omega) ?_ ?_
          · intro z hz
            rcases List.mem_append.1 hz with hz | hz
            · exact hb z hz
            · rw [List.mem_singleton.1 hz]; omega
          · rw [List.length_append, show ((2 * (acc.length + [16 * hval x + hval y].length) : Nat) : Int) = ((2 * acc.length : Nat) : Int) + 2 by simp; omega]
            exact h
theorem fromHex_back (s : ByteArray) (h : (fromHex s).2 = true) : strOfNums (hexs (fromHex s).1) = s ∧ By (fromHex s).1 := by
  have hf := fromHex_len s
  unfold fromHex at h ⊢
  split at h
  · simp at h
  · rename_i hc
    rw [if_neg hc]
    rcases hg : fhGo (s.size / 2) s 0 [] with ⟨r, b⟩
    rw [hg] at h
    simp only at h ⊢
    subst h
    have := fhGo_back (s.size / 2) s (bytesOf s) [] r (by simp [hexs]) (by rw [bytesOf_length]; omega) (fun x hx => by simp at hx) (by simpa using hg)
    exact ⟨by rw [← this.1, strOf_bytesOf], this.2⟩

theorem by_zeros (n : Nat) : By (List.replicate n 0) := fun x hx => by rw [(List.mem_replicate.1 hx).2]; omega
theorem l2DrawBytes_ev (l : List Int) (hl : l.length ≤ 140737488355328) : ∃ r, Ev (fun k => spec_l2DrawBytes.f k l) r ∧ By r ∧ r.length ≤ 4001 := by
  obtain ⟨h0, e0⟩ := l1New_ev l hl
  obtain ⟨x, i1, h1, e1, p1, _, hx⟩ := l1Below_ok l 0 h0 12 (by omega) hl
  unfold spec_l2DrawBytes.f
  by_cases c0 : x = 0
  · obtain ⟨z, i2, h2, e2, p2, m2⟩ := l1PickInt_ok l i1 h1 [54, 55, 56, 63, 64, 65, 119, 120] p1 hl (by simp)
    have hz : 0 ≤ z ∧ z ≤ 120 := by
      simp only [List.mem_cons, List.not_mem_nil, or_false] at m2
      omega
    refine ⟨_, Ev.bind e0 ?_, by_zeros z.toNat, by rw [List.length_replicate]; omega⟩
    simp only [e1, Option.bind_some, c0, ↓reduceIte, e2]
    simp only [if_pos hz.1, if_pos (show z.toNat ≤ 281474976710656 by omega)]
    exact Ev.now _
  · by_cases c1 : x = 1
    · obtain ⟨z, i2, h2, e2, p2, _, hz⟩ := l1Below_ok l i1 h1 2 p1 hl
      have hz := hz (by omega)
      have ew : wrap64 (4000 + z) = 4000 + z := w64 (by omega) (by omega)
      refine ⟨_, Ev.bind e0 ?_, by_zeros (4000 + z).toNat, by rw [List.length_replicate]; omega⟩
      simp only [e1, Option.bind_some, c1, show ¬ (1 : Int) = 0 by omega, ↓reduceIte, e2, ew]
      simp only [if_pos (show 0 ≤ 4000 + z by omega), if_pos (show (4000 + z).toNat ≤ 281474976710656 by omega)]
      exact Ev.now _
    · obtain ⟨n, e2, n0, n1⟩ := l1Size_ok l 130 (by omega) hl
      obtain ⟨r, i2, h2, e3, hb, hn, p3⟩ := l1DrawBytes_ev l i1 h1 n hl p1 (by omega)
      refine ⟨r, Ev.bind e0 ?_, hb, by omega⟩
      simp only [e1, Option.bind_some, c0, c1, ↓reduceIte, e2]
      refine Ev.bind e3 ?_
      exact Ev.now _
theorem l1Pick_ev (b : List Int) (i h : Int) (l : List ByteArray) (hi : 0 ≤ i ∧ i ≤ 9223372036854775807) (hb : b.length ≤ 140737488355328) (hl : 0 < l.length) : ∃ x i' h', spec_l1Pick.f b i h l = some (x, i', h') ∧ (0 ≤ i' ∧ i' ≤ 9223372036854775807) ∧ x ∈ l := by
  obtain ⟨x, i', h', e, p, _, hx⟩ := l1Below_ok b i h (l.length : Int) hi hb
  have hn := l1Below_nn b i h _ x i' h' e
  have hx := hx (by omega)
  unfold spec_l1Pick.f
  rw [e]
  simp only [Option.bind_some]
  rw [if_pos hn, if_pos hx.2]
  refine ⟨_, _, _, rfl, p, ?_⟩
  unfold rdOf
  rw [List.getD_eq_getElem?_getD, List.getElem?_eq_getElem (by omega)]
  exact List.getElem_mem _
theorem drawFromHex_j0 (b : List Int) (i h : Int) (s : ByteArray) (hi : 0 ≤ i ∧ i ≤ 9223372036854775807) (hb : b.length ≤ 140737488355328) (hs : s.size ≤ 10000) : ∃ r, Ev (fun k => spec_DrawFromHex.j0 k s b i h) r ∧ r.size ≤ 10000 := by
  obtain ⟨x, i1, h1, e1, p1⟩ := l1Once_ok b i h 40 hi hb
  cases x with
  | true =>
    obtain ⟨z, i2, h2, e2, p2, _, hz⟩ := l1Below_ok b i1 h1 2 p1 hb
    have hz := hz (by omega)
    have ew : wrap64 (2 * z) = 2 * z := w64 (by omega) (by omega)
    have ew2 : wrap64 (8000 + 2 * z) = 8000 + 2 * z := w64 (by omega) (by omega)
    refine ⟨strOfNums (List.replicate (8000 + 2 * z).toNat 0), Ev.step (f := fun _ => some (strOfNums (List.replicate (8000 + 2 * z).toNat 0))) (fun k => ?_) (Ev.now _), ?_⟩
    · simp only [spec_DrawFromHex.j0, e1, Option.bind_some, ↓reduceIte, e2, ew, ew2]
      simp only [if_pos (show 0 ≤ 8000 + 2 * z by omega), if_pos (show (8000 + 2 * z).toNat ≤ 281474976710656 by omega)]
    · rw [strOf_len, List.length_replicate]; omega
  | false =>
    refine ⟨s, Ev.step (f := fun _ => some s) (fun k => by simp only [spec_DrawFromHex.j0, e1, Option.bind_some, Bool.false_eq_true, ↓reduceIte]) (Ev.now _), hs⟩
theorem drawFromHex_ev (l : List Int) (hl : l.length ≤ 140737488355328) : ∃ s, Ev (fun k => spec_DrawFromHex.f k l) s ∧ s.size ≤ 10000 := by
  obtain ⟨h0, e0⟩ := l1New_ev l hl
  obtain ⟨n, e2, n0, n1⟩ := l1Size_ok l 12 (by omega) hl
  obtain ⟨r, i2, h2, e3, hb, hn, p3⟩ := l1DrawBytes_ev l 0 h0 n hl (by omega) (by omega)
  obtain ⟨x, i1, h1, e1, p1⟩ := l1Once_ok l i2 h2 3 p3 hl
  unfold spec_DrawFromHex.f
  cases x with
  | true =>
    obtain ⟨t, i4, h4, e4, p4, m4⟩ := l1Pick_ev l i1 h1 [(⟨#[]⟩ : ByteArray), (⟨#[48]⟩ : ByteArray), (⟨#[48, 103]⟩ : ByteArray), (⟨#[65, 66]⟩ : ByteArray), (⟨#[97, 98]⟩ : ByteArray), (⟨#[48, 48, 102, 102]⟩ : ByteArray), (⟨#[97, 32, 98]⟩ : ByteArray)] p1 hl (by simp)
    have ht : t.size ≤ 10000 := by
      simp only [List.mem_cons, List.not_mem_nil, or_false] at m4
      rcases m4 with rfl | rfl | rfl | rfl | rfl | rfl | rfl <;> decide
    obtain ⟨s, hs, hz⟩ := drawFromHex_j0 l i4 h4 t p4 hl ht
    refine ⟨s, Ev.bind e0 ?_, hz⟩
    simp only [e2, Option.bind_some]
    refine Ev.bind e3 ?_
    refine Ev.bind (specHexOf_ev r hb (by omega)) ?_
    simp only [e1, Option.bind_some, ↓reduceIte, e4]
    exact hs
  | false =>
    obtain ⟨s, hs, hz⟩ := drawFromHex_j0 l i1 h1 (strOfNums (hexs r)) p1 hl (by rw [strOf_len, hexs_length]; omega)
    refine ⟨s, Ev.bind e0 ?_, hz⟩
    simp only [e2, Option.bind_some]
    refine Ev.bind e3 ?_
    refine Ev.bind (specHexOf_ev r hb (by omega)) ?_
    simp only [e1, Option.bind_some, Bool.false_eq_true, ↓reduceIte]
    exact hs
theorem shaS_len (b : List Int) (h : b.length ≤ 4000) : (shaS b).length = 32 := by
  unfold shaS
  rw [if_neg (by omega)]
  simp [out4, List.flatMap, List.range, List.range.loop]
theorem implShaText_ev (l : List Int) (hb : By l) (hl : l.length ≤ 4000) : Ev (fun k => impl_ShaText.f k (strOfNums l)) (strOfNums (hexs (shaS l))) := by
  unfold impl_ShaText.f
  have g : (strOfNums l).size ≤ 9223372036854775807 := by rw [strOf_len]; omega
  obtain ⟨hq, hq2⟩ := shaS_by l
  simp only [g, ↓reduceIte, bytes_strOf l hb, implSha_eq l hb, Option.bind_some]
  refine Ev.bind (implHexOf_ev _ hq (by omega)) ?_
  exact Ev.now _
theorem FnHex : laws_FnHex.Pure := by
  intro l hm hl hw
  apply Ev.rounds
  unfold laws_FnHex.f
  simp only [laws_big.f, Option.bind_some]
  by_cases h : (l.length : Int) > 1048576
  · simp only [h, decide_true, ↓reduceIte]; exact Ev.now _
  · simp only [h, decide_false, Bool.false_eq_true, ↓reduceIte]
    obtain ⟨b, eb, hb, hbl⟩ := l2DrawBytes_ev l (by omega)
    refine Ev.bind (a := b) ?_ ?_
    · unfold spec_DrawHexOf.f
      refine Ev.bind eb ?_
      exact Ev.now _
    · by_cases h4 : b.length ≤ 4000
      · refine Ev.bind (implHexOf_ev b hb h4) ?_
        simp only [show ¬ ((b.length : Int) > 4000) by omega, ↓reduceIte]
        have hsl := shaS_len b h4
        have hsb := (shaS_by b).1
        have hsi := implSha_eq b hb
        have hst := implShaText_ev b hb h4
        have hfs := fromHex_hexs (shaS b) hsb (by omega)
        generalize shaS b = sh at *
        refine Ev.bind (implFromHex_ev _ (by rw [strOf_len, hexs_length]; omega)) ?_
        rw [fromHex_hexs b hb h4]
        simp only [↓reduceIte, hsi, Option.bind_some, show ((sh.length : Int) = 32) = True from eq_true (by omega)]
        refine Ev.bind hst ?_
        have hz : ((strOfNums (hexs sh)).size : Int) = 64 := by rw [strOf_len, hexs_length]; omega
        simp only [hz, bne_self_eq_false]
        refine Ev.step (fun k => by simp only [laws_FnHex.j0, Bool.false_eq_true, ↓reduceIte]; rfl) ?_
        obtain ⟨s, es, hs⟩ := drawFromHex_ev l (by omega)
        refine Ev.bind es ?_
        refine Ev.bind (implFromHex_ev s (by omega)) ?_
        refine Ev.bind (specFromHex_ev s (by omega)) ?_
        refine Ev.bind hst ?_
        refine Ev.bind (implFromHex_ev _ (by rw [strOf_len, hexs_length]; omega)) ?_
        simp only [hfs, beq_self_eq_true, ↓reduceIte, hsi, Option.bind_some]
        by_cases hok : (fromHex s).2 = true
        · obtain ⟨k1, k2⟩ := fromHex_back s hok
          have k3 := fromHex_len s
          simp only [hok, ↓reduceIte]
          refine Ev.bind (implHexOf_ev _ k2 k3) ?_
          rw [k1]
          simp only [↓reduceIte]
          exact Ev.now _
        · simp only [hok, Bool.false_eq_true, ↓reduceIte]
          exact Ev.now _
      · refine Ev.bind (implHexOf_long b h4) ?_
        have hsi : impl_Sha.f b = some [] := by unfold impl_Sha.f; rw [if_pos (by omega)]
        simp only [show (b.length : Int) > 4000 by omega, ↓reduceIte, hsi, Option.bind_some]
        refine Ev.step (f := fun _ => some true) (fun _ => ?_) (Ev.now _)
        rw [ByteArray.toList_eq]
        rfl

end Go.Proofs.Ytoojdlobnbakoaa.Pure
