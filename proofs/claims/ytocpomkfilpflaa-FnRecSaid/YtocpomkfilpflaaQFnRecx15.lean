-- A walk, by a program of this session.
import Derived.Test.YtocpomkfilpflaaQFnRecx0
import Derived.Test.YtocpomkfilpflaaQFnRecx4
import Derived.Test.YtocpomkfilpflaaQFnRecx7
import Derived.Test.YtocpomkfilpflaaQFnRecx8
import Derived.Test.YtocpomkfilpflaaQFnRecx11
import Derived.Test.YtocpomkfilpflaaQFnRecx14
namespace Go.Proofs.Ytocpomkfilpflaa.QFnRec
open Go.RowKit Go.Proofs.YtocpomkfilpflaaW.PrintWords Go.Proofs.YtocpomkfilpflaaW.PrintLast Go.Proofs.YtocpomkfilpflaaW.PrintMore
attribute [local go_sem] max2_int min2_int max_two min_two max_three min_three max_four min_four   -- for this text's walks alone
set_option linter.unusedVariables false
set_option linter.unusedSimpArgs false

/-! ### spec_DrawRecRead: function 17 -/
def spec_DrawRecRead.j2 (c : List Int) (i h : Int) (b : List Int) : Option ByteArray := (spec_l1Once.f c i h 9).bind fun o => if o.1 = true then some (strOfNums (b ++ [0])) else some (strOfNums b)
def spec_DrawRecRead.j1 (c : List Int) (i h : Int) (b : List Int) : Option ByteArray := (spec_l1Once.f c i h 6).bind fun o => if o.1 = true then ((spec_l1Below.f c o.2.1 o.2.2 ((b.length : Int) + 1)).bind fun n => if 0 ≤ n.1 ∧ n.1 ≤ (b.length : Int) then spec_DrawRecRead.j2 c n.2.1 n.2.2 (b.take n.1.toNat) else none) else spec_DrawRecRead.j2 c o.2.1 o.2.2 b
def spec_DrawRecRead.j0 (c : List Int) (i h : Int) (b : List Int) : Option ByteArray := (spec_l1Once.f c i h 3).bind fun o => if o.1 = true then ((spec_l1Below.f c o.2.1 o.2.2 (b.length : Int)).bind fun n => (spec_l1PickInt.f c n.2.1 n.2.2 [0, 1, 2, 3, 4, 5, 127, 128]).bind fun x => if 0 ≤ n.1 ∧ n.1 < (b.length : Int) then spec_DrawRecRead.j1 c x.2.1 x.2.2 (b.set n.1.toNat (x.1 % 256)) else none) else spec_DrawRecRead.j1 c o.2.1 o.2.2 b
def spec_DrawRecRead.f (k : Nat) (l0 : List Int) : Option ByteArray := (spec_l1New.f k l0).bind fun c => (spec_l6DrawRight.f k c.1 c.2.1 c.2.2 9).bind fun q => (spec_l6DrawNext.f k c.1 q.2.2.2.1 q.2.2.2.2 q.1 q.2.1 q.2.2.1).bind fun p => (spec_RecPack.f k p.1 p.2.1 p.2.2.1 p.2.2.2.1 p.2.2.2.2.1 p.2.2.2.2.2.1 p.2.2.2.2.2.2.1 p.2.2.2.2.2.2.2.1 p.2.2.2.2.2.2.2.2.1 p.2.2.2.2.2.2.2.2.2.1).bind fun s => if s.1.size ≤ 100000 then spec_DrawRecRead.j0 c.1 p.2.2.2.2.2.2.2.2.2.2.1 p.2.2.2.2.2.2.2.2.2.2.2 (bytesOf (if s.2 = true then s.1 else ⟨#[3, 0]⟩)) else none
theorem spec_DrawRecRead.mono : ∀ a0 k, LeO (spec_DrawRecRead.f k a0) (spec_DrawRecRead.f (k + 1) a0) := by
  intro a0 k; unfold spec_DrawRecRead.f; refine LeO.bind (spec_l1New.mono _ _) fun c => ?_
  refine LeO.bind (spec_l6DrawRight.mono _ _ _ _ _) fun q => ?_
  refine LeO.bind (spec_l6DrawNext.mono _ _ _ _ _ _ _) fun p => ?_
  refine LeO.bind (spec_RecPack.mono _ _ _ _ _ _ _ _ _ _ _) fun s => ?_
  exact LeO.refl _
def BRow (W : World) (g cap : Nat) (xs : List Int) : Prop := xs.length ≤ cap ∧ xs.length ≤ 100001 ∧ (∀ j, j < cap → (W.cell? ⟨g, j, none⟩).isSome = true ∧ W.frozen? ⟨g, j, none⟩ = false) ∧ (∀ (j : Nat) (v : Int), xs[j]? = some v → W.cell? ⟨g, j, none⟩ = some (.int .u8 v))
theorem BRow.move {W W' : World} {g cap : Nat} {xs : List Int} (h : BRow W g cap xs) (e : W'.heap[g]? = W.heap[g]?) : BRow W' g cap xs := by
  have hc : ∀ j, W'.cell? ⟨g, j, none⟩ = W.cell? ⟨g, j, none⟩ := fun j => by simp [World.cell?, e]
  have hf : ∀ j, W'.frozen? ⟨g, j, none⟩ = W.frozen? ⟨g, j, none⟩ := fun j => by simp [World.frozen?, e]
  exact ⟨h.1, h.2.1, fun j hj => by rw [hc, hf]; exact h.2.2.1 j hj, fun j v hv => by rw [hc]; exact h.2.2.2 j v hv⟩
theorem BRow.take {W : World} {g cap : Nat} {xs : List Int} (h : BRow W g cap xs) (n : Nat) : BRow W g cap (xs.take n) := by
  refine ⟨Nat.le_trans (by rw [List.length_take]; omega) h.1, Nat.le_trans (by rw [List.length_take]; omega) h.2.1, h.2.2.1, fun j v hv => h.2.2.2 j v ?_⟩; rw [List.getElem?_take] at hv
  split at hv
  · exact hv
  · cases hv
theorem BRow.set {W : World} {g cap : Nat} {xs : List Int} (h : BRow W g cap xs) (n : Nat) (v : Int) (hn : n < xs.length) : BRow (W.setCell ⟨g, n, none⟩ (.int .u8 v)) g cap (xs.set n v) := by
  have hv : ∃ u, W.cell? ⟨g, n, none⟩ = some u := Option.isSome_iff_exists.1 (h.2.2.1 n (Nat.lt_of_lt_of_le hn h.1)).1; obtain ⟨u, hu⟩ := hv; have hs := World.cell?_setCell_same W ⟨g, n, none⟩ (.int .u8 v) hu; have ho : ∀ j, j ≠ n → (W.setCell ⟨g, n, none⟩ (.int .u8 v)).cell? ⟨g, j, none⟩ = W.cell? ⟨g, j, none⟩ := fun j hj => World.cell?_setCell_other W ⟨g, n, none⟩ ⟨g, j, none⟩ _ (by simp [Ne.symm hj])
  refine ⟨by rw [List.length_set]; exact h.1, by rw [List.length_set]; exact h.2.1, fun j hj => ⟨?_, ?_⟩, fun j x hx => ?_⟩
  · by_cases e : j = n
    · rw [e, hs]; rfl
    · rw [ho j e]; exact (h.2.2.1 j hj).1
  · rw [World.frozen?_setCell]; exact (h.2.2.1 j hj).2
  · rw [List.getElem?_set] at hx; by_cases e : n = j
    · rw [if_pos e, if_pos hn] at hx; obtain rfl := Option.some.inj hx; rw [← e]; exact hs
    · rw [if_neg e] at hx; rw [ho j (fun q => e q.symm)]; exact h.2.2.2 j x hx
theorem BRow.reads {W : World} {g cap : Nat} {xs : List Int} (h : BRow W g cap xs) : Kd.C (Kd.int .u8) W (some ⟨g, 0, none⟩) xs.length xs := by
  refine ⟨rfl, by have := h.2.1; omega, fun _ => ⟨_, rfl, fun j p hp => ⟨[.int .u8 p], rfl, rfl, fun i u hu => ?_⟩⟩⟩
  match i, hu with
  | 0, hu =>
    obtain rfl := Option.some.inj hu; have e : (⟨g, 0, none⟩ : Addr).add (j * 1 + 0) = ⟨g, j, none⟩ := by unfold Addr.add; split <;> simp_all
    show W.cell? ((⟨g, 0, none⟩ : Addr).add (j * 1 + 0)) = _
    rw [e]; exact h.2.2.2 j p hp
  | i + 1, hu => simp at hu
theorem BRow.new (W : World) (s : ByteArray) (hs : s.size ≤ 100000) : BRow (Lib.bytesWorld W 5 s) W.heap.size (grownCap W s.size 0 5) (bytesOf s) := by
  have hb := Lib.bytesWorld_at_new W 5 s; have hl : (bytesOf s).length = s.size := bytesOf_length s; have hcap : s.size ≤ grownCap W s.size 0 5 := grownCap_ge _ _ _ _; have hsz : (Lib.bytesCells W 5 s).size = grownCap W s.size 0 5 := by
    unfold Lib.bytesCells; rw [Array.size_append, Array.size_map, Array.size_replicate]; have : s.data.size = s.size := rfl; omega
  refine ⟨by rw [hl]; exact hcap, by rw [hl]; omega, fun j hj => ⟨?_, ?_⟩, fun j v hv => ?_⟩
  · simp only [World.cell?, hb]; rw [hsz.symm] at hj
    simp [hj]
  · simp only [World.frozen?, hb]; rw [hsz]
    simp; omega
  · have hj : j < s.size := by rw [← hl]; exact (List.getElem?_eq_some_iff.1 hv).1
    rw [Lib.bytesWorld_cell W 5 s j hj]; unfold bytesOf at hv; rw [List.getElem?_map] at hv; have hj2 : j < s.data.toList.length := by simpa using hj
    rw [List.getElem?_eq_getElem hj2] at hv; simp only [Option.map_some, Option.some.injEq] at hv; rw [← hv, List.getD_eq_getElem?_getD, List.getElem?_eq_getElem hj2]; rfl
theorem BRow.push {W : World} {g cap : Nat} {xs : List Int} (h : BRow W g cap xs) (v : Int) (hl : xs.length ≤ 100000) (hroom : xs.length + 1 ≤ cap) : BRow (W.setCell ⟨g, xs.length, none⟩ (.int .u8 v)) g cap (xs ++ [v]) := by
  obtain ⟨u, hu⟩ := Option.isSome_iff_exists.1 (h.2.2.1 xs.length (by omega)).1; have hs := World.cell?_setCell_same W ⟨g, xs.length, none⟩ (.int .u8 v) hu; have ho : ∀ j, j ≠ xs.length → (W.setCell ⟨g, xs.length, none⟩ (.int .u8 v)).cell? ⟨g, j, none⟩ = W.cell? ⟨g, j, none⟩ := fun j hj => World.cell?_setCell_other W ⟨g, xs.length, none⟩ ⟨g, j, none⟩ _ (by simp [Ne.symm hj])
  refine ⟨by simpa using hroom, by simpa using hl, fun j hj => ⟨?_, ?_⟩, fun j x hx => ?_⟩
  · by_cases e : j = xs.length
    · rw [e, hs]; rfl
    · rw [ho j e]; exact (h.2.2.1 j hj).1
  · rw [World.frozen?_setCell]; exact (h.2.2.1 j hj).2
  · by_cases e : j < xs.length
    · rw [List.getElem?_append_left e] at hx; rw [ho j (by omega)]; exact h.2.2.2 j x hx
    · have hj : j = xs.length := by
        have := (List.getElem?_eq_some_iff.1 hx).1
        simp at this
        omega
      subst hj
      simp at hx
      rw [hs, hx]
theorem reps_bytes (l : List Int) : Reps (fun (v : Int) cs => cs = [Value.int .u8 v]) 1 l (l.map fun v => .int .u8 v) := by
  refine ⟨by simp, fun j p hj => ?_⟩; obtain ⟨h, rfl⟩ := List.getElem?_eq_some_iff.1 hj; show ((l.map fun v => Value.int .u8 v).drop (j * 1)).take 1 = _
  rw [Nat.mul_one, List.drop_eq_getElem_cons (by simpa using h)]
  simp
theorem append_zero {P : Program} {ops : Array Oper} {rest : List Oper} {o : Oper} {a : Act} {Q : Exit → Act → World → Prop} (w0 W : World) (t e : TypeId) (gb cap : Nat) (xs : List Int) (hR : BRow W gb cap xs) (hxl : xs.length ≤ 100000) (s x : Operand) (hg : o.guard = none)
    (hop : o.op = Op.call { callee := Callee.builtin Builtin.append, args := #[s, x], argTypes := #[t, t] }) (ht : P.underlying t = some (.slice e)) (hinfo : (P.info? e).map (fun i => (i.zero, i.size, i.bytes)) = some (some (.int .u8 0), 1, 1))
    (hs : a.eval s = .slice (some ⟨gb, 0, none⟩) xs.length cap) (ad : Addr) (cx : Nat) (hx : a.eval x = .slice (some ad) 1 cx) (hc : W.cell? ad = some (.int .u8 0))
    (HB : Below w0.heap.size w0 W) (hgb : w0.heap.size ≤ gb)
    (h : ∀ A' c' w', Kd.C (Kd.int .u8) w' A' (xs ++ [0]).length (xs ++ [0]) → Below w0.heap.size w0 w' → wpList P ops Q rest (a.put o.dst (.slice A' (xs ++ [0]).length c')) w') : wpList P ops Q (o :: rest) a W := by
  obtain ⟨i0, hi, hz⟩ := Option.map_eq_some_iff.1 hinfo; simp only [Prod.mk.injEq] at hz; obtain ⟨hz0, hz1, hz2⟩ := hz; have bA : (xs ++ [0]).length = xs.length + 1 := by simp
  refine wpList_append_arg W hg s x t hop e i0 (.int .u8 0) 1 1 ht hi hz0 hz1 hz2 rfl (by omega) gb 0 xs.length cap (xs.map fun v => .int .u8 v) hs (by simp) ?_ ad 1 cx [.int .u8 0] hx (by simp) ?_ (by simp [Value.oneCell']) ?_ (by have := hR.2.1; unfold maxLen; omega) (by have := hR.2.1; omega) ?_ ?_
  · intro j u hj; rw [List.getElem?_map] at hj; obtain ⟨v, hv, rfl⟩ := Option.map_eq_some_iff.1 hj
    simpa using hR.2.2.2 j v hv
  · intro j u hj
    match j, hj with
    | 0, hj =>
      obtain rfl := Option.some.inj hj; have : ad.add 0 = ad := by unfold Addr.add; split <;> simp_all
      rw [this]; exact hc
    | j + 1, hj => simp at hj
  · intro hroom j hj; have : j = 0 := by simpa using hj
    subst this
    simpa using hR.2.2.1 xs.length (by omega)
  · intro hroom; rw [← bA]; have e : W.setCells gb (0 + xs.length * 1) [.int .u8 0] = W.setCell ⟨gb, xs.length, none⟩ (.int .u8 0) := by rw [show 0 + xs.length * 1 = xs.length by omega]; rfl
    rw [e]; exact h (some ⟨gb, 0, none⟩) cap _ (hR.push 0 hxl hroom).reads (HB.setCell hgb _)
  · intro hfull v' w' ho hgr; rw [← bA] at ho; obtain ⟨A', c', rfl, hr⟩ := own_reads_row (R := fun (v : Int) cs => cs = [Value.int .u8 v]) (ps := xs ++ [0]) ho (by have := reps_bytes (xs ++ [0]); rw [List.map_append] at this; exact this) rfl; refine h A' c' w' hr (HB.grown hgr HB.size (by simp))
theorem lit_reads (W : World) (e : TypeId) (l : List Int) (hl : l.length ≤ 1000) : Kd.C (Kd.int .i64) (W.alloc (.cells (l.map fun v => Value.int .i64 v).toArray e)) (some ⟨W.heap.size, 0, none⟩) l.length l := by
  refine ⟨rfl, by omega, fun _ => ⟨_, rfl, fun j p hp => ⟨[.int .i64 p], rfl, rfl, fun i u hu => ?_⟩⟩⟩
  match i, hu with
  | 0, hu =>
    obtain rfl := Option.some.inj hu; have e1 : (⟨W.heap.size, 0, none⟩ : Addr).add (j * 1 + 0) = ⟨W.heap.size, j, none⟩ := by unfold Addr.add; split <;> simp_all
    show World.cell? _ ((⟨W.heap.size, 0, none⟩ : Addr).add (j * 1 + 0)) = _
    rw [e1, blk_cell (heap_alloc_new W _)]
    simp [hp]
  | i + 1, hu => simp at hu
theorem BRow.fresh {w0 W : World} {g : Nat} {c : List Int} {i h : Int} (hi : IsS99 w0 W g c i h) : g < W.heap.size := by
  obtain ⟨_, _, hb, _⟩ := hi; exact (Array.getElem?_eq_some_iff.1 hb).1
set_option maxHeartbeats 8000000 in
set_option maxRecDepth 100000 in
theorem spec_DrawRecRead.calls (k : Nat) (A0 : Option Addr) (c0 : Nat) (l0 : List Int) (r : ByteArray) (w : World) (aK : Kd.C (Kd.int .u8) w A0 l0.length l0) (aL : l0.length ≤ c0) (h : spec_DrawRecRead.f k l0 = some r) :
    Calls Try.prog 17 #[.slice A0 l0.length c0] w fun e w' => e = .returned (.string r) ∧ Below w.heap.size w w' := by
  unfold spec_DrawRecRead.f at h; replace h := Option.bind_eq_some_iff.mp h; obtain ⟨⟨d1, d2, d3⟩, e1, h⟩ := h; replace h := Option.bind_eq_some_iff.mp h; obtain ⟨⟨q1, q2, q3, q4, q5⟩, e2, h⟩ := h; replace h := Option.bind_eq_some_iff.mp h; obtain ⟨⟨p1, p2, p3, p4, p5, p6, p7, p8, p9, pa, pb, pc⟩, e3, h⟩ := h; replace h := Option.bind_eq_some_iff.mp h; obtain ⟨⟨s1, ok⟩, e4, h⟩ := h
  dsimp only at e2 e3 e4 h
  have HR := aM aK; have HC := aM aL; have E1 := aM e1; have E2 := aM e2; have E3 := aM e3; have E4 := aM e4; have HF := aM h; have HB := aM (Below.refl w.heap.size w); clear aK aL e1 e2 e3 e4 h; go_enter Try.func17, Try.ntmps17
  go_upto_if 18 with (first
    | (go_at_call 29; (refine (spec_l1New.calls k A0 c0 l0 d1 d2 d3 w w (Below.refl _ _) HR.out HC.out E1.out).mono ?_); rintro e w6 ⟨g, rfl, hi, hb, bK⟩; have HI := aM hi; replace HB := aM hb; clear hi hb bK)
    | (go_at_call 40; (refine (spec_l6DrawRight.calls k g d1 d2 d3 9 q1 q2 q3 q4 q5 w w6 HI.out HB.out E2.out).mono ?_); rintro e w7 ⟨v2, rfl, hR, hi, hb, hk⟩; obtain ⟨Ar, cr, er⟩ := Kd.R_slice hR; subst er; have HH := aM hR; replace HI := aM hi; replace HB := aM hb; clear hR hi hb hk)
    | (go_at_call 50; (refine (spec_l6DrawNext.calls k g d1 q4 q5 q1 q2 Ar cr q3 p1 p2 p3 p4 p5 p6 p7 p8 p9 pa pb pc w w7 HI.out HB.out (Kd.C_foot_own (IsS99.apart HI.out HH.out (by decide)) (fun _ h_ => h_.2)) (Kd.R_reads' HH.out).2.1 E3.out).mono ?_); rintro e w8 ⟨rfl, hi, hb, hk⟩; replace HI := aM hi; replace HB := aM hb; clear hi hb hk HH)
    | (go_at_call 49; (refine (spec_RecPack.calls k p1 p2 p3 p4 p5 p6 p7 p8 p9 pa s1 ok w8 E4.out).mono ?_); rintro e w9 ⟨rfl, hb⟩; replace HI := aM (HI.out.below hb); replace HB := aM (HB.out.trans (hb.mono HB.out.size)); clear hb))
  obtain ⟨s, hs⟩ : ∃ s, s = (if ok = true then s1 else ⟨#[3, 0]⟩) := ⟨_, rfl⟩; have hf := HF.out; rw [← hs] at hf; have hz : s1.size ≤ 100000 := by
    by_cases q : s1.size ≤ 100000
    · exact q
    · rw [if_neg q] at hf; cases hf
  rw [if_pos hz] at hf; have HS := aM (show s.size ≤ 100000 by rw [hs]; split; exact hz; decide); have HF0 := aM hf; have HSE := aM hs; clear hf hz hs HF E1 E2 E3 E4; go_cut [4] (fun s4 wc => s4 = .string s ∧ Aside0 (IsS99 w wc g d1 pb pc) ∧ Aside0 (Below w.heap.size w wc))
  case first =>
    cases ok with
    | true => go_wp2; go_meet; case rel => exact ⟨(by rw [HSE.out] <;> first | rfl | simp), HI, HB⟩
    | false => go_wp2; go_meet; case rel => exact ⟨(by rw [HSE.out] <;> first | rfl | simp), HI, HB⟩
  case rest =>
    clear HI HB HSE; obtain ⟨rfl, HI, HB⟩ := hcut; have hcv := Lib.run_convert_string_bytes (P := Try.prog) wc 9 22 5 s Try.underlying9 Try.underlying22 Try.underlying5; have HBR := aM (BRow.new wc s HS.out); have HLT := aM (BRow.fresh HI.out); have HB5 : Below wc.heap.size wc (Lib.bytesWorld wc 5 s) := bytes_below (Below.refl _ _) (Nat.le_refl _) _ _; have HI5 := aM (HI.out.below HB5); have HB6 := aM (HB.out.trans (HB5.mono HB.out.size)); have HXL := aM (show (bytesOf s).length ≤ 100000 by rw [bytesOf_length]; exact HS.out); have HGB := aM HB.out.size; obtain ⟨xs, hxs⟩ : ∃ xs, xs = bytesOf s := ⟨_, rfl⟩; have hxl : xs.length = s.size := by rw [hxs, bytesOf_length]
    rw [← hxs] at HBR HF0 HXL; obtain ⟨cap, hcap⟩ : ∃ c, c = grownCap wc s.size 0 5 := ⟨_, rfl⟩; rw [← hcap] at HBR hcv; rw [← hxl] at hcv; obtain ⟨gb, hgb⟩ : ∃ n, n = wc.heap.size := ⟨_, rfl⟩; rw [← hgb] at HBR HLT hcv HGB; have HGS5 := aM (show gb < (Lib.bytesWorld wc 5 s).heap.size by rw [Lib.bytesWorld_size]; omega); clear HB5 hxs hcap hgb HI HB HS hxl; unfold spec_DrawRecRead.j0 at HF0; obtain ⟨⟨o, i1, h1⟩, e5, hf⟩ := Option.bind_eq_some_iff.mp HF0.out; have E5 := aM e5; have HF := aM hf; clear e5 hf HF0; go_upto_if 22 with (go_at_call 30; (refine (spec_l1Once.calls g d1 pb pc 3 o i1 h1 w _ HI5.out HB6.out E5.out).mono ?_); rintro e aP ⟨rfl, hi, hb, hk⟩; have HI := aM hi; have HB := aM hb; have HGS := aM (Nat.lt_of_lt_of_le HGS5.out hk.1); replace HBR := aM (HBR.out.move (hk.2 gb HGS5.out (by have := HLT.out; omega) (by simp))); clear hi hb hk)
    clear HI5 HB6 hcv HGS5 E5; go_cut [6] (fun s6 wc => ∃ (xs : List Int) (i h : Int), s6 = .slice (some ⟨gb, 0, none⟩) xs.length cap ∧ Aside0 (BRow wc gb cap xs) ∧ Aside0 (xs.length ≤ 100000) ∧ Aside0 (spec_DrawRecRead.j1 d1 i h xs = some r) ∧ Aside0 (IsS99 w wc g d1 i h) ∧ Aside0 (Below w.heap.size w wc) ∧ Aside0 (gb < wc.heap.size))
    case first =>
      cases o with
      | false =>
        go_wp2; go_meet
        case rel => exact ⟨xs, i1, h1, rfl, HBR, HXL, ⟨HF.out⟩, HI, HB, HGS⟩
      | true =>
        obtain ⟨⟨n, i2, h2⟩, e6, hf⟩ := Option.bind_eq_some_iff.mp HF.out; replace hf := Option.bind_eq_some_iff.mp hf; obtain ⟨⟨x, i3, h3⟩, e7, hf⟩ := hf
        dsimp only at e6 e7 hf
        have hn : 0 ≤ n ∧ n < (xs.length : Int) := by
          by_cases q : 0 ≤ n ∧ n < (xs.length : Int)
          · exact q
          · rw [if_neg q] at hf; cases hf
        rw [if_pos hn] at hf; have E6 := aM e6; have E7 := aM e7; have HF2 := aM hf; have HN := aM hn; have n0 := eq_true hn.1; have n1 := eq_true hn.2; have n2 := eq_true (show n.toNat < xs.length by omega); clear e6 e7 hf hn HF; go_wp2_with (first
          | (go_at_call 31; (refine (spec_l1Below.calls g d1 i1 h1 (xs.length : Int) n i2 h2 w aP HI.out HB.out E6.out).mono ?_); rintro e aQ ⟨rfl, hi, hb, hk⟩; replace HI := aM hi; replace HB := aM hb; replace HBR := aM (HBR.out.move (hk.2 gb HGS.out (by have := HLT.out; omega) (by simp))); replace HGS := aM (Nat.lt_of_lt_of_le HGS.out hk.1); clear hi hb hk)
          | (go_at_call 51; (refine (spec_l1PickInt.calls g d1 i2 h2 (some ⟨aQ.heap.size, 0, none⟩) 8 [0, 1, 2, 3, 4, 5, 127, 128] x i3 h3 w _ (HI.out.alloc _) (HB.out.alloc HB.out.size _) (lit_reads aQ 3 [0, 1, 2, 3, 4, 5, 127, 128] (by decide)) (by decide) (fun ad ea _ => by injection ea with ea; subst ea; have := BRow.fresh HI.out; intro q; simp at q; omega) E7.out).mono ?_); rintro e bN ⟨rfl, hi, hb, hk⟩; have hgs2 := Nat.lt_trans HGS.out (show aQ.heap.size < (World.alloc aQ (.cells (([0, 1, 2, 3, 4, 5, 127, 128] : List Int).map fun v => Value.int .i64 v).toArray 3)).heap.size by simp); replace HI := aM hi; replace HB := aM hb; replace HBR := aM (HBR.out.move ((hk.2 gb hgs2 (by have := HLT.out; omega) (by simp)).trans (heap_alloc_old _ _ HGS.out))); replace HGS := aM (Nat.lt_of_lt_of_le hgs2 hk.1); clear hi hb hk hgs2; obtain ⟨u, hu⟩ := Option.isSome_iff_exists.1 (HBR.out.2.2.1 n.toNat (by have := HN.out; have := HBR.out.1; omega)).1; have hfz := (HBR.out.2.2.1 n.toNat (by have := HN.out; have := HBR.out.1; omega)).2))
        go_meet
        case rel => exact ⟨xs.set n.toNat (x % 256), i3, h3, by rw [List.length_set], ⟨HBR.out.set _ _ (by have := HN.out; omega)⟩, ⟨by rw [List.length_set]; exact HXL.out⟩, ⟨HF2.out⟩, ⟨HI.out.far (by have := HLT.out; show g ≠ gb; omega) _⟩, ⟨HB.out.setCell HGB.out _⟩, ⟨by simpa using HGS.out⟩⟩
    case rest =>
      clear HI HB HBR HGS HXL HF; obtain ⟨xs, i, h, rfl, HBR, HXL, HF1, HI, HB, HGS⟩ := hcut; unfold spec_DrawRecRead.j1 at HF1; obtain ⟨⟨o, i1, h1⟩, e5, hf⟩ := Option.bind_eq_some_iff.mp HF1.out; have E5 := aM e5; have HF := aM hf; clear e5 hf HF1; go_upto_if 34 with (go_at_call 30; (refine (spec_l1Once.calls g d1 i h 6 o i1 h1 w wc HI.out HB.out E5.out).mono ?_); rintro e aP ⟨rfl, hi, hb, hk⟩; replace HI := aM hi; replace HB := aM hb; replace HBR := aM (HBR.out.move (hk.2 gb HGS.out (by have := HLT.out; omega) (by simp))); replace HGS := aM (Nat.lt_of_lt_of_le HGS.out hk.1); clear hi hb hk)
      clear E5; go_cut [6] (fun s6 wc => ∃ (xs : List Int) (i h : Int), s6 = .slice (some ⟨gb, 0, none⟩) xs.length cap ∧ Aside0 (BRow wc gb cap xs) ∧ Aside0 (xs.length ≤ 100000) ∧ Aside0 (spec_DrawRecRead.j2 d1 i h xs = some r) ∧ Aside0 (IsS99 w wc g d1 i h) ∧ Aside0 (Below w.heap.size w wc) ∧ Aside0 (gb < wc.heap.size))
      case first =>
        cases o with
        | false =>
          go_wp2; go_meet
          case rel => exact ⟨xs, i1, h1, rfl, HBR, HXL, ⟨HF.out⟩, HI, HB, HGS⟩
        | true =>
          obtain ⟨⟨n, i2, h2⟩, e6, hf⟩ := Option.bind_eq_some_iff.mp HF.out
          dsimp only at e6 hf
          have hn : 0 ≤ n ∧ n ≤ (xs.length : Int) := by
            by_cases q : 0 ≤ n ∧ n ≤ (xs.length : Int)
            · exact q
            · rw [if_neg q] at hf; cases hf
          rw [if_pos hn] at hf; have E6 := aM e6; have HF2 := aM hf; have HN := aM hn; have hxl := HXL.out; have hxc := HBR.out.1; have e1 : IntKind.i64.wrap ((xs.length : Int) + 1) = (xs.length : Int) + 1 := (i64_w _).trans (by unfold wrap64; omega); obtain ⟨i0, hi0, _, hsz, _⟩ := info_parts info5; have bO := cut_to (P := Try.prog) 22 5 .i64 Try.underlying22 hi0 (some ⟨gb, 0, none⟩) xs.length cap n hn.1 hn.2 hxc; clear e6 hf hn HF hi0 hsz hxl hxc; go_wp2_with (go_at_call 31; (refine (spec_l1Below.calls g d1 i1 h1 ((xs.length : Int) + 1) n i2 h2 w aP HI.out HB.out E6.out).mono ?_); rintro e aQ ⟨rfl, hi, hb, hk⟩; replace HI := aM hi; replace HB := aM hb; replace HBR := aM (HBR.out.move (hk.2 gb HGS.out (by have := HLT.out; omega) (by simp))); replace HGS := aM (Nat.lt_of_lt_of_le HGS.out hk.1); clear hi hb hk)
          go_meet
          case rel => exact ⟨xs.take n.toNat, i2, h2, by rw [List.length_take, Nat.min_eq_left (by have := HN.out; omega)], ⟨HBR.out.take _⟩, ⟨by rw [List.length_take]; have := HXL.out; omega⟩, ⟨HF2.out⟩, HI, HB, HGS⟩
      case rest =>
        clear HI HB HBR HGS HXL HF; obtain ⟨xs, i, h, rfl, HBR, HXL, HF1, HI, HB, HGS⟩ := hcut; unfold spec_DrawRecRead.j2 at HF1; obtain ⟨⟨o, i1, h1⟩, e5, hf⟩ := Option.bind_eq_some_iff.mp HF1.out; have E5 := aM e5; have HF := aM hf; clear e5 hf HF1; go_upto_if 43 with (go_at_call 30; (refine (spec_l1Once.calls g d1 i h 9 o i1 h1 w wc HI.out HB.out E5.out).mono ?_); rintro e aP ⟨rfl, hi, hb, hk⟩; replace HI := aM hi; replace HB := aM hb; replace HBR := aM (HBR.out.move (hk.2 gb HGS.out (by have := HLT.out; omega) (by simp))); replace HGS := aM (Nat.lt_of_lt_of_le HGS.out hk.1); clear hi hb hk)
        clear E5; go_cut [6] (fun s6 wc => ∃ (ys : List Int) (A' : Option Addr) (c' : Nat), s6 = .slice A' ys.length c' ∧ Aside0 (Kd.C (Kd.int .u8) wc A' ys.length ys) ∧ Aside0 (r = strOfNums ys) ∧ Aside0 (Below w.heap.size w wc))
        case first =>
          cases o with
          | false =>
            go_wp2; go_meet
            case rel => exact ⟨xs, some ⟨gb, 0, none⟩, cap, rfl, ⟨HBR.out.reads⟩, ⟨(Option.some.inj HF.out).symm⟩, HB⟩
          | true =>
            have HRR := aM (show r = strOfNums (xs ++ [0]) from (Option.some.inj HF.out).symm); go_wp2_with ((with_reducible refine gate_builtin (b := .append) (xs := #[.tmp 44, .tmp 45]) rfl ?_); at_builtin; refine append_zero w _ 22 5 gb cap xs (HBR.out.move (heap_alloc_old _ _ HGS.out)) HXL.out (.tmp 44) (.tmp 45) rfl rfl Try.underlying22 info5 rfl ⟨aP.heap.size, 0, none⟩ 1 rfl (by rw [blk_cell (heap_alloc_new _ _)]; rfl) (HB.out.alloc HB.out.size _) HGB.out ?_; intro A' c' bP hC hb; have HC' := aM hC; replace HB := aM hb; clear hC hb)
            go_meet
            case rel => exact ⟨xs ++ [0], A', c', by rw [List.length_append]; rfl, HC', HRR, HB⟩
        case rest =>
          clear HI HB HBR HGS HXL HF; obtain ⟨ys, A', c', rfl, HC', HRR, HB⟩ := hcut; have hcv := Kd.C_string (P := Try.prog) (c := c') Try.underlying22 Try.underlying5 Try.underlying9 HC'.out; go_wp2; go_ret
          exact ⟨by rw [HRR.out]; rfl, HB.out⟩


end Go.Proofs.Ytocpomkfilpflaa.QFnRec
