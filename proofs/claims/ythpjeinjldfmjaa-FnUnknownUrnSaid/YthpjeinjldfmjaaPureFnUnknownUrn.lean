/- The law FnUnknownUrn: an unknown box is an urn with more of the same; it holds at every code. -/
import Derived.Test.YthpjeinjldfmjaaQFnUnknownUrnx4
namespace Go.Proofs.Ythpjeinjldfmjaa.Pure
open Go.RowKit Go.Proofs.Ythpjeinjldfmjaa.QFnUnknownUrn Go.Proofs.YthpjeinjldfmjaaW.PrintWords Go.Proofs.YthpjeinjldfmjaaW.PrintLast
theorem w64 {x : Int} (h0 : -9223372036854775808 ≤ x) (h1 : x ≤ 9223372036854775807) : wrap64 x = x := by
  unfold wrap64
  omega
theorem fits {x : Int} (h : (Lit.int .i64 x).wf = true) : -9223372036854775808 ≤ x ∧ x ≤ 9223372036854775807 := by
  simp only [Lit.wf, Bool.and_eq_true, decide_eq_true_eq] at h
  exact h
theorem fits8 {x : Int} (h : (Lit.int .u8 x).wf = true) : 0 ≤ x ∧ x ≤ 255 := by
  simp only [Lit.wf, Bool.and_eq_true, decide_eq_true_eq] at h
  exact h

theorem xor_pos (a b : Int) (ha : 0 ≤ a) (ha1 : a < 1000000000) (hb : 0 ≤ b) (hb1 : b < 1000000000) : 0 ≤ Go.bits .xor .i64 a b := by
  obtain ⟨m, rfl⟩ := Int.eq_ofNat_of_zero_le ha
  obtain ⟨n, rfl⟩ := Int.eq_ofNat_of_zero_le hb
  have hm : m < 2 ^ 30 := by omega
  have hn : n < 2 ^ 30 := by omega
  have hx : m ^^^ n < 2 ^ 30 := Nat.xor_lt_two_pow hm hn
  have e1 : m % 2 ^ 64 = m := Nat.mod_eq_of_lt (by omega)
  have e2 : n % 2 ^ 64 = n := Nat.mod_eq_of_lt (by omega)
  have e : (BitVec.ofNat 64 m ^^^ BitVec.ofNat 64 n).toNat = m ^^^ n := by
    rw [BitVec.toNat_xor, BitVec.toNat_ofNat, BitVec.toNat_ofNat, e1, e2]
  show 0 ≤ IntKind.i64.wrap (((BitVec.ofNat 64 m ^^^ BitVec.ofNat 64 n).toNat : Nat) : Int)
  rw [e, IntKind.wrap_i64]
  omega
theorem rd_u8 {l : List Int} (h : ∀ x ∈ l, 0 ≤ x ∧ x ≤ 255) (i : Int) : 0 ≤ rd l i ∧ rd l i ≤ 255 := by
  unfold rd
  rw [List.getD_eq_getElem?_getD]
  cases e : l[i.toNat]? with
  | none => simp
  | some x => exact h x (List.mem_of_getElem? e)
theorem tmod_in {x n : Int} (hx : 0 ≤ x) (hn : 1 ≤ n) : 0 ≤ Int.tmod x n ∧ Int.tmod x n < n := by
  rw [Int.tmod_eq_emod_of_nonneg hx]
  exact ⟨Int.emod_nonneg _ (by omega), Int.emod_lt_of_pos _ (by omega)⟩
theorem tdiv_in {x n : Int} (hx : 0 ≤ x) (hn : 1 ≤ n) : 0 ≤ Int.tdiv x n ∧ Int.tdiv x n ≤ x := by
  rw [Int.tdiv_eq_ediv_of_nonneg hx]
  exact ⟨Int.ediv_nonneg hx (by omega), Int.ediv_le_self _ hx⟩
/-- What a reader picks: a number below n, and one place further. -/
theorem pick_ok (k : Nat) (l : List Int) (p n : Int) (hl : ∀ x ∈ l, 0 ≤ x ∧ x ≤ 255) (hlen : l.length ≤ 2000) (hp : 0 ≤ p) (hp1 : p ≤ 1000000) :
    ∃ r, spec_l20Rd_pick.f (k + 1) l p n = some (r, p + 1) ∧ 0 ≤ r ∧ (n < 1 → r = 0) ∧ (1 ≤ n → r < n) := by
  unfold spec_l20Rd_pick.f
  have wp : wrap64 (p + 1) = p + 1 := w64 (by omega) (by omega)
  by_cases hn : n < 1
  · rw [if_pos hn]
    exact ⟨0, by simp [spec_l20Rd_pick.j0, wp], by omega, fun _ => rfl, fun h => by omega⟩
  · rw [if_neg hn]
    by_cases h0 : (l.length : Int) = 0
    · exact ⟨0, by simp [spec_l20Rd_pick.j0, wp, h0], by omega, fun _ => rfl, fun h => by omega⟩
    · have hb : ((l.length : Int) == 0) = false := by simpa using h0
      rw [hb, wp]
      have wq : wrap64 (p + 1 - 1) = p := by rw [w64 (by omega) (by omega)]; omega
      by_cases hlt : p < (l.length : Int)
      · obtain ⟨r0, r1⟩ := rd_u8 hl p
        have wr : wrap64 (rd l p) = rd l p := w64 (by omega) (by omega)
        have t := tmod_in r0 (show 1 ≤ n by omega)
        refine ⟨Int.tmod (rd l p) n, ?_, t.1, fun h => absurd h hn, fun _ => t.2⟩
        simp only [spec_l20Rd_pick.j0]
        rw [if_neg (by simp), wq, if_pos hlt, if_pos hp, if_neg (by omega), wr]
      · have hL : 1 ≤ (l.length : Int) := by omega
        have t1 := tmod_in hp hL
        have w7 : wrap64 (p * 7) = p * 7 := w64 (by omega) (by omega)
        have w73 : wrap64 (p * 7 + 3) = p * 7 + 3 := w64 (by omega) (by omega)
        have t2 := tmod_in (show 0 ≤ p * 7 + 3 by omega) hL
        obtain ⟨a0, a1⟩ := rd_u8 hl (Int.tmod p (l.length : Int))
        obtain ⟨b0, b1⟩ := rd_u8 hl (Int.tmod (p * 7 + 3) (l.length : Int))
        obtain ⟨q0, q1⟩ := tdiv_in hp hL
        have wa : wrap64 (rd l (Int.tmod p (l.length : Int))) = rd l (Int.tmod p (l.length : Int)) := w64 (by omega) (by omega)
        have wb : wrap64 (rd l (Int.tmod (p * 7 + 3) (l.length : Int))) = rd l (Int.tmod (p * 7 + 3) (l.length : Int)) := w64 (by omega) (by omega)
        have wc : wrap64 (Int.tdiv p (l.length : Int)) = Int.tdiv p (l.length : Int) := w64 (by omega) (by omega)
        generalize hA : rd l (Int.tmod p (l.length : Int)) = A at *
        generalize hB : rd l (Int.tmod (p * 7 + 3) (l.length : Int)) = B at *
        generalize hQ : Int.tdiv p (l.length : Int) = Q at *
        have e : wrap64 (wrap64 (wrap64 (wrap64 (wrap64 A * 131) + wrap64 (wrap64 B * 1117)) + wrap64 (p * 29)) + wrap64 (wrap64 Q * 53)) = A * 131 + B * 1117 + p * 29 + Q * 53 := by
          rw [wa, wb, wc, w64 (x := A * 131) (by omega) (by omega), w64 (x := B * 1117) (by omega) (by omega), w64 (x := p * 29) (by omega) (by omega), w64 (x := Q * 53) (by omega) (by omega),
            w64 (x := A * 131 + B * 1117) (by omega) (by omega), w64 (x := A * 131 + B * 1117 + p * 29) (by omega) (by omega), w64 (by omega) (by omega)]
        obtain ⟨d0, d1⟩ := tdiv_in (show 0 ≤ A * 131 + B * 1117 + p * 29 + Q * 53 by omega) (show (1 : Int) ≤ 64 by omega)
        have wd : wrap64 (Int.tdiv (A * 131 + B * 1117 + p * 29 + Q * 53) 64) = Int.tdiv (A * 131 + B * 1117 + p * 29 + Q * 53) 64 := w64 (by omega) (by omega)
        have hx := xor_pos (A * 131 + B * 1117 + p * 29 + Q * 53) (Int.tdiv (A * 131 + B * 1117 + p * 29 + Q * 53) 64) (by omega) (by omega) d0 (by omega)
        have t := tmod_in hx (show 1 ≤ n by omega)
        refine ⟨_, ?_, t.1, fun h => absurd h hn, fun _ => t.2⟩
        simp only [spec_l20Rd_pick.j0]
        rw [if_neg (by simp), wq, if_neg hlt, if_neg h0, if_pos t1.1, if_pos t1.2, w7, w73, if_pos t2.1, if_pos t2.2, if_neg (by omega), hA, hB, hQ, e, wd]
/-- What is read of a code. -/
theorem open_ok (l : List Int) (hl : ∀ x ∈ l, (Lit.int .u8 x).wf = true) : ∃ l', spec_l20Open.f l = some (l', 0) ∧ l'.length ≤ 2000 ∧ ∀ x ∈ l', 0 ≤ x ∧ x ≤ 255 := by
  unfold spec_l20Open.f
  by_cases h : (l.length : Int) > 2000
  · rw [if_pos h, if_pos (by omega)]
    exact ⟨_, rfl, by simp [List.length_take]; omega, fun x hx => fits8 (hl x (List.mem_of_mem_take hx))⟩
  · rw [if_neg h]
    exact ⟨_, rfl, by omega, fun x hx => fits8 (hl x hx)⟩

theorem all_at {p : Nat → Bool} {n : Nat} (h : (List.range n).all p = true) (i : Nat) (hi : i < n) : p i = true := by
  rw [List.all_eq_true] at h
  exact h i (List.mem_range.mpr hi)
/-- A check of all boxes that may be asked. -/
def boxAll (P : Int → Int → Int → Bool) : Bool :=
  (List.range 8).all fun i => (List.range (i + 2)).all fun f => (List.range (i + 2 - f)).all fun s => P ((i : Int) + 1) (f : Int) (s : Int)
def BoxIn (m f s : Int) : Prop := 1 ≤ m ∧ m ≤ 8 ∧ 0 ≤ f ∧ 0 ≤ s ∧ f + s ≤ m
instance (m f s : Int) : Decidable (BoxIn m f s) := by unfold BoxIn; infer_instance
theorem box_all {P : Int → Int → Int → Bool} (h : boxAll P = true) (m f s : Int) (hb : BoxIn m f s) : P m f s = true := by
  obtain ⟨h1, h2, h3, h4, h5⟩ := hb
  unfold boxAll at h
  have a := all_at h (m - 1).toNat (by omega)
  have b := all_at a f.toNat (by omega)
  have c := all_at b s.toNat (by omega)
  have e1 : (((m - 1).toNat : Nat) : Int) + 1 = m := by omega
  have e2 : ((f.toNat : Nat) : Int) = f := by omega
  have e3 : ((s.toNat : Nat) : Int) = s := by omega
  rw [e1, e2, e3] at c
  exact c
theorem box_some {P : Int → Int → Int → Option Bool} (h : boxAll (fun m f s => decide (P m f s = some true)) = true) (m f s : Int) (hb : BoxIn m f s) : P m f s = some true :=
  of_decide_eq_true (box_all h m f s hb)
/-- A check of all numbers in three spans. -/
def spanAll (l1 l2 l3 : Int) (n1 n2 n3 : Nat) (P : Int → Int → Int → Bool) : Bool :=
  (List.range n1).all fun i => (List.range n2).all fun j => (List.range n3).all fun k => P (l1 + (i : Int)) (l2 + (j : Int)) (l3 + (k : Int))
theorem span_some {l1 l2 l3 : Int} {n1 n2 n3 : Nat} {P : Int → Int → Int → Option Bool} (h : spanAll l1 l2 l3 n1 n2 n3 (fun a b c => decide (P a b c = some true)) = true) :
    ∀ a b c : Int, l1 ≤ a ∧ a < l1 + n1 ∧ l2 ≤ b ∧ b < l2 + n2 ∧ l3 ≤ c ∧ c < l3 + n3 → P a b c = some true := by
  intro a b c ⟨a0, a1, b0, b1, c0, c1⟩
  unfold spanAll at h
  have x := all_at h (a - l1).toNat (by omega)
  have y := all_at x (b - l2).toNat (by omega)
  have z := all_at y (c - l3).toNat (by omega)
  have e1 : l1 + (((a - l1).toNat : Nat) : Int) = a := by omega
  have e2 : l2 + (((b - l2).toNat : Nat) : Int) = b := by omega
  have e3 : l3 + (((c - l3).toNat : Nat) : Int) = c := by omega
  rw [e1, e2, e3] at z
  exact of_decide_eq_true z

theorem tdiv39 {r : Int} (h0 : 0 ≤ r) (h1 : r < 40) : 0 ≤ Int.tdiv r 39 ∧ Int.tdiv r 39 ≤ 1 := by
  rw [Int.tdiv_eq_ediv_of_nonneg h0]
  omega
theorem tdiv29 {r : Int} (h0 : 0 ≤ r) (h1 : r < 30) : 0 ≤ Int.tdiv r 29 ∧ Int.tdiv r 29 ≤ 1 := by
  rw [Int.tdiv_eq_ediv_of_nonneg h0]
  omega
theorem box_ok (k : Nat) (l : List Int) (hl : ∀ x ∈ l, 0 ≤ x ∧ x ≤ 255) (hlen : l.length ≤ 2000) :
    ∃ m f s p, spec_l20Box.f (k + 1) l 0 = some (m, f, s, p) ∧ 1 ≤ m ∧ m < 17 ∧ -9 ≤ f ∧ f < 9 ∧ 0 ≤ s ∧ s < 10 := by
  obtain ⟨r1, e1, a1, -, b1⟩ := pick_ok k l 0 8 hl hlen (by omega) (by omega)
  have b1 := b1 (by omega)
  have w1 : wrap64 (1 + r1) = 1 + r1 := w64 (by omega) (by omega)
  have w2 : wrap64 (1 + r1 + 1) = 1 + r1 + 1 := w64 (by omega) (by omega)
  obtain ⟨r2, e2, a2, -, b2⟩ := pick_ok k l (0 + 1) (1 + r1 + 1) hl hlen (by omega) (by omega)
  have b2 := b2 (by omega)
  obtain ⟨r3, e3, a3, -, b3⟩ := pick_ok k l (0 + 1 + 1) 40 hl hlen (by omega) (by omega)
  have b3 := b3 (by omega)
  obtain ⟨r4, e4, a4, -, b4⟩ := pick_ok k l (0 + 1 + 1 + 1) 40 hl hlen (by omega) (by omega)
  have b4 := b4 (by omega)
  have w3 : wrap64 (1 + r1 - r2) = 1 + r1 - r2 := w64 (by omega) (by omega)
  have w4 : wrap64 (1 + r1 - r2 + 1) = 1 + r1 - r2 + 1 := w64 (by omega) (by omega)
  obtain ⟨r5, e5, a5, c5, b5⟩ := pick_ok k l (0 + 1 + 1 + 1 + 1) (1 + r1 - r2 + 1) hl hlen (by omega) (by omega)
  have b5 : r5 ≤ 8 := by
    by_cases h : 1 ≤ 1 + r1 - r2 + 1
    · have := b5 h
      omega
    · have := c5 (by omega)
      omega
  obtain ⟨r6, e6, a6, -, b6⟩ := pick_ok k l (0 + 1 + 1 + 1 + 1 + 1) 30 hl hlen (by omega) (by omega)
  have b6 := b6 (by omega)
  obtain ⟨x3, y3⟩ := tdiv39 a3 b3
  obtain ⟨x4, y4⟩ := tdiv39 a4 b4
  obtain ⟨x6, y6⟩ := tdiv29 a6 b6
  generalize hT3 : Int.tdiv r3 39 = T3 at *
  generalize hT4 : Int.tdiv r4 39 = T4 at *
  generalize hT6 : Int.tdiv r6 29 = T6 at *
  refine ⟨1 + r1 + T3 * 8, r2 - T4 * 9, r5 + T6, 0 + 1 + 1 + 1 + 1 + 1 + 1, ?_, by omega, by omega, by omega, by omega, by omega, by omega⟩
  unfold spec_l20Box.f
  simp only [e1, Option.bind_some, w1, w2, e2, e3, e4, w3, w4, e5, e6, hT3, hT4, hT6]
  rw [w64 (x := T3) (by omega) (by omega), w64 (x := T4) (by omega) (by omega), w64 (x := T6) (by omega) (by omega), w64 (x := T3 * 8) (by omega) (by omega), w64 (x := T4 * 9) (by omega) (by omega),
    w64 (x := 1 + r1 + T3 * 8) (by omega) (by omega), w64 (x := r2 - T4 * 9) (by omega) (by omega), w64 (x := r5 + T6) (by omega) (by omega)]

theorem draw_ok (l : List Int) (hl : ∀ x ∈ l, (Lit.int .u8 x).wf = true) : ∃ m f s, spec_DrawBoxSum.f 300 l = some (m, f, s) ∧ 1 ≤ m ∧ m < 17 ∧ -9 ≤ f ∧ f < 9 ∧ 0 ≤ s ∧ s < 10 := by
  obtain ⟨l', e0, hlen, hb⟩ := open_ok l hl
  obtain ⟨m, f, s, p, e, h⟩ := box_ok 299 l' hb hlen
  refine ⟨m, f, s, ?_, h⟩
  unfold spec_DrawBoxSum.f
  simp only [e0, Option.bind_some, e]
theorem FnUnknownUrn : laws_FnUnknownUrn.Pure := by
  intro l _ _ hl
  refine ⟨300, ?_⟩
  obtain ⟨m, f, s, e, h1, h2, h3, h4, h5, h6⟩ := draw_ok l hl
  unfold laws_FnUnknownUrn.f
  by_cases hc : (l.length : Int) > 1048576
  · rw [if_pos hc]
  · rw [if_neg hc, e]
    simp only [Option.bind_some]
    clear e hc hl
    have hb : 1 ≤ m ∧ m < 1 + (16 : Nat) ∧ -9 ≤ f ∧ f < -9 + (18 : Nat) ∧ 0 ≤ s ∧ s < 0 + (10 : Nat) := by omega
    clear h1 h2 h3 h4 h5 h6
    revert m f s
    refine span_some ?_
    kernel_rfl

end Go.Proofs.Ythpjeinjldfmjaa.Pure
