/- The law FnSameTwice: it holds at every code. -/
import Derived.Test.YthpjeinjldfmjaaQFnSameTwicex5
namespace Go.Proofs.Ythpjeinjldfmjaa.Pure
open Go.RowKit Go.Proofs.Ythpjeinjldfmjaa.QFnSameTwice Go.Proofs.YthpjeinjldfmjaaW.PrintWords Go.Proofs.YthpjeinjldfmjaaW.PrintLast
theorem w64 {x : Int} (h0 : -9223372036854775808 ≤ x) (h1 : x ≤ 9223372036854775807) : wrap64 x = x := by
  unfold wrap64
  omega
theorem fits {x : Int} (h : (Lit.int .i64 x).wf = true) : -9223372036854775808 ≤ x ∧ x ≤ 9223372036854775807 := by
  simp only [Lit.wf, Bool.and_eq_true, decide_eq_true_eq] at h
  exact h
theorem fits8 {x : Int} (h : (Lit.int .u8 x).wf = true) : 0 ≤ x ∧ x ≤ 255 := by
  simp only [Lit.wf, Bool.and_eq_true, decide_eq_true_eq] at h
  exact h

theorem xor_pos (a b : Int) (ha : 0 ≤ a) (ha1 : a < 1000000000) (hb : 0 ≤ b) (hb1 : b < 1000000000) : 0 ≤ Go.bits .xor .i64 a b := by
  obtain ⟨m, rfl⟩ := Int.eq_ofNat_of_zero_le ha
  obtain ⟨n, rfl⟩ := Int.eq_ofNat_of_zero_le hb
  have hm : m < 2 ^ 30 := by omega
  have hn : n < 2 ^ 30 := by omega
  have hx : m ^^^ n < 2 ^ 30 := Nat.xor_lt_two_pow hm hn
  have e1 : m % 2 ^ 64 = m := Nat.mod_eq_of_lt (by omega)
  have e2 : n % 2 ^ 64 = n := Nat.mod_eq_of_lt (by omega)
  have e : (BitVec.ofNat 64 m ^^^ BitVec.ofNat 64 n).toNat = m ^^^ n := by
    rw [BitVec.toNat_xor, BitVec.toNat_ofNat, BitVec.toNat_ofNat, e1, e2]
  show 0 ≤ IntKind.i64.wrap (((BitVec.ofNat 64 m ^^^ BitVec.ofNat 64 n).toNat : Nat) : Int)
  rw [e, IntKind.wrap_i64]
  omega
theorem rd_u8 {l : List Int} (h : ∀ x ∈ l, 0 ≤ x ∧ x ≤ 255) (i : Int) : 0 ≤ rd l i ∧ rd l i ≤ 255 := by
  unfold rd
  rw [List.getD_eq_getElem?_getD]
  cases e : l[i.toNat]? with
  | none => simp
  | some x => exact h x (List.mem_of_getElem? e)
theorem tmod_in {x n : Int} (hx : 0 ≤ x) (hn : 1 ≤ n) : 0 ≤ Int.tmod x n ∧ Int.tmod x n < n := by
  rw [Int.tmod_eq_emod_of_nonneg hx]
  exact ⟨Int.emod_nonneg _ (by omega), Int.emod_lt_of_pos _ (by omega)⟩
theorem tdiv_in {x n : Int} (hx : 0 ≤ x) (hn : 1 ≤ n) : 0 ≤ Int.tdiv x n ∧ Int.tdiv x n ≤ x := by
  rw [Int.tdiv_eq_ediv_of_nonneg hx]
  exact ⟨Int.ediv_nonneg hx (by omega), Int.ediv_le_self _ hx⟩
/-- What a reader picks: a number below n, and one place further. -/
theorem pick_ok (k : Nat) (l : List Int) (p n : Int) (hl : ∀ x ∈ l, 0 ≤ x ∧ x ≤ 255) (hlen : l.length ≤ 2000) (hp : 0 ≤ p) (hp1 : p ≤ 1000000) :
    ∃ r, spec_l20Rd_pick.f (k + 1) l p n = some (r, p + 1) ∧ 0 ≤ r ∧ (n < 1 → r = 0) ∧ (1 ≤ n → r < n) := by
  unfold spec_l20Rd_pick.f
  have wp : wrap64 (p + 1) = p + 1 := w64 (by omega) (by omega)
  by_cases hn : n < 1
  · rw [if_pos hn]
    exact ⟨0, by simp [spec_l20Rd_pick.j0, wp], by omega, fun _ => rfl, fun h => by omega⟩
  · rw [if_neg hn]
    by_cases h0 : (l.length : Int) = 0
    · exact ⟨0, by simp [spec_l20Rd_pick.j0, wp, h0], by omega, fun _ => rfl, fun h => by omega⟩
    · have hb : ((l.length : Int) == 0) = false := by simpa using h0
      rw [hb, wp]
      have wq : wrap64 (p + 1 - 1) = p := by rw [w64 (by omega) (by omega)]; omega
      by_cases hlt : p < (l.length : Int)
      · obtain ⟨r0, r1⟩ := rd_u8 hl p
        have wr : wrap64 (rd l p) = rd l p := w64 (by omega) (by omega)
        have t := tmod_in r0 (show 1 ≤ n by omega)
        refine ⟨Int.tmod (rd l p) n, ?_, t.1, fun h => absurd h hn, fun _ => t.2⟩
        simp only [spec_l20Rd_pick.j0]
        rw [if_neg (by simp), wq, if_pos hlt, if_pos hp, if_neg (by omega), wr]
      · have hL : 1 ≤ (l.length : Int) := by omega
        have t1 := tmod_in hp hL
        have w7 : wrap64 (p * 7) = p * 7 := w64 (by omega) (by omega)
        have w73 : wrap64 (p * 7 + 3) = p * 7 + 3 := w64 (by omega) (by omega)
        have t2 := tmod_in (show 0 ≤ p * 7 + 3 by omega) hL
        obtain ⟨a0, a1⟩ := rd_u8 hl (Int.tmod p (l.length : Int))
        obtain ⟨b0, b1⟩ := rd_u8 hl (Int.tmod (p * 7 + 3) (l.length : Int))
        obtain ⟨q0, q1⟩ := tdiv_in hp hL
        have wa : wrap64 (rd l (Int.tmod p (l.length : Int))) = rd l (Int.tmod p (l.length : Int)) := w64 (by omega) (by omega)
        have wb : wrap64 (rd l (Int.tmod (p * 7 + 3) (l.length : Int))) = rd l (Int.tmod (p * 7 + 3) (l.length : Int)) := w64 (by omega) (by omega)
        have wc : wrap64 (Int.tdiv p (l.length : Int)) = Int.tdiv p (l.length : Int) := w64 (by omega) (by omega)
        generalize hA : rd l (Int.tmod p (l.length : Int)) = A at *
        generalize hB : rd l (Int.tmod (p * 7 + 3) (l.length : Int)) = B at *
        generalize hQ : Int.tdiv p (l.length : Int) = Q at *
        have e : wrap64 (wrap64 (wrap64 (wrap64 (wrap64 A * 131) + wrap64 (wrap64 B * 1117)) + wrap64 (p * 29)) + wrap64 (wrap64 Q * 53)) = A * 131 + B * 1117 + p * 29 + Q * 53 := by
          rw [wa, wb, wc, w64 (x := A * 131) (by omega) (by omega), w64 (x := B * 1117) (by omega) (by omega), w64 (x := p * 29) (by omega) (by omega), w64 (x := Q * 53) (by omega) (by omega),
            w64 (x := A * 131 + B * 1117) (by omega) (by omega), w64 (x := A * 131 + B * 1117 + p * 29) (by omega) (by omega), w64 (by omega) (by omega)]
        obtain ⟨d0, d1⟩ := tdiv_in (show 0 ≤ A * 131 + B * 1117 + p * 29 + Q * 53 by omega) (show (1 : Int) ≤ 64 by omega)
        have wd : wrap64 (Int.tdiv (A * 131 + B * 1117 + p * 29 + Q * 53) 64) = Int.tdiv (A * 131 + B * 1117 + p * 29 + Q * 53) 64 := w64 (by omega) (by omega)
        have hx := xor_pos (A * 131 + B * 1117 + p * 29 + Q * 53) (Int.tdiv (A * 131 + B * 1117 + p * 29 + Q * 53) 64) (by omega) (by omega) d0 (by omega)
        have t := tmod_in hx (show 1 ≤ n by omega)
        refine ⟨_, ?_, t.1, fun h => absurd h hn, fun _ => t.2⟩
        simp only [spec_l20Rd_pick.j0]
        rw [if_neg (by simp), wq, if_neg hlt, if_neg h0, if_pos t1.1, if_pos t1.2, w7, w73, if_pos t2.1, if_pos t2.2, if_neg (by omega), hA, hB, hQ, e, wd]
/-- What is read of a code. -/
theorem open_ok (l : List Int) (hl : ∀ x ∈ l, (Lit.int .u8 x).wf = true) : ∃ l', spec_l20Open.f l = some (l', 0) ∧ l'.length ≤ 2000 ∧ ∀ x ∈ l', 0 ≤ x ∧ x ≤ 255 := by
  unfold spec_l20Open.f
  by_cases h : (l.length : Int) > 2000
  · rw [if_pos h, if_pos (by omega)]
    exact ⟨_, rfl, by simp [List.length_take]; omega, fun x hx => fits8 (hl x (List.mem_of_mem_take hx))⟩
  · rw [if_neg h]
    exact ⟨_, rfl, by omega, fun x hx => fits8 (hl x hx)⟩

theorem nat_step {i : Nat} (h : i < 1000000000000) : wrap64 ((i : Int) + 1) = ((i + 1 : Nat) : Int) := by
  rw [w64 (by omega) (by omega)]
  omega
theorem rd_nat (l : List Int) (i : Nat) : rd l (i : Int) = l.getD i 0 := by
  unfold rd
  rw [Int.toNat_natCast]
theorem rd_get (l : List Int) (i : Nat) (h : i < l.length) : rd l (i : Int) = l[i] := by
  rw [rd_nat]
  simp [List.getD_eq_getElem?_getD, List.getElem?_eq_getElem h]
theorem drop_at (l : List Int) (i : Nat) (h : i < l.length) : l.drop i = rd l (i : Int) :: l.drop (i + 1) := by
  rw [List.drop_eq_getElem_cons h, rd_get l i h]
theorem take_at (l : List Int) (i : Nat) (h : i < l.length) : l.take (i + 1) = l.take i ++ [rd l (i : Int)] := by
  rw [List.take_succ_eq_append_getElem h, rd_get l i h]
theorem beq_dec (x y : Int) : (x == y) = decide (x = y) := rfl
theorem l1In_ok (x lo hi : Int) : spec_l1In.f x lo hi = some (decide (lo ≤ x ∧ x ≤ hi)) := by
  unfold spec_l1In.f
  by_cases h : x ≥ lo
  · simp [h]
  · simp [h]

/-- The urns that a code may draw. -/
def DrawnU (u : List Int) : Prop := u = [] ∨ u = [1, 1, 1, 1] ∨ ∃ a t, u = a :: t ∧ t.length ≤ 2 ∧ (a = -1 ∨ a = 41 ∨ (0 ≤ a ∧ a < 6)) ∧ ∀ x ∈ t, 0 ≤ x ∧ x < 6
theorem urn_l0 (l : List Int) (odd : Int) (ho : 1 ≤ odd) (hl : ∀ x ∈ l, 0 ≤ x ∧ x ≤ 255) (hlen : l.length ≤ 2000) (n : Nat) (h1 : 1 ≤ n) (h3 : n ≤ 3) (d : Nat) :
    ∀ (k : Nat) (acc : List Int) (p : Int), acc.length + d = n → d + 1 < k → 0 ≤ p → p + (d : Int) ≤ 500000 → (∀ x ∈ acc, 0 ≤ x ∧ x < 6) →
      ∃ u q, spec_l20Urn.l0 k odd acc (d : Int) l p = some (u, q) ∧ DrawnU u ∧ 0 ≤ q ∧ q ≤ p + (d : Int) + 3 := by
  induction d with
  | zero =>
    intro k acc p hd hk p0 p1 hx
    obtain ⟨k, rfl⟩ : ∃ n, k = n + 2 := ⟨k - 2, by omega⟩
    obtain ⟨r1, e1, a1, -, b1⟩ := pick_ok k l p odd hl hlen p0 (by omega)
    obtain ⟨r2, e2, a2, -, b2⟩ := pick_ok k l (p + 1) 3 hl hlen (by omega) (by omega)
    have b2 := b2 (by omega)
    obtain ⟨r3, e3, a3, -, b3⟩ := pick_ok k l (p + 1 + 1) 2 hl hlen (by omega) (by omega)
    have b3 := b3 (by omega)
    obtain ⟨a, t, rfl⟩ : ∃ a t, acc = a :: t := by
      match acc, hd with
      | [], h => simp at h; omega
      | a :: t, _ => exact ⟨a, t, rfl⟩
    have ha := hx a (by simp)
    have ht : ∀ x ∈ t, 0 ≤ x ∧ x < 6 := fun x h => hx x (by simp [h])
    simp only [List.length_cons] at hd
    simp only [spec_l20Urn.l0]
    rw [if_neg (by omega)]
    unfold spec_l20Rd_odd.f
    rw [if_pos (by omega), e1]
    simp only [Option.bind_some]
    by_cases c1 : (r1 == wrap64 (odd - 1)) = true
    · rw [if_pos c1, e2]
      simp only [Option.bind_some]
      by_cases c2 : r2 = 0
      · rw [if_pos c2]
        exact ⟨_, _, rfl, Or.inl rfl, by omega, by omega⟩
      rw [if_neg c2]
      by_cases c3 : r2 = 1
      · rw [if_pos c3, e3]
        simp only [Option.bind_some]
        rw [if_pos a3, if_pos (by simp only [List.length_cons, List.length_nil]; omega), if_pos (by simp only [List.length_cons]; omega)]
        refine ⟨_, _, rfl, Or.inr (Or.inr ⟨rd [-1, 41] r3, t, rfl, by omega, ?_, ht⟩), by omega, by omega⟩
        rcases (by omega : r3 = 0 ∨ r3 = 1) with rfl | rfl
        · exact Or.inl rfl
        · exact Or.inr (Or.inl rfl)
      · rw [if_neg c3]
        exact ⟨_, _, rfl, Or.inr (Or.inl rfl), by omega, by omega⟩
    · rw [if_neg c1]
      exact ⟨_, _, rfl, Or.inr (Or.inr ⟨a, t, rfl, by omega, Or.inr (Or.inr ha), ht⟩), by omega, by omega⟩
  | succ d ih =>
    intro k acc p hd hk p0 p1 hx
    obtain ⟨k, rfl⟩ : ∃ n, k = n + 2 := ⟨k - 2, by omega⟩
    obtain ⟨r1, e1, a1, -, b1⟩ := pick_ok k l p 6 hl hlen p0 (by omega)
    have b1 := b1 (by omega)
    obtain ⟨u, q, e, h, q0, q1⟩ := ih (k + 1) (acc ++ [r1]) (p + 1) (by simp; omega) (by omega) (by omega) (by omega) (by
      intro x hx'
      rcases List.mem_append.mp hx' with h | h
      · exact hx x h
      · have := List.mem_singleton.mp h
        omega)
    refine ⟨u, q, ?_, h, q0, by omega⟩
    rw [spec_l20Urn.l0, if_pos (by omega), e1]
    simp only [Option.bind_some]
    rw [if_pos (by omega), w64 (by omega) (by omega), show ((d + 1 : Nat) : Int) - 1 = (d : Int) by omega]
    exact e
theorem urn_draw (l : List Int) (odd p : Int) (ho : 1 ≤ odd) (p0 : 0 ≤ p) (p1 : p ≤ 100000) (hl : ∀ x ∈ l, 0 ≤ x ∧ x ≤ 255) (hlen : l.length ≤ 2000) (k : Nat) (hk : 10 ≤ k) :
    ∃ u q, spec_l20Urn.f k l p odd = some (u, q) ∧ DrawnU u ∧ 0 ≤ q ∧ q ≤ p + 7 := by
  obtain ⟨k, rfl⟩ : ∃ m, k = m + 1 := ⟨k - 1, by omega⟩
  obtain ⟨r1, e1, a1, -, b1⟩ := pick_ok k l p 3 hl hlen p0 (by omega)
  have b1 := b1 (by omega)
  obtain ⟨u, q, e, h, q0, q1⟩ := urn_l0 l odd ho hl hlen (1 + r1.toNat) (by omega) (by omega) (1 + r1.toNat) (k + 1) [] (p + 1) (by simp) (by omega) (by omega) (by omega) (by simp)
  refine ⟨u, q, ?_, h, q0, by omega⟩
  unfold spec_l20Urn.f
  rw [e1]
  simp only [Option.bind_some]
  rw [w64 (by omega) (by omega), show 1 + r1 = ((1 + r1.toNat : Nat) : Int) by omega]
  exact e
def smalls : List Int := [0, 1, 2, 3, 4, 5]
def heads : List Int := [-1, 41, 0, 1, 2, 3, 4, 5]
def drawnUs : List (List Int) := [] :: [1, 1, 1, 1] :: heads.flatMap fun a => [a] :: smalls.flatMap fun b => [a, b] :: smalls.map fun c => [a, b, c]
theorem mem_smalls {x : Int} (h : 0 ≤ x ∧ x < 6) : x ∈ smalls := by
  rcases (by omega : x = 0 ∨ x = 1 ∨ x = 2 ∨ x = 3 ∨ x = 4 ∨ x = 5) with rfl | rfl | rfl | rfl | rfl | rfl <;> simp [smalls]
theorem drawn_mem {u : List Int} (h : DrawnU u) : u ∈ drawnUs := by
  rcases h with rfl | rfl | ⟨a, t, rfl, hl, ha, ht⟩
  · simp [drawnUs]
  · simp [drawnUs]
  · have ha' : a ∈ heads := by
      rcases ha with rfl | rfl | ha
      · simp [heads]
      · simp [heads]
      · have := mem_smalls ha
        simp [smalls] at this
        simp [heads, this]
    refine List.mem_cons_of_mem _ (List.mem_cons_of_mem _ (List.mem_flatMap.mpr ⟨a, ha', ?_⟩))
    match t, hl with
    | [], _ => simp
    | [b], _ => exact List.mem_cons_of_mem _ (List.mem_flatMap.mpr ⟨b, mem_smalls (ht b (by simp)), by simp⟩)
    | [b, c], _ =>
      refine List.mem_cons_of_mem _ (List.mem_flatMap.mpr ⟨b, mem_smalls (ht b (by simp)), ?_⟩)
      simp [mem_smalls (ht c (by simp))]
    | _ :: _ :: _ :: _, h => simp at h

theorem draw_ok (l : List Int) (hl : ∀ x ∈ l, (Lit.int .u8 x).wf = true) : ∃ u, spec_DrawSameTwice.f 300 l = some u ∧ u ∈ drawnUs := by
  obtain ⟨l', e0, hlen, hb⟩ := open_ok l hl
  obtain ⟨u, q, e, h, -, -⟩ := urn_draw l' 9 0 (by omega) (by omega) (by omega) hb hlen 300 (by omega)
  refine ⟨u, ?_, drawn_mem h⟩
  unfold spec_DrawSameTwice.f
  simp only [e0, Option.bind_some, e]
def checkTwice (u : List Int) : Option Bool :=
  (impl_SameTwice.f 300 u).bind fun t217 => ((spec_SameTwice.f 300 u).bind fun t218 => (if t217 = t218 then (if t217 < 0 then (if t217 = (-1) then ((impl_UrnOk.f 300 u).bind fun t219 => (if t219 = true then (some false) else ((laws_alive.f 300).bind fun t220 => (some t220)))) else (some false)) else ((impl_TotalOf.f 300 u).bind fun t221 => (laws_FnSameTwice.l0 300 u t217 t221 true 0 0))) else (some false)))
theorem twice_check : (drawnUs.all fun u => decide (checkTwice u = some true)) = true := by kernel_rfl
theorem FnSameTwice : laws_FnSameTwice.Pure := by
  intro l _ _ hl
  refine ⟨300, ?_⟩
  obtain ⟨u, e, h⟩ := draw_ok l hl
  unfold laws_FnSameTwice.f
  by_cases hc : (l.length : Int) > 1048576
  · rw [if_pos hc]
  · rw [if_neg hc, e]
    simp only [Option.bind_some]
    exact of_decide_eq_true (List.all_eq_true.mp twice_check u h)

end Go.Proofs.Ythpjeinjldfmjaa.Pure
