/- The law FnSameAll: it holds at every code. -/
import Derived.Test.YthpjeinjldfmjaaQFnSameAllx8
namespace Go.Proofs.Ythpjeinjldfmjaa.Pure
open Go.RowKit Go.Proofs.Ythpjeinjldfmjaa.QFnSameAll Go.Proofs.YthpjeinjldfmjaaW.PrintWords Go.Proofs.YthpjeinjldfmjaaW.PrintLast
theorem w64 {x : Int} (h0 : -9223372036854775808 ≤ x) (h1 : x ≤ 9223372036854775807) : wrap64 x = x := by
  unfold wrap64
  omega
theorem fits {x : Int} (h : (Lit.int .i64 x).wf = true) : -9223372036854775808 ≤ x ∧ x ≤ 9223372036854775807 := by
  simp only [Lit.wf, Bool.and_eq_true, decide_eq_true_eq] at h
  exact h
theorem fits8 {x : Int} (h : (Lit.int .u8 x).wf = true) : 0 ≤ x ∧ x ≤ 255 := by
  simp only [Lit.wf, Bool.and_eq_true, decide_eq_true_eq] at h
  exact h

theorem xor_pos (a b : Int) (ha : 0 ≤ a) (ha1 : a < 1000000000) (hb : 0 ≤ b) (hb1 : b < 1000000000) : 0 ≤ Go.bits .xor .i64 a b := by
  obtain ⟨m, rfl⟩ := Int.eq_ofNat_of_zero_le ha
  obtain ⟨n, rfl⟩ := Int.eq_ofNat_of_zero_le hb
  have hm : m < 2 ^ 30 := by omega
  have hn : n < 2 ^ 30 := by omega
  have hx : m ^^^ n < 2 ^ 30 := Nat.xor_lt_two_pow hm hn
  have e1 : m % 2 ^ 64 = m := Nat.mod_eq_of_lt (by omega)
  have e2 : n % 2 ^ 64 = n := Nat.mod_eq_of_lt (by omega)
  have e : (BitVec.ofNat 64 m ^^^ BitVec.ofNat 64 n).toNat = m ^^^ n := by
    rw [BitVec.toNat_xor, BitVec.toNat_ofNat, BitVec.toNat_ofNat, e1, e2]
  show 0 ≤ IntKind.i64.wrap (((BitVec.ofNat 64 m ^^^ BitVec.ofNat 64 n).toNat : Nat) : Int)
  rw [e, IntKind.wrap_i64]
  omega
theorem rd_u8 {l : List Int} (h : ∀ x ∈ l, 0 ≤ x ∧ x ≤ 255) (i : Int) : 0 ≤ rd l i ∧ rd l i ≤ 255 := by
  unfold rd
  rw [List.getD_eq_getElem?_getD]
  cases e : l[i.toNat]? with
  | none => simp
  | some x => exact h x (List.mem_of_getElem? e)
theorem tmod_in {x n : Int} (hx : 0 ≤ x) (hn : 1 ≤ n) : 0 ≤ Int.tmod x n ∧ Int.tmod x n < n := by
  rw [Int.tmod_eq_emod_of_nonneg hx]
  exact ⟨Int.emod_nonneg _ (by omega), Int.emod_lt_of_pos _ (by omega)⟩
theorem tdiv_in {x n : Int} (hx : 0 ≤ x) (hn : 1 ≤ n) : 0 ≤ Int.tdiv x n ∧ Int.tdiv x n ≤ x := by
  rw [Int.tdiv_eq_ediv_of_nonneg hx]
  exact ⟨Int.ediv_nonneg hx (by omega), Int.ediv_le_self _ hx⟩
/-- What a reader picks: a number below n, and one place further. -/
theorem pick_ok (k : Nat) (l : List Int) (p n : Int) (hl : ∀ x ∈ l, 0 ≤ x ∧ x ≤ 255) (hlen : l.length ≤ 2000) (hp : 0 ≤ p) (hp1 : p ≤ 1000000) :
    ∃ r, spec_l20Rd_pick.f (k + 1) l p n = some (r, p + 1) ∧ 0 ≤ r ∧ (n < 1 → r = 0) ∧ (1 ≤ n → r < n) := by
  unfold spec_l20Rd_pick.f
  have wp : wrap64 (p + 1) = p + 1 := w64 (by omega) (by omega)
  by_cases hn : n < 1
  · rw [if_pos hn]
    exact ⟨0, by simp [spec_l20Rd_pick.j0, wp], by omega, fun _ => rfl, fun h => by omega⟩
  · rw [if_neg hn]
    by_cases h0 : (l.length : Int) = 0
    · exact ⟨0, by simp [spec_l20Rd_pick.j0, wp, h0], by omega, fun _ => rfl, fun h => by omega⟩
    · have hb : ((l.length : Int) == 0) = false := by simpa using h0
      rw [hb, wp]
      have wq : wrap64 (p + 1 - 1) = p := by rw [w64 (by omega) (by omega)]; omega
      by_cases hlt : p < (l.length : Int)
      · obtain ⟨r0, r1⟩ := rd_u8 hl p
        have wr : wrap64 (rd l p) = rd l p := w64 (by omega) (by omega)
        have t := tmod_in r0 (show 1 ≤ n by omega)
        refine ⟨Int.tmod (rd l p) n, ?_, t.1, fun h => absurd h hn, fun _ => t.2⟩
        simp only [spec_l20Rd_pick.j0]
        rw [if_neg (by simp), wq, if_pos hlt, if_pos hp, if_neg (by omega), wr]
      · have hL : 1 ≤ (l.length : Int) := by omega
        have t1 := tmod_in hp hL
        have w7 : wrap64 (p * 7) = p * 7 := w64 (by omega) (by omega)
        have w73 : wrap64 (p * 7 + 3) = p * 7 + 3 := w64 (by omega) (by omega)
        have t2 := tmod_in (show 0 ≤ p * 7 + 3 by omega) hL
        obtain ⟨a0, a1⟩ := rd_u8 hl (Int.tmod p (l.length : Int))
        obtain ⟨b0, b1⟩ := rd_u8 hl (Int.tmod (p * 7 + 3) (l.length : Int))
        obtain ⟨q0, q1⟩ := tdiv_in hp hL
        have wa : wrap64 (rd l (Int.tmod p (l.length : Int))) = rd l (Int.tmod p (l.length : Int)) := w64 (by omega) (by omega)
        have wb : wrap64 (rd l (Int.tmod (p * 7 + 3) (l.length : Int))) = rd l (Int.tmod (p * 7 + 3) (l.length : Int)) := w64 (by omega) (by omega)
        have wc : wrap64 (Int.tdiv p (l.length : Int)) = Int.tdiv p (l.length : Int) := w64 (by omega) (by omega)
        generalize hA : rd l (Int.tmod p (l.length : Int)) = A at *
        generalize hB : rd l (Int.tmod (p * 7 + 3) (l.length : Int)) = B at *
        generalize hQ : Int.tdiv p (l.length : Int) = Q at *
        have e : wrap64 (wrap64 (wrap64 (wrap64 (wrap64 A * 131) + wrap64 (wrap64 B * 1117)) + wrap64 (p * 29)) + wrap64 (wrap64 Q * 53)) = A * 131 + B * 1117 + p * 29 + Q * 53 := by
          rw [wa, wb, wc, w64 (x := A * 131) (by omega) (by omega), w64 (x := B * 1117) (by omega) (by omega), w64 (x := p * 29) (by omega) (by omega), w64 (x := Q * 53) (by omega) (by omega),
            w64 (x := A * 131 + B * 1117) (by omega) (by omega), w64 (x := A * 131 + B * 1117 + p * 29) (by omega) (by omega), w64 (by omega) (by omega)]
        obtain ⟨d0, d1⟩ := tdiv_in (show 0 ≤ A * 131 + B * 1117 + p * 29 + Q * 53 by omega) (show (1 : Int) ≤ 64 by omega)
        have wd : wrap64 (Int.tdiv (A * 131 + B * 1117 + p * 29 + Q * 53) 64) = Int.tdiv (A * 131 + B * 1117 + p * 29 + Q * 53) 64 := w64 (by omega) (by omega)
        have hx := xor_pos (A * 131 + B * 1117 + p * 29 + Q * 53) (Int.tdiv (A * 131 + B * 1117 + p * 29 + Q * 53) 64) (by omega) (by omega) d0 (by omega)
        have t := tmod_in hx (show 1 ≤ n by omega)
        refine ⟨_, ?_, t.1, fun h => absurd h hn, fun _ => t.2⟩
        simp only [spec_l20Rd_pick.j0]
        rw [if_neg (by simp), wq, if_neg hlt, if_neg h0, if_pos t1.1, if_pos t1.2, w7, w73, if_pos t2.1, if_pos t2.2, if_neg (by omega), hA, hB, hQ, e, wd]
/-- What is read of a code. -/
theorem open_ok (l : List Int) (hl : ∀ x ∈ l, (Lit.int .u8 x).wf = true) : ∃ l', spec_l20Open.f l = some (l', 0) ∧ l'.length ≤ 2000 ∧ ∀ x ∈ l', 0 ≤ x ∧ x ≤ 255 := by
  unfold spec_l20Open.f
  by_cases h : (l.length : Int) > 2000
  · rw [if_pos h, if_pos (by omega)]
    exact ⟨_, rfl, by simp [List.length_take]; omega, fun x hx => fits8 (hl x (List.mem_of_mem_take hx))⟩
  · rw [if_neg h]
    exact ⟨_, rfl, by omega, fun x hx => fits8 (hl x hx)⟩

theorem nat_step {i : Nat} (h : i < 1000000000000) : wrap64 ((i : Int) + 1) = ((i + 1 : Nat) : Int) := by
  rw [w64 (by omega) (by omega)]
  omega
theorem rd_nat (l : List Int) (i : Nat) : rd l (i : Int) = l.getD i 0 := by
  unfold rd
  rw [Int.toNat_natCast]
theorem rd_get (l : List Int) (i : Nat) (h : i < l.length) : rd l (i : Int) = l[i] := by
  rw [rd_nat]
  simp [List.getD_eq_getElem?_getD, List.getElem?_eq_getElem h]
theorem drop_at (l : List Int) (i : Nat) (h : i < l.length) : l.drop i = rd l (i : Int) :: l.drop (i + 1) := by
  rw [List.drop_eq_getElem_cons h, rd_get l i h]
theorem take_at (l : List Int) (i : Nat) (h : i < l.length) : l.take (i + 1) = l.take i ++ [rd l (i : Int)] := by
  rw [List.take_succ_eq_append_getElem h, rd_get l i h]
theorem beq_dec (x y : Int) : (x == y) = decide (x = y) := rfl
theorem l1In_ok (x lo hi : Int) : spec_l1In.f x lo hi = some (decide (lo ≤ x ∧ x ≤ hi)) := by
  unfold spec_l1In.f
  by_cases h : x ≥ lo
  · simp [h]
  · simp [h]

/-- The urns that a code may draw. -/
def DrawnU (u : List Int) : Prop := u = [] ∨ u = [1, 1, 1, 1] ∨ ∃ a t, u = a :: t ∧ t.length ≤ 2 ∧ (a = -1 ∨ a = 41 ∨ (0 ≤ a ∧ a < 6)) ∧ ∀ x ∈ t, 0 ≤ x ∧ x < 6
theorem urn_l0 (l : List Int) (odd : Int) (ho : 1 ≤ odd) (hl : ∀ x ∈ l, 0 ≤ x ∧ x ≤ 255) (hlen : l.length ≤ 2000) (n : Nat) (h1 : 1 ≤ n) (h3 : n ≤ 3) (d : Nat) :
    ∀ (k : Nat) (acc : List Int) (p : Int), acc.length + d = n → d + 1 < k → 0 ≤ p → p + (d : Int) ≤ 500000 → (∀ x ∈ acc, 0 ≤ x ∧ x < 6) →
      ∃ u q, spec_l20Urn.l0 k odd acc (d : Int) l p = some (u, q) ∧ DrawnU u ∧ 0 ≤ q ∧ q ≤ p + (d : Int) + 3 := by
  induction d with
  | zero =>
    intro k acc p hd hk p0 p1 hx
    obtain ⟨k, rfl⟩ : ∃ n, k = n + 2 := ⟨k - 2, by omega⟩
    obtain ⟨r1, e1, a1, -, b1⟩ := pick_ok k l p odd hl hlen p0 (by omega)
    obtain ⟨r2, e2, a2, -, b2⟩ := pick_ok k l (p + 1) 3 hl hlen (by omega) (by omega)
    have b2 := b2 (by omega)
    obtain ⟨r3, e3, a3, -, b3⟩ := pick_ok k l (p + 1 + 1) 2 hl hlen (by omega) (by omega)
    have b3 := b3 (by omega)
    obtain ⟨a, t, rfl⟩ : ∃ a t, acc = a :: t := by
      match acc, hd with
      | [], h => simp at h; omega
      | a :: t, _ => exact ⟨a, t, rfl⟩
    have ha := hx a (by simp)
    have ht : ∀ x ∈ t, 0 ≤ x ∧ x < 6 := fun x h => hx x (by simp [h])
    simp only [List.length_cons] at hd
    simp only [spec_l20Urn.l0]
    rw [if_neg (by omega)]
    unfold spec_l20Rd_odd.f
    rw [if_pos (by omega), e1]
    simp only [Option.bind_some]
    by_cases c1 : (r1 == wrap64 (odd - 1)) = true
    · rw [if_pos c1, e2]
      simp only [Option.bind_some]
      by_cases c2 : r2 = 0
      · rw [if_pos c2]
        exact ⟨_, _, rfl, Or.inl rfl, by omega, by omega⟩
      rw [if_neg c2]
      by_cases c3 : r2 = 1
      · rw [if_pos c3, e3]
        simp only [Option.bind_some]
        rw [if_pos a3, if_pos (by simp only [List.length_cons, List.length_nil]; omega), if_pos (by simp only [List.length_cons]; omega)]
        refine ⟨_, _, rfl, Or.inr (Or.inr ⟨rd [-1, 41] r3, t, rfl, by omega, ?_, ht⟩), by omega, by omega⟩
        rcases (by omega : r3 = 0 ∨ r3 = 1) with rfl | rfl
        · exact Or.inl rfl
        · exact Or.inr (Or.inl rfl)
      · rw [if_neg c3]
        exact ⟨_, _, rfl, Or.inr (Or.inl rfl), by omega, by omega⟩
    · rw [if_neg c1]
      exact ⟨_, _, rfl, Or.inr (Or.inr ⟨a, t, rfl, by omega, Or.inr (Or.inr ha), ht⟩), by omega, by omega⟩
  | succ d ih =>
    intro k acc p hd hk p0 p1 hx
    obtain ⟨k, rfl⟩ : ∃ n, k = n + 2 := ⟨k - 2, by omega⟩
    obtain ⟨r1, e1, a1, -, b1⟩ := pick_ok k l p 6 hl hlen p0 (by omega)
    have b1 := b1 (by omega)
    obtain ⟨u, q, e, h, q0, q1⟩ := ih (k + 1) (acc ++ [r1]) (p + 1) (by simp; omega) (by omega) (by omega) (by omega) (by
      intro x hx'
      rcases List.mem_append.mp hx' with h | h
      · exact hx x h
      · have := List.mem_singleton.mp h
        omega)
    refine ⟨u, q, ?_, h, q0, by omega⟩
    rw [spec_l20Urn.l0, if_pos (by omega), e1]
    simp only [Option.bind_some]
    rw [if_pos (by omega), w64 (by omega) (by omega), show ((d + 1 : Nat) : Int) - 1 = (d : Int) by omega]
    exact e
theorem urn_draw (l : List Int) (odd p : Int) (ho : 1 ≤ odd) (p0 : 0 ≤ p) (p1 : p ≤ 100000) (hl : ∀ x ∈ l, 0 ≤ x ∧ x ≤ 255) (hlen : l.length ≤ 2000) (k : Nat) (hk : 10 ≤ k) :
    ∃ u q, spec_l20Urn.f k l p odd = some (u, q) ∧ DrawnU u ∧ 0 ≤ q ∧ q ≤ p + 7 := by
  obtain ⟨k, rfl⟩ : ∃ m, k = m + 1 := ⟨k - 1, by omega⟩
  obtain ⟨r1, e1, a1, -, b1⟩ := pick_ok k l p 3 hl hlen p0 (by omega)
  have b1 := b1 (by omega)
  obtain ⟨u, q, e, h, q0, q1⟩ := urn_l0 l odd ho hl hlen (1 + r1.toNat) (by omega) (by omega) (1 + r1.toNat) (k + 1) [] (p + 1) (by simp) (by omega) (by omega) (by omega) (by simp)
  refine ⟨u, q, ?_, h, q0, by omega⟩
  unfold spec_l20Urn.f
  rw [e1]
  simp only [Option.bind_some]
  rw [w64 (by omega) (by omega), show 1 + r1 = ((1 + r1.toNat : Nat) : Int) by omega]
  exact e
def smalls : List Int := [0, 1, 2, 3, 4, 5]
def heads : List Int := [-1, 41, 0, 1, 2, 3, 4, 5]
def drawnUs : List (List Int) := [] :: [1, 1, 1, 1] :: heads.flatMap fun a => [a] :: smalls.flatMap fun b => [a, b] :: smalls.map fun c => [a, b, c]
theorem mem_smalls {x : Int} (h : 0 ≤ x ∧ x < 6) : x ∈ smalls := by
  rcases (by omega : x = 0 ∨ x = 1 ∨ x = 2 ∨ x = 3 ∨ x = 4 ∨ x = 5) with rfl | rfl | rfl | rfl | rfl | rfl <;> simp [smalls]
theorem drawn_mem {u : List Int} (h : DrawnU u) : u ∈ drawnUs := by
  rcases h with rfl | rfl | ⟨a, t, rfl, hl, ha, ht⟩
  · simp [drawnUs]
  · simp [drawnUs]
  · have ha' : a ∈ heads := by
      rcases ha with rfl | rfl | ha
      · simp [heads]
      · simp [heads]
      · have := mem_smalls ha
        simp [smalls] at this
        simp [heads, this]
    refine List.mem_cons_of_mem _ (List.mem_cons_of_mem _ (List.mem_flatMap.mpr ⟨a, ha', ?_⟩))
    match t, hl with
    | [], _ => simp
    | [b], _ => exact List.mem_cons_of_mem _ (List.mem_flatMap.mpr ⟨b, mem_smalls (ht b (by simp)), by simp⟩)
    | [b, c], _ =>
      refine List.mem_cons_of_mem _ (List.mem_flatMap.mpr ⟨b, mem_smalls (ht b (by simp)), ?_⟩)
      simp [mem_smalls (ht c (by simp))]
    | _ :: _ :: _ :: _, h => simp at h

theorem d29c {r : Int} (h0 : 0 ≤ r) (h1 : r < 30) : 0 ≤ Int.tdiv r 29 ∧ Int.tdiv r 29 ≤ 1 := by
  rw [Int.tdiv_eq_ediv_of_nonneg h0]
  omega
theorem counts_l0 (l : List Int) (n : Nat) (hn : n ≤ 10) (hl : ∀ x ∈ l, 0 ≤ x ∧ x ≤ 255) (hlen : l.length ≤ 2000) (d : Nat) :
    ∀ (k : Nat) (acc : List Int) (p : Int), acc.length + d = n + 1 → d + 1 < k → 0 ≤ p → p + 4 * (d : Int) ≤ 500000 →
      ∃ cs q, spec_l20Counts.l0 k (n : Int) acc (acc.length : Int) l p = some (cs, q) ∧ cs.length ≤ n + 1 ∧ 0 ≤ q ∧ q ≤ p + 4 * (d : Int) + 1 := by
  induction d with
  | zero =>
    intro k acc p hd hk p0 p1
    obtain ⟨k, rfl⟩ : ∃ n, k = n + 2 := ⟨k - 2, by omega⟩
    obtain ⟨r1, e1, a1, -, b1⟩ := pick_ok k l p 30 hl hlen p0 (by omega)
    have b1 := b1 (by omega)
    have t1 := d29c a1 b1
    refine ⟨acc, p + 1, ?_, by omega, by omega, by omega⟩
    rw [spec_l20Counts.l0, e1]
    simp only [Option.bind_some]
    rw [w64 (x := Int.tdiv r1 29) (by omega) (by omega), w64 (by omega) (by omega), if_neg (by omega)]
  | succ d ih =>
    intro k acc p hd hk p0 p1
    obtain ⟨k, rfl⟩ : ∃ n, k = n + 2 := ⟨k - 2, by omega⟩
    obtain ⟨r1, e1, a1, -, b1⟩ := pick_ok k l p 30 hl hlen p0 (by omega)
    have b1 := b1 (by omega)
    have t1 := d29c a1 b1
    rw [spec_l20Counts.l0, e1]
    simp only [Option.bind_some]
    rw [w64 (x := Int.tdiv r1 29) (by omega) (by omega), w64 (x := (n : Int) + Int.tdiv r1 29) (by omega) (by omega)]
    by_cases hc : (acc.length : Int) < (n : Int) + Int.tdiv r1 29
    · rw [if_pos hc]
      obtain ⟨r2, e2, -⟩ := pick_ok k l (p + 1) 3 hl hlen (by omega) (by omega)
      obtain ⟨r3, e3, -⟩ := pick_ok k l (p + 1 + 1) 12 hl hlen (by omega) (by omega)
      obtain ⟨r4, e4, -⟩ := pick_ok k l (p + 1 + 1 + 1) 60 hl hlen (by omega) (by omega)
      simp only [e2, e3, e4, Option.bind_some]
      rw [if_pos (by omega), nat_step (by omega)]
      generalize (wrap64 (wrap64 (r2 + wrap64 (wrap64 (Int.tdiv r3 11) * 3)) - wrap64 (wrap64 (Int.tdiv r4 59) * 3))) = v
      obtain ⟨cs, q, e, h, q0, q1⟩ := ih (k + 1) (acc ++ [v]) (p + 1 + 1 + 1 + 1) (by simp; omega) (by omega) (by omega) (by omega)
      refine ⟨cs, q, ?_, h, q0, by omega⟩
      rw [show (acc ++ [v]).length = acc.length + 1 by simp] at e
      exact e
    · rw [if_neg hc]
      exact ⟨acc, p + 1, rfl, by omega, by omega, by omega⟩
theorem counts_draw (l : List Int) (n : Nat) (p : Int) (hn : n ≤ 10) (hl : ∀ x ∈ l, 0 ≤ x ∧ x ≤ 255) (hlen : l.length ≤ 2000) (p0 : 0 ≤ p) (p1 : p ≤ 100000) (k : Nat) (hk : 20 ≤ k) :
    ∃ cs q, spec_l20Counts.f k l p (n : Int) = some (cs, q) ∧ cs.length ≤ n + 1 ∧ 0 ≤ q ∧ q ≤ p + 100 := by
  obtain ⟨cs, q, e, h, q0, q1⟩ := counts_l0 l n hn hl hlen (n + 1) k [] p (by simp) (by omega) p0 (by omega)
  exact ⟨cs, q, e, h, q0, by omega⟩
theorem drawn_len {u : List Int} (h : DrawnU u) : u.length ≤ 4 := by
  rcases h with rfl | rfl | ⟨a, t, rfl, hl, -⟩
  · simp
  · simp
  · simp only [List.length_cons]
    omega

theorem d39c {r : Int} (h0 : 0 ≤ r) (h1 : r < 40) : 0 ≤ Int.tdiv r 39 ∧ Int.tdiv r 39 ≤ 1 := by
  rw [Int.tdiv_eq_ediv_of_nonneg h0]
  omega
theorem same_draw (l : List Int) (hl : ∀ x ∈ l, (Lit.int .u8 x).wf = true) (k : Nat) (hk : 100 ≤ k) : ∃ u s cs, spec_DrawSameCounts.f k l = some (u, s, cs) ∧ DrawnU u ∧ -1 ≤ s ∧ s ≤ 4 ∧ cs.length ≤ 5 := by
  obtain ⟨k, rfl⟩ : ∃ m, k = m + 1 := ⟨k - 1, by omega⟩
  obtain ⟨l', e0, hlen, hb⟩ := open_ok l hl
  obtain ⟨u, q, e, h, q0, q1⟩ := urn_draw l' 14 0 (by omega) (by omega) (by omega) hb hlen (k + 1) (by omega)
  have hn := drawn_len h
  obtain ⟨r1, e1, a1, -, b1⟩ := pick_ok k l' q 5 hb hlen q0 (by omega)
  have b1 := b1 (by omega)
  obtain ⟨r2, e2, a2, -, b2⟩ := pick_ok k l' (q + 1) 40 hb hlen (by omega) (by omega)
  have b2 := b2 (by omega)
  have t2 := d39c a2 b2
  obtain ⟨cs, q', e', h', -, -⟩ := counts_draw l' u.length (q + 1 + 1) (by omega) hb hlen (by omega) (by omega) (k + 1) (by omega)
  refine ⟨u, r1 - 1 + Int.tdiv r2 39, cs, ?_, h, by omega, by omega, by omega⟩
  unfold spec_DrawSameCounts.f
  simp only [e0, Option.bind_some, e, e1, e2, e']
  rw [w64 (x := r1 - 1) (by omega) (by omega), w64 (x := Int.tdiv r2 39) (by omega) (by omega), w64 (by omega) (by omega)]
theorem lift {α : Type} {F : Nat → Option α} (hF : ∀ k, LeO (F k) (F (k + 1))) {k r : _} (h : F k = some r) : ∀ {K : Nat}, k ≤ K → F K = some r := by
  intro K hK
  induction hK with
  | refl => exact h
  | step _ ih => exact hF _ _ ih

theorem alive_lift (k : Nat) (h : 20 ≤ k) : laws_alive.f k = some true := lift (k := 20) laws_alive.mono (by kernel_rfl) h


/-- What draws make of an urn. -/
def AF (u : List Int) (R : List (List Int)) (w : List Int) : List Int := w.foldl (fun v c => List.zipWith (· + ·) v (R.getD c.toNat [])) u
/-- The ways of a word: the balls of its colours in the urns of then. -/
def pw (R : List (List Int)) : List Int → List Int → Int
  | _, [] => 1
  | u, c :: w => max 0 (u.getD c.toNat 0) * pw R (List.zipWith (· + ·) u (R.getD c.toNat [])) w
/-- An urn within bounds. -/
def Small (n m : Nat) (u : List Int) : Prop := u.length = n ∧ ∀ x ∈ u, -100 - (m : Int) ≤ x ∧ x ≤ 100 + 10 * (m : Int)
def Rows (n : Nat) (R : List (List Int)) : Prop := ∀ r ∈ R, r.length = n ∧ ∀ x ∈ r, -1 ≤ x ∧ x ≤ 10
theorem getD_in {n : Nat} {R : List (List Int)} (h : Rows n R) (c : Nat) (hc : c < R.length) : (R.getD c []).length = n ∧ ∀ x ∈ R.getD c [], -1 ≤ x ∧ x ≤ 10 := by
  rw [List.getD_eq_getElem?_getD, List.getElem?_eq_getElem hc]
  exact h _ (List.getElem_mem hc)
theorem rd_in {u : List Int} {lo hi : Int} (h : ∀ x ∈ u, lo ≤ x ∧ x ≤ hi) (i : Nat) (hi' : i < u.length) : lo ≤ rd u (i : Int) ∧ rd u (i : Int) ≤ hi := by
  rw [rd_get u i hi']
  exact h _ (List.getElem_mem hi')
theorem small_add {n m : Nat} {u r : List Int} (h : Small n m u) (hr : r.length = n) (hx : ∀ x ∈ r, -1 ≤ x ∧ x ≤ 10) : Small n (m + 1) (List.zipWith (· + ·) u r) := by
  refine ⟨by simp [h.1, hr], fun x hx' => ?_⟩
  obtain ⟨i, hi, rfl⟩ := List.mem_iff_getElem.mp hx'
  simp only [List.length_zipWith] at hi
  rw [List.getElem_zipWith]
  have h1 := h.2 _ (List.getElem_mem (show i < u.length by omega))
  have h2 := hx _ (List.getElem_mem (show i < r.length by omega))
  omega
theorem added_l0 (u r : List Int) (n m : Nat) (hu : Small n m u) (hm : m ≤ 1000) (hr : r.length = n) (hx : ∀ x ∈ r, -1 ≤ x ∧ x ≤ 10) (hn : n ≤ 1000) (d : Nat) : ∀ (k i : Nat), i + d = n → d < k →
    impl_added.l0 k ((List.zipWith (· + ·) u r).take i ++ u.drop i) r (r.length : Int) (i : Int) = some (List.zipWith (· + ·) u r) := by
  have hul := hu.1
  have hz : (List.zipWith (· + ·) u r).length = n := by simp [hul, hr]
  induction d with
  | zero =>
    intro k i hi hk
    obtain ⟨k, rfl⟩ : ∃ m, k = m + 1 := ⟨k - 1, by omega⟩
    simp only [impl_added.l0]
    rw [if_neg (by omega), List.take_of_length_le (by omega), List.drop_of_length_le (by omega)]
    simp
  | succ d ih =>
    intro k i hi hk
    obtain ⟨k, rfl⟩ : ∃ m, k = m + 1 := ⟨k - 1, by omega⟩
    have hl : ((List.zipWith (· + ·) u r).take i ++ u.drop i).length = n := by simp [hul, hr]; omega
    have hd : u.drop i = rd u (i : Int) :: u.drop (i + 1) := drop_at u i (by omega)
    have ht : ((List.zipWith (· + ·) u r).take i).length = i := by simp [hul, hr]; omega
    have e1 : rd ((List.zipWith (· + ·) u r).take i ++ u.drop i) (i : Int) = rd u (i : Int) := by
      rw [rd_nat, hd, List.getD_eq_getElem?_getD, List.getElem?_append_right (by omega), ht]
      simp
    have b1 := rd_in hu.2 i (by omega)
    have b2 := rd_in hx i (by omega)
    simp only [impl_added.l0]
    rw [if_pos (by omega), if_pos (by omega), if_pos (by omega), if_pos (by omega), e1, w64 (by omega) (by omega), nat_step (by omega), Int.toNat_natCast]
    have e2 : ((List.zipWith (· + ·) u r).take i ++ u.drop i).set i (rd u (i : Int) + rd r (i : Int)) = (List.zipWith (· + ·) u r).take (i + 1) ++ u.drop (i + 1) := by
      rw [hd, List.set_append_right _ _ (by omega), ht, Nat.sub_self, List.set_cons_zero, List.take_succ_eq_append_getElem (by omega), List.getElem_zipWith, rd_get u i (by omega), rd_get r i (by omega)]
      simp
    rw [e2]
    exact ih k (i + 1) (by omega) (by omega)
theorem clone_ok (u : List Int) (hn : u.length ≤ 1000000) : slices_Clone_int_int.f u = some u := by
  unfold slices_Clone_int_int.f
  rw [if_pos (by omega)]
theorem added_ok (u r : List Int) (n m : Nat) (hu : Small n m u) (hm : m ≤ 1000) (hr : r.length = n) (hx : ∀ x ∈ r, -1 ≤ x ∧ x ≤ 10) (hn : n ≤ 1000) (k : Nat) (hk : n < k) :
    impl_added.f k u r = some (List.zipWith (· + ·) u r) := by
  unfold impl_added.f
  rw [clone_ok u (by have := hu.1; omega)]
  exact added_l0 u r n m hu hm hr hx hn n k 0 (by omega) hk
theorem AF_snoc (u : List Int) (R : List (List Int)) (w : List Int) (c : Int) : AF u R (w ++ [c]) = List.zipWith (· + ·) (AF u R w) (R.getD c.toNat []) := by
  simp [AF, List.foldl_append]
theorem AF_small {n : Nat} {R : List (List Int)} (hR : Rows n R) (w : List Int) : ∀ (m : Nat) (u : List Int), Small n m u → (∀ c ∈ w, 0 ≤ c ∧ c < (R.length : Int)) → Small n (m + w.length) (AF u R w) := by
  induction w with
  | nil => intro m u hu _; exact hu
  | cons c w ih =>
    intro m u hu hw
    have hc := hw c (by simp)
    have hr := getD_in hR c.toNat (by omega)
    have := ih (m + 1) _ (small_add hu hr.1 hr.2) (fun x hx => hw x (by simp [hx]))
    rw [List.length_cons, show m + (w.length + 1) = m + 1 + w.length by omega]
    exact this
theorem rd_L (R : List (List Int)) (c : Int) : rd_L2 R c = R.getD c.toNat [] := rfl
theorem after_l0 (u : List Int) (R : List (List Int)) (w : List Int) (n : Nat) (hu : Small n 0 u) (hR : Rows n R) (hw : ∀ c ∈ w, 0 ≤ c ∧ c < (R.length : Int)) (hn : n ≤ 100) (hwl : w.length ≤ 100) (d : Nat) : ∀ (k i : Nat), i + d = w.length → d + n + 2 < k →
    impl_after.l0 k R (AF u R (w.take i)) w (w.length : Int) (i : Int) = some (AF u R w) := by
  induction d with
  | zero =>
    intro k i hi hk
    obtain ⟨k, rfl⟩ : ∃ m, k = m + 1 := ⟨k - 1, by omega⟩
    simp only [impl_after.l0]
    rw [if_neg (by omega), List.take_of_length_le (by omega)]
  | succ d ih =>
    intro k i hi hk
    obtain ⟨k, rfl⟩ : ∃ m, k = m + 1 := ⟨k - 1, by omega⟩
    have hc : 0 ≤ rd w (i : Int) ∧ rd w (i : Int) < (R.length : Int) := by
      rw [rd_get w i (by omega)]
      exact hw _ (List.getElem_mem (by omega))
    have hr := getD_in hR (rd w (i : Int)).toNat (by omega)
    have hs := AF_small hR (w.take i) 0 u hu (fun c hc => hw c (List.mem_of_mem_take hc))
    simp only [impl_after.l0]
    rw [if_pos (by omega), if_pos (by omega), if_pos (by omega), if_pos hc.1, if_pos hc.2, rd_L, added_ok _ _ n _ hs (by simp; omega) hr.1 hr.2 (by omega) k (by omega)]
    simp only [Option.bind_some]
    rw [← AF_snoc, ← take_at w i (by omega), nat_step (by omega)]
    exact ih k (i + 1) (by omega) (by omega)
theorem after_ok (u : List Int) (R : List (List Int)) (w : List Int) (n : Nat) (hu : Small n 0 u) (hR : Rows n R) (hw : ∀ c ∈ w, 0 ≤ c ∧ c < (R.length : Int)) (hn : n ≤ 100) (hwl : w.length ≤ 100) (k : Nat) (hk : w.length + n + 2 < k) :
    impl_after.f k u R w = some (AF u R w) := by
  unfold impl_after.f
  rw [clone_ok u (by have := hu.1; omega)]
  exact after_l0 u R w n hu hR hw hn hwl w.length k 0 (by omega) hk
theorem mx_max (x : Int) : mx 0 x = max 0 x := by
  unfold mx
  split <;> omega
theorem pow_bound (n v P : Int) (h0 : 0 ≤ v) (h1 : v ≤ 200) (hn : 0 ≤ n) (hP : 1 ≤ P) (h : n * (200 * P) ≤ 12800000000000000) : n * v * P ≤ 12800000000000000 ∧ n * v ≤ 12800000000000000 ∧ 0 ≤ n * v := by
  have a1 : n * v ≤ n * 200 := Int.mul_le_mul_of_nonneg_left h1 hn
  have a2 : n * v * P ≤ n * 200 * P := Int.mul_le_mul_of_nonneg_right a1 (by omega)
  have a3 : 0 ≤ n * v := Int.mul_nonneg hn h0
  have a4 : n * v * 1 ≤ n * v * P := Int.mul_le_mul_of_nonneg_left hP a3
  rw [Int.mul_assoc n 200 P] at a2
  omega
theorem pw_l0 (u : List Int) (R : List (List Int)) (w : List Int) (n : Nat) (hu : Small n 0 u) (hR : Rows n R) (hRn : R.length = n) (hw : ∀ c ∈ w, 0 ≤ c ∧ c < (R.length : Int)) (hn : n ≤ 10) (hwl : w.length ≤ 7) (d : Nat) : ∀ (k i : Nat) (a : Int), i + d = w.length → d + 30 < k → 0 ≤ a → a * 200 ^ d ≤ 12800000000000000 →
    impl_ruleWays.l0 k u R w a w (w.length : Int) (i : Int) = some (a * pw R (AF u R (w.take i)) (w.drop i)) := by
  induction d with
  | zero =>
    intro k i a hi hk _ _
    obtain ⟨k, rfl⟩ : ∃ m, k = m + 1 := ⟨k - 1, by omega⟩
    simp only [impl_ruleWays.l0]
    rw [if_neg (by omega), List.drop_of_length_le (by omega)]
    simp [pw]
  | succ d ih =>
    intro k i a hi hk a0 ab
    obtain ⟨k, rfl⟩ : ∃ m, k = m + 1 := ⟨k - 1, by omega⟩
    have hc : 0 ≤ rd w (i : Int) ∧ rd w (i : Int) < (R.length : Int) := by
      rw [rd_get w i (by omega)]
      exact hw _ (List.getElem_mem (by omega))
    have hs := AF_small hR (w.take i) 0 u hu (fun c hc => hw c (List.mem_of_mem_take hc))
    have hsl := hs.1
    have htl : (w.take i).length ≤ 7 := by simp; omega
    have hv := rd_in hs.2 (rd w (i : Int)).toNat (by omega)
    rw [show (((rd w (i : Int)).toNat : Nat) : Int) = rd w (i : Int) by omega] at hv
    have hP : (1 : Int) ≤ 200 ^ d := Int.pow_pos (by omega)
    have hpow : (200 : Int) ^ (d + 1) = 200 * 200 ^ d := by rw [Int.pow_succ, Int.mul_comm]
    rw [hpow] at ab
    have hmv : 0 ≤ max 0 (rd (AF u R (w.take i)) (rd w (i : Int))) ∧ max 0 (rd (AF u R (w.take i)) (rd w (i : Int))) ≤ 200 := by omega
    obtain ⟨b1, b2, b3⟩ := pow_bound a _ _ hmv.1 hmv.2 a0 hP ab
    simp only [impl_ruleWays.l0]
    rw [if_pos (by omega), if_pos (by omega), if_pos (by omega), if_pos (by omega), Int.toNat_natCast, after_ok u R (w.take i) n hu hR (fun c hc => hw c (List.mem_of_mem_take hc)) (by omega) (by omega) k (by omega)]
    simp only [Option.bind_some]
    rw [if_pos hc.1, if_pos (by omega), mx_max, w64 (by omega) (by omega)]
    have hgd : rd (AF u R (w.take i)) (rd w (i : Int)) = (AF u R (w.take i)).getD (rd w (i : Int)).toNat 0 := rfl
    have hpw : pw R (AF u R (w.take i)) (w.drop i) = max 0 (rd (AF u R (w.take i)) (rd w (i : Int))) * pw R (AF u R (w.take (i + 1))) (w.drop (i + 1)) := by
      rw [drop_at w i (by omega), take_at w i (by omega), AF_snoc]
      rfl
    rw [hpw, ← Int.mul_assoc]
    by_cases hz : a * max 0 (rd (AF u R (w.take i)) (rd w (i : Int))) = 0
    · rw [if_pos hz, hz, Int.zero_mul]
    · rw [if_neg hz, nat_step (by omega)]
      exact ih k (i + 1) _ (by omega) (by omega) b3 b1
theorem ruleWays_ok (u : List Int) (R : List (List Int)) (w : List Int) (n : Nat) (hu : Small n 0 u) (hR : Rows n R) (hRn : R.length = n) (hw : ∀ c ∈ w, 0 ≤ c ∧ c < (R.length : Int)) (hn : n ≤ 10) (hwl : w.length ≤ 7) (k : Nat) (hk : 40 ≤ k) :
    impl_ruleWays.f k u R w = some (pw R u w) := by
  have hb : (1 : Int) * 200 ^ w.length ≤ 12800000000000000 := by
    have : ∀ m, m ≤ 7 → (200 : Int) ^ m ≤ 12800000000000000 := by decide
    rw [Int.one_mul]
    exact this _ hwl
  have := pw_l0 u R w n hu hR hRn hw hn hwl w.length k 0 1 (by omega) (by omega) (by omega) hb
  rw [Int.one_mul] at this
  exact this

theorem colours_ok (a : Int) : impl_coloursOk.f a = some (decide (1 ≤ a ∧ a ≤ 3)) := by
  unfold impl_coloursOk.f
  by_cases h : a ≥ 1
  · simp [h]
  · simp [h]
def UrnIn (u : List Int) : Prop := (∀ x ∈ u, 0 ≤ x ∧ x ≤ 40) ∧ (1 ≤ (u.length : Int) ∧ (u.length : Int) ≤ 3)
instance (u : List Int) : Decidable (UrnIn u) := by unfold UrnIn; infer_instance
def UrnTail (u t : List Int) : Prop := (∀ x ∈ t, 0 ≤ x ∧ x ≤ 40) ∧ (1 ≤ (u.length : Int) ∧ (u.length : Int) ≤ 3)
instance (u t : List Int) : Decidable (UrnTail u t) := by unfold UrnTail; infer_instance
theorem urn_cons (u t : List Int) (x : Int) : UrnTail u (x :: t) ↔ (0 ≤ x ∧ x ≤ 40) ∧ UrnTail u t := by
  unfold UrnTail
  simp only [List.mem_cons, forall_eq_or_imp, and_assoc]
theorem impl_urn_l0 (u : List Int) (hn : u.length ≤ 2000000) (d : Nat) : ∀ (k i : Nat), i + d = u.length → d < k →
    impl_UrnOk.l0 k u u (u.length : Int) (i : Int) = some (decide (UrnTail u (u.drop i))) := by
  induction d with
  | zero =>
    intro k i hi hk
    obtain ⟨k, rfl⟩ : ∃ m, k = m + 1 := ⟨k - 1, by omega⟩
    simp only [impl_UrnOk.l0]
    rw [if_neg (by omega), List.drop_of_length_le (by omega), colours_ok]
    unfold UrnTail
    simp
  | succ d ih =>
    intro k i hi hk
    obtain ⟨k, rfl⟩ : ∃ m, k = m + 1 := ⟨k - 1, by omega⟩
    simp only [impl_UrnOk.l0]
    rw [if_pos (by omega), if_pos (by omega), if_pos (by omega), drop_at u i (by omega), nat_step (by omega), ih k (i + 1) (by omega) (by omega)]
    simp only [urn_cons]
    by_cases h1 : rd u (i : Int) < 0
    · rw [if_pos h1, decide_eq_false (by omega)]
    · rw [if_neg h1]
      by_cases h2 : rd u (i : Int) > 40
      · rw [if_pos h2, decide_eq_false (by omega)]
      · rw [if_neg h2]
        have h : 0 ≤ rd u (i : Int) ∧ rd u (i : Int) ≤ 40 := by omega
        simp [h]
theorem impl_urn (u : List Int) (hn : u.length ≤ 2000000) (k : Nat) (hk : u.length < k) : impl_UrnOk.f k u = some (decide (UrnIn u)) :=
  impl_urn_l0 u hn u.length k 0 (by omega) hk

def WordIn (c : Int) (w : List Int) : Prop := (∀ x ∈ w, 0 ≤ x ∧ x < c) ∧ (1 ≤ c ∧ c ≤ 3) ∧ (w.length : Int) ≤ 6
instance (c : Int) (w : List Int) : Decidable (WordIn c w) := by unfold WordIn; infer_instance
def WordTail (c : Int) (w t : List Int) : Prop := (∀ x ∈ t, 0 ≤ x ∧ x < c) ∧ (1 ≤ c ∧ c ≤ 3) ∧ (w.length : Int) ≤ 6
instance (c : Int) (w t : List Int) : Decidable (WordTail c w t) := by unfold WordTail; infer_instance
theorem word_cons (c : Int) (w t : List Int) (x : Int) : WordTail c w (x :: t) ↔ (0 ≤ x ∧ x < c) ∧ WordTail c w t := by
  unfold WordTail
  simp only [List.mem_cons, forall_eq_or_imp, and_assoc]
theorem impl_word_l0 (c : Int) (w : List Int) (hn : w.length ≤ 2000000) (d : Nat) : ∀ (k i : Nat), i + d = w.length → d < k →
    impl_WordOk.l0 k c w w (w.length : Int) (i : Int) = some (decide (WordTail c w (w.drop i))) := by
  induction d with
  | zero =>
    intro k i hi hk
    obtain ⟨k, rfl⟩ : ∃ m, k = m + 1 := ⟨k - 1, by omega⟩
    simp only [impl_WordOk.l0]
    rw [if_neg (by omega), List.drop_of_length_le (by omega), colours_ok]
    unfold WordTail
    by_cases h : 1 ≤ c ∧ c ≤ 3
    · simp [h]
    · simp [h]
  | succ d ih =>
    intro k i hi hk
    obtain ⟨k, rfl⟩ : ∃ m, k = m + 1 := ⟨k - 1, by omega⟩
    simp only [impl_WordOk.l0]
    rw [if_pos (by omega), if_pos (by omega), if_pos (by omega), drop_at w i (by omega), nat_step (by omega), ih k (i + 1) (by omega) (by omega)]
    simp only [word_cons]
    by_cases h1 : rd w (i : Int) < 0
    · rw [if_pos h1, decide_eq_false (by omega)]
    · rw [if_neg h1]
      by_cases h2 : rd w (i : Int) ≥ c
      · rw [if_pos h2, decide_eq_false (by omega)]
      · rw [if_neg h2]
        have h : 0 ≤ rd w (i : Int) ∧ rd w (i : Int) < c := by omega
        simp [h]
theorem impl_word (c : Int) (w : List Int) (hn : w.length ≤ 2000000) (k : Nat) (hk : w.length < k) : impl_WordOk.f k c w = some (decide (WordIn c w)) :=
  impl_word_l0 c w hn w.length k 0 (by omega) hk

def CountTail (c : Int) (l t : List Int) (left : Int) : Prop := (∀ x ∈ t, 0 ≤ x) ∧ t.sum ≤ left ∧ (1 ≤ c ∧ c ≤ 3) ∧ (l.length : Int) = c
instance (c : Int) (l t : List Int) (left : Int) : Decidable (CountTail c l t left) := by unfold CountTail; infer_instance
def CountIn (c : Int) (l : List Int) : Prop := CountTail c l l 6
instance (c : Int) (l : List Int) : Decidable (CountIn c l) := by unfold CountIn; infer_instance
theorem sum_pos (l : List Int) (h : ∀ x ∈ l, 0 ≤ x) : 0 ≤ l.sum := by
  induction l with
  | nil => simp
  | cons x l ih =>
    have h1 := h x (by simp)
    have h2 := ih fun y hy => h y (by simp [hy])
    simp only [List.sum_cons]
    omega
theorem count_cons (c : Int) (l t : List Int) (x left : Int) : CountTail c l (x :: t) left ↔ (0 ≤ x ∧ x ≤ left) ∧ CountTail c l t (left - x) := by
  unfold CountTail
  constructor
  · rintro ⟨h1, h2, h3, h4⟩
    have p := sum_pos t fun y hy => h1 y (by simp [hy])
    have q := h1 x (by simp)
    simp only [List.sum_cons] at h2
    exact ⟨⟨q, by omega⟩, fun y hy => h1 y (by simp [hy]), by omega, h3, h4⟩
  · rintro ⟨⟨h0, h1⟩, h2, h3, h4, h5⟩
    refine ⟨fun y hy => ?_, by simp only [List.sum_cons]; omega, h4, h5⟩
    rcases List.mem_cons.mp hy with rfl | h
    · exact h0
    · exact h2 y h
theorem impl_count_l0 (c : Int) (l : List Int) (hn : l.length ≤ 2000000) (d : Nat) : ∀ (k i : Nat) (left : Int), i + d = l.length → d < k → 0 ≤ left → left ≤ 6 →
    impl_CountRowOk.l0 k c l left l (l.length : Int) (i : Int) = some (decide (CountTail c l (l.drop i) left)) := by
  induction d with
  | zero =>
    intro k i left hi hk l0 l1
    obtain ⟨k, rfl⟩ : ∃ m, k = m + 1 := ⟨k - 1, by omega⟩
    simp only [impl_CountRowOk.l0]
    rw [if_neg (by omega), List.drop_of_length_le (by omega), colours_ok]
    unfold CountTail
    by_cases h : 1 ≤ c ∧ c ≤ 3
    · simp [h, beq_dec, l0]
    · simp [h]
  | succ d ih =>
    intro k i left hi hk l0 l1
    obtain ⟨k, rfl⟩ : ∃ m, k = m + 1 := ⟨k - 1, by omega⟩
    simp only [impl_CountRowOk.l0]
    rw [if_pos (by omega), if_pos (by omega), if_pos (by omega), drop_at l i (by omega)]
    simp only [count_cons]
    by_cases h1 : rd l (i : Int) < 0
    · rw [if_pos h1, decide_eq_false (by omega)]
    · rw [if_neg h1]
      by_cases h2 : rd l (i : Int) > left
      · rw [if_pos h2, decide_eq_false (by omega)]
      · rw [if_neg h2, nat_step (by omega), w64 (by omega) (by omega), ih k (i + 1) _ (by omega) (by omega) (by omega) (by omega)]
        have h : 0 ≤ rd l (i : Int) ∧ rd l (i : Int) ≤ left := by omega
        simp [h]
theorem impl_count (c : Int) (l : List Int) (hn : l.length ≤ 2000000) (k : Nat) (hk : l.length < k) : impl_CountRowOk.f k c l = some (decide (CountIn c l)) :=
  impl_count_l0 c l hn l.length k 0 6 (by omega) hk (by omega) (by omega)
theorem isum_l0 (l : List Int) (hn : l.length ≤ 1000) (h : ∀ x ∈ l, 0 ≤ x ∧ x ≤ 1000) (d : Nat) : ∀ (k i : Nat), i + d = l.length → d < k →
    impl_sum.l0 k (l.take i).sum l (l.length : Int) (i : Int) = some l.sum := by
  induction d with
  | zero =>
    intro k i hi hk
    obtain ⟨k, rfl⟩ : ∃ m, k = m + 1 := ⟨k - 1, by omega⟩
    simp only [impl_sum.l0]
    rw [if_neg (by omega), List.take_of_length_le (by omega)]
  | succ d ih =>
    intro k i hi hk
    obtain ⟨k, rfl⟩ : ∃ m, k = m + 1 := ⟨k - 1, by omega⟩
    have hx := h (rd l (i : Int)) (by rw [rd_get l i (by omega)]; exact List.getElem_mem _)
    have hb : ∀ (t : List Int), (∀ x ∈ t, 0 ≤ x ∧ x ≤ 1000) → 0 ≤ t.sum ∧ t.sum ≤ 1000 * (t.length : Int) := by
      intro t
      induction t with
      | nil => simp
      | cons x t ih =>
        intro h
        have h1 := h x (by simp)
        have h2 := ih fun y hy => h y (by simp [hy])
        simp only [List.sum_cons, List.length_cons]
        omega
    have hs := hb (l.take i) fun x hx => h x (List.mem_of_mem_take hx)
    have hl : (l.take i).length ≤ 1000 := by simp; omega
    simp only [impl_sum.l0]
    rw [if_pos (by omega), if_pos (by omega), if_pos (by omega), nat_step (by omega), w64 (by omega) (by omega)]
    have e : (l.take i).sum + rd l (i : Int) = (l.take (i + 1)).sum := by
      rw [take_at l i (by omega)]
      simp
    rw [e]
    exact ih k (i + 1) (by omega) (by omega)
theorem isum_ok (l : List Int) (hn : l.length ≤ 1000) (h : ∀ x ∈ l, 0 ≤ x ∧ x ≤ 1000) (k : Nat) (hk : l.length < k) : impl_sum.f k l = some l.sum :=
  isum_l0 l hn h l.length k 0 (by omega) hk

/-- What draws of one colour make. -/
def rise (s : Int) : Int → Nat → Int
  | _, 0 => 1
  | a, m + 1 => max 0 a * rise s (a + s) m
def prodR (s : Int) : List Int → List Int → Int
  | a :: u, m :: cs => rise s a m.toNat * prodR s u cs
  | _, _ => 1
def cntL (n : Nat) (q : List Int) : List Int := (List.range n).map fun (i : Nat) => ((q.count (i : Int) : Nat) : Int)
def rowsD (n : Nat) (s : Int) : List (List Int) := (List.range n).map fun c => (List.replicate n 0).set c s
theorem pw_1 (s : Int) (q : List Int) : ∀ a, (∀ x ∈ q, 0 ≤ x ∧ x < 1) → pw [[s]] [a] q = rise s a (q.count 0) := by
  induction q with
  | nil => intro a _; rfl
  | cons c q ih =>
    intro a h
    have hc := h c (by simp)
    have hr := fun b => ih b fun x hx => h x (by simp [hx])
    obtain rfl : c = 0 := by omega
    simp [pw, rise, hr]
theorem pw_2 (s : Int) (q : List Int) : ∀ a b, (∀ x ∈ q, 0 ≤ x ∧ x < 2) → pw [[s, 0], [0, s]] [a, b] q = rise s a (q.count 0) * rise s b (q.count 1) := by
  induction q with
  | nil => intro a b _; rfl
  | cons c q ih =>
    intro a b h
    have hc := h c (by simp)
    have hr := fun a b => ih a b fun x hx => h x (by simp [hx])
    rcases (by omega : c = 0 ∨ c = 1) with rfl | rfl
    · simp [pw, rise, hr, Int.mul_assoc]
    · simp [pw, rise, hr, Int.mul_left_comm]
theorem pw_3 (s : Int) (q : List Int) : ∀ a b c, (∀ x ∈ q, 0 ≤ x ∧ x < 3) → pw [[s, 0, 0], [0, s, 0], [0, 0, s]] [a, b, c] q = rise s a (q.count 0) * (rise s b (q.count 1) * rise s c (q.count 2)) := by
  induction q with
  | nil => intro a b c _; rfl
  | cons x q ih =>
    intro a b c h
    have hc := h x (by simp)
    have hr := fun a b c => ih a b c fun x hx => h x (by simp [hx])
    rcases (by omega : x = 0 ∨ x = 1 ∨ x = 2) with rfl | rfl | rfl
    · simp [pw, rise, hr, Int.mul_assoc]
    · simp [pw, rise, hr, Int.mul_left_comm, Int.mul_assoc]
    · simp [pw, rise, hr, Int.mul_left_comm]
theorem len1 {u : List Int} (h : u.length = 1) : ∃ a, u = [a] := List.length_eq_one_iff.mp h
theorem len2 {u : List Int} (h : u.length = 2) : ∃ a b, u = [a, b] := by
  match u, h with
  | [a, b], _ => exact ⟨a, b, rfl⟩
theorem len3 {u : List Int} (h : u.length = 3) : ∃ a b c, u = [a, b, c] := by
  match u, h with
  | [a, b, c], _ => exact ⟨a, b, c, rfl⟩
theorem pw_rise (s : Int) (u q : List Int) (n : Nat) (h1 : 1 ≤ n) (h3 : n ≤ 3) (hu : u.length = n) (hq : ∀ x ∈ q, 0 ≤ x ∧ x < (n : Int)) : pw (rowsD n s) u q = prodR s u (cntL n q) := by
  rcases (by omega : n = 1 ∨ n = 2 ∨ n = 3) with rfl | rfl | rfl
  · obtain ⟨a, rfl⟩ := len1 hu
    have := pw_1 s q a (fun x hx => by have := hq x hx; omega)
    simpa [rowsD, cntL, prodR, List.range_succ] using this
  · obtain ⟨a, b, rfl⟩ := len2 hu
    have := pw_2 s q a b (fun x hx => by have := hq x hx; omega)
    simpa [rowsD, cntL, prodR, List.range_succ] using this
  · obtain ⟨a, b, c, rfl⟩ := len3 hu
    have := pw_3 s q a b c (fun x hx => by have := hq x hx; omega)
    simpa [rowsD, cntL, prodR, List.range_succ] using this
theorem rise_in (s : Int) (h0 : -1 ≤ s) (h3 : s ≤ 3) (m : Nat) : ∀ a, a + 3 * (m : Int) ≤ 60 → 0 ≤ rise s a m ∧ rise s a m ≤ 60 ^ m := by
  induction m with
  | zero => intro a _; simp [rise]
  | succ m ih =>
    intro a h
    obtain ⟨i0, i1⟩ := ih (a + s) (by omega)
    have hm : 0 ≤ max 0 a ∧ max 0 a ≤ 60 := by omega
    have e : rise s a (m + 1) = max 0 a * rise s (a + s) m := rfl
    rw [e, Int.pow_succ, Int.mul_comm (60 ^ m) 60]
    exact ⟨Int.mul_nonneg hm.1 i0, Int.mul_le_mul hm.2 i1 i0 (by omega)⟩
theorem prodR_in (s : Int) (h0 : -1 ≤ s) (h3 : s ≤ 3) : ∀ (u cs : List Int), (∀ x ∈ u, x ≤ 40) → (∀ x ∈ cs, 0 ≤ x) → cs.sum ≤ 6 → 0 ≤ prodR s u cs ∧ prodR s u cs ≤ 60 ^ cs.sum.toNat := by
  intro u
  induction u with
  | nil => intro cs _ _ _; have : (1 : Int) ≤ 60 ^ cs.sum.toNat := Int.pow_pos (by omega); simp [prodR]; omega
  | cons a u ih =>
    intro cs hu hc hs
    match cs with
    | [] => simp [prodR]
    | m :: cs =>
      have p := sum_pos cs fun x hx => hc x (by simp [hx])
      have q := hc m (by simp)
      simp only [List.sum_cons] at hs
      obtain ⟨i0, i1⟩ := ih cs (fun x hx => hu x (by simp [hx])) (fun x hx => hc x (by simp [hx])) (by omega)
      obtain ⟨r0, r1⟩ := rise_in s h0 h3 m.toNat a (by have := hu a (by simp); omega)
      have e : (m :: cs).sum.toNat = m.toNat + cs.sum.toNat := by simp only [List.sum_cons]; omega
      rw [e, Int.pow_add]
      exact ⟨Int.mul_nonneg r0 i0, Int.mul_le_mul r1 i1 i0 (Int.le_trans r0 r1)⟩
theorem prodR_small (s : Int) (h0 : -1 ≤ s) (h3 : s ≤ 3) (u cs : List Int) (hu : ∀ x ∈ u, x ≤ 40) (hc : ∀ x ∈ cs, 0 ≤ x) (hs : cs.sum ≤ 6) : 0 ≤ prodR s u cs ∧ prodR s u cs ≤ 46656000000 := by
  obtain ⟨i0, i1⟩ := prodR_in s h0 h3 u cs hu hc hs
  have : ∀ m : Nat, m ≤ 6 → (60 : Int) ^ m ≤ 46656000000 := by decide
  exact ⟨i0, Int.le_trans i1 (this _ (by omega))⟩
theorem tell_const (F : Int → List Int → Option Int) (M : List Int → Bool) (P B : Int) (hP : 0 ≤ P) (qs : List (List Int)) (hq : ∀ q ∈ qs, ∀ a, 0 ≤ a → a + P ≤ B → F a q = some (if M q then a + P else a)) :
    ∀ a, 0 ≤ a → a + P * (qs.length : Int) ≤ B → tellAll F a qs = some (a + P * ((qs.countP M : Nat) : Int)) := by
  induction qs with
  | nil => intro a _ _; simp [tellAll]
  | cons q qs ih =>
    intro a a0 ab
    have hn : 0 ≤ P * (qs.length : Int) := Int.mul_nonneg hP (by omega)
    have e : P * ((q :: qs).length : Int) = P * (qs.length : Int) + P := by
      rw [List.length_cons, Int.natCast_succ, Int.mul_add, Int.mul_one]
    rw [e] at ab
    have h := hq q (by simp) a a0 (by omega)
    have ih' := ih fun x hx => hq x (by simp [hx])
    unfold tellAll
    rw [h]
    simp only [Option.bind_some]
    by_cases hm : M q = true
    · rw [if_pos hm, ih' (a + P) (by omega) (by omega), List.countP_cons_of_pos hm, Int.natCast_succ, Int.mul_add, Int.mul_one]
      congr 1
      omega
    · rw [if_neg hm, ih' a a0 (by omega), List.countP_cons_of_neg hm]
theorem equal_l0 (x y : List Int) (hn : x.length ≤ 2000000) (hxy : x.length = y.length) (d : Nat) : ∀ (k i : Nat), i + d = x.length → d < k → slices_Equal_int_int.l0 k x y (x.length : Int) (i : Int) = some (decide (x.drop i = y.drop i)) := by
  induction d with
  | zero =>
    intro k i hi hk
    obtain ⟨k, rfl⟩ : ∃ m, k = m + 1 := ⟨k - 1, by omega⟩
    simp only [slices_Equal_int_int.l0]
    rw [if_neg (by omega), List.drop_of_length_le (by omega), List.drop_of_length_le (by omega)]
    simp
  | succ d ih =>
    intro k i hi hk
    obtain ⟨k, rfl⟩ : ∃ m, k = m + 1 := ⟨k - 1, by omega⟩
    simp only [slices_Equal_int_int.l0]
    rw [if_pos (by omega), if_pos (by omega), if_pos (by omega), if_pos (by omega), nat_step (by omega), ih k (i + 1) (by omega) (by omega), drop_at x i (by omega), drop_at y i (by omega)]
    by_cases h : rd x (i : Int) = rd y (i : Int)
    · rw [if_pos h]
      simp [h]
    · rw [if_neg h]
      simp [h]
theorem equal_ok (x y : List Int) (hn : x.length ≤ 2000000) (k : Nat) (hk : x.length < k) : slices_Equal_int_int.f k x y = some (decide (x = y)) := by
  unfold slices_Equal_int_int.f
  by_cases h : x.length = y.length
  · rw [if_pos (by omega)]
    exact equal_l0 x y hn h x.length k 0 (by omega) hk
  · rw [if_neg (by omega), decide_eq_false]
    rintro rfl
    exact h rfl

/-- How many words have these counts. -/
def nW (n : Nat) (cs : List Int) : Int := (((allW n cs.sum.toNat).countP fun q => cntL n q == cs : Nat) : Int)
set_option maxRecDepth 100000 in
theorem words_check : ((List.range 3).all fun i => (List.range 7).all fun m => decide ((allW (i + 1) m).length ≤ 729) && (allW (i + 1) m).all fun q => decide (q.length = m) && (q.all (fun x => decide (0 ≤ x ∧ x < ((i + 1 : Nat) : Int))) && decide (impl_CountsOf.f 30 ((i + 1 : Nat) : Int) q = some (cntL (i + 1) q)))) = true := by kernel_rfl
theorem words_ok (n m : Nat) (h1 : 1 ≤ n) (h3 : n ≤ 3) (hm : m ≤ 6) : (allW n m).length ≤ 729 ∧ ∀ q ∈ allW n m, q.length = m ∧ (∀ x ∈ q, 0 ≤ x ∧ x < (n : Int)) ∧ ∀ k, 30 ≤ k → impl_CountsOf.f k (n : Int) q = some (cntL n q) := by
  have h := words_check
  simp only [List.all_eq_true, List.mem_range, Bool.and_eq_true, decide_eq_true_eq] at h
  have h := h (n - 1) (by omega) m (by omega)
  rw [show n - 1 + 1 = n by omega] at h
  exact ⟨h.1, fun q hq => ⟨(h.2 q hq).1, (h.2 q hq).2.1, fun k hk => lift (fun k => impl_CountsOf.mono (n : Int) q k) (h.2 q hq).2.2 hk⟩⟩
theorem words_tell (n : Nat) (cs : List Int) (h : CountIn (n : Int) cs) (F : Int → List Int → Option Int) (P : Int) (hP : 0 ≤ P) (hP1 : P ≤ 46656000000) (k : Nat) (hk : 40 ≤ k)
    (hF : ∀ q ∈ allW n cs.sum.toNat, cntL n q = cs → ∀ a, 0 ≤ a → a + P ≤ 1000000000000000000 → F a q = some (a + P)) :
    tellAll (withF k cs F) 0 (allW n cs.sum.toNat) = some (P * nW n cs) := by
  obtain ⟨h0, hs, hn, hl⟩ := h
  have hw := words_ok n cs.sum.toNat (by omega) (by omega) (by omega)
  have ht := tell_const (withF k cs F) (fun q => cntL n q == cs) P 1000000000000000000 hP (allW n cs.sum.toNat) ?_ 0 (by omega) ?_
  · rw [ht, Int.zero_add]
    rfl
  · intro q hq a a0 ab
    have hq' := (hw.2 q hq).2.2 k (by omega)
    have hlq : (cntL n q).length = n := by simp [cntL]
    unfold withF
    rw [hl, hq']
    simp only [Option.bind_some]
    rw [equal_ok _ _ (by omega) k (by omega)]
    simp only [Option.bind_some]
    by_cases e : cntL n q = cs
    · rw [if_pos (by simpa using e), if_pos (by simpa using e)]
      exact hF q hq e a a0 ab
    · rw [if_neg (by simpa using e), if_neg (by simpa using e)]
  · have hlen : ((allW n cs.sum.toNat).length : Int) ≤ 729 := by have := hw.1; omega
    have := Int.mul_le_mul hP1 hlen (by omega) (by omega)
    omega

def sameCheck (n : Nat) (s : Int) : Bool := decide (impl_SameRule.f 20 (n : Int) s = some (rowsD n s))
theorem same_check : (([-1, 0, 1, 2, 3] : List Int).all fun s => sameCheck 1 s && (sameCheck 2 s && sameCheck 3 s)) = true := by kernel_rfl
theorem same_ok (n : Nat) (s : Int) (h1 : 1 ≤ n) (h3 : n ≤ 3) (hs : -1 ≤ s) (hs3 : s ≤ 3) (k : Nat) (hk : 20 ≤ k) : impl_SameRule.f k (n : Int) s = some (rowsD n s) := by
  have h := same_check
  simp only [List.all_eq_true, Bool.and_eq_true] at h
  have h := h s (by
    rcases (by omega : s = -1 ∨ s = 0 ∨ s = 1 ∨ s = 2 ∨ s = 3) with rfl | rfl | rfl | rfl | rfl <;> simp)
  refine lift (fun k => impl_SameRule.mono (n : Int) s k) ?_ hk
  rcases (by omega : n = 1 ∨ n = 2 ∨ n = 3) with rfl | rfl | rfl
  · exact of_decide_eq_true h.1
  · exact of_decide_eq_true h.2.1
  · exact of_decide_eq_true h.2.2
theorem rows_ok (n : Nat) (s : Int) (hs : -1 ≤ s) (hs3 : s ≤ 3) : Rows n (rowsD n s) ∧ (rowsD n s).length = n := by
  refine ⟨fun r hr => ?_, by simp [rowsD]⟩
  obtain ⟨c, -, rfl⟩ := List.mem_map.mp hr
  refine ⟨by simp, fun x hx => ?_⟩
  rcases List.mem_or_eq_of_mem_set hx with q | q
  · rw [(List.mem_replicate.mp q).2]
    omega
  · omega
theorem urn_small {u : List Int} (h : UrnIn u) : Small u.length 0 u := ⟨rfl, fun x hx => by have := h.1 x hx; omega⟩
theorem pow60 (m : Nat) : (1 : Int) ≤ 60 ^ m := Int.pow_pos (by omega)
theorem mul_bound {a v P B : Int} (ha : 0 ≤ a) (hv : v ≤ 60) (hP : 0 ≤ P) (h : a * (60 * P) ≤ B) : a * v * P ≤ B := by
  have h1 : a * v ≤ a * 60 := Int.mul_le_mul_of_nonneg_left hv ha
  have h2 : a * v * P ≤ a * 60 * P := Int.mul_le_mul_of_nonneg_right h1 hP
  rw [Int.mul_assoc a 60 P] at h2
  omega
theorem le_mul {a P B : Int} (ha : 0 ≤ a) (hP : 1 ≤ P) (h : a * P ≤ B) : a ≤ B := by
  have : a * 1 ≤ a * P := Int.mul_le_mul_of_nonneg_left hP ha
  omega
theorem in_sum {cs : List Int} {B : Int} (h0 : ∀ x ∈ cs, 0 ≤ x) (hs : cs.sum ≤ B) : ∀ x ∈ cs, 0 ≤ x ∧ x ≤ B := by
  intro x hx
  obtain ⟨i, hi, rfl⟩ := List.mem_iff_getElem.mp hx
  have e : cs.sum = (cs.take i).sum + (cs[i] + (cs.drop (i + 1)).sum) := by
    conv => lhs; rw [← List.take_append_drop i cs, List.sum_append, List.drop_eq_getElem_cons hi, List.sum_cons]
  have p1 := sum_pos (cs.take i) fun x hx => h0 x (List.mem_of_mem_take hx)
  have p2 := sum_pos (cs.drop (i + 1)) fun x hx => h0 x (List.mem_of_mem_drop hx)
  have p3 := h0 cs[i] (List.getElem_mem hi)
  omega

def StartTail (u t : List Int) : Prop := (∀ x ∈ t, x ≤ 10) ∧ UrnIn u
instance (u t : List Int) : Decidable (StartTail u t) := by unfold StartTail; infer_instance
def StartIn (u : List Int) : Prop := StartTail u u
instance (u : List Int) : Decidable (StartIn u) := by unfold StartIn; infer_instance
theorem start_cons (u t : List Int) (x : Int) : StartTail u (x :: t) ↔ x ≤ 10 ∧ StartTail u t := by
  unfold StartTail
  simp only [List.mem_cons, forall_eq_or_imp, and_assoc]
theorem impl_start_l0 (u : List Int) (hn : u.length ≤ 2000000) (d : Nat) : ∀ (k i : Nat), i + d = u.length → u.length + d + 1 < k →
    impl_StartOk.l0 k u u (u.length : Int) (i : Int) = some (decide (StartTail u (u.drop i))) := by
  induction d with
  | zero =>
    intro k i hi hk
    obtain ⟨k, rfl⟩ : ∃ m, k = m + 1 := ⟨k - 1, by omega⟩
    simp only [impl_StartOk.l0]
    rw [if_neg (by omega), List.drop_of_length_le (by omega), impl_urn u (by omega) k (by omega)]
    simp [StartTail]
  | succ d ih =>
    intro k i hi hk
    obtain ⟨k, rfl⟩ : ∃ m, k = m + 1 := ⟨k - 1, by omega⟩
    simp only [impl_StartOk.l0]
    rw [if_pos (by omega), if_pos (by omega), if_pos (by omega), drop_at u i (by omega), nat_step (by omega), ih k (i + 1) (by omega) (by omega)]
    simp only [start_cons]
    by_cases h : rd u (i : Int) > 10
    · rw [if_pos h, decide_eq_false (by omega)]
    · rw [if_neg h]
      simp [show rd u (i : Int) ≤ 10 by omega]
theorem impl_start (u : List Int) (hn : u.length ≤ 2000000) (k : Nat) (hk : 2 * u.length + 1 < k) : impl_StartOk.f k u = some (decide (StartIn u)) :=
  impl_start_l0 u hn u.length k 0 (by omega) (by omega)

theorem sameCounts_ok (u : List Int) (s : Int) (cs : List Int) (hn : u.length ≤ 1100000) (hm : cs.length ≤ 1100000) (k : Nat) (hk : 100 + 2 * u.length + cs.length ≤ k) :
    impl_SameCounts.f k u s cs = some (if StartIn u ∧ CountIn (u.length : Int) cs ∧ -1 ≤ s ∧ s ≤ 3 then prodR s u cs * nW u.length cs else -1) := by
  unfold impl_SameCounts.f
  rw [colours_ok]
  simp only [Option.bind_some]
  by_cases hg : decide (1 ≤ (u.length : Int) ∧ (u.length : Int) ≤ 3) = false ∨ s < -1 ∨ s > 3
  · rw [if_pos hg, if_neg]
    rintro ⟨⟨-, -, h1⟩, -, h2, h3⟩
    rw [decide_eq_true h1] at hg
    rcases hg with h | h | h
    · cases h
    · omega
    · omega
  rw [if_neg hg]
  have h3 : 1 ≤ (u.length : Int) ∧ (u.length : Int) ≤ 3 := Decidable.byContradiction fun h => hg (Or.inl (decide_eq_false h))
  have hs0 : -1 ≤ s ∧ s ≤ 3 := by
    refine Decidable.byContradiction fun h => hg (Or.inr ?_)
    omega
  have hr := rows_ok u.length s hs0.1 hs0.2
  rw [same_ok u.length s (by omega) (by omega) hs0.1 hs0.2 k (by omega)]
  simp only [Option.bind_some]
  rw [if_neg (by intro h; have := hr.2; rw [h] at this; simp at this; omega), impl_start u (by omega) k (by omega)]
  by_cases hu : StartIn u
  · rw [decide_eq_true hu]
    simp only [Option.bind_some, if_true]
    rw [impl_count _ cs (by omega) _ (by omega)]
    by_cases hc : CountIn (u.length : Int) cs
    · rw [decide_eq_true hc, if_pos ⟨hu, hc, hs0⟩]
      have hc' := hc
      obtain ⟨h0, hs, -, hl⟩ := hc'
      have hu' := hu.2
      have hp := prodR_small s hs0.1 hs0.2 u cs (fun x hx => (hu'.1 x hx).2) h0 hs
      have s0 := sum_pos cs h0
      simp only [Option.bind_some, if_true]
      rw [isum_ok cs (by omega) (fun x hx => by have := in_sum h0 hs x hx; omega) k (by omega)]
      simp only [Option.bind_some]
      rw [if_pos ⟨s0, hs, by omega⟩, show cs.length = u.length by omega]
      refine words_tell u.length cs hc _ _ hp.1 hp.2 k (by omega) ?_
      intro q hq e a a0 ab
      have hw := (words_ok u.length cs.sum.toNat (by omega) (by omega) (by omega)).2 q hq
      unfold sumG
      rw [ruleWays_ok u _ q u.length (urn_small hu') hr.1 hr.2 (by rw [hr.2]; exact hw.2.1) (by omega) (by omega) k (by omega), pw_rise s u q u.length (by omega) (by omega) rfl hw.2.1, e]
      simp only [Option.bind_some]
      rw [w64 (by omega) (by omega)]
    · rw [decide_eq_false hc, if_neg (fun h => hc h.2.1)]
      simp
  · rw [decide_eq_false hu, if_neg (fun h => hu h.1)]
    simp

theorem spec_urn_l0 (u : List Int) (hn : u.length ≤ 2000000) (d : Nat) : ∀ (k i : Nat), i + d = u.length → d < k →
    spec_UrnOk.l0 k u (i : Int) = some (decide (UrnTail u (u.drop i))) := by
  induction d with
  | zero =>
    intro k i hi hk
    obtain ⟨k, rfl⟩ : ∃ m, k = m + 1 := ⟨k - 1, by omega⟩
    simp only [spec_UrnOk.l0]
    rw [if_neg (by omega), List.drop_of_length_le (by omega), l1In_ok]
    unfold UrnTail
    simp
  | succ d ih =>
    intro k i hi hk
    obtain ⟨k, rfl⟩ : ∃ m, k = m + 1 := ⟨k - 1, by omega⟩
    simp only [spec_UrnOk.l0]
    rw [if_pos (by omega), if_pos (by omega), l1In_ok, drop_at u i (by omega), nat_step (by omega), ih k (i + 1) (by omega) (by omega)]
    simp only [Option.bind_some, urn_cons]
    by_cases h : 0 ≤ rd u (i : Int) ∧ rd u (i : Int) ≤ 40
    · simp [h]
    · simp [h]
theorem spec_urn (u : List Int) (hn : u.length ≤ 2000000) (k : Nat) (hk : u.length < k) : spec_UrnOk.f k u = some (decide (UrnIn u)) :=
  spec_urn_l0 u hn u.length k 0 (by omega) hk

theorem spec_start_l0 (u : List Int) (hn : u.length ≤ 2000000) (d : Nat) : ∀ (k i : Nat), i + d = u.length → u.length + d + 1 < k →
    spec_StartOk.l0 k u (i : Int) = some (decide (StartTail u (u.drop i))) := by
  induction d with
  | zero =>
    intro k i hi hk
    obtain ⟨k, rfl⟩ : ∃ m, k = m + 1 := ⟨k - 1, by omega⟩
    simp only [spec_StartOk.l0]
    rw [if_neg (by omega), List.drop_of_length_le (by omega), spec_urn u (by omega) k (by omega)]
    simp [StartTail]
  | succ d ih =>
    intro k i hi hk
    obtain ⟨k, rfl⟩ : ∃ m, k = m + 1 := ⟨k - 1, by omega⟩
    simp only [spec_StartOk.l0]
    rw [if_pos (by omega), if_pos (by omega), drop_at u i (by omega), nat_step (by omega), ih k (i + 1) (by omega) (by omega)]
    simp only [start_cons]
    by_cases h : rd u (i : Int) > 10
    · rw [if_pos h, decide_eq_false (by omega)]
    · rw [if_neg h]
      simp [show rd u (i : Int) ≤ 10 by omega]
theorem spec_start (u : List Int) (hn : u.length ≤ 2000000) (k : Nat) (hk : 2 * u.length + 1 < k) : spec_StartOk.f k u = some (decide (StartIn u)) :=
  spec_start_l0 u hn u.length k 0 (by omega) (by omega)

theorem total_l0 (l : List Int) (hn : l.length ≤ 1000) (h : ∀ x ∈ l, 0 ≤ x ∧ x ≤ 1000) (d : Nat) : ∀ (k i : Nat), i + d = l.length → d < k →
    spec_l1Total.l0 k l (l.take i).sum (i : Int) = some l.sum := by
  induction d with
  | zero =>
    intro k i hi hk
    obtain ⟨k, rfl⟩ : ∃ m, k = m + 1 := ⟨k - 1, by omega⟩
    simp only [spec_l1Total.l0]
    rw [if_neg (by omega), List.take_of_length_le (by omega)]
  | succ d ih =>
    intro k i hi hk
    obtain ⟨k, rfl⟩ : ∃ m, k = m + 1 := ⟨k - 1, by omega⟩
    have hx := h (rd l (i : Int)) (by rw [rd_get l i (by omega)]; exact List.getElem_mem _)
    have hb : ∀ (t : List Int), (∀ x ∈ t, 0 ≤ x ∧ x ≤ 1000) → 0 ≤ t.sum ∧ t.sum ≤ 1000 * (t.length : Int) := by
      intro t
      induction t with
      | nil => simp
      | cons x t ih =>
        intro h
        have h1 := h x (by simp)
        have h2 := ih fun y hy => h y (by simp [hy])
        simp only [List.sum_cons, List.length_cons]
        omega
    have hs := hb (l.take i) fun x hx => h x (List.mem_of_mem_take hx)
    have hl : (l.take i).length ≤ 1000 := by simp; omega
    simp only [spec_l1Total.l0]
    rw [if_pos (by omega), if_pos (by omega), nat_step (by omega), w64 (by omega) (by omega)]
    have e : (l.take i).sum + rd l (i : Int) = (l.take (i + 1)).sum := by
      rw [take_at l i (by omega)]
      simp
    rw [e]
    exact ih k (i + 1) (by omega) (by omega)
theorem total_ok (l : List Int) (hn : l.length ≤ 1000) (h : ∀ x ∈ l, 0 ≤ x ∧ x ≤ 1000) (k : Nat) (hk : l.length < k) : spec_l1Total.f k l = some l.sum :=
  total_l0 l hn h l.length k 0 (by omega) hk
theorem spec_count_l0 (c : Int) (l : List Int) (hn : l.length ≤ 2000000) (d : Nat) : ∀ (k i : Nat), i + d = l.length → d + 10 < k → (∀ x ∈ l.take i, 0 ≤ x ∧ x ≤ 6) →
    spec_CountRowOk.l0 k c l (i : Int) = some (decide (CountIn c l)) := by
  induction d with
  | zero =>
    intro k i hi hk ht
    obtain ⟨k, rfl⟩ : ∃ m, k = m + 1 := ⟨k - 1, by omega⟩
    rw [List.take_of_length_le (by omega)] at ht
    simp only [spec_CountRowOk.l0]
    rw [if_neg (by omega), l1In_ok]
    simp only [Option.bind_some]
    by_cases h : 1 ≤ c ∧ c ≤ 3
    · rw [if_pos (by simpa using h)]
      by_cases h2 : (l.length : Int) = c
      · have h0 : ∀ x ∈ l, 0 ≤ x := fun x hx => (ht x hx).1
        rw [if_pos h2, total_ok l (by omega) (fun x hx => by have := ht x hx; omega) k (by omega)]
        simp only [Option.bind_some]
        congr 1
        exact decide_eq_decide.mpr ⟨fun q => ⟨h0, q, h, h2⟩, fun q => q.2.1⟩
      · rw [if_neg h2]
        exact congrArg some (decide_eq_false (p := CountIn c l) (fun q => h2 q.2.2.2)).symm
    · rw [if_neg (by simpa using h)]
      exact congrArg some (decide_eq_false (p := CountIn c l) (fun q => h q.2.2.1)).symm
  | succ d ih =>
    intro k i hi hk ht
    obtain ⟨k, rfl⟩ : ∃ m, k = m + 1 := ⟨k - 1, by omega⟩
    simp only [spec_CountRowOk.l0]
    rw [if_pos (by omega), if_pos (by omega), l1In_ok, nat_step (by omega)]
    simp only [Option.bind_some]
    by_cases h : 0 ≤ rd l (i : Int) ∧ rd l (i : Int) ≤ 6
    · rw [if_pos (by simpa using h)]
      refine ih k (i + 1) (by omega) (by omega) ?_
      rw [take_at l i (by omega)]
      intro x hx
      rcases List.mem_append.mp hx with q | q
      · exact ht x q
      · rw [List.mem_singleton.mp q]
        exact h
    · rw [if_neg (by simpa using h), decide_eq_false]
      rintro ⟨h1, h2, _, _⟩
      have hm : rd l (i : Int) ∈ l := by
        rw [rd_get l i (by omega)]
        exact List.getElem_mem _
      have h3 := h1 _ hm
      have h4 : rd l (i : Int) ≤ l.sum := by
        have e : l.sum = (l.take i).sum + (rd l (i : Int) + (l.drop (i + 1)).sum) := by
          conv => lhs; rw [← List.take_append_drop i l, List.sum_append, drop_at l i (by omega), List.sum_cons]
        have p1 := sum_pos (l.take i) fun x hx => h1 x (List.mem_of_mem_take hx)
        have p2 := sum_pos (l.drop (i + 1)) fun x hx => h1 x (List.mem_of_mem_drop hx)
        omega
      omega
theorem spec_count (c : Int) (l : List Int) (hn : l.length ≤ 2000000) (k : Nat) (hk : l.length + 10 < k) : spec_CountRowOk.f k c l = some (decide (CountIn c l)) :=
  spec_count_l0 c l hn l.length k 0 (by omega) hk (by simp)

def cellsOk (n : Nat) (cs : List Int) : Bool := decide (spec_WordsWith.f 40 (n : Int) cs = some (nW n cs) ∧ nW n cs ≤ 729)
set_option maxRecDepth 100000 in
theorem cells_check : ((List.range 7).all fun x => cellsOk 1 [(x : Int)] && (List.range (7 - x)).all fun y => cellsOk 2 [(x : Int), (y : Int)] && (List.range (7 - x - y)).all fun z => cellsOk 3 [(x : Int), (y : Int), (z : Int)]) = true := by kernel_rfl
theorem cells_ok (n : Nat) (cs : List Int) (h : CountIn (n : Int) cs) : 0 ≤ nW n cs ∧ nW n cs ≤ 729 ∧ ∀ k, 40 ≤ k → spec_WordsWith.f k (n : Int) cs = some (nW n cs) := by
  have hp : 0 ≤ nW n cs := by unfold nW; omega
  have key : cellsOk n cs = true := by
    obtain ⟨h0, hs, hn, hl⟩ := h
    have hc := cells_check
    simp only [List.all_eq_true, List.mem_range, Bool.and_eq_true] at hc
    rcases (by omega : n = 1 ∨ n = 2 ∨ n = 3) with rfl | rfl | rfl
    · obtain ⟨x, rfl⟩ := len1 (u := cs) (by omega)
      simp at h0 hs
      have := (hc x.toNat (by omega)).1
      rwa [Int.toNat_of_nonneg h0] at this
    · obtain ⟨x, y, rfl⟩ := len2 (u := cs) (by omega)
      simp at h0 hs
      have := ((hc x.toNat (by omega)).2 y.toNat (by omega)).1
      rwa [Int.toNat_of_nonneg h0.1, Int.toNat_of_nonneg h0.2] at this
    · obtain ⟨x, y, z, rfl⟩ := len3 (u := cs) (by omega)
      simp at h0 hs
      have := ((hc x.toNat (by omega)).2 y.toNat (by omega)).2 z.toNat (by omega)
      rwa [Int.toNat_of_nonneg h0.1, Int.toNat_of_nonneg h0.2.1, Int.toNat_of_nonneg h0.2.2] at this
  have key := of_decide_eq_true key
  exact ⟨hp, key.2, fun k hk => lift (fun k => spec_WordsWith.mono (n : Int) cs k) key.1 hk⟩

theorem rise_step (s : Int) (m : Nat) : ∀ a, rise s a (m + 1) = max 0 a * rise s (a + s) m := fun _ => rfl
theorem rising_l0 (a s : Int) (ha : 0 ≤ a) (ha1 : a ≤ 40) (h0 : -1 ≤ s) (h3 : s ≤ 3) (m : Nat) (hm : m ≤ 6) (d : Nat) : ∀ (k j : Nat) (x : Int), j + d = m → d < k → 0 ≤ x → x * 60 ^ d ≤ 1000000000000000 →
    spec_l5Rising.l0 k a (m : Int) s x (j : Int) = some (x * rise s (a + (j : Int) * s) d) := by
  induction d with
  | zero =>
    intro k j x hj hk _ _
    obtain ⟨k, rfl⟩ : ∃ m, k = m + 1 := ⟨k - 1, by omega⟩
    simp only [spec_l5Rising.l0]
    rw [if_neg (by omega), rise, Int.mul_one]
  | succ d ih =>
    intro k j x hj hk x0 xb
    obtain ⟨k, rfl⟩ : ∃ m, k = m + 1 := ⟨k - 1, by omega⟩
    have hjs : -10 ≤ (j : Int) * s ∧ (j : Int) * s ≤ 20 := by
      have hj6 : j < 6 := by omega
      rcases (by omega : j = 0 ∨ j = 1 ∨ j = 2 ∨ j = 3 ∨ j = 4 ∨ j = 5) with rfl | rfl | rfl | rfl | rfl | rfl <;> omega
    have hv : 0 ≤ max 0 (a + (j : Int) * s) ∧ max 0 (a + (j : Int) * s) ≤ 60 := by omega
    rw [show (60 : Int) ^ (d + 1) = 60 * 60 ^ d by rw [Int.pow_succ, Int.mul_comm]] at xb
    have b1 := mul_bound x0 hv.2 (show (0 : Int) ≤ 60 ^ d by have := pow60 d; omega) xb
    have b0 := Int.mul_nonneg x0 hv.1
    have b2 := le_mul b0 (pow60 d) b1
    have hmx : mx (a + (j : Int) * s) 0 = max 0 (a + (j : Int) * s) := by
      unfold mx
      split <;> omega
    simp only [spec_l5Rising.l0]
    rw [if_pos (by omega), w64 (x := (j : Int) * s) (by omega) (by omega), w64 (x := a + (j : Int) * s) (by omega) (by omega), hmx, w64 (by omega) (by omega), nat_step (by omega), ih k (j + 1) _ (by omega) (by omega) b0 b1, rise_step, Int.mul_assoc]
    have e : ((j + 1 : Nat) : Int) * s = (j : Int) * s + s := by rw [Int.natCast_succ, Int.add_mul, Int.one_mul]
    rw [e, Int.add_assoc]
theorem rising_ok (a s m : Int) (ha : 0 ≤ a) (ha1 : a ≤ 40) (h0 : -1 ≤ s) (h3 : s ≤ 3) (hm0 : 0 ≤ m) (hm : m ≤ 6) (k : Nat) (hk : 7 ≤ k) : spec_l5Rising.f k a m s = some (rise s a m.toNat) := by
  have : ∀ m : Nat, m ≤ 6 → (1 : Int) * 60 ^ m ≤ 1000000000000000 := by decide
  have h := rising_l0 a s ha ha1 h0 h3 m.toNat (by omega) m.toNat k 0 1 (by omega) (by omega) (by omega) (this _ (by omega))
  rw [Int.one_mul, Int.natCast_zero, Int.zero_mul, Int.add_zero, Int.toNat_of_nonneg hm0] at h
  exact h
theorem ssame_l0 (u cs : List Int) (s : Int) (hl : u.length = cs.length) (hn : u.length ≤ 1000) (hu : ∀ x ∈ u, 0 ≤ x ∧ x ≤ 40) (hc : ∀ x ∈ cs, 0 ≤ x ∧ x ≤ 6) (hs0 : -1 ≤ s) (hs3 : s ≤ 3) (d : Nat) : ∀ (k i : Nat) (a : Int), i + d = cs.length → d + 7 < k → 0 ≤ a → a * 60 ^ (cs.drop i).sum.toNat ≤ 1000000000000000 →
    spec_SameCounts.l0 k u s cs a (i : Int) = some (a * prodR s (u.drop i) (cs.drop i)) := by
  induction d with
  | zero =>
    intro k i a hi hk _ _
    obtain ⟨k, rfl⟩ : ∃ m, k = m + 1 := ⟨k - 1, by omega⟩
    simp only [spec_SameCounts.l0]
    rw [if_neg (by omega), List.drop_of_length_le (by omega), List.drop_of_length_le (by omega), prodR]
    · simp
    · simp
  | succ d ih =>
    intro k i a hi hk a0 ab
    obtain ⟨k, rfl⟩ : ∃ m, k = m + 1 := ⟨k - 1, by omega⟩
    have hm := rd_in hc i (by omega)
    have hb := rd_in hu i (by omega)
    have hp := sum_pos (cs.drop (i + 1)) fun x hx => (hc x (List.mem_of_mem_drop hx)).1
    have e : (cs.drop i).sum.toNat = (rd cs (i : Int)).toNat + (cs.drop (i + 1)).sum.toNat := by
      rw [drop_at cs i (by omega), List.sum_cons]
      omega
    rw [e, Int.pow_add] at ab
    have hr := rise_in s hs0 hs3 (rd cs (i : Int)).toNat (rd u (i : Int)) (by omega)
    have b0 := Int.mul_nonneg a0 hr.1
    have b1 : a * rise s (rd u (i : Int)) (rd cs (i : Int)).toNat * 60 ^ (cs.drop (i + 1)).sum.toNat ≤ 1000000000000000 := by
      have q1 : a * rise s (rd u (i : Int)) (rd cs (i : Int)).toNat ≤ a * 60 ^ (rd cs (i : Int)).toNat := Int.mul_le_mul_of_nonneg_left hr.2 a0
      have q2 := Int.mul_le_mul_of_nonneg_right q1 (show (0 : Int) ≤ 60 ^ (cs.drop (i + 1)).sum.toNat by have := pow60 (cs.drop (i + 1)).sum.toNat; omega)
      rw [Int.mul_assoc a (60 ^ _)] at q2
      omega
    have b2 := le_mul b0 (pow60 _) b1
    simp only [spec_SameCounts.l0]
    rw [if_pos (by omega), if_pos (by omega), if_pos (by omega), rising_ok _ s _ hb.1 hb.2 hs0 hs3 hm.1 hm.2 k (by omega)]
    simp only [Option.bind_some]
    rw [w64 (by omega) (by omega), nat_step (by omega), ih k (i + 1) _ (by omega) (by omega) b0 b1, drop_at u i (by omega), drop_at cs i (by omega), prodR, Int.mul_assoc]
theorem specSameCounts_ok (u : List Int) (s : Int) (cs : List Int) (hn : u.length ≤ 1100000) (hm : cs.length ≤ 1100000) (k : Nat) (hk : 100 + 2 * u.length + cs.length ≤ k) :
    spec_SameCounts.f k u s cs = some (if StartIn u ∧ CountIn (u.length : Int) cs ∧ -1 ≤ s ∧ s ≤ 3 then prodR s u cs * nW u.length cs else -1) := by
  obtain ⟨k, rfl⟩ : ∃ m, k = m + 1 := ⟨k - 1, by omega⟩
  unfold spec_SameCounts.f
  rw [spec_start u (by omega) _ (by omega)]
  by_cases hu : StartIn u
  · rw [decide_eq_true hu]
    simp only [Option.bind_some, if_true]
    rw [spec_count _ cs (by omega) _ (by omega)]
    by_cases hc : CountIn (u.length : Int) cs
    · rw [decide_eq_true hc, l1In_ok]
      simp only [Option.bind_some, if_true, spec_SameCounts.j0]
      by_cases hs0 : -1 ≤ s ∧ s ≤ 3
      · rw [decide_eq_true hs0, if_neg (by simp), if_pos ⟨hu, hc, hs0⟩]
        have hw := cells_ok u.length cs hc
        obtain ⟨h0, hs, h3, hl⟩ := hc
        rw [hw.2.2 k (by omega)]
        simp only [Option.bind_some]
        have hb : nW u.length cs * 60 ^ cs.sum.toNat ≤ 1000000000000000 := by
          have : ∀ m : Nat, m ≤ 6 → (60 : Int) ^ m ≤ 46656000000 := by decide
          have q := Int.mul_le_mul hw.2.1 (this cs.sum.toNat (by omega)) (by have := pow60 cs.sum.toNat; omega) (by omega)
          omega
        have h := ssame_l0 u cs s (by omega) (by omega) hu.2.1 (in_sum h0 hs) hs0.1 hs0.2 cs.length k 0 (nW u.length cs) (by omega) (by omega) hw.1 hb
        rw [Int.mul_comm]
        exact h
      · rw [decide_eq_false hs0, if_pos (by simp), if_neg (fun h => hs0 h.2.2)]
    · rw [decide_eq_false hc, if_neg (fun h => hc h.2.1)]
      simp [spec_SameCounts.j0]
  · rw [decide_eq_false hu, if_neg (fun h => hu h.1)]
    simp [spec_SameCounts.j0]

def askedCheck (n : Nat) (s : Int) : Bool := decide (impl_RuleOk.f 40 (n : Int) (rowsD n s) = some true)
theorem asked_check : (([-1, 0, 1, 2, 3] : List Int).all fun s => askedCheck 1 s && (askedCheck 2 s && askedCheck 3 s)) = true := by kernel_rfl
theorem ruleOk_ok (n : Nat) (s : Int) (h1 : 1 ≤ n) (h3 : n ≤ 3) (hs : -1 ≤ s) (hs3 : s ≤ 3) (k : Nat) (hk : 40 ≤ k) : impl_RuleOk.f k (n : Int) (rowsD n s) = some true := by
  have h := asked_check
  simp only [List.all_eq_true, Bool.and_eq_true] at h
  have h := h s (by
    rcases (by omega : s = -1 ∨ s = 0 ∨ s = 1 ∨ s = 2 ∨ s = 3) with rfl | rfl | rfl | rfl | rfl <;> simp)
  refine lift (fun k => impl_RuleOk.mono (n : Int) (rowsD n s) k) ?_ hk
  rcases (by omega : n = 1 ∨ n = 2 ∨ n = 3) with rfl | rfl | rfl
  · exact of_decide_eq_true h.1
  · exact of_decide_eq_true h.2.1
  · exact of_decide_eq_true h.2.2
theorem ruleAsked_ok (u : List Int) (s : Int) (hu : StartIn u) (hs : -1 ≤ s) (hs3 : s ≤ 3) (k : Nat) (hk : 60 ≤ k) : impl_ruleAsked.f k u (rowsD u.length s) = some true := by
  have h3 := hu.2.2
  unfold impl_ruleAsked.f
  rw [impl_start u (by omega) k (by omega), decide_eq_true hu]
  simp only [Option.bind_some, if_true]
  rw [ruleOk_ok u.length s (by omega) (by omega) hs hs3 k (by omega)]
  rfl
theorem start_of {u : List Int} (h : DrawnU u) (hu : UrnIn u) : StartIn u := by
  refine ⟨fun x hx => ?_, hu⟩
  rcases h with rfl | rfl | ⟨a, t, rfl, -, ha, ht⟩
  · simp at hx
  · simp at hx
    omega
  · rcases List.mem_cons.mp hx with q | q
    · have := (hu.1 a (by simp)).2
      omega
    · have := ht x q
      omega

theorem sum_zero (I : List Nat) (f : Nat → Int) (h : ∀ i ∈ I, f i = 0) : (I.map f).sum = 0 := by
  induction I with
  | nil => rfl
  | cons i I ih =>
    rw [List.map_cons, List.sum_cons, h i (by simp), ih fun x hx => h x (by simp [hx])]
    rfl
theorem sum_plus (I : List Nat) (f g h : Nat → Int) (e : ∀ i ∈ I, f i = g i + h i) : (I.map f).sum = (I.map g).sum + (I.map h).sum := by
  induction I with
  | nil => rfl
  | cons i I ih =>
    simp only [List.map_cons, List.sum_cons]
    rw [e i (by simp), ih fun x hx => e x (by simp [hx])]
    omega
theorem sum_one (I : List Nat) (p : Nat → Bool) (F : Nat → Int) (z : Int) (hF : ∀ i ∈ I, F i = if p i then z else 0) : (I.map F).sum = z * ((I.countP p : Nat) : Int) := by
  induction I with
  | nil => simp
  | cons i I ih =>
    rw [List.map_cons, List.sum_cons, hF i (by simp), ih fun x hx => hF x (by simp [hx])]
    by_cases h : p i = true
    · rw [if_pos h, List.countP_cons_of_pos h, Int.natCast_succ, Int.mul_add, Int.mul_one]
      omega
    · rw [if_neg h, List.countP_cons_of_neg h]
      omega
/-- A sum over counts, each as often as words have it, is the sum over the words. -/
theorem swap_sum (f : List Int → Int) (g : List Int → List Int) (c : Nat → Bool) (v : Nat → List Int) (I : List Nat) (qs : List (List Int)) (hq : ∀ q ∈ qs, I.countP (fun i => c i && g q == v i) = 1) :
    (I.map fun i => if c i then f (v i) * ((qs.countP fun q => g q == v i : Nat) : Int) else 0).sum = (qs.map fun q => f (g q)).sum := by
  induction qs with
  | nil => exact sum_zero I _ fun i _ => by simp
  | cons q qs ih =>
    have h1 := sum_one I (fun i => c i && g q == v i) (fun i => if c i && g q == v i then f (g q) else 0) (f (g q)) (fun _ _ => rfl)
    rw [hq q (by simp)] at h1
    rw [List.map_cons, List.sum_cons, ← ih fun x hx => hq x (by simp [hx])]
    rw [sum_plus I _ (fun i => if c i && g q == v i then f (g q) else 0) (fun i => if c i then f (v i) * ((qs.countP fun q => g q == v i : Nat) : Int) else 0) ?_, h1]
    · omega
    · intro i _
      by_cases hc : c i = true
      · simp only [hc, if_true, Bool.true_and]
        by_cases he : (g q == v i) = true
        · rw [List.countP_cons_of_pos (p := fun q => g q == v i) he, if_pos he, Int.natCast_succ, Int.mul_add, Int.mul_one, eq_of_beq he]
          omega
        · rw [List.countP_cons_of_neg (p := fun q => g q == v i) he, if_neg he]
          omega
      · simp [hc]
theorem tell_sum (F : Int → List Int → Option Int) (f : List Int → Int) (B : Int) (qs : List (List Int)) (h0 : ∀ q ∈ qs, 0 ≤ f q) (hq : ∀ q ∈ qs, ∀ a, 0 ≤ a → a + f q ≤ B → F a q = some (a + f q)) :
    ∀ a, 0 ≤ a → a + (qs.map f).sum ≤ B → tellAll F a qs = some (a + (qs.map f).sum) := by
  induction qs with
  | nil => intro a _ _; simp [tellAll]
  | cons q qs ih =>
    intro a a0 ab
    have hn : 0 ≤ (qs.map f).sum := sum_pos _ fun x hx => by
      obtain ⟨y, hy, rfl⟩ := List.mem_map.mp hx
      exact h0 y (by simp [hy])
    have hf := h0 q (by simp)
    simp only [List.map_cons, List.sum_cons] at ab ⊢
    unfold tellAll
    rw [hq q (by simp) a a0 (by omega)]
    simp only [Option.bind_some]
    rw [ih (fun x hx => h0 x (by simp [hx])) (fun x hx => hq x (by simp [hx])) (a + f q) (by omega) (by omega)]
    congr 1
    omega
theorem sum_le (qs : List (List Int)) (f : List Int → Int) (B : Int) (h : ∀ q ∈ qs, 0 ≤ f q ∧ f q ≤ B) : 0 ≤ (qs.map f).sum ∧ (qs.map f).sum ≤ B * (qs.length : Int) := by
  induction qs with
  | nil => simp
  | cons q qs ih =>
    obtain ⟨i0, i1⟩ := ih fun x hx => h x (by simp [hx])
    have := h q (by simp)
    rw [List.map_cons, List.sum_cons, List.length_cons, Int.natCast_succ, Int.mul_add, Int.mul_one]
    omega

/-- All counts that are right. -/
def cellsL : Nat → List (List Int)
  | 1 => (List.range 7).map fun (x : Nat) => [(x : Int)]
  | 2 => (List.range 7).flatMap fun (x : Nat) => (List.range (7 - x)).map fun (y : Nat) => [(x : Int), (y : Int)]
  | 3 => (List.range 7).flatMap fun (x : Nat) => (List.range (7 - x)).flatMap fun (y : Nat) => (List.range (7 - x - y)).map fun (z : Nat) => [(x : Int), (y : Int), (z : Int)]
  | _ => []
theorem cells_mem (n : Nat) (cs : List Int) (h : CountIn (n : Int) cs) : cs ∈ cellsL n := by
  obtain ⟨h0, hs, hn, hl⟩ := h
  rcases (by omega : n = 1 ∨ n = 2 ∨ n = 3) with rfl | rfl | rfl
  · obtain ⟨x, rfl⟩ := len1 (u := cs) (by omega)
    simp at h0 hs
    refine List.mem_map.mpr ⟨x.toNat, List.mem_range.mpr (by omega), ?_⟩
    rw [Int.toNat_of_nonneg h0]
  · obtain ⟨x, y, rfl⟩ := len2 (u := cs) (by omega)
    simp at h0 hs
    refine List.mem_flatMap.mpr ⟨x.toNat, List.mem_range.mpr (by omega), List.mem_map.mpr ⟨y.toNat, List.mem_range.mpr (by omega), ?_⟩⟩
    rw [Int.toNat_of_nonneg h0.1, Int.toNat_of_nonneg h0.2]
  · obtain ⟨x, y, z, rfl⟩ := len3 (u := cs) (by omega)
    simp at h0 hs
    refine List.mem_flatMap.mpr ⟨x.toNat, List.mem_range.mpr (by omega), List.mem_flatMap.mpr ⟨y.toNat, List.mem_range.mpr (by omega), List.mem_map.mpr ⟨z.toNat, List.mem_range.mpr (by omega), ?_⟩⟩⟩
    rw [Int.toNat_of_nonneg h0.1, Int.toNat_of_nonneg h0.2.1, Int.toNat_of_nonneg h0.2.2]
/-- A check of all urns drawn that are right and begin with p, with all counts that are. -/
def pairPart (p : Int) (P : List Int → List Int → Bool) : Bool := drawnUs.all fun u => !(u.getD 0 9 == p) || (!decide (UrnIn u) || (cellsL u.length).all (P u))
theorem pair_of {P : List Int → List Int → Bool} (h0 : pairPart 0 P = true) (h1 : pairPart 1 P = true) (h2 : pairPart 2 P = true) (h3 : pairPart 3 P = true) (h4 : pairPart 4 P = true) (h5 : pairPart 5 P = true)
    (u cs : List Int) (hd : DrawnU u) (hu : UrnIn u) (hc : CountIn (u.length : Int) cs) : P u cs = true := by
  have key : ∀ p : Int, pairPart p P = true → u.getD 0 9 = p → P u cs = true := by
    intro p hp e
    have h := List.all_eq_true.mp hp u (drawn_mem hd)
    rw [decide_eq_true hu, e] at h
    exact List.all_eq_true.mp (by simpa using h) cs (cells_mem _ _ hc)
  have hr : 0 ≤ u.getD 0 9 ∧ u.getD 0 9 ≤ 5 := by
    rcases hd with rfl | rfl | ⟨a, t, rfl, -, ha, -⟩
    · have := hu.2
      simp at this
    · have := hu.2
      simp at this
    · have := hu.1 a (by simp)
      simp
      omega
  rcases (by omega : u.getD 0 9 = 0 ∨ u.getD 0 9 = 1 ∨ u.getD 0 9 = 2 ∨ u.getD 0 9 = 3 ∨ u.getD 0 9 = 4 ∨ u.getD 0 9 = 5) with e | e | e | e | e | e
  · exact key 0 h0 e
  · exact key 1 h1 e
  · exact key 2 h2 e
  · exact key 3 h3 e
  · exact key 4 h4 e
  · exact key 5 h5 e

theorem cnt_check : ((List.range 3).all fun i => (List.range 7).all fun m => (allW (i + 1) m).all fun q => decide ((cntL (i + 1) q).sum = (m : Int))) = true := by kernel_rfl
theorem cnt_sum (n m : Nat) (h1 : 1 ≤ n) (h3 : n ≤ 3) (hm : m ≤ 6) (q : List Int) (hq : q ∈ allW n m) : (cntL n q).sum = (m : Int) := by
  have h := cnt_check
  simp only [List.all_eq_true, List.mem_range, decide_eq_true_eq] at h
  have h := h (n - 1) (by omega) m (by omega)
  rw [show n - 1 + 1 = n by omega] at h
  exact h q hq
theorem cnt_pos (n : Nat) (q : List Int) : (∀ x ∈ cntL n q, 0 ≤ x) ∧ (cntL n q).length = n := by
  refine ⟨fun x hx => ?_, by simp [cntL]⟩
  obtain ⟨i, -, rfl⟩ := List.mem_map.mp hx
  omega
theorem ruleAll_ok (u : List Int) (s m : Int) (hu : StartIn u) (hs : -1 ≤ s) (hs3 : s ≤ 3) (m0 : 0 ≤ m) (m6 : m ≤ 6) (k : Nat) (hk : 60 ≤ k) :
    impl_RuleAll.f k u (rowsD u.length s) m = some ((allW u.length m.toNat).map fun q => prodR s u (cntL u.length q)).sum ∧ 0 ≤ ((allW u.length m.toNat).map fun q => prodR s u (cntL u.length q)).sum ∧ ((allW u.length m.toNat).map fun q => prodR s u (cntL u.length q)).sum ≤ 100000000000000 := by
  have h3 := hu.2.2
  have hr := rows_ok u.length s hs hs3
  have hw := words_ok u.length m.toNat (by omega) (by omega) (by omega)
  have hb : ∀ q ∈ allW u.length m.toNat, 0 ≤ prodR s u (cntL u.length q) ∧ prodR s u (cntL u.length q) ≤ 46656000000 := by
    intro q hq
    refine prodR_small s hs hs3 u _ (fun x hx => (hu.2.1 x hx).2) ?_ ?_
    · exact (cnt_pos _ q).1
    · have := cnt_sum u.length m.toNat (by omega) (by omega) (by omega) q hq
      omega
  obtain ⟨b0, b1⟩ := sum_le _ _ _ hb
  have hl : ((allW u.length m.toNat).length : Int) ≤ 729 := by have := hw.1; omega
  refine ⟨?_, b0, by omega⟩
  unfold impl_RuleAll.f
  rw [ruleAsked_ok u s hu hs hs3 k hk]
  simp only [Option.bind_some, if_true]
  rw [if_neg (by omega), if_neg (by omega), if_pos (by omega)]
  rw [tell_sum _ (fun q => prodR s u (cntL u.length q)) 1000000000000000 _ (fun q hq => (hb q hq).1) ?_ 0 (by omega) (by omega), Int.zero_add]
  intro q hq a a0 ab
  have h := hw.2 q hq
  unfold sumF
  rw [ruleWays_ok u _ q u.length (urn_small hu.2) hr.1 hr.2 (by rw [hr.2]; exact h.2.1) (by omega) (by omega) k (by omega), pw_rise s u q u.length (by omega) (by omega) rfl h.2.1]
  simp only [Option.bind_some]
  have h' := hb q hq
  rw [w64 (by omega) (by omega)]
def vec (n m i : Nat) : List Int := (laws_wordOf.f 30 ((m : Int) + 1) (n : Int) (i : Int)).getD []
def vecCheck (n m : Nat) : Bool := decide (laws_powerOf.f 30 ((m : Int) + 1) (n : Int) = some (((m + 1) ^ n : Nat) : Int)) && ((List.range ((m + 1) ^ n)).all fun i => decide (laws_wordOf.f 30 ((m : Int) + 1) (n : Int) (i : Int) = some (vec n m i) ∧ (vec n m i).length = n) && (vec n m i).all fun x => decide (0 ≤ x ∧ x ≤ 6))
theorem vec_check : ((List.range 7).all fun m => vecCheck 1 m && (vecCheck 2 m && vecCheck 3 m)) = true := by kernel_rfl
theorem vec_ok (n m : Nat) (h1 : 1 ≤ n) (h3 : n ≤ 3) (hm : m ≤ 6) : (∀ k, 30 ≤ k → laws_powerOf.f k ((m : Int) + 1) (n : Int) = some (((m + 1) ^ n : Nat) : Int)) ∧ ∀ i, i < (m + 1) ^ n → (∀ k, 30 ≤ k → laws_wordOf.f k ((m : Int) + 1) (n : Int) (i : Int) = some (vec n m i)) ∧ (vec n m i).length = n ∧ ∀ x ∈ vec n m i, 0 ≤ x ∧ x ≤ 6 := by
  have h := vec_check
  simp only [List.all_eq_true, List.mem_range, Bool.and_eq_true] at h
  have h := h m (by omega)
  have key : vecCheck n m = true := by
    rcases (by omega : n = 1 ∨ n = 2 ∨ n = 3) with rfl | rfl | rfl
    · exact h.1
    · exact h.2.1
    · exact h.2.2
  unfold vecCheck at key
  simp only [List.all_eq_true, List.mem_range, Bool.and_eq_true, decide_eq_true_eq] at key
  exact ⟨fun k hk => lift (fun k => laws_powerOf.mono _ _ k) key.1 hk, fun i hi => ⟨fun k hk => lift (fun k => laws_wordOf.mono _ _ _ k) (key.2 i hi).1.1 hk, (key.2 i hi).1.2, (key.2 i hi).2⟩⟩
def onceCheck (n m : Nat) : Bool := (cellsL n).all fun cs => !(cs.sum == (m : Int)) || decide ((List.range ((m + 1) ^ n)).countP (fun i => cs == vec n m i) = 1)
theorem once_check : ((List.range 7).all fun m => onceCheck 1 m && (onceCheck 2 m && onceCheck 3 m)) = true := by kernel_rfl
theorem once_ok (n m : Nat) (h1 : 1 ≤ n) (h3 : n ≤ 3) (hm : m ≤ 6) (q : List Int) (hq : q ∈ allW n m) : (List.range ((m + 1) ^ n)).countP (fun i => (decide ((vec n m i).sum = (m : Int))) && cntL n q == vec n m i) = 1 := by
  have h := once_check
  simp only [List.all_eq_true, List.mem_range, Bool.and_eq_true] at h
  have h := h m (by omega)
  have key : onceCheck n m = true := by
    rcases (by omega : n = 1 ∨ n = 2 ∨ n = 3) with rfl | rfl | rfl
    · exact h.1
    · exact h.2.1
    · exact h.2.2
  have hs := cnt_sum n m h1 h3 hm q hq
  have hp := cnt_pos n q
  have hc : CountIn (n : Int) (cntL n q) := ⟨hp.1, by omega, by omega, by omega⟩
  have h2 := List.all_eq_true.mp key _ (cells_mem n _ hc)
  rw [hs] at h2
  have h3 := of_decide_eq_true (by simpa using h2 : decide ((List.range ((m + 1) ^ n)).countP (fun i => cntL n q == vec n m i) = 1) = true)
  refine Eq.trans (List.countP_congr fun i _ => ?_) h3
  constructor
  · intro h
    exact (Bool.and_eq_true _ _ ▸ h).2
  · intro h
    have e := eq_of_beq h
    rw [← e, hs]
    simp
def val (u : List Int) (s : Int) (m i : Nat) : Int := if decide ((vec u.length m i).sum = (m : Int)) then prodR s u (vec u.length m i) * (((allW u.length m).countP fun q => cntL u.length q == vec u.length m i : Nat) : Int) else 0
theorem val_nW (u : List Int) (s : Int) (m i : Nat) (h : (vec u.length m i).sum = (m : Int)) : val u s m i = prodR s u (vec u.length m i) * nW u.length (vec u.length m i) := by
  unfold val nW
  rw [if_pos (by simpa using h), h, Int.toNat_natCast]
theorem l2_ok (u : List Int) (s m a x9 : Int) (v : List Int) (hl : v.length ≤ 3) (hv : ∀ x ∈ v, 0 ≤ x ∧ x ≤ 6) (d : Nat) : ∀ k j, j + d = v.length →
    laws_FnSameAll.l2 (k + d + 1) u s m a x9 v (v.take j).sum (j : Int) = if v.sum = m then (impl_SameCounts.f k u s v).bind (fun t => laws_FnSameAll.l1 k u s m (wrap64 (a + t)) (wrap64 (x9 + 1))) else laws_FnSameAll.l1 k u s m a (wrap64 (x9 + 1)) := by
  induction d with
  | zero =>
    intro k j hj
    rw [Nat.add_zero, laws_FnSameAll.l2, if_neg (by omega), List.take_of_length_le (by omega)]
  | succ d ih =>
    intro k j hj
    have hx := rd_in hv j (by omega)
    have hb : ∀ t : List Int, (∀ x ∈ t, 0 ≤ x ∧ x ≤ 6) → 0 ≤ t.sum ∧ t.sum ≤ 6 * (t.length : Int) := by
      intro t
      induction t with
      | nil => simp
      | cons x t ih =>
        intro h
        have h1 := h x (by simp)
        have h2 := ih fun y hy => h y (by simp [hy])
        simp only [List.sum_cons, List.length_cons]
        omega
    have hs := hb (v.take j) fun x hx => hv x (List.mem_of_mem_take hx)
    have hlt : (v.take j).length ≤ 3 := by simp; omega
    obtain ⟨K, hK⟩ : ∃ K, K = k + d + 1 := ⟨_, rfl⟩
    rw [show k + (d + 1) + 1 = K + 1 by omega, laws_FnSameAll.l2, if_pos (by omega), if_pos (by omega), nat_step (by omega), w64 (by omega) (by omega), hK]
    have e : (v.take j).sum + rd v (j : Int) = (v.take (j + 1)).sum := by
      rw [take_at v j (by omega)]
      simp
    rw [e]
    exact ih k (j + 1) (by omega)
theorem drop_range (T i : Nat) (h : i < T) : (List.range T).drop i = i :: (List.range T).drop (i + 1) := by
  rw [List.drop_eq_getElem_cons (by simpa using h)]
  simp
theorem l1_ok (u : List Int) (s : Int) (m : Nat) (hu : StartIn u) (hs : -1 ≤ s) (hs3 : s ≤ 3) (hm : m ≤ 6) (d : Nat) : ∀ (K i : Nat) (a : Int), i + d = (m + 1) ^ u.length → 10 * d + 400 ≤ K → 0 ≤ a →
    a + (((List.range ((m + 1) ^ u.length)).drop i).map (val u s m)).sum = ((allW u.length m).map fun q => prodR s u (cntL u.length q)).sum →
    laws_FnSameAll.l1 K u s (m : Int) a (i : Int) = some true := by
  have h3 := hu.2.2
  have hv := vec_ok u.length m (by omega) (by omega) hm
  have hR := ruleAll_ok u s (m : Int) hu hs hs3 (by omega) (by omega)
  rw [Int.toNat_natCast] at hR
  have hT : (m + 1) ^ u.length ≤ 343 := by
    have : ∀ x : Nat, x ≤ 6 → (x + 1) ^ 1 ≤ 343 ∧ (x + 1) ^ 2 ≤ 343 ∧ (x + 1) ^ 3 ≤ 343 := by decide
    have h := this m hm
    rcases (by omega : u.length = 1 ∨ u.length = 2 ∨ u.length = 3) with e | e | e <;> rw [e]
    · exact h.1
    · exact h.2.1
    · exact h.2.2
  have hval : ∀ i, i < (m + 1) ^ u.length → 0 ≤ val u s m i := by
    intro i hi
    unfold val
    by_cases c : decide ((vec u.length m i).sum = (m : Int)) = true
    · rw [if_pos c]
      have hx := (hv.2 i hi).2.2
      have c := of_decide_eq_true c
      exact Int.mul_nonneg (prodR_small s hs hs3 u _ (fun x hx => (hu.2.1 x hx).2) (fun x h => (hx x h).1) (by omega)).1 (by omega)
    · rw [if_neg c]
      omega
  induction d with
  | zero =>
    intro K i a hi hK a0 ha
    obtain ⟨K, rfl⟩ : ∃ k, K = k + 1 := ⟨K - 1, by omega⟩
    rw [List.drop_of_length_le (by simp; omega)] at ha
    rw [laws_FnSameAll.l1, w64 (x := (m : Int) + 1) (by omega) (by omega), hv.1 K (by omega)]
    simp only [Option.bind_some]
    rw [if_neg (by omega), alive_lift K (by omega)]
    simp only [Option.bind_some, if_true]
    rw [same_ok u.length s (by omega) (by omega) hs hs3 K (by omega)]
    simp only [Option.bind_some]
    rw [(hR K (by omega)).1]
    simp only [Option.bind_some]
    simp at ha
    rw [ha]
    simp
  | succ d ih =>
    intro K i a hi hK a0 ha
    obtain ⟨K, rfl⟩ : ∃ k, K = (k + u.length + 1) + 1 := ⟨K - u.length - 2, by omega⟩
    obtain ⟨w1, w2, w3⟩ := hv.2 i (by omega)
    rw [drop_range _ i (by omega), List.map_cons, List.sum_cons] at ha
    have hv0 := hval i (by omega)
    have hS : 0 ≤ (((List.range ((m + 1) ^ u.length)).drop (i + 1)).map (val u s m)).sum := sum_pos _ fun x hx => by
      obtain ⟨y, hy, rfl⟩ := List.mem_map.mp hx
      exact hval y (List.mem_range.mp (List.mem_of_mem_drop hy))
    have hB := (hR 60 (by omega)).2
    rw [laws_FnSameAll.l1, w64 (x := (m : Int) + 1) (by omega) (by omega), hv.1 _ (by omega)]
    simp only [Option.bind_some]
    rw [if_pos (by omega), w1 _ (by omega)]
    simp only [Option.bind_some]
    have h2 := l2_ok u s (m : Int) a (i : Int) (vec u.length m i) (by omega) w3 u.length K 0 (by omega)
    rw [List.take_zero, Int.natCast_zero] at h2
    refine h2.trans ?_
    rw [nat_step (by omega)]
    by_cases c : (vec u.length m i).sum = (m : Int)
    · rw [if_pos c, sameCounts_ok u s _ (by omega) (by omega) K (by omega)]
      have g : StartIn u ∧ CountIn (u.length : Int) (vec u.length m i) ∧ -1 ≤ s ∧ s ≤ 3 := ⟨hu, ⟨fun x hx => (w3 x hx).1, by omega, by omega, by omega⟩, hs, hs3⟩
      rw [if_pos g, ← val_nW u s m i c]
      simp only [Option.bind_some]
      rw [w64 (by omega) (by omega)]
      exact ih K (i + 1) _ (by omega) (by omega) (by omega) (by omega)
    · have e : val u s m i = 0 := by
        unfold val
        rw [if_neg (by simpa using c)]
      rw [if_neg c]
      exact ih K (i + 1) a (by omega) (by omega) a0 (by omega)
theorem l0_ok (u : List Int) (s : Int) (cs : List Int) (hl : cs.length ≤ 3) (hv : ∀ x ∈ cs, 0 ≤ x ∧ x ≤ 6) (hend : ∀ K, 5000 ≤ K → laws_FnSameAll.l1 K u s cs.sum 0 0 = some true) (d : Nat) : ∀ k j, j + d = cs.length → d + 5000 < k →
    laws_FnSameAll.l0 k u s cs (cs.take j).sum (j : Int) = some true := by
  induction d with
  | zero =>
    intro k j hj hk
    obtain ⟨k, rfl⟩ : ∃ m, k = m + 1 := ⟨k - 1, by omega⟩
    rw [laws_FnSameAll.l0, if_neg (by omega), List.take_of_length_le (by omega)]
    exact hend k (by omega)
  | succ d ih =>
    intro k j hj hk
    obtain ⟨k, rfl⟩ : ∃ m, k = m + 1 := ⟨k - 1, by omega⟩
    have hx := rd_in hv j (by omega)
    have hb : ∀ t : List Int, (∀ x ∈ t, 0 ≤ x ∧ x ≤ 6) → 0 ≤ t.sum ∧ t.sum ≤ 6 * (t.length : Int) := by
      intro t
      induction t with
      | nil => simp
      | cons x t ih =>
        intro h
        have h1 := h x (by simp)
        have h2 := ih fun y hy => h y (by simp [hy])
        simp only [List.sum_cons, List.length_cons]
        omega
    have hs := hb (cs.take j) fun x hx => hv x (List.mem_of_mem_take hx)
    have hlt : (cs.take j).length ≤ 3 := by simp; omega
    rw [laws_FnSameAll.l0, if_pos (by omega), if_pos (by omega), nat_step (by omega), w64 (by omega) (by omega)]
    have e : (cs.take j).sum + rd cs (j : Int) = (cs.take (j + 1)).sum := by
      rw [take_at cs j (by omega)]
      simp
    rw [e]
    exact ih k (j + 1) (by omega) (by omega)
theorem FnSameAll : laws_FnSameAll.Pure := by
  intro l _ _ hl
  refine ⟨6000, ?_⟩
  obtain ⟨u, s, cs, e, h, s0, s4, hc⟩ := same_draw l hl 6000 (by omega)
  have hn := drawn_len h
  unfold laws_FnSameAll.f
  by_cases hlen : (l.length : Int) > 1048576
  · rw [if_pos hlen]
  · rw [if_neg hlen, e]
    simp only [Option.bind_some]
    rw [specSameCounts_ok u s cs (by omega) (by omega) 6000 (by omega)]
    simp only [Option.bind_some]
    by_cases hv : StartIn u ∧ CountIn (u.length : Int) cs ∧ -1 ≤ s ∧ s ≤ 3
    · have hv' := hv
      obtain ⟨hu, hcs, hs, hs3⟩ := hv
      have h3 := hu.2.2
      have hp := prodR_small s hs hs3 u cs (fun x hx => (hu.2.1 x hx).2) hcs.1 hcs.2.1
      have h0 : 0 ≤ nW u.length cs := by unfold nW; omega
      have h0 := Int.mul_nonneg hp.1 h0
      have hls := hcs.2.2.2
      have m0 := sum_pos cs hcs.1
      have m6 := hcs.2.1
      rw [if_pos hv', if_neg (by omega)]
      refine l0_ok u s cs (by omega) (in_sum hcs.1 m6) ?_ cs.length 6000 0 (by omega) (by omega)
      intro K hK
      obtain ⟨m, hm⟩ := Int.eq_ofNat_of_zero_le m0
      rw [hm]
      have hT : (m + 1) ^ u.length ≤ 343 := by
        have : ∀ x : Nat, x ≤ 6 → (x + 1) ^ 1 ≤ 343 ∧ (x + 1) ^ 2 ≤ 343 ∧ (x + 1) ^ 3 ≤ 343 := by decide
        have h := this m (by omega)
        rcases (by omega : u.length = 1 ∨ u.length = 2 ∨ u.length = 3) with e | e | e <;> rw [e]
        · exact h.1
        · exact h.2.1
        · exact h.2.2
      refine l1_ok u s m hu hs hs3 (by omega) ((m + 1) ^ u.length) K 0 0 (by omega) (by omega) (by omega) ?_
      rw [List.drop_zero, Int.zero_add]
      exact swap_sum (prodR s u) (cntL u.length) (fun i => decide ((vec u.length m i).sum = (m : Int))) (vec u.length m) _ _ fun q hq => once_ok u.length m (by omega) (by omega) (by omega) q hq
    · rw [if_neg hv, if_pos (by omega), sameCounts_ok u s cs (by omega) (by omega) 6000 (by omega), if_neg hv]
      simp only [Option.bind_some]
      rw [if_pos trivial, alive_lift 6000 (by omega)]
      rfl

end Go.Proofs.Ythpjeinjldfmjaa.Pure
