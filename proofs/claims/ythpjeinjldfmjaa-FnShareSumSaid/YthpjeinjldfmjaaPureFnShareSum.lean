/- The law FnShareSum: on average shares stay; it holds at every code. -/
import Derived.Test.YthpjeinjldfmjaaQFnShareSumx5
namespace Go.Proofs.Ythpjeinjldfmjaa.Pure
open Go.RowKit Go.Proofs.Ythpjeinjldfmjaa.QFnShareSum Go.Proofs.YthpjeinjldfmjaaW.PrintWords Go.Proofs.YthpjeinjldfmjaaW.PrintLast
theorem w64 {x : Int} (h0 : -9223372036854775808 ≤ x) (h1 : x ≤ 9223372036854775807) : wrap64 x = x := by
  unfold wrap64
  omega
theorem fits {x : Int} (h : (Lit.int .i64 x).wf = true) : -9223372036854775808 ≤ x ∧ x ≤ 9223372036854775807 := by
  simp only [Lit.wf, Bool.and_eq_true, decide_eq_true_eq] at h
  exact h
theorem fits8 {x : Int} (h : (Lit.int .u8 x).wf = true) : 0 ≤ x ∧ x ≤ 255 := by
  simp only [Lit.wf, Bool.and_eq_true, decide_eq_true_eq] at h
  exact h

theorem xor_pos (a b : Int) (ha : 0 ≤ a) (ha1 : a < 1000000000) (hb : 0 ≤ b) (hb1 : b < 1000000000) : 0 ≤ Go.bits .xor .i64 a b := by
  obtain ⟨m, rfl⟩ := Int.eq_ofNat_of_zero_le ha
  obtain ⟨n, rfl⟩ := Int.eq_ofNat_of_zero_le hb
  have hm : m < 2 ^ 30 := by omega
  have hn : n < 2 ^ 30 := by omega
  have hx : m ^^^ n < 2 ^ 30 := Nat.xor_lt_two_pow hm hn
  have e1 : m % 2 ^ 64 = m := Nat.mod_eq_of_lt (by omega)
  have e2 : n % 2 ^ 64 = n := Nat.mod_eq_of_lt (by omega)
  have e : (BitVec.ofNat 64 m ^^^ BitVec.ofNat 64 n).toNat = m ^^^ n := by
    rw [BitVec.toNat_xor, BitVec.toNat_ofNat, BitVec.toNat_ofNat, e1, e2]
  show 0 ≤ IntKind.i64.wrap (((BitVec.ofNat 64 m ^^^ BitVec.ofNat 64 n).toNat : Nat) : Int)
  rw [e, IntKind.wrap_i64]
  omega
theorem rd_u8 {l : List Int} (h : ∀ x ∈ l, 0 ≤ x ∧ x ≤ 255) (i : Int) : 0 ≤ rd l i ∧ rd l i ≤ 255 := by
  unfold rd
  rw [List.getD_eq_getElem?_getD]
  cases e : l[i.toNat]? with
  | none => simp
  | some x => exact h x (List.mem_of_getElem? e)
theorem tmod_in {x n : Int} (hx : 0 ≤ x) (hn : 1 ≤ n) : 0 ≤ Int.tmod x n ∧ Int.tmod x n < n := by
  rw [Int.tmod_eq_emod_of_nonneg hx]
  exact ⟨Int.emod_nonneg _ (by omega), Int.emod_lt_of_pos _ (by omega)⟩
theorem tdiv_in {x n : Int} (hx : 0 ≤ x) (hn : 1 ≤ n) : 0 ≤ Int.tdiv x n ∧ Int.tdiv x n ≤ x := by
  rw [Int.tdiv_eq_ediv_of_nonneg hx]
  exact ⟨Int.ediv_nonneg hx (by omega), Int.ediv_le_self _ hx⟩
/-- What a reader picks: a number below n, and one place further. -/
theorem pick_ok (k : Nat) (l : List Int) (p n : Int) (hl : ∀ x ∈ l, 0 ≤ x ∧ x ≤ 255) (hlen : l.length ≤ 2000) (hp : 0 ≤ p) (hp1 : p ≤ 1000000) :
    ∃ r, spec_l20Rd_pick.f (k + 1) l p n = some (r, p + 1) ∧ 0 ≤ r ∧ (n < 1 → r = 0) ∧ (1 ≤ n → r < n) := by
  unfold spec_l20Rd_pick.f
  have wp : wrap64 (p + 1) = p + 1 := w64 (by omega) (by omega)
  by_cases hn : n < 1
  · rw [if_pos hn]
    exact ⟨0, by simp [spec_l20Rd_pick.j0, wp], by omega, fun _ => rfl, fun h => by omega⟩
  · rw [if_neg hn]
    by_cases h0 : (l.length : Int) = 0
    · exact ⟨0, by simp [spec_l20Rd_pick.j0, wp, h0], by omega, fun _ => rfl, fun h => by omega⟩
    · have hb : ((l.length : Int) == 0) = false := by simpa using h0
      rw [hb, wp]
      have wq : wrap64 (p + 1 - 1) = p := by rw [w64 (by omega) (by omega)]; omega
      by_cases hlt : p < (l.length : Int)
      · obtain ⟨r0, r1⟩ := rd_u8 hl p
        have wr : wrap64 (rd l p) = rd l p := w64 (by omega) (by omega)
        have t := tmod_in r0 (show 1 ≤ n by omega)
        refine ⟨Int.tmod (rd l p) n, ?_, t.1, fun h => absurd h hn, fun _ => t.2⟩
        simp only [spec_l20Rd_pick.j0]
        rw [if_neg (by simp), wq, if_pos hlt, if_pos hp, if_neg (by omega), wr]
      · have hL : 1 ≤ (l.length : Int) := by omega
        have t1 := tmod_in hp hL
        have w7 : wrap64 (p * 7) = p * 7 := w64 (by omega) (by omega)
        have w73 : wrap64 (p * 7 + 3) = p * 7 + 3 := w64 (by omega) (by omega)
        have t2 := tmod_in (show 0 ≤ p * 7 + 3 by omega) hL
        obtain ⟨a0, a1⟩ := rd_u8 hl (Int.tmod p (l.length : Int))
        obtain ⟨b0, b1⟩ := rd_u8 hl (Int.tmod (p * 7 + 3) (l.length : Int))
        obtain ⟨q0, q1⟩ := tdiv_in hp hL
        have wa : wrap64 (rd l (Int.tmod p (l.length : Int))) = rd l (Int.tmod p (l.length : Int)) := w64 (by omega) (by omega)
        have wb : wrap64 (rd l (Int.tmod (p * 7 + 3) (l.length : Int))) = rd l (Int.tmod (p * 7 + 3) (l.length : Int)) := w64 (by omega) (by omega)
        have wc : wrap64 (Int.tdiv p (l.length : Int)) = Int.tdiv p (l.length : Int) := w64 (by omega) (by omega)
        generalize hA : rd l (Int.tmod p (l.length : Int)) = A at *
        generalize hB : rd l (Int.tmod (p * 7 + 3) (l.length : Int)) = B at *
        generalize hQ : Int.tdiv p (l.length : Int) = Q at *
        have e : wrap64 (wrap64 (wrap64 (wrap64 (wrap64 A * 131) + wrap64 (wrap64 B * 1117)) + wrap64 (p * 29)) + wrap64 (wrap64 Q * 53)) = A * 131 + B * 1117 + p * 29 + Q * 53 := by
          rw [wa, wb, wc, w64 (x := A * 131) (by omega) (by omega), w64 (x := B * 1117) (by omega) (by omega), w64 (x := p * 29) (by omega) (by omega), w64 (x := Q * 53) (by omega) (by omega),
            w64 (x := A * 131 + B * 1117) (by omega) (by omega), w64 (x := A * 131 + B * 1117 + p * 29) (by omega) (by omega), w64 (by omega) (by omega)]
        obtain ⟨d0, d1⟩ := tdiv_in (show 0 ≤ A * 131 + B * 1117 + p * 29 + Q * 53 by omega) (show (1 : Int) ≤ 64 by omega)
        have wd : wrap64 (Int.tdiv (A * 131 + B * 1117 + p * 29 + Q * 53) 64) = Int.tdiv (A * 131 + B * 1117 + p * 29 + Q * 53) 64 := w64 (by omega) (by omega)
        have hx := xor_pos (A * 131 + B * 1117 + p * 29 + Q * 53) (Int.tdiv (A * 131 + B * 1117 + p * 29 + Q * 53) 64) (by omega) (by omega) d0 (by omega)
        have t := tmod_in hx (show 1 ≤ n by omega)
        refine ⟨_, ?_, t.1, fun h => absurd h hn, fun _ => t.2⟩
        simp only [spec_l20Rd_pick.j0]
        rw [if_neg (by simp), wq, if_neg hlt, if_neg h0, if_pos t1.1, if_pos t1.2, w7, w73, if_pos t2.1, if_pos t2.2, if_neg (by omega), hA, hB, hQ, e, wd]
/-- What is read of a code. -/
theorem open_ok (l : List Int) (hl : ∀ x ∈ l, (Lit.int .u8 x).wf = true) : ∃ l', spec_l20Open.f l = some (l', 0) ∧ l'.length ≤ 2000 ∧ ∀ x ∈ l', 0 ≤ x ∧ x ≤ 255 := by
  unfold spec_l20Open.f
  by_cases h : (l.length : Int) > 2000
  · rw [if_pos h, if_pos (by omega)]
    exact ⟨_, rfl, by simp [List.length_take]; omega, fun x hx => fits8 (hl x (List.mem_of_mem_take hx))⟩
  · rw [if_neg h]
    exact ⟨_, rfl, by omega, fun x hx => fits8 (hl x hx)⟩

theorem nat_step {i : Nat} (h : i < 1000000000000) : wrap64 ((i : Int) + 1) = ((i + 1 : Nat) : Int) := by
  rw [w64 (by omega) (by omega)]
  omega
theorem rd_nat (l : List Int) (i : Nat) : rd l (i : Int) = l.getD i 0 := by
  unfold rd
  rw [Int.toNat_natCast]
theorem rd_get (l : List Int) (i : Nat) (h : i < l.length) : rd l (i : Int) = l[i] := by
  rw [rd_nat]
  simp [List.getD_eq_getElem?_getD, List.getElem?_eq_getElem h]
theorem drop_at (l : List Int) (i : Nat) (h : i < l.length) : l.drop i = rd l (i : Int) :: l.drop (i + 1) := by
  rw [List.drop_eq_getElem_cons h, rd_get l i h]
theorem take_at (l : List Int) (i : Nat) (h : i < l.length) : l.take (i + 1) = l.take i ++ [rd l (i : Int)] := by
  rw [List.take_succ_eq_append_getElem h, rd_get l i h]
theorem beq_dec (x y : Int) : (x == y) = decide (x = y) := rfl
theorem l1In_ok (x lo hi : Int) : spec_l1In.f x lo hi = some (decide (lo ≤ x ∧ x ≤ hi)) := by
  unfold spec_l1In.f
  by_cases h : x ≥ lo
  · simp [h]
  · simp [h]

/-- The urns that a code may draw. -/
def DrawnU (u : List Int) : Prop := u = [] ∨ u = [1, 1, 1, 1] ∨ ∃ a t, u = a :: t ∧ t.length ≤ 2 ∧ (a = -1 ∨ a = 41 ∨ (0 ≤ a ∧ a < 6)) ∧ ∀ x ∈ t, 0 ≤ x ∧ x < 6
theorem urn_l0 (l : List Int) (odd : Int) (ho : 1 ≤ odd) (hl : ∀ x ∈ l, 0 ≤ x ∧ x ≤ 255) (hlen : l.length ≤ 2000) (n : Nat) (h1 : 1 ≤ n) (h3 : n ≤ 3) (d : Nat) :
    ∀ (k : Nat) (acc : List Int) (p : Int), acc.length + d = n → d + 1 < k → 0 ≤ p → p + (d : Int) ≤ 500000 → (∀ x ∈ acc, 0 ≤ x ∧ x < 6) →
      ∃ u q, spec_l20Urn.l0 k odd acc (d : Int) l p = some (u, q) ∧ DrawnU u ∧ 0 ≤ q ∧ q ≤ p + (d : Int) + 3 := by
  induction d with
  | zero =>
    intro k acc p hd hk p0 p1 hx
    obtain ⟨k, rfl⟩ : ∃ n, k = n + 2 := ⟨k - 2, by omega⟩
    obtain ⟨r1, e1, a1, -, b1⟩ := pick_ok k l p odd hl hlen p0 (by omega)
    obtain ⟨r2, e2, a2, -, b2⟩ := pick_ok k l (p + 1) 3 hl hlen (by omega) (by omega)
    have b2 := b2 (by omega)
    obtain ⟨r3, e3, a3, -, b3⟩ := pick_ok k l (p + 1 + 1) 2 hl hlen (by omega) (by omega)
    have b3 := b3 (by omega)
    obtain ⟨a, t, rfl⟩ : ∃ a t, acc = a :: t := by
      match acc, hd with
      | [], h => simp at h; omega
      | a :: t, _ => exact ⟨a, t, rfl⟩
    have ha := hx a (by simp)
    have ht : ∀ x ∈ t, 0 ≤ x ∧ x < 6 := fun x h => hx x (by simp [h])
    simp only [List.length_cons] at hd
    simp only [spec_l20Urn.l0]
    rw [if_neg (by omega)]
    unfold spec_l20Rd_odd.f
    rw [if_pos (by omega), e1]
    simp only [Option.bind_some]
    by_cases c1 : (r1 == wrap64 (odd - 1)) = true
    · rw [if_pos c1, e2]
      simp only [Option.bind_some]
      by_cases c2 : r2 = 0
      · rw [if_pos c2]
        exact ⟨_, _, rfl, Or.inl rfl, by omega, by omega⟩
      rw [if_neg c2]
      by_cases c3 : r2 = 1
      · rw [if_pos c3, e3]
        simp only [Option.bind_some]
        rw [if_pos a3, if_pos (by simp only [List.length_cons, List.length_nil]; omega), if_pos (by simp only [List.length_cons]; omega)]
        refine ⟨_, _, rfl, Or.inr (Or.inr ⟨rd [-1, 41] r3, t, rfl, by omega, ?_, ht⟩), by omega, by omega⟩
        rcases (by omega : r3 = 0 ∨ r3 = 1) with rfl | rfl
        · exact Or.inl rfl
        · exact Or.inr (Or.inl rfl)
      · rw [if_neg c3]
        exact ⟨_, _, rfl, Or.inr (Or.inl rfl), by omega, by omega⟩
    · rw [if_neg c1]
      exact ⟨_, _, rfl, Or.inr (Or.inr ⟨a, t, rfl, by omega, Or.inr (Or.inr ha), ht⟩), by omega, by omega⟩
  | succ d ih =>
    intro k acc p hd hk p0 p1 hx
    obtain ⟨k, rfl⟩ : ∃ n, k = n + 2 := ⟨k - 2, by omega⟩
    obtain ⟨r1, e1, a1, -, b1⟩ := pick_ok k l p 6 hl hlen p0 (by omega)
    have b1 := b1 (by omega)
    obtain ⟨u, q, e, h, q0, q1⟩ := ih (k + 1) (acc ++ [r1]) (p + 1) (by simp; omega) (by omega) (by omega) (by omega) (by
      intro x hx'
      rcases List.mem_append.mp hx' with h | h
      · exact hx x h
      · have := List.mem_singleton.mp h
        omega)
    refine ⟨u, q, ?_, h, q0, by omega⟩
    rw [spec_l20Urn.l0, if_pos (by omega), e1]
    simp only [Option.bind_some]
    rw [if_pos (by omega), w64 (by omega) (by omega), show ((d + 1 : Nat) : Int) - 1 = (d : Int) by omega]
    exact e
theorem urn_draw (l : List Int) (odd p : Int) (ho : 1 ≤ odd) (p0 : 0 ≤ p) (p1 : p ≤ 100000) (hl : ∀ x ∈ l, 0 ≤ x ∧ x ≤ 255) (hlen : l.length ≤ 2000) (k : Nat) (hk : 10 ≤ k) :
    ∃ u q, spec_l20Urn.f k l p odd = some (u, q) ∧ DrawnU u ∧ 0 ≤ q ∧ q ≤ p + 7 := by
  obtain ⟨k, rfl⟩ : ∃ m, k = m + 1 := ⟨k - 1, by omega⟩
  obtain ⟨r1, e1, a1, -, b1⟩ := pick_ok k l p 3 hl hlen p0 (by omega)
  have b1 := b1 (by omega)
  obtain ⟨u, q, e, h, q0, q1⟩ := urn_l0 l odd ho hl hlen (1 + r1.toNat) (by omega) (by omega) (1 + r1.toNat) (k + 1) [] (p + 1) (by simp) (by omega) (by omega) (by omega) (by simp)
  refine ⟨u, q, ?_, h, q0, by omega⟩
  unfold spec_l20Urn.f
  rw [e1]
  simp only [Option.bind_some]
  rw [w64 (by omega) (by omega), show 1 + r1 = ((1 + r1.toNat : Nat) : Int) by omega]
  exact e
def smalls : List Int := [0, 1, 2, 3, 4, 5]
def heads : List Int := [-1, 41, 0, 1, 2, 3, 4, 5]
def drawnUs : List (List Int) := [] :: [1, 1, 1, 1] :: heads.flatMap fun a => [a] :: smalls.flatMap fun b => [a, b] :: smalls.map fun c => [a, b, c]
theorem mem_smalls {x : Int} (h : 0 ≤ x ∧ x < 6) : x ∈ smalls := by
  rcases (by omega : x = 0 ∨ x = 1 ∨ x = 2 ∨ x = 3 ∨ x = 4 ∨ x = 5) with rfl | rfl | rfl | rfl | rfl | rfl <;> simp [smalls]
theorem drawn_mem {u : List Int} (h : DrawnU u) : u ∈ drawnUs := by
  rcases h with rfl | rfl | ⟨a, t, rfl, hl, ha, ht⟩
  · simp [drawnUs]
  · simp [drawnUs]
  · have ha' : a ∈ heads := by
      rcases ha with rfl | rfl | ha
      · simp [heads]
      · simp [heads]
      · have := mem_smalls ha
        simp [smalls] at this
        simp [heads, this]
    refine List.mem_cons_of_mem _ (List.mem_cons_of_mem _ (List.mem_flatMap.mpr ⟨a, ha', ?_⟩))
    match t, hl with
    | [], _ => simp
    | [b], _ => exact List.mem_cons_of_mem _ (List.mem_flatMap.mpr ⟨b, mem_smalls (ht b (by simp)), by simp⟩)
    | [b, c], _ =>
      refine List.mem_cons_of_mem _ (List.mem_flatMap.mpr ⟨b, mem_smalls (ht b (by simp)), ?_⟩)
      simp [mem_smalls (ht c (by simp))]
    | _ :: _ :: _ :: _, h => simp at h
theorem drawn_len {u : List Int} (h : DrawnU u) : u.length ≤ 4 := by
  rcases h with rfl | rfl | ⟨a, t, rfl, hl, -⟩
  · simp
  · simp
  · simp only [List.length_cons]
    omega

theorem colours_ok (a : Int) : impl_coloursOk.f a = some (decide (1 ≤ a ∧ a ≤ 3)) := by
  unfold impl_coloursOk.f
  by_cases h : a ≥ 1
  · simp [h]
  · simp [h]
def UrnIn (u : List Int) : Prop := (∀ x ∈ u, 0 ≤ x ∧ x ≤ 40) ∧ (1 ≤ (u.length : Int) ∧ (u.length : Int) ≤ 3)
instance (u : List Int) : Decidable (UrnIn u) := by unfold UrnIn; infer_instance
def UrnTail (u t : List Int) : Prop := (∀ x ∈ t, 0 ≤ x ∧ x ≤ 40) ∧ (1 ≤ (u.length : Int) ∧ (u.length : Int) ≤ 3)
instance (u t : List Int) : Decidable (UrnTail u t) := by unfold UrnTail; infer_instance
theorem urn_cons (u t : List Int) (x : Int) : UrnTail u (x :: t) ↔ (0 ≤ x ∧ x ≤ 40) ∧ UrnTail u t := by
  unfold UrnTail
  simp only [List.mem_cons, forall_eq_or_imp, and_assoc]
theorem impl_urn_l0 (u : List Int) (hn : u.length ≤ 2000000) (d : Nat) : ∀ (k i : Nat), i + d = u.length → d < k →
    impl_UrnOk.l0 k u u (u.length : Int) (i : Int) = some (decide (UrnTail u (u.drop i))) := by
  induction d with
  | zero =>
    intro k i hi hk
    obtain ⟨k, rfl⟩ : ∃ m, k = m + 1 := ⟨k - 1, by omega⟩
    simp only [impl_UrnOk.l0]
    rw [if_neg (by omega), List.drop_of_length_le (by omega), colours_ok]
    unfold UrnTail
    simp
  | succ d ih =>
    intro k i hi hk
    obtain ⟨k, rfl⟩ : ∃ m, k = m + 1 := ⟨k - 1, by omega⟩
    simp only [impl_UrnOk.l0]
    rw [if_pos (by omega), if_pos (by omega), if_pos (by omega), drop_at u i (by omega), nat_step (by omega), ih k (i + 1) (by omega) (by omega)]
    simp only [urn_cons]
    by_cases h1 : rd u (i : Int) < 0
    · rw [if_pos h1, decide_eq_false (by omega)]
    · rw [if_neg h1]
      by_cases h2 : rd u (i : Int) > 40
      · rw [if_pos h2, decide_eq_false (by omega)]
      · rw [if_neg h2]
        have h : 0 ≤ rd u (i : Int) ∧ rd u (i : Int) ≤ 40 := by omega
        simp [h]
theorem impl_urn (u : List Int) (hn : u.length ≤ 2000000) (k : Nat) (hk : u.length < k) : impl_UrnOk.f k u = some (decide (UrnIn u)) :=
  impl_urn_l0 u hn u.length k 0 (by omega) hk

def StartTail (u t : List Int) : Prop := (∀ x ∈ t, x ≤ 10) ∧ UrnIn u
instance (u t : List Int) : Decidable (StartTail u t) := by unfold StartTail; infer_instance
def StartIn (u : List Int) : Prop := StartTail u u
instance (u : List Int) : Decidable (StartIn u) := by unfold StartIn; infer_instance
theorem start_cons (u t : List Int) (x : Int) : StartTail u (x :: t) ↔ x ≤ 10 ∧ StartTail u t := by
  unfold StartTail
  simp only [List.mem_cons, forall_eq_or_imp, and_assoc]
theorem impl_start_l0 (u : List Int) (hn : u.length ≤ 2000000) (d : Nat) : ∀ (k i : Nat), i + d = u.length → u.length + d + 1 < k →
    impl_StartOk.l0 k u u (u.length : Int) (i : Int) = some (decide (StartTail u (u.drop i))) := by
  induction d with
  | zero =>
    intro k i hi hk
    obtain ⟨k, rfl⟩ : ∃ m, k = m + 1 := ⟨k - 1, by omega⟩
    simp only [impl_StartOk.l0]
    rw [if_neg (by omega), List.drop_of_length_le (by omega), impl_urn u (by omega) k (by omega)]
    simp [StartTail]
  | succ d ih =>
    intro k i hi hk
    obtain ⟨k, rfl⟩ : ∃ m, k = m + 1 := ⟨k - 1, by omega⟩
    simp only [impl_StartOk.l0]
    rw [if_pos (by omega), if_pos (by omega), if_pos (by omega), drop_at u i (by omega), nat_step (by omega), ih k (i + 1) (by omega) (by omega)]
    simp only [start_cons]
    by_cases h : rd u (i : Int) > 10
    · rw [if_pos h, decide_eq_false (by omega)]
    · rw [if_neg h]
      simp [show rd u (i : Int) ≤ 10 by omega]
theorem impl_start (u : List Int) (hn : u.length ≤ 2000000) (k : Nat) (hk : 2 * u.length + 1 < k) : impl_StartOk.f k u = some (decide (StartIn u)) :=
  impl_start_l0 u hn u.length k 0 (by omega) (by omega)

theorem start_of {u : List Int} (h : DrawnU u) (hu : UrnIn u) : StartIn u := by
  refine ⟨fun x hx => ?_, hu⟩
  rcases h with rfl | rfl | ⟨a, t, rfl, -, ha, ht⟩
  · simp at hx
  · simp at hx
    omega
  · rcases List.mem_cons.mp hx with q | q
    · have := (hu.1 a (by simp)).2
      omega
    · have := ht x q
      omega

/-- What draws make of an urn. -/
def AF (u : List Int) (R : List (List Int)) (w : List Int) : List Int := w.foldl (fun v c => List.zipWith (· + ·) v (R.getD c.toNat [])) u
/-- The ways of a word: the balls of its colours in the urns of then. -/
def pw (R : List (List Int)) : List Int → List Int → Int
  | _, [] => 1
  | u, c :: w => max 0 (u.getD c.toNat 0) * pw R (List.zipWith (· + ·) u (R.getD c.toNat [])) w
/-- An urn within bounds. -/
def Small (n m : Nat) (u : List Int) : Prop := u.length = n ∧ ∀ x ∈ u, -100 - (m : Int) ≤ x ∧ x ≤ 100 + 10 * (m : Int)
def Rows (n : Nat) (R : List (List Int)) : Prop := ∀ r ∈ R, r.length = n ∧ ∀ x ∈ r, -1 ≤ x ∧ x ≤ 10
theorem getD_in {n : Nat} {R : List (List Int)} (h : Rows n R) (c : Nat) (hc : c < R.length) : (R.getD c []).length = n ∧ ∀ x ∈ R.getD c [], -1 ≤ x ∧ x ≤ 10 := by
  rw [List.getD_eq_getElem?_getD, List.getElem?_eq_getElem hc]
  exact h _ (List.getElem_mem hc)
theorem rd_in {u : List Int} {lo hi : Int} (h : ∀ x ∈ u, lo ≤ x ∧ x ≤ hi) (i : Nat) (hi' : i < u.length) : lo ≤ rd u (i : Int) ∧ rd u (i : Int) ≤ hi := by
  rw [rd_get u i hi']
  exact h _ (List.getElem_mem hi')
theorem small_add {n m : Nat} {u r : List Int} (h : Small n m u) (hr : r.length = n) (hx : ∀ x ∈ r, -1 ≤ x ∧ x ≤ 10) : Small n (m + 1) (List.zipWith (· + ·) u r) := by
  refine ⟨by simp [h.1, hr], fun x hx' => ?_⟩
  obtain ⟨i, hi, rfl⟩ := List.mem_iff_getElem.mp hx'
  simp only [List.length_zipWith] at hi
  rw [List.getElem_zipWith]
  have h1 := h.2 _ (List.getElem_mem (show i < u.length by omega))
  have h2 := hx _ (List.getElem_mem (show i < r.length by omega))
  omega
theorem added_l0 (u r : List Int) (n m : Nat) (hu : Small n m u) (hm : m ≤ 1000) (hr : r.length = n) (hx : ∀ x ∈ r, -1 ≤ x ∧ x ≤ 10) (hn : n ≤ 1000) (d : Nat) : ∀ (k i : Nat), i + d = n → d < k →
    impl_added.l0 k ((List.zipWith (· + ·) u r).take i ++ u.drop i) r (r.length : Int) (i : Int) = some (List.zipWith (· + ·) u r) := by
  have hul := hu.1
  have hz : (List.zipWith (· + ·) u r).length = n := by simp [hul, hr]
  induction d with
  | zero =>
    intro k i hi hk
    obtain ⟨k, rfl⟩ : ∃ m, k = m + 1 := ⟨k - 1, by omega⟩
    simp only [impl_added.l0]
    rw [if_neg (by omega), List.take_of_length_le (by omega), List.drop_of_length_le (by omega)]
    simp
  | succ d ih =>
    intro k i hi hk
    obtain ⟨k, rfl⟩ : ∃ m, k = m + 1 := ⟨k - 1, by omega⟩
    have hl : ((List.zipWith (· + ·) u r).take i ++ u.drop i).length = n := by simp [hul, hr]; omega
    have hd : u.drop i = rd u (i : Int) :: u.drop (i + 1) := drop_at u i (by omega)
    have ht : ((List.zipWith (· + ·) u r).take i).length = i := by simp [hul, hr]; omega
    have e1 : rd ((List.zipWith (· + ·) u r).take i ++ u.drop i) (i : Int) = rd u (i : Int) := by
      rw [rd_nat, hd, List.getD_eq_getElem?_getD, List.getElem?_append_right (by omega), ht]
      simp
    have b1 := rd_in hu.2 i (by omega)
    have b2 := rd_in hx i (by omega)
    simp only [impl_added.l0]
    rw [if_pos (by omega), if_pos (by omega), if_pos (by omega), if_pos (by omega), e1, w64 (by omega) (by omega), nat_step (by omega), Int.toNat_natCast]
    have e2 : ((List.zipWith (· + ·) u r).take i ++ u.drop i).set i (rd u (i : Int) + rd r (i : Int)) = (List.zipWith (· + ·) u r).take (i + 1) ++ u.drop (i + 1) := by
      rw [hd, List.set_append_right _ _ (by omega), ht, Nat.sub_self, List.set_cons_zero, List.take_succ_eq_append_getElem (by omega), List.getElem_zipWith, rd_get u i (by omega), rd_get r i (by omega)]
      simp
    rw [e2]
    exact ih k (i + 1) (by omega) (by omega)
theorem clone_ok (u : List Int) (hn : u.length ≤ 1000000) : slices_Clone_int_int.f u = some u := by
  unfold slices_Clone_int_int.f
  rw [if_pos (by omega)]
theorem added_ok (u r : List Int) (n m : Nat) (hu : Small n m u) (hm : m ≤ 1000) (hr : r.length = n) (hx : ∀ x ∈ r, -1 ≤ x ∧ x ≤ 10) (hn : n ≤ 1000) (k : Nat) (hk : n < k) :
    impl_added.f k u r = some (List.zipWith (· + ·) u r) := by
  unfold impl_added.f
  rw [clone_ok u (by have := hu.1; omega)]
  exact added_l0 u r n m hu hm hr hx hn n k 0 (by omega) hk
theorem AF_snoc (u : List Int) (R : List (List Int)) (w : List Int) (c : Int) : AF u R (w ++ [c]) = List.zipWith (· + ·) (AF u R w) (R.getD c.toNat []) := by
  simp [AF, List.foldl_append]
theorem AF_small {n : Nat} {R : List (List Int)} (hR : Rows n R) (w : List Int) : ∀ (m : Nat) (u : List Int), Small n m u → (∀ c ∈ w, 0 ≤ c ∧ c < (R.length : Int)) → Small n (m + w.length) (AF u R w) := by
  induction w with
  | nil => intro m u hu _; exact hu
  | cons c w ih =>
    intro m u hu hw
    have hc := hw c (by simp)
    have hr := getD_in hR c.toNat (by omega)
    have := ih (m + 1) _ (small_add hu hr.1 hr.2) (fun x hx => hw x (by simp [hx]))
    rw [List.length_cons, show m + (w.length + 1) = m + 1 + w.length by omega]
    exact this
theorem rd_L (R : List (List Int)) (c : Int) : rd_L1 R c = R.getD c.toNat [] := rfl
theorem after_l0 (u : List Int) (R : List (List Int)) (w : List Int) (n : Nat) (hu : Small n 0 u) (hR : Rows n R) (hw : ∀ c ∈ w, 0 ≤ c ∧ c < (R.length : Int)) (hn : n ≤ 100) (hwl : w.length ≤ 100) (d : Nat) : ∀ (k i : Nat), i + d = w.length → d + n + 2 < k →
    impl_after.l0 k R (AF u R (w.take i)) w (w.length : Int) (i : Int) = some (AF u R w) := by
  induction d with
  | zero =>
    intro k i hi hk
    obtain ⟨k, rfl⟩ : ∃ m, k = m + 1 := ⟨k - 1, by omega⟩
    simp only [impl_after.l0]
    rw [if_neg (by omega), List.take_of_length_le (by omega)]
  | succ d ih =>
    intro k i hi hk
    obtain ⟨k, rfl⟩ : ∃ m, k = m + 1 := ⟨k - 1, by omega⟩
    have hc : 0 ≤ rd w (i : Int) ∧ rd w (i : Int) < (R.length : Int) := by
      rw [rd_get w i (by omega)]
      exact hw _ (List.getElem_mem (by omega))
    have hr := getD_in hR (rd w (i : Int)).toNat (by omega)
    have hs := AF_small hR (w.take i) 0 u hu (fun c hc => hw c (List.mem_of_mem_take hc))
    simp only [impl_after.l0]
    rw [if_pos (by omega), if_pos (by omega), if_pos (by omega), if_pos hc.1, if_pos hc.2, rd_L, added_ok _ _ n _ hs (by simp; omega) hr.1 hr.2 (by omega) k (by omega)]
    simp only [Option.bind_some]
    rw [← AF_snoc, ← take_at w i (by omega), nat_step (by omega)]
    exact ih k (i + 1) (by omega) (by omega)
theorem after_ok (u : List Int) (R : List (List Int)) (w : List Int) (n : Nat) (hu : Small n 0 u) (hR : Rows n R) (hw : ∀ c ∈ w, 0 ≤ c ∧ c < (R.length : Int)) (hn : n ≤ 100) (hwl : w.length ≤ 100) (k : Nat) (hk : w.length + n + 2 < k) :
    impl_after.f k u R w = some (AF u R w) := by
  unfold impl_after.f
  rw [clone_ok u (by have := hu.1; omega)]
  exact after_l0 u R w n hu hR hw hn hwl w.length k 0 (by omega) hk
theorem mx_max (x : Int) : mx 0 x = max 0 x := by
  unfold mx
  split <;> omega
theorem pow_bound (n v P : Int) (h0 : 0 ≤ v) (h1 : v ≤ 200) (hn : 0 ≤ n) (hP : 1 ≤ P) (h : n * (200 * P) ≤ 12800000000000000) : n * v * P ≤ 12800000000000000 ∧ n * v ≤ 12800000000000000 ∧ 0 ≤ n * v := by
  have a1 : n * v ≤ n * 200 := Int.mul_le_mul_of_nonneg_left h1 hn
  have a2 : n * v * P ≤ n * 200 * P := Int.mul_le_mul_of_nonneg_right a1 (by omega)
  have a3 : 0 ≤ n * v := Int.mul_nonneg hn h0
  have a4 : n * v * 1 ≤ n * v * P := Int.mul_le_mul_of_nonneg_left hP a3
  rw [Int.mul_assoc n 200 P] at a2
  omega
theorem pw_l0 (u : List Int) (R : List (List Int)) (w : List Int) (n : Nat) (hu : Small n 0 u) (hR : Rows n R) (hRn : R.length = n) (hw : ∀ c ∈ w, 0 ≤ c ∧ c < (R.length : Int)) (hn : n ≤ 10) (hwl : w.length ≤ 7) (d : Nat) : ∀ (k i : Nat) (a : Int), i + d = w.length → d + 30 < k → 0 ≤ a → a * 200 ^ d ≤ 12800000000000000 →
    impl_ruleWays.l0 k u R w a w (w.length : Int) (i : Int) = some (a * pw R (AF u R (w.take i)) (w.drop i)) := by
  induction d with
  | zero =>
    intro k i a hi hk _ _
    obtain ⟨k, rfl⟩ : ∃ m, k = m + 1 := ⟨k - 1, by omega⟩
    simp only [impl_ruleWays.l0]
    rw [if_neg (by omega), List.drop_of_length_le (by omega)]
    simp [pw]
  | succ d ih =>
    intro k i a hi hk a0 ab
    obtain ⟨k, rfl⟩ : ∃ m, k = m + 1 := ⟨k - 1, by omega⟩
    have hc : 0 ≤ rd w (i : Int) ∧ rd w (i : Int) < (R.length : Int) := by
      rw [rd_get w i (by omega)]
      exact hw _ (List.getElem_mem (by omega))
    have hs := AF_small hR (w.take i) 0 u hu (fun c hc => hw c (List.mem_of_mem_take hc))
    have hsl := hs.1
    have htl : (w.take i).length ≤ 7 := by simp; omega
    have hv := rd_in hs.2 (rd w (i : Int)).toNat (by omega)
    rw [show (((rd w (i : Int)).toNat : Nat) : Int) = rd w (i : Int) by omega] at hv
    have hP : (1 : Int) ≤ 200 ^ d := Int.pow_pos (by omega)
    have hpow : (200 : Int) ^ (d + 1) = 200 * 200 ^ d := by rw [Int.pow_succ, Int.mul_comm]
    rw [hpow] at ab
    have hmv : 0 ≤ max 0 (rd (AF u R (w.take i)) (rd w (i : Int))) ∧ max 0 (rd (AF u R (w.take i)) (rd w (i : Int))) ≤ 200 := by omega
    obtain ⟨b1, b2, b3⟩ := pow_bound a _ _ hmv.1 hmv.2 a0 hP ab
    simp only [impl_ruleWays.l0]
    rw [if_pos (by omega), if_pos (by omega), if_pos (by omega), if_pos (by omega), Int.toNat_natCast, after_ok u R (w.take i) n hu hR (fun c hc => hw c (List.mem_of_mem_take hc)) (by omega) (by omega) k (by omega)]
    simp only [Option.bind_some]
    rw [if_pos hc.1, if_pos (by omega), mx_max, w64 (by omega) (by omega)]
    have hgd : rd (AF u R (w.take i)) (rd w (i : Int)) = (AF u R (w.take i)).getD (rd w (i : Int)).toNat 0 := rfl
    have hpw : pw R (AF u R (w.take i)) (w.drop i) = max 0 (rd (AF u R (w.take i)) (rd w (i : Int))) * pw R (AF u R (w.take (i + 1))) (w.drop (i + 1)) := by
      rw [drop_at w i (by omega), take_at w i (by omega), AF_snoc]
      rfl
    rw [hpw, ← Int.mul_assoc]
    by_cases hz : a * max 0 (rd (AF u R (w.take i)) (rd w (i : Int))) = 0
    · rw [if_pos hz, hz, Int.zero_mul]
    · rw [if_neg hz, nat_step (by omega)]
      exact ih k (i + 1) _ (by omega) (by omega) b3 b1
theorem ruleWays_ok (u : List Int) (R : List (List Int)) (w : List Int) (n : Nat) (hu : Small n 0 u) (hR : Rows n R) (hRn : R.length = n) (hw : ∀ c ∈ w, 0 ≤ c ∧ c < (R.length : Int)) (hn : n ≤ 10) (hwl : w.length ≤ 7) (k : Nat) (hk : 40 ≤ k) :
    impl_ruleWays.f k u R w = some (pw R u w) := by
  have hb : (1 : Int) * 200 ^ w.length ≤ 12800000000000000 := by
    have : ∀ m, m ≤ 7 → (200 : Int) ^ m ≤ 12800000000000000 := by decide
    rw [Int.one_mul]
    exact this _ hwl
  have := pw_l0 u R w n hu hR hRn hw hn hwl w.length k 0 1 (by omega) (by omega) (by omega) hb
  rw [Int.one_mul] at this
  exact this

theorem lift {α : Type} {F : Nat → Option α} (hF : ∀ k, LeO (F k) (F (k + 1))) {k r : _} (h : F k = some r) : ∀ {K : Nat}, k ≤ K → F K = some r := by
  intro K hK
  induction hK with
  | refl => exact h
  | step _ ih => exact hF _ _ ih

theorem sum_pos (l : List Int) (h : ∀ x ∈ l, 0 ≤ x) : 0 ≤ l.sum := by
  induction l with
  | nil => simp
  | cons x l ih =>
    have h1 := h x (by simp)
    have h2 := ih fun y hy => h y (by simp [hy])
    simp only [List.sum_cons]
    omega

/-- What draws of one colour make. -/
def rise (s : Int) : Int → Nat → Int
  | _, 0 => 1
  | a, m + 1 => max 0 a * rise s (a + s) m
def prodR (s : Int) : List Int → List Int → Int
  | a :: u, m :: cs => rise s a m.toNat * prodR s u cs
  | _, _ => 1
def cntL (n : Nat) (q : List Int) : List Int := (List.range n).map fun (i : Nat) => ((q.count (i : Int) : Nat) : Int)
def rowsD (n : Nat) (s : Int) : List (List Int) := (List.range n).map fun c => (List.replicate n 0).set c s
theorem pw_1 (s : Int) (q : List Int) : ∀ a, (∀ x ∈ q, 0 ≤ x ∧ x < 1) → pw [[s]] [a] q = rise s a (q.count 0) := by
  induction q with
  | nil => intro a _; rfl
  | cons c q ih =>
    intro a h
    have hc := h c (by simp)
    have hr := fun b => ih b fun x hx => h x (by simp [hx])
    obtain rfl : c = 0 := by omega
    simp [pw, rise, hr]
theorem pw_2 (s : Int) (q : List Int) : ∀ a b, (∀ x ∈ q, 0 ≤ x ∧ x < 2) → pw [[s, 0], [0, s]] [a, b] q = rise s a (q.count 0) * rise s b (q.count 1) := by
  induction q with
  | nil => intro a b _; rfl
  | cons c q ih =>
    intro a b h
    have hc := h c (by simp)
    have hr := fun a b => ih a b fun x hx => h x (by simp [hx])
    rcases (by omega : c = 0 ∨ c = 1) with rfl | rfl
    · simp [pw, rise, hr, Int.mul_assoc]
    · simp [pw, rise, hr, Int.mul_left_comm]
theorem pw_3 (s : Int) (q : List Int) : ∀ a b c, (∀ x ∈ q, 0 ≤ x ∧ x < 3) → pw [[s, 0, 0], [0, s, 0], [0, 0, s]] [a, b, c] q = rise s a (q.count 0) * (rise s b (q.count 1) * rise s c (q.count 2)) := by
  induction q with
  | nil => intro a b c _; rfl
  | cons x q ih =>
    intro a b c h
    have hc := h x (by simp)
    have hr := fun a b c => ih a b c fun x hx => h x (by simp [hx])
    rcases (by omega : x = 0 ∨ x = 1 ∨ x = 2) with rfl | rfl | rfl
    · simp [pw, rise, hr, Int.mul_assoc]
    · simp [pw, rise, hr, Int.mul_left_comm, Int.mul_assoc]
    · simp [pw, rise, hr, Int.mul_left_comm]
theorem len1 {u : List Int} (h : u.length = 1) : ∃ a, u = [a] := List.length_eq_one_iff.mp h
theorem len2 {u : List Int} (h : u.length = 2) : ∃ a b, u = [a, b] := by
  match u, h with
  | [a, b], _ => exact ⟨a, b, rfl⟩
theorem len3 {u : List Int} (h : u.length = 3) : ∃ a b c, u = [a, b, c] := by
  match u, h with
  | [a, b, c], _ => exact ⟨a, b, c, rfl⟩
theorem pw_rise (s : Int) (u q : List Int) (n : Nat) (h1 : 1 ≤ n) (h3 : n ≤ 3) (hu : u.length = n) (hq : ∀ x ∈ q, 0 ≤ x ∧ x < (n : Int)) : pw (rowsD n s) u q = prodR s u (cntL n q) := by
  rcases (by omega : n = 1 ∨ n = 2 ∨ n = 3) with rfl | rfl | rfl
  · obtain ⟨a, rfl⟩ := len1 hu
    have := pw_1 s q a (fun x hx => by have := hq x hx; omega)
    simpa [rowsD, cntL, prodR, List.range_succ] using this
  · obtain ⟨a, b, rfl⟩ := len2 hu
    have := pw_2 s q a b (fun x hx => by have := hq x hx; omega)
    simpa [rowsD, cntL, prodR, List.range_succ] using this
  · obtain ⟨a, b, c, rfl⟩ := len3 hu
    have := pw_3 s q a b c (fun x hx => by have := hq x hx; omega)
    simpa [rowsD, cntL, prodR, List.range_succ] using this
theorem rise_in (s : Int) (h0 : -1 ≤ s) (h3 : s ≤ 3) (m : Nat) : ∀ a, a + 3 * (m : Int) ≤ 60 → 0 ≤ rise s a m ∧ rise s a m ≤ 60 ^ m := by
  induction m with
  | zero => intro a _; simp [rise]
  | succ m ih =>
    intro a h
    obtain ⟨i0, i1⟩ := ih (a + s) (by omega)
    have hm : 0 ≤ max 0 a ∧ max 0 a ≤ 60 := by omega
    have e : rise s a (m + 1) = max 0 a * rise s (a + s) m := rfl
    rw [e, Int.pow_succ, Int.mul_comm (60 ^ m) 60]
    exact ⟨Int.mul_nonneg hm.1 i0, Int.mul_le_mul hm.2 i1 i0 (by omega)⟩
theorem prodR_in (s : Int) (h0 : -1 ≤ s) (h3 : s ≤ 3) : ∀ (u cs : List Int), (∀ x ∈ u, x ≤ 40) → (∀ x ∈ cs, 0 ≤ x) → cs.sum ≤ 6 → 0 ≤ prodR s u cs ∧ prodR s u cs ≤ 60 ^ cs.sum.toNat := by
  intro u
  induction u with
  | nil => intro cs _ _ _; have : (1 : Int) ≤ 60 ^ cs.sum.toNat := Int.pow_pos (by omega); simp [prodR]; omega
  | cons a u ih =>
    intro cs hu hc hs
    match cs with
    | [] => simp [prodR]
    | m :: cs =>
      have p := sum_pos cs fun x hx => hc x (by simp [hx])
      have q := hc m (by simp)
      simp only [List.sum_cons] at hs
      obtain ⟨i0, i1⟩ := ih cs (fun x hx => hu x (by simp [hx])) (fun x hx => hc x (by simp [hx])) (by omega)
      obtain ⟨r0, r1⟩ := rise_in s h0 h3 m.toNat a (by have := hu a (by simp); omega)
      have e : (m :: cs).sum.toNat = m.toNat + cs.sum.toNat := by simp only [List.sum_cons]; omega
      rw [e, Int.pow_add]
      exact ⟨Int.mul_nonneg r0 i0, Int.mul_le_mul r1 i1 i0 (Int.le_trans r0 r1)⟩
theorem prodR_small (s : Int) (h0 : -1 ≤ s) (h3 : s ≤ 3) (u cs : List Int) (hu : ∀ x ∈ u, x ≤ 40) (hc : ∀ x ∈ cs, 0 ≤ x) (hs : cs.sum ≤ 6) : 0 ≤ prodR s u cs ∧ prodR s u cs ≤ 46656000000 := by
  obtain ⟨i0, i1⟩ := prodR_in s h0 h3 u cs hu hc hs
  have : ∀ m : Nat, m ≤ 6 → (60 : Int) ^ m ≤ 46656000000 := by decide
  exact ⟨i0, Int.le_trans i1 (this _ (by omega))⟩

def sameCheck (n : Nat) (s : Int) : Bool := decide (impl_SameRule.f 20 (n : Int) s = some (rowsD n s))
theorem same_check : (([-1, 0, 1, 2, 3] : List Int).all fun s => sameCheck 1 s && (sameCheck 2 s && sameCheck 3 s)) = true := by kernel_rfl
theorem same_ok (n : Nat) (s : Int) (h1 : 1 ≤ n) (h3 : n ≤ 3) (hs : -1 ≤ s) (hs3 : s ≤ 3) (k : Nat) (hk : 20 ≤ k) : impl_SameRule.f k (n : Int) s = some (rowsD n s) := by
  have h := same_check
  simp only [List.all_eq_true, Bool.and_eq_true] at h
  have h := h s (by
    rcases (by omega : s = -1 ∨ s = 0 ∨ s = 1 ∨ s = 2 ∨ s = 3) with rfl | rfl | rfl | rfl | rfl <;> simp)
  refine lift (fun k => impl_SameRule.mono (n : Int) s k) ?_ hk
  rcases (by omega : n = 1 ∨ n = 2 ∨ n = 3) with rfl | rfl | rfl
  · exact of_decide_eq_true h.1
  · exact of_decide_eq_true h.2.1
  · exact of_decide_eq_true h.2.2
theorem rows_ok (n : Nat) (s : Int) (hs : -1 ≤ s) (hs3 : s ≤ 3) : Rows n (rowsD n s) ∧ (rowsD n s).length = n := by
  refine ⟨fun r hr => ?_, by simp [rowsD]⟩
  obtain ⟨c, -, rfl⟩ := List.mem_map.mp hr
  refine ⟨by simp, fun x hx => ?_⟩
  rcases List.mem_or_eq_of_mem_set hx with q | q
  · rw [(List.mem_replicate.mp q).2]
    omega
  · omega
theorem urn_small {u : List Int} (h : UrnIn u) : Small u.length 0 u := ⟨rfl, fun x hx => by have := h.1 x hx; omega⟩
theorem pow60 (m : Nat) : (1 : Int) ≤ 60 ^ m := Int.pow_pos (by omega)
theorem mul_bound {a v P B : Int} (ha : 0 ≤ a) (hv : v ≤ 60) (hP : 0 ≤ P) (h : a * (60 * P) ≤ B) : a * v * P ≤ B := by
  have h1 : a * v ≤ a * 60 := Int.mul_le_mul_of_nonneg_left hv ha
  have h2 : a * v * P ≤ a * 60 * P := Int.mul_le_mul_of_nonneg_right h1 hP
  rw [Int.mul_assoc a 60 P] at h2
  omega
theorem le_mul {a P B : Int} (ha : 0 ≤ a) (hP : 1 ≤ P) (h : a * P ≤ B) : a ≤ B := by
  have : a * 1 ≤ a * P := Int.mul_le_mul_of_nonneg_left hP ha
  omega
theorem in_sum {cs : List Int} {B : Int} (h0 : ∀ x ∈ cs, 0 ≤ x) (hs : cs.sum ≤ B) : ∀ x ∈ cs, 0 ≤ x ∧ x ≤ B := by
  intro x hx
  obtain ⟨i, hi, rfl⟩ := List.mem_iff_getElem.mp hx
  have e : cs.sum = (cs.take i).sum + (cs[i] + (cs.drop (i + 1)).sum) := by
    conv => lhs; rw [← List.take_append_drop i cs, List.sum_append, List.drop_eq_getElem_cons hi, List.sum_cons]
  have p1 := sum_pos (cs.take i) fun x hx => h0 x (List.mem_of_mem_take hx)
  have p2 := sum_pos (cs.drop (i + 1)) fun x hx => h0 x (List.mem_of_mem_drop hx)
  have p3 := h0 cs[i] (List.getElem_mem hi)
  omega

def askedCheck (n : Nat) (s : Int) : Bool := decide (impl_RuleOk.f 40 (n : Int) (rowsD n s) = some true)
theorem asked_check : (([-1, 0, 1, 2, 3] : List Int).all fun s => askedCheck 1 s && (askedCheck 2 s && askedCheck 3 s)) = true := by kernel_rfl
theorem ruleOk_ok (n : Nat) (s : Int) (h1 : 1 ≤ n) (h3 : n ≤ 3) (hs : -1 ≤ s) (hs3 : s ≤ 3) (k : Nat) (hk : 40 ≤ k) : impl_RuleOk.f k (n : Int) (rowsD n s) = some true := by
  have h := asked_check
  simp only [List.all_eq_true, Bool.and_eq_true] at h
  have h := h s (by
    rcases (by omega : s = -1 ∨ s = 0 ∨ s = 1 ∨ s = 2 ∨ s = 3) with rfl | rfl | rfl | rfl | rfl <;> simp)
  refine lift (fun k => impl_RuleOk.mono (n : Int) (rowsD n s) k) ?_ hk
  rcases (by omega : n = 1 ∨ n = 2 ∨ n = 3) with rfl | rfl | rfl
  · exact of_decide_eq_true h.1
  · exact of_decide_eq_true h.2.1
  · exact of_decide_eq_true h.2.2
theorem ruleAsked_ok (u : List Int) (s : Int) (hu : StartIn u) (hs : -1 ≤ s) (hs3 : s ≤ 3) (k : Nat) (hk : 60 ≤ k) : impl_ruleAsked.f k u (rowsD u.length s) = some true := by
  have h3 := hu.2.2
  unfold impl_ruleAsked.f
  rw [impl_start u (by omega) k (by omega), decide_eq_true hu]
  simp only [Option.bind_some, if_true]
  rw [ruleOk_ok u.length s (by omega) (by omega) hs hs3 k (by omega)]
  rfl

theorem sum_zero (I : List Nat) (f : Nat → Int) (h : ∀ i ∈ I, f i = 0) : (I.map f).sum = 0 := by
  induction I with
  | nil => rfl
  | cons i I ih =>
    rw [List.map_cons, List.sum_cons, h i (by simp), ih fun x hx => h x (by simp [hx])]
    rfl
theorem sum_plus (I : List Nat) (f g h : Nat → Int) (e : ∀ i ∈ I, f i = g i + h i) : (I.map f).sum = (I.map g).sum + (I.map h).sum := by
  induction I with
  | nil => rfl
  | cons i I ih =>
    simp only [List.map_cons, List.sum_cons]
    rw [e i (by simp), ih fun x hx => e x (by simp [hx])]
    omega
theorem sum_one (I : List Nat) (p : Nat → Bool) (F : Nat → Int) (z : Int) (hF : ∀ i ∈ I, F i = if p i then z else 0) : (I.map F).sum = z * ((I.countP p : Nat) : Int) := by
  induction I with
  | nil => simp
  | cons i I ih =>
    rw [List.map_cons, List.sum_cons, hF i (by simp), ih fun x hx => hF x (by simp [hx])]
    by_cases h : p i = true
    · rw [if_pos h, List.countP_cons_of_pos h, Int.natCast_succ, Int.mul_add, Int.mul_one]
      omega
    · rw [if_neg h, List.countP_cons_of_neg h]
      omega
/-- A sum over counts, each as often as words have it, is the sum over the words. -/
theorem swap_sum (f : List Int → Int) (g : List Int → List Int) (c : Nat → Bool) (v : Nat → List Int) (I : List Nat) (qs : List (List Int)) (hq : ∀ q ∈ qs, I.countP (fun i => c i && g q == v i) = 1) :
    (I.map fun i => if c i then f (v i) * ((qs.countP fun q => g q == v i : Nat) : Int) else 0).sum = (qs.map fun q => f (g q)).sum := by
  induction qs with
  | nil => exact sum_zero I _ fun i _ => by simp
  | cons q qs ih =>
    have h1 := sum_one I (fun i => c i && g q == v i) (fun i => if c i && g q == v i then f (g q) else 0) (f (g q)) (fun _ _ => rfl)
    rw [hq q (by simp)] at h1
    rw [List.map_cons, List.sum_cons, ← ih fun x hx => hq x (by simp [hx])]
    rw [sum_plus I _ (fun i => if c i && g q == v i then f (g q) else 0) (fun i => if c i then f (v i) * ((qs.countP fun q => g q == v i : Nat) : Int) else 0) ?_, h1]
    · omega
    · intro i _
      by_cases hc : c i = true
      · simp only [hc, if_true, Bool.true_and]
        by_cases he : (g q == v i) = true
        · rw [List.countP_cons_of_pos (p := fun q => g q == v i) he, if_pos he, Int.natCast_succ, Int.mul_add, Int.mul_one, eq_of_beq he]
          omega
        · rw [List.countP_cons_of_neg (p := fun q => g q == v i) he, if_neg he]
          omega
      · simp [hc]
theorem tell_sum (F : Int → List Int → Option Int) (f : List Int → Int) (B : Int) (qs : List (List Int)) (h0 : ∀ q ∈ qs, 0 ≤ f q) (hq : ∀ q ∈ qs, ∀ a, 0 ≤ a → a + f q ≤ B → F a q = some (a + f q)) :
    ∀ a, 0 ≤ a → a + (qs.map f).sum ≤ B → tellAll F a qs = some (a + (qs.map f).sum) := by
  induction qs with
  | nil => intro a _ _; simp [tellAll]
  | cons q qs ih =>
    intro a a0 ab
    have hn : 0 ≤ (qs.map f).sum := sum_pos _ fun x hx => by
      obtain ⟨y, hy, rfl⟩ := List.mem_map.mp hx
      exact h0 y (by simp [hy])
    have hf := h0 q (by simp)
    simp only [List.map_cons, List.sum_cons] at ab ⊢
    unfold tellAll
    rw [hq q (by simp) a a0 (by omega)]
    simp only [Option.bind_some]
    rw [ih (fun x hx => h0 x (by simp [hx])) (fun x hx => hq x (by simp [hx])) (a + f q) (by omega) (by omega)]
    congr 1
    omega
theorem sum_le (qs : List (List Int)) (f : List Int → Int) (B : Int) (h : ∀ q ∈ qs, 0 ≤ f q ∧ f q ≤ B) : 0 ≤ (qs.map f).sum ∧ (qs.map f).sum ≤ B * (qs.length : Int) := by
  induction qs with
  | nil => simp
  | cons q qs ih =>
    obtain ⟨i0, i1⟩ := ih fun x hx => h x (by simp [hx])
    have := h q (by simp)
    rw [List.map_cons, List.sum_cons, List.length_cons, Int.natCast_succ, Int.mul_add, Int.mul_one]
    omega

theorem isum_l0 (l : List Int) (hn : l.length ≤ 1000) (h : ∀ x ∈ l, 0 ≤ x ∧ x ≤ 1000) (d : Nat) : ∀ (k i : Nat), i + d = l.length → d < k →
    impl_sum.l0 k (l.take i).sum l (l.length : Int) (i : Int) = some l.sum := by
  induction d with
  | zero =>
    intro k i hi hk
    obtain ⟨k, rfl⟩ : ∃ m, k = m + 1 := ⟨k - 1, by omega⟩
    simp only [impl_sum.l0]
    rw [if_neg (by omega), List.take_of_length_le (by omega)]
  | succ d ih =>
    intro k i hi hk
    obtain ⟨k, rfl⟩ : ∃ m, k = m + 1 := ⟨k - 1, by omega⟩
    have hx := h (rd l (i : Int)) (by rw [rd_get l i (by omega)]; exact List.getElem_mem _)
    have hb : ∀ (t : List Int), (∀ x ∈ t, 0 ≤ x ∧ x ≤ 1000) → 0 ≤ t.sum ∧ t.sum ≤ 1000 * (t.length : Int) := by
      intro t
      induction t with
      | nil => simp
      | cons x t ih =>
        intro h
        have h1 := h x (by simp)
        have h2 := ih fun y hy => h y (by simp [hy])
        simp only [List.sum_cons, List.length_cons]
        omega
    have hs := hb (l.take i) fun x hx => h x (List.mem_of_mem_take hx)
    have hl : (l.take i).length ≤ 1000 := by simp; omega
    simp only [impl_sum.l0]
    rw [if_pos (by omega), if_pos (by omega), if_pos (by omega), nat_step (by omega), w64 (by omega) (by omega)]
    have e : (l.take i).sum + rd l (i : Int) = (l.take (i + 1)).sum := by
      rw [take_at l i (by omega)]
      simp
    rw [e]
    exact ih k (i + 1) (by omega) (by omega)
theorem isum_ok (l : List Int) (hn : l.length ≤ 1000) (h : ∀ x ∈ l, 0 ≤ x ∧ x ≤ 1000) (k : Nat) (hk : l.length < k) : impl_sum.f k l = some l.sum :=
  isum_l0 l hn h l.length k 0 (by omega) hk

/-- Draws by one step keep the shares: the ways behind one draw, and before it. -/
theorem rise_succ (s a : Int) (m : Nat) : rise s a (m + 1) = max 0 a * rise s (a + s) m := rfl
theorem rise_share (s : Int) (hs : -1 ≤ s) (m : Nat) : ∀ t : Int, 0 ≤ t → t * rise s (t + s) m = (t + (m : Int) * s) * rise s t m := by
  induction m with
  | zero => intro t _; simp [rise]
  | succ m ih =>
    intro t ht
    rw [rise_succ, rise_succ, Int.max_eq_right ht, Int.natCast_succ]
    by_cases h : 0 ≤ t + s
    · have := ih (t + s) h
      rw [Int.max_eq_right h]
      generalize rise s (t + s + s) m = X at *
      generalize rise s (t + s) m = Y at *
      generalize (m : Int) = M at *
      grind
    · obtain rfl : t = 0 := by omega
      simp
theorem set_sum (v : Int) : ∀ (u : List Int) (i : Nat), i < u.length → (u.set i v).sum = u.sum - rd u (i : Int) + v := by
  intro u
  induction u with
  | nil => intro i h; simp at h
  | cons a u ih =>
    intro i h
    cases i with
    | zero => simp [rd]; omega
    | succ i =>
      have := ih i (by simpa using h)
      rw [rd_nat] at this ⊢
      simp only [List.set_cons_succ, List.sum_cons, List.getD_cons_succ]
      omega
theorem set_rd (u : List Int) (i c : Nat) (v : Int) (hi : i < u.length) : rd (u.set i v) (c : Int) = if c = i then v else rd u (c : Int) := by
  rw [rd_nat, rd_nat, List.getD_eq_getElem?_getD, List.getD_eq_getElem?_getD, List.getElem?_set]
  by_cases h : i = c
  · subst h
    simp [hi]
  · rw [if_neg h, if_neg (fun e => h e.symm)]
theorem rd_pos {u : List Int} (h : ∀ x ∈ u, 0 ≤ x) (i : Nat) (hi : i < u.length) : 0 ≤ rd u (i : Int) ∧ rd u (i : Int) ≤ u.sum := by
  have e : u.sum = (u.take i).sum + (rd u (i : Int) + (u.drop (i + 1)).sum) := by
    conv => lhs; rw [← List.take_append_drop i u, List.sum_append, drop_at u i hi, List.sum_cons]
  have h1 := sum_pos (u.take i) fun x hx => h x (List.mem_of_mem_take hx)
  have h2 := sum_pos (u.drop (i + 1)) fun x hx => h x (List.mem_of_mem_drop hx)
  have h3 : 0 ≤ rd u (i : Int) := by
    rw [rd_get u i hi]
    exact h _ (List.getElem_mem hi)
  omega
theorem set_pos {u : List Int} (h : ∀ x ∈ u, 0 ≤ x) (i : Nat) (v : Int) (hv : 0 ≤ v) : ∀ x ∈ u.set i v, 0 ≤ x := by
  intro x hx
  rcases List.mem_or_eq_of_mem_set hx with q | q
  · exact h x q
  · omega
/-- All draws of one ball together. -/
theorem pick_sum (u : List Int) (hu : ∀ x ∈ u, 0 ≤ x) (s K : Int) (c : Nat) (d : Nat) : ∀ i, i + d = u.length →
    ((List.range' i d).map fun (x : Nat) => max 0 (rd u (x : Int)) * (rd (u.set x (rd u (x : Int) + s)) (c : Int) * K)).sum = (rd u (c : Int) * (u.drop i).sum + if i ≤ c ∧ c < u.length then s * rd u (c : Int) else 0) * K := by
  induction d with
  | zero =>
    intro i hi
    rw [List.drop_of_length_le (by omega), if_neg (by omega)]
    simp
  | succ d ih =>
    intro i hi
    have hp := (rd_pos hu i (by omega)).1
    rw [List.range'_succ, List.map_cons, List.sum_cons, ih (i + 1) (by omega), drop_at u i (by omega), List.sum_cons, set_rd u i c _ (by omega), Int.max_eq_right hp]
    by_cases h : c = i
    · subst h
      rw [if_pos rfl, if_neg (by omega), if_pos (by omega)]
      grind
    · rw [if_neg h]
      by_cases h2 : i + 1 ≤ c ∧ c < u.length
      · rw [if_pos h2, if_pos (by omega)]
        grind
      · rw [if_neg h2, if_neg (by omega)]
        grind
theorem pick_all (u : List Int) (hu : ∀ x ∈ u, 0 ≤ x) (K : Int) (d : Nat) : ∀ i, i + d = u.length →
    ((List.range' i d).map fun (x : Nat) => max 0 (rd u (x : Int)) * K).sum = (u.drop i).sum * K := by
  induction d with
  | zero =>
    intro i hi
    rw [List.drop_of_length_le (by omega)]
    simp
  | succ d ih =>
    intro i hi
    rw [List.range'_succ, List.map_cons, List.sum_cons, ih (i + 1) (by omega), drop_at u i (by omega), List.sum_cons, Int.max_eq_right (rd_pos hu i (by omega)).1]
    grind
theorem share_end (u : List Int) (hu : ∀ x ∈ u, 0 ≤ x) (s : Int) (hs : -1 ≤ s) (c m : Nat) (hc : c < u.length) :
    (rd u (c : Int) * u.sum + s * rd u (c : Int)) * rise s (u.sum + s + s) m = rd u (c : Int) * rise s (u.sum + s) (m + 1) := by
  have hp := rd_pos hu c hc
  rw [rise_succ]
  by_cases h : 0 ≤ u.sum + s
  · rw [Int.max_eq_right h]
    grind
  · have e : rd u (c : Int) = 0 := by omega
    rw [e]
    simp
theorem row_at (n : Nat) (s : Int) (x : Nat) (h : x < n) : (rowsD n s).getD x [] = (List.replicate n 0).set x s := by
  rw [List.getD_eq_getElem?_getD]
  simp [rowsD, h]
theorem row_add (u : List Int) (s : Int) (x : Nat) (h : x < u.length) : List.zipWith (· + ·) u ((rowsD u.length s).getD x []) = u.set x (rd u (x : Int) + s) := by
  rw [row_at _ _ _ h, rd_get u x h]
  refine List.ext_getElem (by simp) fun i h1 h2 => ?_
  simp only [List.length_set] at h2
  rw [List.getElem_zipWith, List.getElem_set, List.getElem_set]
  by_cases e : x = i
  · subst e
    simp
  · simp [e]
theorem sum_flat (I : List Nat) (h : Nat → List (List Int)) (g : List Int → Int) : ((I.flatMap h).map g).sum = (I.map fun i => ((h i).map g).sum).sum := by
  induction I with
  | nil => rfl
  | cons i I ih => simp [List.flatMap_cons, ih]
theorem sum_scale (W : List (List Int)) (g : List Int → Int) (z : Int) : (W.map fun t => z * g t).sum = z * (W.map g).sum := by
  induction W with
  | nil => simp
  | cons t W ih =>
    simp only [List.map_cons, List.sum_cons, ih]
    grind
theorem sum_same (I : List Nat) (f g : Nat → Int) (h : ∀ i ∈ I, f i = g i) : (I.map f).sum = (I.map g).sum := by
  rw [List.map_congr_left h]
theorem allW_succ (n m : Nat) : allW n (m + 1) = (List.range n).flatMap fun (x : Nat) => (allW n m).map fun t => (x : Int) :: t := rfl
/-- All words by their first draw. -/
theorem word_step (u : List Int) (s : Int) (m : Nat) (f : List Int → Int) :
    ((allW u.length (m + 1)).map fun q => pw (rowsD u.length s) u q * f (AF u (rowsD u.length s) q)).sum = ((List.range' 0 u.length).map fun (x : Nat) => max 0 (rd u (x : Int)) * ((allW (u.set x (rd u (x : Int) + s)).length m).map fun q => pw (rowsD (u.set x (rd u (x : Int) + s)).length s) (u.set x (rd u (x : Int) + s)) q * f (AF (u.set x (rd u (x : Int) + s)) (rowsD (u.set x (rd u (x : Int) + s)).length s) q)).sum).sum := by
  rw [← List.range_eq_range', allW_succ, sum_flat]
  refine sum_same _ _ _ fun x hx => ?_
  have hx := List.mem_range.mp hx
  rw [List.map_map, ← sum_scale, List.length_set]
  congr 1
  refine List.map_congr_left fun q _ => ?_
  show pw (rowsD u.length s) u ((x : Int) :: q) * f (AF u (rowsD u.length s) ((x : Int) :: q)) = _
  have e1 : pw (rowsD u.length s) u ((x : Int) :: q) = max 0 (rd u (x : Int)) * pw (rowsD u.length s) (u.set x (rd u (x : Int) + s)) q := by
    rw [pw, Int.toNat_natCast, row_add u s x hx, rd_nat]
  have e2 : AF u (rowsD u.length s) ((x : Int) :: q) = AF (u.set x (rd u (x : Int) + s)) (rowsD u.length s) q := by
    unfold AF
    rw [List.foldl_cons, Int.toNat_natCast, row_add u s x hx]
  rw [e1, e2, Int.mul_assoc]
theorem words_all (s : Int) (hs : -1 ≤ s) (m : Nat) : ∀ u : List Int, (∀ x ∈ u, 0 ≤ x) → ((allW u.length m).map fun q => pw (rowsD u.length s) u q * 1).sum = rise s u.sum m := by
  induction m with
  | zero => intro u _; simp [allW, pw, rise]
  | succ m ih =>
    intro u hu
    have h := word_step u s m (fun _ => 1)
    rw [h, sum_same _ _ (fun (x : Nat) => max 0 (rd u (x : Int)) * rise s (u.sum + s) m) ?_, pick_all u hu _ u.length 0 (by omega), List.drop_zero, rise_succ, Int.max_eq_right (sum_pos u hu)]
    intro x hx
    have hx : x < u.length := by have := List.mem_range'_1.mp hx; omega
    by_cases h0 : rd u (x : Int) = 0
    · rw [h0]
      simp
    · have hp := rd_pos hu x hx
      rw [ih _ (set_pos hu x _ (by omega)), set_sum _ u x hx]
      congr 2
      omega
theorem words_share (s : Int) (hs : -1 ≤ s) (c : Nat) (m : Nat) : ∀ u : List Int, (∀ x ∈ u, 0 ≤ x) → c < u.length → ((allW u.length m).map fun q => pw (rowsD u.length s) u q * rd (AF u (rowsD u.length s) q) (c : Int)).sum = rd u (c : Int) * rise s (u.sum + s) m := by
  induction m with
  | zero => intro u _ _; simp [allW, pw, rise, AF]
  | succ m ih =>
    intro u hu hc
    have h := word_step u s m (fun v => rd v (c : Int))
    rw [h, sum_same _ _ (fun (x : Nat) => max 0 (rd u (x : Int)) * (rd (u.set x (rd u (x : Int) + s)) (c : Int) * rise s (u.sum + s + s) m)) ?_, pick_sum u hu s _ c u.length 0 (by omega), List.drop_zero, if_pos ⟨by omega, hc⟩, share_end u hu s hs c m hc]
    intro x hx
    have hx : x < u.length := by have := List.mem_range'_1.mp hx; omega
    by_cases h0 : rd u (x : Int) = 0
    · rw [h0]
      simp
    · have hp := rd_pos hu x hx
      rw [ih _ (set_pos hu x _ (by omega)) (by simpa using hc), set_sum _ u x hx]
      congr 3
      omega
theorem allW_in (n : Nat) (m : Nat) : ∀ q ∈ allW n m, q.length = m ∧ ∀ x ∈ q, 0 ≤ x ∧ x < (n : Int) := by
  induction m with
  | zero => intro q hq; simp [allW] at hq; simp [hq]
  | succ m ih =>
    intro q hq
    unfold allW at hq
    obtain ⟨x, hx, hq⟩ := List.mem_flatMap.mp hq
    obtain ⟨t, ht, rfl⟩ := List.mem_map.mp hq
    have hx := List.mem_range.mp hx
    obtain ⟨h1, h2⟩ := ih t ht
    refine ⟨by simp [h1], fun y hy => ?_⟩
    rcases List.mem_cons.mp hy with rfl | hy
    · omega
    · exact h2 y hy
theorem pw_pos (R : List (List Int)) (q : List Int) : ∀ u, 0 ≤ pw R u q := by
  induction q with
  | nil => intro u; simp [pw]
  | cons x q ih =>
    intro u
    rw [pw]
    exact Int.mul_nonneg (by omega) (ih _)
theorem AF_pos (s : Int) (hs : -1 ≤ s) (q : List Int) : ∀ u : List Int, (∀ x ∈ u, 0 ≤ x) → (∀ x ∈ q, 0 ≤ x ∧ x < (u.length : Int)) → 0 < pw (rowsD u.length s) u q → ∀ y ∈ AF u (rowsD u.length s) q, 0 ≤ y := by
  induction q with
  | nil => intro u hu _ _ y hy; exact hu y hy
  | cons x q ih =>
    intro u hu hq hw y hy
    have hx := hq x (by simp)
    obtain ⟨i, rfl⟩ := Int.eq_ofNat_of_zero_le hx.1
    have hi : i < u.length := by omega
    have e1 : pw (rowsD u.length s) u ((i : Int) :: q) = max 0 (rd u (i : Int)) * pw (rowsD u.length s) (u.set i (rd u (i : Int) + s)) q := by
      rw [pw, Int.toNat_natCast, row_add u s i hi, rd_nat]
    have e2 : AF u (rowsD u.length s) ((i : Int) :: q) = AF (u.set i (rd u (i : Int) + s)) (rowsD u.length s) q := by
      unfold AF
      rw [List.foldl_cons, Int.toNat_natCast, row_add u s i hi]
    rw [e1] at hw
    rw [e2] at hy
    have h0 : 0 < rd u (i : Int) := by
      refine Decidable.byContradiction fun h => ?_
      rw [Int.max_eq_left (by omega)] at hw
      simp at hw
    have h1 : 0 < pw (rowsD u.length s) (u.set i (rd u (i : Int) + s)) q := by
      have := pw_pos (rowsD u.length s) q (u.set i (rd u (i : Int) + s))
      refine Decidable.byContradiction fun h => ?_
      rw [show pw (rowsD u.length s) (u.set i (rd u (i : Int) + s)) q = 0 by omega] at hw
      simp at hw
    have h2 := ih (u.set i (rd u (i : Int) + s)) (set_pos hu i _ (by omega)) (fun z hz => by rw [List.length_set]; exact hq z (by simp [hz]))
    rw [List.length_set] at h2
    exact h2 h1 y hy

theorem spec_urn_l0 (u : List Int) (hn : u.length ≤ 2000000) (d : Nat) : ∀ (k i : Nat), i + d = u.length → d < k →
    spec_UrnOk.l0 k u (i : Int) = some (decide (UrnTail u (u.drop i))) := by
  induction d with
  | zero =>
    intro k i hi hk
    obtain ⟨k, rfl⟩ : ∃ m, k = m + 1 := ⟨k - 1, by omega⟩
    simp only [spec_UrnOk.l0]
    rw [if_neg (by omega), List.drop_of_length_le (by omega), l1In_ok]
    unfold UrnTail
    simp
  | succ d ih =>
    intro k i hi hk
    obtain ⟨k, rfl⟩ : ∃ m, k = m + 1 := ⟨k - 1, by omega⟩
    simp only [spec_UrnOk.l0]
    rw [if_pos (by omega), if_pos (by omega), l1In_ok, drop_at u i (by omega), nat_step (by omega), ih k (i + 1) (by omega) (by omega)]
    simp only [Option.bind_some, urn_cons]
    by_cases h : 0 ≤ rd u (i : Int) ∧ rd u (i : Int) ≤ 40
    · simp [h]
    · simp [h]
theorem spec_urn (u : List Int) (hn : u.length ≤ 2000000) (k : Nat) (hk : u.length < k) : spec_UrnOk.f k u = some (decide (UrnIn u)) :=
  spec_urn_l0 u hn u.length k 0 (by omega) hk

theorem spec_start_l0 (u : List Int) (hn : u.length ≤ 2000000) (d : Nat) : ∀ (k i : Nat), i + d = u.length → u.length + d + 1 < k →
    spec_StartOk.l0 k u (i : Int) = some (decide (StartTail u (u.drop i))) := by
  induction d with
  | zero =>
    intro k i hi hk
    obtain ⟨k, rfl⟩ : ∃ m, k = m + 1 := ⟨k - 1, by omega⟩
    simp only [spec_StartOk.l0]
    rw [if_neg (by omega), List.drop_of_length_le (by omega), spec_urn u (by omega) k (by omega)]
    simp [StartTail]
  | succ d ih =>
    intro k i hi hk
    obtain ⟨k, rfl⟩ : ∃ m, k = m + 1 := ⟨k - 1, by omega⟩
    simp only [spec_StartOk.l0]
    rw [if_pos (by omega), if_pos (by omega), drop_at u i (by omega), nat_step (by omega), ih k (i + 1) (by omega) (by omega)]
    simp only [start_cons]
    by_cases h : rd u (i : Int) > 10
    · rw [if_pos h, decide_eq_false (by omega)]
    · rw [if_neg h]
      simp [show rd u (i : Int) ≤ 10 by omega]
theorem spec_start (u : List Int) (hn : u.length ≤ 2000000) (k : Nat) (hk : 2 * u.length + 1 < k) : spec_StartOk.f k u = some (decide (StartIn u)) :=
  spec_start_l0 u hn u.length k 0 (by omega) (by omega)

theorem l5_loop (s : Int) (hs : -1 ≤ s) (hs3 : s ≤ 3) (c m : Nat) (hm : m ≤ 5)
    (ih : ∀ (u : List Int) (k : Nat), (∀ x ∈ u, 0 ≤ x) → c < u.length → u.length ≤ 3 → u.sum + 3 * (m : Int) ≤ 48 → 6 * m + 1 ≤ k → spec_l5Shares.f k u s (m : Int) (c : Int) = some (rd u (c : Int) * rise s (u.sum + s) m))
    (u : List Int) (hu : ∀ x ∈ u, 0 ≤ x) (hc : c < u.length) (h3 : u.length ≤ 3) (hb : u.sum + 3 * ((m : Int) + 1) ≤ 48) (d : Nat) : ∀ (k i : Nat) (a : Int), i + d = u.length → 6 * m + d + 2 ≤ k → 0 ≤ a → a ≤ (i : Int) * 2799360000000 →
      spec_l5Shares.l0 k u s ((m + 1 : Nat) : Int) (c : Int) a (i : Int) = some (a + ((List.range' i d).map fun (x : Nat) => max 0 (rd u (x : Int)) * (rd (u.set x (rd u (x : Int) + s)) (c : Int) * rise s (u.sum + s + s) m)).sum) := by
  induction d with
  | zero =>
    intro k i a hi hk _ _
    obtain ⟨k, rfl⟩ : ∃ n, k = n + 1 := ⟨k - 1, by omega⟩
    simp only [spec_l5Shares.l0]
    rw [if_neg (by omega)]
    simp
  | succ d ih2 =>
    intro k i a hi hk a0 ab
    obtain ⟨k, rfl⟩ : ∃ n, k = n + 1 := ⟨k - 1, by omega⟩
    have hp := rd_pos hu i (by omega)
    rw [List.range'_succ, List.map_cons, List.sum_cons]
    simp only [spec_l5Shares.l0]
    rw [if_pos (by omega), if_pos (by omega), nat_step (by omega)]
    by_cases h0 : rd u (i : Int) > 0
    · have hpos := set_pos hu i (rd u (i : Int) + s) (by omega)
      have hsum := set_sum (rd u (i : Int) + s) u i (by omega)
      have e := ih (u.set i (rd u (i : Int) + s)) k hpos (by simpa using hc) (by simpa using h3) (by omega) (by omega)
      rw [hsum, show u.sum - rd u (i : Int) + (rd u (i : Int) + s) = u.sum + s by omega] at e
      rw [if_pos h0]
      simp only [Option.bind_some, List.nil_append, List.length_nil]
      rw [if_pos (by omega), if_pos (by omega), w64 (x := rd u (i : Int) + s) (by omega) (by omega), Int.toNat_natCast, show ((m + 1 : Nat) : Int) - 1 = (m : Int) by omega, w64 (x := (m : Int)) (by omega) (by omega), e]
      simp only [Option.bind_some]
      have hq := rd_pos hpos c (by simpa using hc)
      rw [hsum] at hq
      have hr := rise_in s hs hs3 m (u.sum + s + s) (by omega)
      have h5 : (60 : Int) ^ m ≤ 777600000 := by
        have : ∀ m : Nat, m ≤ 5 → (60 : Int) ^ m ≤ 777600000 := by decide
        exact this m hm
      generalize hK : rise s (u.sum + s + s) m = K at *
      generalize hv : rd (u.set i (rd u (i : Int) + s)) (c : Int) = v at *
      have b1 : v * K ≤ 60 * 777600000 := Int.mul_le_mul (by omega) (by omega) hr.1 (by omega)
      have b0 := Int.mul_nonneg hq.1 hr.1
      have b2 : rd u (i : Int) * (v * K) ≤ 60 * (60 * 777600000) := Int.mul_le_mul (by omega) b1 b0 (by omega)
      have b3 := Int.mul_nonneg hp.1 b0
      rw [w64 (x := rd u (i : Int) * (v * K)) (by omega) (by omega), w64 (x := a + _) (by omega) (by omega), ih2 k (i + 1) _ (by omega) (by omega) (by omega) (by omega), Int.max_eq_right hp.1, Int.add_assoc]
    · rw [if_neg h0, ih2 k (i + 1) _ (by omega) (by omega) (by omega) (by omega), show rd u (i : Int) = 0 by omega]
      simp
theorem l5_ok (s : Int) (hs : -1 ≤ s) (hs3 : s ≤ 3) (c : Nat) (m : Nat) : ∀ (u : List Int) (k : Nat), m ≤ 6 → (∀ x ∈ u, 0 ≤ x) → c < u.length → u.length ≤ 3 → u.sum + 3 * (m : Int) ≤ 48 → 6 * m + 1 ≤ k →
    spec_l5Shares.f k u s (m : Int) (c : Int) = some (rd u (c : Int) * rise s (u.sum + s) m) := by
  induction m with
  | zero =>
    intro u k _ hu hc _ _ hk
    obtain ⟨k, rfl⟩ : ∃ n, k = n + 1 := ⟨k - 1, by omega⟩
    simp only [spec_l5Shares.f]
    rw [if_pos (by omega), if_pos (by omega), if_pos (by omega)]
    simp [rise]
  | succ m ih =>
    intro u k hm hu hc h3 hb hk
    obtain ⟨k, rfl⟩ : ∃ n, k = n + 1 := ⟨k - 1, by omega⟩
    have h := l5_loop s hs hs3 c m (by omega) (fun u k => ih u k (by omega)) u hu hc h3 (by omega) u.length k 0 0 (by omega) (by omega) (by omega) (by omega)
    simp only [spec_l5Shares.f]
    rw [if_neg (by omega)]
    refine h.trans ?_
    rw [pick_sum u hu s _ c u.length 0 (by omega), List.drop_zero, if_pos ⟨by omega, hc⟩, share_end u hu s hs c m hc, Int.zero_add]
/-- The arguments that ShareSum takes. -/
def ShareIn (u : List Int) (s m c : Int) : Prop := StartIn u ∧ (-1 ≤ s ∧ s ≤ 3) ∧ (0 ≤ m ∧ m ≤ 6) ∧ 0 ≤ c ∧ c < (u.length : Int)
instance (u : List Int) (s m c : Int) : Decidable (ShareIn u s m c) := by unfold ShareIn; infer_instance
def shareV (u : List Int) (s m c : Int) : Int := rd u c * rise s (u.sum + s) m.toNat
theorem start_pos {u : List Int} (h : StartIn u) : ∀ x ∈ u, 0 ≤ x := fun x hx => (h.2.1 x hx).1
theorem start_sum {u : List Int} (h : StartIn u) : 0 ≤ u.sum ∧ u.sum ≤ 30 := by
  have hb : ∀ t : List Int, (∀ x ∈ t, 0 ≤ x ∧ x ≤ 10) → 0 ≤ t.sum ∧ t.sum ≤ 10 * (t.length : Int) := by
    intro t
    induction t with
    | nil => simp
    | cons x t ih =>
      intro h
      have h1 := h x (by simp)
      have h2 := ih fun y hy => h y (by simp [hy])
      simp only [List.sum_cons, List.length_cons]
      omega
  have := hb u fun x hx => ⟨(h.2.1 x hx).1, h.1 x hx⟩
  have h3 := h.2.2
  omega
theorem pow6 (m : Nat) (h : m ≤ 6) : (60 : Int) ^ m ≤ 46656000000 := by
  have : ∀ m : Nat, m ≤ 6 → (60 : Int) ^ m ≤ 46656000000 := by decide
  exact this m h
theorem rise_small (s t : Int) (m : Nat) (hs : -1 ≤ s) (hs3 : s ≤ 3) (ht : t ≤ 33) (hm : m ≤ 6) : 0 ≤ rise s t m ∧ rise s t m ≤ 46656000000 := by
  have h := rise_in s hs hs3 m t (by omega)
  have := pow6 m hm
  omega
theorem share_small {u : List Int} {s m c : Int} (h : ShareIn u s m c) : 0 ≤ shareV u s m c ∧ shareV u s m c ≤ 466560000000 := by
  obtain ⟨hu, hs, hm, hc⟩ := h
  obtain ⟨i, rfl⟩ := Int.eq_ofNat_of_zero_le hc.1
  have hi : i < u.length := by omega
  have h1 := rd_in (lo := 0) (hi := 10) (fun x hx => ⟨(hu.2.1 x hx).1, hu.1 x hx⟩) i hi
  have ht := start_sum hu
  have h2 := rise_small s (u.sum + s) m.toNat hs.1 hs.2 (by omega) (by omega)
  refine ⟨Int.mul_nonneg h1.1 h2.1, ?_⟩
  have := Int.mul_le_mul h1.2 h2.2 h2.1 (by omega)
  unfold shareV
  omega
theorem specShare_ok (u : List Int) (s m c : Int) (hn : u.length ≤ 1000) (k : Nat) (hk : 3000 ≤ k) : spec_ShareSum.f k u s m c = some (if ShareIn u s m c then shareV u s m c else -1) := by
  unfold spec_ShareSum.f
  rw [spec_start u (by omega) k (by omega)]
  simp only [l1In_ok, Option.bind_some]
  by_cases hu : StartIn u
  · rw [decide_eq_true hu, if_pos rfl]
    have h3 := hu.2.2
    rw [w64 (x := (u.length : Int) - 1) (by omega) (by omega)]
    by_cases hs : -1 ≤ s ∧ s ≤ 3
    · rw [decide_eq_true hs, if_pos rfl]
      by_cases hm : 0 ≤ m ∧ m ≤ 6
      · rw [decide_eq_true hm, if_pos rfl]
        by_cases hc : 0 ≤ c ∧ c ≤ (u.length : Int) - 1
        · rw [decide_eq_true hc, if_pos rfl, if_pos ⟨hu, hs, hm, by omega⟩]
          obtain ⟨i, rfl⟩ := Int.eq_ofNat_of_zero_le hc.1
          obtain ⟨n, rfl⟩ := Int.eq_ofNat_of_zero_le hm.1
          have ht := start_sum hu
          rw [l5_ok s hs.1 hs.2 i n u k (by omega) (start_pos hu) (by omega) (by omega) (by omega) (by omega)]
          rfl
        · rw [decide_eq_false hc, if_neg (c := ShareIn u s m c) (fun h => hc (by have := h.2.2.2; omega))]
          simp
      · rw [decide_eq_false hm, if_neg (c := ShareIn u s m c) (fun h => hm h.2.2.1)]
        simp
    · rw [decide_eq_false hs, if_neg (c := ShareIn u s m c) (fun h => hs h.2.1)]
      simp
  · rw [decide_eq_false hu, if_neg (c := ShareIn u s m c) (fun h => hu h.1)]
    simp
theorem ball_tell (u : List Int) (s : Int) (m c : Nat) (hu : StartIn u) (hs : -1 ≤ s) (hs3 : s ≤ 3) (hm : m ≤ 6) (hc : c < u.length) (k : Nat) (hk : 60 ≤ k) :
    tellAll (ballF k u (rowsD u.length s) (c : Int)) 0 (allW u.length m) = some (shareV u s (m : Int) (c : Int)) := by
  have h3 := hu.2.2
  have hr := rows_ok u.length s hs hs3
  have hv := share_small (u := u) (s := s) (m := (m : Int)) (c := (c : Int)) ⟨hu, ⟨hs, hs3⟩, by omega, by omega⟩
  have hsum := words_share s hs c m u (start_pos hu) hc
  have hAF : ∀ q ∈ allW u.length m, (AF u (rowsD u.length s) q).length = u.length := by
    intro q hq
    have hw := allW_in u.length m q hq
    exact (AF_small hr.1 q 0 u (urn_small hu.2) (by rw [hr.2]; exact hw.2)).1
  have h0 : ∀ q ∈ allW u.length m, 0 ≤ pw (rowsD u.length s) u q * rd (AF u (rowsD u.length s) q) (c : Int) := by
    intro q hq
    have hw := allW_in u.length m q hq
    have hp := pw_pos (rowsD u.length s) q u
    by_cases hz : pw (rowsD u.length s) u q = 0
    · rw [hz]
      simp
    · have := AF_pos s hs q u (start_pos hu) hw.2 (by omega)
      exact Int.mul_nonneg hp (rd_pos this c (by rw [hAF q hq]; exact hc)).1
  have hV : shareV u s (m : Int) (c : Int) = rd u (c : Int) * rise s (u.sum + s) m := rfl
  rw [hV] at hv ⊢
  rw [tell_sum (ballF k u (rowsD u.length s) (c : Int)) (fun q => pw (rowsD u.length s) u q * rd (AF u (rowsD u.length s) q) (c : Int)) 1000000000000000000 (allW u.length m) h0 ?_ 0 (by omega) (by omega), hsum, Int.zero_add]
  intro q hq a a0 ab
  have hw := allW_in u.length m q hq
  have hp := pw_pos (rowsD u.length s) q u
  have hq0 := h0 q hq
  unfold ballF
  rw [ruleWays_ok u _ q u.length (urn_small hu.2) hr.1 hr.2 (by rw [hr.2]; exact hw.2) (by omega) (by omega) k (by omega)]
  simp only [Option.bind_some]
  by_cases hz : 0 < pw (rowsD u.length s) u q
  · rw [if_pos hz, after_ok u _ q u.length (urn_small hu.2) hr.1 (by rw [hr.2]; exact hw.2) (by omega) (by omega) k (by omega)]
    simp only [Option.bind_some]
    rw [if_pos ⟨by omega, by rw [hAF q hq]; omega⟩, w64 (x := pw _ _ _ * _) (by omega) (by omega), w64 (by omega) (by omega)]
  · rw [if_neg hz, show pw (rowsD u.length s) u q = 0 by omega]
    simp
theorem implShare_ok (u : List Int) (s m c : Int) (hn : u.length ≤ 1000) (k : Nat) (hk : 3000 ≤ k) : impl_ShareSum.f k u s m c = some (if ShareIn u s m c then shareV u s m c else -1) := by
  unfold impl_ShareSum.f
  rw [colours_ok]
  simp only [Option.bind_some]
  by_cases hg : decide (1 ≤ (u.length : Int) ∧ (u.length : Int) ≤ 3) = false ∨ s < -1 ∨ s > 3
  · rw [if_pos hg, if_neg]
    rintro ⟨⟨-, -, h1⟩, h2, -⟩
    rw [decide_eq_true h1] at hg
    rcases hg with h | h | h
    · cases h
    · omega
    · omega
  rw [if_neg hg]
  have h3 : 1 ≤ (u.length : Int) ∧ (u.length : Int) ≤ 3 := Decidable.byContradiction fun h => hg (Or.inl (decide_eq_false h))
  have hs : -1 ≤ s ∧ s ≤ 3 := by
    refine Decidable.byContradiction fun h => hg (Or.inr ?_)
    omega
  have hr := rows_ok u.length s hs.1 hs.2
  rw [same_ok u.length s (by omega) (by omega) hs.1 hs.2 k (by omega)]
  simp only [Option.bind_some]
  rw [if_neg (by intro h; have := hr.2; rw [h] at this; simp at this; omega)]
  unfold impl_BallSum.f
  by_cases hu : StartIn u
  · rw [ruleAsked_ok u s hu hs.1 hs.2 k (by omega)]
    simp only [Option.bind_some, if_true]
    by_cases hm : 0 ≤ m ∧ m ≤ 6
    · rw [if_neg (by omega), if_neg (by omega)]
      by_cases hc : 0 ≤ c ∧ c < (u.length : Int)
      · rw [if_neg (by omega), if_neg (by omega), if_pos (by omega), if_pos ⟨hu, hs, hm, hc⟩]
        obtain ⟨i, rfl⟩ := Int.eq_ofNat_of_zero_le hc.1
        obtain ⟨n, rfl⟩ := Int.eq_ofNat_of_zero_le hm.1
        rw [Int.toNat_natCast]
        exact ball_tell u s n i hu hs.1 hs.2 (by omega) (by omega) k (by omega)
      · rw [if_neg (c := ShareIn u s m c) (fun h => hc h.2.2.2)]
        by_cases h0 : c < 0
        · rw [if_pos h0]
        · rw [if_neg h0, if_pos (by omega)]
    · rw [if_neg (c := ShareIn u s m c) (fun h => hm h.2.2.1)]
      by_cases h0 : m < 0
      · rw [if_pos h0]
      · rw [if_neg h0, if_pos (by omega)]
  · rw [if_neg (c := ShareIn u s m c) (fun h => hu h.1)]
    unfold impl_ruleAsked.f
    rw [impl_start u (by omega) k (by omega), decide_eq_false hu]
    simp
theorem all_ok (u : List Int) (s : Int) (m : Nat) (hu : StartIn u) (hs : -1 ≤ s) (hs3 : s ≤ 3) (hm : m ≤ 6) (k : Nat) (hk : 3000 ≤ k) : impl_RuleAll.f k u (rowsD u.length s) (m : Int) = some (rise s u.sum m) := by
  have h3 := hu.2.2
  have hr := rows_ok u.length s hs hs3
  have ht := start_sum hu
  have hv := rise_small s u.sum m hs hs3 (by omega) hm
  have hsum := words_all s hs m u (start_pos hu)
  unfold impl_RuleAll.f
  rw [ruleAsked_ok u s hu hs hs3 k (by omega)]
  simp only [Option.bind_some, if_true]
  rw [if_neg (by omega), if_neg (by omega), if_pos (by omega), Int.toNat_natCast]
  rw [tell_sum (sumF k u (rowsD u.length s)) (fun q => pw (rowsD u.length s) u q * 1) 1000000000000000000 (allW u.length m) (fun q _ => by have := pw_pos (rowsD u.length s) q u; omega) ?_ 0 (by omega) (by omega), hsum, Int.zero_add]
  intro q hq a a0 ab
  have hw := allW_in u.length m q hq
  have hp := pw_pos (rowsD u.length s) q u
  unfold sumF
  rw [ruleWays_ok u _ q u.length (urn_small hu.2) hr.1 hr.2 (by rw [hr.2]; exact hw.2) (by omega) (by omega) k (by omega)]
  simp only [Option.bind_some]
  rw [w64 (by omega) (by omega), Int.mul_one]
theorem total_ok (u : List Int) (hu : StartIn u) (k : Nat) (hk : 3000 ≤ k) : impl_TotalOf.f k u = some u.sum := by
  have h3 := hu.2.2
  unfold impl_TotalOf.f
  rw [impl_urn u (by omega) k (by omega), decide_eq_true hu.2]
  simp only [Option.bind_some, if_true]
  rw [isum_ok u (by omega) (fun x hx => by have := hu.2.1 x hx; omega) k (by omega)]
  rfl

theorem alive_lift (k : Nat) (h : 20 ≤ k) : laws_alive.f k = some true := lift (k := 20) laws_alive.mono (by kernel_rfl) h

theorem share_draw (l : List Int) (hl : ∀ x ∈ l, (Lit.int .u8 x).wf = true) (k : Nat) (hk : 100 ≤ k) : ∃ u s m c, spec_DrawShareSum.f k l = some (u, s, m, c) ∧ DrawnU u := by
  obtain ⟨k, rfl⟩ : ∃ m, k = m + 1 := ⟨k - 1, by omega⟩
  obtain ⟨l', e0, hlen, hb⟩ := open_ok l hl
  obtain ⟨u, q, e, h, q0, q1⟩ := urn_draw l' 14 0 (by omega) (by omega) (by omega) hb hlen (k + 1) (by omega)
  obtain ⟨r1, e1, -⟩ := pick_ok k l' q 5 hb hlen q0 (by omega)
  obtain ⟨r2, e2, -⟩ := pick_ok k l' (q + 1) 40 hb hlen (by omega) (by omega)
  obtain ⟨r3, e3, -⟩ := pick_ok k l' (q + 1 + 1) 5 hb hlen (by omega) (by omega)
  obtain ⟨r4, e4, -⟩ := pick_ok k l' (q + 1 + 1 + 1) 40 hb hlen (by omega) (by omega)
  obtain ⟨r5, e5, -⟩ := pick_ok k l' (q + 1 + 1 + 1 + 1) (u.length : Int) hb hlen (by omega) (by omega)
  obtain ⟨r6, e6, -⟩ := pick_ok k l' (q + 1 + 1 + 1 + 1 + 1) 40 hb hlen (by omega) (by omega)
  refine ⟨u, wrap64 (wrap64 (r1 - 1) + wrap64 (Int.tdiv r2 39)), wrap64 (r3 + wrap64 (wrap64 (Int.tdiv r4 39) * 2)), wrap64 (r5 + wrap64 (wrap64 (Int.tdiv r6 39) * 3)), ?_, h⟩
  unfold spec_DrawShareSum.f
  simp only [e0, Option.bind_some, e, e1, e2, e3, e4, e5, e6]
theorem mul_in {x y a b : Int} (h0 : 0 ≤ x) (h1 : x ≤ a) (g0 : 0 ≤ y) (g1 : y ≤ b) : 0 ≤ x * y ∧ x * y ≤ a * b :=
  ⟨Int.mul_nonneg h0 g0, Int.mul_le_mul h1 g1 g0 (by omega)⟩
theorem step_in (s : Int) (m : Nat) (hs : -1 ≤ s) (hs3 : s ≤ 3) (hm : m ≤ 6) : -6 ≤ (m : Int) * s ∧ (m : Int) * s ≤ 18 := by
  rcases (by omega : s = -1 ∨ s = 0 ∨ s = 1 ∨ s = 2 ∨ s = 3) with rfl | rfl | rfl | rfl | rfl <;> omega
theorem law_l0 (u : List Int) (s : Int) (m c : Nat) (hu : StartIn u) (hs : -1 ≤ s) (hs3 : s ≤ 3) (hm : m ≤ 6) (hc : c < u.length) (d : Nat) : ∀ (k i : Nat), i + d = u.length → 4000 + d < k →
    laws_FnShareSum.l0 k u s (m : Int) (c : Int) (shareV u s (m : Int) (c : Int)) (rise s u.sum m) u.sum ((u.take i).sum * rise s (u.sum + s) m) (i : Int) = some true := by
  have h3 := hu.2.2
  have ht := start_sum hu
  have hP := rise_small s (u.sum + s) m hs hs3 (by omega) hm
  have hpos := start_pos hu
  have htake : ∀ i, 0 ≤ (u.take i).sum ∧ (u.take i).sum ≤ u.sum := by
    intro i
    have h1 := sum_pos (u.take i) fun x hx => hpos x (List.mem_of_mem_take hx)
    have h2 := sum_pos (u.drop i) fun x hx => hpos x (List.mem_of_mem_drop hx)
    have e : u.sum = (u.take i).sum + (u.drop i).sum := by
      conv => lhs; rw [← List.take_append_drop i u, List.sum_append]
    omega
  induction d with
  | zero =>
    intro k i hi hk
    obtain ⟨k, rfl⟩ : ∃ n, k = n + 1 := ⟨k - 1, by omega⟩
    have hA := rise_small s u.sum m hs hs3 (by omega) hm
    have hlaw := rise_share s hs m u.sum ht.1
    have hst := step_in s m hs hs3 hm
    have hV := share_small (u := u) (s := s) (m := (m : Int)) (c := (c : Int)) ⟨hu, ⟨hs, hs3⟩, by omega, by omega⟩
    have hVe : shareV u s (m : Int) (c : Int) = rd u (c : Int) * rise s (u.sum + s) m := rfl
    have hr := rd_pos hpos c hc
    rw [List.take_of_length_le (by omega)]
    simp only [laws_FnShareSum.l0]
    rw [if_neg (by omega), if_pos (by omega), if_pos (by omega)]
    generalize hMS : (m : Int) * s = M at *
    generalize hT : u.sum = t at *
    generalize hPe : rise s (t + s) m = P at *
    generalize hAe : rise s t m = A at *
    generalize hVV : shareV u s (m : Int) (c : Int) = V at *
    generalize hx : rd u (c : Int) = x at *
    have b1 := mul_in hV.1 hV.2 ht.1 ht.2
    have b2 := mul_in ht.1 ht.2 hP.1 hP.2
    have b3 : -180 ≤ x * (t + M) ∧ x * (t + M) ≤ 30 * 48 := by
      have g1 : x * (t + M) ≤ x * 48 := Int.mul_le_mul_of_nonneg_left (by omega) hr.1
      have g2 : x * (-6) ≤ x * (t + M) := Int.mul_le_mul_of_nonneg_left (by omega) hr.1
      omega
    have e1 : V * t = x * (t + M) * A := by
      rw [hVe]
      have : x * P * t = x * (t * P) := by grind
      rw [this, hlaw, Int.mul_assoc]
    rw [w64 (x := M) (by omega) (by omega), w64 (x := t + M) (by omega) (by omega), w64 (x := V * t) (by omega) (by omega), w64 (x := x * (t + M)) (by omega) (by omega), ← e1, w64 (x := V * t) (by omega) (by omega), if_pos rfl, ← hlaw, w64 (x := t * P) (by omega) (by omega)]
    simp
  | succ d ih =>
    intro k i hi hk
    obtain ⟨k, rfl⟩ : ∃ n, k = n + 1 := ⟨k - 1, by omega⟩
    have hin : ShareIn u s (m : Int) (i : Int) := ⟨hu, ⟨hs, hs3⟩, by omega, by omega⟩
    have hV := share_small hin
    have hVe : shareV u s (m : Int) (i : Int) = rd u (i : Int) * rise s (u.sum + s) m := rfl
    have b := mul_in (htake i).1 (show _ ≤ (30 : Int) by have := htake i; omega) hP.1 hP.2
    have e := ih k (i + 1) (by omega) (by omega)
    rw [take_at u i (by omega), List.sum_append] at e
    simp only [List.sum_cons, List.sum_nil, Int.add_zero] at e
    rw [Int.add_mul, ← hVe] at e
    rw [laws_FnShareSum.l0, if_pos (by omega), implShare_ok u s (m : Int) (i : Int) (by omega) k (by omega), if_pos hin]
    simp only [Option.bind_some]
    rw [nat_step (by omega), w64 (by omega) (by omega)]
    exact e
theorem law_at (l : List Int) (hl : ∀ x ∈ l, (Lit.int .u8 x).wf = true) (K : Nat) (hK : 6000 ≤ K) : laws_FnShareSum.f K l = some true := by
  obtain ⟨u, s, m, c, e, h⟩ := share_draw l hl K (by omega)
  have hn := drawn_len h
  unfold laws_FnShareSum.f
  by_cases hlen : (l.length : Int) > 1048576
  · rw [if_pos hlen]
  · rw [if_neg hlen, e]
    simp only [Option.bind_some]
    rw [implShare_ok u s m c (by omega) K (by omega), specShare_ok u s m c (by omega) K (by omega)]
    simp only [Option.bind_some, if_true]
    by_cases hv : ShareIn u s m c
    · have hV := share_small hv
      have hv' := hv
      obtain ⟨hu, hs, hm, hc⟩ := hv
      rw [if_pos hv', if_neg (by omega)]
      obtain ⟨i, rfl⟩ := Int.eq_ofNat_of_zero_le hc.1
      obtain ⟨n, rfl⟩ := Int.eq_ofNat_of_zero_le hm.1
      have h3 := hu.2.2
      rw [same_ok u.length s (by omega) (by omega) hs.1 hs.2 K (by omega)]
      simp only [Option.bind_some]
      rw [all_ok u s n hu hs.1 hs.2 (by omega) K (by omega)]
      simp only [Option.bind_some]
      rw [total_ok u hu K (by omega)]
      simp only [Option.bind_some]
      have := law_l0 u s n i hu hs.1 hs.2 (by omega) (by omega) u.length K 0 (by omega) (by omega)
      rw [List.take_zero, List.sum_nil, Int.zero_mul] at this
      exact this
    · rw [if_neg hv, if_pos (by omega), if_pos rfl, alive_lift K (by omega)]
      rfl
theorem FnShareSum : laws_FnShareSum.Pure := fun l _ _ hl => ⟨6000, law_at l hl 6000 (by omega)⟩

end Go.Proofs.Ythpjeinjldfmjaa.Pure
