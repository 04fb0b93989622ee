/- The law FnWordWays: it holds at every code. -/
import Derived.Test.YthpjeinjldfmjaaQFnWordWaysx6
namespace Go.Proofs.Ythpjeinjldfmjaa.Pure
open Go.RowKit Go.Proofs.Ythpjeinjldfmjaa.QFnWordWays Go.Proofs.YthpjeinjldfmjaaW.PrintWords Go.Proofs.YthpjeinjldfmjaaW.PrintLast
theorem w64 {x : Int} (h0 : -9223372036854775808 ≤ x) (h1 : x ≤ 9223372036854775807) : wrap64 x = x := by
  unfold wrap64
  omega
theorem fits {x : Int} (h : (Lit.int .i64 x).wf = true) : -9223372036854775808 ≤ x ∧ x ≤ 9223372036854775807 := by
  simp only [Lit.wf, Bool.and_eq_true, decide_eq_true_eq] at h
  exact h
theorem fits8 {x : Int} (h : (Lit.int .u8 x).wf = true) : 0 ≤ x ∧ x ≤ 255 := by
  simp only [Lit.wf, Bool.and_eq_true, decide_eq_true_eq] at h
  exact h

theorem xor_pos (a b : Int) (ha : 0 ≤ a) (ha1 : a < 1000000000) (hb : 0 ≤ b) (hb1 : b < 1000000000) : 0 ≤ Go.bits .xor .i64 a b := by
  obtain ⟨m, rfl⟩ := Int.eq_ofNat_of_zero_le ha
  obtain ⟨n, rfl⟩ := Int.eq_ofNat_of_zero_le hb
  have hm : m < 2 ^ 30 := by omega
  have hn : n < 2 ^ 30 := by omega
  have hx : m ^^^ n < 2 ^ 30 := Nat.xor_lt_two_pow hm hn
  have e1 : m % 2 ^ 64 = m := Nat.mod_eq_of_lt (by omega)
  have e2 : n % 2 ^ 64 = n := Nat.mod_eq_of_lt (by omega)
  have e : (BitVec.ofNat 64 m ^^^ BitVec.ofNat 64 n).toNat = m ^^^ n := by
    rw [BitVec.toNat_xor, BitVec.toNat_ofNat, BitVec.toNat_ofNat, e1, e2]
  show 0 ≤ IntKind.i64.wrap (((BitVec.ofNat 64 m ^^^ BitVec.ofNat 64 n).toNat : Nat) : Int)
  rw [e, IntKind.wrap_i64]
  omega
theorem rd_u8 {l : List Int} (h : ∀ x ∈ l, 0 ≤ x ∧ x ≤ 255) (i : Int) : 0 ≤ rd l i ∧ rd l i ≤ 255 := by
  unfold rd
  rw [List.getD_eq_getElem?_getD]
  cases e : l[i.toNat]? with
  | none => simp
  | some x => exact h x (List.mem_of_getElem? e)
theorem tmod_in {x n : Int} (hx : 0 ≤ x) (hn : 1 ≤ n) : 0 ≤ Int.tmod x n ∧ Int.tmod x n < n := by
  rw [Int.tmod_eq_emod_of_nonneg hx]
  exact ⟨Int.emod_nonneg _ (by omega), Int.emod_lt_of_pos _ (by omega)⟩
theorem tdiv_in {x n : Int} (hx : 0 ≤ x) (hn : 1 ≤ n) : 0 ≤ Int.tdiv x n ∧ Int.tdiv x n ≤ x := by
  rw [Int.tdiv_eq_ediv_of_nonneg hx]
  exact ⟨Int.ediv_nonneg hx (by omega), Int.ediv_le_self _ hx⟩
/-- What a reader picks: a number below n, and one place further. -/
theorem pick_ok (k : Nat) (l : List Int) (p n : Int) (hl : ∀ x ∈ l, 0 ≤ x ∧ x ≤ 255) (hlen : l.length ≤ 2000) (hp : 0 ≤ p) (hp1 : p ≤ 1000000) :
    ∃ r, spec_l20Rd_pick.f (k + 1) l p n = some (r, p + 1) ∧ 0 ≤ r ∧ (n < 1 → r = 0) ∧ (1 ≤ n → r < n) := by
  unfold spec_l20Rd_pick.f
  have wp : wrap64 (p + 1) = p + 1 := w64 (by omega) (by omega)
  by_cases hn : n < 1
  · rw [if_pos hn]
    exact ⟨0, by simp [spec_l20Rd_pick.j0, wp], by omega, fun _ => rfl, fun h => by omega⟩
  · rw [if_neg hn]
    by_cases h0 : (l.length : Int) = 0
    · exact ⟨0, by simp [spec_l20Rd_pick.j0, wp, h0], by omega, fun _ => rfl, fun h => by omega⟩
    · have hb : ((l.length : Int) == 0) = false := by simpa using h0
      rw [hb, wp]
      have wq : wrap64 (p + 1 - 1) = p := by rw [w64 (by omega) (by omega)]; omega
      by_cases hlt : p < (l.length : Int)
      · obtain ⟨r0, r1⟩ := rd_u8 hl p
        have wr : wrap64 (rd l p) = rd l p := w64 (by omega) (by omega)
        have t := tmod_in r0 (show 1 ≤ n by omega)
        refine ⟨Int.tmod (rd l p) n, ?_, t.1, fun h => absurd h hn, fun _ => t.2⟩
        simp only [spec_l20Rd_pick.j0]
        rw [if_neg (by simp), wq, if_pos hlt, if_pos hp, if_neg (by omega), wr]
      · have hL : 1 ≤ (l.length : Int) := by omega
        have t1 := tmod_in hp hL
        have w7 : wrap64 (p * 7) = p * 7 := w64 (by omega) (by omega)
        have w73 : wrap64 (p * 7 + 3) = p * 7 + 3 := w64 (by omega) (by omega)
        have t2 := tmod_in (show 0 ≤ p * 7 + 3 by omega) hL
        obtain ⟨a0, a1⟩ := rd_u8 hl (Int.tmod p (l.length : Int))
        obtain ⟨b0, b1⟩ := rd_u8 hl (Int.tmod (p * 7 + 3) (l.length : Int))
        obtain ⟨q0, q1⟩ := tdiv_in hp hL
        have wa : wrap64 (rd l (Int.tmod p (l.length : Int))) = rd l (Int.tmod p (l.length : Int)) := w64 (by omega) (by omega)
        have wb : wrap64 (rd l (Int.tmod (p * 7 + 3) (l.length : Int))) = rd l (Int.tmod (p * 7 + 3) (l.length : Int)) := w64 (by omega) (by omega)
        have wc : wrap64 (Int.tdiv p (l.length : Int)) = Int.tdiv p (l.length : Int) := w64 (by omega) (by omega)
        generalize hA : rd l (Int.tmod p (l.length : Int)) = A at *
        generalize hB : rd l (Int.tmod (p * 7 + 3) (l.length : Int)) = B at *
        generalize hQ : Int.tdiv p (l.length : Int) = Q at *
        have e : wrap64 (wrap64 (wrap64 (wrap64 (wrap64 A * 131) + wrap64 (wrap64 B * 1117)) + wrap64 (p * 29)) + wrap64 (wrap64 Q * 53)) = A * 131 + B * 1117 + p * 29 + Q * 53 := by
          rw [wa, wb, wc, w64 (x := A * 131) (by omega) (by omega), w64 (x := B * 1117) (by omega) (by omega), w64 (x := p * 29) (by omega) (by omega), w64 (x := Q * 53) (by omega) (by omega),
            w64 (x := A * 131 + B * 1117) (by omega) (by omega), w64 (x := A * 131 + B * 1117 + p * 29) (by omega) (by omega), w64 (by omega) (by omega)]
        obtain ⟨d0, d1⟩ := tdiv_in (show 0 ≤ A * 131 + B * 1117 + p * 29 + Q * 53 by omega) (show (1 : Int) ≤ 64 by omega)
        have wd : wrap64 (Int.tdiv (A * 131 + B * 1117 + p * 29 + Q * 53) 64) = Int.tdiv (A * 131 + B * 1117 + p * 29 + Q * 53) 64 := w64 (by omega) (by omega)
        have hx := xor_pos (A * 131 + B * 1117 + p * 29 + Q * 53) (Int.tdiv (A * 131 + B * 1117 + p * 29 + Q * 53) 64) (by omega) (by omega) d0 (by omega)
        have t := tmod_in hx (show 1 ≤ n by omega)
        refine ⟨_, ?_, t.1, fun h => absurd h hn, fun _ => t.2⟩
        simp only [spec_l20Rd_pick.j0]
        rw [if_neg (by simp), wq, if_neg hlt, if_neg h0, if_pos t1.1, if_pos t1.2, w7, w73, if_pos t2.1, if_pos t2.2, if_neg (by omega), hA, hB, hQ, e, wd]
/-- What is read of a code. -/
theorem open_ok (l : List Int) (hl : ∀ x ∈ l, (Lit.int .u8 x).wf = true) : ∃ l', spec_l20Open.f l = some (l', 0) ∧ l'.length ≤ 2000 ∧ ∀ x ∈ l', 0 ≤ x ∧ x ≤ 255 := by
  unfold spec_l20Open.f
  by_cases h : (l.length : Int) > 2000
  · rw [if_pos h, if_pos (by omega)]
    exact ⟨_, rfl, by simp [List.length_take]; omega, fun x hx => fits8 (hl x (List.mem_of_mem_take hx))⟩
  · rw [if_neg h]
    exact ⟨_, rfl, by omega, fun x hx => fits8 (hl x hx)⟩

theorem nat_step {i : Nat} (h : i < 1000000000000) : wrap64 ((i : Int) + 1) = ((i + 1 : Nat) : Int) := by
  rw [w64 (by omega) (by omega)]
  omega
theorem rd_nat (l : List Int) (i : Nat) : rd l (i : Int) = l.getD i 0 := by
  unfold rd
  rw [Int.toNat_natCast]
theorem rd_get (l : List Int) (i : Nat) (h : i < l.length) : rd l (i : Int) = l[i] := by
  rw [rd_nat]
  simp [List.getD_eq_getElem?_getD, List.getElem?_eq_getElem h]
theorem drop_at (l : List Int) (i : Nat) (h : i < l.length) : l.drop i = rd l (i : Int) :: l.drop (i + 1) := by
  rw [List.drop_eq_getElem_cons h, rd_get l i h]
theorem take_at (l : List Int) (i : Nat) (h : i < l.length) : l.take (i + 1) = l.take i ++ [rd l (i : Int)] := by
  rw [List.take_succ_eq_append_getElem h, rd_get l i h]
theorem beq_dec (x y : Int) : (x == y) = decide (x = y) := rfl
theorem l1In_ok (x lo hi : Int) : spec_l1In.f x lo hi = some (decide (lo ≤ x ∧ x ≤ hi)) := by
  unfold spec_l1In.f
  by_cases h : x ≥ lo
  · simp [h]
  · simp [h]

/-- The urns that a code may draw. -/
def DrawnU (u : List Int) : Prop := u = [] ∨ u = [1, 1, 1, 1] ∨ ∃ a t, u = a :: t ∧ t.length ≤ 2 ∧ (a = -1 ∨ a = 41 ∨ (0 ≤ a ∧ a < 6)) ∧ ∀ x ∈ t, 0 ≤ x ∧ x < 6
theorem urn_l0 (l : List Int) (odd : Int) (ho : 1 ≤ odd) (hl : ∀ x ∈ l, 0 ≤ x ∧ x ≤ 255) (hlen : l.length ≤ 2000) (n : Nat) (h1 : 1 ≤ n) (h3 : n ≤ 3) (d : Nat) :
    ∀ (k : Nat) (acc : List Int) (p : Int), acc.length + d = n → d + 1 < k → 0 ≤ p → p + (d : Int) ≤ 500000 → (∀ x ∈ acc, 0 ≤ x ∧ x < 6) →
      ∃ u q, spec_l20Urn.l0 k odd acc (d : Int) l p = some (u, q) ∧ DrawnU u ∧ 0 ≤ q ∧ q ≤ p + (d : Int) + 3 := by
  induction d with
  | zero =>
    intro k acc p hd hk p0 p1 hx
    obtain ⟨k, rfl⟩ : ∃ n, k = n + 2 := ⟨k - 2, by omega⟩
    obtain ⟨r1, e1, a1, -, b1⟩ := pick_ok k l p odd hl hlen p0 (by omega)
    obtain ⟨r2, e2, a2, -, b2⟩ := pick_ok k l (p + 1) 3 hl hlen (by omega) (by omega)
    have b2 := b2 (by omega)
    obtain ⟨r3, e3, a3, -, b3⟩ := pick_ok k l (p + 1 + 1) 2 hl hlen (by omega) (by omega)
    have b3 := b3 (by omega)
    obtain ⟨a, t, rfl⟩ : ∃ a t, acc = a :: t := by
      match acc, hd with
      | [], h => simp at h; omega
      | a :: t, _ => exact ⟨a, t, rfl⟩
    have ha := hx a (by simp)
    have ht : ∀ x ∈ t, 0 ≤ x ∧ x < 6 := fun x h => hx x (by simp [h])
    simp only [List.length_cons] at hd
    simp only [spec_l20Urn.l0]
    rw [if_neg (by omega)]
    unfold spec_l20Rd_odd.f
    rw [if_pos (by omega), e1]
    simp only [Option.bind_some]
    by_cases c1 : (r1 == wrap64 (odd - 1)) = true
    · rw [if_pos c1, e2]
      simp only [Option.bind_some]
      by_cases c2 : r2 = 0
      · rw [if_pos c2]
        exact ⟨_, _, rfl, Or.inl rfl, by omega, by omega⟩
      rw [if_neg c2]
      by_cases c3 : r2 = 1
      · rw [if_pos c3, e3]
        simp only [Option.bind_some]
        rw [if_pos a3, if_pos (by simp only [List.length_cons, List.length_nil]; omega), if_pos (by simp only [List.length_cons]; omega)]
        refine ⟨_, _, rfl, Or.inr (Or.inr ⟨rd [-1, 41] r3, t, rfl, by omega, ?_, ht⟩), by omega, by omega⟩
        rcases (by omega : r3 = 0 ∨ r3 = 1) with rfl | rfl
        · exact Or.inl rfl
        · exact Or.inr (Or.inl rfl)
      · rw [if_neg c3]
        exact ⟨_, _, rfl, Or.inr (Or.inl rfl), by omega, by omega⟩
    · rw [if_neg c1]
      exact ⟨_, _, rfl, Or.inr (Or.inr ⟨a, t, rfl, by omega, Or.inr (Or.inr ha), ht⟩), by omega, by omega⟩
  | succ d ih =>
    intro k acc p hd hk p0 p1 hx
    obtain ⟨k, rfl⟩ : ∃ n, k = n + 2 := ⟨k - 2, by omega⟩
    obtain ⟨r1, e1, a1, -, b1⟩ := pick_ok k l p 6 hl hlen p0 (by omega)
    have b1 := b1 (by omega)
    obtain ⟨u, q, e, h, q0, q1⟩ := ih (k + 1) (acc ++ [r1]) (p + 1) (by simp; omega) (by omega) (by omega) (by omega) (by
      intro x hx'
      rcases List.mem_append.mp hx' with h | h
      · exact hx x h
      · have := List.mem_singleton.mp h
        omega)
    refine ⟨u, q, ?_, h, q0, by omega⟩
    rw [spec_l20Urn.l0, if_pos (by omega), e1]
    simp only [Option.bind_some]
    rw [if_pos (by omega), w64 (by omega) (by omega), show ((d + 1 : Nat) : Int) - 1 = (d : Int) by omega]
    exact e
theorem urn_draw (l : List Int) (odd p : Int) (ho : 1 ≤ odd) (p0 : 0 ≤ p) (p1 : p ≤ 100000) (hl : ∀ x ∈ l, 0 ≤ x ∧ x ≤ 255) (hlen : l.length ≤ 2000) (k : Nat) (hk : 10 ≤ k) :
    ∃ u q, spec_l20Urn.f k l p odd = some (u, q) ∧ DrawnU u ∧ 0 ≤ q ∧ q ≤ p + 7 := by
  obtain ⟨k, rfl⟩ : ∃ m, k = m + 1 := ⟨k - 1, by omega⟩
  obtain ⟨r1, e1, a1, -, b1⟩ := pick_ok k l p 3 hl hlen p0 (by omega)
  have b1 := b1 (by omega)
  obtain ⟨u, q, e, h, q0, q1⟩ := urn_l0 l odd ho hl hlen (1 + r1.toNat) (by omega) (by omega) (1 + r1.toNat) (k + 1) [] (p + 1) (by simp) (by omega) (by omega) (by omega) (by simp)
  refine ⟨u, q, ?_, h, q0, by omega⟩
  unfold spec_l20Urn.f
  rw [e1]
  simp only [Option.bind_some]
  rw [w64 (by omega) (by omega), show 1 + r1 = ((1 + r1.toNat : Nat) : Int) by omega]
  exact e
def smalls : List Int := [0, 1, 2, 3, 4, 5]
def heads : List Int := [-1, 41, 0, 1, 2, 3, 4, 5]
def drawnUs : List (List Int) := [] :: [1, 1, 1, 1] :: heads.flatMap fun a => [a] :: smalls.flatMap fun b => [a, b] :: smalls.map fun c => [a, b, c]
theorem mem_smalls {x : Int} (h : 0 ≤ x ∧ x < 6) : x ∈ smalls := by
  rcases (by omega : x = 0 ∨ x = 1 ∨ x = 2 ∨ x = 3 ∨ x = 4 ∨ x = 5) with rfl | rfl | rfl | rfl | rfl | rfl <;> simp [smalls]
theorem drawn_mem {u : List Int} (h : DrawnU u) : u ∈ drawnUs := by
  rcases h with rfl | rfl | ⟨a, t, rfl, hl, ha, ht⟩
  · simp [drawnUs]
  · simp [drawnUs]
  · have ha' : a ∈ heads := by
      rcases ha with rfl | rfl | ha
      · simp [heads]
      · simp [heads]
      · have := mem_smalls ha
        simp [smalls] at this
        simp [heads, this]
    refine List.mem_cons_of_mem _ (List.mem_cons_of_mem _ (List.mem_flatMap.mpr ⟨a, ha', ?_⟩))
    match t, hl with
    | [], _ => simp
    | [b], _ => exact List.mem_cons_of_mem _ (List.mem_flatMap.mpr ⟨b, mem_smalls (ht b (by simp)), by simp⟩)
    | [b, c], _ =>
      refine List.mem_cons_of_mem _ (List.mem_flatMap.mpr ⟨b, mem_smalls (ht b (by simp)), ?_⟩)
      simp [mem_smalls (ht c (by simp))]
    | _ :: _ :: _ :: _, h => simp at h

/-- What draws make of an urn. -/
def AF (u : List Int) (R : List (List Int)) (w : List Int) : List Int := w.foldl (fun v c => List.zipWith (· + ·) v (R.getD c.toNat [])) u
/-- The ways of a word: the balls of its colours in the urns of then. -/
def pw (R : List (List Int)) : List Int → List Int → Int
  | _, [] => 1
  | u, c :: w => max 0 (u.getD c.toNat 0) * pw R (List.zipWith (· + ·) u (R.getD c.toNat [])) w
/-- An urn within bounds. -/
def Small (n m : Nat) (u : List Int) : Prop := u.length = n ∧ ∀ x ∈ u, -100 - (m : Int) ≤ x ∧ x ≤ 100 + 10 * (m : Int)
def Rows (n : Nat) (R : List (List Int)) : Prop := ∀ r ∈ R, r.length = n ∧ ∀ x ∈ r, -1 ≤ x ∧ x ≤ 10
theorem getD_in {n : Nat} {R : List (List Int)} (h : Rows n R) (c : Nat) (hc : c < R.length) : (R.getD c []).length = n ∧ ∀ x ∈ R.getD c [], -1 ≤ x ∧ x ≤ 10 := by
  rw [List.getD_eq_getElem?_getD, List.getElem?_eq_getElem hc]
  exact h _ (List.getElem_mem hc)
theorem rd_in {u : List Int} {lo hi : Int} (h : ∀ x ∈ u, lo ≤ x ∧ x ≤ hi) (i : Nat) (hi' : i < u.length) : lo ≤ rd u (i : Int) ∧ rd u (i : Int) ≤ hi := by
  rw [rd_get u i hi']
  exact h _ (List.getElem_mem hi')
theorem small_add {n m : Nat} {u r : List Int} (h : Small n m u) (hr : r.length = n) (hx : ∀ x ∈ r, -1 ≤ x ∧ x ≤ 10) : Small n (m + 1) (List.zipWith (· + ·) u r) := by
  refine ⟨by simp [h.1, hr], fun x hx' => ?_⟩
  obtain ⟨i, hi, rfl⟩ := List.mem_iff_getElem.mp hx'
  simp only [List.length_zipWith] at hi
  rw [List.getElem_zipWith]
  have h1 := h.2 _ (List.getElem_mem (show i < u.length by omega))
  have h2 := hx _ (List.getElem_mem (show i < r.length by omega))
  omega
theorem added_l0 (u r : List Int) (n m : Nat) (hu : Small n m u) (hm : m ≤ 1000) (hr : r.length = n) (hx : ∀ x ∈ r, -1 ≤ x ∧ x ≤ 10) (hn : n ≤ 1000) (d : Nat) : ∀ (k i : Nat), i + d = n → d < k →
    impl_added.l0 k ((List.zipWith (· + ·) u r).take i ++ u.drop i) r (r.length : Int) (i : Int) = some (List.zipWith (· + ·) u r) := by
  have hul := hu.1
  have hz : (List.zipWith (· + ·) u r).length = n := by simp [hul, hr]
  induction d with
  | zero =>
    intro k i hi hk
    obtain ⟨k, rfl⟩ : ∃ m, k = m + 1 := ⟨k - 1, by omega⟩
    simp only [impl_added.l0]
    rw [if_neg (by omega), List.take_of_length_le (by omega), List.drop_of_length_le (by omega)]
    simp
  | succ d ih =>
    intro k i hi hk
    obtain ⟨k, rfl⟩ : ∃ m, k = m + 1 := ⟨k - 1, by omega⟩
    have hl : ((List.zipWith (· + ·) u r).take i ++ u.drop i).length = n := by simp [hul, hr]; omega
    have hd : u.drop i = rd u (i : Int) :: u.drop (i + 1) := drop_at u i (by omega)
    have ht : ((List.zipWith (· + ·) u r).take i).length = i := by simp [hul, hr]; omega
    have e1 : rd ((List.zipWith (· + ·) u r).take i ++ u.drop i) (i : Int) = rd u (i : Int) := by
      rw [rd_nat, hd, List.getD_eq_getElem?_getD, List.getElem?_append_right (by omega), ht]
      simp
    have b1 := rd_in hu.2 i (by omega)
    have b2 := rd_in hx i (by omega)
    simp only [impl_added.l0]
    rw [if_pos (by omega), if_pos (by omega), if_pos (by omega), if_pos (by omega), e1, w64 (by omega) (by omega), nat_step (by omega), Int.toNat_natCast]
    have e2 : ((List.zipWith (· + ·) u r).take i ++ u.drop i).set i (rd u (i : Int) + rd r (i : Int)) = (List.zipWith (· + ·) u r).take (i + 1) ++ u.drop (i + 1) := by
      rw [hd, List.set_append_right _ _ (by omega), ht, Nat.sub_self, List.set_cons_zero, List.take_succ_eq_append_getElem (by omega), List.getElem_zipWith, rd_get u i (by omega), rd_get r i (by omega)]
      simp
    rw [e2]
    exact ih k (i + 1) (by omega) (by omega)
theorem clone_ok (u : List Int) (hn : u.length ≤ 1000000) : slices_Clone_int_int.f u = some u := by
  unfold slices_Clone_int_int.f
  rw [if_pos (by omega)]
theorem added_ok (u r : List Int) (n m : Nat) (hu : Small n m u) (hm : m ≤ 1000) (hr : r.length = n) (hx : ∀ x ∈ r, -1 ≤ x ∧ x ≤ 10) (hn : n ≤ 1000) (k : Nat) (hk : n < k) :
    impl_added.f k u r = some (List.zipWith (· + ·) u r) := by
  unfold impl_added.f
  rw [clone_ok u (by have := hu.1; omega)]
  exact added_l0 u r n m hu hm hr hx hn n k 0 (by omega) hk
theorem AF_snoc (u : List Int) (R : List (List Int)) (w : List Int) (c : Int) : AF u R (w ++ [c]) = List.zipWith (· + ·) (AF u R w) (R.getD c.toNat []) := by
  simp [AF, List.foldl_append]
theorem AF_small {n : Nat} {R : List (List Int)} (hR : Rows n R) (w : List Int) : ∀ (m : Nat) (u : List Int), Small n m u → (∀ c ∈ w, 0 ≤ c ∧ c < (R.length : Int)) → Small n (m + w.length) (AF u R w) := by
  induction w with
  | nil => intro m u hu _; exact hu
  | cons c w ih =>
    intro m u hu hw
    have hc := hw c (by simp)
    have hr := getD_in hR c.toNat (by omega)
    have := ih (m + 1) _ (small_add hu hr.1 hr.2) (fun x hx => hw x (by simp [hx]))
    rw [List.length_cons, show m + (w.length + 1) = m + 1 + w.length by omega]
    exact this
theorem rd_L (R : List (List Int)) (c : Int) : rd_L1 R c = R.getD c.toNat [] := rfl
theorem after_l0 (u : List Int) (R : List (List Int)) (w : List Int) (n : Nat) (hu : Small n 0 u) (hR : Rows n R) (hw : ∀ c ∈ w, 0 ≤ c ∧ c < (R.length : Int)) (hn : n ≤ 100) (hwl : w.length ≤ 100) (d : Nat) : ∀ (k i : Nat), i + d = w.length → d + n + 2 < k →
    impl_after.l0 k R (AF u R (w.take i)) w (w.length : Int) (i : Int) = some (AF u R w) := by
  induction d with
  | zero =>
    intro k i hi hk
    obtain ⟨k, rfl⟩ : ∃ m, k = m + 1 := ⟨k - 1, by omega⟩
    simp only [impl_after.l0]
    rw [if_neg (by omega), List.take_of_length_le (by omega)]
  | succ d ih =>
    intro k i hi hk
    obtain ⟨k, rfl⟩ : ∃ m, k = m + 1 := ⟨k - 1, by omega⟩
    have hc : 0 ≤ rd w (i : Int) ∧ rd w (i : Int) < (R.length : Int) := by
      rw [rd_get w i (by omega)]
      exact hw _ (List.getElem_mem (by omega))
    have hr := getD_in hR (rd w (i : Int)).toNat (by omega)
    have hs := AF_small hR (w.take i) 0 u hu (fun c hc => hw c (List.mem_of_mem_take hc))
    simp only [impl_after.l0]
    rw [if_pos (by omega), if_pos (by omega), if_pos (by omega), if_pos hc.1, if_pos hc.2, rd_L, added_ok _ _ n _ hs (by simp; omega) hr.1 hr.2 (by omega) k (by omega)]
    simp only [Option.bind_some]
    rw [← AF_snoc, ← take_at w i (by omega), nat_step (by omega)]
    exact ih k (i + 1) (by omega) (by omega)
theorem after_ok (u : List Int) (R : List (List Int)) (w : List Int) (n : Nat) (hu : Small n 0 u) (hR : Rows n R) (hw : ∀ c ∈ w, 0 ≤ c ∧ c < (R.length : Int)) (hn : n ≤ 100) (hwl : w.length ≤ 100) (k : Nat) (hk : w.length + n + 2 < k) :
    impl_after.f k u R w = some (AF u R w) := by
  unfold impl_after.f
  rw [clone_ok u (by have := hu.1; omega)]
  exact after_l0 u R w n hu hR hw hn hwl w.length k 0 (by omega) hk
theorem mx_max (x : Int) : mx 0 x = max 0 x := by
  unfold mx
  split <;> omega
theorem pow_bound (n v P : Int) (h0 : 0 ≤ v) (h1 : v ≤ 200) (hn : 0 ≤ n) (hP : 1 ≤ P) (h : n * (200 * P) ≤ 12800000000000000) : n * v * P ≤ 12800000000000000 ∧ n * v ≤ 12800000000000000 ∧ 0 ≤ n * v := by
  have a1 : n * v ≤ n * 200 := Int.mul_le_mul_of_nonneg_left h1 hn
  have a2 : n * v * P ≤ n * 200 * P := Int.mul_le_mul_of_nonneg_right a1 (by omega)
  have a3 : 0 ≤ n * v := Int.mul_nonneg hn h0
  have a4 : n * v * 1 ≤ n * v * P := Int.mul_le_mul_of_nonneg_left hP a3
  rw [Int.mul_assoc n 200 P] at a2
  omega
theorem pw_l0 (u : List Int) (R : List (List Int)) (w : List Int) (n : Nat) (hu : Small n 0 u) (hR : Rows n R) (hRn : R.length = n) (hw : ∀ c ∈ w, 0 ≤ c ∧ c < (R.length : Int)) (hn : n ≤ 10) (hwl : w.length ≤ 7) (d : Nat) : ∀ (k i : Nat) (a : Int), i + d = w.length → d + 30 < k → 0 ≤ a → a * 200 ^ d ≤ 12800000000000000 →
    impl_ruleWays.l0 k u R w a w (w.length : Int) (i : Int) = some (a * pw R (AF u R (w.take i)) (w.drop i)) := by
  induction d with
  | zero =>
    intro k i a hi hk _ _
    obtain ⟨k, rfl⟩ : ∃ m, k = m + 1 := ⟨k - 1, by omega⟩
    simp only [impl_ruleWays.l0]
    rw [if_neg (by omega), List.drop_of_length_le (by omega)]
    simp [pw]
  | succ d ih =>
    intro k i a hi hk a0 ab
    obtain ⟨k, rfl⟩ : ∃ m, k = m + 1 := ⟨k - 1, by omega⟩
    have hc : 0 ≤ rd w (i : Int) ∧ rd w (i : Int) < (R.length : Int) := by
      rw [rd_get w i (by omega)]
      exact hw _ (List.getElem_mem (by omega))
    have hs := AF_small hR (w.take i) 0 u hu (fun c hc => hw c (List.mem_of_mem_take hc))
    have hsl := hs.1
    have htl : (w.take i).length ≤ 7 := by simp; omega
    have hv := rd_in hs.2 (rd w (i : Int)).toNat (by omega)
    rw [show (((rd w (i : Int)).toNat : Nat) : Int) = rd w (i : Int) by omega] at hv
    have hP : (1 : Int) ≤ 200 ^ d := Int.pow_pos (by omega)
    have hpow : (200 : Int) ^ (d + 1) = 200 * 200 ^ d := by rw [Int.pow_succ, Int.mul_comm]
    rw [hpow] at ab
    have hmv : 0 ≤ max 0 (rd (AF u R (w.take i)) (rd w (i : Int))) ∧ max 0 (rd (AF u R (w.take i)) (rd w (i : Int))) ≤ 200 := by omega
    obtain ⟨b1, b2, b3⟩ := pow_bound a _ _ hmv.1 hmv.2 a0 hP ab
    simp only [impl_ruleWays.l0]
    rw [if_pos (by omega), if_pos (by omega), if_pos (by omega), if_pos (by omega), Int.toNat_natCast, after_ok u R (w.take i) n hu hR (fun c hc => hw c (List.mem_of_mem_take hc)) (by omega) (by omega) k (by omega)]
    simp only [Option.bind_some]
    rw [if_pos hc.1, if_pos (by omega), mx_max, w64 (by omega) (by omega)]
    have hgd : rd (AF u R (w.take i)) (rd w (i : Int)) = (AF u R (w.take i)).getD (rd w (i : Int)).toNat 0 := rfl
    have hpw : pw R (AF u R (w.take i)) (w.drop i) = max 0 (rd (AF u R (w.take i)) (rd w (i : Int))) * pw R (AF u R (w.take (i + 1))) (w.drop (i + 1)) := by
      rw [drop_at w i (by omega), take_at w i (by omega), AF_snoc]
      rfl
    rw [hpw, ← Int.mul_assoc]
    by_cases hz : a * max 0 (rd (AF u R (w.take i)) (rd w (i : Int))) = 0
    · rw [if_pos hz, hz, Int.zero_mul]
    · rw [if_neg hz, nat_step (by omega)]
      exact ih k (i + 1) _ (by omega) (by omega) b3 b1
theorem ruleWays_ok (u : List Int) (R : List (List Int)) (w : List Int) (n : Nat) (hu : Small n 0 u) (hR : Rows n R) (hRn : R.length = n) (hw : ∀ c ∈ w, 0 ≤ c ∧ c < (R.length : Int)) (hn : n ≤ 10) (hwl : w.length ≤ 7) (k : Nat) (hk : 40 ≤ k) :
    impl_ruleWays.f k u R w = some (pw R u w) := by
  have hb : (1 : Int) * 200 ^ w.length ≤ 12800000000000000 := by
    have : ∀ m, m ≤ 7 → (200 : Int) ^ m ≤ 12800000000000000 := by decide
    rw [Int.one_mul]
    exact this _ hwl
  have := pw_l0 u R w n hu hR hRn hw hn hwl w.length k 0 1 (by omega) (by omega) (by omega) hb
  rw [Int.one_mul] at this
  exact this

theorem colours_ok (a : Int) : impl_coloursOk.f a = some (decide (1 ≤ a ∧ a ≤ 3)) := by
  unfold impl_coloursOk.f
  by_cases h : a ≥ 1
  · simp [h]
  · simp [h]
def UrnIn (u : List Int) : Prop := (∀ x ∈ u, 0 ≤ x ∧ x ≤ 40) ∧ (1 ≤ (u.length : Int) ∧ (u.length : Int) ≤ 3)
instance (u : List Int) : Decidable (UrnIn u) := by unfold UrnIn; infer_instance
def UrnTail (u t : List Int) : Prop := (∀ x ∈ t, 0 ≤ x ∧ x ≤ 40) ∧ (1 ≤ (u.length : Int) ∧ (u.length : Int) ≤ 3)
instance (u t : List Int) : Decidable (UrnTail u t) := by unfold UrnTail; infer_instance
theorem urn_cons (u t : List Int) (x : Int) : UrnTail u (x :: t) ↔ (0 ≤ x ∧ x ≤ 40) ∧ UrnTail u t := by
  unfold UrnTail
  simp only [List.mem_cons, forall_eq_or_imp, and_assoc]
theorem impl_urn_l0 (u : List Int) (hn : u.length ≤ 2000000) (d : Nat) : ∀ (k i : Nat), i + d = u.length → d < k →
    impl_UrnOk.l0 k u u (u.length : Int) (i : Int) = some (decide (UrnTail u (u.drop i))) := by
  induction d with
  | zero =>
    intro k i hi hk
    obtain ⟨k, rfl⟩ : ∃ m, k = m + 1 := ⟨k - 1, by omega⟩
    simp only [impl_UrnOk.l0]
    rw [if_neg (by omega), List.drop_of_length_le (by omega), colours_ok]
    unfold UrnTail
    simp
  | succ d ih =>
    intro k i hi hk
    obtain ⟨k, rfl⟩ : ∃ m, k = m + 1 := ⟨k - 1, by omega⟩
    simp only [impl_UrnOk.l0]
    rw [if_pos (by omega), if_pos (by omega), if_pos (by omega), drop_at u i (by omega), nat_step (by omega), ih k (i + 1) (by omega) (by omega)]
    simp only [urn_cons]
    by_cases h1 : rd u (i : Int) < 0
    · rw [if_pos h1, decide_eq_false (by omega)]
    · rw [if_neg h1]
      by_cases h2 : rd u (i : Int) > 40
      · rw [if_pos h2, decide_eq_false (by omega)]
      · rw [if_neg h2]
        have h : 0 ≤ rd u (i : Int) ∧ rd u (i : Int) ≤ 40 := by omega
        simp [h]
theorem impl_urn (u : List Int) (hn : u.length ≤ 2000000) (k : Nat) (hk : u.length < k) : impl_UrnOk.f k u = some (decide (UrnIn u)) :=
  impl_urn_l0 u hn u.length k 0 (by omega) hk

def WordIn (c : Int) (w : List Int) : Prop := (∀ x ∈ w, 0 ≤ x ∧ x < c) ∧ (1 ≤ c ∧ c ≤ 3) ∧ (w.length : Int) ≤ 6
instance (c : Int) (w : List Int) : Decidable (WordIn c w) := by unfold WordIn; infer_instance
def WordTail (c : Int) (w t : List Int) : Prop := (∀ x ∈ t, 0 ≤ x ∧ x < c) ∧ (1 ≤ c ∧ c ≤ 3) ∧ (w.length : Int) ≤ 6
instance (c : Int) (w t : List Int) : Decidable (WordTail c w t) := by unfold WordTail; infer_instance
theorem word_cons (c : Int) (w t : List Int) (x : Int) : WordTail c w (x :: t) ↔ (0 ≤ x ∧ x < c) ∧ WordTail c w t := by
  unfold WordTail
  simp only [List.mem_cons, forall_eq_or_imp, and_assoc]
theorem impl_word_l0 (c : Int) (w : List Int) (hn : w.length ≤ 2000000) (d : Nat) : ∀ (k i : Nat), i + d = w.length → d < k →
    impl_WordOk.l0 k c w w (w.length : Int) (i : Int) = some (decide (WordTail c w (w.drop i))) := by
  induction d with
  | zero =>
    intro k i hi hk
    obtain ⟨k, rfl⟩ : ∃ m, k = m + 1 := ⟨k - 1, by omega⟩
    simp only [impl_WordOk.l0]
    rw [if_neg (by omega), List.drop_of_length_le (by omega), colours_ok]
    unfold WordTail
    by_cases h : 1 ≤ c ∧ c ≤ 3
    · simp [h]
    · simp [h]
  | succ d ih =>
    intro k i hi hk
    obtain ⟨k, rfl⟩ : ∃ m, k = m + 1 := ⟨k - 1, by omega⟩
    simp only [impl_WordOk.l0]
    rw [if_pos (by omega), if_pos (by omega), if_pos (by omega), drop_at w i (by omega), nat_step (by omega), ih k (i + 1) (by omega) (by omega)]
    simp only [word_cons]
    by_cases h1 : rd w (i : Int) < 0
    · rw [if_pos h1, decide_eq_false (by omega)]
    · rw [if_neg h1]
      by_cases h2 : rd w (i : Int) ≥ c
      · rw [if_pos h2, decide_eq_false (by omega)]
      · rw [if_neg h2]
        have h : 0 ≤ rd w (i : Int) ∧ rd w (i : Int) < c := by omega
        simp [h]
theorem impl_word (c : Int) (w : List Int) (hn : w.length ≤ 2000000) (k : Nat) (hk : w.length < k) : impl_WordOk.f k c w = some (decide (WordIn c w)) :=
  impl_word_l0 c w hn w.length k 0 (by omega) hk

def CountTail (c : Int) (l t : List Int) (left : Int) : Prop := (∀ x ∈ t, 0 ≤ x) ∧ t.sum ≤ left ∧ (1 ≤ c ∧ c ≤ 3) ∧ (l.length : Int) = c
instance (c : Int) (l t : List Int) (left : Int) : Decidable (CountTail c l t left) := by unfold CountTail; infer_instance
def CountIn (c : Int) (l : List Int) : Prop := CountTail c l l 6
instance (c : Int) (l : List Int) : Decidable (CountIn c l) := by unfold CountIn; infer_instance
theorem sum_pos (l : List Int) (h : ∀ x ∈ l, 0 ≤ x) : 0 ≤ l.sum := by
  induction l with
  | nil => simp
  | cons x l ih =>
    have h1 := h x (by simp)
    have h2 := ih fun y hy => h y (by simp [hy])
    simp only [List.sum_cons]
    omega
theorem count_cons (c : Int) (l t : List Int) (x left : Int) : CountTail c l (x :: t) left ↔ (0 ≤ x ∧ x ≤ left) ∧ CountTail c l t (left - x) := by
  unfold CountTail
  constructor
  · rintro ⟨h1, h2, h3, h4⟩
    have p := sum_pos t fun y hy => h1 y (by simp [hy])
    have q := h1 x (by simp)
    simp only [List.sum_cons] at h2
    exact ⟨⟨q, by omega⟩, fun y hy => h1 y (by simp [hy]), by omega, h3, h4⟩
  · rintro ⟨⟨h0, h1⟩, h2, h3, h4, h5⟩
    refine ⟨fun y hy => ?_, by simp only [List.sum_cons]; omega, h4, h5⟩
    rcases List.mem_cons.mp hy with rfl | h
    · exact h0
    · exact h2 y h
theorem impl_count_l0 (c : Int) (l : List Int) (hn : l.length ≤ 2000000) (d : Nat) : ∀ (k i : Nat) (left : Int), i + d = l.length → d < k → 0 ≤ left → left ≤ 6 →
    impl_CountRowOk.l0 k c l left l (l.length : Int) (i : Int) = some (decide (CountTail c l (l.drop i) left)) := by
  induction d with
  | zero =>
    intro k i left hi hk l0 l1
    obtain ⟨k, rfl⟩ : ∃ m, k = m + 1 := ⟨k - 1, by omega⟩
    simp only [impl_CountRowOk.l0]
    rw [if_neg (by omega), List.drop_of_length_le (by omega), colours_ok]
    unfold CountTail
    by_cases h : 1 ≤ c ∧ c ≤ 3
    · simp [h, beq_dec, l0]
    · simp [h]
  | succ d ih =>
    intro k i left hi hk l0 l1
    obtain ⟨k, rfl⟩ : ∃ m, k = m + 1 := ⟨k - 1, by omega⟩
    simp only [impl_CountRowOk.l0]
    rw [if_pos (by omega), if_pos (by omega), if_pos (by omega), drop_at l i (by omega)]
    simp only [count_cons]
    by_cases h1 : rd l (i : Int) < 0
    · rw [if_pos h1, decide_eq_false (by omega)]
    · rw [if_neg h1]
      by_cases h2 : rd l (i : Int) > left
      · rw [if_pos h2, decide_eq_false (by omega)]
      · rw [if_neg h2, nat_step (by omega), w64 (by omega) (by omega), ih k (i + 1) _ (by omega) (by omega) (by omega) (by omega)]
        have h : 0 ≤ rd l (i : Int) ∧ rd l (i : Int) ≤ left := by omega
        simp [h]
theorem impl_count (c : Int) (l : List Int) (hn : l.length ≤ 2000000) (k : Nat) (hk : l.length < k) : impl_CountRowOk.f k c l = some (decide (CountIn c l)) :=
  impl_count_l0 c l hn l.length k 0 6 (by omega) hk (by omega) (by omega)
theorem isum_l0 (l : List Int) (hn : l.length ≤ 1000) (h : ∀ x ∈ l, 0 ≤ x ∧ x ≤ 1000) (d : Nat) : ∀ (k i : Nat), i + d = l.length → d < k →
    impl_sum.l0 k (l.take i).sum l (l.length : Int) (i : Int) = some l.sum := by
  induction d with
  | zero =>
    intro k i hi hk
    obtain ⟨k, rfl⟩ : ∃ m, k = m + 1 := ⟨k - 1, by omega⟩
    simp only [impl_sum.l0]
    rw [if_neg (by omega), List.take_of_length_le (by omega)]
  | succ d ih =>
    intro k i hi hk
    obtain ⟨k, rfl⟩ : ∃ m, k = m + 1 := ⟨k - 1, by omega⟩
    have hx := h (rd l (i : Int)) (by rw [rd_get l i (by omega)]; exact List.getElem_mem _)
    have hb : ∀ (t : List Int), (∀ x ∈ t, 0 ≤ x ∧ x ≤ 1000) → 0 ≤ t.sum ∧ t.sum ≤ 1000 * (t.length : Int) := by
      intro t
      induction t with
      | nil => simp
      | cons x t ih =>
        intro h
        have h1 := h x (by simp)
        have h2 := ih fun y hy => h y (by simp [hy])
        simp only [List.sum_cons, List.length_cons]
        omega
    have hs := hb (l.take i) fun x hx => h x (List.mem_of_mem_take hx)
    have hl : (l.take i).length ≤ 1000 := by simp; omega
    simp only [impl_sum.l0]
    rw [if_pos (by omega), if_pos (by omega), if_pos (by omega), nat_step (by omega), w64 (by omega) (by omega)]
    have e : (l.take i).sum + rd l (i : Int) = (l.take (i + 1)).sum := by
      rw [take_at l i (by omega)]
      simp
    rw [e]
    exact ih k (i + 1) (by omega) (by omega)
theorem isum_ok (l : List Int) (hn : l.length ≤ 1000) (h : ∀ x ∈ l, 0 ≤ x ∧ x ≤ 1000) (k : Nat) (hk : l.length < k) : impl_sum.f k l = some l.sum :=
  isum_l0 l hn h l.length k 0 (by omega) hk

theorem lift {α : Type} {F : Nat → Option α} (hF : ∀ k, LeO (F k) (F (k + 1))) {k r : _} (h : F k = some r) : ∀ {K : Nat}, k ≤ K → F K = some r := by
  intro K hK
  induction hK with
  | refl => exact h
  | step _ ih => exact hF _ _ ih

/-- What draws of one colour make. -/
def rise (s : Int) : Int → Nat → Int
  | _, 0 => 1
  | a, m + 1 => max 0 a * rise s (a + s) m
def prodR (s : Int) : List Int → List Int → Int
  | a :: u, m :: cs => rise s a m.toNat * prodR s u cs
  | _, _ => 1
def cntL (n : Nat) (q : List Int) : List Int := (List.range n).map fun (i : Nat) => ((q.count (i : Int) : Nat) : Int)
def rowsD (n : Nat) (s : Int) : List (List Int) := (List.range n).map fun c => (List.replicate n 0).set c s
theorem pw_1 (s : Int) (q : List Int) : ∀ a, (∀ x ∈ q, 0 ≤ x ∧ x < 1) → pw [[s]] [a] q = rise s a (q.count 0) := by
  induction q with
  | nil => intro a _; rfl
  | cons c q ih =>
    intro a h
    have hc := h c (by simp)
    have hr := fun b => ih b fun x hx => h x (by simp [hx])
    obtain rfl : c = 0 := by omega
    simp [pw, rise, hr]
theorem pw_2 (s : Int) (q : List Int) : ∀ a b, (∀ x ∈ q, 0 ≤ x ∧ x < 2) → pw [[s, 0], [0, s]] [a, b] q = rise s a (q.count 0) * rise s b (q.count 1) := by
  induction q with
  | nil => intro a b _; rfl
  | cons c q ih =>
    intro a b h
    have hc := h c (by simp)
    have hr := fun a b => ih a b fun x hx => h x (by simp [hx])
    rcases (by omega : c = 0 ∨ c = 1) with rfl | rfl
    · simp [pw, rise, hr, Int.mul_assoc]
    · simp [pw, rise, hr, Int.mul_left_comm]
theorem pw_3 (s : Int) (q : List Int) : ∀ a b c, (∀ x ∈ q, 0 ≤ x ∧ x < 3) → pw [[s, 0, 0], [0, s, 0], [0, 0, s]] [a, b, c] q = rise s a (q.count 0) * (rise s b (q.count 1) * rise s c (q.count 2)) := by
  induction q with
  | nil => intro a b c _; rfl
  | cons x q ih =>
    intro a b c h
    have hc := h x (by simp)
    have hr := fun a b c => ih a b c fun x hx => h x (by simp [hx])
    rcases (by omega : x = 0 ∨ x = 1 ∨ x = 2) with rfl | rfl | rfl
    · simp [pw, rise, hr, Int.mul_assoc]
    · simp [pw, rise, hr, Int.mul_left_comm, Int.mul_assoc]
    · simp [pw, rise, hr, Int.mul_left_comm]
theorem len1 {u : List Int} (h : u.length = 1) : ∃ a, u = [a] := List.length_eq_one_iff.mp h
theorem len2 {u : List Int} (h : u.length = 2) : ∃ a b, u = [a, b] := by
  match u, h with
  | [a, b], _ => exact ⟨a, b, rfl⟩
theorem len3 {u : List Int} (h : u.length = 3) : ∃ a b c, u = [a, b, c] := by
  match u, h with
  | [a, b, c], _ => exact ⟨a, b, c, rfl⟩
theorem pw_rise (s : Int) (u q : List Int) (n : Nat) (h1 : 1 ≤ n) (h3 : n ≤ 3) (hu : u.length = n) (hq : ∀ x ∈ q, 0 ≤ x ∧ x < (n : Int)) : pw (rowsD n s) u q = prodR s u (cntL n q) := by
  rcases (by omega : n = 1 ∨ n = 2 ∨ n = 3) with rfl | rfl | rfl
  · obtain ⟨a, rfl⟩ := len1 hu
    have := pw_1 s q a (fun x hx => by have := hq x hx; omega)
    simpa [rowsD, cntL, prodR, List.range_succ] using this
  · obtain ⟨a, b, rfl⟩ := len2 hu
    have := pw_2 s q a b (fun x hx => by have := hq x hx; omega)
    simpa [rowsD, cntL, prodR, List.range_succ] using this
  · obtain ⟨a, b, c, rfl⟩ := len3 hu
    have := pw_3 s q a b c (fun x hx => by have := hq x hx; omega)
    simpa [rowsD, cntL, prodR, List.range_succ] using this
theorem rise_in (s : Int) (h0 : -1 ≤ s) (h3 : s ≤ 3) (m : Nat) : ∀ a, a + 3 * (m : Int) ≤ 60 → 0 ≤ rise s a m ∧ rise s a m ≤ 60 ^ m := by
  induction m with
  | zero => intro a _; simp [rise]
  | succ m ih =>
    intro a h
    obtain ⟨i0, i1⟩ := ih (a + s) (by omega)
    have hm : 0 ≤ max 0 a ∧ max 0 a ≤ 60 := by omega
    have e : rise s a (m + 1) = max 0 a * rise s (a + s) m := rfl
    rw [e, Int.pow_succ, Int.mul_comm (60 ^ m) 60]
    exact ⟨Int.mul_nonneg hm.1 i0, Int.mul_le_mul hm.2 i1 i0 (by omega)⟩
theorem prodR_in (s : Int) (h0 : -1 ≤ s) (h3 : s ≤ 3) : ∀ (u cs : List Int), (∀ x ∈ u, x ≤ 40) → (∀ x ∈ cs, 0 ≤ x) → cs.sum ≤ 6 → 0 ≤ prodR s u cs ∧ prodR s u cs ≤ 60 ^ cs.sum.toNat := by
  intro u
  induction u with
  | nil => intro cs _ _ _; have : (1 : Int) ≤ 60 ^ cs.sum.toNat := Int.pow_pos (by omega); simp [prodR]; omega
  | cons a u ih =>
    intro cs hu hc hs
    match cs with
    | [] => simp [prodR]
    | m :: cs =>
      have p := sum_pos cs fun x hx => hc x (by simp [hx])
      have q := hc m (by simp)
      simp only [List.sum_cons] at hs
      obtain ⟨i0, i1⟩ := ih cs (fun x hx => hu x (by simp [hx])) (fun x hx => hc x (by simp [hx])) (by omega)
      obtain ⟨r0, r1⟩ := rise_in s h0 h3 m.toNat a (by have := hu a (by simp); omega)
      have e : (m :: cs).sum.toNat = m.toNat + cs.sum.toNat := by simp only [List.sum_cons]; omega
      rw [e, Int.pow_add]
      exact ⟨Int.mul_nonneg r0 i0, Int.mul_le_mul r1 i1 i0 (Int.le_trans r0 r1)⟩
theorem prodR_small (s : Int) (h0 : -1 ≤ s) (h3 : s ≤ 3) (u cs : List Int) (hu : ∀ x ∈ u, x ≤ 40) (hc : ∀ x ∈ cs, 0 ≤ x) (hs : cs.sum ≤ 6) : 0 ≤ prodR s u cs ∧ prodR s u cs ≤ 46656000000 := by
  obtain ⟨i0, i1⟩ := prodR_in s h0 h3 u cs hu hc hs
  have : ∀ m : Nat, m ≤ 6 → (60 : Int) ^ m ≤ 46656000000 := by decide
  exact ⟨i0, Int.le_trans i1 (this _ (by omega))⟩
theorem tell_const (F : Int → List Int → Option Int) (M : List Int → Bool) (P B : Int) (hP : 0 ≤ P) (qs : List (List Int)) (hq : ∀ q ∈ qs, ∀ a, 0 ≤ a → a + P ≤ B → F a q = some (if M q then a + P else a)) :
    ∀ a, 0 ≤ a → a + P * (qs.length : Int) ≤ B → tellAll F a qs = some (a + P * ((qs.countP M : Nat) : Int)) := by
  induction qs with
  | nil => intro a _ _; simp [tellAll]
  | cons q qs ih =>
    intro a a0 ab
    have hn : 0 ≤ P * (qs.length : Int) := Int.mul_nonneg hP (by omega)
    have e : P * ((q :: qs).length : Int) = P * (qs.length : Int) + P := by
      rw [List.length_cons, Int.natCast_succ, Int.mul_add, Int.mul_one]
    rw [e] at ab
    have h := hq q (by simp) a a0 (by omega)
    have ih' := ih fun x hx => hq x (by simp [hx])
    unfold tellAll
    rw [h]
    simp only [Option.bind_some]
    by_cases hm : M q = true
    · rw [if_pos hm, ih' (a + P) (by omega) (by omega), List.countP_cons_of_pos hm, Int.natCast_succ, Int.mul_add, Int.mul_one]
      congr 1
      omega
    · rw [if_neg hm, ih' a a0 (by omega), List.countP_cons_of_neg hm]
theorem equal_l0 (x y : List Int) (hn : x.length ≤ 2000000) (hxy : x.length = y.length) (d : Nat) : ∀ (k i : Nat), i + d = x.length → d < k → slices_Equal_int_int.l0 k x y (x.length : Int) (i : Int) = some (decide (x.drop i = y.drop i)) := by
  induction d with
  | zero =>
    intro k i hi hk
    obtain ⟨k, rfl⟩ : ∃ m, k = m + 1 := ⟨k - 1, by omega⟩
    simp only [slices_Equal_int_int.l0]
    rw [if_neg (by omega), List.drop_of_length_le (by omega), List.drop_of_length_le (by omega)]
    simp
  | succ d ih =>
    intro k i hi hk
    obtain ⟨k, rfl⟩ : ∃ m, k = m + 1 := ⟨k - 1, by omega⟩
    simp only [slices_Equal_int_int.l0]
    rw [if_pos (by omega), if_pos (by omega), if_pos (by omega), if_pos (by omega), nat_step (by omega), ih k (i + 1) (by omega) (by omega), drop_at x i (by omega), drop_at y i (by omega)]
    by_cases h : rd x (i : Int) = rd y (i : Int)
    · rw [if_pos h]
      simp [h]
    · rw [if_neg h]
      simp [h]
theorem equal_ok (x y : List Int) (hn : x.length ≤ 2000000) (k : Nat) (hk : x.length < k) : slices_Equal_int_int.f k x y = some (decide (x = y)) := by
  unfold slices_Equal_int_int.f
  by_cases h : x.length = y.length
  · rw [if_pos (by omega)]
    exact equal_l0 x y hn h x.length k 0 (by omega) hk
  · rw [if_neg (by omega), decide_eq_false]
    rintro rfl
    exact h rfl

/-- How many words have these counts. -/
def nW (n : Nat) (cs : List Int) : Int := (((allW n cs.sum.toNat).countP fun q => cntL n q == cs : Nat) : Int)
set_option maxRecDepth 100000 in
theorem words_check : ((List.range 3).all fun i => (List.range 7).all fun m => decide ((allW (i + 1) m).length ≤ 729) && (allW (i + 1) m).all fun q => decide (q.length = m) && (q.all (fun x => decide (0 ≤ x ∧ x < ((i + 1 : Nat) : Int))) && decide (impl_CountsOf.f 30 ((i + 1 : Nat) : Int) q = some (cntL (i + 1) q)))) = true := by kernel_rfl
theorem words_ok (n m : Nat) (h1 : 1 ≤ n) (h3 : n ≤ 3) (hm : m ≤ 6) : (allW n m).length ≤ 729 ∧ ∀ q ∈ allW n m, q.length = m ∧ (∀ x ∈ q, 0 ≤ x ∧ x < (n : Int)) ∧ ∀ k, 30 ≤ k → impl_CountsOf.f k (n : Int) q = some (cntL n q) := by
  have h := words_check
  simp only [List.all_eq_true, List.mem_range, Bool.and_eq_true, decide_eq_true_eq] at h
  have h := h (n - 1) (by omega) m (by omega)
  rw [show n - 1 + 1 = n by omega] at h
  exact ⟨h.1, fun q hq => ⟨(h.2 q hq).1, (h.2 q hq).2.1, fun k hk => lift (fun k => impl_CountsOf.mono (n : Int) q k) (h.2 q hq).2.2 hk⟩⟩
theorem words_tell (n : Nat) (cs : List Int) (h : CountIn (n : Int) cs) (F : Int → List Int → Option Int) (P : Int) (hP : 0 ≤ P) (hP1 : P ≤ 46656000000) (k : Nat) (hk : 40 ≤ k)
    (hF : ∀ q ∈ allW n cs.sum.toNat, cntL n q = cs → ∀ a, 0 ≤ a → a + P ≤ 1000000000000000000 → F a q = some (a + P)) :
    tellAll (withF k cs F) 0 (allW n cs.sum.toNat) = some (P * nW n cs) := by
  obtain ⟨h0, hs, hn, hl⟩ := h
  have hw := words_ok n cs.sum.toNat (by omega) (by omega) (by omega)
  have ht := tell_const (withF k cs F) (fun q => cntL n q == cs) P 1000000000000000000 hP (allW n cs.sum.toNat) ?_ 0 (by omega) ?_
  · rw [ht, Int.zero_add]
    rfl
  · intro q hq a a0 ab
    have hq' := (hw.2 q hq).2.2 k (by omega)
    have hlq : (cntL n q).length = n := by simp [cntL]
    unfold withF
    rw [hl, hq']
    simp only [Option.bind_some]
    rw [equal_ok _ _ (by omega) k (by omega)]
    simp only [Option.bind_some]
    by_cases e : cntL n q = cs
    · rw [if_pos (by simpa using e), if_pos (by simpa using e)]
      exact hF q hq e a a0 ab
    · rw [if_neg (by simpa using e), if_neg (by simpa using e)]
  · have hlen : ((allW n cs.sum.toNat).length : Int) ≤ 729 := by have := hw.1; omega
    have := Int.mul_le_mul hP1 hlen (by omega) (by omega)
    omega

def sameCheck (n : Nat) (s : Int) : Bool := decide (impl_SameRule.f 20 (n : Int) s = some (rowsD n s))
theorem same_check : (([-1, 0, 1, 2, 3] : List Int).all fun s => sameCheck 1 s && (sameCheck 2 s && sameCheck 3 s)) = true := by kernel_rfl
theorem same_ok (n : Nat) (s : Int) (h1 : 1 ≤ n) (h3 : n ≤ 3) (hs : -1 ≤ s) (hs3 : s ≤ 3) (k : Nat) (hk : 20 ≤ k) : impl_SameRule.f k (n : Int) s = some (rowsD n s) := by
  have h := same_check
  simp only [List.all_eq_true, Bool.and_eq_true] at h
  have h := h s (by
    rcases (by omega : s = -1 ∨ s = 0 ∨ s = 1 ∨ s = 2 ∨ s = 3) with rfl | rfl | rfl | rfl | rfl <;> simp)
  refine lift (fun k => impl_SameRule.mono (n : Int) s k) ?_ hk
  rcases (by omega : n = 1 ∨ n = 2 ∨ n = 3) with rfl | rfl | rfl
  · exact of_decide_eq_true h.1
  · exact of_decide_eq_true h.2.1
  · exact of_decide_eq_true h.2.2
theorem rows_ok (n : Nat) (s : Int) (hs : -1 ≤ s) (hs3 : s ≤ 3) : Rows n (rowsD n s) ∧ (rowsD n s).length = n := by
  refine ⟨fun r hr => ?_, by simp [rowsD]⟩
  obtain ⟨c, -, rfl⟩ := List.mem_map.mp hr
  refine ⟨by simp, fun x hx => ?_⟩
  rcases List.mem_or_eq_of_mem_set hx with q | q
  · rw [(List.mem_replicate.mp q).2]
    omega
  · omega
theorem urn_small {u : List Int} (h : UrnIn u) : Small u.length 0 u := ⟨rfl, fun x hx => by have := h.1 x hx; omega⟩
theorem pow60 (m : Nat) : (1 : Int) ≤ 60 ^ m := Int.pow_pos (by omega)
theorem mul_bound {a v P B : Int} (ha : 0 ≤ a) (hv : v ≤ 60) (hP : 0 ≤ P) (h : a * (60 * P) ≤ B) : a * v * P ≤ B := by
  have h1 : a * v ≤ a * 60 := Int.mul_le_mul_of_nonneg_left hv ha
  have h2 : a * v * P ≤ a * 60 * P := Int.mul_le_mul_of_nonneg_right h1 hP
  rw [Int.mul_assoc a 60 P] at h2
  omega
theorem le_mul {a P B : Int} (ha : 0 ≤ a) (hP : 1 ≤ P) (h : a * P ≤ B) : a ≤ B := by
  have : a * 1 ≤ a * P := Int.mul_le_mul_of_nonneg_left hP ha
  omega
theorem in_sum {cs : List Int} {B : Int} (h0 : ∀ x ∈ cs, 0 ≤ x) (hs : cs.sum ≤ B) : ∀ x ∈ cs, 0 ≤ x ∧ x ≤ B := by
  intro x hx
  obtain ⟨i, hi, rfl⟩ := List.mem_iff_getElem.mp hx
  have e : cs.sum = (cs.take i).sum + (cs[i] + (cs.drop (i + 1)).sum) := by
    conv => lhs; rw [← List.take_append_drop i cs, List.sum_append, List.drop_eq_getElem_cons hi, List.sum_cons]
  have p1 := sum_pos (cs.take i) fun x hx => h0 x (List.mem_of_mem_take hx)
  have p2 := sum_pos (cs.drop (i + 1)) fun x hx => h0 x (List.mem_of_mem_drop hx)
  have p3 := h0 cs[i] (List.getElem_mem hi)
  omega

theorem wordWays_ok (u q : List Int) (hu : UrnIn u) (hq : ∀ x ∈ q, 0 ≤ x ∧ x < (u.length : Int)) (hl : q.length ≤ 6) (k : Nat) (hk : 60 ≤ k) : impl_WordWays.f k u q = some (prodR (-1) u (cntL u.length q)) := by
  obtain ⟨k, rfl⟩ : ∃ m, k = m + 1 := ⟨k - 1, by omega⟩
  have h3 := hu.2
  have hr := rows_ok u.length (-1) (by omega) (by omega)
  have hw : WordIn (u.length : Int) q := ⟨hq, h3, by omega⟩
  unfold impl_WordWays.f
  rw [impl_urn u (by omega) _ (by omega), decide_eq_true hu]
  simp only [Option.bind_some, if_true]
  rw [impl_word _ q (by omega) _ (by omega), decide_eq_true hw]
  simp only [Option.bind_some, Bool.not_true, impl_WordWays.j0]
  rw [if_neg (by simp), same_ok u.length (-1) (by omega) (by omega) (by omega) (by omega) k (by omega)]
  simp only [Option.bind_some]
  rw [ruleWays_ok u _ q u.length (urn_small hu) hr.1 hr.2 (by rw [hr.2]; exact hq) (by omega) (by omega) k (by omega)]
  simp only [Option.bind_some]
  rw [pw_rise (-1) u q u.length (by omega) (by omega) rfl hq]
theorem countWays_ok (u cs : List Int) (hn : u.length ≤ 1100000) (hm : cs.length ≤ 1100000) (k : Nat) (hk : 100 + u.length + cs.length ≤ k) :
    impl_CountWays.f k u cs = some (if UrnIn u ∧ CountIn (u.length : Int) cs then prodR (-1) u cs * nW u.length cs else -1) := by
  unfold impl_CountWays.f
  rw [impl_urn u (by omega) _ (by omega)]
  by_cases hu : UrnIn u
  · rw [decide_eq_true hu]
    simp only [Option.bind_some, if_true]
    rw [impl_count _ cs (by omega) _ (by omega)]
    by_cases hc : CountIn (u.length : Int) cs
    · rw [decide_eq_true hc, if_pos ⟨hu, hc⟩]
      have hc' := hc
      obtain ⟨h0, hs, h3, hl⟩ := hc'
      have hp := prodR_small (-1) (by omega) (by omega) u cs (fun x hx => (hu.1 x hx).2) h0 hs
      have s0 := sum_pos cs h0
      have hx : ∀ x ∈ cs, 0 ≤ x ∧ x ≤ 1000 := by
        intro x hx
        obtain ⟨i, hi, rfl⟩ := List.mem_iff_getElem.mp hx
        have e : cs.sum = (cs.take i).sum + (cs[i] + (cs.drop (i + 1)).sum) := by
          conv => lhs; rw [← List.take_append_drop i cs, List.sum_append, List.drop_eq_getElem_cons hi, List.sum_cons]
        have p1 := sum_pos (cs.take i) fun x hx => h0 x (List.mem_of_mem_take hx)
        have p2 := sum_pos (cs.drop (i + 1)) fun x hx => h0 x (List.mem_of_mem_drop hx)
        have p3 := h0 cs[i] (List.getElem_mem hi)
        omega
      simp only [Option.bind_some, if_true]
      rw [isum_ok cs (by omega) hx k (by omega)]
      simp only [Option.bind_some]
      rw [if_pos ⟨s0, hs, by omega⟩, show cs.length = u.length by omega]
      refine words_tell u.length cs hc _ _ hp.1 hp.2 k (by omega) ?_
      intro q hq e a a0 ab
      have hw := (words_ok u.length cs.sum.toNat (by omega) (by omega) (by omega)).2 q hq
      unfold countF
      rw [wordWays_ok u q hu hw.2.1 (by omega) k (by omega), e]
      simp only [Option.bind_some]
      rw [w64 (by omega) (by omega)]
    · rw [decide_eq_false hc, if_neg (fun h => hc h.2)]
      simp
  · rw [decide_eq_false hu, if_neg (fun h => hu h.1)]
    simp

theorem spec_urn_l0 (u : List Int) (hn : u.length ≤ 2000000) (d : Nat) : ∀ (k i : Nat), i + d = u.length → d < k →
    spec_UrnOk.l0 k u (i : Int) = some (decide (UrnTail u (u.drop i))) := by
  induction d with
  | zero =>
    intro k i hi hk
    obtain ⟨k, rfl⟩ : ∃ m, k = m + 1 := ⟨k - 1, by omega⟩
    simp only [spec_UrnOk.l0]
    rw [if_neg (by omega), List.drop_of_length_le (by omega), l1In_ok]
    unfold UrnTail
    simp
  | succ d ih =>
    intro k i hi hk
    obtain ⟨k, rfl⟩ : ∃ m, k = m + 1 := ⟨k - 1, by omega⟩
    simp only [spec_UrnOk.l0]
    rw [if_pos (by omega), if_pos (by omega), l1In_ok, drop_at u i (by omega), nat_step (by omega), ih k (i + 1) (by omega) (by omega)]
    simp only [Option.bind_some, urn_cons]
    by_cases h : 0 ≤ rd u (i : Int) ∧ rd u (i : Int) ≤ 40
    · simp [h]
    · simp [h]
theorem spec_urn (u : List Int) (hn : u.length ≤ 2000000) (k : Nat) (hk : u.length < k) : spec_UrnOk.f k u = some (decide (UrnIn u)) :=
  spec_urn_l0 u hn u.length k 0 (by omega) hk

def factN : Nat → Nat
  | 0 => 1
  | m + 1 => (m + 1) * factN m
def multi (cs : List Int) : Int := ((factN cs.sum.toNat / (cs.foldl (fun a x => a * factN x.toNat) 1) : Nat) : Int)
def multiOk (n : Nat) (cs : List Int) : Bool := decide (nW n cs = multi cs)
set_option maxRecDepth 100000 in
theorem multi_check : ((List.range 7).all fun x => multiOk 1 [(x : Int)] && (List.range (7 - x)).all fun y => multiOk 2 [(x : Int), (y : Int)] && (List.range (7 - x - y)).all fun z => multiOk 3 [(x : Int), (y : Int), (z : Int)]) = true := by kernel_rfl
theorem nW_multi (n : Nat) (cs : List Int) (h : CountIn (n : Int) cs) : nW n cs = multi cs := by
  have key : multiOk n cs = true := by
    obtain ⟨h0, hs, hn, hl⟩ := h
    have hc := multi_check
    simp only [List.all_eq_true, List.mem_range, Bool.and_eq_true] at hc
    rcases (by omega : n = 1 ∨ n = 2 ∨ n = 3) with rfl | rfl | rfl
    · obtain ⟨x, rfl⟩ := len1 (u := cs) (by omega)
      simp at h0 hs
      have := (hc x.toNat (by omega)).1
      rwa [Int.toNat_of_nonneg h0] at this
    · obtain ⟨x, y, rfl⟩ := len2 (u := cs) (by omega)
      simp at h0 hs
      have := ((hc x.toNat (by omega)).2 y.toNat (by omega)).1
      rwa [Int.toNat_of_nonneg h0.1, Int.toNat_of_nonneg h0.2] at this
    · obtain ⟨x, y, z, rfl⟩ := len3 (u := cs) (by omega)
      simp at h0 hs
      have := ((hc x.toNat (by omega)).2 y.toNat (by omega)).2 z.toNat (by omega)
      rwa [Int.toNat_of_nonneg h0.1, Int.toNat_of_nonneg h0.2.1, Int.toNat_of_nonneg h0.2.2] at this
  exact of_decide_eq_true key

theorem wordsWith_ok (n : Nat) (cs : List Int) (hm : cs.length ≤ 1100000) (k : Nat) (hk : 100 + cs.length ≤ k) :
    impl_WordsWith.f k (n : Int) cs = some (if CountIn (n : Int) cs then nW n cs else -1) := by
  unfold impl_WordsWith.f
  rw [impl_count _ cs (by omega) _ (by omega)]
  by_cases hc : CountIn (n : Int) cs
  · rw [decide_eq_true hc, if_pos hc]
    have hc' := hc
    obtain ⟨h0, hs, h3, hl⟩ := hc'
    have s0 := sum_pos cs h0
    simp only [Option.bind_some, if_true]
    rw [isum_ok cs (by omega) (fun x hx => by have := in_sum h0 hs x hx; omega) k (by omega)]
    simp only [Option.bind_some]
    rw [if_pos ⟨s0, hs, by omega⟩, show cs.length = n by omega]
    have := words_tell n cs hc oneF 1 (by omega) (by omega) k (by omega) (by
      intro q _ _ a a0 ab
      unfold oneF
      rw [w64 (by omega) (by omega)])
    rw [this, Int.one_mul]
  · rw [decide_eq_false hc, if_neg hc]
    simp
/-- The words of counts, told without rounds. -/
def wsM (n : Int) (cs : List Int) : Option Int := if 0 ≤ n ∧ cs.length ≤ 10 then (if CountIn n cs then some (multi cs) else some (-1)) else none
theorem wsM_le (n : Int) (cs : List Int) (k : Nat) (hk : 200 ≤ k) : LeO (wsM n cs) (impl_WordsWith.f k n cs) := by
  intro r h
  unfold wsM at h
  by_cases hl : 0 ≤ n ∧ cs.length ≤ 10
  · rw [if_pos hl] at h
    obtain ⟨n, rfl⟩ := Int.eq_ofNat_of_zero_le hl.1
    rw [wordsWith_ok n cs (by omega) k (by omega)]
    by_cases hu : CountIn (n : Int) cs
    · rw [if_pos hu] at h ⊢
      rw [nW_multi _ _ hu, h]
    · rw [if_neg hu] at h ⊢
      exact h
  · rw [if_neg hl] at h
    cases h

theorem alive_lift (k : Nat) (h : 20 ≤ k) : laws_alive.f k = some true := lift (k := 20) laws_alive.mono (by kernel_rfl) h

theorem cnt_check : ((List.range 3).all fun i => (List.range 7).all fun m => (allW (i + 1) m).all fun q => decide ((cntL (i + 1) q).sum = (m : Int))) = true := by kernel_rfl
theorem cnt_sum (n m : Nat) (h1 : 1 ≤ n) (h3 : n ≤ 3) (hm : m ≤ 6) (q : List Int) (hq : q ∈ allW n m) : (cntL n q).sum = (m : Int) := by
  have h := cnt_check
  simp only [List.all_eq_true, List.mem_range, decide_eq_true_eq] at h
  have h := h (n - 1) (by omega) m (by omega)
  rw [show n - 1 + 1 = n by omega] at h
  exact h q hq
theorem cnt_pos (n : Nat) (q : List Int) : (∀ x ∈ cntL n q, 0 ≤ x) ∧ (cntL n q).length = n := by
  refine ⟨fun x hx => ?_, by simp [cntL]⟩
  obtain ⟨i, -, rfl⟩ := List.mem_map.mp hx
  omega

theorem nW_le (n : Nat) (cs : List Int) (h : CountIn (n : Int) cs) : nW n cs ≤ 729 := by
  obtain ⟨h0, hs, hn, hl⟩ := h
  have hw := words_ok n cs.sum.toNat (by omega) (by omega) (by omega)
  have := List.countP_le_length (p := fun q => cntL n q == cs) (l := allW n cs.sum.toNat)
  unfold nW
  omega
theorem spec_word_l0 (c : Int) (w : List Int) (hn : w.length ≤ 2000000) (d : Nat) : ∀ (k i : Nat), i + d = w.length → d < k →
    spec_WordOk.l0 k c w (i : Int) = some (decide (WordTail c w (w.drop i))) := by
  induction d with
  | zero =>
    intro k i hi hk
    obtain ⟨k, rfl⟩ : ∃ m, k = m + 1 := ⟨k - 1, by omega⟩
    simp only [spec_WordOk.l0]
    rw [if_neg (by omega), List.drop_of_length_le (by omega), l1In_ok]
    unfold WordTail
    by_cases h : 1 ≤ c ∧ c ≤ 3
    · simp [h]
    · simp [h]
  | succ d ih =>
    intro k i hi hk
    obtain ⟨k, rfl⟩ : ∃ m, k = m + 1 := ⟨k - 1, by omega⟩
    simp only [spec_WordOk.l0]
    rw [if_pos (by omega), if_pos (by omega), drop_at w i (by omega), nat_step (by omega), ih k (i + 1) (by omega) (by omega)]
    simp only [word_cons]
    by_cases h1 : rd w (i : Int) < 0
    · rw [if_pos h1, decide_eq_false (by omega)]
    · rw [if_neg h1]
      by_cases h2 : rd w (i : Int) ≥ c
      · rw [if_pos h2, decide_eq_false (by omega)]
      · rw [if_neg h2]
        have h : 0 ≤ rd w (i : Int) ∧ rd w (i : Int) < c := by omega
        simp [h]
theorem spec_word (c : Int) (w : List Int) (hn : w.length ≤ 2000000) (k : Nat) (hk : w.length < k) : spec_WordOk.f k c w = some (decide (WordIn c w)) :=
  spec_word_l0 c w hn w.length k 0 (by omega) hk
theorem zip_row (u : List Int) (c : Nat) (s : Int) (hc : c < u.length) : List.zipWith (· + ·) u ((rowsD u.length s).getD c []) = u.set c (u.getD c 0 + s) := by
  have e : (rowsD u.length s).getD c [] = (List.replicate u.length 0).set c s := by
    unfold rowsD
    rw [List.getD_eq_getElem?_getD, List.getElem?_eq_getElem (by simpa using hc)]
    simp
  rw [e]
  refine List.ext_getElem (by simp) fun i h1 h2 => ?_
  have hi : i < u.length := by simpa using h2
  rw [List.getElem_zipWith, List.getElem_set, List.getElem_set]
  by_cases h : c = i
  · subst h
    rw [if_pos rfl, if_pos rfl, List.getD_eq_getElem?_getD, List.getElem?_eq_getElem hc]
    rfl
  · rw [if_neg h, if_neg h]
    simp
theorem sww_l0 (n : Nat) (w : List Int) (hw : ∀ x ∈ w, 0 ≤ x ∧ x < (n : Int)) (hl : w.length ≤ 6) (d : Nat) : ∀ (k i : Nat) (a : Int) (u : List Int), u.length = n → (∀ x ∈ u, -100 + (i : Int) * -1 ≤ x ∧ x ≤ 40) → i + d = w.length → d < k → 0 ≤ a → a * 60 ^ d ≤ 1000000000000000 →
    spec_WordWays.l0 k w u a (i : Int) = some (a * pw (rowsD n (-1)) u (w.drop i)) := by
  induction d with
  | zero =>
    intro k i a u hu hb hi hk _ _
    obtain ⟨k, rfl⟩ : ∃ m, k = m + 1 := ⟨k - 1, by omega⟩
    simp only [spec_WordWays.l0]
    rw [if_neg (by omega), List.drop_of_length_le (by omega), pw, Int.mul_one]
  | succ d ih =>
    intro k i a u hu hb hi hk a0 ab
    obtain ⟨k, rfl⟩ : ∃ m, k = m + 1 := ⟨k - 1, by omega⟩
    have hc : 0 ≤ rd w (i : Int) ∧ rd w (i : Int) < (n : Int) := by
      rw [rd_get w i (by omega)]
      exact hw _ (List.getElem_mem (by omega))
    have hv := rd_in hb (rd w (i : Int)).toNat (by omega)
    rw [show (((rd w (i : Int)).toNat : Nat) : Int) = rd w (i : Int) by omega] at hv
    have hm : 0 ≤ max 0 (rd u (rd w (i : Int))) ∧ max 0 (rd u (rd w (i : Int))) ≤ 60 := by omega
    have hmx : mx (rd u (rd w (i : Int))) 0 = max 0 (rd u (rd w (i : Int))) := by
      unfold mx
      split <;> omega
    rw [show (60 : Int) ^ (d + 1) = 60 * 60 ^ d by rw [Int.pow_succ, Int.mul_comm]] at ab
    have b1 := mul_bound a0 hm.2 (show (0 : Int) ≤ 60 ^ d by have := pow60 d; omega) ab
    have b0 := Int.mul_nonneg a0 hm.1
    have b2 := le_mul b0 (pow60 d) b1
    have ez : u.set (rd w (i : Int)).toNat (rd u (rd w (i : Int)) + -1) = List.zipWith (· + ·) u ((rowsD n (-1)).getD (rd w (i : Int)).toNat []) := by
      rw [← hu, zip_row u _ (-1) (by omega)]
      rfl
    simp only [spec_WordWays.l0]
    rw [if_pos (by omega), if_pos (by omega), if_pos hc.1, if_pos (by omega), hmx, w64 (x := rd u (rd w (i : Int)) - 1) (by omega) (by omega), w64 (by omega) (by omega), nat_step (by omega), show rd u (rd w (i : Int)) - 1 = rd u (rd w (i : Int)) + -1 by omega, ez]
    rw [ih k (i + 1) _ _ (by rw [← ez]; simpa using hu) (by
      rw [← ez]
      intro x hx
      rcases List.mem_or_eq_of_mem_set hx with q | q
      · have := hb x q
        omega
      · omega) (by omega) (by omega) b0 b1, drop_at w i (by omega), pw, Int.mul_assoc]
    rfl
theorem specWordWays_ok (u q : List Int) (hn : u.length ≤ 1000) (hl : q.length ≤ 1000) (k : Nat) (hk : 2000 ≤ k) : spec_WordWays.f k u q = some (if UrnIn u ∧ WordIn (u.length : Int) q then prodR (-1) u (cntL u.length q) else -1) := by
  obtain ⟨k, rfl⟩ : ∃ m, k = m + 1 := ⟨k - 1, by omega⟩
  unfold spec_WordWays.f
  rw [spec_urn u (by omega) _ (by omega)]
  by_cases hu : UrnIn u
  · rw [decide_eq_true hu]
    simp only [Option.bind_some, if_true]
    rw [spec_word _ q (by omega) _ (by omega)]
    by_cases hw : WordIn (u.length : Int) q
    · have hu3 := hu.2
      have hq6 := hw.2.2
      have hb : ∀ m : Nat, m ≤ 6 → (1 : Int) * 60 ^ m ≤ 1000000000000000 := by decide
      have h := sww_l0 u.length q hw.1 (by omega) q.length k 0 1 u rfl (fun x hx => by have := hu.1 x hx; omega) (by omega) (by omega) (by omega) (hb _ (by omega))
      rw [decide_eq_true hw, if_pos ⟨hu, hw⟩]
      simp only [Option.bind_some, Bool.not_true, spec_WordWays.j0]
      rw [if_neg (by simp), if_pos (by simp; omega), List.nil_append]
      refine h.trans ?_
      rw [Int.one_mul, List.drop_zero, pw_rise (-1) u q u.length (by omega) (by omega) rfl hw.1]
    · rw [decide_eq_false hw, if_neg (fun h => hw h.2)]
      rfl
  · rw [decide_eq_false hu, if_neg (fun h => hu h.1)]
    rfl
theorem implWordWays_ok (u q : List Int) (hn : u.length ≤ 1000) (hl : q.length ≤ 1000) (k : Nat) (hk : 2000 ≤ k) : impl_WordWays.f k u q = some (if UrnIn u ∧ WordIn (u.length : Int) q then prodR (-1) u (cntL u.length q) else -1) := by
  by_cases h : UrnIn u ∧ WordIn (u.length : Int) q
  · rw [if_pos h]
    exact wordWays_ok u q h.1 h.2.1 (by have := h.2.2.2; omega) k (by omega)
  · rw [if_neg h]
    obtain ⟨k, rfl⟩ : ∃ m, k = m + 1 := ⟨k - 1, by omega⟩
    unfold impl_WordWays.f
    rw [impl_urn u (by omega) _ (by omega)]
    by_cases hu : UrnIn u
    · rw [decide_eq_true hu, Option.bind_some, if_pos rfl, impl_word _ q (by omega) _ (by omega), decide_eq_false (fun g => h ⟨hu, g⟩)]
      rfl
    · rw [decide_eq_false hu]
      rfl
theorem mem_allW (n : Nat) (w : List Int) (h : ∀ x ∈ w, 0 ≤ x ∧ x < (n : Int)) : w ∈ allW n w.length := by
  induction w with
  | nil => simp [allW]
  | cons x w ih =>
    have hx := h x (by simp)
    rw [List.length_cons, allW]
    refine List.mem_flatMap.mpr ⟨x.toNat, List.mem_range.mpr (by omega), List.mem_map.mpr ⟨w, ih fun y hy => h y (by simp [hy]), ?_⟩⟩
    rw [Int.toNat_of_nonneg hx.1]
def okW (n : Nat) (cs w : List Int) : Prop := cntL n w = cs ∧ w.length ≤ 6 ∧ ∀ x ∈ w, 0 ≤ x ∧ x < (n : Int)
instance (n : Nat) (cs w : List Int) : Decidable (okW n cs w) := by unfold okW; infer_instance
mutual
/-- The law's rounds, told of the word alone. -/
def mw0 : Nat → Nat → List Int → List Int → List Int → Int → Option Bool
  | 0, _, _, _, _, _ => none
  | k + 1, n, cs, x4, x6, x7 => if x7 < (x4.length : Int) then (if 0 ≤ x7 then (if ([rd x4 x7] : List Int).length + x6.length < 17592186044416 then mw0 k n cs x4 ([rd x4 x7] ++ x6) (wrap64 (x7 + 1)) else none) else none) else mw1 k n cs x4 x6 0
def mw1 : Nat → Nat → List Int → List Int → List Int → Int → Option Bool
  | 0, _, _, _, _, _ => none
  | k + 1, n, cs, x4, x6, x8 => if (wrap64 (x8 + 1)) < (x4.length : Int) then (if ([] : List Int).length + x4.length < 17592186044416 then (if 0 ≤ (wrap64 (x8 + 1)) then (if 0 ≤ x8 then (if x8 < (([] ++ x4 : List Int).length : Int) then (if x8 < (x4.length : Int) then (if (wrap64 (x8 + 1)) < (([] ++ x4 : List Int).length : Int) then (if okW n cs ((([] ++ x4 : List Int).set (x8 : Int).toNat (rd x4 (wrap64 (x8 + 1)))).set ((wrap64 (x8 + 1)) : Int).toNat (rd x4 x8)) then mw1 k n cs x4 x6 (wrap64 (x8 + 1)) else some false) else none) else none) else none) else none) else none) else none) else (if okW n cs x6 then some true else some false)
end
theorem mw_ok (u : List Int) (cs x4 : List Int) (hu : UrnIn u) (hcs : CountIn (u.length : Int) cs) (hx : ∀ k, 30 ≤ k → impl_CountsOf.f k (u.length : Int) x4 = some cs) :
    ∀ k, (∀ x6 x7, mw0 k u.length cs x4 x6 x7 = some true → laws_FnWordWays.l0 (k + 2200) u x4 (prodR (-1) u cs) x6 x7 = some true) ∧ (∀ x6 x8, mw1 k u.length cs x4 x6 x8 = some true → laws_FnWordWays.l1 (k + 2200) u x4 (prodR (-1) u cs) x6 x8 = some true) := by
  have hu3 := hu.2
  have hlc := hcs.2.2.2
  have hp := prodR_small (-1) (by omega) (by omega) u cs (fun x hx => (hu.1 x hx).2) hcs.1 hcs.2.1
  have hww : ∀ k w, 2000 ≤ k → okW u.length cs w → impl_WordWays.f k u w = some (prodR (-1) u cs) := fun k w hk h => by
    rw [wordWays_ok u w hu h.2.2 h.2.1 k (by omega), h.1]
  intro k
  induction k with
  | zero => exact ⟨fun _ _ h => by simp [mw0] at h, fun _ _ h => by simp [mw1] at h⟩
  | succ k ih =>
    obtain ⟨ih0, ih1⟩ := ih
    refine ⟨fun x6 x7 h => ?_, fun x6 x8 h => ?_⟩
    · rw [show k + 1 + 2200 = (k + 2200) + 1 by omega]
      unfold mw0 at h
      unfold laws_FnWordWays.l0
      by_cases c : x7 < (x4.length : Int)
      · rw [if_pos c] at h ⊢
        by_cases c1 : 0 ≤ x7
        · rw [if_pos c1] at h ⊢
          simp only [Option.bind_some]
          by_cases c2 : ([rd x4 x7] : List Int).length + x6.length < 17592186044416
          · rw [if_pos c2] at h ⊢
            exact ih0 _ _ h
          · rw [if_neg c2] at h
            cases h
        · rw [if_neg c1] at h
          cases h
      · rw [if_neg c] at h ⊢
        exact ih1 _ _ h
    · rw [show k + 1 + 2200 = (k + 2200) + 1 by omega]
      unfold mw1 at h
      unfold laws_FnWordWays.l1
      by_cases c : (wrap64 (x8 + 1)) < (x4.length : Int)
      · rw [if_pos c] at h ⊢
        simp only [Option.bind_some]
        by_cases c1 : ([] : List Int).length + x4.length < 17592186044416
        · rw [if_pos c1] at h ⊢
          by_cases c2 : 0 ≤ (wrap64 (x8 + 1))
          · rw [if_pos c2] at h ⊢
            by_cases c3 : 0 ≤ x8
            · rw [if_pos c3] at h ⊢
              by_cases c4 : x8 < (([] ++ x4 : List Int).length : Int)
              · rw [if_pos c4] at h ⊢
                by_cases c5 : x8 < (x4.length : Int)
                · rw [if_pos c5] at h ⊢
                  by_cases c6 : (wrap64 (x8 + 1)) < (([] ++ x4 : List Int).length : Int)
                  · rw [if_pos c6] at h ⊢
                    by_cases c7 : okW u.length cs ((([] ++ x4 : List Int).set (x8 : Int).toNat (rd x4 (wrap64 (x8 + 1)))).set ((wrap64 (x8 + 1)) : Int).toNat (rd x4 x8))
                    · rw [if_pos c7] at h
                      rw [hww _ _ (by omega) c7]
                      simp only [Option.bind_some]
                      rw [if_pos trivial]
                      exact ih1 _ _ h
                    · rw [if_neg c7] at h
                      cases h
                  · rw [if_neg c6] at h
                    cases h
                · rw [if_neg c5] at h
                  cases h
              · rw [if_neg c4] at h
                cases h
            · rw [if_neg c3] at h
              cases h
          · rw [if_neg c2] at h
            cases h
        · rw [if_neg c1] at h
          cases h
      · rw [if_neg c] at h ⊢
        by_cases c1 : okW u.length cs x6
        · rw [hx _ (by omega)]
          simp only [Option.bind_some]
          rw [hww _ _ (by omega) c1]
          simp only [Option.bind_some]
          have hm := nW_multi u.length cs hcs
          have h0 : 0 ≤ nW u.length cs := by unfold nW; omega
          have h9 := nW_le u.length cs hcs
          have b0 := Int.mul_nonneg hp.1 h0
          have b1 := Int.mul_le_mul hp.2 h9 h0 (by omega)
          rw [if_pos trivial, countWays_ok u cs (by omega) (by omega) _ (by omega), if_pos ⟨hu, hcs⟩]
          simp only [Option.bind_some]
          rw [wordsWith_ok u.length cs (by omega) _ (by omega), if_pos hcs]
          simp only [Option.bind_some]
          rw [w64 (by omega) (by omega)]
          simp
        · rw [if_neg c1] at h
          cases h
def wwCheck (n m : Nat) : Bool := (allW n m).all fun w => decide (mw0 100 n (cntL n w) w [] 0 = some true)
theorem ww_1_0 : wwCheck 1 0 = true := by kernel_rfl
theorem ww_1_1 : wwCheck 1 1 = true := by kernel_rfl
theorem ww_1_2 : wwCheck 1 2 = true := by kernel_rfl
theorem ww_1_3 : wwCheck 1 3 = true := by kernel_rfl
theorem ww_1_4 : wwCheck 1 4 = true := by kernel_rfl
theorem ww_1_5 : wwCheck 1 5 = true := by kernel_rfl
theorem ww_2_0 : wwCheck 2 0 = true := by kernel_rfl
theorem ww_2_1 : wwCheck 2 1 = true := by kernel_rfl
theorem ww_2_2 : wwCheck 2 2 = true := by kernel_rfl
theorem ww_2_3 : wwCheck 2 3 = true := by kernel_rfl
theorem ww_2_4 : wwCheck 2 4 = true := by kernel_rfl
theorem ww_2_5 : wwCheck 2 5 = true := by kernel_rfl
theorem ww_3_0 : wwCheck 3 0 = true := by kernel_rfl
theorem ww_3_1 : wwCheck 3 1 = true := by kernel_rfl
theorem ww_3_2 : wwCheck 3 2 = true := by kernel_rfl
theorem ww_3_3 : wwCheck 3 3 = true := by kernel_rfl
theorem ww_3_4 : wwCheck 3 4 = true := by kernel_rfl
theorem ww_3_5 : wwCheck 3 5 = true := by kernel_rfl
theorem ww_at (n m : Nat) (h1 : 1 ≤ n) (h3 : n ≤ 3) (hm : m ≤ 5) : wwCheck n m = true := by
  rcases (by omega : n = 1 ∨ n = 2 ∨ n = 3) with rfl | rfl | rfl
  · rcases (by omega : m = 0 ∨ m = 1 ∨ m = 2 ∨ m = 3 ∨ m = 4 ∨ m = 5) with rfl | rfl | rfl | rfl | rfl | rfl
    · exact ww_1_0
    · exact ww_1_1
    · exact ww_1_2
    · exact ww_1_3
    · exact ww_1_4
    · exact ww_1_5
  · rcases (by omega : m = 0 ∨ m = 1 ∨ m = 2 ∨ m = 3 ∨ m = 4 ∨ m = 5) with rfl | rfl | rfl | rfl | rfl | rfl
    · exact ww_2_0
    · exact ww_2_1
    · exact ww_2_2
    · exact ww_2_3
    · exact ww_2_4
    · exact ww_2_5
  · rcases (by omega : m = 0 ∨ m = 1 ∨ m = 2 ∨ m = 3 ∨ m = 4 ∨ m = 5) with rfl | rfl | rfl | rfl | rfl | rfl
    · exact ww_3_0
    · exact ww_3_1
    · exact ww_3_2
    · exact ww_3_3
    · exact ww_3_4
    · exact ww_3_5
theorem word_draw_l0 (l : List Int) (n odd : Int) (hl : ∀ x ∈ l, 0 ≤ x ∧ x ≤ 255) (hlen : l.length ≤ 2000) (d : Nat) :
    ∀ (k : Nat) (acc : List Int) (p : Int), acc.length + d ≤ 4 → d + 1 < k → 0 ≤ p → p + (d : Int) ≤ 500000 →
      ∃ w q, spec_l20Word.l0 k n odd acc (d : Int) l p = some (w, q) ∧ (w.length ≤ 5 ∨ w.length = 7) := by
  induction d with
  | zero =>
    intro k acc p hd hk p0 p1
    obtain ⟨k, rfl⟩ : ∃ n, k = n + 2 := ⟨k - 2, by omega⟩
    obtain ⟨r1, e1, -⟩ := pick_ok k l p odd hl hlen p0 (by omega)
    obtain ⟨r2, e2, -⟩ := pick_ok k l (p + 1) 2 hl hlen (by omega) (by omega)
    obtain ⟨r3, e3, -⟩ := pick_ok k l p 2 hl hlen (by omega) (by omega)
    simp only [spec_l20Word.l0]
    rw [if_neg (by omega)]
    unfold spec_l20Rd_odd.f
    by_cases c0 : odd > 0
    · rw [if_pos c0, e1]
      simp only [Option.bind_some]
      by_cases c1 : (r1 == wrap64 (odd - 1)) = true
      · rw [if_pos c1, e2]
        simp only [Option.bind_some]
        by_cases c2 : r2 = 0
        · rw [if_pos c2, if_pos (by omega)]
          exact ⟨_, _, rfl, Or.inl (by simp; omega)⟩
        · rw [if_neg c2]
          exact ⟨_, _, rfl, Or.inr rfl⟩
      · rw [if_neg c1]
        exact ⟨_, _, rfl, Or.inl (by omega)⟩
    · rw [if_neg c0]
      simp only [Option.bind_some]
      rw [if_neg (by simp)]
      exact ⟨_, _, rfl, Or.inl (by omega)⟩
  | succ d ih =>
    intro k acc p hd hk p0 p1
    obtain ⟨k, rfl⟩ : ∃ n, k = n + 2 := ⟨k - 2, by omega⟩
    obtain ⟨r1, e1, -⟩ := pick_ok k l p (mx n 1) hl hlen p0 (by omega)
    obtain ⟨w, q, e, h⟩ := ih (k + 1) (acc ++ [r1]) (p + 1) (by simp; omega) (by omega) (by omega) (by omega)
    refine ⟨w, q, ?_, h⟩
    rw [spec_l20Word.l0, if_pos (by omega), e1]
    simp only [Option.bind_some]
    rw [if_pos (by omega), w64 (by omega) (by omega), show ((d + 1 : Nat) : Int) - 1 = (d : Int) by omega]
    exact e
theorem draw_ok (l : List Int) (hl : ∀ x ∈ l, (Lit.int .u8 x).wf = true) (k : Nat) (hk : 100 ≤ k) : ∃ u w, spec_DrawWordWays.f k l = some (u, w) ∧ DrawnU u ∧ (w.length ≤ 5 ∨ w.length = 7) := by
  obtain ⟨k, rfl⟩ : ∃ m, k = m + 1 := ⟨k - 1, by omega⟩
  obtain ⟨l', e0, hlen, hb⟩ := open_ok l hl
  obtain ⟨u, q, e, h, q0, q1⟩ := urn_draw l' 14 0 (by omega) (by omega) (by omega) hb hlen (k + 1) (by omega)
  obtain ⟨r1, e1, a1, -, b1⟩ := pick_ok k l' q 5 hb hlen q0 (by omega)
  have b1 := b1 (by omega)
  obtain ⟨w, q', e', h'⟩ := word_draw_l0 l' (u.length : Int) 14 hb hlen r1.toNat (k + 1) [] (q + 1) (by simp; omega) (by omega) (by omega) (by omega)
  rw [Int.toNat_of_nonneg a1] at e'
  refine ⟨u, w, ?_, h, h'⟩
  unfold spec_DrawWordWays.f
  simp only [e0, Option.bind_some]
  unfold spec_l20Drawn.f
  simp only [e, Option.bind_some]
  unfold spec_l20Word.f
  simp only [e1, Option.bind_some, e']
theorem drawn_len {u : List Int} (h : DrawnU u) : u.length ≤ 4 := by
  rcases h with rfl | rfl | ⟨a, t, rfl, hl, -⟩
  · simp
  · simp
  · simp only [List.length_cons]
    omega
theorem FnWordWays : laws_FnWordWays.Pure := by
  intro l _ _ hl
  refine ⟨3000, ?_⟩
  obtain ⟨u, w, e, h, hw7⟩ := draw_ok l hl 3000 (by omega)
  have hn := drawn_len h
  unfold laws_FnWordWays.f
  by_cases hlen : (l.length : Int) > 1048576
  · rw [if_pos hlen]
  · rw [if_neg hlen, e]
    simp only [Option.bind_some]
    rw [implWordWays_ok u w (by omega) (by omega) 3000 (by omega), specWordWays_ok u w (by omega) (by omega) 3000 (by omega)]
    simp only [Option.bind_some]
    rw [if_pos trivial]
    by_cases hv : UrnIn u ∧ WordIn (u.length : Int) w
    · have hv' := hv
      obtain ⟨hu, hw⟩ := hv
      have h3 := hu.2
      have h6 := hw.2.2
      have hm := mem_allW u.length w hw.1
      have hk := words_ok u.length w.length (by omega) (by omega) (by omega)
      have hcn : CountIn (u.length : Int) (cntL u.length w) := by
        have hs := cnt_sum u.length w.length (by omega) (by omega) (by omega) w hm
        have hp := cnt_pos u.length w
        exact ⟨hp.1, by omega, by omega, by omega⟩
      have hp := prodR_small (-1) (by omega) (by omega) u (cntL u.length w) (fun x hx => (hu.1 x hx).2) hcn.1 hcn.2.1
      rw [if_pos hv', if_neg (by omega)]
      have key := ww_at u.length w.length (by omega) (by omega) (by omega)
      have h2 := of_decide_eq_true (List.all_eq_true.mp key w hm)
      exact lift (k := 2300) (fun k => (laws_FnWordWays.mono_l k).1 _ _ _ _ _) ((mw_ok u _ w hu hcn (hk.2 w hm).2.2 100).1 [] 0 h2) (by omega)
    · rw [if_neg hv, if_pos (by omega), if_pos rfl, alive_lift 3000 (by omega)]
      rfl

end Go.Proofs.Ythpjeinjldfmjaa.Pure
