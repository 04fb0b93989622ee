/- The law FnRoomRowOk: rows of nothing are rows, and rows from behind are rows just if they are; it holds at every code. -/
import Derived.Test.YtmfommidbijloaaPFnRoomRowOkx2
import Derived.Test.YtmfommidbijloaaWSized
import Derived.Test.YtmfommidbijloaaWSized
import Derived.Test.YtmfommidbijloaaWSized
namespace Go.Proofs.Ytmfommidbijloaa.Pure
open Go.RowKit Go.Proofs.Ytmfommidbijloaa.PFnRoomRowOk Go.Proofs.YtmfommidbijloaaW.PrintWords Go.Proofs.YtmfommidbijloaaW.PrintLast
theorem w64 {x : Int} (h0 : -9223372036854775808 ≤ x) (h1 : x ≤ 9223372036854775807) : wrap64 x = x := by
  unfold wrap64
  omega
theorem fits {x : Int} (h : (Lit.int .i64 x).wf = true) : -9223372036854775808 ≤ x ∧ x ≤ 9223372036854775807 := by
  simp only [Lit.wf, Bool.and_eq_true, decide_eq_true_eq] at h
  exact h
theorem fits8 {x : Int} (h : (Lit.int .u8 x).wf = true) : 0 ≤ x ∧ x ≤ 255 := by
  simp only [Lit.wf, Bool.and_eq_true, decide_eq_true_eq] at h
  exact h

theorem xor_pos (a b : Int) (ha : 0 ≤ a) (ha1 : a < 1000000000) (hb : 0 ≤ b) (hb1 : b < 1000000000) : 0 ≤ Go.bits .xor .i64 a b := by
  obtain ⟨m, rfl⟩ := Int.eq_ofNat_of_zero_le ha
  obtain ⟨n, rfl⟩ := Int.eq_ofNat_of_zero_le hb
  have hm : m < 2 ^ 30 := by omega
  have hn : n < 2 ^ 30 := by omega
  have hx : m ^^^ n < 2 ^ 30 := Nat.xor_lt_two_pow hm hn
  have e1 : m % 2 ^ 64 = m := Nat.mod_eq_of_lt (by omega)
  have e2 : n % 2 ^ 64 = n := Nat.mod_eq_of_lt (by omega)
  have e : (BitVec.ofNat 64 m ^^^ BitVec.ofNat 64 n).toNat = m ^^^ n := by
    rw [BitVec.toNat_xor, BitVec.toNat_ofNat, BitVec.toNat_ofNat, e1, e2]
  show 0 ≤ IntKind.i64.wrap (((BitVec.ofNat 64 m ^^^ BitVec.ofNat 64 n).toNat : Nat) : Int)
  rw [e, IntKind.wrap_i64]
  omega
theorem rd_u8 {l : List Int} (h : ∀ x ∈ l, 0 ≤ x ∧ x ≤ 255) (i : Int) : 0 ≤ rd l i ∧ rd l i ≤ 255 := by
  unfold rd
  rw [List.getD_eq_getElem?_getD]
  cases e : l[i.toNat]? with
  | none => simp
  | some x => exact h x (List.mem_of_getElem? e)
theorem tmod_in {x n : Int} (hx : 0 ≤ x) (hn : 1 ≤ n) : 0 ≤ Int.tmod x n ∧ Int.tmod x n < n := by
  rw [Int.tmod_eq_emod_of_nonneg hx]
  exact ⟨Int.emod_nonneg _ (by omega), Int.emod_lt_of_pos _ (by omega)⟩
theorem tdiv_in {x n : Int} (hx : 0 ≤ x) (hn : 1 ≤ n) : 0 ≤ Int.tdiv x n ∧ Int.tdiv x n ≤ x := by
  rw [Int.tdiv_eq_ediv_of_nonneg hx]
  exact ⟨Int.ediv_nonneg hx (by omega), Int.ediv_le_self _ hx⟩
/-- What a reader picks: a number below n, and one place further. -/
theorem pick_ok (k : Nat) (l : List Int) (p n : Int) (hl : ∀ x ∈ l, 0 ≤ x ∧ x ≤ 255) (hlen : l.length ≤ 2000) (hp : 0 ≤ p) (hp1 : p ≤ 1000000) :
    ∃ r, spec_l20Rd_pick.f (k + 1) l p n = some (r, p + 1) ∧ 0 ≤ r ∧ (n < 1 → r = 0) ∧ (1 ≤ n → r < n) := by
  unfold spec_l20Rd_pick.f
  have wp : wrap64 (p + 1) = p + 1 := w64 (by omega) (by omega)
  by_cases hn : n < 1
  · rw [if_pos hn]
    exact ⟨0, by simp [spec_l20Rd_pick.j0, wp], by omega, fun _ => rfl, fun h => by omega⟩
  · rw [if_neg hn]
    by_cases h0 : (l.length : Int) = 0
    · exact ⟨0, by simp [spec_l20Rd_pick.j0, wp, h0], by omega, fun _ => rfl, fun h => by omega⟩
    · have hb : ((l.length : Int) == 0) = false := by simpa using h0
      rw [hb, wp]
      have wq : wrap64 (p + 1 - 1) = p := by rw [w64 (by omega) (by omega)]; omega
      by_cases hlt : p < (l.length : Int)
      · obtain ⟨r0, r1⟩ := rd_u8 hl p
        have wr : wrap64 (rd l p) = rd l p := w64 (by omega) (by omega)
        have t := tmod_in r0 (show 1 ≤ n by omega)
        refine ⟨Int.tmod (rd l p) n, ?_, t.1, fun h => absurd h hn, fun _ => t.2⟩
        simp only [spec_l20Rd_pick.j0]
        rw [if_neg (by simp), wq, if_pos hlt, if_pos hp, if_neg (by omega), wr]
      · have hL : 1 ≤ (l.length : Int) := by omega
        have t1 := tmod_in hp hL
        have w7 : wrap64 (p * 7) = p * 7 := w64 (by omega) (by omega)
        have w73 : wrap64 (p * 7 + 3) = p * 7 + 3 := w64 (by omega) (by omega)
        have t2 := tmod_in (show 0 ≤ p * 7 + 3 by omega) hL
        obtain ⟨a0, a1⟩ := rd_u8 hl (Int.tmod p (l.length : Int))
        obtain ⟨b0, b1⟩ := rd_u8 hl (Int.tmod (p * 7 + 3) (l.length : Int))
        obtain ⟨q0, q1⟩ := tdiv_in hp hL
        have wa : wrap64 (rd l (Int.tmod p (l.length : Int))) = rd l (Int.tmod p (l.length : Int)) := w64 (by omega) (by omega)
        have wb : wrap64 (rd l (Int.tmod (p * 7 + 3) (l.length : Int))) = rd l (Int.tmod (p * 7 + 3) (l.length : Int)) := w64 (by omega) (by omega)
        have wc : wrap64 (Int.tdiv p (l.length : Int)) = Int.tdiv p (l.length : Int) := w64 (by omega) (by omega)
        generalize hA : rd l (Int.tmod p (l.length : Int)) = A at *
        generalize hB : rd l (Int.tmod (p * 7 + 3) (l.length : Int)) = B at *
        generalize hQ : Int.tdiv p (l.length : Int) = Q at *
        have e : wrap64 (wrap64 (wrap64 (wrap64 (wrap64 A * 131) + wrap64 (wrap64 B * 1117)) + wrap64 (p * 29)) + wrap64 (wrap64 Q * 53)) = A * 131 + B * 1117 + p * 29 + Q * 53 := by
          rw [wa, wb, wc, w64 (x := A * 131) (by omega) (by omega), w64 (x := B * 1117) (by omega) (by omega), w64 (x := p * 29) (by omega) (by omega), w64 (x := Q * 53) (by omega) (by omega),
            w64 (x := A * 131 + B * 1117) (by omega) (by omega), w64 (x := A * 131 + B * 1117 + p * 29) (by omega) (by omega), w64 (by omega) (by omega)]
        obtain ⟨d0, d1⟩ := tdiv_in (show 0 ≤ A * 131 + B * 1117 + p * 29 + Q * 53 by omega) (show (1 : Int) ≤ 64 by omega)
        have wd : wrap64 (Int.tdiv (A * 131 + B * 1117 + p * 29 + Q * 53) 64) = Int.tdiv (A * 131 + B * 1117 + p * 29 + Q * 53) 64 := w64 (by omega) (by omega)
        have hx := xor_pos (A * 131 + B * 1117 + p * 29 + Q * 53) (Int.tdiv (A * 131 + B * 1117 + p * 29 + Q * 53) 64) (by omega) (by omega) d0 (by omega)
        have t := tmod_in hx (show 1 ≤ n by omega)
        refine ⟨_, ?_, t.1, fun h => absurd h hn, fun _ => t.2⟩
        simp only [spec_l20Rd_pick.j0]
        rw [if_neg (by simp), wq, if_neg hlt, if_neg h0, if_pos t1.1, if_pos t1.2, w7, w73, if_pos t2.1, if_pos t2.2, if_neg (by omega), hA, hB, hQ, e, wd]
/-- What is read of a code. -/
theorem open_ok (l : List Int) (hl : ∀ x ∈ l, (Lit.int .u8 x).wf = true) : ∃ l', spec_l20Open.f l = some (l', 0) ∧ l'.length ≤ 2000 ∧ ∀ x ∈ l', 0 ≤ x ∧ x ≤ 255 := by
  unfold spec_l20Open.f
  by_cases h : (l.length : Int) > 2000
  · rw [if_pos h, if_pos (by omega)]
    exact ⟨_, rfl, by simp [List.length_take]; omega, fun x hx => fits8 (hl x (List.mem_of_mem_take hx))⟩
  · rw [if_neg h]
    exact ⟨_, rfl, by omega, fun x hx => fits8 (hl x hx)⟩

theorem nat_step {i : Nat} (h : i < 1000000000000) : wrap64 ((i : Int) + 1) = ((i + 1 : Nat) : Int) := by
  rw [w64 (by omega) (by omega)]
  omega
theorem rd_nat (l : List Int) (i : Nat) : rd l (i : Int) = l.getD i 0 := by
  unfold rd
  rw [Int.toNat_natCast]
theorem rd_get (l : List Int) (i : Nat) (h : i < l.length) : rd l (i : Int) = l[i] := by
  rw [rd_nat]
  simp [List.getD_eq_getElem?_getD, List.getElem?_eq_getElem h]
theorem drop_at (l : List Int) (i : Nat) (h : i < l.length) : l.drop i = rd l (i : Int) :: l.drop (i + 1) := by
  rw [List.drop_eq_getElem_cons h, rd_get l i h]
theorem take_at (l : List Int) (i : Nat) (h : i < l.length) : l.take (i + 1) = l.take i ++ [rd l (i : Int)] := by
  rw [List.take_succ_eq_append_getElem h, rd_get l i h]
theorem beq_dec (x y : Int) : (x == y) = decide (x = y) := rfl
theorem l1In_ok (x lo hi : Int) : spec_l1In.f x lo hi = some (decide (lo ≤ x ∧ x ≤ hi)) := by
  unfold spec_l1In.f
  by_cases h : x ≥ lo
  · simp [h]
  · simp [h]

theorem tdiv19 {r : Int} (h0 : 0 ≤ r) (h1 : r < 20) : 0 ≤ Int.tdiv r 19 ∧ Int.tdiv r 19 ≤ 1 := by
  rw [Int.tdiv_eq_ediv_of_nonneg h0]
  omega
theorem tdiv29 {r : Int} (h0 : 0 ≤ r) (h1 : r < 30) : 0 ≤ Int.tdiv r 29 ∧ Int.tdiv r 29 ≤ 1 := by
  rw [Int.tdiv_eq_ediv_of_nonneg h0]
  omega
theorem tdiv59 {r : Int} (h0 : 0 ≤ r) (h1 : r < 60) : 0 ≤ Int.tdiv r 59 ∧ Int.tdiv r 59 ≤ 1 := by
  rw [Int.tdiv_eq_ediv_of_nonneg h0]
  omega
theorem row_l0 (l : List Int) (hl : ∀ x ∈ l, 0 ≤ x ∧ x ≤ 255) (hlen : l.length ≤ 2000) (m : Int) (m0 : 1 ≤ m) (m1 : m ≤ 6) (d : Nat) :
    ∀ (k : Nat) (acc : List Int) (i : Nat) (p : Int), i + d = 9 → d + 1 < k → 0 ≤ p → p ≤ 100 + 3 * (i : Int) → acc.length = i → (∀ x ∈ acc, -9 ≤ x ∧ x ≤ 8) →
      ∃ b row q, spec_l20RoomRow.l0 k m acc (i : Int) l p = some (b, row, q) ∧ 1 ≤ b ∧ b ≤ 12 ∧ row.length ≤ 9 ∧ (∀ x ∈ row, -9 ≤ x ∧ x ≤ 8) ∧ 0 ≤ q ∧ q ≤ 1000 := by
  induction d with
  | zero =>
    intro k acc i p hi hk p0 p1 hacc hx
    obtain ⟨k, rfl⟩ : ∃ n, k = n + 2 := ⟨k - 2, by omega⟩
    obtain ⟨r1, e1, a1, -, b1⟩ := pick_ok k l p 20 hl hlen p0 (by omega)
    have b1 := b1 (by omega)
    obtain ⟨r2, e2, a2, -, b2⟩ := pick_ok k l (p + 1) 30 hl hlen (by omega) (by omega)
    have b2 := b2 (by omega)
    obtain ⟨x1, y1⟩ := tdiv19 a1 b1
    obtain ⟨x2, y2⟩ := tdiv29 a2 b2
    refine ⟨m + Int.tdiv r2 29 * 6, acc, p + 1 + 1, ?_, by omega, by omega, by omega, hx, by omega, by omega⟩
    show (spec_l20Rd_pick.f (k + 1) l p 20).bind _ = _
    rw [e1]
    simp only [Option.bind_some]
    rw [w64 (x := Int.tdiv r1 19) (by omega) (by omega), w64 (x := m + Int.tdiv r1 19) (by omega) (by omega), if_neg (by omega), e2]
    simp only [Option.bind_some]
    rw [w64 (x := Int.tdiv r2 29) (by omega) (by omega), w64 (x := Int.tdiv r2 29 * 6) (by omega) (by omega), w64 (by omega) (by omega)]
  | succ d ih =>
    intro k acc i p hi hk p0 p1 hacc hx
    obtain ⟨k, rfl⟩ : ∃ n, k = n + 2 := ⟨k - 2, by omega⟩
    obtain ⟨r1, e1, a1, -, b1⟩ := pick_ok k l p 20 hl hlen p0 (by omega)
    have b1 := b1 (by omega)
    obtain ⟨x1, y1⟩ := tdiv19 a1 b1
    by_cases hc : (i : Int) ≤ m + Int.tdiv r1 19
    · obtain ⟨r2, e2, a2, -, b2⟩ := pick_ok k l (p + 1) 9 hl hlen (by omega) (by omega)
      have b2 := b2 (by omega)
      obtain ⟨r3, e3, a3, -, b3⟩ := pick_ok k l (p + 1 + 1) 60 hl hlen (by omega) (by omega)
      have b3 := b3 (by omega)
      obtain ⟨x3, y3⟩ := tdiv59 a3 b3
      obtain ⟨b, row, q, e, h⟩ := ih (k + 1) (acc ++ [r2 - Int.tdiv r3 59 * 9]) (i + 1) (p + 1 + 1 + 1) (by omega) (by omega) (by omega) (by omega) (by simp; omega) (by
        intro x hx'
        rcases List.mem_append.mp hx' with h | h
        · exact hx x h
        · have := List.mem_singleton.mp h
          omega)
      refine ⟨b, row, q, ?_, h⟩
      show (spec_l20Rd_pick.f (k + 1) l p 20).bind _ = _
      rw [e1]
      simp only [Option.bind_some]
      rw [w64 (x := Int.tdiv r1 19) (by omega) (by omega), w64 (x := m + Int.tdiv r1 19) (by omega) (by omega), if_pos hc, e2]
      simp only [Option.bind_some]
      rw [e3]
      simp only [Option.bind_some]
      rw [if_pos (by omega), w64 (x := Int.tdiv r3 59) (by omega) (by omega), w64 (x := Int.tdiv r3 59 * 9) (by omega) (by omega), w64 (x := r2 - Int.tdiv r3 59 * 9) (by omega) (by omega), nat_step (by omega)]
      exact e
    · obtain ⟨r2, e2, a2, -, b2⟩ := pick_ok k l (p + 1) 30 hl hlen (by omega) (by omega)
      have b2 := b2 (by omega)
      obtain ⟨x2, y2⟩ := tdiv29 a2 b2
      refine ⟨m + Int.tdiv r2 29 * 6, acc, p + 1 + 1, ?_, by omega, by omega, by omega, hx, by omega, by omega⟩
      show (spec_l20Rd_pick.f (k + 1) l p 20).bind _ = _
      rw [e1]
      simp only [Option.bind_some]
      rw [w64 (x := Int.tdiv r1 19) (by omega) (by omega), w64 (x := m + Int.tdiv r1 19) (by omega) (by omega), if_neg hc, e2]
      simp only [Option.bind_some]
      rw [w64 (x := Int.tdiv r2 29) (by omega) (by omega), w64 (x := Int.tdiv r2 29 * 6) (by omega) (by omega), w64 (by omega) (by omega)]
theorem row_draw (l : List Int) (hl : ∀ x ∈ l, 0 ≤ x ∧ x ≤ 255) (hlen : l.length ≤ 2000) :
    ∃ b row q, spec_l20RoomRow.f 300 l 0 = some (b, row, q) ∧ 1 ≤ b ∧ b ≤ 12 ∧ row.length ≤ 9 ∧ (∀ x ∈ row, -9 ≤ x ∧ x ≤ 8) ∧ 0 ≤ q ∧ q ≤ 1000 := by
  obtain ⟨r1, e1, a1, -, b1⟩ := pick_ok 299 l 0 6 hl hlen (by omega) (by omega)
  have b1 := b1 (by omega)
  obtain ⟨b, row, q, e, h⟩ := row_l0 l hl hlen (1 + r1) (by omega) (by omega) 9 300 [] 0 (0 + 1) (by omega) (by omega) (by omega) (by omega) rfl (by simp)
  refine ⟨b, row, q, ?_, h⟩
  unfold spec_l20RoomRow.f
  rw [e1]
  simp only [Option.bind_some]
  rw [w64 (x := 1 + r1) (by omega) (by omega)]
  exact e
theorem alive_ok (k : Nat) (h : 20 ≤ k) : laws_alive.f k = some true :=
  at_rounds laws_alive.mono h (by kernel_rfl)

def RowIn (b : Int) (l : List Int) : Prop := (∀ x ∈ l, 0 ≤ x ∧ x ≤ 10000000) ∧ (1 ≤ b ∧ b ≤ 6) ∧ (l.length : Int) = b + 1
instance (b : Int) (l : List Int) : Decidable (RowIn b l) := by unfold RowIn; infer_instance
def TailIn (b : Int) (l t : List Int) : Prop := (∀ x ∈ t, 0 ≤ x ∧ x ≤ 10000000) ∧ (1 ≤ b ∧ b ≤ 6) ∧ (l.length : Int) = b + 1
instance (b : Int) (l t : List Int) : Decidable (TailIn b l t) := by unfold TailIn; infer_instance
theorem tail_cons (b : Int) (l t : List Int) (x : Int) : TailIn b l (x :: t) ↔ (0 ≤ x ∧ x ≤ 10000000) ∧ TailIn b l t := by
  unfold TailIn
  simp only [List.mem_cons, forall_eq_or_imp, and_assoc]
theorem spec_row_l0 (b : Int) (l : List Int) (hn : l.length ≤ 2000000) (d : Nat) : ∀ (k i : Nat), i + d = l.length → d < k →
    spec_RoomRowOk.l0 k b l (i : Int) = some (decide (TailIn b l (l.drop i))) := by
  induction d with
  | zero =>
    intro k i hi hk
    obtain ⟨k, rfl⟩ : ∃ m, k = m + 1 := ⟨k - 1, by omega⟩
    simp only [spec_RoomRowOk.l0]
    rw [if_neg (by omega), l1In_ok, List.drop_of_length_le (by omega)]
    unfold TailIn
    by_cases h : 1 ≤ b ∧ b ≤ 6
    · rw [w64 (x := b + 1) (by omega) (by omega)]
      simp [h, beq_dec]
    · simp [h]
  | succ d ih =>
    intro k i hi hk
    obtain ⟨k, rfl⟩ : ∃ m, k = m + 1 := ⟨k - 1, by omega⟩
    simp only [spec_RoomRowOk.l0]
    rw [if_pos (by omega), if_pos (by omega), l1In_ok, drop_at l i (by omega), nat_step (by omega), ih k (i + 1) (by omega) (by omega)]
    simp only [Option.bind_some, tail_cons]
    by_cases h : 0 ≤ rd l (i : Int) ∧ rd l (i : Int) ≤ 10000000
    · simp [h]
    · simp [h]
theorem spec_row (b : Int) (l : List Int) (hn : l.length ≤ 2000000) (k : Nat) (hk : l.length < k) : spec_RoomRowOk.f k b l = some (decide (RowIn b l)) :=
  spec_row_l0 b l hn l.length k 0 (by omega) hk
theorem impl_row_l0 (b : Int) (l : List Int) (hn : l.length ≤ 2000000) (d : Nat) : ∀ (k i : Nat), i + d = l.length → d < k →
    impl_RoomRowOk.l0 k b l l (l.length : Int) (i : Int) = some (decide (TailIn b l (l.drop i))) := by
  induction d with
  | zero =>
    intro k i hi hk
    obtain ⟨k, rfl⟩ : ∃ m, k = m + 1 := ⟨k - 1, by omega⟩
    simp only [impl_RoomRowOk.l0]
    rw [if_neg (by omega), List.drop_of_length_le (by omega)]
    unfold TailIn
    by_cases h1 : b ≥ 1
    · by_cases h2 : b ≤ 6
      · rw [w64 (x := b + 1) (by omega) (by omega)]
        simp [h1, h2, beq_dec]
      · simp [h1, h2]
    · simp [h1]
  | succ d ih =>
    intro k i hi hk
    obtain ⟨k, rfl⟩ : ∃ m, k = m + 1 := ⟨k - 1, by omega⟩
    simp only [impl_RoomRowOk.l0]
    rw [if_pos (by omega), if_pos (by omega), if_pos (by omega), drop_at l i (by omega), nat_step (by omega), ih k (i + 1) (by omega) (by omega)]
    simp only [tail_cons]
    by_cases h1 : rd l (i : Int) < 0
    · rw [if_pos h1, decide_eq_false (by omega)]
    · rw [if_neg h1]
      by_cases h2 : rd l (i : Int) > 10000000
      · rw [if_pos h2, decide_eq_false (by omega)]
      · rw [if_neg h2]
        have h : 0 ≤ rd l (i : Int) ∧ rd l (i : Int) ≤ 10000000 := by omega
        simp [h]
theorem impl_row (b : Int) (l : List Int) (hn : l.length ≤ 2000000) (k : Nat) (hk : l.length < k) : impl_RoomRowOk.f k b l = some (decide (RowIn b l)) :=
  impl_row_l0 b l hn l.length k 0 (by omega) hk

theorem row_back (b : Int) (l : List Int) : RowIn b l.reverse ↔ RowIn b l := by
  unfold RowIn
  simp
theorem row_zero (b : Int) (b0 : 1 ≤ b) (b1 : b ≤ 6) : RowIn b (List.replicate (b + 1).toNat 0) := by
  refine ⟨fun x hx => ?_, ⟨b0, b1⟩, by simp; omega⟩
  have := (List.mem_replicate.mp hx).2
  omega
theorem law_l0 (b : Int) (b0 : 1 ≤ b) (b1 : b ≤ 6) (l : List Int) (hn : l.length ≤ 9) (d : Nat) : ∀ (k i : Nat), i + d = l.length → d + 30 < k →
    laws_FnRoomRowOk.l0 k b l (decide (RowIn b l)) (l.take i).reverse (i : Int) = some true := by
  induction d with
  | zero =>
    intro k i hi hk
    obtain ⟨k, rfl⟩ : ∃ m, k = m + 1 := ⟨k - 1, by omega⟩
    simp only [laws_FnRoomRowOk.l0]
    have wb : wrap64 (b + 1) = b + 1 := w64 (by omega) (by omega)
    rw [if_neg (by omega), wb, if_pos (by omega), if_pos (by omega), impl_row b _ (by simp; omega) k (by simp; omega), decide_eq_true (row_zero b b0 b1)]
    simp only [Option.bind_some, if_true]
    rw [List.take_of_length_le (by omega), impl_row b _ (by simp; omega) k (by simp; omega)]
    simp only [Option.bind_some, row_back, beq_self_eq_true, if_true]
    rw [alive_ok k (by omega)]
    rfl
  | succ d ih =>
    intro k i hi hk
    obtain ⟨k, rfl⟩ : ∃ m, k = m + 1 := ⟨k - 1, by omega⟩
    simp only [laws_FnRoomRowOk.l0]
    rw [if_pos (by omega), if_pos (by omega)]
    simp only [Option.bind_some]
    rw [if_pos (by simp; omega), nat_step (by omega)]
    have e : [rd l (i : Int)] ++ (l.take i).reverse = (l.take (i + 1)).reverse := by
      rw [take_at l i (by omega)]
      simp
    rw [e]
    exact ih k (i + 1) (by omega) (by omega)
theorem j_bad (b : Int) (row : List Int) (k : Nat) (hk : 20 ≤ k) : laws_FnRoomRowOk.j0 (k + 1) b row false true = some true := by
  simp [laws_FnRoomRowOk.j0, alive_ok k hk]
theorem j_good (b : Int) (row : List Int) (ok : Bool) (k : Nat) : laws_FnRoomRowOk.j0 (k + 1) b row ok false = laws_FnRoomRowOk.l0 k b row ok [] 0 := by
  rw [laws_FnRoomRowOk.j0]
  exact if_neg (by simp)
theorem FnRoomRowOk : laws_FnRoomRowOk.Pure := by
  intro l _ _ hl
  refine ⟨300, ?_⟩
  obtain ⟨l', e0, hlen, hb⟩ := open_ok l hl
  obtain ⟨b, row, q, e, b0, b1, hr, -⟩ := row_draw l' hb hlen
  have ed : spec_DrawRoomRowOk.f 300 l = some (b, row) := by
    unfold spec_DrawRoomRowOk.f
    simp only [e0, Option.bind_some, e]
  unfold laws_FnRoomRowOk.f
  by_cases hc : (l.length : Int) > 1048576
  · rw [if_pos hc]
  · rw [if_neg hc, ed]
    simp only [Option.bind_some]
    rw [impl_row b row (by omega) 300 (by omega), spec_row b row (by omega) 300 (by omega)]
    simp only [Option.bind_some]
    rw [if_neg (by simp), if_neg (by omega)]
    by_cases h6 : b > 6
    · have hno : ¬ RowIn b row := fun h => by unfold RowIn at h; omega
      rw [decide_eq_true h6, decide_eq_false hno]
      exact j_bad b row 299 (by omega)
    · rw [decide_eq_false h6]
      rw [j_good b row _ 299]
      exact law_l0 b b0 (by omega) row hr row.length 299 0 (by omega) (by omega)

end Go.Proofs.Ytmfommidbijloaa.Pure

namespace Go.Proofs.Ytmfommidbijloaa.PrintWords
open Go.ChangeShapes Go.WideShapes
/-- The bound on a slice's length, under the name by which the row looks for it. -/
theorem sized_ints {H : Type} {enc : TypeId × Value → H} {P : Program} {W : World} {base : Nat} {spare : Nat → Bool} {held : Bool} {t e : TypeId} {k : IntKind} {a : Option Addr} {len cap : Nat} {d : DataW H} {ps : List MemPlace} {ts : List TypeId} {ds : List (DataW H)} {j : Nat}
    (hsz : (DataW.weightsEach P ts ds).all (· ≤ reachBytes) = true) (ht : ts[j]? = some t) (hd : ds[j]? = some d) (hu : P.underlying t = some (.slice e)) (he : P.underlying e = some (.int k)) (hc : P.cellsOf e = 1) {B : Nat} (hB : P.bytesOf e = B)
    (h : DataW.Trod enc P W base spare held t (.slice a len cap) d ps) : len * B ≤ 140737488351232 :=
  Go.Proofs.YtmfommidbijloaaW.PrintWords.sized_ints hsz ht hd hu he hc hB h
end Go.Proofs.Ytmfommidbijloaa.PrintWords
