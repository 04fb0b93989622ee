/- The law FnRoomStep: each step has as many ways as balls, and from behind it is the step of the row so turned; it holds at every code. -/
import Derived.Test.YtmfommidbijloaaQFnRoomStepx6
import Derived.Test.YtmfommidbijloaaWSized
import Derived.Test.YtmfommidbijloaaWSized
import Derived.Test.YtmfommidbijloaaWSized
namespace Go.Proofs.Ytmfommidbijloaa.Pure
open Go.RowKit Go.Proofs.Ytmfommidbijloaa.PFnRoomStep Go.Proofs.YtmfommidbijloaaW.PrintWords Go.Proofs.YtmfommidbijloaaW.PrintLast
theorem w64 {x : Int} (h0 : -9223372036854775808 ≤ x) (h1 : x ≤ 9223372036854775807) : wrap64 x = x := by
  unfold wrap64
  omega
theorem fits {x : Int} (h : (Lit.int .i64 x).wf = true) : -9223372036854775808 ≤ x ∧ x ≤ 9223372036854775807 := by
  simp only [Lit.wf, Bool.and_eq_true, decide_eq_true_eq] at h
  exact h
theorem fits8 {x : Int} (h : (Lit.int .u8 x).wf = true) : 0 ≤ x ∧ x ≤ 255 := by
  simp only [Lit.wf, Bool.and_eq_true, decide_eq_true_eq] at h
  exact h

theorem xor_pos (a b : Int) (ha : 0 ≤ a) (ha1 : a < 1000000000) (hb : 0 ≤ b) (hb1 : b < 1000000000) : 0 ≤ Go.bits .xor .i64 a b := by
  obtain ⟨m, rfl⟩ := Int.eq_ofNat_of_zero_le ha
  obtain ⟨n, rfl⟩ := Int.eq_ofNat_of_zero_le hb
  have hm : m < 2 ^ 30 := by omega
  have hn : n < 2 ^ 30 := by omega
  have hx : m ^^^ n < 2 ^ 30 := Nat.xor_lt_two_pow hm hn
  have e1 : m % 2 ^ 64 = m := Nat.mod_eq_of_lt (by omega)
  have e2 : n % 2 ^ 64 = n := Nat.mod_eq_of_lt (by omega)
  have e : (BitVec.ofNat 64 m ^^^ BitVec.ofNat 64 n).toNat = m ^^^ n := by
    rw [BitVec.toNat_xor, BitVec.toNat_ofNat, BitVec.toNat_ofNat, e1, e2]
  show 0 ≤ IntKind.i64.wrap (((BitVec.ofNat 64 m ^^^ BitVec.ofNat 64 n).toNat : Nat) : Int)
  rw [e, IntKind.wrap_i64]
  omega
theorem rd_u8 {l : List Int} (h : ∀ x ∈ l, 0 ≤ x ∧ x ≤ 255) (i : Int) : 0 ≤ rd l i ∧ rd l i ≤ 255 := by
  unfold rd
  rw [List.getD_eq_getElem?_getD]
  cases e : l[i.toNat]? with
  | none => simp
  | some x => exact h x (List.mem_of_getElem? e)
theorem tmod_in {x n : Int} (hx : 0 ≤ x) (hn : 1 ≤ n) : 0 ≤ Int.tmod x n ∧ Int.tmod x n < n := by
  rw [Int.tmod_eq_emod_of_nonneg hx]
  exact ⟨Int.emod_nonneg _ (by omega), Int.emod_lt_of_pos _ (by omega)⟩
theorem tdiv_in {x n : Int} (hx : 0 ≤ x) (hn : 1 ≤ n) : 0 ≤ Int.tdiv x n ∧ Int.tdiv x n ≤ x := by
  rw [Int.tdiv_eq_ediv_of_nonneg hx]
  exact ⟨Int.ediv_nonneg hx (by omega), Int.ediv_le_self _ hx⟩
/-- What a reader picks: a number below n, and one place further. -/
theorem pick_ok (k : Nat) (l : List Int) (p n : Int) (hl : ∀ x ∈ l, 0 ≤ x ∧ x ≤ 255) (hlen : l.length ≤ 2000) (hp : 0 ≤ p) (hp1 : p ≤ 1000000) :
    ∃ r, spec_l20Rd_pick.f (k + 1) l p n = some (r, p + 1) ∧ 0 ≤ r ∧ (n < 1 → r = 0) ∧ (1 ≤ n → r < n) := by
  unfold spec_l20Rd_pick.f
  have wp : wrap64 (p + 1) = p + 1 := w64 (by omega) (by omega)
  by_cases hn : n < 1
  · rw [if_pos hn]
    exact ⟨0, by simp [spec_l20Rd_pick.j0, wp], by omega, fun _ => rfl, fun h => by omega⟩
  · rw [if_neg hn]
    by_cases h0 : (l.length : Int) = 0
    · exact ⟨0, by simp [spec_l20Rd_pick.j0, wp, h0], by omega, fun _ => rfl, fun h => by omega⟩
    · have hb : ((l.length : Int) == 0) = false := by simpa using h0
      rw [hb, wp]
      have wq : wrap64 (p + 1 - 1) = p := by rw [w64 (by omega) (by omega)]; omega
      by_cases hlt : p < (l.length : Int)
      · obtain ⟨r0, r1⟩ := rd_u8 hl p
        have wr : wrap64 (rd l p) = rd l p := w64 (by omega) (by omega)
        have t := tmod_in r0 (show 1 ≤ n by omega)
        refine ⟨Int.tmod (rd l p) n, ?_, t.1, fun h => absurd h hn, fun _ => t.2⟩
        simp only [spec_l20Rd_pick.j0]
        rw [if_neg (by simp), wq, if_pos hlt, if_pos hp, if_neg (by omega), wr]
      · have hL : 1 ≤ (l.length : Int) := by omega
        have t1 := tmod_in hp hL
        have w7 : wrap64 (p * 7) = p * 7 := w64 (by omega) (by omega)
        have w73 : wrap64 (p * 7 + 3) = p * 7 + 3 := w64 (by omega) (by omega)
        have t2 := tmod_in (show 0 ≤ p * 7 + 3 by omega) hL
        obtain ⟨a0, a1⟩ := rd_u8 hl (Int.tmod p (l.length : Int))
        obtain ⟨b0, b1⟩ := rd_u8 hl (Int.tmod (p * 7 + 3) (l.length : Int))
        obtain ⟨q0, q1⟩ := tdiv_in hp hL
        have wa : wrap64 (rd l (Int.tmod p (l.length : Int))) = rd l (Int.tmod p (l.length : Int)) := w64 (by omega) (by omega)
        have wb : wrap64 (rd l (Int.tmod (p * 7 + 3) (l.length : Int))) = rd l (Int.tmod (p * 7 + 3) (l.length : Int)) := w64 (by omega) (by omega)
        have wc : wrap64 (Int.tdiv p (l.length : Int)) = Int.tdiv p (l.length : Int) := w64 (by omega) (by omega)
        generalize hA : rd l (Int.tmod p (l.length : Int)) = A at *
        generalize hB : rd l (Int.tmod (p * 7 + 3) (l.length : Int)) = B at *
        generalize hQ : Int.tdiv p (l.length : Int) = Q at *
        have e : wrap64 (wrap64 (wrap64 (wrap64 (wrap64 A * 131) + wrap64 (wrap64 B * 1117)) + wrap64 (p * 29)) + wrap64 (wrap64 Q * 53)) = A * 131 + B * 1117 + p * 29 + Q * 53 := by
          rw [wa, wb, wc, w64 (x := A * 131) (by omega) (by omega), w64 (x := B * 1117) (by omega) (by omega), w64 (x := p * 29) (by omega) (by omega), w64 (x := Q * 53) (by omega) (by omega),
            w64 (x := A * 131 + B * 1117) (by omega) (by omega), w64 (x := A * 131 + B * 1117 + p * 29) (by omega) (by omega), w64 (by omega) (by omega)]
        obtain ⟨d0, d1⟩ := tdiv_in (show 0 ≤ A * 131 + B * 1117 + p * 29 + Q * 53 by omega) (show (1 : Int) ≤ 64 by omega)
        have wd : wrap64 (Int.tdiv (A * 131 + B * 1117 + p * 29 + Q * 53) 64) = Int.tdiv (A * 131 + B * 1117 + p * 29 + Q * 53) 64 := w64 (by omega) (by omega)
        have hx := xor_pos (A * 131 + B * 1117 + p * 29 + Q * 53) (Int.tdiv (A * 131 + B * 1117 + p * 29 + Q * 53) 64) (by omega) (by omega) d0 (by omega)
        have t := tmod_in hx (show 1 ≤ n by omega)
        refine ⟨_, ?_, t.1, fun h => absurd h hn, fun _ => t.2⟩
        simp only [spec_l20Rd_pick.j0]
        rw [if_neg (by simp), wq, if_neg hlt, if_neg h0, if_pos t1.1, if_pos t1.2, w7, w73, if_pos t2.1, if_pos t2.2, if_neg (by omega), hA, hB, hQ, e, wd]
/-- What is read of a code. -/
theorem open_ok (l : List Int) (hl : ∀ x ∈ l, (Lit.int .u8 x).wf = true) : ∃ l', spec_l20Open.f l = some (l', 0) ∧ l'.length ≤ 2000 ∧ ∀ x ∈ l', 0 ≤ x ∧ x ≤ 255 := by
  unfold spec_l20Open.f
  by_cases h : (l.length : Int) > 2000
  · rw [if_pos h, if_pos (by omega)]
    exact ⟨_, rfl, by simp [List.length_take]; omega, fun x hx => fits8 (hl x (List.mem_of_mem_take hx))⟩
  · rw [if_neg h]
    exact ⟨_, rfl, by omega, fun x hx => fits8 (hl x hx)⟩

theorem nat_step {i : Nat} (h : i < 1000000000000) : wrap64 ((i : Int) + 1) = ((i + 1 : Nat) : Int) := by
  rw [w64 (by omega) (by omega)]
  omega
theorem rd_nat (l : List Int) (i : Nat) : rd l (i : Int) = l.getD i 0 := by
  unfold rd
  rw [Int.toNat_natCast]
theorem rd_get (l : List Int) (i : Nat) (h : i < l.length) : rd l (i : Int) = l[i] := by
  rw [rd_nat]
  simp [List.getD_eq_getElem?_getD, List.getElem?_eq_getElem h]
theorem drop_at (l : List Int) (i : Nat) (h : i < l.length) : l.drop i = rd l (i : Int) :: l.drop (i + 1) := by
  rw [List.drop_eq_getElem_cons h, rd_get l i h]
theorem take_at (l : List Int) (i : Nat) (h : i < l.length) : l.take (i + 1) = l.take i ++ [rd l (i : Int)] := by
  rw [List.take_succ_eq_append_getElem h, rd_get l i h]
theorem beq_dec (x y : Int) : (x == y) = decide (x = y) := rfl
theorem l1In_ok (x lo hi : Int) : spec_l1In.f x lo hi = some (decide (lo ≤ x ∧ x ≤ hi)) := by
  unfold spec_l1In.f
  by_cases h : x ≥ lo
  · simp [h]
  · simp [h]

theorem tdiv19 {r : Int} (h0 : 0 ≤ r) (h1 : r < 20) : 0 ≤ Int.tdiv r 19 ∧ Int.tdiv r 19 ≤ 1 := by
  rw [Int.tdiv_eq_ediv_of_nonneg h0]
  omega
theorem tdiv29 {r : Int} (h0 : 0 ≤ r) (h1 : r < 30) : 0 ≤ Int.tdiv r 29 ∧ Int.tdiv r 29 ≤ 1 := by
  rw [Int.tdiv_eq_ediv_of_nonneg h0]
  omega
theorem tdiv59 {r : Int} (h0 : 0 ≤ r) (h1 : r < 60) : 0 ≤ Int.tdiv r 59 ∧ Int.tdiv r 59 ≤ 1 := by
  rw [Int.tdiv_eq_ediv_of_nonneg h0]
  omega
theorem row_l0 (l : List Int) (hl : ∀ x ∈ l, 0 ≤ x ∧ x ≤ 255) (hlen : l.length ≤ 2000) (m : Int) (m0 : 1 ≤ m) (m1 : m ≤ 6) (d : Nat) :
    ∀ (k : Nat) (acc : List Int) (i : Nat) (p : Int), i + d = 9 → d + 1 < k → 0 ≤ p → p ≤ 100 + 3 * (i : Int) → acc.length = i → (∀ x ∈ acc, -9 ≤ x ∧ x ≤ 8) →
      ∃ b row q, spec_l20RoomRow.l0 k m acc (i : Int) l p = some (b, row, q) ∧ 1 ≤ b ∧ b ≤ 12 ∧ row.length ≤ 9 ∧ (∀ x ∈ row, -9 ≤ x ∧ x ≤ 8) ∧ 0 ≤ q ∧ q ≤ 1000 := by
  induction d with
  | zero =>
    intro k acc i p hi hk p0 p1 hacc hx
    obtain ⟨k, rfl⟩ : ∃ n, k = n + 2 := ⟨k - 2, by omega⟩
    obtain ⟨r1, e1, a1, -, b1⟩ := pick_ok k l p 20 hl hlen p0 (by omega)
    have b1 := b1 (by omega)
    obtain ⟨r2, e2, a2, -, b2⟩ := pick_ok k l (p + 1) 30 hl hlen (by omega) (by omega)
    have b2 := b2 (by omega)
    obtain ⟨x1, y1⟩ := tdiv19 a1 b1
    obtain ⟨x2, y2⟩ := tdiv29 a2 b2
    refine ⟨m + Int.tdiv r2 29 * 6, acc, p + 1 + 1, ?_, by omega, by omega, by omega, hx, by omega, by omega⟩
    show (spec_l20Rd_pick.f (k + 1) l p 20).bind _ = _
    rw [e1]
    simp only [Option.bind_some]
    rw [w64 (x := Int.tdiv r1 19) (by omega) (by omega), w64 (x := m + Int.tdiv r1 19) (by omega) (by omega), if_neg (by omega), e2]
    simp only [Option.bind_some]
    rw [w64 (x := Int.tdiv r2 29) (by omega) (by omega), w64 (x := Int.tdiv r2 29 * 6) (by omega) (by omega), w64 (by omega) (by omega)]
  | succ d ih =>
    intro k acc i p hi hk p0 p1 hacc hx
    obtain ⟨k, rfl⟩ : ∃ n, k = n + 2 := ⟨k - 2, by omega⟩
    obtain ⟨r1, e1, a1, -, b1⟩ := pick_ok k l p 20 hl hlen p0 (by omega)
    have b1 := b1 (by omega)
    obtain ⟨x1, y1⟩ := tdiv19 a1 b1
    by_cases hc : (i : Int) ≤ m + Int.tdiv r1 19
    · obtain ⟨r2, e2, a2, -, b2⟩ := pick_ok k l (p + 1) 9 hl hlen (by omega) (by omega)
      have b2 := b2 (by omega)
      obtain ⟨r3, e3, a3, -, b3⟩ := pick_ok k l (p + 1 + 1) 60 hl hlen (by omega) (by omega)
      have b3 := b3 (by omega)
      obtain ⟨x3, y3⟩ := tdiv59 a3 b3
      obtain ⟨b, row, q, e, h⟩ := ih (k + 1) (acc ++ [r2 - Int.tdiv r3 59 * 9]) (i + 1) (p + 1 + 1 + 1) (by omega) (by omega) (by omega) (by omega) (by simp; omega) (by
        intro x hx'
        rcases List.mem_append.mp hx' with h | h
        · exact hx x h
        · have := List.mem_singleton.mp h
          omega)
      refine ⟨b, row, q, ?_, h⟩
      show (spec_l20Rd_pick.f (k + 1) l p 20).bind _ = _
      rw [e1]
      simp only [Option.bind_some]
      rw [w64 (x := Int.tdiv r1 19) (by omega) (by omega), w64 (x := m + Int.tdiv r1 19) (by omega) (by omega), if_pos hc, e2]
      simp only [Option.bind_some]
      rw [e3]
      simp only [Option.bind_some]
      rw [if_pos (by omega), w64 (x := Int.tdiv r3 59) (by omega) (by omega), w64 (x := Int.tdiv r3 59 * 9) (by omega) (by omega), w64 (x := r2 - Int.tdiv r3 59 * 9) (by omega) (by omega), nat_step (by omega)]
      exact e
    · obtain ⟨r2, e2, a2, -, b2⟩ := pick_ok k l (p + 1) 30 hl hlen (by omega) (by omega)
      have b2 := b2 (by omega)
      obtain ⟨x2, y2⟩ := tdiv29 a2 b2
      refine ⟨m + Int.tdiv r2 29 * 6, acc, p + 1 + 1, ?_, by omega, by omega, by omega, hx, by omega, by omega⟩
      show (spec_l20Rd_pick.f (k + 1) l p 20).bind _ = _
      rw [e1]
      simp only [Option.bind_some]
      rw [w64 (x := Int.tdiv r1 19) (by omega) (by omega), w64 (x := m + Int.tdiv r1 19) (by omega) (by omega), if_neg hc, e2]
      simp only [Option.bind_some]
      rw [w64 (x := Int.tdiv r2 29) (by omega) (by omega), w64 (x := Int.tdiv r2 29 * 6) (by omega) (by omega), w64 (by omega) (by omega)]
theorem row_draw (l : List Int) (hl : ∀ x ∈ l, 0 ≤ x ∧ x ≤ 255) (hlen : l.length ≤ 2000) :
    ∃ b row q, spec_l20RoomRow.f 300 l 0 = some (b, row, q) ∧ 1 ≤ b ∧ b ≤ 12 ∧ row.length ≤ 9 ∧ (∀ x ∈ row, -9 ≤ x ∧ x ≤ 8) ∧ 0 ≤ q ∧ q ≤ 1000 := by
  obtain ⟨r1, e1, a1, -, b1⟩ := pick_ok 299 l 0 6 hl hlen (by omega) (by omega)
  have b1 := b1 (by omega)
  obtain ⟨b, row, q, e, h⟩ := row_l0 l hl hlen (1 + r1) (by omega) (by omega) 9 300 [] 0 (0 + 1) (by omega) (by omega) (by omega) (by omega) rfl (by simp)
  refine ⟨b, row, q, ?_, h⟩
  unfold spec_l20RoomRow.f
  rw [e1]
  simp only [Option.bind_some]
  rw [w64 (x := 1 + r1) (by omega) (by omega)]
  exact e
theorem alive_ok (k : Nat) (h : 20 ≤ k) : laws_alive.f k = some true :=
  at_rounds laws_alive.mono h (by kernel_rfl)

theorem all_at {p : Nat → Bool} {n : Nat} (h : (List.range n).all p = true) (i : Nat) (hi : i < n) : p i = true := by
  rw [List.all_eq_true] at h
  exact h i (List.mem_range.mpr hi)
/-- A check of all boxes that may be asked. -/
def boxAll (P : Int → Int → Int → Bool) : Bool :=
  (List.range 8).all fun i => (List.range (i + 2)).all fun f => (List.range (i + 2 - f)).all fun s => P ((i : Int) + 1) (f : Int) (s : Int)
def BoxIn (m f s : Int) : Prop := 1 ≤ m ∧ m ≤ 8 ∧ 0 ≤ f ∧ 0 ≤ s ∧ f + s ≤ m
instance (m f s : Int) : Decidable (BoxIn m f s) := by unfold BoxIn; infer_instance
theorem box_all {P : Int → Int → Int → Bool} (h : boxAll P = true) (m f s : Int) (hb : BoxIn m f s) : P m f s = true := by
  obtain ⟨h1, h2, h3, h4, h5⟩ := hb
  unfold boxAll at h
  have a := all_at h (m - 1).toNat (by omega)
  have b := all_at a f.toNat (by omega)
  have c := all_at b s.toNat (by omega)
  have e1 : (((m - 1).toNat : Nat) : Int) + 1 = m := by omega
  have e2 : ((f.toNat : Nat) : Int) = f := by omega
  have e3 : ((s.toNat : Nat) : Int) = s := by omega
  rw [e1, e2, e3] at c
  exact c
theorem box_some {P : Int → Int → Int → Option Bool} (h : boxAll (fun m f s => decide (P m f s = some true)) = true) (m f s : Int) (hb : BoxIn m f s) : P m f s = some true :=
  of_decide_eq_true (box_all h m f s hb)
/-- A check of all numbers in three spans. -/
def spanAll (l1 l2 l3 : Int) (n1 n2 n3 : Nat) (P : Int → Int → Int → Bool) : Bool :=
  (List.range n1).all fun i => (List.range n2).all fun j => (List.range n3).all fun k => P (l1 + (i : Int)) (l2 + (j : Int)) (l3 + (k : Int))
theorem span_some {l1 l2 l3 : Int} {n1 n2 n3 : Nat} {P : Int → Int → Int → Option Bool} (h : spanAll l1 l2 l3 n1 n2 n3 (fun a b c => decide (P a b c = some true)) = true) :
    ∀ a b c : Int, l1 ≤ a ∧ a < l1 + n1 ∧ l2 ≤ b ∧ b < l2 + n2 ∧ l3 ≤ c ∧ c < l3 + n3 → P a b c = some true := by
  intro a b c ⟨a0, a1, b0, b1, c0, c1⟩
  unfold spanAll at h
  have x := all_at h (a - l1).toNat (by omega)
  have y := all_at x (b - l2).toNat (by omega)
  have z := all_at y (c - l3).toNat (by omega)
  have e1 : l1 + (((a - l1).toNat : Nat) : Int) = a := by omega
  have e2 : l2 + (((b - l2).toNat : Nat) : Int) = b := by omega
  have e3 : l3 + (((c - l3).toNat : Nat) : Int) = c := by omega
  rw [e1, e2, e3] at z
  exact of_decide_eq_true z

theorem one_some {lo : Int} {n : Nat} {P : Int → Option Bool} (h : (List.range n).all (fun i => decide (P (lo + (i : Int)) = some true)) = true) :
    ∀ a : Int, lo ≤ a ∧ a < lo + n → P a = some true := by
  intro a ⟨a0, a1⟩
  have x := all_at h (a - lo).toNat (by omega)
  have e1 : lo + (((a - lo).toNat : Nat) : Int) = a := by omega
  rw [e1] at x
  exact of_decide_eq_true x
theorem two_some {lo lo2 : Int} {n n2 : Nat} {P : Int → Int → Option Bool} (h : ((List.range n).all fun i => (List.range n2).all fun j => decide (P (lo + (i : Int)) (lo2 + (j : Int)) = some true)) = true) :
    ∀ a b : Int, lo ≤ a ∧ a < lo + n ∧ lo2 ≤ b ∧ b < lo2 + n2 → P a b = some true := by
  intro a b ⟨a0, a1, b0, b1⟩
  have x := all_at h (a - lo).toNat (by omega)
  have y := all_at x (b - lo2).toNat (by omega)
  have e1 : lo + (((a - lo).toNat : Nat) : Int) = a := by omega
  have e2 : lo2 + (((b - lo2).toNat : Nat) : Int) = b := by omega
  rw [e1, e2] at y
  exact of_decide_eq_true y

def RowIn (b : Int) (l : List Int) : Prop := (∀ x ∈ l, 0 ≤ x ∧ x ≤ 10000000) ∧ (1 ≤ b ∧ b ≤ 6) ∧ (l.length : Int) = b + 1
instance (b : Int) (l : List Int) : Decidable (RowIn b l) := by unfold RowIn; infer_instance
def TailIn (b : Int) (l t : List Int) : Prop := (∀ x ∈ t, 0 ≤ x ∧ x ≤ 10000000) ∧ (1 ≤ b ∧ b ≤ 6) ∧ (l.length : Int) = b + 1
instance (b : Int) (l t : List Int) : Decidable (TailIn b l t) := by unfold TailIn; infer_instance
theorem tail_cons (b : Int) (l t : List Int) (x : Int) : TailIn b l (x :: t) ↔ (0 ≤ x ∧ x ≤ 10000000) ∧ TailIn b l t := by
  unfold TailIn
  simp only [List.mem_cons, forall_eq_or_imp, and_assoc]
theorem spec_row_l0 (b : Int) (l : List Int) (hn : l.length ≤ 2000000) (d : Nat) : ∀ (k i : Nat), i + d = l.length → d < k →
    spec_RoomRowOk.l0 k b l (i : Int) = some (decide (TailIn b l (l.drop i))) := by
  induction d with
  | zero =>
    intro k i hi hk
    obtain ⟨k, rfl⟩ : ∃ m, k = m + 1 := ⟨k - 1, by omega⟩
    simp only [spec_RoomRowOk.l0]
    rw [if_neg (by omega), l1In_ok, List.drop_of_length_le (by omega)]
    unfold TailIn
    by_cases h : 1 ≤ b ∧ b ≤ 6
    · rw [w64 (x := b + 1) (by omega) (by omega)]
      simp [h, beq_dec]
    · simp [h]
  | succ d ih =>
    intro k i hi hk
    obtain ⟨k, rfl⟩ : ∃ m, k = m + 1 := ⟨k - 1, by omega⟩
    simp only [spec_RoomRowOk.l0]
    rw [if_pos (by omega), if_pos (by omega), l1In_ok, drop_at l i (by omega), nat_step (by omega), ih k (i + 1) (by omega) (by omega)]
    simp only [Option.bind_some, tail_cons]
    by_cases h : 0 ≤ rd l (i : Int) ∧ rd l (i : Int) ≤ 10000000
    · simp [h]
    · simp [h]
theorem spec_row (b : Int) (l : List Int) (hn : l.length ≤ 2000000) (k : Nat) (hk : l.length < k) : spec_RoomRowOk.f k b l = some (decide (RowIn b l)) :=
  spec_row_l0 b l hn l.length k 0 (by omega) hk
theorem impl_row_l0 (b : Int) (l : List Int) (hn : l.length ≤ 2000000) (d : Nat) : ∀ (k i : Nat), i + d = l.length → d < k →
    impl_RoomRowOk.l0 k b l l (l.length : Int) (i : Int) = some (decide (TailIn b l (l.drop i))) := by
  induction d with
  | zero =>
    intro k i hi hk
    obtain ⟨k, rfl⟩ : ∃ m, k = m + 1 := ⟨k - 1, by omega⟩
    simp only [impl_RoomRowOk.l0]
    rw [if_neg (by omega), List.drop_of_length_le (by omega)]
    unfold TailIn
    by_cases h1 : b ≥ 1
    · by_cases h2 : b ≤ 6
      · rw [w64 (x := b + 1) (by omega) (by omega)]
        simp [h1, h2, beq_dec]
      · simp [h1, h2]
    · simp [h1]
  | succ d ih =>
    intro k i hi hk
    obtain ⟨k, rfl⟩ : ∃ m, k = m + 1 := ⟨k - 1, by omega⟩
    simp only [impl_RoomRowOk.l0]
    rw [if_pos (by omega), if_pos (by omega), if_pos (by omega), drop_at l i (by omega), nat_step (by omega), ih k (i + 1) (by omega) (by omega)]
    simp only [tail_cons]
    by_cases h1 : rd l (i : Int) < 0
    · rw [if_pos h1, decide_eq_false (by omega)]
    · rw [if_neg h1]
      by_cases h2 : rd l (i : Int) > 10000000
      · rw [if_pos h2, decide_eq_false (by omega)]
      · rw [if_neg h2]
        have h : 0 ≤ rd l (i : Int) ∧ rd l (i : Int) ≤ 10000000 := by omega
        simp [h]
theorem impl_row (b : Int) (l : List Int) (hn : l.length ≤ 2000000) (k : Nat) (hk : l.length < k) : impl_RoomRowOk.f k b l = some (decide (RowIn b l)) :=
  impl_row_l0 b l hn l.length k 0 (by omega) hk

set_option linter.unusedSimpArgs false
theorem r0 (x : Int) (l : List Int) : rd (x :: l) 0 = x := rfl
theorem r1 (x : Int) (l : List Int) : rd (x :: l) 1 = rd l 0 := rfl
theorem r2 (x : Int) (l : List Int) : rd (x :: l) 2 = rd l 1 := rfl
theorem r3 (x : Int) (l : List Int) : rd (x :: l) 3 = rd l 2 := rfl
theorem r4 (x : Int) (l : List Int) : rd (x :: l) 4 = rd l 3 := rfl
theorem r5 (x : Int) (l : List Int) : rd (x :: l) 5 = rd l 4 := rfl
theorem r6 (x : Int) (l : List Int) : rd (x :: l) 6 = rd l 5 := rfl
def stepL : List Int → List Int
  | [x0, x1] => [x1, x0]
  | [x0, x1, x2] => [x1, x0 * 2 + x2 * 2, x1]
  | [x0, x1, x2, x3] => [x1, x0 * 3 + x2 * 2, x1 * 2 + x3 * 3, x2]
  | [x0, x1, x2, x3, x4] => [x1, x0 * 4 + x2 * 2, x1 * 3 + x3 * 3, x2 * 2 + x4 * 4, x3]
  | [x0, x1, x2, x3, x4, x5] => [x1, x0 * 5 + x2 * 2, x1 * 4 + x3 * 3, x2 * 3 + x4 * 4, x3 * 2 + x5 * 5, x4]
  | [x0, x1, x2, x3, x4, x5, x6] => [x1, x0 * 6 + x2 * 2, x1 * 5 + x3 * 3, x2 * 4 + x4 * 4, x3 * 3 + x5 * 5, x4 * 2 + x6 * 6, x5]
  | _ => []
set_option maxHeartbeats 8000000 in
theorem spec_step1 (x0 x1 : Int) (a0 : 0 ≤ x0) (b0 : x0 ≤ 10000000) (a1 : 0 ≤ x1) (b1 : x1 ≤ 10000000) : spec_l7Step.l0 60 1 [x0, x1] [0, 0] 0 = some [x1, x0] := by
  simp (maxSteps := 8000000) (disch := omega) [spec_l7Step.l0, r0, r1, r2, r3, r4, r5, r6, w64]
set_option maxHeartbeats 8000000 in
theorem impl_step1 (x0 x1 : Int) (a0 : 0 ≤ x0) (b0 : x0 ≤ 10000000) (a1 : 0 ≤ x1) (b1 : x1 ≤ 10000000) : impl_RoomStep.l0 60 1 [x0, x1] [0, 0] 2 0 = (impl_RoomRowOk.f 57 1 [x1, x0]).bind fun t => if t = true then some [x1, x0] else some ([] : List Int) := by
  simp (maxSteps := 8000000) (disch := omega) [impl_RoomStep.l0, r0, r1, r2, r3, r4, r5, r6, w64]
theorem swap1 (x0 x1 : Int) : ([x1, x0] : List Int) = [x1, x0] := rfl
theorem len1 (l : List Int) (h : (l.length : Int) = 1 + 1) : ∃ x0 x1, l = [x0, x1] := by
  match l, h with
  | [x0, x1], _ => exact ⟨x0, x1, rfl⟩
set_option maxHeartbeats 8000000 in
theorem spec_step2 (x0 x1 x2 : Int) (a0 : 0 ≤ x0) (b0 : x0 ≤ 10000000) (a1 : 0 ≤ x1) (b1 : x1 ≤ 10000000) (a2 : 0 ≤ x2) (b2 : x2 ≤ 10000000) : spec_l7Step.l0 60 2 [x0, x1, x2] [0, 0, 0] 0 = some [x1, x0 * 2 + x2 * 2, x1] := by
  simp (maxSteps := 8000000) (disch := omega) [spec_l7Step.l0, r0, r1, r2, r3, r4, r5, r6, w64]
set_option maxHeartbeats 8000000 in
theorem impl_step2 (x0 x1 x2 : Int) (a0 : 0 ≤ x0) (b0 : x0 ≤ 10000000) (a1 : 0 ≤ x1) (b1 : x1 ≤ 10000000) (a2 : 0 ≤ x2) (b2 : x2 ≤ 10000000) : impl_RoomStep.l0 60 2 [x0, x1, x2] [0, 0, 0] 3 0 = (impl_RoomRowOk.f 56 2 [x1, x2 * 2 + x0 * 2, x1]).bind fun t => if t = true then some [x1, x2 * 2 + x0 * 2, x1] else some ([] : List Int) := by
  simp (maxSteps := 8000000) (disch := omega) [impl_RoomStep.l0, r0, r1, r2, r3, r4, r5, r6, w64]
theorem swap2 (x0 x1 x2 : Int) : ([x1, x2 * 2 + x0 * 2, x1] : List Int) = [x1, x0 * 2 + x2 * 2, x1] := by
  rw [Int.add_comm (x2 * 2) (x0 * 2)]
theorem len2 (l : List Int) (h : (l.length : Int) = 2 + 1) : ∃ x0 x1 x2, l = [x0, x1, x2] := by
  match l, h with
  | [x0, x1, x2], _ => exact ⟨x0, x1, x2, rfl⟩
set_option maxHeartbeats 8000000 in
theorem spec_step3 (x0 x1 x2 x3 : Int) (a0 : 0 ≤ x0) (b0 : x0 ≤ 10000000) (a1 : 0 ≤ x1) (b1 : x1 ≤ 10000000) (a2 : 0 ≤ x2) (b2 : x2 ≤ 10000000) (a3 : 0 ≤ x3) (b3 : x3 ≤ 10000000) : spec_l7Step.l0 60 3 [x0, x1, x2, x3] [0, 0, 0, 0] 0 = some [x1, x0 * 3 + x2 * 2, x1 * 2 + x3 * 3, x2] := by
  simp (maxSteps := 8000000) (disch := omega) [spec_l7Step.l0, r0, r1, r2, r3, r4, r5, r6, w64]
set_option maxHeartbeats 8000000 in
theorem impl_step3 (x0 x1 x2 x3 : Int) (a0 : 0 ≤ x0) (b0 : x0 ≤ 10000000) (a1 : 0 ≤ x1) (b1 : x1 ≤ 10000000) (a2 : 0 ≤ x2) (b2 : x2 ≤ 10000000) (a3 : 0 ≤ x3) (b3 : x3 ≤ 10000000) : impl_RoomStep.l0 60 3 [x0, x1, x2, x3] [0, 0, 0, 0] 4 0 = (impl_RoomRowOk.f 55 3 [x1, x2 * 2 + x0 * 3, x3 * 3 + x1 * 2, x2]).bind fun t => if t = true then some [x1, x2 * 2 + x0 * 3, x3 * 3 + x1 * 2, x2] else some ([] : List Int) := by
  simp (maxSteps := 8000000) (disch := omega) [impl_RoomStep.l0, r0, r1, r2, r3, r4, r5, r6, w64]
theorem swap3 (x0 x1 x2 x3 : Int) : ([x1, x2 * 2 + x0 * 3, x3 * 3 + x1 * 2, x2] : List Int) = [x1, x0 * 3 + x2 * 2, x1 * 2 + x3 * 3, x2] := by
  rw [Int.add_comm (x2 * 2) (x0 * 3), Int.add_comm (x3 * 3) (x1 * 2)]
theorem len3 (l : List Int) (h : (l.length : Int) = 3 + 1) : ∃ x0 x1 x2 x3, l = [x0, x1, x2, x3] := by
  match l, h with
  | [x0, x1, x2, x3], _ => exact ⟨x0, x1, x2, x3, rfl⟩
set_option maxHeartbeats 8000000 in
theorem spec_step4 (x0 x1 x2 x3 x4 : Int) (a0 : 0 ≤ x0) (b0 : x0 ≤ 10000000) (a1 : 0 ≤ x1) (b1 : x1 ≤ 10000000) (a2 : 0 ≤ x2) (b2 : x2 ≤ 10000000) (a3 : 0 ≤ x3) (b3 : x3 ≤ 10000000) (a4 : 0 ≤ x4) (b4 : x4 ≤ 10000000) : spec_l7Step.l0 60 4 [x0, x1, x2, x3, x4] [0, 0, 0, 0, 0] 0 = some [x1, x0 * 4 + x2 * 2, x1 * 3 + x3 * 3, x2 * 2 + x4 * 4, x3] := by
  simp (maxSteps := 8000000) (disch := omega) [spec_l7Step.l0, r0, r1, r2, r3, r4, r5, r6, w64]
set_option maxHeartbeats 8000000 in
theorem impl_step4 (x0 x1 x2 x3 x4 : Int) (a0 : 0 ≤ x0) (b0 : x0 ≤ 10000000) (a1 : 0 ≤ x1) (b1 : x1 ≤ 10000000) (a2 : 0 ≤ x2) (b2 : x2 ≤ 10000000) (a3 : 0 ≤ x3) (b3 : x3 ≤ 10000000) (a4 : 0 ≤ x4) (b4 : x4 ≤ 10000000) : impl_RoomStep.l0 60 4 [x0, x1, x2, x3, x4] [0, 0, 0, 0, 0] 5 0 = (impl_RoomRowOk.f 54 4 [x1, x2 * 2 + x0 * 4, x3 * 3 + x1 * 3, x4 * 4 + x2 * 2, x3]).bind fun t => if t = true then some [x1, x2 * 2 + x0 * 4, x3 * 3 + x1 * 3, x4 * 4 + x2 * 2, x3] else some ([] : List Int) := by
  simp (maxSteps := 8000000) (disch := omega) [impl_RoomStep.l0, r0, r1, r2, r3, r4, r5, r6, w64]
theorem swap4 (x0 x1 x2 x3 x4 : Int) : ([x1, x2 * 2 + x0 * 4, x3 * 3 + x1 * 3, x4 * 4 + x2 * 2, x3] : List Int) = [x1, x0 * 4 + x2 * 2, x1 * 3 + x3 * 3, x2 * 2 + x4 * 4, x3] := by
  rw [Int.add_comm (x2 * 2) (x0 * 4), Int.add_comm (x3 * 3) (x1 * 3), Int.add_comm (x4 * 4) (x2 * 2)]
theorem len4 (l : List Int) (h : (l.length : Int) = 4 + 1) : ∃ x0 x1 x2 x3 x4, l = [x0, x1, x2, x3, x4] := by
  match l, h with
  | [x0, x1, x2, x3, x4], _ => exact ⟨x0, x1, x2, x3, x4, rfl⟩
set_option maxHeartbeats 8000000 in
theorem spec_step5 (x0 x1 x2 x3 x4 x5 : Int) (a0 : 0 ≤ x0) (b0 : x0 ≤ 10000000) (a1 : 0 ≤ x1) (b1 : x1 ≤ 10000000) (a2 : 0 ≤ x2) (b2 : x2 ≤ 10000000) (a3 : 0 ≤ x3) (b3 : x3 ≤ 10000000) (a4 : 0 ≤ x4) (b4 : x4 ≤ 10000000) (a5 : 0 ≤ x5) (b5 : x5 ≤ 10000000) : spec_l7Step.l0 60 5 [x0, x1, x2, x3, x4, x5] [0, 0, 0, 0, 0, 0] 0 = some [x1, x0 * 5 + x2 * 2, x1 * 4 + x3 * 3, x2 * 3 + x4 * 4, x3 * 2 + x5 * 5, x4] := by
  simp (maxSteps := 8000000) (disch := omega) [spec_l7Step.l0, r0, r1, r2, r3, r4, r5, r6, w64]
set_option maxHeartbeats 8000000 in
theorem impl_step5 (x0 x1 x2 x3 x4 x5 : Int) (a0 : 0 ≤ x0) (b0 : x0 ≤ 10000000) (a1 : 0 ≤ x1) (b1 : x1 ≤ 10000000) (a2 : 0 ≤ x2) (b2 : x2 ≤ 10000000) (a3 : 0 ≤ x3) (b3 : x3 ≤ 10000000) (a4 : 0 ≤ x4) (b4 : x4 ≤ 10000000) (a5 : 0 ≤ x5) (b5 : x5 ≤ 10000000) : impl_RoomStep.l0 60 5 [x0, x1, x2, x3, x4, x5] [0, 0, 0, 0, 0, 0] 6 0 = (impl_RoomRowOk.f 53 5 [x1, x2 * 2 + x0 * 5, x3 * 3 + x1 * 4, x4 * 4 + x2 * 3, x5 * 5 + x3 * 2, x4]).bind fun t => if t = true then some [x1, x2 * 2 + x0 * 5, x3 * 3 + x1 * 4, x4 * 4 + x2 * 3, x5 * 5 + x3 * 2, x4] else some ([] : List Int) := by
  simp (maxSteps := 8000000) (disch := omega) [impl_RoomStep.l0, r0, r1, r2, r3, r4, r5, r6, w64]
theorem swap5 (x0 x1 x2 x3 x4 x5 : Int) : ([x1, x2 * 2 + x0 * 5, x3 * 3 + x1 * 4, x4 * 4 + x2 * 3, x5 * 5 + x3 * 2, x4] : List Int) = [x1, x0 * 5 + x2 * 2, x1 * 4 + x3 * 3, x2 * 3 + x4 * 4, x3 * 2 + x5 * 5, x4] := by
  rw [Int.add_comm (x2 * 2) (x0 * 5), Int.add_comm (x3 * 3) (x1 * 4), Int.add_comm (x4 * 4) (x2 * 3), Int.add_comm (x5 * 5) (x3 * 2)]
theorem len5 (l : List Int) (h : (l.length : Int) = 5 + 1) : ∃ x0 x1 x2 x3 x4 x5, l = [x0, x1, x2, x3, x4, x5] := by
  match l, h with
  | [x0, x1, x2, x3, x4, x5], _ => exact ⟨x0, x1, x2, x3, x4, x5, rfl⟩
set_option maxHeartbeats 8000000 in
theorem spec_step6 (x0 x1 x2 x3 x4 x5 x6 : Int) (a0 : 0 ≤ x0) (b0 : x0 ≤ 10000000) (a1 : 0 ≤ x1) (b1 : x1 ≤ 10000000) (a2 : 0 ≤ x2) (b2 : x2 ≤ 10000000) (a3 : 0 ≤ x3) (b3 : x3 ≤ 10000000) (a4 : 0 ≤ x4) (b4 : x4 ≤ 10000000) (a5 : 0 ≤ x5) (b5 : x5 ≤ 10000000) (a6 : 0 ≤ x6) (b6 : x6 ≤ 10000000) : spec_l7Step.l0 60 6 [x0, x1, x2, x3, x4, x5, x6] [0, 0, 0, 0, 0, 0, 0] 0 = some [x1, x0 * 6 + x2 * 2, x1 * 5 + x3 * 3, x2 * 4 + x4 * 4, x3 * 3 + x5 * 5, x4 * 2 + x6 * 6, x5] := by
  simp (maxSteps := 8000000) (disch := omega) [spec_l7Step.l0, r0, r1, r2, r3, r4, r5, r6, w64]
set_option maxHeartbeats 8000000 in
theorem impl_step6 (x0 x1 x2 x3 x4 x5 x6 : Int) (a0 : 0 ≤ x0) (b0 : x0 ≤ 10000000) (a1 : 0 ≤ x1) (b1 : x1 ≤ 10000000) (a2 : 0 ≤ x2) (b2 : x2 ≤ 10000000) (a3 : 0 ≤ x3) (b3 : x3 ≤ 10000000) (a4 : 0 ≤ x4) (b4 : x4 ≤ 10000000) (a5 : 0 ≤ x5) (b5 : x5 ≤ 10000000) (a6 : 0 ≤ x6) (b6 : x6 ≤ 10000000) : impl_RoomStep.l0 60 6 [x0, x1, x2, x3, x4, x5, x6] [0, 0, 0, 0, 0, 0, 0] 7 0 = (impl_RoomRowOk.f 52 6 [x1, x2 * 2 + x0 * 6, x3 * 3 + x1 * 5, x4 * 4 + x2 * 4, x5 * 5 + x3 * 3, x6 * 6 + x4 * 2, x5]).bind fun t => if t = true then some [x1, x2 * 2 + x0 * 6, x3 * 3 + x1 * 5, x4 * 4 + x2 * 4, x5 * 5 + x3 * 3, x6 * 6 + x4 * 2, x5] else some ([] : List Int) := by
  simp (maxSteps := 8000000) (disch := omega) [impl_RoomStep.l0, r0, r1, r2, r3, r4, r5, r6, w64]
theorem swap6 (x0 x1 x2 x3 x4 x5 x6 : Int) : ([x1, x2 * 2 + x0 * 6, x3 * 3 + x1 * 5, x4 * 4 + x2 * 4, x5 * 5 + x3 * 3, x6 * 6 + x4 * 2, x5] : List Int) = [x1, x0 * 6 + x2 * 2, x1 * 5 + x3 * 3, x2 * 4 + x4 * 4, x3 * 3 + x5 * 5, x4 * 2 + x6 * 6, x5] := by
  rw [Int.add_comm (x2 * 2) (x0 * 6), Int.add_comm (x3 * 3) (x1 * 5), Int.add_comm (x4 * 4) (x2 * 4), Int.add_comm (x5 * 5) (x3 * 3), Int.add_comm (x6 * 6) (x4 * 2)]
theorem len6 (l : List Int) (h : (l.length : Int) = 6 + 1) : ∃ x0 x1 x2 x3 x4 x5 x6, l = [x0, x1, x2, x3, x4, x5, x6] := by
  match l, h with
  | [x0, x1, x2, x3, x4, x5, x6], _ => exact ⟨x0, x1, x2, x3, x4, x5, x6, rfl⟩
theorem six {b : Int} (h : 1 ≤ b ∧ b ≤ 6) : b = 1 ∨ b = 2 ∨ b = 3 ∨ b = 4 ∨ b = 5 ∨ b = 6 := by omega
theorem spec_stepL (b : Int) (l : List Int) (h : RowIn b l) : spec_l7Step.f 60 b l = some (stepL l) := by
  obtain ⟨h1, h2, h3⟩ := h
  rcases six h2 with rfl | rfl | rfl | rfl | rfl | rfl
  · obtain ⟨x0, x1, rfl⟩ := len1 l h3
    have hb := fun x hx => h1 x hx
    refine Eq.trans (b := spec_l7Step.l0 60 1 [x0, x1] [0, 0] 0) ?_ (spec_step1 x0 x1 (hb x0 (by simp)).1 (hb x0 (by simp)).2 (hb x1 (by simp)).1 (hb x1 (by simp)).2)
    unfold spec_l7Step.f
    rw [w64 (x := 1 + 1) (by omega) (by omega), if_pos (by omega), if_pos (by decide)]
    rfl
  · obtain ⟨x0, x1, x2, rfl⟩ := len2 l h3
    have hb := fun x hx => h1 x hx
    refine Eq.trans (b := spec_l7Step.l0 60 2 [x0, x1, x2] [0, 0, 0] 0) ?_ (spec_step2 x0 x1 x2 (hb x0 (by simp)).1 (hb x0 (by simp)).2 (hb x1 (by simp)).1 (hb x1 (by simp)).2 (hb x2 (by simp)).1 (hb x2 (by simp)).2)
    unfold spec_l7Step.f
    rw [w64 (x := 2 + 1) (by omega) (by omega), if_pos (by omega), if_pos (by decide)]
    rfl
  · obtain ⟨x0, x1, x2, x3, rfl⟩ := len3 l h3
    have hb := fun x hx => h1 x hx
    refine Eq.trans (b := spec_l7Step.l0 60 3 [x0, x1, x2, x3] [0, 0, 0, 0] 0) ?_ (spec_step3 x0 x1 x2 x3 (hb x0 (by simp)).1 (hb x0 (by simp)).2 (hb x1 (by simp)).1 (hb x1 (by simp)).2 (hb x2 (by simp)).1 (hb x2 (by simp)).2 (hb x3 (by simp)).1 (hb x3 (by simp)).2)
    unfold spec_l7Step.f
    rw [w64 (x := 3 + 1) (by omega) (by omega), if_pos (by omega), if_pos (by decide)]
    rfl
  · obtain ⟨x0, x1, x2, x3, x4, rfl⟩ := len4 l h3
    have hb := fun x hx => h1 x hx
    refine Eq.trans (b := spec_l7Step.l0 60 4 [x0, x1, x2, x3, x4] [0, 0, 0, 0, 0] 0) ?_ (spec_step4 x0 x1 x2 x3 x4 (hb x0 (by simp)).1 (hb x0 (by simp)).2 (hb x1 (by simp)).1 (hb x1 (by simp)).2 (hb x2 (by simp)).1 (hb x2 (by simp)).2 (hb x3 (by simp)).1 (hb x3 (by simp)).2 (hb x4 (by simp)).1 (hb x4 (by simp)).2)
    unfold spec_l7Step.f
    rw [w64 (x := 4 + 1) (by omega) (by omega), if_pos (by omega), if_pos (by decide)]
    rfl
  · obtain ⟨x0, x1, x2, x3, x4, x5, rfl⟩ := len5 l h3
    have hb := fun x hx => h1 x hx
    refine Eq.trans (b := spec_l7Step.l0 60 5 [x0, x1, x2, x3, x4, x5] [0, 0, 0, 0, 0, 0] 0) ?_ (spec_step5 x0 x1 x2 x3 x4 x5 (hb x0 (by simp)).1 (hb x0 (by simp)).2 (hb x1 (by simp)).1 (hb x1 (by simp)).2 (hb x2 (by simp)).1 (hb x2 (by simp)).2 (hb x3 (by simp)).1 (hb x3 (by simp)).2 (hb x4 (by simp)).1 (hb x4 (by simp)).2 (hb x5 (by simp)).1 (hb x5 (by simp)).2)
    unfold spec_l7Step.f
    rw [w64 (x := 5 + 1) (by omega) (by omega), if_pos (by omega), if_pos (by decide)]
    rfl
  · obtain ⟨x0, x1, x2, x3, x4, x5, x6, rfl⟩ := len6 l h3
    have hb := fun x hx => h1 x hx
    refine Eq.trans (b := spec_l7Step.l0 60 6 [x0, x1, x2, x3, x4, x5, x6] [0, 0, 0, 0, 0, 0, 0] 0) ?_ (spec_step6 x0 x1 x2 x3 x4 x5 x6 (hb x0 (by simp)).1 (hb x0 (by simp)).2 (hb x1 (by simp)).1 (hb x1 (by simp)).2 (hb x2 (by simp)).1 (hb x2 (by simp)).2 (hb x3 (by simp)).1 (hb x3 (by simp)).2 (hb x4 (by simp)).1 (hb x4 (by simp)).2 (hb x5 (by simp)).1 (hb x5 (by simp)).2 (hb x6 (by simp)).1 (hb x6 (by simp)).2)
    unfold spec_l7Step.f
    rw [w64 (x := 6 + 1) (by omega) (by omega), if_pos (by omega), if_pos (by decide)]
    rfl
theorem impl_stepL (b : Int) (l : List Int) (h : RowIn b l) : impl_RoomStep.f 60 b l = some (if RowIn b (stepL l) then stepL l else []) := by
  unfold impl_RoomStep.f
  rw [impl_row b l (by have := h.2.2; have := h.2.1; omega) 60 (by have := h.2.2; have := h.2.1; omega), decide_eq_true h]
  simp only [Option.bind_some, if_true]
  obtain ⟨h1, h2, h3⟩ := h
  rcases six h2 with rfl | rfl | rfl | rfl | rfl | rfl
  · obtain ⟨x0, x1, rfl⟩ := len1 l h3
    have hb := fun x hx => h1 x hx
    rw [w64 (x := 1 + 1) (by omega) (by omega), if_pos (by omega), if_pos (by decide)]
    refine Eq.trans (b := impl_RoomStep.l0 60 1 [x0, x1] [0, 0] 2 0) rfl ?_
    refine (impl_step1 x0 x1 (hb x0 (by simp)).1 (hb x0 (by simp)).2 (hb x1 (by simp)).1 (hb x1 (by simp)).2).trans ?_
    rw [swap1, impl_row _ _ (by simp) 57 (by simp)]
    show (if decide (RowIn 1 (stepL [x0, x1])) = true then some (stepL [x0, x1]) else some []) = _
    by_cases q : RowIn 1 (stepL [x0, x1])
    · simp only [decide_eq_true q, if_true, if_pos q]
    · rw [decide_eq_false q, if_neg q, if_neg (by simp)]
  · obtain ⟨x0, x1, x2, rfl⟩ := len2 l h3
    have hb := fun x hx => h1 x hx
    rw [w64 (x := 2 + 1) (by omega) (by omega), if_pos (by omega), if_pos (by decide)]
    refine Eq.trans (b := impl_RoomStep.l0 60 2 [x0, x1, x2] [0, 0, 0] 3 0) rfl ?_
    refine (impl_step2 x0 x1 x2 (hb x0 (by simp)).1 (hb x0 (by simp)).2 (hb x1 (by simp)).1 (hb x1 (by simp)).2 (hb x2 (by simp)).1 (hb x2 (by simp)).2).trans ?_
    rw [swap2, impl_row _ _ (by simp) 56 (by simp)]
    show (if decide (RowIn 2 (stepL [x0, x1, x2])) = true then some (stepL [x0, x1, x2]) else some []) = _
    by_cases q : RowIn 2 (stepL [x0, x1, x2])
    · simp only [decide_eq_true q, if_true, if_pos q]
    · rw [decide_eq_false q, if_neg q, if_neg (by simp)]
  · obtain ⟨x0, x1, x2, x3, rfl⟩ := len3 l h3
    have hb := fun x hx => h1 x hx
    rw [w64 (x := 3 + 1) (by omega) (by omega), if_pos (by omega), if_pos (by decide)]
    refine Eq.trans (b := impl_RoomStep.l0 60 3 [x0, x1, x2, x3] [0, 0, 0, 0] 4 0) rfl ?_
    refine (impl_step3 x0 x1 x2 x3 (hb x0 (by simp)).1 (hb x0 (by simp)).2 (hb x1 (by simp)).1 (hb x1 (by simp)).2 (hb x2 (by simp)).1 (hb x2 (by simp)).2 (hb x3 (by simp)).1 (hb x3 (by simp)).2).trans ?_
    rw [swap3, impl_row _ _ (by simp) 55 (by simp)]
    show (if decide (RowIn 3 (stepL [x0, x1, x2, x3])) = true then some (stepL [x0, x1, x2, x3]) else some []) = _
    by_cases q : RowIn 3 (stepL [x0, x1, x2, x3])
    · simp only [decide_eq_true q, if_true, if_pos q]
    · rw [decide_eq_false q, if_neg q, if_neg (by simp)]
  · obtain ⟨x0, x1, x2, x3, x4, rfl⟩ := len4 l h3
    have hb := fun x hx => h1 x hx
    rw [w64 (x := 4 + 1) (by omega) (by omega), if_pos (by omega), if_pos (by decide)]
    refine Eq.trans (b := impl_RoomStep.l0 60 4 [x0, x1, x2, x3, x4] [0, 0, 0, 0, 0] 5 0) rfl ?_
    refine (impl_step4 x0 x1 x2 x3 x4 (hb x0 (by simp)).1 (hb x0 (by simp)).2 (hb x1 (by simp)).1 (hb x1 (by simp)).2 (hb x2 (by simp)).1 (hb x2 (by simp)).2 (hb x3 (by simp)).1 (hb x3 (by simp)).2 (hb x4 (by simp)).1 (hb x4 (by simp)).2).trans ?_
    rw [swap4, impl_row _ _ (by simp) 54 (by simp)]
    show (if decide (RowIn 4 (stepL [x0, x1, x2, x3, x4])) = true then some (stepL [x0, x1, x2, x3, x4]) else some []) = _
    by_cases q : RowIn 4 (stepL [x0, x1, x2, x3, x4])
    · simp only [decide_eq_true q, if_true, if_pos q]
    · rw [decide_eq_false q, if_neg q, if_neg (by simp)]
  · obtain ⟨x0, x1, x2, x3, x4, x5, rfl⟩ := len5 l h3
    have hb := fun x hx => h1 x hx
    rw [w64 (x := 5 + 1) (by omega) (by omega), if_pos (by omega), if_pos (by decide)]
    refine Eq.trans (b := impl_RoomStep.l0 60 5 [x0, x1, x2, x3, x4, x5] [0, 0, 0, 0, 0, 0] 6 0) rfl ?_
    refine (impl_step5 x0 x1 x2 x3 x4 x5 (hb x0 (by simp)).1 (hb x0 (by simp)).2 (hb x1 (by simp)).1 (hb x1 (by simp)).2 (hb x2 (by simp)).1 (hb x2 (by simp)).2 (hb x3 (by simp)).1 (hb x3 (by simp)).2 (hb x4 (by simp)).1 (hb x4 (by simp)).2 (hb x5 (by simp)).1 (hb x5 (by simp)).2).trans ?_
    rw [swap5, impl_row _ _ (by simp) 53 (by simp)]
    show (if decide (RowIn 5 (stepL [x0, x1, x2, x3, x4, x5])) = true then some (stepL [x0, x1, x2, x3, x4, x5]) else some []) = _
    by_cases q : RowIn 5 (stepL [x0, x1, x2, x3, x4, x5])
    · simp only [decide_eq_true q, if_true, if_pos q]
    · rw [decide_eq_false q, if_neg q, if_neg (by simp)]
  · obtain ⟨x0, x1, x2, x3, x4, x5, x6, rfl⟩ := len6 l h3
    have hb := fun x hx => h1 x hx
    rw [w64 (x := 6 + 1) (by omega) (by omega), if_pos (by omega), if_pos (by decide)]
    refine Eq.trans (b := impl_RoomStep.l0 60 6 [x0, x1, x2, x3, x4, x5, x6] [0, 0, 0, 0, 0, 0, 0] 7 0) rfl ?_
    refine (impl_step6 x0 x1 x2 x3 x4 x5 x6 (hb x0 (by simp)).1 (hb x0 (by simp)).2 (hb x1 (by simp)).1 (hb x1 (by simp)).2 (hb x2 (by simp)).1 (hb x2 (by simp)).2 (hb x3 (by simp)).1 (hb x3 (by simp)).2 (hb x4 (by simp)).1 (hb x4 (by simp)).2 (hb x5 (by simp)).1 (hb x5 (by simp)).2 (hb x6 (by simp)).1 (hb x6 (by simp)).2).trans ?_
    rw [swap6, impl_row _ _ (by simp) 52 (by simp)]
    show (if decide (RowIn 6 (stepL [x0, x1, x2, x3, x4, x5, x6])) = true then some (stepL [x0, x1, x2, x3, x4, x5, x6]) else some []) = _
    by_cases q : RowIn 6 (stepL [x0, x1, x2, x3, x4, x5, x6])
    · simp only [decide_eq_true q, if_true, if_pos q]
    · rw [decide_eq_false q, if_neg q, if_neg (by simp)]

theorem len_stepL (b : Int) (l : List Int) (h : RowIn b l) : (stepL l).length = l.length := by
  obtain ⟨h1, h2, h3⟩ := h
  rcases six h2 with rfl | rfl | rfl | rfl | rfl | rfl
  · obtain ⟨x0, x1, rfl⟩ := len1 l h3
    rfl
  · obtain ⟨x0, x1, x2, rfl⟩ := len2 l h3
    rfl
  · obtain ⟨x0, x1, x2, x3, rfl⟩ := len3 l h3
    rfl
  · obtain ⟨x0, x1, x2, x3, x4, rfl⟩ := len4 l h3
    rfl
  · obtain ⟨x0, x1, x2, x3, x4, x5, rfl⟩ := len5 l h3
    rfl
  · obtain ⟨x0, x1, x2, x3, x4, x5, x6, rfl⟩ := len6 l h3
    rfl
theorem sum_stepL (b : Int) (l : List Int) (h : RowIn b l) : (stepL l).sum = l.sum * b := by
  obtain ⟨h1, h2, h3⟩ := h
  rcases six h2 with rfl | rfl | rfl | rfl | rfl | rfl
  · obtain ⟨x0, x1, rfl⟩ := len1 l h3
    simp only [stepL, List.sum_cons, List.sum_nil]
    omega
  · obtain ⟨x0, x1, x2, rfl⟩ := len2 l h3
    simp only [stepL, List.sum_cons, List.sum_nil]
    omega
  · obtain ⟨x0, x1, x2, x3, rfl⟩ := len3 l h3
    simp only [stepL, List.sum_cons, List.sum_nil]
    omega
  · obtain ⟨x0, x1, x2, x3, x4, rfl⟩ := len4 l h3
    simp only [stepL, List.sum_cons, List.sum_nil]
    omega
  · obtain ⟨x0, x1, x2, x3, x4, x5, rfl⟩ := len5 l h3
    simp only [stepL, List.sum_cons, List.sum_nil]
    omega
  · obtain ⟨x0, x1, x2, x3, x4, x5, x6, rfl⟩ := len6 l h3
    simp only [stepL, List.sum_cons, List.sum_nil]
    omega
theorem rev_stepL (b : Int) (l : List Int) (h : RowIn b l) : stepL l.reverse = (stepL l).reverse := by
  obtain ⟨h1, h2, h3⟩ := h
  rcases six h2 with rfl | rfl | rfl | rfl | rfl | rfl
  · obtain ⟨x0, x1, rfl⟩ := len1 l h3
    simp only [stepL, List.reverse_cons, List.reverse_nil, List.nil_append, List.cons_append]
  · obtain ⟨x0, x1, x2, rfl⟩ := len2 l h3
    simp only [stepL, List.reverse_cons, List.reverse_nil, List.nil_append, List.cons_append]
    simp [Int.add_comm]
  · obtain ⟨x0, x1, x2, x3, rfl⟩ := len3 l h3
    simp only [stepL, List.reverse_cons, List.reverse_nil, List.nil_append, List.cons_append]
    simp [Int.add_comm]
  · obtain ⟨x0, x1, x2, x3, x4, rfl⟩ := len4 l h3
    simp only [stepL, List.reverse_cons, List.reverse_nil, List.nil_append, List.cons_append]
    simp [Int.add_comm]
  · obtain ⟨x0, x1, x2, x3, x4, x5, rfl⟩ := len5 l h3
    simp only [stepL, List.reverse_cons, List.reverse_nil, List.nil_append, List.cons_append]
    simp [Int.add_comm]
  · obtain ⟨x0, x1, x2, x3, x4, x5, x6, rfl⟩ := len6 l h3
    simp only [stepL, List.reverse_cons, List.reverse_nil, List.nil_append, List.cons_append]
    simp [Int.add_comm]

theorem same_l0 (l : List Int) (hn : l.length ≤ 2000000) (d : Nat) : ∀ (k i : Nat), i + d = l.length → d < k → laws_sameInts.l0 k l l (i : Int) = some true := by
  induction d with
  | zero =>
    intro k i hi hk
    obtain ⟨k, rfl⟩ : ∃ m, k = m + 1 := ⟨k - 1, by omega⟩
    simp only [laws_sameInts.l0]
    rw [if_neg (by omega)]
  | succ d ih =>
    intro k i hi hk
    obtain ⟨k, rfl⟩ : ∃ m, k = m + 1 := ⟨k - 1, by omega⟩
    simp only [laws_sameInts.l0]
    rw [if_pos (by omega), if_pos (by omega), if_pos (by omega), if_pos trivial, nat_step (by omega)]
    exact ih k (i + 1) (by omega) (by omega)
theorem same_ok (l : List Int) (hn : l.length ≤ 2000000) (k : Nat) (hk : l.length < k) : laws_sameInts.f k l l = some true := by
  unfold laws_sameInts.f
  rw [if_pos rfl]
  exact same_l0 l hn l.length k 0 (by omega) hk

theorem row_back (b : Int) (l : List Int) : RowIn b l.reverse ↔ RowIn b l := by
  unfold RowIn
  simp
theorem take_sum (l : List Int) (i : Nat) (h : i < l.length) : (l.take (i + 1)).sum = (l.take i).sum + rd l (i : Int) := by
  rw [take_at l i h]
  simp
theorem sum_in (l : List Int) (h : ∀ x ∈ l, 0 ≤ x ∧ x ≤ 10000000) : 0 ≤ l.sum ∧ l.sum ≤ 10000000 * (l.length : Int) := by
  induction l with
  | nil => simp
  | cons x l ih =>
    have h1 := h x (by simp)
    have h2 := ih fun y hy => h y (by simp [hy])
    simp only [List.sum_cons, List.length_cons]
    omega
theorem take_in (l : List Int) (h : ∀ x ∈ l, 0 ≤ x ∧ x ≤ 10000000) (hn : l.length ≤ 7) (i : Nat) : 0 ≤ (l.take i).sum ∧ (l.take i).sum ≤ 70000000 := by
  have h1 := sum_in (l.take i) fun x hx => h x (List.mem_of_mem_take hx)
  have h2 : (l.take i).length ≤ 7 := by simp; omega
  omega
theorem law_l0 (b : Int) (l s : List Int) (hn : l.length ≤ 7) (hs : s.length = l.length) (hl : ∀ x ∈ l, 0 ≤ x ∧ x ≤ 10000000) (h2 : ∀ x ∈ s, 0 ≤ x ∧ x ≤ 10000000)
    (hsum : s.sum = l.sum * b) (hstep : ∀ k, 60 ≤ k → impl_RoomStep.f k b l.reverse = some s.reverse) (d : Nat) : ∀ (k i : Nat), i + d = l.length → d + 100 < k →
    laws_FnRoomStep.l0 k b l s (s.take i).sum (l.take i).sum (l.take i).reverse (s.take i).reverse (i : Int) = some true := by
  induction d with
  | zero =>
    intro k i hi hk
    obtain ⟨k, rfl⟩ : ∃ m, k = m + 1 := ⟨k - 1, by omega⟩
    have t1 := take_in s h2 (by omega) i
    have t2 := take_in l hl hn i
    simp only [laws_FnRoomStep.l0]
    rw [if_neg (by omega)]
    rw [List.take_of_length_le (show l.length ≤ i by omega), List.take_of_length_le (show s.length ≤ i by omega)] at *
    rw [← hsum, w64 (by omega) (by omega), if_pos rfl, hstep k (by omega)]
    simp only [Option.bind_some]
    rw [same_ok _ (by simp; omega) k (by simp; omega)]
    rfl
  | succ d ih =>
    intro k i hi hk
    obtain ⟨k, rfl⟩ : ∃ m, k = m + 1 := ⟨k - 1, by omega⟩
    have t1 := take_in s h2 (by omega) (i + 1)
    have t2 := take_in l hl hn (i + 1)
    simp only [laws_FnRoomStep.l0]
    rw [if_pos (by omega), if_pos (by omega), if_pos (by omega)]
    simp only [Option.bind_some]
    rw [if_pos (by simp; omega), if_pos (by simp; omega), nat_step (by omega), ← take_sum s i (by omega), ← take_sum l i (by omega), w64 (by omega) (by omega), w64 (by omega) (by omega)]
    have e1 : [rd l (i : Int)] ++ (l.take i).reverse = (l.take (i + 1)).reverse := by
      rw [take_at l i (by omega)]
      simp
    have e2 : [rd s (i : Int)] ++ (s.take i).reverse = (s.take (i + 1)).reverse := by
      rw [take_at s i (by omega)]
      simp
    rw [e1, e2]
    exact ih k (i + 1) (by omega) (by omega)
theorem spec_step_ok (b : Int) (l : List Int) (hn : l.length ≤ 20) : spec_RoomStep.f 300 b l = some (if RowIn b l then (if RowIn b (stepL l) then stepL l else []) else []) := by
  by_cases h : RowIn b l
  · refine at_rounds (spec_RoomStep.mono b l) (show 60 ≤ 300 by omega) ?_
    unfold spec_RoomStep.f
    rw [spec_row b l (by omega) 60 (by omega), decide_eq_true h, if_pos h]
    simp only [Option.bind_some, if_true]
    rw [spec_stepL b l h]
    simp only [Option.bind_some]
    rw [spec_row b _ (by rw [len_stepL b l h]; omega) 60 (by rw [len_stepL b l h]; omega)]
    by_cases q : RowIn b (stepL l)
    · simp [q]
    · simp [q]
  · unfold spec_RoomStep.f
    rw [spec_row b l (by omega) 300 (by omega), decide_eq_false h, if_neg h]
    simp
theorem impl_step_ok (b : Int) (l : List Int) (hn : l.length ≤ 20) : impl_RoomStep.f 300 b l = some (if RowIn b l then (if RowIn b (stepL l) then stepL l else []) else []) := by
  by_cases h : RowIn b l
  · rw [if_pos h]
    exact at_rounds (impl_RoomStep.mono b l) (show 60 ≤ 300 by omega) (impl_stepL b l h)
  · unfold impl_RoomStep.f
    rw [impl_row b l (by omega) 300 (by omega), decide_eq_false h, if_neg h]
    simp
theorem rest_ok (b : Int) (b0 : 1 ≤ b) (b1 : b ≤ 12) : ∃ r, spec_RestRow.f 300 b = some r ∧ r.length ≤ 20 := by
  have h : ∀ a : Int, 1 ≤ a ∧ a < 1 + (12 : Nat) → (spec_RestRow.f 300 a).map (fun r => decide (r.length ≤ 20)) = some true := by
    refine one_some ?_
    kernel_rfl
  obtain ⟨r, e, hr⟩ := Option.map_eq_some_iff.mp (h b (by omega))
  exact ⟨r, e, of_decide_eq_true hr⟩
theorem draw_ok (l : List Int) (hl : ∀ x ∈ l, (Lit.int .u8 x).wf = true) : ∃ b row, spec_DrawRoomStep.f 300 l = some (b, row) ∧ row.length ≤ 20 := by
  obtain ⟨l', e0, hlen, hb⟩ := open_ok l hl
  obtain ⟨b, row, q, e, b0, b1, hr, -, q0, q1⟩ := row_draw l' hb hlen
  obtain ⟨r3, e3, -⟩ := pick_ok 299 l' q 3 hb hlen q0 (by omega)
  obtain ⟨rr, er, hrr⟩ := rest_ok b b0 b1
  unfold spec_DrawRoomStep.f
  simp only [e0, Option.bind_some, e, e3]
  by_cases h : r3 = 0
  · rw [if_pos h, er]
    exact ⟨b, rr, rfl, hrr⟩
  · rw [if_neg h]
    exact ⟨b, row, rfl, by omega⟩
theorem FnRoomStep : laws_FnRoomStep.Pure := by
  intro c _ _ hl
  refine ⟨300, ?_⟩
  obtain ⟨b, l, ed, hn⟩ := draw_ok c hl
  unfold laws_FnRoomStep.f
  by_cases hc : (c.length : Int) > 1048576
  · rw [if_pos hc]
  · rw [if_neg hc, ed]
    simp only [Option.bind_some]
    rw [impl_step_ok b l hn, spec_step_ok b l hn]
    simp only [Option.bind_some]
    by_cases h : RowIn b l
    · by_cases q : RowIn b (stepL l)
      · rw [if_pos h, if_pos q, same_ok _ (by rw [len_stepL b l h]; omega) 300 (by rw [len_stepL b l h]; omega)]
        simp only [Option.bind_some, if_true]
        have hlen := len_stepL b l h
        have h3 := h.2.2
        have h2 := h.2.1
        rw [if_neg (by omega)]
        refine law_l0 b l (stepL l) (by omega) hlen h.1 q.1 (sum_stepL b l h) (fun k hk => ?_) l.length 300 0 (by omega) (by omega)
        have hr : RowIn b l.reverse := (row_back b l).mpr h
        have hq : RowIn b (stepL l.reverse) := by rw [rev_stepL b l h]; exact (row_back b _).mpr q
        refine at_rounds (impl_RoomStep.mono b l.reverse) hk ?_
        rw [impl_stepL b l.reverse hr, if_pos hq, rev_stepL b l h]
      · rw [if_pos h, if_neg q]
        have e1 : laws_sameInts.f 300 [] [] = some true := same_ok [] (by simp) 300 (by simp)
        rw [e1]
        simp [alive_ok 300 (by omega)]
    · rw [if_neg h]
      have e1 : laws_sameInts.f 300 [] [] = some true := same_ok [] (by simp) 300 (by simp)
      rw [e1]
      simp [alive_ok 300 (by omega)]

end Go.Proofs.Ytmfommidbijloaa.Pure

namespace Go.Proofs.Ytmfommidbijloaa.PrintWords
open Go.ChangeShapes Go.WideShapes
/-- The bound on a slice's length, under the name by which the row looks for it. -/
theorem sized_ints {H : Type} {enc : TypeId × Value → H} {P : Program} {W : World} {base : Nat} {spare : Nat → Bool} {held : Bool} {t e : TypeId} {k : IntKind} {a : Option Addr} {len cap : Nat} {d : DataW H} {ps : List MemPlace} {ts : List TypeId} {ds : List (DataW H)} {j : Nat}
    (hsz : (DataW.weightsEach P ts ds).all (· ≤ reachBytes) = true) (ht : ts[j]? = some t) (hd : ds[j]? = some d) (hu : P.underlying t = some (.slice e)) (he : P.underlying e = some (.int k)) (hc : P.cellsOf e = 1) {B : Nat} (hB : P.bytesOf e = B)
    (h : DataW.Trod enc P W base spare held t (.slice a len cap) d ps) : len * B ≤ 140737488351232 :=
  Go.Proofs.YtmfommidbijloaaW.PrintWords.sized_ints hsz ht hd hu he hc hB h
end Go.Proofs.Ytmfommidbijloaa.PrintWords
