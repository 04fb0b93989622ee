/- The program's RoomStep answers as the reference's does, at all arguments. -/
import Derived.Test.YtmfommidbijloaaQFnExactRoomStepx5
import Derived.Test.YtmfommidbijloaaWSized
import Derived.Test.YtmfommidbijloaaWSized
import Derived.Test.YtmfommidbijloaaWSized
import Derived.Test.YtmfommidbijloaaWSized
namespace Go.Proofs.Ytmfommidbijloaa.Pure
open Go.RowKit Go.Proofs.Ytmfommidbijloaa.PFnExactRoomStep Go.Proofs.YtmfommidbijloaaW.PrintWords Go.Proofs.YtmfommidbijloaaW.PrintLast
theorem w64 {x : Int} (h0 : -9223372036854775808 ≤ x) (h1 : x ≤ 9223372036854775807) : wrap64 x = x := by
  unfold wrap64
  omega
theorem fits {x : Int} (h : (Lit.int .i64 x).wf = true) : -9223372036854775808 ≤ x ∧ x ≤ 9223372036854775807 := by
  simp only [Lit.wf, Bool.and_eq_true, decide_eq_true_eq] at h
  exact h
theorem fits8 {x : Int} (h : (Lit.int .u8 x).wf = true) : 0 ≤ x ∧ x ≤ 255 := by
  simp only [Lit.wf, Bool.and_eq_true, decide_eq_true_eq] at h
  exact h

theorem nat_step {i : Nat} (h : i < 1000000000000) : wrap64 ((i : Int) + 1) = ((i + 1 : Nat) : Int) := by
  rw [w64 (by omega) (by omega)]
  omega
theorem rd_nat (l : List Int) (i : Nat) : rd l (i : Int) = l.getD i 0 := by
  unfold rd
  rw [Int.toNat_natCast]
theorem rd_get (l : List Int) (i : Nat) (h : i < l.length) : rd l (i : Int) = l[i] := by
  rw [rd_nat]
  simp [List.getD_eq_getElem?_getD, List.getElem?_eq_getElem h]
theorem drop_at (l : List Int) (i : Nat) (h : i < l.length) : l.drop i = rd l (i : Int) :: l.drop (i + 1) := by
  rw [List.drop_eq_getElem_cons h, rd_get l i h]
theorem take_at (l : List Int) (i : Nat) (h : i < l.length) : l.take (i + 1) = l.take i ++ [rd l (i : Int)] := by
  rw [List.take_succ_eq_append_getElem h, rd_get l i h]
theorem beq_dec (x y : Int) : (x == y) = decide (x = y) := rfl
theorem l1In_ok (x lo hi : Int) : spec_l1In.f x lo hi = some (decide (lo ≤ x ∧ x ≤ hi)) := by
  unfold spec_l1In.f
  by_cases h : x ≥ lo
  · simp [h]
  · simp [h]

theorem set_at (l : List Int) (i : Nat) (h : i < l.length) : (l.take i ++ List.replicate (l.length - i) 0).set (i : Int).toNat (rd l (i : Int)) = l.take (i + 1) ++ List.replicate (l.length - (i + 1)) 0 := by
  have hl : (l.take i).length = i := by simp; omega
  obtain ⟨m, hm⟩ : ∃ m, l.length - i = m + 1 := ⟨l.length - i - 1, by omega⟩
  have hm' : l.length - (i + 1) = m := by omega
  rw [Int.toNat_natCast, hm, hm', List.replicate_succ, List.set_append_right _ _ (by omega), hl, Nat.sub_self, List.set_cons_zero, take_at l i h]
  simp
theorem toInt_l0 (l : List Int) (hn : l.length ≤ 2000000) (d : Nat) : ∀ (k i : Nat), i + d = l.length → d < k →
    laws_toIntS.l0 k l (l.take i ++ List.replicate (l.length - i) 0) (i : Int) = some l := by
  induction d with
  | zero =>
    intro k i hi hk
    obtain ⟨k, rfl⟩ : ∃ m, k = m + 1 := ⟨k - 1, by omega⟩
    simp only [laws_toIntS.l0]
    rw [if_neg (by omega), show l.length - i = 0 by omega, List.take_of_length_le (by omega)]
    simp
  | succ d ih =>
    intro k i hi hk
    obtain ⟨k, rfl⟩ : ∃ m, k = m + 1 := ⟨k - 1, by omega⟩
    have hl : (l.take i ++ List.replicate (l.length - i) (0 : Int)).length = l.length := by simp; omega
    simp only [laws_toIntS.l0]
    rw [if_pos (by omega), if_pos (by omega), hl, if_pos (by omega), set_at l i (by omega), nat_step (by omega)]
    exact ih k (i + 1) (by omega) (by omega)
theorem toInt_ok (l : List Int) (hn : l.length ≤ 2000000) (k : Nat) (hk : l.length < k) : laws_toIntS.f k l = some l := by
  unfold laws_toIntS.f
  rw [if_pos (by omega), if_pos (by omega), Int.toNat_natCast]
  exact toInt_l0 l hn l.length k 0 (by omega) hk
theorem eq_l0 (l : List Int) (hn : l.length ≤ 2000000) (d : Nat) : ∀ (k i : Nat), i + d = l.length → d < k → laws_eqIntS.l0 k l l (i : Int) = some true := by
  induction d with
  | zero =>
    intro k i hi hk
    obtain ⟨k, rfl⟩ : ∃ m, k = m + 1 := ⟨k - 1, by omega⟩
    simp only [laws_eqIntS.l0]
    rw [if_neg (by omega)]
  | succ d ih =>
    intro k i hi hk
    obtain ⟨k, rfl⟩ : ∃ m, k = m + 1 := ⟨k - 1, by omega⟩
    simp only [laws_eqIntS.l0]
    rw [if_pos (by omega), if_pos (by omega), if_pos (by omega), if_pos trivial, nat_step (by omega)]
    exact ih k (i + 1) (by omega) (by omega)
theorem eq_ok (l : List Int) (hn : l.length ≤ 2000000) (k : Nat) (hk : l.length < k) : laws_eqIntS.f k l l = some true := by
  unfold laws_eqIntS.f
  rw [if_pos rfl]
  exact eq_l0 l hn l.length k 0 (by omega) hk

theorem mark_l0 (d : Nat) : ∀ (k i : Nat) (l : List Int) (a : Int), l.length ≤ 2000000 → i + d = l.length → d < k → 0 ≤ a → a + (d : Int) ≤ 5000000 →
    ∃ M, laws_markIntS.l0 k l a (i : Int) = some (a + d, M) ∧ M.length = l.length ∧ (∀ j, j < i → rd M (j : Int) = rd l (j : Int)) ∧ ∀ j, i ≤ j → j < l.length → rd M (j : Int) = a + ((j - i : Nat) : Int) := by
  induction d with
  | zero =>
    intro k i l a hn hi hk a0 a1
    obtain ⟨k, rfl⟩ : ∃ m, k = m + 1 := ⟨k - 1, by omega⟩
    refine ⟨l, ?_, rfl, fun j _ => rfl, fun j h1 h2 => by omega⟩
    simp only [laws_markIntS.l0]
    rw [if_neg (by omega)]
    simp
  | succ d ih =>
    intro k i l a hn hi hk a0 a1
    obtain ⟨k, rfl⟩ : ∃ m, k = m + 1 := ⟨k - 1, by omega⟩
    obtain ⟨M, e, hl, h1, h2⟩ := ih k (i + 1) (l.set i a) (a + 1) (by simp; omega) (by simp; omega) (by omega) (by omega) (by omega)
    refine ⟨M, ?_, by simpa using hl, fun j hj => ?_, fun j hj hj2 => ?_⟩
    · simp only [laws_markIntS.l0]
      rw [if_pos (by omega), if_pos (by omega), Int.toNat_natCast, nat_step (by omega), w64 (by omega) (by omega), e]
      simp
      omega
    · rw [h1 j (by omega), rd_nat, rd_nat]
      simp [List.getD_eq_getElem?_getD, show ¬ i = j by omega]
    · by_cases hij : j = i
      · subst hij
        rw [h1 j (by omega), rd_get _ _ (by simp; omega)]
        simp
      · rw [h2 j (by omega) (by simp; omega)]
        omega
theorem held_l0 (M : List Int) (hn : M.length ≤ 2000000) (hM : ∀ j, j < M.length → rd M (j : Int) = 1 + (j : Int)) (d : Nat) : ∀ (k i : Nat), i + d = M.length → d < k →
    laws_heldIntS.l0 k M (1 + (i : Int)) (i : Int) = some (1 + (M.length : Int)) := by
  induction d with
  | zero =>
    intro k i hi hk
    obtain ⟨k, rfl⟩ : ∃ m, k = m + 1 := ⟨k - 1, by omega⟩
    simp only [laws_heldIntS.l0]
    rw [if_neg (by omega), show i = M.length by omega]
  | succ d ih =>
    intro k i hi hk
    obtain ⟨k, rfl⟩ : ∃ m, k = m + 1 := ⟨k - 1, by omega⟩
    simp only [laws_heldIntS.l0]
    rw [if_pos (by omega), if_pos (by omega), if_pos (hM i (by omega)), nat_step (by omega), w64 (by omega) (by omega), show 1 + (i : Int) + 1 = 1 + ((i + 1 : Nat) : Int) by omega]
    exact ih k (i + 1) (by omega) (by omega)
theorem mark_ok (l : List Int) (hn : l.length ≤ 2000000) (k : Nat) (hk : l.length < k) :
    ∃ M, laws_markIntS.f k l 1 = some (1 + (l.length : Int), M) ∧ ∀ k', l.length < k' → laws_heldIntS.f k' M 1 = some (1 + (l.length : Int)) := by
  obtain ⟨M, e, hl, -, h2⟩ := mark_l0 l.length k 0 l 1 hn (by omega) hk (by omega) (by omega)
  refine ⟨M, e, fun k' hk' => ?_⟩
  have := held_l0 M (by omega) (fun j hj => by rw [h2 j (by omega) (by omega)]; omega) M.length k' 0 (by omega) (by omega)
  rw [hl] at this
  exact this

def RowIn (b : Int) (l : List Int) : Prop := (∀ x ∈ l, 0 ≤ x ∧ x ≤ 10000000) ∧ (1 ≤ b ∧ b ≤ 6) ∧ (l.length : Int) = b + 1
instance (b : Int) (l : List Int) : Decidable (RowIn b l) := by unfold RowIn; infer_instance
def TailIn (b : Int) (l t : List Int) : Prop := (∀ x ∈ t, 0 ≤ x ∧ x ≤ 10000000) ∧ (1 ≤ b ∧ b ≤ 6) ∧ (l.length : Int) = b + 1
instance (b : Int) (l t : List Int) : Decidable (TailIn b l t) := by unfold TailIn; infer_instance
theorem tail_cons (b : Int) (l t : List Int) (x : Int) : TailIn b l (x :: t) ↔ (0 ≤ x ∧ x ≤ 10000000) ∧ TailIn b l t := by
  unfold TailIn
  simp only [List.mem_cons, forall_eq_or_imp, and_assoc]
theorem spec_row_l0 (b : Int) (l : List Int) (hn : l.length ≤ 2000000) (d : Nat) : ∀ (k i : Nat), i + d = l.length → d < k →
    spec_RoomRowOk.l0 k b l (i : Int) = some (decide (TailIn b l (l.drop i))) := by
  induction d with
  | zero =>
    intro k i hi hk
    obtain ⟨k, rfl⟩ : ∃ m, k = m + 1 := ⟨k - 1, by omega⟩
    simp only [spec_RoomRowOk.l0]
    rw [if_neg (by omega), l1In_ok, List.drop_of_length_le (by omega)]
    unfold TailIn
    by_cases h : 1 ≤ b ∧ b ≤ 6
    · rw [w64 (x := b + 1) (by omega) (by omega)]
      simp [h, beq_dec]
    · simp [h]
  | succ d ih =>
    intro k i hi hk
    obtain ⟨k, rfl⟩ : ∃ m, k = m + 1 := ⟨k - 1, by omega⟩
    simp only [spec_RoomRowOk.l0]
    rw [if_pos (by omega), if_pos (by omega), l1In_ok, drop_at l i (by omega), nat_step (by omega), ih k (i + 1) (by omega) (by omega)]
    simp only [Option.bind_some, tail_cons]
    by_cases h : 0 ≤ rd l (i : Int) ∧ rd l (i : Int) ≤ 10000000
    · simp [h]
    · simp [h]
theorem spec_row (b : Int) (l : List Int) (hn : l.length ≤ 2000000) (k : Nat) (hk : l.length < k) : spec_RoomRowOk.f k b l = some (decide (RowIn b l)) :=
  spec_row_l0 b l hn l.length k 0 (by omega) hk
theorem impl_row_l0 (b : Int) (l : List Int) (hn : l.length ≤ 2000000) (d : Nat) : ∀ (k i : Nat), i + d = l.length → d < k →
    impl_RoomRowOk.l0 k b l l (l.length : Int) (i : Int) = some (decide (TailIn b l (l.drop i))) := by
  induction d with
  | zero =>
    intro k i hi hk
    obtain ⟨k, rfl⟩ : ∃ m, k = m + 1 := ⟨k - 1, by omega⟩
    simp only [impl_RoomRowOk.l0]
    rw [if_neg (by omega), List.drop_of_length_le (by omega)]
    unfold TailIn
    by_cases h1 : b ≥ 1
    · by_cases h2 : b ≤ 6
      · rw [w64 (x := b + 1) (by omega) (by omega)]
        simp [h1, h2, beq_dec]
      · simp [h1, h2]
    · simp [h1]
  | succ d ih =>
    intro k i hi hk
    obtain ⟨k, rfl⟩ : ∃ m, k = m + 1 := ⟨k - 1, by omega⟩
    simp only [impl_RoomRowOk.l0]
    rw [if_pos (by omega), if_pos (by omega), if_pos (by omega), drop_at l i (by omega), nat_step (by omega), ih k (i + 1) (by omega) (by omega)]
    simp only [tail_cons]
    by_cases h1 : rd l (i : Int) < 0
    · rw [if_pos h1, decide_eq_false (by omega)]
    · rw [if_neg h1]
      by_cases h2 : rd l (i : Int) > 10000000
      · rw [if_pos h2, decide_eq_false (by omega)]
      · rw [if_neg h2]
        have h : 0 ≤ rd l (i : Int) ∧ rd l (i : Int) ≤ 10000000 := by omega
        simp [h]
theorem impl_row (b : Int) (l : List Int) (hn : l.length ≤ 2000000) (k : Nat) (hk : l.length < k) : impl_RoomRowOk.f k b l = some (decide (RowIn b l)) :=
  impl_row_l0 b l hn l.length k 0 (by omega) hk

set_option linter.unusedSimpArgs false
theorem r0 (x : Int) (l : List Int) : rd (x :: l) 0 = x := rfl
theorem r1 (x : Int) (l : List Int) : rd (x :: l) 1 = rd l 0 := rfl
theorem r2 (x : Int) (l : List Int) : rd (x :: l) 2 = rd l 1 := rfl
theorem r3 (x : Int) (l : List Int) : rd (x :: l) 3 = rd l 2 := rfl
theorem r4 (x : Int) (l : List Int) : rd (x :: l) 4 = rd l 3 := rfl
theorem r5 (x : Int) (l : List Int) : rd (x :: l) 5 = rd l 4 := rfl
theorem r6 (x : Int) (l : List Int) : rd (x :: l) 6 = rd l 5 := rfl
def stepL : List Int → List Int
  | [x0, x1] => [x1, x0]
  | [x0, x1, x2] => [x1, x0 * 2 + x2 * 2, x1]
  | [x0, x1, x2, x3] => [x1, x0 * 3 + x2 * 2, x1 * 2 + x3 * 3, x2]
  | [x0, x1, x2, x3, x4] => [x1, x0 * 4 + x2 * 2, x1 * 3 + x3 * 3, x2 * 2 + x4 * 4, x3]
  | [x0, x1, x2, x3, x4, x5] => [x1, x0 * 5 + x2 * 2, x1 * 4 + x3 * 3, x2 * 3 + x4 * 4, x3 * 2 + x5 * 5, x4]
  | [x0, x1, x2, x3, x4, x5, x6] => [x1, x0 * 6 + x2 * 2, x1 * 5 + x3 * 3, x2 * 4 + x4 * 4, x3 * 3 + x5 * 5, x4 * 2 + x6 * 6, x5]
  | _ => []
set_option maxHeartbeats 8000000 in
theorem spec_step1 (x0 x1 : Int) (a0 : 0 ≤ x0) (b0 : x0 ≤ 10000000) (a1 : 0 ≤ x1) (b1 : x1 ≤ 10000000) : spec_l7Step.l0 60 1 [x0, x1] [0, 0] 0 = some [x1, x0] := by
  simp (maxSteps := 8000000) (disch := omega) [spec_l7Step.l0, r0, r1, r2, r3, r4, r5, r6, w64]
set_option maxHeartbeats 8000000 in
theorem impl_step1 (x0 x1 : Int) (a0 : 0 ≤ x0) (b0 : x0 ≤ 10000000) (a1 : 0 ≤ x1) (b1 : x1 ≤ 10000000) : impl_RoomStep.l0 60 1 [x0, x1] [0, 0] 2 0 = (impl_RoomRowOk.f 57 1 [x1, x0]).bind fun t => if t = true then some [x1, x0] else some ([] : List Int) := by
  simp (maxSteps := 8000000) (disch := omega) [impl_RoomStep.l0, r0, r1, r2, r3, r4, r5, r6, w64]
theorem swap1 (x0 x1 : Int) : ([x1, x0] : List Int) = [x1, x0] := rfl
theorem len1 (l : List Int) (h : (l.length : Int) = 1 + 1) : ∃ x0 x1, l = [x0, x1] := by
  match l, h with
  | [x0, x1], _ => exact ⟨x0, x1, rfl⟩
set_option maxHeartbeats 8000000 in
theorem spec_step2 (x0 x1 x2 : Int) (a0 : 0 ≤ x0) (b0 : x0 ≤ 10000000) (a1 : 0 ≤ x1) (b1 : x1 ≤ 10000000) (a2 : 0 ≤ x2) (b2 : x2 ≤ 10000000) : spec_l7Step.l0 60 2 [x0, x1, x2] [0, 0, 0] 0 = some [x1, x0 * 2 + x2 * 2, x1] := by
  simp (maxSteps := 8000000) (disch := omega) [spec_l7Step.l0, r0, r1, r2, r3, r4, r5, r6, w64]
set_option maxHeartbeats 8000000 in
theorem impl_step2 (x0 x1 x2 : Int) (a0 : 0 ≤ x0) (b0 : x0 ≤ 10000000) (a1 : 0 ≤ x1) (b1 : x1 ≤ 10000000) (a2 : 0 ≤ x2) (b2 : x2 ≤ 10000000) : impl_RoomStep.l0 60 2 [x0, x1, x2] [0, 0, 0] 3 0 = (impl_RoomRowOk.f 56 2 [x1, x2 * 2 + x0 * 2, x1]).bind fun t => if t = true then some [x1, x2 * 2 + x0 * 2, x1] else some ([] : List Int) := by
  simp (maxSteps := 8000000) (disch := omega) [impl_RoomStep.l0, r0, r1, r2, r3, r4, r5, r6, w64]
theorem swap2 (x0 x1 x2 : Int) : ([x1, x2 * 2 + x0 * 2, x1] : List Int) = [x1, x0 * 2 + x2 * 2, x1] := by
  rw [Int.add_comm (x2 * 2) (x0 * 2)]
theorem len2 (l : List Int) (h : (l.length : Int) = 2 + 1) : ∃ x0 x1 x2, l = [x0, x1, x2] := by
  match l, h with
  | [x0, x1, x2], _ => exact ⟨x0, x1, x2, rfl⟩
set_option maxHeartbeats 8000000 in
theorem spec_step3 (x0 x1 x2 x3 : Int) (a0 : 0 ≤ x0) (b0 : x0 ≤ 10000000) (a1 : 0 ≤ x1) (b1 : x1 ≤ 10000000) (a2 : 0 ≤ x2) (b2 : x2 ≤ 10000000) (a3 : 0 ≤ x3) (b3 : x3 ≤ 10000000) : spec_l7Step.l0 60 3 [x0, x1, x2, x3] [0, 0, 0, 0] 0 = some [x1, x0 * 3 + x2 * 2, x1 * 2 + x3 * 3, x2] := by
  simp (maxSteps := 8000000) (disch := omega) [spec_l7Step.l0, r0, r1, r2, r3, r4, r5, r6, w64]
set_option maxHeartbeats 8000000 in
theorem impl_step3 (x0 x1 x2 x3 : Int) (a0 : 0 ≤ x0) (b0 : x0 ≤ 10000000) (a1 : 0 ≤ x1) (b1 : x1 ≤ 10000000) (a2 : 0 ≤ x2) (b2 : x2 ≤ 10000000) (a3 : 0 ≤ x3) (b3 : x3 ≤ 10000000) : impl_RoomStep.l0 60 3 [x0, x1, x2, x3] [0, 0, 0, 0] 4 0 = (impl_RoomRowOk.f 55 3 [x1, x2 * 2 + x0 * 3, x3 * 3 + x1 * 2, x2]).bind fun t => if t = true then some [x1, x2 * 2 + x0 * 3, x3 * 3 + x1 * 2, x2] else some ([] : List Int) := by
  simp (maxSteps := 8000000) (disch := omega) [impl_RoomStep.l0, r0, r1, r2, r3, r4, r5, r6, w64]
theorem swap3 (x0 x1 x2 x3 : Int) : ([x1, x2 * 2 + x0 * 3, x3 * 3 + x1 * 2, x2] : List Int) = [x1, x0 * 3 + x2 * 2, x1 * 2 + x3 * 3, x2] := by
  rw [Int.add_comm (x2 * 2) (x0 * 3), Int.add_comm (x3 * 3) (x1 * 2)]
theorem len3 (l : List Int) (h : (l.length : Int) = 3 + 1) : ∃ x0 x1 x2 x3, l = [x0, x1, x2, x3] := by
  match l, h with
  | [x0, x1, x2, x3], _ => exact ⟨x0, x1, x2, x3, rfl⟩
set_option maxHeartbeats 8000000 in
theorem spec_step4 (x0 x1 x2 x3 x4 : Int) (a0 : 0 ≤ x0) (b0 : x0 ≤ 10000000) (a1 : 0 ≤ x1) (b1 : x1 ≤ 10000000) (a2 : 0 ≤ x2) (b2 : x2 ≤ 10000000) (a3 : 0 ≤ x3) (b3 : x3 ≤ 10000000) (a4 : 0 ≤ x4) (b4 : x4 ≤ 10000000) : spec_l7Step.l0 60 4 [x0, x1, x2, x3, x4] [0, 0, 0, 0, 0] 0 = some [x1, x0 * 4 + x2 * 2, x1 * 3 + x3 * 3, x2 * 2 + x4 * 4, x3] := by
  simp (maxSteps := 8000000) (disch := omega) [spec_l7Step.l0, r0, r1, r2, r3, r4, r5, r6, w64]
set_option maxHeartbeats 8000000 in
theorem impl_step4 (x0 x1 x2 x3 x4 : Int) (a0 : 0 ≤ x0) (b0 : x0 ≤ 10000000) (a1 : 0 ≤ x1) (b1 : x1 ≤ 10000000) (a2 : 0 ≤ x2) (b2 : x2 ≤ 10000000) (a3 : 0 ≤ x3) (b3 : x3 ≤ 10000000) (a4 : 0 ≤ x4) (b4 : x4 ≤ 10000000) : impl_RoomStep.l0 60 4 [x0, x1, x2, x3, x4] [0, 0, 0, 0, 0] 5 0 = (impl_RoomRowOk.f 54 4 [x1, x2 * 2 + x0 * 4, x3 * 3 + x1 * 3, x4 * 4 + x2 * 2, x3]).bind fun t => if t = true then some [x1, x2 * 2 + x0 * 4, x3 * 3 + x1 * 3, x4 * 4 + x2 * 2, x3] else some ([] : List Int) := by
  simp (maxSteps := 8000000) (disch := omega) [impl_RoomStep.l0, r0, r1, r2, r3, r4, r5, r6, w64]
theorem swap4 (x0 x1 x2 x3 x4 : Int) : ([x1, x2 * 2 + x0 * 4, x3 * 3 + x1 * 3, x4 * 4 + x2 * 2, x3] : List Int) = [x1, x0 * 4 + x2 * 2, x1 * 3 + x3 * 3, x2 * 2 + x4 * 4, x3] := by
  rw [Int.add_comm (x2 * 2) (x0 * 4), Int.add_comm (x3 * 3) (x1 * 3), Int.add_comm (x4 * 4) (x2 * 2)]
theorem len4 (l : List Int) (h : (l.length : Int) = 4 + 1) : ∃ x0 x1 x2 x3 x4, l = [x0, x1, x2, x3, x4] := by
  match l, h with
  | [x0, x1, x2, x3, x4], _ => exact ⟨x0, x1, x2, x3, x4, rfl⟩
set_option maxHeartbeats 8000000 in
theorem spec_step5 (x0 x1 x2 x3 x4 x5 : Int) (a0 : 0 ≤ x0) (b0 : x0 ≤ 10000000) (a1 : 0 ≤ x1) (b1 : x1 ≤ 10000000) (a2 : 0 ≤ x2) (b2 : x2 ≤ 10000000) (a3 : 0 ≤ x3) (b3 : x3 ≤ 10000000) (a4 : 0 ≤ x4) (b4 : x4 ≤ 10000000) (a5 : 0 ≤ x5) (b5 : x5 ≤ 10000000) : spec_l7Step.l0 60 5 [x0, x1, x2, x3, x4, x5] [0, 0, 0, 0, 0, 0] 0 = some [x1, x0 * 5 + x2 * 2, x1 * 4 + x3 * 3, x2 * 3 + x4 * 4, x3 * 2 + x5 * 5, x4] := by
  simp (maxSteps := 8000000) (disch := omega) [spec_l7Step.l0, r0, r1, r2, r3, r4, r5, r6, w64]
set_option maxHeartbeats 8000000 in
theorem impl_step5 (x0 x1 x2 x3 x4 x5 : Int) (a0 : 0 ≤ x0) (b0 : x0 ≤ 10000000) (a1 : 0 ≤ x1) (b1 : x1 ≤ 10000000) (a2 : 0 ≤ x2) (b2 : x2 ≤ 10000000) (a3 : 0 ≤ x3) (b3 : x3 ≤ 10000000) (a4 : 0 ≤ x4) (b4 : x4 ≤ 10000000) (a5 : 0 ≤ x5) (b5 : x5 ≤ 10000000) : impl_RoomStep.l0 60 5 [x0, x1, x2, x3, x4, x5] [0, 0, 0, 0, 0, 0] 6 0 = (impl_RoomRowOk.f 53 5 [x1, x2 * 2 + x0 * 5, x3 * 3 + x1 * 4, x4 * 4 + x2 * 3, x5 * 5 + x3 * 2, x4]).bind fun t => if t = true then some [x1, x2 * 2 + x0 * 5, x3 * 3 + x1 * 4, x4 * 4 + x2 * 3, x5 * 5 + x3 * 2, x4] else some ([] : List Int) := by
  simp (maxSteps := 8000000) (disch := omega) [impl_RoomStep.l0, r0, r1, r2, r3, r4, r5, r6, w64]
theorem swap5 (x0 x1 x2 x3 x4 x5 : Int) : ([x1, x2 * 2 + x0 * 5, x3 * 3 + x1 * 4, x4 * 4 + x2 * 3, x5 * 5 + x3 * 2, x4] : List Int) = [x1, x0 * 5 + x2 * 2, x1 * 4 + x3 * 3, x2 * 3 + x4 * 4, x3 * 2 + x5 * 5, x4] := by
  rw [Int.add_comm (x2 * 2) (x0 * 5), Int.add_comm (x3 * 3) (x1 * 4), Int.add_comm (x4 * 4) (x2 * 3), Int.add_comm (x5 * 5) (x3 * 2)]
theorem len5 (l : List Int) (h : (l.length : Int) = 5 + 1) : ∃ x0 x1 x2 x3 x4 x5, l = [x0, x1, x2, x3, x4, x5] := by
  match l, h with
  | [x0, x1, x2, x3, x4, x5], _ => exact ⟨x0, x1, x2, x3, x4, x5, rfl⟩
set_option maxHeartbeats 8000000 in
theorem spec_step6 (x0 x1 x2 x3 x4 x5 x6 : Int) (a0 : 0 ≤ x0) (b0 : x0 ≤ 10000000) (a1 : 0 ≤ x1) (b1 : x1 ≤ 10000000) (a2 : 0 ≤ x2) (b2 : x2 ≤ 10000000) (a3 : 0 ≤ x3) (b3 : x3 ≤ 10000000) (a4 : 0 ≤ x4) (b4 : x4 ≤ 10000000) (a5 : 0 ≤ x5) (b5 : x5 ≤ 10000000) (a6 : 0 ≤ x6) (b6 : x6 ≤ 10000000) : spec_l7Step.l0 60 6 [x0, x1, x2, x3, x4, x5, x6] [0, 0, 0, 0, 0, 0, 0] 0 = some [x1, x0 * 6 + x2 * 2, x1 * 5 + x3 * 3, x2 * 4 + x4 * 4, x3 * 3 + x5 * 5, x4 * 2 + x6 * 6, x5] := by
  simp (maxSteps := 8000000) (disch := omega) [spec_l7Step.l0, r0, r1, r2, r3, r4, r5, r6, w64]
set_option maxHeartbeats 8000000 in
theorem impl_step6 (x0 x1 x2 x3 x4 x5 x6 : Int) (a0 : 0 ≤ x0) (b0 : x0 ≤ 10000000) (a1 : 0 ≤ x1) (b1 : x1 ≤ 10000000) (a2 : 0 ≤ x2) (b2 : x2 ≤ 10000000) (a3 : 0 ≤ x3) (b3 : x3 ≤ 10000000) (a4 : 0 ≤ x4) (b4 : x4 ≤ 10000000) (a5 : 0 ≤ x5) (b5 : x5 ≤ 10000000) (a6 : 0 ≤ x6) (b6 : x6 ≤ 10000000) : impl_RoomStep.l0 60 6 [x0, x1, x2, x3, x4, x5, x6] [0, 0, 0, 0, 0, 0, 0] 7 0 = (impl_RoomRowOk.f 52 6 [x1, x2 * 2 + x0 * 6, x3 * 3 + x1 * 5, x4 * 4 + x2 * 4, x5 * 5 + x3 * 3, x6 * 6 + x4 * 2, x5]).bind fun t => if t = true then some [x1, x2 * 2 + x0 * 6, x3 * 3 + x1 * 5, x4 * 4 + x2 * 4, x5 * 5 + x3 * 3, x6 * 6 + x4 * 2, x5] else some ([] : List Int) := by
  simp (maxSteps := 8000000) (disch := omega) [impl_RoomStep.l0, r0, r1, r2, r3, r4, r5, r6, w64]
theorem swap6 (x0 x1 x2 x3 x4 x5 x6 : Int) : ([x1, x2 * 2 + x0 * 6, x3 * 3 + x1 * 5, x4 * 4 + x2 * 4, x5 * 5 + x3 * 3, x6 * 6 + x4 * 2, x5] : List Int) = [x1, x0 * 6 + x2 * 2, x1 * 5 + x3 * 3, x2 * 4 + x4 * 4, x3 * 3 + x5 * 5, x4 * 2 + x6 * 6, x5] := by
  rw [Int.add_comm (x2 * 2) (x0 * 6), Int.add_comm (x3 * 3) (x1 * 5), Int.add_comm (x4 * 4) (x2 * 4), Int.add_comm (x5 * 5) (x3 * 3), Int.add_comm (x6 * 6) (x4 * 2)]
theorem len6 (l : List Int) (h : (l.length : Int) = 6 + 1) : ∃ x0 x1 x2 x3 x4 x5 x6, l = [x0, x1, x2, x3, x4, x5, x6] := by
  match l, h with
  | [x0, x1, x2, x3, x4, x5, x6], _ => exact ⟨x0, x1, x2, x3, x4, x5, x6, rfl⟩
theorem six {b : Int} (h : 1 ≤ b ∧ b ≤ 6) : b = 1 ∨ b = 2 ∨ b = 3 ∨ b = 4 ∨ b = 5 ∨ b = 6 := by omega
theorem spec_stepL (b : Int) (l : List Int) (h : RowIn b l) : spec_l7Step.f 60 b l = some (stepL l) := by
  obtain ⟨h1, h2, h3⟩ := h
  rcases six h2 with rfl | rfl | rfl | rfl | rfl | rfl
  · obtain ⟨x0, x1, rfl⟩ := len1 l h3
    have hb := fun x hx => h1 x hx
    refine Eq.trans (b := spec_l7Step.l0 60 1 [x0, x1] [0, 0] 0) ?_ (spec_step1 x0 x1 (hb x0 (by simp)).1 (hb x0 (by simp)).2 (hb x1 (by simp)).1 (hb x1 (by simp)).2)
    unfold spec_l7Step.f
    rw [w64 (x := 1 + 1) (by omega) (by omega), if_pos (by omega), if_pos (by decide)]
    rfl
  · obtain ⟨x0, x1, x2, rfl⟩ := len2 l h3
    have hb := fun x hx => h1 x hx
    refine Eq.trans (b := spec_l7Step.l0 60 2 [x0, x1, x2] [0, 0, 0] 0) ?_ (spec_step2 x0 x1 x2 (hb x0 (by simp)).1 (hb x0 (by simp)).2 (hb x1 (by simp)).1 (hb x1 (by simp)).2 (hb x2 (by simp)).1 (hb x2 (by simp)).2)
    unfold spec_l7Step.f
    rw [w64 (x := 2 + 1) (by omega) (by omega), if_pos (by omega), if_pos (by decide)]
    rfl
  · obtain ⟨x0, x1, x2, x3, rfl⟩ := len3 l h3
    have hb := fun x hx => h1 x hx
    refine Eq.trans (b := spec_l7Step.l0 60 3 [x0, x1, x2, x3] [0, 0, 0, 0] 0) ?_ (spec_step3 x0 x1 x2 x3 (hb x0 (by simp)).1 (hb x0 (by simp)).2 (hb x1 (by simp)).1 (hb x1 (by simp)).2 (hb x2 (by simp)).1 (hb x2 (by simp)).2 (hb x3 (by simp)).1 (hb x3 (by simp)).2)
    unfold spec_l7Step.f
    rw [w64 (x := 3 + 1) (by omega) (by omega), if_pos (by omega), if_pos (by decide)]
    rfl
  · obtain ⟨x0, x1, x2, x3, x4, rfl⟩ := len4 l h3
    have hb := fun x hx => h1 x hx
    refine Eq.trans (b := spec_l7Step.l0 60 4 [x0, x1, x2, x3, x4] [0, 0, 0, 0, 0] 0) ?_ (spec_step4 x0 x1 x2 x3 x4 (hb x0 (by simp)).1 (hb x0 (by simp)).2 (hb x1 (by simp)).1 (hb x1 (by simp)).2 (hb x2 (by simp)).1 (hb x2 (by simp)).2 (hb x3 (by simp)).1 (hb x3 (by simp)).2 (hb x4 (by simp)).1 (hb x4 (by simp)).2)
    unfold spec_l7Step.f
    rw [w64 (x := 4 + 1) (by omega) (by omega), if_pos (by omega), if_pos (by decide)]
    rfl
  · obtain ⟨x0, x1, x2, x3, x4, x5, rfl⟩ := len5 l h3
    have hb := fun x hx => h1 x hx
    refine Eq.trans (b := spec_l7Step.l0 60 5 [x0, x1, x2, x3, x4, x5] [0, 0, 0, 0, 0, 0] 0) ?_ (spec_step5 x0 x1 x2 x3 x4 x5 (hb x0 (by simp)).1 (hb x0 (by simp)).2 (hb x1 (by simp)).1 (hb x1 (by simp)).2 (hb x2 (by simp)).1 (hb x2 (by simp)).2 (hb x3 (by simp)).1 (hb x3 (by simp)).2 (hb x4 (by simp)).1 (hb x4 (by simp)).2 (hb x5 (by simp)).1 (hb x5 (by simp)).2)
    unfold spec_l7Step.f
    rw [w64 (x := 5 + 1) (by omega) (by omega), if_pos (by omega), if_pos (by decide)]
    rfl
  · obtain ⟨x0, x1, x2, x3, x4, x5, x6, rfl⟩ := len6 l h3
    have hb := fun x hx => h1 x hx
    refine Eq.trans (b := spec_l7Step.l0 60 6 [x0, x1, x2, x3, x4, x5, x6] [0, 0, 0, 0, 0, 0, 0] 0) ?_ (spec_step6 x0 x1 x2 x3 x4 x5 x6 (hb x0 (by simp)).1 (hb x0 (by simp)).2 (hb x1 (by simp)).1 (hb x1 (by simp)).2 (hb x2 (by simp)).1 (hb x2 (by simp)).2 (hb x3 (by simp)).1 (hb x3 (by simp)).2 (hb x4 (by simp)).1 (hb x4 (by simp)).2 (hb x5 (by simp)).1 (hb x5 (by simp)).2 (hb x6 (by simp)).1 (hb x6 (by simp)).2)
    unfold spec_l7Step.f
    rw [w64 (x := 6 + 1) (by omega) (by omega), if_pos (by omega), if_pos (by decide)]
    rfl
theorem impl_stepL (b : Int) (l : List Int) (h : RowIn b l) : impl_RoomStep.f 60 b l = some (if RowIn b (stepL l) then stepL l else []) := by
  unfold impl_RoomStep.f
  rw [impl_row b l (by have := h.2.2; have := h.2.1; omega) 60 (by have := h.2.2; have := h.2.1; omega), decide_eq_true h]
  simp only [Option.bind_some, if_true]
  obtain ⟨h1, h2, h3⟩ := h
  rcases six h2 with rfl | rfl | rfl | rfl | rfl | rfl
  · obtain ⟨x0, x1, rfl⟩ := len1 l h3
    have hb := fun x hx => h1 x hx
    rw [w64 (x := 1 + 1) (by omega) (by omega), if_pos (by omega), if_pos (by decide)]
    refine Eq.trans (b := impl_RoomStep.l0 60 1 [x0, x1] [0, 0] 2 0) rfl ?_
    refine (impl_step1 x0 x1 (hb x0 (by simp)).1 (hb x0 (by simp)).2 (hb x1 (by simp)).1 (hb x1 (by simp)).2).trans ?_
    rw [swap1, impl_row _ _ (by simp) 57 (by simp)]
    show (if decide (RowIn 1 (stepL [x0, x1])) = true then some (stepL [x0, x1]) else some []) = _
    by_cases q : RowIn 1 (stepL [x0, x1])
    · simp only [decide_eq_true q, if_true, if_pos q]
    · rw [decide_eq_false q, if_neg q, if_neg (by simp)]
  · obtain ⟨x0, x1, x2, rfl⟩ := len2 l h3
    have hb := fun x hx => h1 x hx
    rw [w64 (x := 2 + 1) (by omega) (by omega), if_pos (by omega), if_pos (by decide)]
    refine Eq.trans (b := impl_RoomStep.l0 60 2 [x0, x1, x2] [0, 0, 0] 3 0) rfl ?_
    refine (impl_step2 x0 x1 x2 (hb x0 (by simp)).1 (hb x0 (by simp)).2 (hb x1 (by simp)).1 (hb x1 (by simp)).2 (hb x2 (by simp)).1 (hb x2 (by simp)).2).trans ?_
    rw [swap2, impl_row _ _ (by simp) 56 (by simp)]
    show (if decide (RowIn 2 (stepL [x0, x1, x2])) = true then some (stepL [x0, x1, x2]) else some []) = _
    by_cases q : RowIn 2 (stepL [x0, x1, x2])
    · simp only [decide_eq_true q, if_true, if_pos q]
    · rw [decide_eq_false q, if_neg q, if_neg (by simp)]
  · obtain ⟨x0, x1, x2, x3, rfl⟩ := len3 l h3
    have hb := fun x hx => h1 x hx
    rw [w64 (x := 3 + 1) (by omega) (by omega), if_pos (by omega), if_pos (by decide)]
    refine Eq.trans (b := impl_RoomStep.l0 60 3 [x0, x1, x2, x3] [0, 0, 0, 0] 4 0) rfl ?_
    refine (impl_step3 x0 x1 x2 x3 (hb x0 (by simp)).1 (hb x0 (by simp)).2 (hb x1 (by simp)).1 (hb x1 (by simp)).2 (hb x2 (by simp)).1 (hb x2 (by simp)).2 (hb x3 (by simp)).1 (hb x3 (by simp)).2).trans ?_
    rw [swap3, impl_row _ _ (by simp) 55 (by simp)]
    show (if decide (RowIn 3 (stepL [x0, x1, x2, x3])) = true then some (stepL [x0, x1, x2, x3]) else some []) = _
    by_cases q : RowIn 3 (stepL [x0, x1, x2, x3])
    · simp only [decide_eq_true q, if_true, if_pos q]
    · rw [decide_eq_false q, if_neg q, if_neg (by simp)]
  · obtain ⟨x0, x1, x2, x3, x4, rfl⟩ := len4 l h3
    have hb := fun x hx => h1 x hx
    rw [w64 (x := 4 + 1) (by omega) (by omega), if_pos (by omega), if_pos (by decide)]
    refine Eq.trans (b := impl_RoomStep.l0 60 4 [x0, x1, x2, x3, x4] [0, 0, 0, 0, 0] 5 0) rfl ?_
    refine (impl_step4 x0 x1 x2 x3 x4 (hb x0 (by simp)).1 (hb x0 (by simp)).2 (hb x1 (by simp)).1 (hb x1 (by simp)).2 (hb x2 (by simp)).1 (hb x2 (by simp)).2 (hb x3 (by simp)).1 (hb x3 (by simp)).2 (hb x4 (by simp)).1 (hb x4 (by simp)).2).trans ?_
    rw [swap4, impl_row _ _ (by simp) 54 (by simp)]
    show (if decide (RowIn 4 (stepL [x0, x1, x2, x3, x4])) = true then some (stepL [x0, x1, x2, x3, x4]) else some []) = _
    by_cases q : RowIn 4 (stepL [x0, x1, x2, x3, x4])
    · simp only [decide_eq_true q, if_true, if_pos q]
    · rw [decide_eq_false q, if_neg q, if_neg (by simp)]
  · obtain ⟨x0, x1, x2, x3, x4, x5, rfl⟩ := len5 l h3
    have hb := fun x hx => h1 x hx
    rw [w64 (x := 5 + 1) (by omega) (by omega), if_pos (by omega), if_pos (by decide)]
    refine Eq.trans (b := impl_RoomStep.l0 60 5 [x0, x1, x2, x3, x4, x5] [0, 0, 0, 0, 0, 0] 6 0) rfl ?_
    refine (impl_step5 x0 x1 x2 x3 x4 x5 (hb x0 (by simp)).1 (hb x0 (by simp)).2 (hb x1 (by simp)).1 (hb x1 (by simp)).2 (hb x2 (by simp)).1 (hb x2 (by simp)).2 (hb x3 (by simp)).1 (hb x3 (by simp)).2 (hb x4 (by simp)).1 (hb x4 (by simp)).2 (hb x5 (by simp)).1 (hb x5 (by simp)).2).trans ?_
    rw [swap5, impl_row _ _ (by simp) 53 (by simp)]
    show (if decide (RowIn 5 (stepL [x0, x1, x2, x3, x4, x5])) = true then some (stepL [x0, x1, x2, x3, x4, x5]) else some []) = _
    by_cases q : RowIn 5 (stepL [x0, x1, x2, x3, x4, x5])
    · simp only [decide_eq_true q, if_true, if_pos q]
    · rw [decide_eq_false q, if_neg q, if_neg (by simp)]
  · obtain ⟨x0, x1, x2, x3, x4, x5, x6, rfl⟩ := len6 l h3
    have hb := fun x hx => h1 x hx
    rw [w64 (x := 6 + 1) (by omega) (by omega), if_pos (by omega), if_pos (by decide)]
    refine Eq.trans (b := impl_RoomStep.l0 60 6 [x0, x1, x2, x3, x4, x5, x6] [0, 0, 0, 0, 0, 0, 0] 7 0) rfl ?_
    refine (impl_step6 x0 x1 x2 x3 x4 x5 x6 (hb x0 (by simp)).1 (hb x0 (by simp)).2 (hb x1 (by simp)).1 (hb x1 (by simp)).2 (hb x2 (by simp)).1 (hb x2 (by simp)).2 (hb x3 (by simp)).1 (hb x3 (by simp)).2 (hb x4 (by simp)).1 (hb x4 (by simp)).2 (hb x5 (by simp)).1 (hb x5 (by simp)).2 (hb x6 (by simp)).1 (hb x6 (by simp)).2).trans ?_
    rw [swap6, impl_row _ _ (by simp) 52 (by simp)]
    show (if decide (RowIn 6 (stepL [x0, x1, x2, x3, x4, x5, x6])) = true then some (stepL [x0, x1, x2, x3, x4, x5, x6]) else some []) = _
    by_cases q : RowIn 6 (stepL [x0, x1, x2, x3, x4, x5, x6])
    · simp only [decide_eq_true q, if_true, if_pos q]
    · rw [decide_eq_false q, if_neg q, if_neg (by simp)]

theorem same (b : Int) (l : List Int) (hn : l.length ≤ 1048576) (k : Nat) (hk : l.length + 70 < k) : ∃ r, r.length ≤ 1048576 ∧ r.length ≤ l.length + 7 ∧ spec_RoomStep.f k b l = some r ∧ impl_RoomStep.f k b l = some r := by
  by_cases h : RowIn b l
  · have h1 := h.2.1
    have h2 := h.2.2
    have hs : (stepL l).length ≤ 7 := by
      obtain ⟨_, h2, h3⟩ := h
      rcases six h2 with rfl | rfl | rfl | rfl | rfl | rfl
      · obtain ⟨x0, x1, rfl⟩ := len1 l h3
        simp [stepL]
      · obtain ⟨x0, x1, x2, rfl⟩ := len2 l h3
        simp [stepL]
      · obtain ⟨x0, x1, x2, x3, rfl⟩ := len3 l h3
        simp [stepL]
      · obtain ⟨x0, x1, x2, x3, x4, rfl⟩ := len4 l h3
        simp [stepL]
      · obtain ⟨x0, x1, x2, x3, x4, x5, rfl⟩ := len5 l h3
        simp [stepL]
      · obtain ⟨x0, x1, x2, x3, x4, x5, x6, rfl⟩ := len6 l h3
        simp [stepL]
    refine ⟨if RowIn b (stepL l) then stepL l else [], by split <;> first | omega | simp, by split <;> first | omega | simp, ?_, at_rounds (impl_RoomStep.mono b l) (show 60 ≤ k by omega) (impl_stepL b l h)⟩
    refine at_rounds (spec_RoomStep.mono b l) (show 60 ≤ k by omega) ?_
    unfold spec_RoomStep.f
    rw [spec_row b l (by omega) 60 (by omega), decide_eq_true h]
    simp only [Option.bind_some, if_true]
    rw [spec_stepL b l h]
    simp only [Option.bind_some]
    rw [spec_row b _ (by omega) 60 (by omega)]
    by_cases q : RowIn b (stepL l)
    · simp [q]
    · simp [q]
  · refine ⟨[], by simp, by simp, ?_, ?_⟩
    · unfold spec_RoomStep.f
      rw [spec_row b l (by omega) k (by omega), decide_eq_false h]
      simp
    · unfold impl_RoomStep.f
      rw [impl_row b l (by omega) k (by omega), decide_eq_false h]
      simp
theorem law_j0 (b : Int) (l : List Int) (hn : l.length ≤ 1048576) (k : Nat) (hk : l.length + 70 < k) (r : List Int) (hr : r.length ≤ 1048576) (hr2 : r.length ≤ l.length + 7) (hi : impl_RoomStep.f k b l = some r) :
    laws_FnExactRoomStep.j0 (k + 1) b l r r false = some true := by
  obtain ⟨M, e1, e2⟩ := mark_ok r (by omega) k (by omega)
  simp only [laws_FnExactRoomStep.j0]
  rw [if_neg (by simp), e1]
  simp only [Option.bind_some]
  rw [e2 k (by omega)]
  simp only [Option.bind_some]
  rw [if_neg (by omega), if_pos trivial, toInt_ok l (by omega) k (by omega)]
  simp only [Option.bind_some]
  rw [hi]
  simp only [Option.bind_some]
  rw [eq_ok r (by omega) k (by omega)]
  simp only [Option.bind_some, if_true]
  rw [if_neg (by omega)]
theorem FnExactRoomStep : laws_FnExactRoomStep.Pure := by
  intro b l _ _ _ _
  refine ⟨l.length + 101, ?_⟩
  unfold laws_FnExactRoomStep.f
  by_cases hc : (l.length : Int) > 1048576
  · rw [if_pos hc]
  · have hn : l.length ≤ 1048576 := by omega
    obtain ⟨r, hr, hr2, hs, hi⟩ := same b l hn (l.length + 100) (by omega)
    have hs' := spec_RoomStep.mono b l _ _ hs
    have hi' := impl_RoomStep.mono b l _ _ hi
    obtain ⟨M, e1, e2⟩ := mark_ok l (by omega) (l.length + 100 + 1) (by omega)
    rw [if_neg hc, toInt_ok l (by omega) _ (by omega)]
    simp only [Option.bind_some]
    rw [hs']
    simp only [Option.bind_some]
    rw [hi']
    simp only [Option.bind_some]
    rw [eq_ok r (by omega) _ (by omega), eq_ok l (by omega) _ (by omega)]
    simp only [Option.bind_some, if_true]
    rw [e1]
    simp only [Option.bind_some]
    rw [if_neg (by omega)]
    exact law_j0 b l hn (l.length + 100) (by omega) r hr hr2 hi

end Go.Proofs.Ytmfommidbijloaa.Pure

namespace Go.Proofs.Ytmfommidbijloaa.PrintWords
open Go.ChangeShapes Go.WideShapes
/-- The bound on a slice's length, under the name by which the row looks for it. -/
theorem sized_ints {H : Type} {enc : TypeId × Value → H} {P : Program} {W : World} {base : Nat} {spare : Nat → Bool} {held : Bool} {t e : TypeId} {k : IntKind} {a : Option Addr} {len cap : Nat} {d : DataW H} {ps : List MemPlace} {ts : List TypeId} {ds : List (DataW H)} {j : Nat}
    (hsz : (DataW.weightsEach P ts ds).all (· ≤ reachBytes) = true) (ht : ts[j]? = some t) (hd : ds[j]? = some d) (hu : P.underlying t = some (.slice e)) (he : P.underlying e = some (.int k)) (hc : P.cellsOf e = 1) {B : Nat} (hB : P.bytesOf e = B)
    (h : DataW.Trod enc P W base spare held t (.slice a len cap) d ps) : len * B ≤ 140737488351232 :=
  Go.Proofs.YtmfommidbijloaaW.PrintWords.sized_ints hsz ht hd hu he hc hB h
end Go.Proofs.Ytmfommidbijloaa.PrintWords
