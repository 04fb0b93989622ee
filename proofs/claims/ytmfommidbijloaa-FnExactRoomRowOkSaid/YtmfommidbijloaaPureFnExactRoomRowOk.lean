/- The program's RoomRowOk answers as the reference's does, at all arguments. -/
import Derived.Test.YtmfommidbijloaaPFnExactRoomRowOkx1
import Derived.Test.YtmfommidbijloaaWSized
import Derived.Test.YtmfommidbijloaaWSized
namespace Go.Proofs.Ytmfommidbijloaa.Pure
open Go.RowKit Go.Proofs.Ytmfommidbijloaa.PFnExactRoomRowOk Go.Proofs.YtmfommidbijloaaW.PrintWords Go.Proofs.YtmfommidbijloaaW.PrintLast
theorem w64 {x : Int} (h0 : -9223372036854775808 ≤ x) (h1 : x ≤ 9223372036854775807) : wrap64 x = x := by
  unfold wrap64
  omega
theorem fits {x : Int} (h : (Lit.int .i64 x).wf = true) : -9223372036854775808 ≤ x ∧ x ≤ 9223372036854775807 := by
  simp only [Lit.wf, Bool.and_eq_true, decide_eq_true_eq] at h
  exact h
theorem fits8 {x : Int} (h : (Lit.int .u8 x).wf = true) : 0 ≤ x ∧ x ≤ 255 := by
  simp only [Lit.wf, Bool.and_eq_true, decide_eq_true_eq] at h
  exact h

theorem nat_step {i : Nat} (h : i < 1000000000000) : wrap64 ((i : Int) + 1) = ((i + 1 : Nat) : Int) := by
  rw [w64 (by omega) (by omega)]
  omega
theorem rd_nat (l : List Int) (i : Nat) : rd l (i : Int) = l.getD i 0 := by
  unfold rd
  rw [Int.toNat_natCast]
theorem rd_get (l : List Int) (i : Nat) (h : i < l.length) : rd l (i : Int) = l[i] := by
  rw [rd_nat]
  simp [List.getD_eq_getElem?_getD, List.getElem?_eq_getElem h]
theorem drop_at (l : List Int) (i : Nat) (h : i < l.length) : l.drop i = rd l (i : Int) :: l.drop (i + 1) := by
  rw [List.drop_eq_getElem_cons h, rd_get l i h]
theorem take_at (l : List Int) (i : Nat) (h : i < l.length) : l.take (i + 1) = l.take i ++ [rd l (i : Int)] := by
  rw [List.take_succ_eq_append_getElem h, rd_get l i h]
theorem beq_dec (x y : Int) : (x == y) = decide (x = y) := rfl
theorem l1In_ok (x lo hi : Int) : spec_l1In.f x lo hi = some (decide (lo ≤ x ∧ x ≤ hi)) := by
  unfold spec_l1In.f
  by_cases h : x ≥ lo
  · simp [h]
  · simp [h]

theorem set_at (l : List Int) (i : Nat) (h : i < l.length) : (l.take i ++ List.replicate (l.length - i) 0).set (i : Int).toNat (rd l (i : Int)) = l.take (i + 1) ++ List.replicate (l.length - (i + 1)) 0 := by
  have hl : (l.take i).length = i := by simp; omega
  obtain ⟨m, hm⟩ : ∃ m, l.length - i = m + 1 := ⟨l.length - i - 1, by omega⟩
  have hm' : l.length - (i + 1) = m := by omega
  rw [Int.toNat_natCast, hm, hm', List.replicate_succ, List.set_append_right _ _ (by omega), hl, Nat.sub_self, List.set_cons_zero, take_at l i h]
  simp
theorem toInt_l0 (l : List Int) (hn : l.length ≤ 2000000) (d : Nat) : ∀ (k i : Nat), i + d = l.length → d < k →
    laws_toIntS.l0 k l (l.take i ++ List.replicate (l.length - i) 0) (i : Int) = some l := by
  induction d with
  | zero =>
    intro k i hi hk
    obtain ⟨k, rfl⟩ : ∃ m, k = m + 1 := ⟨k - 1, by omega⟩
    simp only [laws_toIntS.l0]
    rw [if_neg (by omega), show l.length - i = 0 by omega, List.take_of_length_le (by omega)]
    simp
  | succ d ih =>
    intro k i hi hk
    obtain ⟨k, rfl⟩ : ∃ m, k = m + 1 := ⟨k - 1, by omega⟩
    have hl : (l.take i ++ List.replicate (l.length - i) (0 : Int)).length = l.length := by simp; omega
    simp only [laws_toIntS.l0]
    rw [if_pos (by omega), if_pos (by omega), hl, if_pos (by omega), set_at l i (by omega), nat_step (by omega)]
    exact ih k (i + 1) (by omega) (by omega)
theorem toInt_ok (l : List Int) (hn : l.length ≤ 2000000) (k : Nat) (hk : l.length < k) : laws_toIntS.f k l = some l := by
  unfold laws_toIntS.f
  rw [if_pos (by omega), if_pos (by omega), Int.toNat_natCast]
  exact toInt_l0 l hn l.length k 0 (by omega) hk
theorem eq_l0 (l : List Int) (hn : l.length ≤ 2000000) (d : Nat) : ∀ (k i : Nat), i + d = l.length → d < k → laws_eqIntS.l0 k l l (i : Int) = some true := by
  induction d with
  | zero =>
    intro k i hi hk
    obtain ⟨k, rfl⟩ : ∃ m, k = m + 1 := ⟨k - 1, by omega⟩
    simp only [laws_eqIntS.l0]
    rw [if_neg (by omega)]
  | succ d ih =>
    intro k i hi hk
    obtain ⟨k, rfl⟩ : ∃ m, k = m + 1 := ⟨k - 1, by omega⟩
    simp only [laws_eqIntS.l0]
    rw [if_pos (by omega), if_pos (by omega), if_pos (by omega), if_pos trivial, nat_step (by omega)]
    exact ih k (i + 1) (by omega) (by omega)
theorem eq_ok (l : List Int) (hn : l.length ≤ 2000000) (k : Nat) (hk : l.length < k) : laws_eqIntS.f k l l = some true := by
  unfold laws_eqIntS.f
  rw [if_pos rfl]
  exact eq_l0 l hn l.length k 0 (by omega) hk

def RowIn (b : Int) (l : List Int) : Prop := (∀ x ∈ l, 0 ≤ x ∧ x ≤ 10000000) ∧ (1 ≤ b ∧ b ≤ 6) ∧ (l.length : Int) = b + 1
instance (b : Int) (l : List Int) : Decidable (RowIn b l) := by unfold RowIn; infer_instance
def TailIn (b : Int) (l t : List Int) : Prop := (∀ x ∈ t, 0 ≤ x ∧ x ≤ 10000000) ∧ (1 ≤ b ∧ b ≤ 6) ∧ (l.length : Int) = b + 1
instance (b : Int) (l t : List Int) : Decidable (TailIn b l t) := by unfold TailIn; infer_instance
theorem tail_cons (b : Int) (l t : List Int) (x : Int) : TailIn b l (x :: t) ↔ (0 ≤ x ∧ x ≤ 10000000) ∧ TailIn b l t := by
  unfold TailIn
  simp only [List.mem_cons, forall_eq_or_imp, and_assoc]
theorem spec_row_l0 (b : Int) (l : List Int) (hn : l.length ≤ 2000000) (d : Nat) : ∀ (k i : Nat), i + d = l.length → d < k →
    spec_RoomRowOk.l0 k b l (i : Int) = some (decide (TailIn b l (l.drop i))) := by
  induction d with
  | zero =>
    intro k i hi hk
    obtain ⟨k, rfl⟩ : ∃ m, k = m + 1 := ⟨k - 1, by omega⟩
    simp only [spec_RoomRowOk.l0]
    rw [if_neg (by omega), l1In_ok, List.drop_of_length_le (by omega)]
    unfold TailIn
    by_cases h : 1 ≤ b ∧ b ≤ 6
    · rw [w64 (x := b + 1) (by omega) (by omega)]
      simp [h, beq_dec]
    · simp [h]
  | succ d ih =>
    intro k i hi hk
    obtain ⟨k, rfl⟩ : ∃ m, k = m + 1 := ⟨k - 1, by omega⟩
    simp only [spec_RoomRowOk.l0]
    rw [if_pos (by omega), if_pos (by omega), l1In_ok, drop_at l i (by omega), nat_step (by omega), ih k (i + 1) (by omega) (by omega)]
    simp only [Option.bind_some, tail_cons]
    by_cases h : 0 ≤ rd l (i : Int) ∧ rd l (i : Int) ≤ 10000000
    · simp [h]
    · simp [h]
theorem spec_row (b : Int) (l : List Int) (hn : l.length ≤ 2000000) (k : Nat) (hk : l.length < k) : spec_RoomRowOk.f k b l = some (decide (RowIn b l)) :=
  spec_row_l0 b l hn l.length k 0 (by omega) hk
theorem impl_row_l0 (b : Int) (l : List Int) (hn : l.length ≤ 2000000) (d : Nat) : ∀ (k i : Nat), i + d = l.length → d < k →
    impl_RoomRowOk.l0 k b l l (l.length : Int) (i : Int) = some (decide (TailIn b l (l.drop i))) := by
  induction d with
  | zero =>
    intro k i hi hk
    obtain ⟨k, rfl⟩ : ∃ m, k = m + 1 := ⟨k - 1, by omega⟩
    simp only [impl_RoomRowOk.l0]
    rw [if_neg (by omega), List.drop_of_length_le (by omega)]
    unfold TailIn
    by_cases h1 : b ≥ 1
    · by_cases h2 : b ≤ 6
      · rw [w64 (x := b + 1) (by omega) (by omega)]
        simp [h1, h2, beq_dec]
      · simp [h1, h2]
    · simp [h1]
  | succ d ih =>
    intro k i hi hk
    obtain ⟨k, rfl⟩ : ∃ m, k = m + 1 := ⟨k - 1, by omega⟩
    simp only [impl_RoomRowOk.l0]
    rw [if_pos (by omega), if_pos (by omega), if_pos (by omega), drop_at l i (by omega), nat_step (by omega), ih k (i + 1) (by omega) (by omega)]
    simp only [tail_cons]
    by_cases h1 : rd l (i : Int) < 0
    · rw [if_pos h1, decide_eq_false (by omega)]
    · rw [if_neg h1]
      by_cases h2 : rd l (i : Int) > 10000000
      · rw [if_pos h2, decide_eq_false (by omega)]
      · rw [if_neg h2]
        have h : 0 ≤ rd l (i : Int) ∧ rd l (i : Int) ≤ 10000000 := by omega
        simp [h]
theorem impl_row (b : Int) (l : List Int) (hn : l.length ≤ 2000000) (k : Nat) (hk : l.length < k) : impl_RoomRowOk.f k b l = some (decide (RowIn b l)) :=
  impl_row_l0 b l hn l.length k 0 (by omega) hk

theorem FnExactRoomRowOk : laws_FnExactRoomRowOk.Pure := by
  intro b l _ _ _ _
  refine ⟨l.length + 1, ?_⟩
  unfold laws_FnExactRoomRowOk.f
  by_cases hc : (l.length : Int) > 1048576
  · rw [if_pos hc]
  · have hn : l.length ≤ 2000000 := by omega
    rw [if_neg hc, toInt_ok l hn _ (by omega)]
    simp only [Option.bind_some, spec_row b l hn _ (Nat.lt_succ_self _), impl_row b l hn _ (Nat.lt_succ_self _), eq_ok l hn _ (Nat.lt_succ_self _)]
    simp

end Go.Proofs.Ytmfommidbijloaa.Pure

namespace Go.Proofs.Ytmfommidbijloaa.PrintWords
open Go.ChangeShapes Go.WideShapes
/-- The bound on a slice's length, under the name by which the row looks for it. -/
theorem sized_ints {H : Type} {enc : TypeId × Value → H} {P : Program} {W : World} {base : Nat} {spare : Nat → Bool} {held : Bool} {t e : TypeId} {k : IntKind} {a : Option Addr} {len cap : Nat} {d : DataW H} {ps : List MemPlace} {ts : List TypeId} {ds : List (DataW H)} {j : Nat}
    (hsz : (DataW.weightsEach P ts ds).all (· ≤ reachBytes) = true) (ht : ts[j]? = some t) (hd : ds[j]? = some d) (hu : P.underlying t = some (.slice e)) (he : P.underlying e = some (.int k)) (hc : P.cellsOf e = 1) {B : Nat} (hB : P.bytesOf e = B)
    (h : DataW.Trod enc P W base spare held t (.slice a len cap) d ps) : len * B ≤ 140737488351232 :=
  Go.Proofs.YtmfommidbijloaaW.PrintWords.sized_ints hsz ht hd hu he hc hB h
end Go.Proofs.Ytmfommidbijloaa.PrintWords
