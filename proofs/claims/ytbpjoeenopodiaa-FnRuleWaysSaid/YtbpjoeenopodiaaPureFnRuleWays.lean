/- The law FnRuleWays: it holds at every code. -/
import Derived.Test.YtbpjoeenopodiaaQFnRuleWaysx7
namespace Go.Proofs.Ytbpjoeenopodiaa.Pure
open Go.RowKit Go.Proofs.Ytbpjoeenopodiaa.QFnRuleWays Go.Proofs.YtbpjoeenopodiaaW.PrintWords Go.Proofs.YtbpjoeenopodiaaW.PrintLast
theorem w64 {x : Int} (h0 : -9223372036854775808 ≤ x) (h1 : x ≤ 9223372036854775807) : wrap64 x = x := by
  unfold wrap64
  omega
theorem fits {x : Int} (h : (Lit.int .i64 x).wf = true) : -9223372036854775808 ≤ x ∧ x ≤ 9223372036854775807 := by
  simp only [Lit.wf, Bool.and_eq_true, decide_eq_true_eq] at h
  exact h
theorem fits8 {x : Int} (h : (Lit.int .u8 x).wf = true) : 0 ≤ x ∧ x ≤ 255 := by
  simp only [Lit.wf, Bool.and_eq_true, decide_eq_true_eq] at h
  exact h

theorem nat_step {i : Nat} (h : i < 1000000000000) : wrap64 ((i : Int) + 1) = ((i + 1 : Nat) : Int) := by
  rw [w64 (by omega) (by omega)]
  omega
theorem rd_nat (l : List Int) (i : Nat) : rd l (i : Int) = l.getD i 0 := by
  unfold rd
  rw [Int.toNat_natCast]
theorem rd_get (l : List Int) (i : Nat) (h : i < l.length) : rd l (i : Int) = l[i] := by
  rw [rd_nat]
  simp [List.getD_eq_getElem?_getD, List.getElem?_eq_getElem h]
theorem drop_at (l : List Int) (i : Nat) (h : i < l.length) : l.drop i = rd l (i : Int) :: l.drop (i + 1) := by
  rw [List.drop_eq_getElem_cons h, rd_get l i h]
theorem take_at (l : List Int) (i : Nat) (h : i < l.length) : l.take (i + 1) = l.take i ++ [rd l (i : Int)] := by
  rw [List.take_succ_eq_append_getElem h, rd_get l i h]
theorem beq_dec (x y : Int) : (x == y) = decide (x = y) := rfl
theorem l1In_ok (x lo hi : Int) : spec_l1In.f x lo hi = some (decide (lo ≤ x ∧ x ≤ hi)) := by
  unfold spec_l1In.f
  by_cases h : x ≥ lo
  · simp [h]
  · simp [h]

theorem colours_ok (a : Int) : impl_coloursOk.f a = some (decide (1 ≤ a ∧ a ≤ 3)) := by
  unfold impl_coloursOk.f
  by_cases h : a ≥ 1
  · simp [h]
  · simp [h]
def UrnIn (u : List Int) : Prop := (∀ x ∈ u, 0 ≤ x ∧ x ≤ 40) ∧ (1 ≤ (u.length : Int) ∧ (u.length : Int) ≤ 3)
instance (u : List Int) : Decidable (UrnIn u) := by unfold UrnIn; infer_instance
def UrnTail (u t : List Int) : Prop := (∀ x ∈ t, 0 ≤ x ∧ x ≤ 40) ∧ (1 ≤ (u.length : Int) ∧ (u.length : Int) ≤ 3)
instance (u t : List Int) : Decidable (UrnTail u t) := by unfold UrnTail; infer_instance
theorem urn_cons (u t : List Int) (x : Int) : UrnTail u (x :: t) ↔ (0 ≤ x ∧ x ≤ 40) ∧ UrnTail u t := by
  unfold UrnTail
  simp only [List.mem_cons, forall_eq_or_imp, and_assoc]
theorem impl_urn_l0 (u : List Int) (hn : u.length ≤ 2000000) (d : Nat) : ∀ (k i : Nat), i + d = u.length → d < k →
    impl_UrnOk.l0 k u u (u.length : Int) (i : Int) = some (decide (UrnTail u (u.drop i))) := by
  induction d with
  | zero =>
    intro k i hi hk
    obtain ⟨k, rfl⟩ : ∃ m, k = m + 1 := ⟨k - 1, by omega⟩
    simp only [impl_UrnOk.l0]
    rw [if_neg (by omega), List.drop_of_length_le (by omega), colours_ok]
    unfold UrnTail
    simp
  | succ d ih =>
    intro k i hi hk
    obtain ⟨k, rfl⟩ : ∃ m, k = m + 1 := ⟨k - 1, by omega⟩
    simp only [impl_UrnOk.l0]
    rw [if_pos (by omega), if_pos (by omega), if_pos (by omega), drop_at u i (by omega), nat_step (by omega), ih k (i + 1) (by omega) (by omega)]
    simp only [urn_cons]
    by_cases h1 : rd u (i : Int) < 0
    · rw [if_pos h1, decide_eq_false (by omega)]
    · rw [if_neg h1]
      by_cases h2 : rd u (i : Int) > 40
      · rw [if_pos h2, decide_eq_false (by omega)]
      · rw [if_neg h2]
        have h : 0 ≤ rd u (i : Int) ∧ rd u (i : Int) ≤ 40 := by omega
        simp [h]
theorem impl_urn (u : List Int) (hn : u.length ≤ 2000000) (k : Nat) (hk : u.length < k) : impl_UrnOk.f k u = some (decide (UrnIn u)) :=
  impl_urn_l0 u hn u.length k 0 (by omega) hk

def entB (c j : Nat) (x : Int) : Bool := decide (0 ≤ x ∧ x ≤ 3) || (decide (x = -1) && decide (j = c))
def rowTail (c : Nat) : Nat → List Int → Bool
  | _, [] => true
  | j, x :: t => entB c j x && rowTail c (j + 1) t
def ruleTail (n : Nat) : Nat → List (List Int) → Bool
  | _, [] => true
  | i, r :: R => decide (r.length = n) && (rowTail i 0 r && ruleTail n (i + 1) R)
/-- Whether a rule is one. -/
def RuleB (n : Nat) (R : List (List Int)) : Bool := ruleTail n 0 R && (decide (1 ≤ n ∧ n ≤ 3) && decide (R.length = n))
theorem drop_rows (R : List (List Int)) (i : Nat) (h : i < R.length) : R.drop i = R.getD i [] :: R.drop (i + 1) := by
  rw [List.drop_eq_getElem_cons h, List.getD_eq_getElem?_getD, List.getElem?_eq_getElem h]
  rfl
theorem rdL_nat (R : List (List Int)) (i : Nat) : rd_L2 R (i : Int) = R.getD i [] := by
  show R.getD (i : Int).toNat [] = _
  rw [Int.toNat_natCast]
theorem irule_l1 (n : Int) (R S : List (List Int)) (len : Int) (i : Nat) (hi : i < 1000) (row : List Int) (hr : row.length ≤ 1000) (d : Nat) : ∀ k j, j + d = row.length →
    impl_RuleOk.l1 (k + d + 1) n R (i : Int) S len (i : Int) row (row.length : Int) (j : Int) = if rowTail i j (row.drop j) = true then impl_RuleOk.l0 k n R S len ((i + 1 : Nat) : Int) else some false := by
  induction d with
  | zero =>
    intro k j hj
    rw [Nat.add_zero, impl_RuleOk.l1, if_neg (by omega), List.drop_of_length_le (by omega), rowTail, if_pos rfl, nat_step (by omega)]
  | succ d ih =>
    intro k j hj
    obtain ⟨K, hK⟩ : ∃ K, K = k + d + 1 := ⟨_, rfl⟩
    rw [show k + (d + 1) + 1 = K + 1 by omega, impl_RuleOk.l1, if_pos (by omega), if_pos (by omega), if_pos (by omega), drop_at row j (by omega), rowTail, nat_step (by omega), hK, ih k (j + 1) (by omega)]
    unfold entB
    by_cases h1 : rd row (j : Int) > 3
    · rw [if_pos h1, if_neg]
      simp [show ¬ rd row (j : Int) ≤ 3 by omega, show ¬ rd row (j : Int) = -1 by omega]
    · rw [if_neg h1]
      by_cases h2 : rd row (j : Int) < -1
      · rw [if_pos h2, if_neg]
        simp [show ¬ 0 ≤ rd row (j : Int) by omega, show ¬ rd row (j : Int) = -1 by omega]
      · rw [if_neg h2]
        by_cases h3 : rd row (j : Int) = -1
        · rw [if_pos h3]
          by_cases h4 : i = j
          · subst h4
            rw [if_pos rfl]
            simp [h3]
          · rw [if_neg (by omega), if_neg]
            simp [h3, show ¬ j = i by omega]
        · rw [if_neg h3]
          simp [show 0 ≤ rd row (j : Int) by omega, show rd row (j : Int) ≤ 3 by omega]
theorem irule_l0 (n : Nat) (hn : n ≤ 10) (R : List (List Int)) (hR : R.length ≤ 100) (d : Nat) : ∀ k i, i + d = R.length → d * (n + 2) + 1 < k →
    impl_RuleOk.l0 k (n : Int) R R (R.length : Int) (i : Int) = some (ruleTail n i (R.drop i) && (decide (1 ≤ n ∧ n ≤ 3) && decide (R.length = n))) := by
  induction d with
  | zero =>
    intro k i hi hk
    obtain ⟨k, rfl⟩ : ∃ m, k = m + 1 := ⟨k - 1, by omega⟩
    rw [impl_RuleOk.l0, if_neg (by omega), List.drop_of_length_le (by omega), ruleTail, colours_ok]
    simp only [Option.bind_some, Bool.true_and]
    by_cases h : 1 ≤ n ∧ n ≤ 3
    · have h' : 1 ≤ (n : Int) ∧ (n : Int) ≤ 3 := by omega
      rw [decide_eq_true h, decide_eq_true h', if_pos rfl, Bool.true_and]
      congr 1
      rw [beq_dec]
      exact decide_eq_decide.mpr (by omega)
    · have h' : ¬(1 ≤ (n : Int) ∧ (n : Int) ≤ 3) := by omega
      rw [decide_eq_false h, decide_eq_false h']
      simp
  | succ d ih =>
    intro k i hi hk
    rw [Nat.succ_mul] at hk
    obtain ⟨k, rfl⟩ : ∃ m, k = m + 1 := ⟨k - 1, by omega⟩
    rw [impl_RuleOk.l0, if_pos (by omega), if_pos (by omega), if_pos (by omega), rdL_nat, drop_rows R i (by omega), ruleTail]
    generalize R.getD i [] = row
    by_cases h : row.length = n
    · rw [if_pos (by omega), decide_eq_true h, Bool.true_and]
      obtain ⟨K, rfl⟩ : ∃ K, k = K + row.length + 1 := ⟨k - row.length - 1, by omega⟩
      have h1 := irule_l1 (n : Int) R R (R.length : Int) i (by omega) row (by omega) row.length K 0 (by omega)
      rw [List.drop_zero, Int.natCast_zero] at h1
      rw [h1, ih K (i + 1) (by omega) (by omega)]
      by_cases h2 : rowTail i 0 row = true
      · rw [if_pos h2, h2, Bool.true_and]
      · rw [if_neg h2]
        simp [h2]
    · rw [if_neg (by omega), decide_eq_false h]
      simp
theorem impl_rule (n : Nat) (hn : n ≤ 10) (R : List (List Int)) (hR : R.length ≤ 100) (k : Nat) (hk : 2000 ≤ k) : impl_RuleOk.f k (n : Int) R = some (RuleB n R) := by
  have h := irule_l0 n hn R hR R.length k 0 (by omega) (by
    have := Nat.mul_le_mul hR (show n + 2 ≤ 12 by omega)
    omega)
  rw [List.drop_zero] at h
  exact h
theorem srule_l1 (n : Nat) (hn : n ≤ 10) (R : List (List Int)) (i : Nat) (hi : i < R.length) (hR : R.length ≤ 100) (hr : (R.getD i []).length = n) (d : Nat) : ∀ k j, j + d = n →
    spec_RuleOk.l1 (k + d + 1) (n : Int) R (i : Int) (j : Int) = if rowTail i j ((R.getD i []).drop j) = true then spec_RuleOk.l0 k (n : Int) R ((i + 1 : Nat) : Int) else some false := by
  induction d with
  | zero =>
    intro k j hj
    rw [Nat.add_zero, spec_RuleOk.l1, if_neg (by omega), List.drop_of_length_le (by omega), rowTail, if_pos rfl, nat_step (by omega)]
  | succ d ih =>
    intro k j hj
    obtain ⟨K, hK⟩ : ∃ K, K = k + d + 1 := ⟨_, rfl⟩
    rw [show k + (d + 1) + 1 = K + 1 by omega, spec_RuleOk.l1, if_pos (by omega), if_pos (by omega), if_pos (by omega), if_pos (by omega), rdL_nat, if_pos (by omega), drop_at _ j (by omega), rowTail, nat_step (by omega), hK, ih k (j + 1) (by omega), l1In_ok]
    simp only [Option.bind_some]
    unfold entB
    by_cases h1 : 0 ≤ rd (R.getD i []) (j : Int) ∧ rd (R.getD i []) (j : Int) ≤ 3
    · rw [decide_eq_true h1, if_pos rfl]
      simp
    · rw [decide_eq_false h1, if_neg (by simp)]
      by_cases h3 : rd (R.getD i []) (j : Int) = -1
      · rw [if_pos h3, decide_eq_true h3]
        by_cases h4 : j = i
        · rw [if_pos (by omega), decide_eq_true h4]
          simp
        · rw [if_neg (by omega), decide_eq_false h4]
          simp
      · rw [if_neg h3, decide_eq_false h3]
        simp
theorem srule_l0 (n : Nat) (hn : n ≤ 10) (R : List (List Int)) (hR : R.length ≤ 100) (d : Nat) : ∀ k i, i + d = R.length → d * (n + 2) + 1 < k →
    spec_RuleOk.l0 k (n : Int) R (i : Int) = some (ruleTail n i (R.drop i) && (decide (1 ≤ n ∧ n ≤ 3) && decide (R.length = n))) := by
  induction d with
  | zero =>
    intro k i hi hk
    obtain ⟨k, rfl⟩ : ∃ m, k = m + 1 := ⟨k - 1, by omega⟩
    rw [spec_RuleOk.l0, if_neg (by omega), List.drop_of_length_le (by omega), ruleTail, l1In_ok]
    simp only [Option.bind_some, Bool.true_and]
    by_cases h : 1 ≤ n ∧ n ≤ 3
    · have h' : 1 ≤ (n : Int) ∧ (n : Int) ≤ 3 := by omega
      rw [decide_eq_true h, decide_eq_true h', if_pos rfl, Bool.true_and]
      congr 1
      rw [beq_dec]
      exact decide_eq_decide.mpr (by omega)
    · have h' : ¬(1 ≤ (n : Int) ∧ (n : Int) ≤ 3) := by omega
      rw [decide_eq_false h, decide_eq_false h']
      simp
  | succ d ih =>
    intro k i hi hk
    rw [Nat.succ_mul] at hk
    obtain ⟨k, rfl⟩ : ∃ m, k = m + 1 := ⟨k - 1, by omega⟩
    rw [spec_RuleOk.l0, if_pos (by omega), if_pos (by omega), rdL_nat, drop_rows R i (by omega), ruleTail]
    by_cases h : (R.getD i []).length = n
    · rw [if_pos (by omega), decide_eq_true h, Bool.true_and]
      obtain ⟨K, rfl⟩ : ∃ K, k = K + n + 1 := ⟨k - n - 1, by omega⟩
      have h1 := srule_l1 n hn R i (by omega) hR h n K 0 (by omega)
      rw [List.drop_zero, Int.natCast_zero] at h1
      rw [h1, ih K (i + 1) (by omega) (by omega)]
      by_cases h2 : rowTail i 0 (R.getD i []) = true
      · rw [if_pos h2, h2, Bool.true_and]
      · rw [if_neg h2, Bool.eq_false_iff.mpr h2]
        rfl
    · rw [if_neg (by omega), decide_eq_false h]
      simp
theorem spec_rule (n : Nat) (hn : n ≤ 10) (R : List (List Int)) (hR : R.length ≤ 100) (k : Nat) (hk : 2000 ≤ k) : spec_RuleOk.f k (n : Int) R = some (RuleB n R) := by
  have h := srule_l0 n hn R hR R.length k 0 (by omega) (by
    have := Nat.mul_le_mul hR (show n + 2 ≤ 12 by omega)
    omega)
  rw [List.drop_zero] at h
  exact h

def WordIn (c : Int) (w : List Int) : Prop := (∀ x ∈ w, 0 ≤ x ∧ x < c) ∧ (1 ≤ c ∧ c ≤ 3) ∧ (w.length : Int) ≤ 6
instance (c : Int) (w : List Int) : Decidable (WordIn c w) := by unfold WordIn; infer_instance
def WordTail (c : Int) (w t : List Int) : Prop := (∀ x ∈ t, 0 ≤ x ∧ x < c) ∧ (1 ≤ c ∧ c ≤ 3) ∧ (w.length : Int) ≤ 6
instance (c : Int) (w t : List Int) : Decidable (WordTail c w t) := by unfold WordTail; infer_instance
theorem word_cons (c : Int) (w t : List Int) (x : Int) : WordTail c w (x :: t) ↔ (0 ≤ x ∧ x < c) ∧ WordTail c w t := by
  unfold WordTail
  simp only [List.mem_cons, forall_eq_or_imp, and_assoc]
theorem impl_word_l0 (c : Int) (w : List Int) (hn : w.length ≤ 2000000) (d : Nat) : ∀ (k i : Nat), i + d = w.length → d < k →
    impl_WordOk.l0 k c w w (w.length : Int) (i : Int) = some (decide (WordTail c w (w.drop i))) := by
  induction d with
  | zero =>
    intro k i hi hk
    obtain ⟨k, rfl⟩ : ∃ m, k = m + 1 := ⟨k - 1, by omega⟩
    simp only [impl_WordOk.l0]
    rw [if_neg (by omega), List.drop_of_length_le (by omega), colours_ok]
    unfold WordTail
    by_cases h : 1 ≤ c ∧ c ≤ 3
    · simp [h]
    · simp [h]
  | succ d ih =>
    intro k i hi hk
    obtain ⟨k, rfl⟩ : ∃ m, k = m + 1 := ⟨k - 1, by omega⟩
    simp only [impl_WordOk.l0]
    rw [if_pos (by omega), if_pos (by omega), if_pos (by omega), drop_at w i (by omega), nat_step (by omega), ih k (i + 1) (by omega) (by omega)]
    simp only [word_cons]
    by_cases h1 : rd w (i : Int) < 0
    · rw [if_pos h1, decide_eq_false (by omega)]
    · rw [if_neg h1]
      by_cases h2 : rd w (i : Int) ≥ c
      · rw [if_pos h2, decide_eq_false (by omega)]
      · rw [if_neg h2]
        have h : 0 ≤ rd w (i : Int) ∧ rd w (i : Int) < c := by omega
        simp [h]
theorem impl_word (c : Int) (w : List Int) (hn : w.length ≤ 2000000) (k : Nat) (hk : w.length < k) : impl_WordOk.f k c w = some (decide (WordIn c w)) :=
  impl_word_l0 c w hn w.length k 0 (by omega) hk

theorem spec_word_l0 (c : Int) (w : List Int) (hn : w.length ≤ 2000000) (d : Nat) : ∀ (k i : Nat), i + d = w.length → d < k →
    spec_WordOk.l0 k c w (i : Int) = some (decide (WordTail c w (w.drop i))) := by
  induction d with
  | zero =>
    intro k i hi hk
    obtain ⟨k, rfl⟩ : ∃ m, k = m + 1 := ⟨k - 1, by omega⟩
    simp only [spec_WordOk.l0]
    rw [if_neg (by omega), List.drop_of_length_le (by omega), l1In_ok]
    unfold WordTail
    by_cases h : 1 ≤ c ∧ c ≤ 3
    · simp [h]
    · simp [h]
  | succ d ih =>
    intro k i hi hk
    obtain ⟨k, rfl⟩ : ∃ m, k = m + 1 := ⟨k - 1, by omega⟩
    simp only [spec_WordOk.l0]
    rw [if_pos (by omega), if_pos (by omega), drop_at w i (by omega), nat_step (by omega), ih k (i + 1) (by omega) (by omega)]
    simp only [word_cons]
    by_cases h1 : rd w (i : Int) < 0
    · rw [if_pos h1, decide_eq_false (by omega)]
    · rw [if_neg h1]
      by_cases h2 : rd w (i : Int) ≥ c
      · rw [if_pos h2, decide_eq_false (by omega)]
      · rw [if_neg h2]
        have h : 0 ≤ rd w (i : Int) ∧ rd w (i : Int) < c := by omega
        simp [h]
theorem spec_word (c : Int) (w : List Int) (hn : w.length ≤ 2000000) (k : Nat) (hk : w.length < k) : spec_WordOk.f k c w = some (decide (WordIn c w)) :=
  spec_word_l0 c w hn w.length k 0 (by omega) hk

def StartTail (u t : List Int) : Prop := (∀ x ∈ t, x ≤ 10) ∧ UrnIn u
instance (u t : List Int) : Decidable (StartTail u t) := by unfold StartTail; infer_instance
def StartIn (u : List Int) : Prop := StartTail u u
instance (u : List Int) : Decidable (StartIn u) := by unfold StartIn; infer_instance
theorem start_cons (u t : List Int) (x : Int) : StartTail u (x :: t) ↔ x ≤ 10 ∧ StartTail u t := by
  unfold StartTail
  simp only [List.mem_cons, forall_eq_or_imp, and_assoc]
theorem impl_start_l0 (u : List Int) (hn : u.length ≤ 2000000) (d : Nat) : ∀ (k i : Nat), i + d = u.length → u.length + d + 1 < k →
    impl_StartOk.l0 k u u (u.length : Int) (i : Int) = some (decide (StartTail u (u.drop i))) := by
  induction d with
  | zero =>
    intro k i hi hk
    obtain ⟨k, rfl⟩ : ∃ m, k = m + 1 := ⟨k - 1, by omega⟩
    simp only [impl_StartOk.l0]
    rw [if_neg (by omega), List.drop_of_length_le (by omega), impl_urn u (by omega) k (by omega)]
    simp [StartTail]
  | succ d ih =>
    intro k i hi hk
    obtain ⟨k, rfl⟩ : ∃ m, k = m + 1 := ⟨k - 1, by omega⟩
    simp only [impl_StartOk.l0]
    rw [if_pos (by omega), if_pos (by omega), if_pos (by omega), drop_at u i (by omega), nat_step (by omega), ih k (i + 1) (by omega) (by omega)]
    simp only [start_cons]
    by_cases h : rd u (i : Int) > 10
    · rw [if_pos h, decide_eq_false (by omega)]
    · rw [if_neg h]
      simp [show rd u (i : Int) ≤ 10 by omega]
theorem impl_start (u : List Int) (hn : u.length ≤ 2000000) (k : Nat) (hk : 2 * u.length + 1 < k) : impl_StartOk.f k u = some (decide (StartIn u)) :=
  impl_start_l0 u hn u.length k 0 (by omega) (by omega)

theorem spec_urn_l0 (u : List Int) (hn : u.length ≤ 2000000) (d : Nat) : ∀ (k i : Nat), i + d = u.length → d < k →
    spec_UrnOk.l0 k u (i : Int) = some (decide (UrnTail u (u.drop i))) := by
  induction d with
  | zero =>
    intro k i hi hk
    obtain ⟨k, rfl⟩ : ∃ m, k = m + 1 := ⟨k - 1, by omega⟩
    simp only [spec_UrnOk.l0]
    rw [if_neg (by omega), List.drop_of_length_le (by omega), l1In_ok]
    unfold UrnTail
    simp
  | succ d ih =>
    intro k i hi hk
    obtain ⟨k, rfl⟩ : ∃ m, k = m + 1 := ⟨k - 1, by omega⟩
    simp only [spec_UrnOk.l0]
    rw [if_pos (by omega), if_pos (by omega), l1In_ok, drop_at u i (by omega), nat_step (by omega), ih k (i + 1) (by omega) (by omega)]
    simp only [Option.bind_some, urn_cons]
    by_cases h : 0 ≤ rd u (i : Int) ∧ rd u (i : Int) ≤ 40
    · simp [h]
    · simp [h]
theorem spec_urn (u : List Int) (hn : u.length ≤ 2000000) (k : Nat) (hk : u.length < k) : spec_UrnOk.f k u = some (decide (UrnIn u)) :=
  spec_urn_l0 u hn u.length k 0 (by omega) hk

theorem spec_start_l0 (u : List Int) (hn : u.length ≤ 2000000) (d : Nat) : ∀ (k i : Nat), i + d = u.length → u.length + d + 1 < k →
    spec_StartOk.l0 k u (i : Int) = some (decide (StartTail u (u.drop i))) := by
  induction d with
  | zero =>
    intro k i hi hk
    obtain ⟨k, rfl⟩ : ∃ m, k = m + 1 := ⟨k - 1, by omega⟩
    simp only [spec_StartOk.l0]
    rw [if_neg (by omega), List.drop_of_length_le (by omega), spec_urn u (by omega) k (by omega)]
    simp [StartTail]
  | succ d ih =>
    intro k i hi hk
    obtain ⟨k, rfl⟩ : ∃ m, k = m + 1 := ⟨k - 1, by omega⟩
    simp only [spec_StartOk.l0]
    rw [if_pos (by omega), if_pos (by omega), drop_at u i (by omega), nat_step (by omega), ih k (i + 1) (by omega) (by omega)]
    simp only [start_cons]
    by_cases h : rd u (i : Int) > 10
    · rw [if_pos h, decide_eq_false (by omega)]
    · rw [if_neg h]
      simp [show rd u (i : Int) ≤ 10 by omega]
theorem spec_start (u : List Int) (hn : u.length ≤ 2000000) (k : Nat) (hk : 2 * u.length + 1 < k) : spec_StartOk.f k u = some (decide (StartIn u)) :=
  spec_start_l0 u hn u.length k 0 (by omega) (by omega)

/-- What draws make of an urn. -/
def AF (u : List Int) (R : List (List Int)) (w : List Int) : List Int := w.foldl (fun v c => List.zipWith (· + ·) v (R.getD c.toNat [])) u
/-- The ways of a word: the balls of its colours in the urns of then. -/
def pw (R : List (List Int)) : List Int → List Int → Int
  | _, [] => 1
  | u, c :: w => max 0 (u.getD c.toNat 0) * pw R (List.zipWith (· + ·) u (R.getD c.toNat [])) w
/-- An urn within bounds. -/
def Small (n m : Nat) (u : List Int) : Prop := u.length = n ∧ ∀ x ∈ u, -100 - (m : Int) ≤ x ∧ x ≤ 100 + 10 * (m : Int)
def Rows (n : Nat) (R : List (List Int)) : Prop := ∀ r ∈ R, r.length = n ∧ ∀ x ∈ r, -1 ≤ x ∧ x ≤ 10
theorem getD_in {n : Nat} {R : List (List Int)} (h : Rows n R) (c : Nat) (hc : c < R.length) : (R.getD c []).length = n ∧ ∀ x ∈ R.getD c [], -1 ≤ x ∧ x ≤ 10 := by
  rw [List.getD_eq_getElem?_getD, List.getElem?_eq_getElem hc]
  exact h _ (List.getElem_mem hc)
theorem rd_in {u : List Int} {lo hi : Int} (h : ∀ x ∈ u, lo ≤ x ∧ x ≤ hi) (i : Nat) (hi' : i < u.length) : lo ≤ rd u (i : Int) ∧ rd u (i : Int) ≤ hi := by
  rw [rd_get u i hi']
  exact h _ (List.getElem_mem hi')
theorem small_add {n m : Nat} {u r : List Int} (h : Small n m u) (hr : r.length = n) (hx : ∀ x ∈ r, -1 ≤ x ∧ x ≤ 10) : Small n (m + 1) (List.zipWith (· + ·) u r) := by
  refine ⟨by simp [h.1, hr], fun x hx' => ?_⟩
  obtain ⟨i, hi, rfl⟩ := List.mem_iff_getElem.mp hx'
  simp only [List.length_zipWith] at hi
  rw [List.getElem_zipWith]
  have h1 := h.2 _ (List.getElem_mem (show i < u.length by omega))
  have h2 := hx _ (List.getElem_mem (show i < r.length by omega))
  omega
theorem added_l0 (u r : List Int) (n m : Nat) (hu : Small n m u) (hm : m ≤ 1000) (hr : r.length = n) (hx : ∀ x ∈ r, -1 ≤ x ∧ x ≤ 10) (hn : n ≤ 1000) (d : Nat) : ∀ (k i : Nat), i + d = n → d < k →
    impl_added.l0 k ((List.zipWith (· + ·) u r).take i ++ u.drop i) r (r.length : Int) (i : Int) = some (List.zipWith (· + ·) u r) := by
  have hul := hu.1
  have hz : (List.zipWith (· + ·) u r).length = n := by simp [hul, hr]
  induction d with
  | zero =>
    intro k i hi hk
    obtain ⟨k, rfl⟩ : ∃ m, k = m + 1 := ⟨k - 1, by omega⟩
    simp only [impl_added.l0]
    rw [if_neg (by omega), List.take_of_length_le (by omega), List.drop_of_length_le (by omega)]
    simp
  | succ d ih =>
    intro k i hi hk
    obtain ⟨k, rfl⟩ : ∃ m, k = m + 1 := ⟨k - 1, by omega⟩
    have hl : ((List.zipWith (· + ·) u r).take i ++ u.drop i).length = n := by simp [hul, hr]; omega
    have hd : u.drop i = rd u (i : Int) :: u.drop (i + 1) := drop_at u i (by omega)
    have ht : ((List.zipWith (· + ·) u r).take i).length = i := by simp [hul, hr]; omega
    have e1 : rd ((List.zipWith (· + ·) u r).take i ++ u.drop i) (i : Int) = rd u (i : Int) := by
      rw [rd_nat, hd, List.getD_eq_getElem?_getD, List.getElem?_append_right (by omega), ht]
      simp
    have b1 := rd_in hu.2 i (by omega)
    have b2 := rd_in hx i (by omega)
    simp only [impl_added.l0]
    rw [if_pos (by omega), if_pos (by omega), if_pos (by omega), if_pos (by omega), e1, w64 (by omega) (by omega), nat_step (by omega), Int.toNat_natCast]
    have e2 : ((List.zipWith (· + ·) u r).take i ++ u.drop i).set i (rd u (i : Int) + rd r (i : Int)) = (List.zipWith (· + ·) u r).take (i + 1) ++ u.drop (i + 1) := by
      rw [hd, List.set_append_right _ _ (by omega), ht, Nat.sub_self, List.set_cons_zero, List.take_succ_eq_append_getElem (by omega), List.getElem_zipWith, rd_get u i (by omega), rd_get r i (by omega)]
      simp
    rw [e2]
    exact ih k (i + 1) (by omega) (by omega)
theorem clone_ok (u : List Int) (hn : u.length ≤ 1000000) : slices_Clone_int_int.f u = some u := by
  unfold slices_Clone_int_int.f
  rw [if_pos (by omega)]
theorem added_ok (u r : List Int) (n m : Nat) (hu : Small n m u) (hm : m ≤ 1000) (hr : r.length = n) (hx : ∀ x ∈ r, -1 ≤ x ∧ x ≤ 10) (hn : n ≤ 1000) (k : Nat) (hk : n < k) :
    impl_added.f k u r = some (List.zipWith (· + ·) u r) := by
  unfold impl_added.f
  rw [clone_ok u (by have := hu.1; omega)]
  exact added_l0 u r n m hu hm hr hx hn n k 0 (by omega) hk
theorem AF_snoc (u : List Int) (R : List (List Int)) (w : List Int) (c : Int) : AF u R (w ++ [c]) = List.zipWith (· + ·) (AF u R w) (R.getD c.toNat []) := by
  simp [AF, List.foldl_append]
theorem AF_small {n : Nat} {R : List (List Int)} (hR : Rows n R) (w : List Int) : ∀ (m : Nat) (u : List Int), Small n m u → (∀ c ∈ w, 0 ≤ c ∧ c < (R.length : Int)) → Small n (m + w.length) (AF u R w) := by
  induction w with
  | nil => intro m u hu _; exact hu
  | cons c w ih =>
    intro m u hu hw
    have hc := hw c (by simp)
    have hr := getD_in hR c.toNat (by omega)
    have := ih (m + 1) _ (small_add hu hr.1 hr.2) (fun x hx => hw x (by simp [hx]))
    rw [List.length_cons, show m + (w.length + 1) = m + 1 + w.length by omega]
    exact this
theorem rd_L (R : List (List Int)) (c : Int) : rd_L2 R c = R.getD c.toNat [] := rfl
theorem after_l0 (u : List Int) (R : List (List Int)) (w : List Int) (n : Nat) (hu : Small n 0 u) (hR : Rows n R) (hw : ∀ c ∈ w, 0 ≤ c ∧ c < (R.length : Int)) (hn : n ≤ 100) (hwl : w.length ≤ 100) (d : Nat) : ∀ (k i : Nat), i + d = w.length → d + n + 2 < k →
    impl_after.l0 k R (AF u R (w.take i)) w (w.length : Int) (i : Int) = some (AF u R w) := by
  induction d with
  | zero =>
    intro k i hi hk
    obtain ⟨k, rfl⟩ : ∃ m, k = m + 1 := ⟨k - 1, by omega⟩
    simp only [impl_after.l0]
    rw [if_neg (by omega), List.take_of_length_le (by omega)]
  | succ d ih =>
    intro k i hi hk
    obtain ⟨k, rfl⟩ : ∃ m, k = m + 1 := ⟨k - 1, by omega⟩
    have hc : 0 ≤ rd w (i : Int) ∧ rd w (i : Int) < (R.length : Int) := by
      rw [rd_get w i (by omega)]
      exact hw _ (List.getElem_mem (by omega))
    have hr := getD_in hR (rd w (i : Int)).toNat (by omega)
    have hs := AF_small hR (w.take i) 0 u hu (fun c hc => hw c (List.mem_of_mem_take hc))
    simp only [impl_after.l0]
    rw [if_pos (by omega), if_pos (by omega), if_pos (by omega), if_pos hc.1, if_pos hc.2, rd_L, added_ok _ _ n _ hs (by simp; omega) hr.1 hr.2 (by omega) k (by omega)]
    simp only [Option.bind_some]
    rw [← AF_snoc, ← take_at w i (by omega), nat_step (by omega)]
    exact ih k (i + 1) (by omega) (by omega)
theorem after_ok (u : List Int) (R : List (List Int)) (w : List Int) (n : Nat) (hu : Small n 0 u) (hR : Rows n R) (hw : ∀ c ∈ w, 0 ≤ c ∧ c < (R.length : Int)) (hn : n ≤ 100) (hwl : w.length ≤ 100) (k : Nat) (hk : w.length + n + 2 < k) :
    impl_after.f k u R w = some (AF u R w) := by
  unfold impl_after.f
  rw [clone_ok u (by have := hu.1; omega)]
  exact after_l0 u R w n hu hR hw hn hwl w.length k 0 (by omega) hk
theorem mx_max (x : Int) : mx 0 x = max 0 x := by
  unfold mx
  split <;> omega
theorem pow_bound (n v P : Int) (h0 : 0 ≤ v) (h1 : v ≤ 200) (hn : 0 ≤ n) (hP : 1 ≤ P) (h : n * (200 * P) ≤ 12800000000000000) : n * v * P ≤ 12800000000000000 ∧ n * v ≤ 12800000000000000 ∧ 0 ≤ n * v := by
  have a1 : n * v ≤ n * 200 := Int.mul_le_mul_of_nonneg_left h1 hn
  have a2 : n * v * P ≤ n * 200 * P := Int.mul_le_mul_of_nonneg_right a1 (by omega)
  have a3 : 0 ≤ n * v := Int.mul_nonneg hn h0
  have a4 : n * v * 1 ≤ n * v * P := Int.mul_le_mul_of_nonneg_left hP a3
  rw [Int.mul_assoc n 200 P] at a2
  omega
theorem pw_l0 (u : List Int) (R : List (List Int)) (w : List Int) (n : Nat) (hu : Small n 0 u) (hR : Rows n R) (hRn : R.length = n) (hw : ∀ c ∈ w, 0 ≤ c ∧ c < (R.length : Int)) (hn : n ≤ 10) (hwl : w.length ≤ 7) (d : Nat) : ∀ (k i : Nat) (a : Int), i + d = w.length → d + 30 < k → 0 ≤ a → a * 200 ^ d ≤ 12800000000000000 →
    impl_ruleWays.l0 k u R w a w (w.length : Int) (i : Int) = some (a * pw R (AF u R (w.take i)) (w.drop i)) := by
  induction d with
  | zero =>
    intro k i a hi hk _ _
    obtain ⟨k, rfl⟩ : ∃ m, k = m + 1 := ⟨k - 1, by omega⟩
    simp only [impl_ruleWays.l0]
    rw [if_neg (by omega), List.drop_of_length_le (by omega)]
    simp [pw]
  | succ d ih =>
    intro k i a hi hk a0 ab
    obtain ⟨k, rfl⟩ : ∃ m, k = m + 1 := ⟨k - 1, by omega⟩
    have hc : 0 ≤ rd w (i : Int) ∧ rd w (i : Int) < (R.length : Int) := by
      rw [rd_get w i (by omega)]
      exact hw _ (List.getElem_mem (by omega))
    have hs := AF_small hR (w.take i) 0 u hu (fun c hc => hw c (List.mem_of_mem_take hc))
    have hsl := hs.1
    have htl : (w.take i).length ≤ 7 := by simp; omega
    have hv := rd_in hs.2 (rd w (i : Int)).toNat (by omega)
    rw [show (((rd w (i : Int)).toNat : Nat) : Int) = rd w (i : Int) by omega] at hv
    have hP : (1 : Int) ≤ 200 ^ d := Int.pow_pos (by omega)
    have hpow : (200 : Int) ^ (d + 1) = 200 * 200 ^ d := by rw [Int.pow_succ, Int.mul_comm]
    rw [hpow] at ab
    have hmv : 0 ≤ max 0 (rd (AF u R (w.take i)) (rd w (i : Int))) ∧ max 0 (rd (AF u R (w.take i)) (rd w (i : Int))) ≤ 200 := by omega
    obtain ⟨b1, b2, b3⟩ := pow_bound a _ _ hmv.1 hmv.2 a0 hP ab
    simp only [impl_ruleWays.l0]
    rw [if_pos (by omega), if_pos (by omega), if_pos (by omega), if_pos (by omega), Int.toNat_natCast, after_ok u R (w.take i) n hu hR (fun c hc => hw c (List.mem_of_mem_take hc)) (by omega) (by omega) k (by omega)]
    simp only [Option.bind_some]
    rw [if_pos hc.1, if_pos (by omega), mx_max, w64 (by omega) (by omega)]
    have hgd : rd (AF u R (w.take i)) (rd w (i : Int)) = (AF u R (w.take i)).getD (rd w (i : Int)).toNat 0 := rfl
    have hpw : pw R (AF u R (w.take i)) (w.drop i) = max 0 (rd (AF u R (w.take i)) (rd w (i : Int))) * pw R (AF u R (w.take (i + 1))) (w.drop (i + 1)) := by
      rw [drop_at w i (by omega), take_at w i (by omega), AF_snoc]
      rfl
    rw [hpw, ← Int.mul_assoc]
    by_cases hz : a * max 0 (rd (AF u R (w.take i)) (rd w (i : Int))) = 0
    · rw [if_pos hz, hz, Int.zero_mul]
    · rw [if_neg hz, nat_step (by omega)]
      exact ih k (i + 1) _ (by omega) (by omega) b3 b1
theorem ruleWays_ok (u : List Int) (R : List (List Int)) (w : List Int) (n : Nat) (hu : Small n 0 u) (hR : Rows n R) (hRn : R.length = n) (hw : ∀ c ∈ w, 0 ≤ c ∧ c < (R.length : Int)) (hn : n ≤ 10) (hwl : w.length ≤ 7) (k : Nat) (hk : 40 ≤ k) :
    impl_ruleWays.f k u R w = some (pw R u w) := by
  have hb : (1 : Int) * 200 ^ w.length ≤ 12800000000000000 := by
    have : ∀ m, m ≤ 7 → (200 : Int) ^ m ≤ 12800000000000000 := by decide
    rw [Int.one_mul]
    exact this _ hwl
  have := pw_l0 u R w n hu hR hRn hw hn hwl w.length k 0 1 (by omega) (by omega) (by omega) hb
  rw [Int.one_mul] at this
  exact this

theorem lift {α : Type} {F : Nat → Option α} (hF : ∀ k, LeO (F k) (F (k + 1))) {k r : _} (h : F k = some r) : ∀ {K : Nat}, k ≤ K → F K = some r := by
  intro K hK
  induction hK with
  | refl => exact h
  | step _ ih => exact hF _ _ ih

theorem sum_pos (l : List Int) (h : ∀ x ∈ l, 0 ≤ x) : 0 ≤ l.sum := by
  induction l with
  | nil => simp
  | cons x l ih =>
    have h1 := h x (by simp)
    have h2 := ih fun y hy => h y (by simp [hy])
    simp only [List.sum_cons]
    omega

/-- What draws of one colour make. -/
def rise (s : Int) : Int → Nat → Int
  | _, 0 => 1
  | a, m + 1 => max 0 a * rise s (a + s) m
def prodR (s : Int) : List Int → List Int → Int
  | a :: u, m :: cs => rise s a m.toNat * prodR s u cs
  | _, _ => 1
def cntL (n : Nat) (q : List Int) : List Int := (List.range n).map fun (i : Nat) => ((q.count (i : Int) : Nat) : Int)
def rowsD (n : Nat) (s : Int) : List (List Int) := (List.range n).map fun c => (List.replicate n 0).set c s
theorem pw_1 (s : Int) (q : List Int) : ∀ a, (∀ x ∈ q, 0 ≤ x ∧ x < 1) → pw [[s]] [a] q = rise s a (q.count 0) := by
  induction q with
  | nil => intro a _; rfl
  | cons c q ih =>
    intro a h
    have hc := h c (by simp)
    have hr := fun b => ih b fun x hx => h x (by simp [hx])
    obtain rfl : c = 0 := by omega
    simp [pw, rise, hr]
theorem pw_2 (s : Int) (q : List Int) : ∀ a b, (∀ x ∈ q, 0 ≤ x ∧ x < 2) → pw [[s, 0], [0, s]] [a, b] q = rise s a (q.count 0) * rise s b (q.count 1) := by
  induction q with
  | nil => intro a b _; rfl
  | cons c q ih =>
    intro a b h
    have hc := h c (by simp)
    have hr := fun a b => ih a b fun x hx => h x (by simp [hx])
    rcases (by omega : c = 0 ∨ c = 1) with rfl | rfl
    · simp [pw, rise, hr, Int.mul_assoc]
    · simp [pw, rise, hr, Int.mul_left_comm]
theorem pw_3 (s : Int) (q : List Int) : ∀ a b c, (∀ x ∈ q, 0 ≤ x ∧ x < 3) → pw [[s, 0, 0], [0, s, 0], [0, 0, s]] [a, b, c] q = rise s a (q.count 0) * (rise s b (q.count 1) * rise s c (q.count 2)) := by
  induction q with
  | nil => intro a b c _; rfl
  | cons x q ih =>
    intro a b c h
    have hc := h x (by simp)
    have hr := fun a b c => ih a b c fun x hx => h x (by simp [hx])
    rcases (by omega : x = 0 ∨ x = 1 ∨ x = 2) with rfl | rfl | rfl
    · simp [pw, rise, hr, Int.mul_assoc]
    · simp [pw, rise, hr, Int.mul_left_comm, Int.mul_assoc]
    · simp [pw, rise, hr, Int.mul_left_comm]
theorem len1 {u : List Int} (h : u.length = 1) : ∃ a, u = [a] := List.length_eq_one_iff.mp h
theorem len2 {u : List Int} (h : u.length = 2) : ∃ a b, u = [a, b] := by
  match u, h with
  | [a, b], _ => exact ⟨a, b, rfl⟩
theorem len3 {u : List Int} (h : u.length = 3) : ∃ a b c, u = [a, b, c] := by
  match u, h with
  | [a, b, c], _ => exact ⟨a, b, c, rfl⟩
theorem pw_rise (s : Int) (u q : List Int) (n : Nat) (h1 : 1 ≤ n) (h3 : n ≤ 3) (hu : u.length = n) (hq : ∀ x ∈ q, 0 ≤ x ∧ x < (n : Int)) : pw (rowsD n s) u q = prodR s u (cntL n q) := by
  rcases (by omega : n = 1 ∨ n = 2 ∨ n = 3) with rfl | rfl | rfl
  · obtain ⟨a, rfl⟩ := len1 hu
    have := pw_1 s q a (fun x hx => by have := hq x hx; omega)
    simpa [rowsD, cntL, prodR, List.range_succ] using this
  · obtain ⟨a, b, rfl⟩ := len2 hu
    have := pw_2 s q a b (fun x hx => by have := hq x hx; omega)
    simpa [rowsD, cntL, prodR, List.range_succ] using this
  · obtain ⟨a, b, c, rfl⟩ := len3 hu
    have := pw_3 s q a b c (fun x hx => by have := hq x hx; omega)
    simpa [rowsD, cntL, prodR, List.range_succ] using this
theorem rise_in (s : Int) (h0 : -1 ≤ s) (h3 : s ≤ 3) (m : Nat) : ∀ a, a + 3 * (m : Int) ≤ 60 → 0 ≤ rise s a m ∧ rise s a m ≤ 60 ^ m := by
  induction m with
  | zero => intro a _; simp [rise]
  | succ m ih =>
    intro a h
    obtain ⟨i0, i1⟩ := ih (a + s) (by omega)
    have hm : 0 ≤ max 0 a ∧ max 0 a ≤ 60 := by omega
    have e : rise s a (m + 1) = max 0 a * rise s (a + s) m := rfl
    rw [e, Int.pow_succ, Int.mul_comm (60 ^ m) 60]
    exact ⟨Int.mul_nonneg hm.1 i0, Int.mul_le_mul hm.2 i1 i0 (by omega)⟩
theorem prodR_in (s : Int) (h0 : -1 ≤ s) (h3 : s ≤ 3) : ∀ (u cs : List Int), (∀ x ∈ u, x ≤ 40) → (∀ x ∈ cs, 0 ≤ x) → cs.sum ≤ 6 → 0 ≤ prodR s u cs ∧ prodR s u cs ≤ 60 ^ cs.sum.toNat := by
  intro u
  induction u with
  | nil => intro cs _ _ _; have : (1 : Int) ≤ 60 ^ cs.sum.toNat := Int.pow_pos (by omega); simp [prodR]; omega
  | cons a u ih =>
    intro cs hu hc hs
    match cs with
    | [] => simp [prodR]
    | m :: cs =>
      have p := sum_pos cs fun x hx => hc x (by simp [hx])
      have q := hc m (by simp)
      simp only [List.sum_cons] at hs
      obtain ⟨i0, i1⟩ := ih cs (fun x hx => hu x (by simp [hx])) (fun x hx => hc x (by simp [hx])) (by omega)
      obtain ⟨r0, r1⟩ := rise_in s h0 h3 m.toNat a (by have := hu a (by simp); omega)
      have e : (m :: cs).sum.toNat = m.toNat + cs.sum.toNat := by simp only [List.sum_cons]; omega
      rw [e, Int.pow_add]
      exact ⟨Int.mul_nonneg r0 i0, Int.mul_le_mul r1 i1 i0 (Int.le_trans r0 r1)⟩
theorem prodR_small (s : Int) (h0 : -1 ≤ s) (h3 : s ≤ 3) (u cs : List Int) (hu : ∀ x ∈ u, x ≤ 40) (hc : ∀ x ∈ cs, 0 ≤ x) (hs : cs.sum ≤ 6) : 0 ≤ prodR s u cs ∧ prodR s u cs ≤ 46656000000 := by
  obtain ⟨i0, i1⟩ := prodR_in s h0 h3 u cs hu hc hs
  have : ∀ m : Nat, m ≤ 6 → (60 : Int) ^ m ≤ 46656000000 := by decide
  exact ⟨i0, Int.le_trans i1 (this _ (by omega))⟩

def sameCheck (n : Nat) (s : Int) : Bool := decide (impl_SameRule.f 20 (n : Int) s = some (rowsD n s))
theorem same_check : (([-1, 0, 1, 2, 3] : List Int).all fun s => sameCheck 1 s && (sameCheck 2 s && sameCheck 3 s)) = true := by kernel_rfl
theorem same_ok (n : Nat) (s : Int) (h1 : 1 ≤ n) (h3 : n ≤ 3) (hs : -1 ≤ s) (hs3 : s ≤ 3) (k : Nat) (hk : 20 ≤ k) : impl_SameRule.f k (n : Int) s = some (rowsD n s) := by
  have h := same_check
  simp only [List.all_eq_true, Bool.and_eq_true] at h
  have h := h s (by
    rcases (by omega : s = -1 ∨ s = 0 ∨ s = 1 ∨ s = 2 ∨ s = 3) with rfl | rfl | rfl | rfl | rfl <;> simp)
  refine lift (fun k => impl_SameRule.mono (n : Int) s k) ?_ hk
  rcases (by omega : n = 1 ∨ n = 2 ∨ n = 3) with rfl | rfl | rfl
  · exact of_decide_eq_true h.1
  · exact of_decide_eq_true h.2.1
  · exact of_decide_eq_true h.2.2
theorem rows_ok (n : Nat) (s : Int) (hs : -1 ≤ s) (hs3 : s ≤ 3) : Rows n (rowsD n s) ∧ (rowsD n s).length = n := by
  refine ⟨fun r hr => ?_, by simp [rowsD]⟩
  obtain ⟨c, -, rfl⟩ := List.mem_map.mp hr
  refine ⟨by simp, fun x hx => ?_⟩
  rcases List.mem_or_eq_of_mem_set hx with q | q
  · rw [(List.mem_replicate.mp q).2]
    omega
  · omega
theorem urn_small {u : List Int} (h : UrnIn u) : Small u.length 0 u := ⟨rfl, fun x hx => by have := h.1 x hx; omega⟩
theorem pow60 (m : Nat) : (1 : Int) ≤ 60 ^ m := Int.pow_pos (by omega)
theorem mul_bound {a v P B : Int} (ha : 0 ≤ a) (hv : v ≤ 60) (hP : 0 ≤ P) (h : a * (60 * P) ≤ B) : a * v * P ≤ B := by
  have h1 : a * v ≤ a * 60 := Int.mul_le_mul_of_nonneg_left hv ha
  have h2 : a * v * P ≤ a * 60 * P := Int.mul_le_mul_of_nonneg_right h1 hP
  rw [Int.mul_assoc a 60 P] at h2
  omega
theorem le_mul {a P B : Int} (ha : 0 ≤ a) (hP : 1 ≤ P) (h : a * P ≤ B) : a ≤ B := by
  have : a * 1 ≤ a * P := Int.mul_le_mul_of_nonneg_left hP ha
  omega
theorem in_sum {cs : List Int} {B : Int} (h0 : ∀ x ∈ cs, 0 ≤ x) (hs : cs.sum ≤ B) : ∀ x ∈ cs, 0 ≤ x ∧ x ≤ B := by
  intro x hx
  obtain ⟨i, hi, rfl⟩ := List.mem_iff_getElem.mp hx
  have e : cs.sum = (cs.take i).sum + (cs[i] + (cs.drop (i + 1)).sum) := by
    conv => lhs; rw [← List.take_append_drop i cs, List.sum_append, List.drop_eq_getElem_cons hi, List.sum_cons]
  have p1 := sum_pos (cs.take i) fun x hx => h0 x (List.mem_of_mem_take hx)
  have p2 := sum_pos (cs.drop (i + 1)) fun x hx => h0 x (List.mem_of_mem_drop hx)
  have p3 := h0 cs[i] (List.getElem_mem hi)
  omega

theorem row_get (c : Nat) (t : List Int) : ∀ j, rowTail c j t = true → ∀ i (h : i < t.length), entB c (j + i) t[i] = true := by
  induction t with
  | nil => intro j _ i h; simp at h
  | cons x t ih =>
    intro j h i hi
    rw [rowTail, Bool.and_eq_true] at h
    match i with
    | 0 => exact h.1
    | i + 1 =>
      have := ih (j + 1) h.2 i (by simpa using hi)
      rw [show j + 1 + i = j + (i + 1) by omega] at this
      exact this
theorem rule_get (n : Nat) (R : List (List Int)) : ∀ i, ruleTail n i R = true → ∀ c (h : c < R.length), R[c].length = n ∧ rowTail (i + c) 0 R[c] = true := by
  induction R with
  | nil => intro i _ c h; simp at h
  | cons r R ih =>
    intro i h c hc
    rw [ruleTail, Bool.and_eq_true, Bool.and_eq_true] at h
    match c with
    | 0 => exact ⟨of_decide_eq_true h.1, h.2.1⟩
    | c + 1 =>
      have := ih (i + 1) h.2.2 c (by simpa using hc)
      rw [show i + 1 + c = i + (c + 1) by omega] at this
      exact this
theorem rule_in {n : Nat} {R : List (List Int)} (h : RuleB n R = true) : (1 ≤ n ∧ n ≤ 3) ∧ R.length = n ∧ ∀ c, c < n → (R.getD c []).length = n ∧ ∀ i, i < n → (0 ≤ rd (R.getD c []) (i : Int) ∧ rd (R.getD c []) (i : Int) ≤ 3) ∨ (rd (R.getD c []) (i : Int) = -1 ∧ i = c) := by
  unfold RuleB at h
  rw [Bool.and_eq_true, Bool.and_eq_true] at h
  have hl := of_decide_eq_true h.2.2
  refine ⟨of_decide_eq_true h.2.1, hl, fun c hc => ?_⟩
  obtain ⟨h1, h2⟩ := rule_get n R 0 h.1 c (by omega)
  have e : R.getD c [] = R[c] := by
    rw [List.getD_eq_getElem?_getD, List.getElem?_eq_getElem (by omega)]
    rfl
  rw [e]
  refine ⟨h1, fun i hi => ?_⟩
  have h3 := row_get (0 + c) R[c] 0 h2 i (by omega)
  rw [rd_get _ i (by omega)]
  simp only [entB, Bool.or_eq_true, Bool.and_eq_true, decide_eq_true_eq] at h3
  rcases h3 with q | ⟨q1, q2⟩
  · exact Or.inl q
  · exact Or.inr ⟨q1, by omega⟩
theorem rule_rows {n : Nat} {R : List (List Int)} (h : RuleB n R = true) : Rows n R := by
  obtain ⟨-, hl, hr⟩ := rule_in h
  intro r hr'
  obtain ⟨c, hc, rfl⟩ := List.mem_iff_getElem.mp hr'
  have e : R.getD c [] = R[c] := by
    rw [List.getD_eq_getElem?_getD, List.getElem?_eq_getElem hc]
    rfl
  have h1 := hr c (by omega)
  rw [e] at h1
  refine ⟨h1.1, fun x hx => ?_⟩
  obtain ⟨i, hi, rfl⟩ := List.mem_iff_getElem.mp hx
  have h2 := h1.2 i (by omega)
  rw [rd_get _ i hi] at h2
  omega
theorem after4_l0 (u : List Int) (R : List (List Int)) (c : Nat) (hc : c < R.length) (hr : (R.getD c []).length = u.length) (hu : ∀ x ∈ u, 0 ≤ x ∧ x ≤ 100) (hx : ∀ x ∈ R.getD c [], -1 ≤ x ∧ x ≤ 10) (hn : u.length ≤ 100) (d : Nat) : ∀ k i, i + d = u.length → d < k →
    spec_l4After.l0 k u R (c : Int) ((List.zipWith (· + ·) u (R.getD c [])).take i) (i : Int) = some (List.zipWith (· + ·) u (R.getD c [])) := by
  have hz : (List.zipWith (· + ·) u (R.getD c [])).length = u.length := by rw [List.length_zipWith, hr, Nat.min_self]
  induction d with
  | zero =>
    intro k i hi hk
    obtain ⟨k, rfl⟩ : ∃ m, k = m + 1 := ⟨k - 1, by omega⟩
    rw [spec_l4After.l0, if_neg (by omega), List.take_of_length_le (by omega)]
  | succ d ih =>
    intro k i hi hk
    obtain ⟨k, rfl⟩ : ∃ m, k = m + 1 := ⟨k - 1, by omega⟩
    have b1 := rd_in hu i (by omega)
    have b2 := rd_in hx i (by omega)
    have hlt : ((List.zipWith (· + ·) u (R.getD c [])).take i).length ≤ 100 := by
      rw [List.length_take]
      omega
    rw [spec_l4After.l0, if_pos (by omega), if_pos (by omega), if_pos (by omega), if_pos (by omega), rdL_nat, if_pos (by omega), if_pos (by omega), w64 (by omega) (by omega), nat_step (by omega)]
    have e : (List.zipWith (· + ·) u (R.getD c [])).take i ++ [rd u (i : Int) + rd (R.getD c []) (i : Int)] = (List.zipWith (· + ·) u (R.getD c [])).take (i + 1) := by
      rw [List.take_succ_eq_append_getElem (by omega), List.getElem_zipWith, rd_get u i (by omega), rd_get _ i (by omega)]
    rw [e]
    exact ih k (i + 1) (by omega) (by omega)
theorem srw_l0 (n : Nat) (R : List (List Int)) (hR : RuleB n R = true) (w : List Int) (hw : ∀ x ∈ w, 0 ≤ x ∧ x < (n : Int)) (hl : w.length ≤ 6) (d : Nat) : ∀ (k i : Nat) (a : Int) (u : List Int), u.length = n → (∀ x ∈ u, 0 ≤ x ∧ x ≤ 10 + 3 * (i : Int)) → i + d = w.length → d + 10 < k → 0 ≤ a → a * 60 ^ d ≤ 1000000000000000 →
    spec_RuleWays.l0 k R w u a (i : Int) = some (a * pw R u (w.drop i)) := by
  obtain ⟨h3, hRl, hr⟩ := rule_in hR
  have hrows := rule_rows hR
  induction d with
  | zero =>
    intro k i a u hu hb hi hk _ _
    obtain ⟨k, rfl⟩ : ∃ m, k = m + 1 := ⟨k - 1, by omega⟩
    rw [spec_RuleWays.l0, if_neg (by omega), List.drop_of_length_le (by omega), pw, Int.mul_one]
  | succ d ih =>
    intro k i a u hu hb hi hk a0 ab
    obtain ⟨k, rfl⟩ : ∃ m, k = m + 1 := ⟨k - 1, by omega⟩
    rw [spec_RuleWays.l0, if_pos (by omega)]
    by_cases ha : a > 0
    · have hc : 0 ≤ rd w (i : Int) ∧ rd w (i : Int) < (n : Int) := by
        rw [rd_get w i (by omega)]
        exact hw _ (List.getElem_mem (by omega))
      obtain ⟨c, hcc⟩ := Int.eq_ofNat_of_zero_le hc.1
      have hv := rd_in hb c (by omega)
      have hrc := hr c (by omega)
      have hxc := (getD_in hrows c (by omega)).2
      rw [show (60 : Int) ^ (d + 1) = 60 * 60 ^ d by rw [Int.pow_succ, Int.mul_comm]] at ab
      have b1 := mul_bound a0 (show rd u (c : Int) ≤ 60 by omega) (show (0 : Int) ≤ 60 ^ d by have := pow60 d; omega) ab
      have b0 := Int.mul_nonneg a0 hv.1
      have b2 := le_mul b0 (pow60 d) b1
      have h4 := after4_l0 u R c (by omega) (by omega) (fun x hx => by have := hb x hx; omega) hxc (by omega) u.length k 0 (by omega) (by omega)
      rw [List.take_zero] at h4
      have h4' : spec_l4After.f k u R (c : Int) = some (List.zipWith (· + ·) u (R.getD c [])) := h4
      rw [if_pos ha, if_pos (by omega), if_pos hc.1, if_pos (by omega), hcc, h4']
      simp only [Option.bind_some]
      rw [w64 (by omega) (by omega), nat_step (by omega), drop_at w i (by omega), hcc, pw, Int.toNat_natCast]
      have hmax : max 0 (u.getD c 0) = rd u (c : Int) := by
        have e : rd u (c : Int) = u.getD c 0 := rd_nat u c
        rw [← e]
        omega
      rw [hmax, ← Int.mul_assoc]
      by_cases hz : rd u (c : Int) = 0
      · rw [hz, Int.mul_zero, Int.zero_mul]
        obtain ⟨k, rfl⟩ : ∃ m, k = m + 1 := ⟨k - 1, by omega⟩
        rw [spec_RuleWays.l0]
        by_cases hq : ((i + 1 : Nat) : Int) < (w.length : Int)
        · rw [if_pos hq, if_neg (by omega)]
        · rw [if_neg hq]
      · refine ih k (i + 1) _ _ (by rw [List.length_zipWith]; omega) ?_ (by omega) (by omega) b0 b1
        intro x hx
        obtain ⟨j, hj, rfl⟩ := List.mem_iff_getElem.mp hx
        simp only [List.length_zipWith] at hj
        rw [List.getElem_zipWith]
        have q1 := hb _ (List.getElem_mem (show j < u.length by omega))
        have q2 := hrc.2 j (by omega)
        rw [rd_get _ j (by omega)] at q2
        rcases q2 with q | ⟨q, rfl⟩
        · omega
        · rw [rd_get u j (by omega)] at hz hv
          omega
    · obtain rfl : a = 0 := by omega
      rw [if_neg ha, Int.zero_mul]
theorem specRuleWays_ok (u w : List Int) (R : List (List Int)) (hn : u.length ≤ 10) (hl : w.length ≤ 1000) (hR : R.length ≤ 100) (k : Nat) (hk : 2100 ≤ k) :
    spec_RuleWays.f k u R w = some (if StartIn u ∧ RuleB u.length R = true ∧ WordIn (u.length : Int) w then pw R u w else -1) := by
  obtain ⟨k, rfl⟩ : ∃ m, k = m + 1 := ⟨k - 1, by omega⟩
  unfold spec_RuleWays.f
  rw [spec_start u (by omega) _ (by omega)]
  by_cases hu : StartIn u
  · rw [decide_eq_true hu]
    simp only [Option.bind_some, if_true]
    rw [spec_rule _ hn R hR _ (by omega)]
    by_cases hr : RuleB u.length R = true
    · rw [hr]
      simp only [Option.bind_some, if_true]
      rw [spec_word _ w (by omega) _ (by omega)]
      by_cases hw : WordIn (u.length : Int) w
      · have hb : ∀ m : Nat, m ≤ 6 → (1 : Int) * 60 ^ m ≤ 1000000000000000 := by decide
        have h6 := hw.2.2
        have h := srw_l0 u.length R hr w hw.1 (by omega) w.length k 0 1 u rfl (fun x hx => by have := hu.1 x hx; have := hu.2.1 x hx; omega) (by omega) (by omega) (by omega) (hb _ (by omega))
        rw [decide_eq_true hw, if_pos ⟨hu, trivial, hw⟩]
        simp only [Option.bind_some, Bool.not_true, spec_RuleWays.j0]
        rw [if_neg (by simp), if_pos (by simp; omega), List.nil_append]
        refine h.trans ?_
        rw [Int.one_mul, List.drop_zero]
      · rw [decide_eq_false hw, if_neg (fun h => hw h.2.2)]
        rfl
    · rw [Bool.eq_false_iff.mpr hr, if_neg (fun h => by simp at h)]
      rfl
  · rw [decide_eq_false hu, if_neg (fun h => hu h.1)]
    rfl
theorem implRuleWays_ok (u w : List Int) (R : List (List Int)) (hn : u.length ≤ 10) (hl : w.length ≤ 1000) (hR : R.length ≤ 100) (k : Nat) (hk : 2100 ≤ k) :
    impl_RuleWays.f k u R w = some (if StartIn u ∧ RuleB u.length R = true ∧ WordIn (u.length : Int) w then pw R u w else -1) := by
  unfold impl_RuleWays.f impl_ruleAsked.f
  rw [impl_start u (by omega) _ (by omega)]
  by_cases hu : StartIn u
  · rw [decide_eq_true hu]
    simp only [Option.bind_some, if_true]
    rw [impl_rule _ hn R hR _ (by omega)]
    by_cases hr : RuleB u.length R = true
    · rw [hr]
      simp only [Option.bind_some, if_true]
      rw [impl_word _ w (by omega) _ (by omega)]
      by_cases hw : WordIn (u.length : Int) w
      · have h6 := hw.2.2
        have h3 := hu.2.2
        have hl' := (rule_in hr).2.1
        rw [decide_eq_true hw, if_pos ⟨hu, trivial, hw⟩]
        simp only [Option.bind_some, if_true]
        rw [ruleWays_ok u R w u.length (urn_small hu.2) (rule_rows hr) hl' (by rw [hl']; exact hw.1) (by omega) (by omega) k (by omega)]
        rfl
      · rw [decide_eq_false hw, if_neg (fun h => hw h.2.2)]
        simp
    · rw [Bool.eq_false_iff.mpr hr, if_neg (fun h => by simp at h)]
      simp
  · rw [decide_eq_false hu, if_neg (fun h => hu h.1)]
    simp

theorem xor_pos (a b : Int) (ha : 0 ≤ a) (ha1 : a < 1000000000) (hb : 0 ≤ b) (hb1 : b < 1000000000) : 0 ≤ Go.bits .xor .i64 a b := by
  obtain ⟨m, rfl⟩ := Int.eq_ofNat_of_zero_le ha
  obtain ⟨n, rfl⟩ := Int.eq_ofNat_of_zero_le hb
  have hm : m < 2 ^ 30 := by omega
  have hn : n < 2 ^ 30 := by omega
  have hx : m ^^^ n < 2 ^ 30 := Nat.xor_lt_two_pow hm hn
  have e1 : m % 2 ^ 64 = m := Nat.mod_eq_of_lt (by omega)
  have e2 : n % 2 ^ 64 = n := Nat.mod_eq_of_lt (by omega)
  have e : (BitVec.ofNat 64 m ^^^ BitVec.ofNat 64 n).toNat = m ^^^ n := by
    rw [BitVec.toNat_xor, BitVec.toNat_ofNat, BitVec.toNat_ofNat, e1, e2]
  show 0 ≤ IntKind.i64.wrap (((BitVec.ofNat 64 m ^^^ BitVec.ofNat 64 n).toNat : Nat) : Int)
  rw [e, IntKind.wrap_i64]
  omega
theorem rd_u8 {l : List Int} (h : ∀ x ∈ l, 0 ≤ x ∧ x ≤ 255) (i : Int) : 0 ≤ rd l i ∧ rd l i ≤ 255 := by
  unfold rd
  rw [List.getD_eq_getElem?_getD]
  cases e : l[i.toNat]? with
  | none => simp
  | some x => exact h x (List.mem_of_getElem? e)
theorem tmod_in {x n : Int} (hx : 0 ≤ x) (hn : 1 ≤ n) : 0 ≤ Int.tmod x n ∧ Int.tmod x n < n := by
  rw [Int.tmod_eq_emod_of_nonneg hx]
  exact ⟨Int.emod_nonneg _ (by omega), Int.emod_lt_of_pos _ (by omega)⟩
theorem tdiv_in {x n : Int} (hx : 0 ≤ x) (hn : 1 ≤ n) : 0 ≤ Int.tdiv x n ∧ Int.tdiv x n ≤ x := by
  rw [Int.tdiv_eq_ediv_of_nonneg hx]
  exact ⟨Int.ediv_nonneg hx (by omega), Int.ediv_le_self _ hx⟩
/-- What a reader picks: a number below n, and one place further. -/
theorem pick_ok (k : Nat) (l : List Int) (p n : Int) (hl : ∀ x ∈ l, 0 ≤ x ∧ x ≤ 255) (hlen : l.length ≤ 2000) (hp : 0 ≤ p) (hp1 : p ≤ 1000000) :
    ∃ r, spec_l20Rd_pick.f (k + 1) l p n = some (r, p + 1) ∧ 0 ≤ r ∧ (n < 1 → r = 0) ∧ (1 ≤ n → r < n) := by
  unfold spec_l20Rd_pick.f
  have wp : wrap64 (p + 1) = p + 1 := w64 (by omega) (by omega)
  by_cases hn : n < 1
  · rw [if_pos hn]
    exact ⟨0, by simp [spec_l20Rd_pick.j0, wp], by omega, fun _ => rfl, fun h => by omega⟩
  · rw [if_neg hn]
    by_cases h0 : (l.length : Int) = 0
    · exact ⟨0, by simp [spec_l20Rd_pick.j0, wp, h0], by omega, fun _ => rfl, fun h => by omega⟩
    · have hb : ((l.length : Int) == 0) = false := by simpa using h0
      rw [hb, wp]
      have wq : wrap64 (p + 1 - 1) = p := by rw [w64 (by omega) (by omega)]; omega
      by_cases hlt : p < (l.length : Int)
      · obtain ⟨r0, r1⟩ := rd_u8 hl p
        have wr : wrap64 (rd l p) = rd l p := w64 (by omega) (by omega)
        have t := tmod_in r0 (show 1 ≤ n by omega)
        refine ⟨Int.tmod (rd l p) n, ?_, t.1, fun h => absurd h hn, fun _ => t.2⟩
        simp only [spec_l20Rd_pick.j0]
        rw [if_neg (by simp), wq, if_pos hlt, if_pos hp, if_neg (by omega), wr]
      · have hL : 1 ≤ (l.length : Int) := by omega
        have t1 := tmod_in hp hL
        have w7 : wrap64 (p * 7) = p * 7 := w64 (by omega) (by omega)
        have w73 : wrap64 (p * 7 + 3) = p * 7 + 3 := w64 (by omega) (by omega)
        have t2 := tmod_in (show 0 ≤ p * 7 + 3 by omega) hL
        obtain ⟨a0, a1⟩ := rd_u8 hl (Int.tmod p (l.length : Int))
        obtain ⟨b0, b1⟩ := rd_u8 hl (Int.tmod (p * 7 + 3) (l.length : Int))
        obtain ⟨q0, q1⟩ := tdiv_in hp hL
        have wa : wrap64 (rd l (Int.tmod p (l.length : Int))) = rd l (Int.tmod p (l.length : Int)) := w64 (by omega) (by omega)
        have wb : wrap64 (rd l (Int.tmod (p * 7 + 3) (l.length : Int))) = rd l (Int.tmod (p * 7 + 3) (l.length : Int)) := w64 (by omega) (by omega)
        have wc : wrap64 (Int.tdiv p (l.length : Int)) = Int.tdiv p (l.length : Int) := w64 (by omega) (by omega)
        generalize hA : rd l (Int.tmod p (l.length : Int)) = A at *
        generalize hB : rd l (Int.tmod (p * 7 + 3) (l.length : Int)) = B at *
        generalize hQ : Int.tdiv p (l.length : Int) = Q at *
        have e : wrap64 (wrap64 (wrap64 (wrap64 (wrap64 A * 131) + wrap64 (wrap64 B * 1117)) + wrap64 (p * 29)) + wrap64 (wrap64 Q * 53)) = A * 131 + B * 1117 + p * 29 + Q * 53 := by
          rw [wa, wb, wc, w64 (x := A * 131) (by omega) (by omega), w64 (x := B * 1117) (by omega) (by omega), w64 (x := p * 29) (by omega) (by omega), w64 (x := Q * 53) (by omega) (by omega),
            w64 (x := A * 131 + B * 1117) (by omega) (by omega), w64 (x := A * 131 + B * 1117 + p * 29) (by omega) (by omega), w64 (by omega) (by omega)]
        obtain ⟨d0, d1⟩ := tdiv_in (show 0 ≤ A * 131 + B * 1117 + p * 29 + Q * 53 by omega) (show (1 : Int) ≤ 64 by omega)
        have wd : wrap64 (Int.tdiv (A * 131 + B * 1117 + p * 29 + Q * 53) 64) = Int.tdiv (A * 131 + B * 1117 + p * 29 + Q * 53) 64 := w64 (by omega) (by omega)
        have hx := xor_pos (A * 131 + B * 1117 + p * 29 + Q * 53) (Int.tdiv (A * 131 + B * 1117 + p * 29 + Q * 53) 64) (by omega) (by omega) d0 (by omega)
        have t := tmod_in hx (show 1 ≤ n by omega)
        refine ⟨_, ?_, t.1, fun h => absurd h hn, fun _ => t.2⟩
        simp only [spec_l20Rd_pick.j0]
        rw [if_neg (by simp), wq, if_neg hlt, if_neg h0, if_pos t1.1, if_pos t1.2, w7, w73, if_pos t2.1, if_pos t2.2, if_neg (by omega), hA, hB, hQ, e, wd]
/-- What is read of a code. -/
theorem open_ok (l : List Int) (hl : ∀ x ∈ l, (Lit.int .u8 x).wf = true) : ∃ l', spec_l20Open.f l = some (l', 0) ∧ l'.length ≤ 2000 ∧ ∀ x ∈ l', 0 ≤ x ∧ x ≤ 255 := by
  unfold spec_l20Open.f
  by_cases h : (l.length : Int) > 2000
  · rw [if_pos h, if_pos (by omega)]
    exact ⟨_, rfl, by simp [List.length_take]; omega, fun x hx => fits8 (hl x (List.mem_of_mem_take hx))⟩
  · rw [if_neg h]
    exact ⟨_, rfl, by omega, fun x hx => fits8 (hl x hx)⟩

/-- The urns that a code may draw. -/
def DrawnU (u : List Int) : Prop := u = [] ∨ u = [1, 1, 1, 1] ∨ ∃ a t, u = a :: t ∧ t.length ≤ 2 ∧ (a = -1 ∨ a = 41 ∨ (0 ≤ a ∧ a < 6)) ∧ ∀ x ∈ t, 0 ≤ x ∧ x < 6
theorem urn_l0 (l : List Int) (odd : Int) (ho : 1 ≤ odd) (hl : ∀ x ∈ l, 0 ≤ x ∧ x ≤ 255) (hlen : l.length ≤ 2000) (n : Nat) (h1 : 1 ≤ n) (h3 : n ≤ 3) (d : Nat) :
    ∀ (k : Nat) (acc : List Int) (p : Int), acc.length + d = n → d + 1 < k → 0 ≤ p → p + (d : Int) ≤ 500000 → (∀ x ∈ acc, 0 ≤ x ∧ x < 6) →
      ∃ u q, spec_l20Urn.l0 k odd acc (d : Int) l p = some (u, q) ∧ DrawnU u ∧ 0 ≤ q ∧ q ≤ p + (d : Int) + 3 := by
  induction d with
  | zero =>
    intro k acc p hd hk p0 p1 hx
    obtain ⟨k, rfl⟩ : ∃ n, k = n + 2 := ⟨k - 2, by omega⟩
    obtain ⟨r1, e1, a1, -, b1⟩ := pick_ok k l p odd hl hlen p0 (by omega)
    obtain ⟨r2, e2, a2, -, b2⟩ := pick_ok k l (p + 1) 3 hl hlen (by omega) (by omega)
    have b2 := b2 (by omega)
    obtain ⟨r3, e3, a3, -, b3⟩ := pick_ok k l (p + 1 + 1) 2 hl hlen (by omega) (by omega)
    have b3 := b3 (by omega)
    obtain ⟨a, t, rfl⟩ : ∃ a t, acc = a :: t := by
      match acc, hd with
      | [], h => simp at h; omega
      | a :: t, _ => exact ⟨a, t, rfl⟩
    have ha := hx a (by simp)
    have ht : ∀ x ∈ t, 0 ≤ x ∧ x < 6 := fun x h => hx x (by simp [h])
    simp only [List.length_cons] at hd
    simp only [spec_l20Urn.l0]
    rw [if_neg (by omega)]
    unfold spec_l20Rd_odd.f
    rw [if_pos (by omega), e1]
    simp only [Option.bind_some]
    by_cases c1 : (r1 == wrap64 (odd - 1)) = true
    · rw [if_pos c1, e2]
      simp only [Option.bind_some]
      by_cases c2 : r2 = 0
      · rw [if_pos c2]
        exact ⟨_, _, rfl, Or.inl rfl, by omega, by omega⟩
      rw [if_neg c2]
      by_cases c3 : r2 = 1
      · rw [if_pos c3, e3]
        simp only [Option.bind_some]
        rw [if_pos a3, if_pos (by simp only [List.length_cons, List.length_nil]; omega), if_pos (by simp only [List.length_cons]; omega)]
        refine ⟨_, _, rfl, Or.inr (Or.inr ⟨rd [-1, 41] r3, t, rfl, by omega, ?_, ht⟩), by omega, by omega⟩
        rcases (by omega : r3 = 0 ∨ r3 = 1) with rfl | rfl
        · exact Or.inl rfl
        · exact Or.inr (Or.inl rfl)
      · rw [if_neg c3]
        exact ⟨_, _, rfl, Or.inr (Or.inl rfl), by omega, by omega⟩
    · rw [if_neg c1]
      exact ⟨_, _, rfl, Or.inr (Or.inr ⟨a, t, rfl, by omega, Or.inr (Or.inr ha), ht⟩), by omega, by omega⟩
  | succ d ih =>
    intro k acc p hd hk p0 p1 hx
    obtain ⟨k, rfl⟩ : ∃ n, k = n + 2 := ⟨k - 2, by omega⟩
    obtain ⟨r1, e1, a1, -, b1⟩ := pick_ok k l p 6 hl hlen p0 (by omega)
    have b1 := b1 (by omega)
    obtain ⟨u, q, e, h, q0, q1⟩ := ih (k + 1) (acc ++ [r1]) (p + 1) (by simp; omega) (by omega) (by omega) (by omega) (by
      intro x hx'
      rcases List.mem_append.mp hx' with h | h
      · exact hx x h
      · have := List.mem_singleton.mp h
        omega)
    refine ⟨u, q, ?_, h, q0, by omega⟩
    rw [spec_l20Urn.l0, if_pos (by omega), e1]
    simp only [Option.bind_some]
    rw [if_pos (by omega), w64 (by omega) (by omega), show ((d + 1 : Nat) : Int) - 1 = (d : Int) by omega]
    exact e
theorem urn_draw (l : List Int) (odd p : Int) (ho : 1 ≤ odd) (p0 : 0 ≤ p) (p1 : p ≤ 100000) (hl : ∀ x ∈ l, 0 ≤ x ∧ x ≤ 255) (hlen : l.length ≤ 2000) (k : Nat) (hk : 10 ≤ k) :
    ∃ u q, spec_l20Urn.f k l p odd = some (u, q) ∧ DrawnU u ∧ 0 ≤ q ∧ q ≤ p + 7 := by
  obtain ⟨k, rfl⟩ : ∃ m, k = m + 1 := ⟨k - 1, by omega⟩
  obtain ⟨r1, e1, a1, -, b1⟩ := pick_ok k l p 3 hl hlen p0 (by omega)
  have b1 := b1 (by omega)
  obtain ⟨u, q, e, h, q0, q1⟩ := urn_l0 l odd ho hl hlen (1 + r1.toNat) (by omega) (by omega) (1 + r1.toNat) (k + 1) [] (p + 1) (by simp) (by omega) (by omega) (by omega) (by simp)
  refine ⟨u, q, ?_, h, q0, by omega⟩
  unfold spec_l20Urn.f
  rw [e1]
  simp only [Option.bind_some]
  rw [w64 (by omega) (by omega), show 1 + r1 = ((1 + r1.toNat : Nat) : Int) by omega]
  exact e
def smalls : List Int := [0, 1, 2, 3, 4, 5]
def heads : List Int := [-1, 41, 0, 1, 2, 3, 4, 5]
def drawnUs : List (List Int) := [] :: [1, 1, 1, 1] :: heads.flatMap fun a => [a] :: smalls.flatMap fun b => [a, b] :: smalls.map fun c => [a, b, c]
theorem mem_smalls {x : Int} (h : 0 ≤ x ∧ x < 6) : x ∈ smalls := by
  rcases (by omega : x = 0 ∨ x = 1 ∨ x = 2 ∨ x = 3 ∨ x = 4 ∨ x = 5) with rfl | rfl | rfl | rfl | rfl | rfl <;> simp [smalls]
theorem drawn_mem {u : List Int} (h : DrawnU u) : u ∈ drawnUs := by
  rcases h with rfl | rfl | ⟨a, t, rfl, hl, ha, ht⟩
  · simp [drawnUs]
  · simp [drawnUs]
  · have ha' : a ∈ heads := by
      rcases ha with rfl | rfl | ha
      · simp [heads]
      · simp [heads]
      · have := mem_smalls ha
        simp [smalls] at this
        simp [heads, this]
    refine List.mem_cons_of_mem _ (List.mem_cons_of_mem _ (List.mem_flatMap.mpr ⟨a, ha', ?_⟩))
    match t, hl with
    | [], _ => simp
    | [b], _ => exact List.mem_cons_of_mem _ (List.mem_flatMap.mpr ⟨b, mem_smalls (ht b (by simp)), by simp⟩)
    | [b, c], _ =>
      refine List.mem_cons_of_mem _ (List.mem_flatMap.mpr ⟨b, mem_smalls (ht b (by simp)), ?_⟩)
      simp [mem_smalls (ht c (by simp))]
    | _ :: _ :: _ :: _, h => simp at h
theorem drawn_len {u : List Int} (h : DrawnU u) : u.length ≤ 4 := by
  rcases h with rfl | rfl | ⟨a, t, rfl, hl, -⟩
  · simp
  · simp
  · simp only [List.length_cons]
    omega

theorem word_draw_l0 (l : List Int) (n odd : Int) (hl : ∀ x ∈ l, 0 ≤ x ∧ x ≤ 255) (hlen : l.length ≤ 2000) (d : Nat) :
    ∀ (k : Nat) (acc : List Int) (p : Int), acc.length + d ≤ 4 → d + 1 < k → 0 ≤ p → p + (d : Int) ≤ 500000 →
      ∃ w q, spec_l20Word.l0 k n odd acc (d : Int) l p = some (w, q) ∧ (w.length ≤ 5 ∨ w.length = 7) := by
  induction d with
  | zero =>
    intro k acc p hd hk p0 p1
    obtain ⟨k, rfl⟩ : ∃ n, k = n + 2 := ⟨k - 2, by omega⟩
    obtain ⟨r1, e1, -⟩ := pick_ok k l p odd hl hlen p0 (by omega)
    obtain ⟨r2, e2, -⟩ := pick_ok k l (p + 1) 2 hl hlen (by omega) (by omega)
    obtain ⟨r3, e3, -⟩ := pick_ok k l p 2 hl hlen (by omega) (by omega)
    simp only [spec_l20Word.l0]
    rw [if_neg (by omega)]
    unfold spec_l20Rd_odd.f
    by_cases c0 : odd > 0
    · rw [if_pos c0, e1]
      simp only [Option.bind_some]
      by_cases c1 : (r1 == wrap64 (odd - 1)) = true
      · rw [if_pos c1, e2]
        simp only [Option.bind_some]
        by_cases c2 : r2 = 0
        · rw [if_pos c2, if_pos (by omega)]
          exact ⟨_, _, rfl, Or.inl (by simp; omega)⟩
        · rw [if_neg c2]
          exact ⟨_, _, rfl, Or.inr rfl⟩
      · rw [if_neg c1]
        exact ⟨_, _, rfl, Or.inl (by omega)⟩
    · rw [if_neg c0]
      simp only [Option.bind_some]
      rw [if_neg (by simp)]
      exact ⟨_, _, rfl, Or.inl (by omega)⟩
  | succ d ih =>
    intro k acc p hd hk p0 p1
    obtain ⟨k, rfl⟩ : ∃ n, k = n + 2 := ⟨k - 2, by omega⟩
    obtain ⟨r1, e1, -⟩ := pick_ok k l p (mx n 1) hl hlen p0 (by omega)
    obtain ⟨w, q, e, h⟩ := ih (k + 1) (acc ++ [r1]) (p + 1) (by simp; omega) (by omega) (by omega) (by omega)
    refine ⟨w, q, ?_, h⟩
    rw [spec_l20Word.l0, if_pos (by omega), e1]
    simp only [Option.bind_some]
    rw [if_pos (by omega), w64 (by omega) (by omega), show ((d + 1 : Nat) : Int) - 1 = (d : Int) by omega]
    exact e

def askedCheck (n : Nat) (s : Int) : Bool := decide (impl_RuleOk.f 40 (n : Int) (rowsD n s) = some true)
theorem asked_check : (([-1, 0, 1, 2, 3] : List Int).all fun s => askedCheck 1 s && (askedCheck 2 s && askedCheck 3 s)) = true := by kernel_rfl
theorem ruleOk_ok (n : Nat) (s : Int) (h1 : 1 ≤ n) (h3 : n ≤ 3) (hs : -1 ≤ s) (hs3 : s ≤ 3) (k : Nat) (hk : 40 ≤ k) : impl_RuleOk.f k (n : Int) (rowsD n s) = some true := by
  have h := asked_check
  simp only [List.all_eq_true, Bool.and_eq_true] at h
  have h := h s (by
    rcases (by omega : s = -1 ∨ s = 0 ∨ s = 1 ∨ s = 2 ∨ s = 3) with rfl | rfl | rfl | rfl | rfl <;> simp)
  refine lift (fun k => impl_RuleOk.mono (n : Int) (rowsD n s) k) ?_ hk
  rcases (by omega : n = 1 ∨ n = 2 ∨ n = 3) with rfl | rfl | rfl
  · exact of_decide_eq_true h.1
  · exact of_decide_eq_true h.2.1
  · exact of_decide_eq_true h.2.2
theorem ruleAsked_ok (u : List Int) (s : Int) (hu : StartIn u) (hs : -1 ≤ s) (hs3 : s ≤ 3) (k : Nat) (hk : 60 ≤ k) : impl_ruleAsked.f k u (rowsD u.length s) = some true := by
  have h3 := hu.2.2
  unfold impl_ruleAsked.f
  rw [impl_start u (by omega) k (by omega), decide_eq_true hu]
  simp only [Option.bind_some, if_true]
  rw [ruleOk_ok u.length s (by omega) (by omega) hs hs3 k (by omega)]
  rfl
theorem start_of {u : List Int} (h : DrawnU u) (hu : UrnIn u) : StartIn u := by
  refine ⟨fun x hx => ?_, hu⟩
  rcases h with rfl | rfl | ⟨a, t, rfl, -, ha, ht⟩
  · simp at hx
  · simp at hx
    omega
  · rcases List.mem_cons.mp hx with q | q
    · have := (hu.1 a (by simp)).2
      omega
    · have := ht x q
      omega


theorem ruleWays_at (u q : List Int) (s : Int) (hu : StartIn u) (hs : -1 ≤ s) (hs3 : s ≤ 3) (hq : ∀ x ∈ q, 0 ≤ x ∧ x < (u.length : Int)) (hl : q.length ≤ 6) (k : Nat) (hk : 60 ≤ k) : impl_RuleWays.f k u (rowsD u.length s) q = some (prodR s u (cntL u.length q)) := by
  have h3 := hu.2.2
  have hr := rows_ok u.length s hs hs3
  have hw : WordIn (u.length : Int) q := ⟨hq, h3, by omega⟩
  unfold impl_RuleWays.f
  rw [ruleAsked_ok u s hu hs hs3 k hk]
  simp only [Option.bind_some, if_true]
  rw [impl_word _ q (by omega) _ (by omega), decide_eq_true hw]
  simp only [Option.bind_some, if_true]
  rw [ruleWays_ok u _ q u.length (urn_small hu.2) hr.1 hr.2 (by rw [hr.2]; exact hq) (by omega) (by omega) k (by omega)]
  simp only [Option.bind_some]
  rw [pw_rise s u q u.length (by omega) (by omega) rfl hq]

/-- The ways of a word where each ball goes back. -/
def bw (u : List Int) : List Int → Int
  | [] => 1
  | c :: w => u.getD c.toNat 0 * bw u w
theorem zip_zero (u : List Int) : List.zipWith (· + ·) u (List.replicate u.length (0 : Int)) = u := by
  induction u with
  | nil => rfl
  | cons a u ih =>
    rw [List.length_cons, List.replicate_succ, List.zipWith_cons_cons, ih, Int.add_zero]
theorem row_zero (n c : Nat) : (rowsD n 0).getD c [] = if c < n then List.replicate n (0 : Int) else [] := by
  unfold rowsD
  by_cases h : c < n
  · rw [if_pos h, List.getD_eq_getElem?_getD, List.getElem?_eq_getElem (by simpa using h)]
    simp
  · rw [if_neg h, List.getD_eq_getElem?_getD, List.getElem?_eq_none (by simpa using h)]
    rfl
theorem bw_pw (u : List Int) (hu : ∀ x ∈ u, 0 ≤ x) (q : List Int) (hq : ∀ x ∈ q, 0 ≤ x ∧ x < (u.length : Int)) : bw u q = pw (rowsD u.length 0) u q := by
  induction q with
  | nil => rfl
  | cons c q ih =>
    have hc := hq c (by simp)
    have hx : 0 ≤ u.getD c.toNat 0 := by
      rw [List.getD_eq_getElem?_getD, List.getElem?_eq_getElem (by omega)]
      exact hu _ (List.getElem_mem _)
    unfold bw pw
    rw [row_zero, if_pos (by omega), zip_zero, ← ih fun x h => hq x (by simp [h]), show max 0 (u.getD c.toNat 0) = u.getD c.toNat 0 by omega]
theorem back_l0 (u : List Int) (hu : ∀ x ∈ u, 0 ≤ x ∧ x ≤ 40) (q : List Int) (hq : ∀ x ∈ q, 0 ≤ x ∧ x < (u.length : Int)) (hl : q.length ≤ 1000) (d : Nat) : ∀ (k i : Nat) (a : Int), i + d = q.length → d < k → 0 ≤ a → a * 60 ^ d ≤ 1000000000000000 →
    impl_BackWays.l0 k u a q (q.length : Int) (i : Int) = some (a * bw u (q.drop i)) := by
  induction d with
  | zero =>
    intro k i a hi hk _ _
    obtain ⟨k, rfl⟩ : ∃ m, k = m + 1 := ⟨k - 1, by omega⟩
    simp only [impl_BackWays.l0]
    rw [if_neg (by omega), List.drop_of_length_le (by omega), bw, Int.mul_one]
  | succ d ih =>
    intro k i a hi hk a0 ab
    obtain ⟨k, rfl⟩ : ∃ m, k = m + 1 := ⟨k - 1, by omega⟩
    have hc : 0 ≤ rd q (i : Int) ∧ rd q (i : Int) < (u.length : Int) := by
      rw [rd_get q i (by omega)]
      exact hq _ (List.getElem_mem (by omega))
    have hv := rd_in hu (rd q (i : Int)).toNat (by omega)
    rw [show (((rd q (i : Int)).toNat : Nat) : Int) = rd q (i : Int) by omega] at hv
    rw [show (60 : Int) ^ (d + 1) = 60 * 60 ^ d by rw [Int.pow_succ, Int.mul_comm]] at ab
    have b1 := mul_bound a0 (show rd u (rd q (i : Int)) ≤ 60 by omega) (show (0 : Int) ≤ 60 ^ d by have := pow60 d; omega) ab
    have b0 := Int.mul_nonneg a0 hv.1
    have b2 := le_mul b0 (pow60 d) b1
    simp only [impl_BackWays.l0]
    rw [if_pos (by omega), if_pos (by omega), if_pos (by omega), if_pos hc.1, if_pos hc.2, w64 (by omega) (by omega), nat_step (by omega), ih k (i + 1) _ (by omega) (by omega) b0 b1, drop_at q i (by omega), bw, Int.mul_assoc]
    rfl
theorem backWays_ok (u q : List Int) (hu : UrnIn u) (hq : ∀ x ∈ q, 0 ≤ x ∧ x < (u.length : Int)) (hl : q.length ≤ 6) (k : Nat) (hk : 60 ≤ k) : impl_BackWays.f k u q = some (prodR 0 u (cntL u.length q)) := by
  obtain ⟨k, rfl⟩ : ∃ m, k = m + 1 := ⟨k - 1, by omega⟩
  have h3 := hu.2
  have hw : WordIn (u.length : Int) q := ⟨hq, h3, by omega⟩
  unfold impl_BackWays.f
  rw [impl_urn u (by omega) _ (by omega), decide_eq_true hu]
  simp only [Option.bind_some, if_true]
  rw [impl_word _ q (by omega) _ (by omega), decide_eq_true hw]
  simp only [Option.bind_some, Bool.not_true, impl_BackWays.j0]
  have hb : ∀ m : Nat, m ≤ 6 → (1 : Int) * 60 ^ m ≤ 1000000000000000 := by decide
  have h := back_l0 u hu.1 q hq (by omega) q.length k 0 1 (by omega) (by omega) (by omega) (hb _ hl)
  rw [if_neg (by simp)]
  refine h.trans ?_
  rw [Int.one_mul, List.drop_zero, bw_pw u (fun x hx => (hu.1 x hx).1) q hq, pw_rise 0 u q u.length (by omega) (by omega) rfl hq]

theorem wordWays_ok (u q : List Int) (hu : UrnIn u) (hq : ∀ x ∈ q, 0 ≤ x ∧ x < (u.length : Int)) (hl : q.length ≤ 6) (k : Nat) (hk : 60 ≤ k) : impl_WordWays.f k u q = some (prodR (-1) u (cntL u.length q)) := by
  obtain ⟨k, rfl⟩ : ∃ m, k = m + 1 := ⟨k - 1, by omega⟩
  have h3 := hu.2
  have hr := rows_ok u.length (-1) (by omega) (by omega)
  have hw : WordIn (u.length : Int) q := ⟨hq, h3, by omega⟩
  unfold impl_WordWays.f
  rw [impl_urn u (by omega) _ (by omega), decide_eq_true hu]
  simp only [Option.bind_some, if_true]
  rw [impl_word _ q (by omega) _ (by omega), decide_eq_true hw]
  simp only [Option.bind_some, Bool.not_true, impl_WordWays.j0]
  rw [if_neg (by simp), same_ok u.length (-1) (by omega) (by omega) (by omega) (by omega) k (by omega)]
  simp only [Option.bind_some]
  rw [ruleWays_ok u _ q u.length (urn_small hu) hr.1 hr.2 (by rw [hr.2]; exact hq) (by omega) (by omega) k (by omega)]
  simp only [Option.bind_some]
  rw [pw_rise (-1) u q u.length (by omega) (by omega) rfl hq]

theorem alive_lift (k : Nat) (h : 20 ≤ k) : laws_alive.f k = some true := lift (k := 20) laws_alive.mono (by kernel_rfl) h

theorem rows_take (n i : Nat) (s : Int) (h : i < n) : (rowsD n s).take i ++ [(List.replicate n 0).set i s] = (rowsD n s).take (i + 1) := by
  rw [List.take_succ_eq_append_getElem (by simpa [rowsD] using h)]
  simp [rowsD]
theorem replicate_set (n i : Nat) : (List.replicate n (0 : Int)).set i 0 = List.replicate n 0 := by
  refine List.ext_getElem (by simp) fun j h1 h2 => ?_
  rw [List.getElem_set]
  split <;> simp
theorem rlaw_l0 (u w : List Int) (hu : u.length ≤ 10) (hfin : ∀ K, 2200 ≤ K → ((impl_RuleWays.f K u (rowsD u.length 0) w).bind fun t358 => ((impl_BackWays.f K u w).bind fun t359 => (if t358 = t359 then ((impl_RuleWays.f K u (rowsD u.length (-1)) w).bind fun t360 => ((impl_WordWays.f K u w).bind fun t361 => (some (t360 == t361)))) else (some false)))) = some true) (d : Nat) : ∀ k i, i + d = u.length → d + 2201 < k →
    laws_FnRuleWays.l0 k u w ((rowsD u.length 0).take i) ((rowsD u.length (-1)).take i) (i : Int) = some true := by
  have hl : ∀ s, (rowsD u.length s).length = u.length := fun s => by simp [rowsD]
  induction d with
  | zero =>
    intro k i hi hk
    obtain ⟨k, rfl⟩ : ∃ m, k = m + 1 := ⟨k - 1, by omega⟩
    have h0 := hl 0
    have h1 := hl (-1)
    rw [laws_FnRuleWays.l0, if_neg (by omega), List.take_of_length_le (by omega), List.take_of_length_le (by omega)]
    exact hfin k (by omega)
  | succ d ih =>
    intro k i hi hk
    obtain ⟨k, rfl⟩ : ∃ m, k = m + 1 := ⟨k - 1, by omega⟩
    have h0 : ((rowsD u.length 0).take i).length ≤ 10 := by rw [List.length_take, hl 0]; omega
    have h1 : ((rowsD u.length (-1)).take i).length ≤ 10 := by rw [List.length_take, hl (-1)]; omega
    rw [laws_FnRuleWays.l0, if_pos (by omega), if_pos (by omega), if_pos (by omega), if_pos (by omega)]
    simp only [Option.bind_some]
    rw [if_pos (by omega), if_pos (by rw [List.length_replicate]; omega), if_pos (by omega), nat_step (by omega), Int.toNat_natCast, Int.toNat_natCast]
    have e0 := rows_take u.length i 0 (by omega)
    rw [replicate_set] at e0
    rw [e0, rows_take u.length i (-1) (by omega)]
    exact ih k (i + 1) (by omega) (by omega)

theorem rdL_nat' (R : List (List Int)) (i : Nat) : rd_L2 R (i : Int) = R.getD i [] := by
  show R.getD (i : Int).toNat [] = _
  rw [Int.toNat_natCast]
theorem draw_l1 (l : List Int) (hl : ∀ x ∈ l, 0 ≤ x ∧ x ≤ 255) (hlen : l.length ≤ 2000) (m : Nat) (h1 : 1 ≤ m) (h3 : m ≤ 3) (odd mode : Int) (x7 : List (List Int)) (h7 : x7.length ≤ 10) (i : Nat) (hi : i < m) (d : Nat) :
    ∀ (k : Nat) (row : List Int) (j : Nat) (p : Int), row.length = m → j + d = m → 0 ≤ p → p + 2 * (d : Int) ≤ 500000 →
      ∃ row' : List Int, row'.length = m ∧ spec_l20Rule.l1 (k + 1 + d + 1) (m : Int) odd x7 mode (i : Int) row (j : Int) l p = spec_l20Rule.l0 (k + 1) (m : Int) odd (x7 ++ [row']) mode ((i + 1 : Nat) : Int) l (p + 2 * (d : Int)) := by
  induction d with
  | zero =>
    intro k row j p hr hj p0 p1
    rw [Nat.add_zero, spec_l20Rule.l1, if_neg (by omega), nat_step (by omega), show p + 2 * ((0 : Nat) : Int) = p by omega]
    by_cases c0 : mode = 0
    · refine ⟨(List.replicate m (0 : Int)).set i 1, by simp, ?_⟩
      rw [if_pos c0, if_pos (by omega), if_pos (by omega)]
      simp only [Option.bind_some, Int.toNat_natCast]
      rw [if_pos (by omega), if_pos (by rw [List.length_replicate]; omega), if_pos (by omega)]
    · rw [if_neg c0]
      by_cases c1 : mode = 1
      · have t := tmod_in (show 0 ≤ ((i + 1 : Nat) : Int) by omega) (show (1 : Int) ≤ (m : Int) by omega)
        refine ⟨((List.replicate m (0 : Int)).set i (-1)).set (Int.tmod ((i + 1 : Nat) : Int) (m : Int)).toNat (wrap64 (rd ((List.replicate m (0 : Int)).set i (-1)) (Int.tmod ((i + 1 : Nat) : Int) (m : Int)) + 1)), by simp, ?_⟩
        rw [if_pos c1, if_pos (by omega), if_pos (by omega)]
        simp only [Option.bind_some, Int.toNat_natCast]
        rw [if_pos (by omega), if_pos (by rw [List.length_replicate]; omega), if_neg (by omega), if_pos t.1, if_pos (by rw [List.length_replicate]; omega), if_pos (by omega)]
      · refine ⟨row, hr, ?_⟩
        rw [if_neg c1, if_pos (by omega)]
  | succ d ih =>
    intro k row j p hr hj p0 p1
    obtain ⟨r1, e1, -⟩ := pick_ok (k + 1 + d) l p 3 hl hlen p0 (by omega)
    obtain ⟨r2, e2, -⟩ := pick_ok (k + 1 + d) l (p + 1) 2 hl hlen (by omega) (by omega)
    obtain ⟨row', h, e⟩ := ih k (row.set j (wrap64 (r1 * r2))) (j + 1) (p + 1 + 1) (by simpa using hr) (by omega) (by omega) (by omega)
    refine ⟨row', h, ?_⟩
    rw [show k + 1 + (d + 1) + 1 = (k + 1 + d + 1) + 1 by omega, spec_l20Rule.l1, if_pos (by omega), e1]
    simp only [Option.bind_some]
    rw [e2]
    simp only [Option.bind_some]
    rw [if_pos (by omega), if_pos (by omega), Int.toNat_natCast, nat_step (by omega), e, show p + 1 + 1 + 2 * (d : Int) = p + 2 * ((d + 1 : Nat) : Int) by omega]
theorem draw_l0 (l : List Int) (hl : ∀ x ∈ l, 0 ≤ x ∧ x ≤ 255) (hlen : l.length ≤ 2000) (m : Nat) (h1 : 1 ≤ m) (h3 : m ≤ 3) (odd mode : Int) (ho : 1 ≤ odd) (d : Nat) :
    ∀ (k i : Nat) (x7 : List (List Int)) (p : Int), i + d = m → x7.length = i → (∀ r ∈ x7, r.length = m) → d * 10 + 5 < k → 0 ≤ p → p + 10 * (d : Int) ≤ 400000 →
      ∃ R q, spec_l20Rule.l0 k (m : Int) odd x7 mode (i : Int) l p = some (R, q) ∧ R.length ≤ 3 ∧ 0 ≤ q ∧ q ≤ p + 10 * (d : Int) + 5 := by
  induction d with
  | zero =>
    intro k i x7 p hi h7 hr hk p0 p1
    obtain ⟨k, rfl⟩ : ∃ n, k = n + 2 := ⟨k - 2, by omega⟩
    obtain ⟨r1, e1, -⟩ := pick_ok k l p odd hl hlen p0 (by omega)
    obtain ⟨r2, e2, -⟩ := pick_ok k l (p + 1) 2 hl hlen (by omega) (by omega)
    rw [spec_l20Rule.l0, if_neg (by omega)]
    unfold spec_l20Rd_odd.f
    rw [if_pos (by omega), e1]
    simp only [Option.bind_some]
    by_cases c1 : (r1 == wrap64 (odd - 1)) = true
    · rw [if_pos c1, e2]
      simp only [Option.bind_some]
      by_cases c2 : r2 = 0
      · have hx : (x7.getD 0 []).length = m := by
          rw [List.getD_eq_getElem?_getD, List.getElem?_eq_getElem (by omega)]
          exact hr _ (List.getElem_mem _)
        have e0 := rdL_nat' x7 0
        rw [Int.natCast_zero] at e0
        rw [if_pos c2, if_pos (by omega), e0, w64 (x := (m : Int) - 1) (by omega) (by omega), if_pos (by omega), if_pos (by omega)]
        exact ⟨_, _, rfl, by simp; omega, by omega, by omega⟩
      · rw [if_neg c2, if_pos (by omega)]
        exact ⟨_, _, rfl, by rw [List.length_drop]; omega, by omega, by omega⟩
    · rw [if_neg c1]
      exact ⟨_, _, rfl, by omega, by omega, by omega⟩
  | succ d ih =>
    intro k i x7 p hi h7 hr hk p0 p1
    obtain ⟨k, rfl⟩ : ∃ n, k = (n + 1 + m + 1) + 1 := ⟨k - m - 3, by omega⟩
    obtain ⟨row', h, e⟩ := draw_l1 l hl hlen m h1 h3 odd mode x7 (by omega) i (by omega) m k (List.replicate m 0) 0 p (by simp) (by omega) p0 (by omega)
    obtain ⟨R, q, e', h', q0, q1⟩ := ih (k + 1) (i + 1) (x7 ++ [row']) (p + 2 * (m : Int)) (by omega) (by simp; omega) (by
      intro r hr'
      rcases List.mem_append.mp hr' with g | g
      · exact hr r g
      · rw [List.mem_singleton.mp g]
        exact h) (by omega) (by omega) (by omega)
    refine ⟨R, q, ?_, h', q0, by omega⟩
    rw [spec_l20Rule.l0, if_pos (by omega), if_pos (by omega), if_pos (by omega), Int.toNat_natCast]
    exact e.trans e'
theorem rule_draw (l : List Int) (hl : ∀ x ∈ l, 0 ≤ x ∧ x ≤ 255) (hlen : l.length ≤ 2000) (n odd p : Int) (ho : 1 ≤ odd) (p0 : 0 ≤ p) (p1 : p ≤ 100000) (k : Nat) (hk : 100 ≤ k) :
    ∃ R q, spec_l20Rule.f k l p n odd = some (R, q) ∧ R.length ≤ 3 ∧ 0 ≤ q ∧ q ≤ p + 100 := by
  obtain ⟨k, rfl⟩ : ∃ m, k = m + 1 := ⟨k - 1, by omega⟩
  obtain ⟨r1, e1, -⟩ := pick_ok k l p 4 hl hlen p0 (by omega)
  have hm : 1 ≤ mn (mx n 1) 3 ∧ mn (mx n 1) 3 ≤ 3 := by
    unfold mn mx
    split <;> split <;> omega
  obtain ⟨m, hm'⟩ := Int.eq_ofNat_of_zero_le (show 0 ≤ mn (mx n 1) 3 by omega)
  obtain ⟨R, q, e, h, q0, q1⟩ := draw_l0 l hl hlen m (by omega) (by omega) odd r1 ho m (k + 1) 0 [] (p + 1) (by omega) rfl (by simp) (by omega) (by omega) (by omega)
  refine ⟨R, q, ?_, h, q0, by omega⟩
  unfold spec_l20Rule.f
  rw [e1]
  simp only [Option.bind_some]
  rw [hm']
  exact e

theorem pw_pos (R : List (List Int)) (w : List Int) : ∀ u, 0 ≤ pw R u w := by
  induction w with
  | nil => intro u; simp [pw]
  | cons c w ih =>
    intro u
    rw [pw]
    exact Int.mul_nonneg (by omega) (ih _)
theorem draw_ok (l : List Int) (hl : ∀ x ∈ l, (Lit.int .u8 x).wf = true) (k : Nat) (hk : 200 ≤ k) : ∃ u R w, spec_DrawRuleWays.f k l = some (u, R, w) ∧ DrawnU u ∧ R.length ≤ 3 ∧ (w.length ≤ 5 ∨ w.length = 7) := by
  obtain ⟨k, rfl⟩ : ∃ m, k = m + 1 := ⟨k - 1, by omega⟩
  obtain ⟨l', e0, hlen, hb⟩ := open_ok l hl
  obtain ⟨u, q, e, h, q0, q1⟩ := urn_draw l' 14 0 (by omega) (by omega) (by omega) hb hlen (k + 1) (by omega)
  obtain ⟨R, q', e', h', q0', q1'⟩ := rule_draw l' hb hlen (u.length : Int) 14 q (by omega) q0 (by omega) (k + 1) (by omega)
  obtain ⟨r1, e1, a1, -, b1⟩ := pick_ok k l' q' 5 hb hlen q0' (by omega)
  have b1 := b1 (by omega)
  obtain ⟨w, q'', e'', h''⟩ := word_draw_l0 l' (u.length : Int) 14 hb hlen r1.toNat (k + 1) [] (q' + 1) (by simp; omega) (by omega) (by omega) (by omega)
  rw [Int.toNat_of_nonneg a1] at e''
  refine ⟨u, R, w, ?_, h, h', h''⟩
  unfold spec_DrawRuleWays.f
  simp only [e0, Option.bind_some]
  unfold spec_l20Ruled.f
  simp only [e, e', Option.bind_some]
  unfold spec_l20Word.f
  simp only [e1, Option.bind_some, e'']
theorem FnRuleWays : laws_FnRuleWays.Pure := by
  intro l _ _ hl
  refine ⟨3000, ?_⟩
  obtain ⟨u, R, w, e, h, hR, hw7⟩ := draw_ok l hl 3000 (by omega)
  have hn := drawn_len h
  unfold laws_FnRuleWays.f
  by_cases hlen : (l.length : Int) > 1048576
  · rw [if_pos hlen]
  · rw [if_neg hlen, e]
    simp only [Option.bind_some]
    rw [implRuleWays_ok u w R (by omega) (by omega) (by omega) 3000 (by omega), specRuleWays_ok u w R (by omega) (by omega) (by omega) 3000 (by omega)]
    simp only [Option.bind_some]
    rw [if_pos trivial]
    by_cases hv : StartIn u ∧ RuleB u.length R = true ∧ WordIn (u.length : Int) w
    · have hv' := hv
      obtain ⟨hu, hr, hw⟩ := hv
      have h3 := hu.2.2
      have h6 := hw.2.2
      have hp : 0 ≤ pw R u w := pw_pos R w u
      rw [if_pos hv', if_neg (by omega)]
      refine rlaw_l0 u w (by omega) ?_ u.length 3000 0 (by omega) (by omega)
      intro K hK
      rw [ruleWays_at u w 0 hu (by omega) (by omega) hw.1 (by omega) K (by omega), backWays_ok u w hu.2 hw.1 (by omega) K (by omega), ruleWays_at u w (-1) hu (by omega) (by omega) hw.1 (by omega) K (by omega), wordWays_ok u w hu.2 hw.1 (by omega) K (by omega)]
      simp
    · rw [if_neg hv, if_pos (by omega), if_pos rfl, alive_lift 3000 (by omega)]
      rfl

end Go.Proofs.Ytbpjoeenopodiaa.Pure
