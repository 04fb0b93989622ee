/- The program's BoxMean answers as the reference's does, at all arguments. -/
import Derived.Test.YtoplkcbmbkadbaaQFnExactBoxMeanx2
namespace Go.Proofs.Ytoplkcbmbkadbaa.Pure
open Go.RowKit Go.Proofs.Ytoplkcbmbkadbaa.PFnExactBoxMean Go.Proofs.YtoplkcbmbkadbaaW.PrintWords Go.Proofs.YtoplkcbmbkadbaaW.PrintLast
theorem w64 {x : Int} (h0 : -9223372036854775808 ≤ x) (h1 : x ≤ 9223372036854775807) : wrap64 x = x := by
  unfold wrap64
  omega
theorem fits {x : Int} (h : (Lit.int .i64 x).wf = true) : -9223372036854775808 ≤ x ∧ x ≤ 9223372036854775807 := by
  simp only [Lit.wf, Bool.and_eq_true, decide_eq_true_eq] at h
  exact h
theorem fits8 {x : Int} (h : (Lit.int .u8 x).wf = true) : 0 ≤ x ∧ x ≤ 255 := by
  simp only [Lit.wf, Bool.and_eq_true, decide_eq_true_eq] at h
  exact h

theorem all_at {p : Nat → Bool} {n : Nat} (h : (List.range n).all p = true) (i : Nat) (hi : i < n) : p i = true := by
  rw [List.all_eq_true] at h
  exact h i (List.mem_range.mpr hi)
/-- A check of all boxes that may be asked. -/
def boxAll (P : Int → Int → Int → Bool) : Bool :=
  (List.range 8).all fun i => (List.range (i + 2)).all fun f => (List.range (i + 2 - f)).all fun s => P ((i : Int) + 1) (f : Int) (s : Int)
def BoxIn (m f s : Int) : Prop := 1 ≤ m ∧ m ≤ 8 ∧ 0 ≤ f ∧ 0 ≤ s ∧ f + s ≤ m
instance (m f s : Int) : Decidable (BoxIn m f s) := by unfold BoxIn; infer_instance
theorem box_all {P : Int → Int → Int → Bool} (h : boxAll P = true) (m f s : Int) (hb : BoxIn m f s) : P m f s = true := by
  obtain ⟨h1, h2, h3, h4, h5⟩ := hb
  unfold boxAll at h
  have a := all_at h (m - 1).toNat (by omega)
  have b := all_at a f.toNat (by omega)
  have c := all_at b s.toNat (by omega)
  have e1 : (((m - 1).toNat : Nat) : Int) + 1 = m := by omega
  have e2 : ((f.toNat : Nat) : Int) = f := by omega
  have e3 : ((s.toNat : Nat) : Int) = s := by omega
  rw [e1, e2, e3] at c
  exact c
theorem box_some {P : Int → Int → Int → Option Bool} (h : boxAll (fun m f s => decide (P m f s = some true)) = true) (m f s : Int) (hb : BoxIn m f s) : P m f s = some true :=
  of_decide_eq_true (box_all h m f s hb)
/-- A check of all numbers in three spans. -/
def spanAll (l1 l2 l3 : Int) (n1 n2 n3 : Nat) (P : Int → Int → Int → Bool) : Bool :=
  (List.range n1).all fun i => (List.range n2).all fun j => (List.range n3).all fun k => P (l1 + (i : Int)) (l2 + (j : Int)) (l3 + (k : Int))
theorem span_some {l1 l2 l3 : Int} {n1 n2 n3 : Nat} {P : Int → Int → Int → Option Bool} (h : spanAll l1 l2 l3 n1 n2 n3 (fun a b c => decide (P a b c = some true)) = true) :
    ∀ a b c : Int, l1 ≤ a ∧ a < l1 + n1 ∧ l2 ≤ b ∧ b < l2 + n2 ∧ l3 ≤ c ∧ c < l3 + n3 → P a b c = some true := by
  intro a b c ⟨a0, a1, b0, b1, c0, c1⟩
  unfold spanAll at h
  have x := all_at h (a - l1).toNat (by omega)
  have y := all_at x (b - l2).toNat (by omega)
  have z := all_at y (c - l3).toNat (by omega)
  have e1 : l1 + (((a - l1).toNat : Nat) : Int) = a := by omega
  have e2 : l2 + (((b - l2).toNat : Nat) : Int) = b := by omega
  have e3 : l3 + (((c - l3).toNat : Nat) : Int) = c := by omega
  rw [e1, e2, e3] at z
  exact of_decide_eq_true z

theorem spec_ok (m f s : Int) : spec_BoxOk.f m f s = some (decide (BoxIn m f s)) := by
  unfold spec_BoxOk.f spec_l1In.f BoxIn
  by_cases h1 : m ≥ 1
  · by_cases h2 : m ≤ 8
    · by_cases h3 : f ≥ 0
      · by_cases h4 : f ≤ m
        · by_cases h5 : s ≥ 0
          · by_cases h6 : s ≤ m
            · rw [w64 (x := f + s) (by omega) (by omega)]
              simp [h1, h2, h3, h4, h5, h6]
            · have : ¬ (f + s ≤ m) := by omega
              simp [h1, h2, h3, h4, h5, h6, this]
          · simp [h1, h2, h3, h4, h5]
        · have : ¬ (0 ≤ s ∧ f + s ≤ m) := by omega
          simp [h1, h2, h3, h4, this]
      · simp [h1, h2, h3]
    · simp [h1, h2]
  · simp [h1]
theorem impl_ok (m f s : Int) : impl_BoxOk.f m f s = some (decide (BoxIn m f s)) := by
  unfold impl_BoxOk.f BoxIn
  by_cases h1 : m ≥ 1
  · by_cases h2 : m ≤ 8
    · by_cases h3 : f ≥ 0
      · by_cases h5 : s ≥ 0
        · by_cases h4 : f ≤ m
          · rw [w64 (x := m - f) (by omega) (by omega)]
            simp only [h1, h2, h3, h4, h5, if_true, true_and]
            have : s ≤ m - f ↔ f + s ≤ m := by omega
            simp [this]
          · have : ¬ (f + s ≤ m) := by omega
            simp [h1, h2, h3, h4, h5, this]
        · simp [h1, h2, h3, h5]
      · simp [h1, h2, h3]
    · simp [h1, h2]
  · simp [h1]

theorem inside : boxAll (fun m f s => decide (laws_FnExactBoxMean.f 300 m f s = some true)) = true := by
  kernel_rfl
theorem FnExactBoxMean : laws_FnExactBoxMean.Pure := by
  intro m f s _ _ _
  refine ⟨300, ?_⟩
  by_cases h : BoxIn m f s
  · exact box_some inside m f s h
  · have e : spec_BoxMean.f 300 m f s = some (0, 0, false) := by
      simp [spec_BoxMean.f, spec_ok, h]
    have g : impl_BoxMean.f 300 m f s = some (0, 0, false) := by
      simp [impl_BoxMean.f, impl_ok, h]
    unfold laws_FnExactBoxMean.f
    rw [e, g]
    decide +kernel

end Go.Proofs.Ytoplkcbmbkadbaa.Pure
