/- What the functions that the law FnSameAll reaches come to, each with its proof; and the row of the law. -/
import Derived.Test.YthpjeinjldfmjaaQFnSameAllx0
import Derived.Test.YthpjeinjldfmjaaQFnSameAllx1
import Derived.Test.YthpjeinjldfmjaaQFnSameAllx2
import Derived.Test.YthpjeinjldfmjaaQFnSameAllx3
import Derived.Test.YthpjeinjldfmjaaQFnSameAllx4
namespace Go.Proofs.Ythpjeinjldfmjaa.QFnSameAll
open Go.RowKit Go.Proofs.YthpjeinjldfmjaaW.PrintWords Go.Proofs.YthpjeinjldfmjaaW.PrintLast Go.Proofs.YthpjeinjldfmjaaW.PrintMore
attribute [local go_sem] max2_int min2_int max_two min_two max_three min_three max_four min_four   -- for this text's walks alone
set_option linter.unusedVariables false
set_option linter.unusedSimpArgs false

/-! ### impl_RuleOk: function 90 -/
mutual
def impl_RuleOk.l0 : Nat → Int → List (List Int) → List (List Int) → Int → Int → Option (Bool)
  | 0, _, _, _, _, _ => none
  | k + 1, x0, x1, x9, x10, x11 => if x11 < x10 then (if 0 ≤ x11 then (if x11 < (x9.length : Int) then (if ((rd_L2 x9 x11).length : Int) = x0 then (impl_RuleOk.l1 k x0 x1 x11 x9 x10 x11 (rd_L2 x9 x11) ((rd_L2 x9 x11).length : Int) 0) else (some false)) else (none)) else (none)) else ((impl_coloursOk.f x0).bind fun t250 => (if t250 = true then (some ((x1.length : Int) == x0)) else (some false)))
def impl_RuleOk.l1 : Nat → Int → List (List Int) → Int → List (List Int) → Int → Int → List Int → Int → Int → Option (Bool)
  | 0, _, _, _, _, _, _, _, _, _ => none
  | k + 1, x0, x1, x5, x9, x10, x11, x20, x21, x22 => if x22 < x21 then (if 0 ≤ x22 then (if x22 < (x20.length : Int) then (if (rd x20 x22) > 3 then (some false) else (if (rd x20 x22) < (-1) then (some false) else (if (rd x20 x22) = (-1) then (if x5 = x22 then (impl_RuleOk.l1 k x0 x1 x5 x9 x10 x11 x20 x21 (wrap64 (x22 + 1))) else (some false)) else (impl_RuleOk.l1 k x0 x1 x5 x9 x10 x11 x20 x21 (wrap64 (x22 + 1)))))) else (none)) else (none)) else (impl_RuleOk.l0 k x0 x1 x9 x10 (wrap64 (x11 + 1)))
end
def impl_RuleOk.f (k : Nat) (a0 : Int) (l1 : List (List Int)) : Option (Bool) := impl_RuleOk.l0 k a0 l1 l1 (l1.length : Int) 0
theorem impl_RuleOk.mono_l : ∀ k, (∀ y0 y1 y2 y3 y4, LeO (impl_RuleOk.l0 k y0 y1 y2 y3 y4) (impl_RuleOk.l0 (k + 1) y0 y1 y2 y3 y4)) ∧ (∀ y0 y1 y2 y3 y4 y5 y6 y7 y8, LeO (impl_RuleOk.l1 k y0 y1 y2 y3 y4 y5 y6 y7 y8) (impl_RuleOk.l1 (k + 1) y0 y1 y2 y3 y4 y5 y6 y7 y8))
  | 0 => ⟨fun _ _ _ _ _ r h => by simp [impl_RuleOk.l0] at h, fun _ _ _ _ _ _ _ _ _ r h => by simp [impl_RuleOk.l1] at h⟩
  | k + 1 => by
    obtain ⟨ih0, ih1⟩ := impl_RuleOk.mono_l k
    refine ⟨?_, ?_⟩
    · intro y0 y1 y2 y3 y4
      unfold impl_RuleOk.l0
      repeat' first
      | (with_reducible exact ih0 _ _ _ _ _)
      | (with_reducible exact ih1 _ _ _ _ _ _ _ _ _)
      | (with_reducible exact LeO.refl _)
      | (with_reducible exact LeO.none _)
      | (with_reducible refine LeO.ite ?_ ?_)
      | (with_reducible refine LeO.bind ?_ (fun _ => ?_))
      | exact ih0 _ _ _ _ _
      | exact ih1 _ _ _ _ _ _ _ _ _
      | exact LeO.none _
      | refine LeO.ite ?_ ?_
      | refine LeO.bind ?_ (fun _ => ?_)
    · intro y0 y1 y2 y3 y4 y5 y6 y7 y8
      unfold impl_RuleOk.l1
      repeat' first
      | (with_reducible exact ih0 _ _ _ _ _)
      | (with_reducible exact ih1 _ _ _ _ _ _ _ _ _)
      | (with_reducible exact LeO.refl _)
      | (with_reducible exact LeO.none _)
      | (with_reducible refine LeO.ite ?_ ?_)
      | (with_reducible refine LeO.bind ?_ (fun _ => ?_))
      | exact ih0 _ _ _ _ _
      | exact ih1 _ _ _ _ _ _ _ _ _
      | exact LeO.none _
      | refine LeO.ite ?_ ?_
      | refine LeO.bind ?_ (fun _ => ?_)
theorem impl_RuleOk.mono : ∀ a0 a1 k, LeO (impl_RuleOk.f k a0 a1) (impl_RuleOk.f (k + 1) a0 a1) := by
  intro a0 a1 k
  obtain ⟨ih0, ih1⟩ := impl_RuleOk.mono_l k
  unfold impl_RuleOk.f
  repeat' first
      | (with_reducible exact ih0 _ _ _ _ _)
      | (with_reducible exact ih1 _ _ _ _ _ _ _ _ _)
      | (with_reducible exact LeO.refl _)
      | (with_reducible exact LeO.none _)
      | (with_reducible refine LeO.ite ?_ ?_)
      | (with_reducible refine LeO.bind ?_ (fun _ => ?_))
      | exact ih0 _ _ _ _ _
      | exact ih1 _ _ _ _ _ _ _ _ _
      | exact LeO.none _
      | refine LeO.ite ?_ ?_
      | refine LeO.bind ?_ (fun _ => ?_)
set_option maxHeartbeats 8000000 in
set_option maxRecDepth 100000 in
theorem impl_RuleOk.calls (k : Nat) (a0 : Int) (A1 : Option Addr) (c1 : Nat) (l1 : List (List Int)) (r : Bool) (w : World) (hr1 : Kd.C (Kd.slice 3 (Kd.int .i64)) w A1 l1.length l1) (hc1 : l1.length ≤ c1) (h : impl_RuleOk.f k a0 l1 = some r) :
    Calls Try.prog 90 #[.int .i64 a0, .slice A1 l1.length c1] w fun e w' => e = .returned (.bool r) ∧ Drawn0 w w' := by
  have HR1 := Aside0.mk hr1
  have HC1 := Aside0.mk hc1
  clear hr1 hc1
  have H : (impl_RuleOk.l0 k a0 l1 l1 (l1.length : Int) 0) = some r := h
  clear h
  have H' := Aside0.mk H
  clear H
  go_enter Try.func90, Try.ntmps90
  go_wp2
  go_loopg [11] k (fun kq v11 w' => ∃ (x11_1 : Int), v11 = .int .i64 x11_1 ∧ Aside0 (impl_RuleOk.l0 kq a0 l1 l1 (l1.length : Int) x11_1 = some r) ∧ Aside0 (kq ≤ k) ∧ Drawn0 w w')
  case atStart => exact ⟨(0), (by first | rfl | (simp; done) | (simp [*]; done)), H', ⟨Nat.le_refl _⟩, by repeat (first | exact Drawn0.refl _ | apply Drawn0.step)⟩
  case round =>
    clear H'
    try clear c1
    try clear p2
    obtain ⟨x11_1, rfl, HA, HK1, ⟨m1, rfl⟩⟩ := hrel
    cases gk with
    | zero => exact absurd HA.out (by simp [impl_RuleOk.l0])
    | succ k1 =>
      have H := HA.out
      clear HA
      simp only [impl_RuleOk.l0] at H
      by_cases c3 : x11_1 < (l1.length : Int)
      · rw [if_pos c3] at H
        have c3b0 : decide (x11_1 < (l1.length : Int)) = true := decide_eq_true c3
        clear c3
        by_cases c4 : 0 ≤ x11_1
        · rw [if_pos c4] at H
          have c4b0 : decide (0 ≤ x11_1) = true := decide_eq_true c4
          clear c4
          by_cases c5 : x11_1 < (l1.length : Int)
          · rw [if_pos c5] at H
            have c5b0 : decide (x11_1 < (l1.length : Int)) = true := decide_eq_true c5
            clear c5
            by_cases c6 : ((rd_L2 l1 x11_1).length : Int) = a0
            · rw [if_pos c6] at H
              have c6b0 : (((rd_L2 l1 x11_1).length : Int) == a0) = true := beq_iff_eq.mpr c6
              have c6b1 : (((rd_L2 l1 x11_1).length : Int) != a0) = false := bne_eq_false_iff_eq.mpr c6
              clear c6
              have H' := Aside0.mk H
              clear H
              have p251 : 0 ≤ (x11_1 : Int) := of_decide_eq_true (by first | (with_reducible assumption) | assumption)
              have q251 : x11_1 < (l1.length : Int) := of_decide_eq_true (by first | (with_reducible assumption) | assumption)
              obtain ⟨ad251, A251_0, c251_0, e251, hx251_0, hl251_0, hi251_0⟩ := at_L2 HR1.out x11_1 p251 q251
              cases e251
              have HR251_0 := Aside0.mk hi251_0
              have HC251_0 := Aside0.mk hl251_0
              clear hi251_0 hl251_0
              replace p251 := eq_true p251
              replace q251 := eq_true q251
              go_wp2
              go_loopg [22] k1 (fun kq v22 w' => ∃ (x22_2 : Int), v22 = .int .i64 x22_2 ∧ Aside0 (impl_RuleOk.l1 kq a0 l1 x11_1 l1 (l1.length : Int) x11_1 (rd_L2 l1 x11_1) ((rd_L2 l1 x11_1).length : Int) x22_2 = some r) ∧ Aside0 (kq ≤ k1) ∧ Drawn0 w w')
              case atStart => exact ⟨(0), (by first | rfl | (simp; done) | (simp [*]; done)), H', ⟨Nat.le_refl _⟩, by repeat (first | exact Drawn0.refl _ | apply Drawn0.step)⟩
              case round =>
                clear H'
                try clear c1
                try clear c2
                try clear p2
                try clear q2
                try clear hx2
                try clear c3
                try clear c3b0
                try clear c4
                try clear c4b0
                try clear c5
                try clear c5b0
                try clear c6
                try clear c6b0
                try clear c6b1
                try clear hx251_0
                try clear p2
                try clear p251
                try clear q251
                obtain ⟨x22_2, rfl, HA, HK2, ⟨m2, rfl⟩⟩ := hrel
                cases gk with
                | zero => exact absurd HA.out (by simp [impl_RuleOk.l1])
                | succ k2 =>
                  have H := HA.out
                  clear HA
                  simp only [impl_RuleOk.l1] at H
                  by_cases c7 : x22_2 < ((rd_L2 l1 x11_1).length : Int)
                  · rw [if_pos c7] at H
                    have c7b0 : decide (x22_2 < ((rd_L2 l1 x11_1).length : Int)) = true := decide_eq_true c7
                    clear c7
                    by_cases c8 : 0 ≤ x22_2
                    · rw [if_pos c8] at H
                      have c8b0 : decide (0 ≤ x22_2) = true := decide_eq_true c8
                      clear c8
                      by_cases c9 : x22_2 < ((rd_L2 l1 x11_1).length : Int)
                      · rw [if_pos c9] at H
                        have c9b0 : decide (x22_2 < ((rd_L2 l1 x11_1).length : Int)) = true := decide_eq_true c9
                        clear c9
                        by_cases c10 : (rd (rd_L2 l1 x11_1) x22_2) > 3
                        · rw [if_pos c10] at H
                          have c10b0 : decide (3 < (rd (rd_L2 l1 x11_1) x22_2)) = true := decide_eq_true c10
                          clear c10
                          obtain rfl := Option.some.inj H
                          have p252 : 0 ≤ (x22_2 : Int) := of_decide_eq_true (by first | (with_reducible assumption) | assumption)
                          have q252 : x22_2 < ((rd_L2 l1 x11_1).length : Int) := of_decide_eq_true (by first | (with_reducible assumption) | assumption)
                          obtain ⟨ad252, e252, hx252_0⟩ := Kd.at_int HR251_0.out x22_2 p252 q252
                          cases e252
                          replace p252 := eq_true p252
                          replace q252 := eq_true q252
                          go_wp2
                          go_ret
                          exact ⟨by first | rfl | (simp; done) | (simp [*]; done), by repeat (first | exact Drawn0.refl _ | apply Drawn0.step)⟩
                        · rw [if_neg c10] at H
                          have c10b0 : decide (3 < (rd (rd_L2 l1 x11_1) x22_2)) = false := decide_eq_false c10
                          clear c10
                          by_cases c11 : (rd (rd_L2 l1 x11_1) x22_2) < (-1)
                          · rw [if_pos c11] at H
                            have c11b0 : decide ((rd (rd_L2 l1 x11_1) x22_2) < (-1)) = true := decide_eq_true c11
                            clear c11
                            obtain rfl := Option.some.inj H
                            have p252 : 0 ≤ (x22_2 : Int) := of_decide_eq_true (by first | (with_reducible assumption) | assumption)
                            have q252 : x22_2 < ((rd_L2 l1 x11_1).length : Int) := of_decide_eq_true (by first | (with_reducible assumption) | assumption)
                            obtain ⟨ad252, e252, hx252_0⟩ := Kd.at_int HR251_0.out x22_2 p252 q252
                            cases e252
                            replace p252 := eq_true p252
                            replace q252 := eq_true q252
                            go_wp2
                            go_ret
                            exact ⟨by first | rfl | (simp; done) | (simp [*]; done), by repeat (first | exact Drawn0.refl _ | apply Drawn0.step)⟩
                          · rw [if_neg c11] at H
                            have c11b0 : decide ((rd (rd_L2 l1 x11_1) x22_2) < (-1)) = false := decide_eq_false c11
                            clear c11
                            by_cases c12 : (rd (rd_L2 l1 x11_1) x22_2) = (-1)
                            · rw [if_pos c12] at H
                              have c12b0 : ((rd (rd_L2 l1 x11_1) x22_2) == (-1)) = true := beq_iff_eq.mpr c12
                              have c12b1 : ((rd (rd_L2 l1 x11_1) x22_2) != (-1)) = false := bne_eq_false_iff_eq.mpr c12
                              clear c12
                              by_cases c13 : x11_1 = x22_2
                              · rw [if_pos c13] at H
                                have c13b0 : (x11_1 == x22_2) = true := beq_iff_eq.mpr c13
                                have c13b1 : (x11_1 != x22_2) = false := bne_eq_false_iff_eq.mpr c13
                                clear c13
                                have H' := Aside0.mk H
                                clear H
                                have p252 : 0 ≤ (x22_2 : Int) := of_decide_eq_true (by first | (with_reducible assumption) | assumption)
                                have q252 : x22_2 < ((rd_L2 l1 x11_1).length : Int) := of_decide_eq_true (by first | (with_reducible assumption) | assumption)
                                obtain ⟨ad252, e252, hx252_0⟩ := Kd.at_int HR251_0.out x22_2 p252 q252
                                cases e252
                                replace p252 := eq_true p252
                                replace q252 := eq_true q252
                                go_wp2
                                go_roundg k2
                                case measure => have := HK1.out; have := HK2.out; omega
                                case rel => exact ⟨(wrap64 (x22_2 + 1)), (by first | rfl | (simp; done) | (simp [*]; done)), H', ⟨by have := HK1.out; have := HK2.out; omega⟩, by repeat (first | exact Drawn0.refl _ | apply Drawn0.step)⟩
                              · rw [if_neg c13] at H
                                have c13b0 : (x11_1 == x22_2) = false := beq_eq_false_iff_ne.mpr c13
                                have c13b1 : (x11_1 != x22_2) = true := bne_iff_ne.mpr c13
                                obtain rfl := Option.some.inj H
                                have p252 : 0 ≤ (x22_2 : Int) := of_decide_eq_true (by first | (with_reducible assumption) | assumption)
                                have q252 : x22_2 < ((rd_L2 l1 x11_1).length : Int) := of_decide_eq_true (by first | (with_reducible assumption) | assumption)
                                obtain ⟨ad252, e252, hx252_0⟩ := Kd.at_int HR251_0.out x22_2 p252 q252
                                cases e252
                                replace p252 := eq_true p252
                                replace q252 := eq_true q252
                                go_wp2
                                go_ret
                                exact ⟨by first | rfl | (simp; done) | (simp [*]; done), by repeat (first | exact Drawn0.refl _ | apply Drawn0.step)⟩
                            · rw [if_neg c12] at H
                              have c12b0 : ((rd (rd_L2 l1 x11_1) x22_2) == (-1)) = false := beq_eq_false_iff_ne.mpr c12
                              have c12b1 : ((rd (rd_L2 l1 x11_1) x22_2) != (-1)) = true := bne_iff_ne.mpr c12
                              have H' := Aside0.mk H
                              clear H
                              have p252 : 0 ≤ (x22_2 : Int) := of_decide_eq_true (by first | (with_reducible assumption) | assumption)
                              have q252 : x22_2 < ((rd_L2 l1 x11_1).length : Int) := of_decide_eq_true (by first | (with_reducible assumption) | assumption)
                              obtain ⟨ad252, e252, hx252_0⟩ := Kd.at_int HR251_0.out x22_2 p252 q252
                              cases e252
                              replace p252 := eq_true p252
                              replace q252 := eq_true q252
                              go_wp2
                              go_roundg k2
                              case measure => have := HK1.out; have := HK2.out; omega
                              case rel => exact ⟨(wrap64 (x22_2 + 1)), (by first | rfl | (simp; done) | (simp [*]; done)), H', ⟨by have := HK1.out; have := HK2.out; omega⟩, by repeat (first | exact Drawn0.refl _ | apply Drawn0.step)⟩
                      · rw [if_neg c9] at H
                        exact absurd H (by simp)
                    · rw [if_neg c8] at H
                      exact absurd H (by simp)
                  · rw [if_neg c7] at H
                    have c7b0 : decide (x22_2 < ((rd_L2 l1 x11_1).length : Int)) = false := decide_eq_false c7
                    clear c7
                    have H' := Aside0.mk H
                    clear H
                    go_wp2
                    go_roundg k2
                    case measure => have := HK1.out; have := HK2.out; omega
                    case rel => exact ⟨(wrap64 (x11_1 + 1)), (by first | rfl | (simp; done) | (simp [*]; done)), H', ⟨by have := HK1.out; have := HK2.out; omega⟩, by repeat (first | exact Drawn0.refl _ | apply Drawn0.step)⟩
            · rw [if_neg c6] at H
              have c6b0 : (((rd_L2 l1 x11_1).length : Int) == a0) = false := beq_eq_false_iff_ne.mpr c6
              have c6b1 : (((rd_L2 l1 x11_1).length : Int) != a0) = true := bne_iff_ne.mpr c6
              obtain rfl := Option.some.inj H
              have p251 : 0 ≤ (x11_1 : Int) := of_decide_eq_true (by first | (with_reducible assumption) | assumption)
              have q251 : x11_1 < (l1.length : Int) := of_decide_eq_true (by first | (with_reducible assumption) | assumption)
              obtain ⟨ad251, A251_0, c251_0, e251, hx251_0, hl251_0, hi251_0⟩ := at_L2 HR1.out x11_1 p251 q251
              cases e251
              have HR251_0 := Aside0.mk hi251_0
              have HC251_0 := Aside0.mk hl251_0
              clear hi251_0 hl251_0
              replace p251 := eq_true p251
              replace q251 := eq_true q251
              go_wp2
              go_ret
              exact ⟨by first | rfl | (simp; done) | (simp [*]; done), by repeat (first | exact Drawn0.refl _ | apply Drawn0.step)⟩
          · rw [if_neg c5] at H
            exact absurd H (by simp)
        · rw [if_neg c4] at H
          exact absurd H (by simp)
      · rw [if_neg c3] at H
        have c3b0 : decide (x11_1 < (l1.length : Int)) = false := decide_eq_false c3
        clear c3
        replace H := Option.bind_eq_some_iff.mp H
        obtain ⟨t250, A140, H⟩ := H
        replace H : (if t250 = true then (some ((l1.length : Int) == a0)) else (some false)) = some r := H
        have A14 := Aside0.mk A140
        clear A140
        by_cases c15 : t250 = true
        · subst c15
          have H1 : (some ((l1.length : Int) == a0)) = some r := by rw [if_pos rfl] at H; exact H
          clear H
          have H := H1
          clear H1
          obtain rfl := Option.some.inj H
          go_wp2_with (first | ((with_reducible refine gate_callee (f := 65) rfl ?_); refine goesL_ (some 45) rfl rfl Try.func65 (by kernel_rfl) rfl #[.int .i64 a0] rfl (by (try simp only [List.map_toArray, List.map_cons, List.map_nil]); first | done | rfl | (simp only [List.length_drop, List.length_take]; rfl)) ?_; (with_reducible refine (impl_coloursOk.calls a0 true _ A14.out).mono ?_); rintro e w' ⟨rfl, ⟨nd, rfl⟩⟩; refine ⟨_, rfl, ?_⟩))
          go_ret
          exact ⟨by first | rfl | (simp; done) | (simp [*]; done), by repeat (first | exact Drawn0.refl _ | apply Drawn0.step)⟩
        · replace c15 := Bool.eq_false_iff.mpr c15
          subst c15
          have H1 : (some false) = some r := by rw [if_neg (show ¬ (false = true) by decide)] at H; exact H
          clear H
          have H := H1
          clear H1
          obtain rfl := Option.some.inj H
          go_wp2_with (first | ((with_reducible refine gate_callee (f := 65) rfl ?_); refine goesL_ (some 45) rfl rfl Try.func65 (by kernel_rfl) rfl #[.int .i64 a0] rfl (by (try simp only [List.map_toArray, List.map_cons, List.map_nil]); first | done | rfl | (simp only [List.length_drop, List.length_take]; rfl)) ?_; (with_reducible refine (impl_coloursOk.calls a0 false _ A14.out).mono ?_); rintro e w' ⟨rfl, ⟨nd, rfl⟩⟩; refine ⟨_, rfl, ?_⟩))
          go_ret
          exact ⟨by first | rfl | (simp; done) | (simp [*]; done), by repeat (first | exact Drawn0.refl _ | apply Drawn0.step)⟩

/-! ### impl_ruleAsked: function 67 -/
def impl_ruleAsked.f (k : Nat) (l0 : List Int) (l1 : List (List Int)) : Option (Bool) := (impl_StartOk.f k l0).bind fun t253 => (if t253 = true then ((impl_RuleOk.f k (l0.length : Int) l1).bind fun t254 => (some t254)) else (some false))
theorem impl_ruleAsked.mono : ∀ a0 a1 k, LeO (impl_ruleAsked.f k a0 a1) (impl_ruleAsked.f (k + 1) a0 a1) := by
  intro a0 a1 k
  unfold impl_ruleAsked.f
  repeat' first
      | (with_reducible exact impl_RuleOk.mono _ _ _)
      | (with_reducible exact impl_StartOk.mono _ _)
      | (with_reducible exact LeO.refl _)
      | (with_reducible exact LeO.none _)
      | (with_reducible refine LeO.ite ?_ ?_)
      | (with_reducible refine LeO.bind ?_ (fun _ => ?_))
      | exact impl_RuleOk.mono _ _ _
      | exact impl_StartOk.mono _ _
      | exact LeO.none _
      | refine LeO.ite ?_ ?_
      | refine LeO.bind ?_ (fun _ => ?_)
set_option maxHeartbeats 8000000 in
set_option maxRecDepth 100000 in
theorem impl_ruleAsked.calls (k : Nat) (A0 : Option Addr) (c0 : Nat) (l0 : List Int) (A1 : Option Addr) (c1 : Nat) (l1 : List (List Int)) (r : Bool) (w : World) (hr0 : Kd.C (Kd.int .i64) w A0 l0.length l0) (hc0 : l0.length ≤ c0) (hr1 : Kd.C (Kd.slice 3 (Kd.int .i64)) w A1 l1.length l1) (hc1 : l1.length ≤ c1) (h : impl_ruleAsked.f k l0 l1 = some r) :
    Calls Try.prog 67 #[.slice A0 l0.length c0, .slice A1 l1.length c1] w fun e w' => e = .returned (.bool r) ∧ Drawn0 w w' := by
  have HR0 := Aside0.mk hr0
  have HC0 := Aside0.mk hc0
  clear hr0 hc0
  have HR1 := Aside0.mk hr1
  have HC1 := Aside0.mk hc1
  clear hr1 hc1
  have H : ((impl_StartOk.f k l0).bind fun t253 => (if t253 = true then ((impl_RuleOk.f k (l0.length : Int) l1).bind fun t254 => (some t254)) else (some false))) = some r := h
  clear h
  replace H := Option.bind_eq_some_iff.mp H
  obtain ⟨t253, A30, H⟩ := H
  replace H : (if t253 = true then ((impl_RuleOk.f k (l0.length : Int) l1).bind fun t254 => (some t254)) else (some false)) = some r := H
  have A3 := Aside0.mk A30
  clear A30
  by_cases c4 : t253 = true
  · subst c4
    have H1 : ((impl_RuleOk.f k (l0.length : Int) l1).bind fun t254 => (some t254)) = some r := by rw [if_pos rfl] at H; exact H
    clear H
    have H := H1
    clear H1
    replace H := Option.bind_eq_some_iff.mp H
    obtain ⟨t254, A50, H⟩ := H
    replace H : (some t254) = some r := H
    have A5 := Aside0.mk A50
    clear A50
    obtain rfl := Option.some.inj H
    go_enter Try.func67, Try.ntmps67
    go_wp2_with (first | ((with_reducible refine gate_callee (f := 55) rfl ?_); refine goesL_ (some 6) rfl rfl Try.func55 (by kernel_rfl) rfl #[.slice A0 l0.length c0] rfl (by (try simp only [List.map_toArray, List.map_cons, List.map_nil]); first | done | rfl | (simp only [List.length_drop, List.length_take]; rfl)) ?_; (with_reducible refine (impl_StartOk.calls k _ _ l0 true _ ?side1 ?side2 A3.out).mono ?_); (case side1 => repeat (first | exact HR0.out | (with_reducible refine Kd.C_alloc ?_ _) | (with_reducible refine Kd.C_drewN ?_ _) | (with_reducible refine Kd.C_drew ?_))); (case side2 => exact HC0.out); rintro e w' ⟨rfl, ⟨nd, rfl⟩⟩; refine ⟨_, rfl, ?_⟩) | (go_at_call 90; (with_reducible refine (impl_RuleOk.calls k (l0.length : Int) _ _ l1 t254 _ ?side1 ?side2 A5.out).mono ?_); (case side1 => repeat (first | exact HR1.out | (with_reducible refine Kd.C_alloc ?_ _) | (with_reducible refine Kd.C_drewN ?_ _) | (with_reducible refine Kd.C_drew ?_))); (case side2 => exact HC1.out); rintro e w' ⟨rfl, ⟨nd, rfl⟩⟩))
    go_ret
    exact ⟨by first | rfl | (simp; done) | (simp [*]; done), by repeat (first | exact Drawn0.refl _ | apply Drawn0.step)⟩
  · replace c4 := Bool.eq_false_iff.mpr c4
    subst c4
    have H1 : (some false) = some r := by rw [if_neg (show ¬ (false = true) by decide)] at H; exact H
    clear H
    have H := H1
    clear H1
    obtain rfl := Option.some.inj H
    go_enter Try.func67, Try.ntmps67
    go_wp2_with (first | ((with_reducible refine gate_callee (f := 55) rfl ?_); refine goesL_ (some 6) rfl rfl Try.func55 (by kernel_rfl) rfl #[.slice A0 l0.length c0] rfl (by (try simp only [List.map_toArray, List.map_cons, List.map_nil]); first | done | rfl | (simp only [List.length_drop, List.length_take]; rfl)) ?_; (with_reducible refine (impl_StartOk.calls k _ _ l0 false _ ?side1 ?side2 A3.out).mono ?_); (case side1 => repeat (first | exact HR0.out | (with_reducible refine Kd.C_alloc ?_ _) | (with_reducible refine Kd.C_drewN ?_ _) | (with_reducible refine Kd.C_drew ?_))); (case side2 => exact HC0.out); rintro e w' ⟨rfl, ⟨nd, rfl⟩⟩; refine ⟨_, rfl, ?_⟩))
    go_ret
    exact ⟨by first | rfl | (simp; done) | (simp [*]; done), by repeat (first | exact Drawn0.refl _ | apply Drawn0.step)⟩

-- NOT PRINTED: function 72 (impl_RuleAll_1)

/-- What RuleAll's and SameCounts' own functions do with a word. -/
def sumF (k : Nat) (urn : List Int) (rule : List (List Int)) (a : Int) (q : List Int) : Option Int := (impl_ruleWays.f k urn rule q).bind fun x => some (wrap64 (a + x))
theorem sumF_mono (k : Nat) (urn : List Int) (rule : List (List Int)) (a : Int) (q : List Int) : LeO (sumF k urn rule a q) (sumF (k + 1) urn rule a q) := LeO.bind (impl_ruleWays.mono _ _ _ _) fun x => LeO.refl _
set_option maxHeartbeats 4000000 in
set_option maxRecDepth 100000 in
theorem sum_tells72 (k : Nat) (w00 w01 w1 : World) (g Bu Br : Nat) (Au : Option Addr) (cu : Nat) (urn : List Int) (Ar : Option Addr) (cr : Nat) (rule : List (List Int)) (hC : Kd.C (Kd.int .i64) w00 Au urn.length urn) (hc : urn.length ≤ cu)
    (hR : Kd.C (Kd.slice 3 (Kd.int .i64)) w01 Ar rule.length rule) (hcr : rule.length ≤ cr) (hB : Below w00.heap.size w00 w1) (hB1 : Below w01.heap.size w01 w1) (hg0 : w00.heap.size ≤ g) (hg1 : w01.heap.size ≤ g)
    (hbu : w1.heap[Bu]? = some (.cells #[.slice Au urn.length cu] 23 (0, 0))) (hbr : w1.heap[Br]? = some (.cells #[.slice Ar rule.length cr] 28 (0, 0))) (h1 : Bu ≠ g) (h2 : Br ≠ g) :
    Tells 72 #[.pointer (some ⟨g, 0, none⟩), .pointer (some ⟨Bu, 0, none⟩), .pointer (some ⟨Br, 0, none⟩)] w1 g (sumF k urn rule) := by
  intro W a a' Aq cq q hA hq hcq hf
  unfold sumF at hf
  obtain ⟨x, e1, hf⟩ := Option.bind_eq_some_iff.mp hf
  obtain rfl := Option.some.inj hf
  have cU := cell_of_one (hA.stay.keep hbu h1)
  have cR := cell_of_one (hA.stay.keep hbr h2)
  have cN := cell_of_one hA.now
  have fN := free_of_one hA.now
  have HA := Aside0.mk hA
  have HQ := Aside0.mk hq
  have HU := Aside0.mk (Kd.C_below hC (hA.stay.toBelow hB hg0))
  have HR := Aside0.mk (Kd.C_below hR (hA.stay.toBelow hB1 hg1))
  have E1 := Aside0.mk e1
  clear hA hq e1 hC hR hbu hbr hB hB1 hf
  show Calls Try.prog 72 #[.slice Aq q.length cq, .pointer (some ⟨g, 0, none⟩), .pointer (some ⟨Bu, 0, none⟩), .pointer (some ⟨Br, 0, none⟩)] W _
  go_enter Try.func72, Try.ntmps72
  go_wp2_with (fail)
  go_region_with (go_at_call 59; refine (impl_ruleWays.calls k Au cu urn Ar cr rule Aq cq q x _ (by first | exact HU.out | exact Kd.C_drew HU.out | exact Kd.C_drewN HU.out _) hc (by first | exact HR.out | exact Kd.C_drew HR.out | exact Kd.C_drewN HR.out _) hcr (by first | exact HQ.out | exact Kd.C_drew HQ.out | exact Kd.C_drewN HQ.out _) hcq E1.out).mono ?_; rintro e w2 ⟨rfl, hB2⟩; have cN2 := cell_of_one (((below_undrew hB2).block g (lt_of_block HA.out.now)).trans HA.out.now); have fN2 := free_of_one (((below_undrew hB2).block g (lt_of_block HA.out.now)).trans HA.out.now); have HB2 := Aside0.mk hB2; clear hB2)
  all_goals
    have e : IntKind.i64.wrap (a + x) = wrap64 (a + x) := by simp only [IntKind.wrap_i64, wrap64]
    have hS := ((Stay.refl W g).below (below_undrew HB2.out)).far ⟨g, 0, none⟩ (.int .i64 (wrap64 (a + x))) (.inl rfl)
    have hN := one_setCell (u := .int .i64 (wrap64 (a + x))) (((below_undrew HB2.out).block g (lt_of_block HA.out.now)).trans HA.out.now)
    go_end0
    rw [e]
    exact ⟨rfl, hS, hN⟩
def impl_RuleAll.f (k : Nat) (l0 : List Int) (l1 : List (List Int)) (a2 : Int) : Option (Int) := (impl_ruleAsked.f k l0 l1).bind fun t1 => (if t1 = true then (if a2 < 0 then some (-1) else (if a2 > 6 then some (-1) else (if l0.length ≤ 3 then tellAll (sumF k l0 l1) 0 (allW l0.length a2.toNat) else none))) else some (-1))
theorem impl_RuleAll.mono : ∀ a0 a1 a2 k, LeO (impl_RuleAll.f k a0 a1 a2) (impl_RuleAll.f (k + 1) a0 a1 a2) := fun a0 a1 a2 k =>
  LeO.bind (impl_ruleAsked.mono _ _ _) fun t1 => LeO.ite (LeO.ite (LeO.refl _) (LeO.ite (LeO.refl _) (LeO.ite (tellAll_mono (fun a q => sumF_mono k a0 a1 a q) _ _) (LeO.refl _)))) (LeO.refl _)
theorem all_with (k : Nat) (w w0 : World) (g Bu Br m : Nat) (A0 : Option Addr) (c0 : Nat) (l0 : List Int) (A1 : Option Addr) (c1 : Nat) (l1 : List (List Int)) (r : Int) (hr0 : Kd.C (Kd.int .i64) w A0 l0.length l0) (hc0 : l0.length ≤ c0) (hr1 : Kd.C (Kd.slice 3 (Kd.int .i64)) w A1 l1.length l1) (hc1 : l1.length ≤ c1)
    (hn : m ≤ 6) (hcol : l0.length ≤ 3) (hf : tellAll (sumF k l0 l1) 0 (allW l0.length m) = some r) (hg0 : w.heap.size ≤ g) (h1 : Bu ≠ g) (h2 : Br ≠ g)
    (hB : Below w.heap.size w w0) (hbu : w0.heap[Bu]? = some (.cells #[.slice A0 l0.length c0] 23 (0, 0))) (hbr : w0.heap[Br]? = some (.cells #[.slice A1 l1.length c1] 28 (0, 0))) (hg : w0.heap[g]? = some (.cells #[.int .i64 0] 3 (0, 0))) :
    Calls Try.prog 71 #[.int .i64 (l0.length : Int), .int .i64 (m : Int), .func (.func 72) #[] #[.pointer (some ⟨g, 0, none⟩), .pointer (some ⟨Bu, 0, none⟩), .pointer (some ⟨Br, 0, none⟩)]] w0 fun e W' => e = .returned (.tuple #[]) ∧ Stay w0 W' g ∧ W'.heap[g]? = some (.cells #[.int .i64 r] 3 (0, 0)) :=
  words_any w0 g m l0.length 72 _ (sumF k l0 l1) 0 r (enters 72 _ _ Try.func72 (by kernel_rfl) rfl)
    (sum_tells72 k w w w0 g Bu Br A0 c0 l0 A1 c1 l1 hr0 hc0 hr1 hc1 hB hB hg0 hg0 hbu hbr h1 h2) hn hcol hg hf
set_option maxHeartbeats 8000000 in
set_option maxRecDepth 100000 in
theorem impl_RuleAll.calls (k : Nat) (A0 : Option Addr) (c0 : Nat) (l0 : List Int) (A1 : Option Addr) (c1 : Nat) (l1 : List (List Int)) (a2 : Int) (r : Int) (w : World) (hr0 : Kd.C (Kd.int .i64) w A0 l0.length l0) (hc0 : l0.length ≤ c0) (hr1 : Kd.C (Kd.slice 3 (Kd.int .i64)) w A1 l1.length l1) (hc1 : l1.length ≤ c1) (h : impl_RuleAll.f k l0 l1 a2 = some r) :
    Calls Try.prog 26 #[.slice A0 l0.length c0, .slice A1 l1.length c1, .int .i64 a2] w fun e w' => e = .returned (.int .i64 r) ∧ Below w.heap.size w w' := by
  unfold impl_RuleAll.f at h
  obtain ⟨t1, e1, h⟩ := Option.bind_eq_some_iff.mp h
  have E1 := Aside0.mk e1
  have HU := Aside0.mk hr0
  have HV := Aside0.mk hr1
  clear e1
  cases t1 with
  | false =>
    obtain rfl : (-1 : Int) = r := by simpa using h
    clear h hr0 hr1
    go_enter Try.func26, Try.ntmps26
    go_wp2_with (first | (go_at_call 67; refine (impl_ruleAsked.calls k A0 c0 l0 A1 c1 l1 false _ (by repeat (first | exact HU.out | refine Kd.C_drewN ?_ _ | refine Kd.C_alloc ?_ _)) hc0 (by repeat (first | exact HV.out | refine Kd.C_drewN ?_ _ | refine Kd.C_alloc ?_ _)) hc1 E1.out).mono ?_; rintro e w2 ⟨rfl, hD⟩; obtain ⟨nd, rfl⟩ := hD.out; clear hD))
    go_ret
    exact ⟨rfl, by repeat (first | exact Below.refl _ _ | apply pw_below_drewN | apply below_drew | apply below_alloc)⟩
  | true =>
    simp only [if_true] at h
    by_cases c2 : a2 < 0
    · rw [if_pos c2] at h
      obtain rfl := Option.some.inj h
      have d2 : decide (a2 < 0) = true := decide_eq_true c2
      clear h hr0 hr1 c2
      go_enter Try.func26, Try.ntmps26
      go_wp2_with (first | (go_at_call 67; refine (impl_ruleAsked.calls k A0 c0 l0 A1 c1 l1 true _ (by repeat (first | exact HU.out | refine Kd.C_drewN ?_ _ | refine Kd.C_alloc ?_ _)) hc0 (by repeat (first | exact HV.out | refine Kd.C_drewN ?_ _ | refine Kd.C_alloc ?_ _)) hc1 E1.out).mono ?_; rintro e w2 ⟨rfl, hD⟩; obtain ⟨nd, rfl⟩ := hD.out; clear hD))
      go_ret
      exact ⟨rfl, by repeat (first | exact Below.refl _ _ | apply pw_below_drewN | apply below_drew | apply below_alloc)⟩
    · rw [if_neg c2] at h
      have d2 : decide (a2 < 0) = false := decide_eq_false c2
      by_cases c3 : a2 > 6
      · rw [if_pos c3] at h
        obtain rfl := Option.some.inj h
        have d3 : decide (6 < a2) = true := decide_eq_true c3
        clear h hr0 hr1 c2 c3
        go_enter Try.func26, Try.ntmps26
        go_wp2_with (first | (go_at_call 67; refine (impl_ruleAsked.calls k A0 c0 l0 A1 c1 l1 true _ (by repeat (first | exact HU.out | refine Kd.C_drewN ?_ _ | refine Kd.C_alloc ?_ _)) hc0 (by repeat (first | exact HV.out | refine Kd.C_drewN ?_ _ | refine Kd.C_alloc ?_ _)) hc1 E1.out).mono ?_; rintro e w2 ⟨rfl, hD⟩; obtain ⟨nd, rfl⟩ := hD.out; clear hD))
        go_ret
        exact ⟨rfl, by repeat (first | exact Below.refl _ _ | apply pw_below_drewN | apply below_drew | apply below_alloc)⟩
      · rw [if_neg c3] at h
        by_cases hl : l0.length ≤ 3
        · rw [if_pos hl] at h
          obtain ⟨m, rfl⟩ := Int.eq_ofNat_of_zero_le (show 0 ≤ a2 by omega)
          rw [Int.toNat_natCast] at h
          have d3 : decide (6 < (m : Int)) = false := decide_eq_false c3
          have hw := fun w0 hB hbu hbr hg => all_with k w w0 (w.heap.size + 1 + 1) w.heap.size (w.heap.size + 1) m A0 c0 l0 A1 c1 l1 r hr0 hc0 hr1 hc1 (by omega) hl h (by omega) (by omega) (by omega) hB hbu hbr hg
          have h1 : (((w.alloc (.cells #[.slice A0 l0.length c0] 23)).alloc (.cells #[.slice A1 l1.length c1] 28)).alloc (.cells #[.int .i64 0] 3)).heap[w.heap.size]? = some (.cells #[.slice A0 l0.length c0] 23 (0, 0)) := by
            rw [alloc_at, if_neg (by simp; omega), alloc_at, if_neg (by simp), alloc_at, if_pos rfl]
          have h2 : (((w.alloc (.cells #[.slice A0 l0.length c0] 23)).alloc (.cells #[.slice A1 l1.length c1] 28)).alloc (.cells #[.int .i64 0] 3)).heap[w.heap.size + 1]? = some (.cells #[.slice A1 l1.length c1] 28 (0, 0)) := by
            rw [alloc_at, if_neg (by simp), alloc_at, if_pos (by simp)]
          have h3 : (((w.alloc (.cells #[.slice A0 l0.length c0] 23)).alloc (.cells #[.slice A1 l1.length c1] 28)).alloc (.cells #[.int .i64 0] 3)).heap[w.heap.size + 1 + 1]? = some (.cells #[.int .i64 0] 3 (0, 0)) := by
            rw [alloc_at, if_pos (by simp)]
          have HW := Aside0.mk hw
          have H1 := Aside0.mk h1
          have H2 := Aside0.mk h2
          have H3 := Aside0.mk h3
          clear hw h1 h2 h3 h hr0 hr1 hl c2 c3
          go_enter Try.func26, Try.ntmps26
          go_wp2_with (first | (go_at_call 67; refine (impl_ruleAsked.calls k A0 c0 l0 A1 c1 l1 true _ (by repeat (first | exact HU.out | refine Kd.C_drewN ?_ _ | refine Kd.C_alloc ?_ _)) hc0 (by repeat (first | exact HV.out | refine Kd.C_drewN ?_ _ | refine Kd.C_alloc ?_ _)) hc1 E1.out).mono ?_; rintro e w2 ⟨rfl, hD⟩; obtain ⟨nd, rfl⟩ := hD.out; clear hD) | (go_at_call 71; refine (HW.out _ (by repeat (first | exact Below.refl _ _ | apply pw_below_drewN | apply below_drew | apply below_alloc)) (by exact H1.out) (by exact H2.out) (by exact H3.out)).mono ?_; rintro e w4 ⟨rfl, q1, q2⟩; have cN4 := cell_of_one q2; have HQ1 := Aside0.mk q1; clear q1 q2))
          go_ret
          exact ⟨rfl, HQ1.out.toBelow (by repeat (first | exact Below.refl _ _ | apply pw_below_drewN | apply below_drew | apply below_alloc)) (by omega)⟩
        · rw [if_neg hl] at h
          cases h

end Go.Proofs.Ythpjeinjldfmjaa.QFnSameAll
