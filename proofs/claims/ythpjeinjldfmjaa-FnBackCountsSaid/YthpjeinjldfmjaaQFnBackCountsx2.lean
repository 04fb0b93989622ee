/- What the functions that the law FnBackCounts reaches come to, each with its proof; and the row of the law. -/
import Derived.Test.YthpjeinjldfmjaaQFnBackCountsx0
import Derived.Test.YthpjeinjldfmjaaQFnBackCountsx1
namespace Go.Proofs.Ythpjeinjldfmjaa.QFnBackCounts
open Go.RowKit Go.Proofs.YthpjeinjldfmjaaW.PrintWords Go.Proofs.YthpjeinjldfmjaaW.PrintLast Go.Proofs.YthpjeinjldfmjaaW.PrintMore
attribute [local go_sem] max2_int min2_int max_two min_two max_three min_three max_four min_four   -- for this text's walks alone
set_option linter.unusedVariables false
set_option linter.unusedSimpArgs false

/-! ### impl_CountsOf: function 46 -/
def impl_CountsOf.l0 : Nat → List Int → List Int → Int → Int → Option (List Int)
  | 0, _, _, _, _ => none
  | k + 1, x5, x14, x15, x16 => if x16 < x15 then (if 0 ≤ x16 then (if x16 < (x14.length : Int) then (if 0 ≤ (rd x14 x16) then (if (rd x14 x16) < (x5.length : Int) then (impl_CountsOf.l0 k (x5.set ((rd x14 x16) : Int).toNat (wrap64 ((rd x5 (rd x14 x16)) + 1))) x14 x15 (wrap64 (x16 + 1))) else (none)) else (none)) else (none)) else (none)) else (some x5)
def impl_CountsOf.f (k : Nat) (a0 : Int) (l1 : List Int) : Option (List Int) := (impl_WordOk.f k a0 l1).bind fun t116 => (if t116 = true then (if 0 ≤ a0 then (if (a0 : Int).toNat ≤ 35184372088832 then (impl_CountsOf.l0 k (List.replicate (a0 : Int).toNat 0) l1 (l1.length : Int) 0) else (none)) else (none)) else (some ([] : List Int)))
theorem impl_CountsOf.mono_l : ∀ k, (∀ y0 y1 y2 y3, LeO (impl_CountsOf.l0 k y0 y1 y2 y3) (impl_CountsOf.l0 (k + 1) y0 y1 y2 y3))
  | 0 => fun _ _ _ _ r h => by simp [impl_CountsOf.l0] at h
  | k + 1 => by
    have ih0 := impl_CountsOf.mono_l k
    · intro y0 y1 y2 y3
      unfold impl_CountsOf.l0
      repeat' first
      | (with_reducible exact ih0 _ _ _ _)
      | (with_reducible exact impl_WordOk.mono _ _ _)
      | (with_reducible exact LeO.refl _)
      | (with_reducible exact LeO.none _)
      | (with_reducible refine LeO.ite ?_ ?_)
      | (with_reducible refine LeO.bind ?_ (fun _ => ?_))
      | exact ih0 _ _ _ _
      | exact impl_WordOk.mono _ _ _
      | exact LeO.none _
      | refine LeO.ite ?_ ?_
      | refine LeO.bind ?_ (fun _ => ?_)
theorem impl_CountsOf.mono : ∀ a0 a1 k, LeO (impl_CountsOf.f k a0 a1) (impl_CountsOf.f (k + 1) a0 a1) := by
  intro a0 a1 k
  have ih0 := impl_CountsOf.mono_l k
  unfold impl_CountsOf.f
  repeat' first
      | (with_reducible exact ih0 _ _ _ _)
      | (with_reducible exact impl_WordOk.mono _ _ _)
      | (with_reducible exact LeO.refl _)
      | (with_reducible exact LeO.none _)
      | (with_reducible refine LeO.ite ?_ ?_)
      | (with_reducible refine LeO.bind ?_ (fun _ => ?_))
      | exact ih0 _ _ _ _
      | exact impl_WordOk.mono _ _ _
      | exact LeO.none _
      | refine LeO.ite ?_ ?_
      | refine LeO.bind ?_ (fun _ => ?_)
set_option maxHeartbeats 8000000 in
set_option maxRecDepth 100000 in
theorem impl_CountsOf.calls (k : Nat) (a0 : Int) (A1 : Option Addr) (c1 : Nat) (l1 : List Int) (r : List Int) (w : World) (hr1 : Kd.C (Kd.int .i64) w A1 l1.length l1) (hc1 : l1.length ≤ c1) (h : impl_CountsOf.f k a0 l1 = some r) :
    Calls Try.prog 46 #[.int .i64 a0, .slice A1 l1.length c1] w fun e w' => ∃ v0_ : Value, e = .returned (v0_) ∧ Kd.R (Kd.int .i64) 3 w' w.heap.size (fun _ => True) v0_ r ∧ Below w.heap.size w w' := by
  have HR1 := Aside0.mk hr1
  have HC1 := Aside0.mk hc1
  clear hr1 hc1
  have HB := Aside0.mk (Below.refl w.heap.size w)
  have H : ((impl_WordOk.f k a0 l1).bind fun t116 => (if t116 = true then (if 0 ≤ a0 then (if (a0 : Int).toNat ≤ 35184372088832 then (impl_CountsOf.l0 k (List.replicate (a0 : Int).toNat 0) l1 (l1.length : Int) 0) else (none)) else (none)) else (some ([] : List Int)))) = some r := h
  clear h
  replace H := Option.bind_eq_some_iff.mp H
  obtain ⟨t116, A30, H⟩ := H
  replace H : (if t116 = true then (if 0 ≤ a0 then (if (a0 : Int).toNat ≤ 35184372088832 then (impl_CountsOf.l0 k (List.replicate (a0 : Int).toNat 0) l1 (l1.length : Int) 0) else (none)) else (none)) else (some ([] : List Int))) = some r := H
  have A3 := Aside0.mk A30
  clear A30
  by_cases c4 : t116 = true
  · subst c4
    have H1 : (if 0 ≤ a0 then (if (a0 : Int).toNat ≤ 35184372088832 then (impl_CountsOf.l0 k (List.replicate (a0 : Int).toNat 0) l1 (l1.length : Int) 0) else (none)) else (none)) = some r := by rw [if_pos rfl] at H; exact H
    clear H
    have H := H1
    clear H1
    by_cases c5 : 0 ≤ a0
    · rw [if_pos c5] at H
      have c5b0 := eq_true c5
      have c5b1 : decide (0 ≤ a0) = true := decide_eq_true c5
      clear c5
      by_cases c6 : (a0 : Int).toNat ≤ 35184372088832
      · rw [if_pos c6] at H
        have c6b0 := eq_true c6
        have c6b1 : decide ((a0 : Int).toNat ≤ 35184372088832) = true := decide_eq_true c6
        clear c6
        obtain ⟨y117, hy117⟩ : ∃ y_ : List Int, y_ = (List.replicate (a0 : Int).toNat 0) := ⟨_, rfl⟩
        replace H : (impl_CountsOf.l0 k y117 l1 (l1.length : Int) 0) = some r := by first | (rw [hy117]; with_reducible exact H) | (have H2_ := (Option.bind_some _ _).symm.trans H; rw [hy117]; with_reducible exact H2_) | (have H2_ := (Option.bind_some _ _).symm.trans H; with_reducible exact H2_) | with_reducible exact H | (rw [hy117]; exact H) | exact H
        have Ny117 := Aside0.mk hy117
        clear hy117
        have H' := Aside0.mk H
        clear H
        go_enter Try.func46, Try.ntmps46
        go_wp2_with (first | ((with_reducible refine gate_callee (f := 68) rfl ?_); refine goesL_ (some 10) rfl rfl Try.func68 (by kernel_rfl) rfl #[.int .i64 a0, .slice A1 l1.length c1] rfl (by (try simp only [List.map_toArray, List.map_cons, List.map_nil]); first | done | rfl | (simp only [List.length_drop, List.length_take]; rfl)) ?_; (with_reducible refine (impl_WordOk.calls k a0 _ _ l1 true _ ?side1 ?side2 A3.out).mono ?_); (case side1 => repeat (first | exact HR1.out | (with_reducible refine Kd.C_alloc ?_ _) | (with_reducible refine Kd.C_drewN ?_ _) | (with_reducible refine Kd.C_drew ?_))); (case side2 => exact HC1.out); rintro e w' ⟨rfl, ⟨nd, rfl⟩⟩; refine ⟨_, rfl, ?_⟩) | ((with_reducible refine gate_dst (N := 13) rfl ?_); refine Kd.R_make (Kd.int .i64) _ 3 rfl (N := 13) rfl 23 _ _ rfl a0 rfl rfl Try.underlying23 (.int .i64 0) 8 info3 rfl (by decide) (by omega) 0 (ok := fun _ => True) (okp := fun _ => True) rfl (fun _ hk => hk) trivial (of_decide_eq_true (by first | (with_reducible assumption) | assumption)) (Nat.le_trans (Nat.mul_le_mul_right _ (of_decide_eq_true (by first | (with_reducible assumption) | assumption) : a0.toNat ≤ 35184372088832)) (by omega)) (Below.refl _ _) (Nat.le_refl _) ?_; intro v118 w7 ho8 hb hg_ hnew_; clear hg_ hnew_; (first | rw [← Ny117.out] at ho8 | (simp only [Int.reduceToNat] at ho8; rw [← Ny117.out] at ho8)); have n0_ := Aside0.mk (Kd.R_lower ho8 (below_size (by repeat (first | (with_reducible first | exact HB.out | apply below_alloc | apply pw_below_drewN | apply below_drew1) | exact HB.out)))); have n1_ := Aside0.mk (below_step (by repeat (first | (with_reducible first | exact HB.out | apply below_alloc | apply pw_below_drewN | apply below_drew1) | exact HB.out)) hb); clear HB; have HO119 := n0_; have HB := n1_; clear n0_ n1_; clear hb ho8))
        go_loopg [16] k (fun kq v16 w' => ∃ (x5_1 : List Int) (x16_1 : Int), v16 = .int .i64 x16_1 ∧ Aside0 (impl_CountsOf.l0 kq x5_1 l1 (l1.length : Int) x16_1 = some r) ∧ Aside0 (kq ≤ k) ∧ Aside0 (Kd.R (Kd.int .i64) 3 w' w.heap.size (fun _ => True) v118 x5_1) ∧ Aside0 (Below w.heap.size w w'))
        case atStart => exact ⟨(y117), (0), (by first | rfl | (simp; done) | (simp [*]; done)), H', ⟨Nat.le_refl _⟩, ⟨by (with_reducible repeat (first | apply Kd.R_alloc | apply Kd.R_drewN | apply Kd.R_drew)); exact HO119.out⟩, ⟨by repeat (first | (with_reducible first | exact HB.out | apply below_alloc | apply pw_below_drewN | apply below_drew1) | exact HB.out)⟩⟩
        case round =>
          clear H'
          try clear c1
          try clear p2
          try clear c4
          try clear c5
          try clear c5b0
          try clear c5b1
          try clear c6
          try clear c6b0
          try clear c6b1
          obtain ⟨x5_1, x16_1, rfl, HA, HK1, HO_5, HB⟩ := hrel
          cases gk with
          | zero => exact absurd HA.out (by simp [impl_CountsOf.l0])
          | succ k1 =>
            have H := HA.out
            clear HA
            simp only [impl_CountsOf.l0] at H
            by_cases c9 : x16_1 < (l1.length : Int)
            · rw [if_pos c9] at H
              have c9b0 : decide (x16_1 < (l1.length : Int)) = true := decide_eq_true c9
              clear c9
              by_cases c10 : 0 ≤ x16_1
              · rw [if_pos c10] at H
                have c10b0 : decide (0 ≤ x16_1) = true := decide_eq_true c10
                clear c10
                by_cases c11 : x16_1 < (l1.length : Int)
                · rw [if_pos c11] at H
                  have c11b0 : decide (x16_1 < (l1.length : Int)) = true := decide_eq_true c11
                  clear c11
                  by_cases c12 : 0 ≤ (rd l1 x16_1)
                  · rw [if_pos c12] at H
                    have c12b0 : decide (0 ≤ (rd l1 x16_1)) = true := decide_eq_true c12
                    clear c12
                    by_cases c13 : (rd l1 x16_1) < (x5_1.length : Int)
                    · rw [if_pos c13] at H
                      have c13b0 : decide ((rd l1 x16_1) < (x5_1.length : Int)) = true := decide_eq_true c13
                      clear c13
                      obtain ⟨y122, hy122⟩ : ∃ y_ : List Int, y_ = (x5_1.set ((rd l1 x16_1) : Int).toNat (wrap64 ((rd x5_1 (rd l1 x16_1)) + 1))) := ⟨_, rfl⟩
                      replace H : (impl_CountsOf.l0 k1 y122 l1 (l1.length : Int) (wrap64 (x16_1 + 1))) = some r := by first | (rw [hy122]; with_reducible exact H) | (have H2_ := (Option.bind_some _ _).symm.trans H; rw [hy122]; with_reducible exact H2_) | (have H2_ := (Option.bind_some _ _).symm.trans H; with_reducible exact H2_) | with_reducible exact H | (rw [hy122]; exact H) | exact H
                      have Ny122 := Aside0.mk hy122
                      clear hy122
                      have H' := Aside0.mk H
                      clear H
                      have p120 : 0 ≤ (x16_1 : Int) := of_decide_eq_true (by first | (with_reducible assumption) | assumption)
                      have q120 : x16_1 < (l1.length : Int) := of_decide_eq_true (by first | (with_reducible assumption) | assumption)
                      obtain ⟨ad120, e120, hx120_0⟩ := Kd.at_int HR1.out x16_1 p120 q120
                      cases e120
                      replace hx120_0 := (HB.out.cell (World.block_lt_of_cell? w _ hx120_0)).trans hx120_0
                      replace p120 := eq_true p120
                      replace q120 := eq_true q120
                      obtain ⟨Ao15, co15, eo15⟩ := Kd.R_slice HO_5.out
                      subst eo15
                      have p121 : 0 ≤ ((rd l1 x16_1) : Int) := of_decide_eq_true (by first | (with_reducible assumption) | assumption)
                      have q121 : (rd l1 x16_1) < (x5_1.length : Int) := of_decide_eq_true (by first | (with_reducible assumption) | assumption)
                      obtain ⟨ad121, e121, hx121_0⟩ := Kd.at_int (Kd.R_reads' HO_5.out).2.2 (rd l1 x16_1) p121 q121
                      cases e121
                      replace p121 := eq_true p121
                      replace q121 := eq_true q121
                      have p14 : 0 ≤ ((rd l1 x16_1) : Int) := of_decide_eq_true (by first | (with_reducible assumption) | assumption)
                      have q14 : ((rd l1 x16_1) : Int) < ((x5_1.length : Int) : Int) := of_decide_eq_true (by first | (with_reducible assumption) | assumption)
                      obtain ⟨go14, co14, eo14, gb14, gl14, cl14, HG14⟩ := Kd.R_form HO_5.out (by omega)
                      (first | cases eo14 | (injection eo14 with ea_ en_ ec_; (first | subst ea_ | (injection ea_ with ea_; subst ea_)); subst ec_; clear en_))
                      have GB14 := Aside0.mk gb14
                      have GG14 := Aside0.mk HG14
                      clear gb14 gl14 HG14
                      (first | simp only [add_plain] at hx121_0 | skip)
                      obtain ⟨hx14_0, hf14_0⟩ := Kd.R_celln 0 HO_5.out ((rd l1 x16_1) : Int) p14 q14
                      replace p14 := eq_true p14
                      replace q14 := eq_true q14
                      have HP16 := Kd.R_putg HO_5.out ((rd l1 x16_1) : Int) (wrap64 ((rd x5_1 (rd l1 x16_1)) + 1))
                      go_wp2_with (first | ((with_reducible refine gate_store (t := 3) (p := 25) rfl ?_); refine store_event (t := 3) (p := 25) (v := ?vo_w17) (w1 := (wr.setCell ⟨go14, ((rd l1 x16_1) : Int).toNat, none⟩ (.int .i64 (wrap64 ((rd x5_1 (rd l1 x16_1)) + 1))))) ?hg ?ho ?hn ?hr ?_; (case ho => rfl); (case hg => rfl); (case hn => rfl); (case hr => first | (go_simp; done) | (go_simp; rfl)); intro w17 hw; have hg : wr.grownBy w17 (some go14) := (by rw [hw]; exact HP16.2); have hp_ : Kd.R (Kd.int .i64) 3 w17 w.heap.size (fun _ => True) (.slice (some ⟨go14, 0, none⟩) x5_1.length co15) y122 := (by rw [hw, Ny122.out]; exact HP16.1); clear HP16; have n0_ := Aside0.mk (hp_); have n1_ := Aside0.mk ((by rw [hw]; exact below_set (HB.out) GB14.out : Below w.heap.size w w17)); clear HO_5; clear HB; have HO_5 := n0_; have HB := n1_; clear n0_ n1_; clear hg hw hp_))
                      go_roundg k1
                      case measure => have := HK1.out; omega
                      case rel => exact ⟨(y122), (wrap64 (x16_1 + 1)), (by first | rfl | (simp; done) | (simp [*]; done)), H', ⟨by have := HK1.out; omega⟩, ⟨by (with_reducible repeat (first | apply Kd.R_alloc | apply Kd.R_drewN | apply Kd.R_drew)); exact HO_5.out⟩, ⟨by repeat (first | (with_reducible first | exact HB.out | apply below_alloc | apply pw_below_drewN | apply below_drew1) | exact HB.out)⟩⟩
                    · rw [if_neg c13] at H
                      exact absurd H (by simp)
                  · rw [if_neg c12] at H
                    exact absurd H (by simp)
                · rw [if_neg c11] at H
                  exact absurd H (by simp)
              · rw [if_neg c10] at H
                exact absurd H (by simp)
            · rw [if_neg c9] at H
              have c9b0 : decide (x16_1 < (l1.length : Int)) = false := decide_eq_false c9
              clear c9
              obtain rfl := Option.some.inj H
              go_wp2
              go_ret
              exact ⟨_, by first | rfl | (simp [errW_none, errW_some] <;> rfl) | (simp [*, errW_none, errW_some] <;> rfl), by (with_reducible repeat (first | apply Kd.R_alloc | apply Kd.R_drewN | apply Kd.R_drew)); exact HO_5.out, by repeat (first | (with_reducible first | exact HB.out | apply below_alloc | apply pw_below_drewN | apply below_drew1) | exact HB.out)⟩
      · rw [if_neg c6] at H
        exact absurd H (by simp)
    · rw [if_neg c5] at H
      exact absurd H (by simp)
  · replace c4 := Bool.eq_false_iff.mpr c4
    subst c4
    have H1 : (some ([] : List Int)) = some r := by rw [if_neg (show ¬ (false = true) by decide)] at H; exact H
    clear H
    have H := H1
    clear H1
    obtain rfl := Option.some.inj H
    go_enter Try.func46, Try.ntmps46
    go_wp2_with (first | ((with_reducible refine gate_callee (f := 68) rfl ?_); refine goesL_ (some 10) rfl rfl Try.func68 (by kernel_rfl) rfl #[.int .i64 a0, .slice A1 l1.length c1] rfl (by (try simp only [List.map_toArray, List.map_cons, List.map_nil]); first | done | rfl | (simp only [List.length_drop, List.length_take]; rfl)) ?_; (with_reducible refine (impl_WordOk.calls k a0 _ _ l1 false _ ?side1 ?side2 A3.out).mono ?_); (case side1 => repeat (first | exact HR1.out | (with_reducible refine Kd.C_alloc ?_ _) | (with_reducible refine Kd.C_drewN ?_ _) | (with_reducible refine Kd.C_drew ?_))); (case side2 => exact HC1.out); rintro e w' ⟨rfl, ⟨nd, rfl⟩⟩; refine ⟨_, rfl, ?_⟩))
    go_ret
    exact ⟨_, by first | rfl | (simp [errW_none, errW_some] <;> rfl) | (simp [*, errW_none, errW_some] <;> rfl), by first | exact Kd.R_nil _ _ _ _ _ | exact Kd.N_nil _ _ _ _ _ | exact Kd.V_nil _ _ _ _ _ | exact Kd.Q_nil _ _ _ _ _ | exact Kd.S_nil _ _ _ _ _, by repeat (first | (with_reducible first | exact HB.out | apply below_alloc | apply pw_below_drewN | apply below_drew1) | exact HB.out)⟩

/-! ### slices_Equal_int_int: function 87 -/
def slices_Equal_int_int.l0 : Nat → List Int → List Int → Int → Int → Option (Bool)
  | 0, _, _, _, _ => none
  | k + 1, x0, x1, x12, x13 => if x13 < x12 then (if 0 ≤ x13 then (if x13 < (x0.length : Int) then (if x13 < (x1.length : Int) then (if (rd x0 x13) = (rd x1 x13) then (slices_Equal_int_int.l0 k x0 x1 x12 (wrap64 (x13 + 1))) else (some false)) else (none)) else (none)) else (none)) else (some true)
def slices_Equal_int_int.f (k : Nat) (l0 : List Int) (l1 : List Int) : Option (Bool) := if (l0.length : Int) = (l1.length : Int) then (slices_Equal_int_int.l0 k l0 l1 (l0.length : Int) 0) else (some false)
theorem slices_Equal_int_int.mono_l : ∀ k, (∀ y0 y1 y2 y3, LeO (slices_Equal_int_int.l0 k y0 y1 y2 y3) (slices_Equal_int_int.l0 (k + 1) y0 y1 y2 y3))
  | 0 => fun _ _ _ _ r h => by simp [slices_Equal_int_int.l0] at h
  | k + 1 => by
    have ih0 := slices_Equal_int_int.mono_l k
    · intro y0 y1 y2 y3
      unfold slices_Equal_int_int.l0
      repeat' first
      | (with_reducible exact ih0 _ _ _ _)
      | (with_reducible exact LeO.refl _)
      | (with_reducible exact LeO.none _)
      | (with_reducible refine LeO.ite ?_ ?_)
      | (with_reducible refine LeO.bind ?_ (fun _ => ?_))
      | exact ih0 _ _ _ _
      | exact LeO.none _
      | refine LeO.ite ?_ ?_
      | refine LeO.bind ?_ (fun _ => ?_)
theorem slices_Equal_int_int.mono : ∀ a0 a1 k, LeO (slices_Equal_int_int.f k a0 a1) (slices_Equal_int_int.f (k + 1) a0 a1) := by
  intro a0 a1 k
  have ih0 := slices_Equal_int_int.mono_l k
  unfold slices_Equal_int_int.f
  repeat' first
      | (with_reducible exact ih0 _ _ _ _)
      | (with_reducible exact LeO.refl _)
      | (with_reducible exact LeO.none _)
      | (with_reducible refine LeO.ite ?_ ?_)
      | (with_reducible refine LeO.bind ?_ (fun _ => ?_))
      | exact ih0 _ _ _ _
      | exact LeO.none _
      | refine LeO.ite ?_ ?_
      | refine LeO.bind ?_ (fun _ => ?_)
set_option maxHeartbeats 8000000 in
set_option maxRecDepth 100000 in
theorem slices_Equal_int_int.calls (k : Nat) (A0 : Option Addr) (c0 : Nat) (l0 : List Int) (A1 : Option Addr) (c1 : Nat) (l1 : List Int) (r : Bool) (w : World) (hr0 : Kd.C (Kd.int .i64) w A0 l0.length l0) (hc0 : l0.length ≤ c0) (hr1 : Kd.C (Kd.int .i64) w A1 l1.length l1) (hc1 : l1.length ≤ c1) (h : slices_Equal_int_int.f k l0 l1 = some r) :
    Calls Try.prog 87 #[.slice A0 l0.length c0, .slice A1 l1.length c1] w fun e w' => e = .returned (.bool r) ∧ Drawn0 w w' := by
  have HR0 := Aside0.mk hr0
  have HC0 := Aside0.mk hc0
  clear hr0 hc0
  have HR1 := Aside0.mk hr1
  have HC1 := Aside0.mk hc1
  clear hr1 hc1
  have H : (if (l0.length : Int) = (l1.length : Int) then (slices_Equal_int_int.l0 k l0 l1 (l0.length : Int) 0) else (some false)) = some r := h
  clear h
  by_cases c3 : (l0.length : Int) = (l1.length : Int)
  · rw [if_pos c3] at H
    have c3b0 : ((l0.length : Int) == (l1.length : Int)) = true := beq_iff_eq.mpr c3
    have c3b1 : ((l0.length : Int) != (l1.length : Int)) = false := bne_eq_false_iff_eq.mpr c3
    have c3b2 : (l0.length == l1.length) = true := by first | simpa using c3 | (simp at c3 ⊢; omega)
    clear c3
    have H' := Aside0.mk H
    clear H
    go_enter Try.func87, Try.ntmps87
    go_wp2
    repeat (go_quiet (fail); try go_wp2)
    go_loopg [13] k (fun kq v13 w' => ∃ (x13_1 : Int), v13 = .int .i64 x13_1 ∧ Aside0 (slices_Equal_int_int.l0 kq l0 l1 (l0.length : Int) x13_1 = some r) ∧ Aside0 (kq ≤ k) ∧ Drawn0 w w')
    case atStart => exact ⟨(0), (by first | rfl | (simp; done) | (simp [*]; done)), H', ⟨Nat.le_refl _⟩, by repeat (first | exact Drawn0.refl _ | apply Drawn0.step)⟩
    case round =>
      clear H'
      try clear c1
      try clear p2
      try clear c3
      try clear c3b0
      try clear c3b1
      try clear c3b2
      obtain ⟨x13_1, rfl, HA, HK1, ⟨m1, rfl⟩⟩ := hrel
      cases gk with
      | zero => exact absurd HA.out (by simp [slices_Equal_int_int.l0])
      | succ k1 =>
        have H := HA.out
        clear HA
        simp only [slices_Equal_int_int.l0] at H
        by_cases c4 : x13_1 < (l0.length : Int)
        · rw [if_pos c4] at H
          have c4b0 : decide (x13_1 < (l0.length : Int)) = true := decide_eq_true c4
          clear c4
          by_cases c5 : 0 ≤ x13_1
          · rw [if_pos c5] at H
            have c5b0 : decide (0 ≤ x13_1) = true := decide_eq_true c5
            clear c5
            by_cases c6 : x13_1 < (l0.length : Int)
            · rw [if_pos c6] at H
              have c6b0 : decide (x13_1 < (l0.length : Int)) = true := decide_eq_true c6
              clear c6
              by_cases c7 : x13_1 < (l1.length : Int)
              · rw [if_pos c7] at H
                have c7b0 : decide (x13_1 < (l1.length : Int)) = true := decide_eq_true c7
                clear c7
                by_cases c8 : (rd l0 x13_1) = (rd l1 x13_1)
                · rw [if_pos c8] at H
                  have c8b0 : ((rd l0 x13_1) == (rd l1 x13_1)) = true := beq_iff_eq.mpr c8
                  have c8b1 : ((rd l0 x13_1) != (rd l1 x13_1)) = false := bne_eq_false_iff_eq.mpr c8
                  clear c8
                  have H' := Aside0.mk H
                  clear H
                  have p123 : 0 ≤ (x13_1 : Int) := of_decide_eq_true (by first | (with_reducible assumption) | assumption)
                  have q123 : x13_1 < (l0.length : Int) := of_decide_eq_true (by first | (with_reducible assumption) | assumption)
                  obtain ⟨ad123, e123, hx123_0⟩ := Kd.at_int HR0.out x13_1 p123 q123
                  cases e123
                  replace p123 := eq_true p123
                  replace q123 := eq_true q123
                  have p124 : 0 ≤ (x13_1 : Int) := of_decide_eq_true (by first | (with_reducible assumption) | assumption)
                  have q124 : x13_1 < (l1.length : Int) := of_decide_eq_true (by first | (with_reducible assumption) | assumption)
                  obtain ⟨ad124, e124, hx124_0⟩ := Kd.at_int HR1.out x13_1 p124 q124
                  cases e124
                  replace p124 := eq_true p124
                  replace q124 := eq_true q124
                  go_wp2
                  repeat (go_quiet (fail); try go_wp2)
                  go_roundg k1
                  case measure => have := HK1.out; omega
                  case rel => exact ⟨(wrap64 (x13_1 + 1)), (by first | rfl | (simp; done) | (simp [*]; done)), H', ⟨by have := HK1.out; omega⟩, by repeat (first | exact Drawn0.refl _ | apply Drawn0.step)⟩
                · rw [if_neg c8] at H
                  have c8b0 : ((rd l0 x13_1) == (rd l1 x13_1)) = false := beq_eq_false_iff_ne.mpr c8
                  have c8b1 : ((rd l0 x13_1) != (rd l1 x13_1)) = true := bne_iff_ne.mpr c8
                  obtain rfl := Option.some.inj H
                  have p123 : 0 ≤ (x13_1 : Int) := of_decide_eq_true (by first | (with_reducible assumption) | assumption)
                  have q123 : x13_1 < (l0.length : Int) := of_decide_eq_true (by first | (with_reducible assumption) | assumption)
                  obtain ⟨ad123, e123, hx123_0⟩ := Kd.at_int HR0.out x13_1 p123 q123
                  cases e123
                  replace p123 := eq_true p123
                  replace q123 := eq_true q123
                  have p124 : 0 ≤ (x13_1 : Int) := of_decide_eq_true (by first | (with_reducible assumption) | assumption)
                  have q124 : x13_1 < (l1.length : Int) := of_decide_eq_true (by first | (with_reducible assumption) | assumption)
                  obtain ⟨ad124, e124, hx124_0⟩ := Kd.at_int HR1.out x13_1 p124 q124
                  cases e124
                  replace p124 := eq_true p124
                  replace q124 := eq_true q124
                  go_wp2
                  repeat (go_quiet (fail); try go_wp2)
                  go_ret
                  exact ⟨by first | rfl | (simp; done) | (simp [*]; done), by repeat (first | exact Drawn0.refl _ | apply Drawn0.step)⟩
              · rw [if_neg c7] at H
                exact absurd H (by simp)
            · rw [if_neg c6] at H
              exact absurd H (by simp)
          · rw [if_neg c5] at H
            exact absurd H (by simp)
        · rw [if_neg c4] at H
          have c4b0 : decide (x13_1 < (l0.length : Int)) = false := decide_eq_false c4
          clear c4
          obtain rfl := Option.some.inj H
          go_wp2
          repeat (go_quiet (fail); try go_wp2)
          go_ret
          exact ⟨by first | rfl | (simp; done) | (simp [*]; done), by repeat (first | exact Drawn0.refl _ | apply Drawn0.step)⟩
  · rw [if_neg c3] at H
    have c3b0 : ((l0.length : Int) == (l1.length : Int)) = false := beq_eq_false_iff_ne.mpr c3
    have c3b1 : ((l0.length : Int) != (l1.length : Int)) = true := bne_iff_ne.mpr c3
    have c3b2 : (l0.length == l1.length) = false := by first | simpa using c3 | (simp at c3 ⊢; omega)
    obtain rfl := Option.some.inj H
    go_enter Try.func87, Try.ntmps87
    go_wp2
    repeat (go_quiet (fail); try go_wp2)
    go_ret
    exact ⟨by first | rfl | (simp; done) | (simp [*]; done), by repeat (first | exact Drawn0.refl _ | apply Drawn0.step)⟩

-- NOT PRINTED: function 86 (impl_wordsWith_1)

/-- wordsWith's own function: it tells on the words with the counts. -/
def withF (k : Nat) (counts : List Int) (f : Int → List Int → Option Int) (a : Int) (q : List Int) : Option Int :=
  (impl_CountsOf.f k (counts.length : Int) q).bind fun cs => (slices_Equal_int_int.f k cs counts).bind fun b => if b = true then f a q else some a
set_option maxHeartbeats 2000000 in
set_option maxRecDepth 100000 in
theorem with_tells (k : Nat) (w00 w1 : World) (g Bc Bt t : Nat) (lb : Array Value) (f : Int → List Int → Option Int) (A : Option Addr) (c : Nat) (counts : List Int)
    (eg : ∀ args w, (callFunc t args).run Try.prog w = .ok (.enter t args) w) (hT : Tells t lb w1 g f) (hC : Kd.C (Kd.int .i64) w00 A counts.length counts) (hc : counts.length ≤ c) (hB : Below w00.heap.size w00 w1) (hg0 : w00.heap.size ≤ g)
    (hbc : w1.heap[Bc]? = some (.cells #[.slice A counts.length c] 23 (0, 0))) (hbt : w1.heap[Bt]? = some (.cells #[.func (.func t) #[] lb] 61 (0, 0))) (h1 : Bc ≠ g) (h2 : Bt ≠ g) :
    Tells 86 #[.pointer (some ⟨Bc, 0, none⟩), .pointer (some ⟨Bt, 0, none⟩)] w1 g (withF k counts f) := by
  intro W a a' Aq cq q hA hq hcq hf
  unfold withF at hf
  obtain ⟨cs, e1, hf⟩ := Option.bind_eq_some_iff.mp hf
  obtain ⟨b, e2, hf⟩ := Option.bind_eq_some_iff.mp hf
  have cC := cell_of_one (hA.stay.keep hbc h1)
  have kT := hA.stay.keep hbt h2
  have hbW : Below w00.heap.size w00 W := hA.stay.toBelow hB hg0
  have HA := Aside0.mk hA
  have HQ := Aside0.mk hq
  have HW := Aside0.mk hbW
  have HT := Aside0.mk kT
  have E1 := Aside0.mk e1
  have E2 := Aside0.mk e2
  have HC := Aside0.mk hC
  have HT2 := Aside0.mk hT
  clear hA hq hbW kT e1 e2 hC hT hbc hbt hB
  cases b with
  | true =>
    simp only [if_true] at hf
    have Hf := Aside0.mk hf
    clear hf
    show Calls Try.prog 86 #[.slice Aq q.length cq, .pointer (some ⟨Bc, 0, none⟩), .pointer (some ⟨Bt, 0, none⟩)] W _
    go_enter Try.func86, Try.ntmps86
    go_wp2_with (fail)
    go_region_with (first | (go_at_call 46; refine (impl_CountsOf.calls k (counts.length : Int) Aq cq q cs _ (by first | exact HQ.out | exact Kd.C_drew HQ.out | exact Kd.C_drewN HQ.out _) hcq E1.out).mono ?_; rintro e w2 ⟨v2, rfl, hR2, hB2⟩; have cC2 := pw_cell_below hB2 (a := ⟨Bc, 0, none⟩) (v := .slice A counts.length c) (by first | exact cC | simpa using cC); have HW2 := Aside0.mk (below_next (w := w00) hB2 (by first | exact HW.out | exact HW.out.drew)); obtain ⟨A2, c2, rfl, hc2, hk2⟩ := Kd.R_reads hR2; have HK2 := Aside0.mk hk2; have HB2 := Aside0.mk hB2; clear hR2 hB2 hk2) | (go_at_call 87; refine (slices_Equal_int_int.calls k A2 c2 cs A c counts true _ HK2.out hc2 (Kd.C_below HC.out HW2.out) hc E2.out).mono ?_; rintro e w3 ⟨rfl, hD⟩; obtain ⟨nd, rfl⟩ := hD.out; clear hD))
    all_goals
      have hS2 : Stay W (w2.drewN nd) g := ((Stay.refl W g).below (below_undrew HB2.out)).drewN nd
      have hN2 : (w2.drewN nd).heap[g]? = some (.cells #[.int .i64 a] 3 (0, 0)) := ((below_undrew HB2.out).block g (lt_of_block HA.out.now)).trans HA.out.now
      have cT2 : w2.cell? ⟨Bt, 0, none⟩ = some (.func (.func t) #[] lb) := cell_of_one (((below_undrew HB2.out).block Bt (lt_of_block HT.out)).trans HT.out)
      have call := HT2.out (w2.drewN nd) a a' Aq cq q ⟨HA.out.stay.trans hS2, hN2⟩ (Kd.C_drewN (Kd.C_below HQ.out (below_undrew HB2.out)) nd) hcq Hf.out
      have HS2 := Aside0.mk hS2
      have HCall := Aside0.mk call
      clear hS2 hN2 call
      go_wp2_with (go_at_fn t; refine HCall.out.mono ?_; rintro e w4 ⟨rfl, q1, q2⟩)
      go_end0
      exact ⟨rfl, HS2.out.trans q1, q2⟩
  | false =>
    obtain rfl := Option.some.inj hf
    clear hf
    show Calls Try.prog 86 #[.slice Aq q.length cq, .pointer (some ⟨Bc, 0, none⟩), .pointer (some ⟨Bt, 0, none⟩)] W _
    go_enter Try.func86, Try.ntmps86
    go_wp2_with (fail)
    go_region_with (first | (go_at_call 46; refine (impl_CountsOf.calls k (counts.length : Int) Aq cq q cs _ (by first | exact HQ.out | exact Kd.C_drew HQ.out | exact Kd.C_drewN HQ.out _) hcq E1.out).mono ?_; rintro e w2 ⟨v2, rfl, hR2, hB2⟩; have cC2 := pw_cell_below hB2 (a := ⟨Bc, 0, none⟩) (v := .slice A counts.length c) (by first | exact cC | simpa using cC); have HW2 := Aside0.mk (below_next (w := w00) hB2 (by first | exact HW.out | exact HW.out.drew)); obtain ⟨A2, c2, rfl, hc2, hk2⟩ := Kd.R_reads hR2; have HK2 := Aside0.mk hk2; have HB2 := Aside0.mk hB2; clear hR2 hB2 hk2) | (go_at_call 87; refine (slices_Equal_int_int.calls k A2 c2 cs A c counts false _ HK2.out hc2 (Kd.C_below HC.out HW2.out) hc E2.out).mono ?_; rintro e w3 ⟨rfl, hD⟩; obtain ⟨nd, rfl⟩ := hD.out; clear hD))
    all_goals
      have hS2 : Stay W (w2.drewN nd) g := ((Stay.refl W g).below (below_undrew HB2.out)).drewN nd
      have hN2 : (w2.drewN nd).heap[g]? = some (.cells #[.int .i64 a] 3 (0, 0)) := ((below_undrew HB2.out).block g (lt_of_block HA.out.now)).trans HA.out.now
      have HS2 := Aside0.mk hS2
      have HN2 := Aside0.mk hN2
      clear hS2 hN2
      go_wp2_with (fail)
      go_end0
      exact ⟨rfl, HS2.out, HN2.out⟩
theorem with_words (k : Nat) (w00 w0 w1 : World) (g Bc Bt t n : Nat) (lb : Array Value) (f : Int → List Int → Option Int) (A : Option Addr) (c : Nat) (counts : List Int) (a a' : Int)
    (eg : ∀ args w, (callFunc t args).run Try.prog w = .ok (.enter t args) w) (hT : ∀ w1, Below w0.heap.size w0 w1 → Tells t lb w1 g f) (hC : Kd.C (Kd.int .i64) w00 A counts.length counts) (hc : counts.length ≤ c) (hB : Below w00.heap.size w00 w0)
    (hg0 : w00.heap.size ≤ g) (hg : w0.heap[g]? = some (.cells #[.int .i64 a] 3 (0, 0))) (hn : n ≤ 6) (hcol : counts.length ≤ 3) (hf : tellAll (withF k counts f) a (allW counts.length n) = some a')
    (hb : Below w0.heap.size w0 w1) (h1 : w0.heap.size ≤ Bc) (h2 : w0.heap.size ≤ Bt) (hbc : w1.heap[Bc]? = some (.cells #[.slice A counts.length c] 23 (0, 0))) (hbt : w1.heap[Bt]? = some (.cells #[.func (.func t) #[] lb] 61 (0, 0))) :
    Calls Try.prog 71 #[.int .i64 (counts.length : Int), .int .i64 (n : Int), .func (.func 86) #[] #[.pointer (some ⟨Bc, 0, none⟩), .pointer (some ⟨Bt, 0, none⟩)]] w1 fun e W' => e = .returned (.tuple #[]) ∧ Stay w1 W' g ∧ W'.heap[g]? = some (.cells #[.int .i64 a'] 3 (0, 0)) := by
  have hgl := lt_of_block hg
  exact words_any w1 g n counts.length 86 _ (withF k counts f) a a' (enters 86 _ _ Try.func86 (by kernel_rfl) rfl)
    (with_tells k w00 w1 g Bc Bt t lb f A c counts eg (hT w1 hb) hC hc (below_next hb hB) hg0 hbc hbt (by omega) (by omega)) hn hcol ((hb.block g hgl).trans hg) hf
theorem Stay.of_below {w W V : World} {g : Nat} (h : Below w.heap.size w W) (k : Stay W V g) : Stay w V g := ((Stay.refl w g).below h).trans k
set_option maxHeartbeats 2000000 in
set_option maxRecDepth 100000 in
theorem wordsWith_any (k : Nat) (w00 w0 : World) (g t n : Nat) (lb : Array Value) (f : Int → List Int → Option Int) (A : Option Addr) (c : Nat) (counts : List Int) (a a' : Int)
    (eg : ∀ args w, (callFunc t args).run Try.prog w = .ok (.enter t args) w) (hT : ∀ w1, Below w0.heap.size w0 w1 → Tells t lb w1 g f) (hC : Kd.C (Kd.int .i64) w00 A counts.length counts) (hc : counts.length ≤ c) (hB : Below w00.heap.size w00 w0)
    (hg0 : w00.heap.size ≤ g) (hg : w0.heap[g]? = some (.cells #[.int .i64 a] 3 (0, 0))) (hn : n ≤ 6) (hcol : counts.length ≤ 3) (hs : impl_sum.f k counts = some (n : Int)) (hf : tellAll (withF k counts f) a (allW counts.length n) = some a') :
    Calls Try.prog 57 #[.slice A counts.length c, .func (.func t) #[] lb] w0 fun e W' => e = .returned (.tuple #[]) ∧ Stay w0 W' g ∧ W'.heap[g]? = some (.cells #[.int .i64 a'] 3 (0, 0)) := by
  have hw := fun w1 hb hbc hbt => with_words k w00 w0 w1 g w0.heap.size (w0.heap.size + 1) t n lb f A c counts a a' eg hT hC hc hB hg0 hg hn hcol hf hb (Nat.le_refl _) (by omega) hbc hbt
  have h1 : ((w0.alloc (.cells #[.slice A counts.length c] 23)).alloc (.cells #[.func (.func t) #[] lb] 61)).heap[w0.heap.size]? = some (.cells #[.slice A counts.length c] 23 (0, 0)) := by
    rw [alloc_at, if_neg (by simp), alloc_at, if_pos rfl]
  have h2 : ((w0.alloc (.cells #[.slice A counts.length c] 23)).alloc (.cells #[.func (.func t) #[] lb] 61)).heap[w0.heap.size + 1]? = some (.cells #[.func (.func t) #[] lb] 61 (0, 0)) := by
    rw [alloc_at, if_pos (by simp)]
  have HW := Aside0.mk hw
  have H1 := Aside0.mk h1
  have H2 := Aside0.mk h2
  have HC := Aside0.mk hC
  have HB := Aside0.mk hB
  have HS := Aside0.mk hs
  clear hw h1 h2 hC hB hs hT hf hg
  go_enter Try.func57, Try.ntmps57
  go_wp2_with (fail)
  go_region_with (first | (go_at_call 75; refine (impl_sum.calls k A c counts (n : Int) _ (Kd.C_below HC.out (below_next (by repeat (first | exact Below.refl _ _ | apply pw_below_drewN | apply below_drew | apply below_alloc)) HB.out)) hc HS.out).mono ?_; rintro e w3 ⟨rfl, hD⟩; obtain ⟨nd, rfl⟩ := hD.out; clear hD) | (go_at_call 71; refine (HW.out _ (by repeat (first | exact Below.refl _ _ | apply pw_below_drewN | apply below_drew | apply below_alloc)) (by exact H1.out) (by exact H2.out)).mono ?_; rintro e w4 ⟨rfl, q1, q2⟩))
  all_goals
    go_end0
    exact ⟨rfl, Stay.of_below (by repeat (first | exact Below.refl _ _ | apply pw_below_drewN | apply below_drew | apply below_alloc)) q1, q2⟩
theorem withF_mono (k : Nat) (counts : List Int) {f g : Int → List Int → Option Int} (h : ∀ a q, LeO (f a q) (g a q)) (a : Int) (q : List Int) : LeO (withF k counts f a q) (withF (k + 1) counts g a q) :=
  LeO.bind (impl_CountsOf.mono _ _ _) fun cs => LeO.bind (slices_Equal_int_int.mono _ _ _) fun b => LeO.ite (h a q) (LeO.refl _)

-- NOT PRINTED: function 66 (impl_WordsWith_1)

/-- What WordsWith's own function does with a word. -/
def oneF (a : Int) (q : List Int) : Option Int := some (wrap64 (a + 1))
set_option maxHeartbeats 2000000 in
set_option maxRecDepth 100000 in
theorem one_tells (w1 : World) (g : Nat) : Tells 66 #[.pointer (some ⟨g, 0, none⟩)] w1 g oneF := by
  intro W a a' Aq cq q hA hq hcq hf
  obtain rfl := Option.some.inj hf
  have cN := cell_of_one hA.now
  have fN := free_of_one hA.now
  have HA := Aside0.mk hA
  clear hA hq hf
  show Calls Try.prog 66 #[.slice Aq q.length cq, .pointer (some ⟨g, 0, none⟩)] W _
  go_enter Try.func66, Try.ntmps66
  go_wp2_with (fail)
  go_end0
  exact ⟨rfl, (Stay.refl W g).far ⟨g, 0, none⟩ _ (.inl rfl), one_setCell HA.out.now⟩
def impl_WordsWith.f (k : Nat) (a0 : Int) (l1 : List Int) : Option (Int) := (impl_CountRowOk.f k a0 l1).bind fun t2 => (if t2 = true then ((impl_sum.f k l1).bind fun n => (if 0 ≤ n ∧ n ≤ 6 ∧ l1.length ≤ 3 then tellAll (withF k l1 oneF) 0 (allW l1.length n.toNat) else none)) else (some (-1)))
theorem impl_WordsWith.mono : ∀ a0 a1 k, LeO (impl_WordsWith.f k a0 a1) (impl_WordsWith.f (k + 1) a0 a1) := fun a0 a1 k =>
  LeO.bind (impl_CountRowOk.mono _ _ _) fun t2 => LeO.ite (LeO.bind (impl_sum.mono _ _) fun n => LeO.ite (tellAll_mono (fun a q => withF_mono k a1 (fun a q => LeO.refl _) a q) _ _) (LeO.refl _)) (LeO.refl _)
theorem one_with (k : Nat) (w w0 : World) (g n : Nat) (A1 : Option Addr) (c1 : Nat) (l1 : List Int) (r : Int) (hr1 : Kd.C (Kd.int .i64) w A1 l1.length l1) (hc1 : l1.length ≤ c1)
    (hn : n ≤ 6) (hcol : l1.length ≤ 3) (hs : impl_sum.f k l1 = some (n : Int)) (hf : tellAll (withF k l1 oneF) 0 (allW l1.length n) = some r) (hg0 : w.heap.size ≤ g)
    (hB : Below w.heap.size w w0) (hg : w0.heap[g]? = some (.cells #[.int .i64 0] 3 (0, 0))) :
    Calls Try.prog 57 #[.slice A1 l1.length c1, .func (.func 66) #[] #[.pointer (some ⟨g, 0, none⟩)]] w0 fun e W' => e = .returned (.tuple #[]) ∧ Stay w0 W' g ∧ W'.heap[g]? = some (.cells #[.int .i64 r] 3 (0, 0)) :=
  wordsWith_any k w w0 g 66 n _ oneF A1 c1 l1 0 r (enters 66 _ _ Try.func66 (by kernel_rfl) rfl) (fun w1 _ => one_tells w1 g) hr1 hc1 hB hg0 hg hn hcol hs hf
set_option maxHeartbeats 8000000 in
set_option maxRecDepth 100000 in
theorem impl_WordsWith.calls (k : Nat) (a0 : Int) (A1 : Option Addr) (c1 : Nat) (l1 : List Int) (r : Int) (w : World) (hr1 : Kd.C (Kd.int .i64) w A1 l1.length l1) (hc1 : l1.length ≤ c1) (h : impl_WordsWith.f k a0 l1 = some r) :
    Calls Try.prog 20 #[.int .i64 a0, .slice A1 l1.length c1] w fun e w' => e = .returned (.int .i64 r) ∧ Below w.heap.size w w' := by
  unfold impl_WordsWith.f at h
  obtain ⟨t2, e2, h⟩ := Option.bind_eq_some_iff.mp h
  have E2 := Aside0.mk e2
  have HV := Aside0.mk hr1
  clear e2
  cases t2 with
  | false =>
    obtain rfl : (-1 : Int) = r := by simpa using h
    clear h hr1
    go_enter Try.func20, Try.ntmps20
    go_wp2_with (first | (go_at_call 56; refine (impl_CountRowOk.calls k a0 A1 c1 l1 false _ HV.out hc1 E2.out).mono ?_; rintro e w3 ⟨rfl, hD⟩; obtain ⟨nd2, rfl⟩ := hD.out; clear hD))
    go_ret
    exact ⟨rfl, by repeat (first | exact Below.refl _ _ | apply pw_below_drewN | apply below_drew | apply below_alloc)⟩
  | true =>
    simp only [if_true] at h
    obtain ⟨n, e3, h⟩ := Option.bind_eq_some_iff.mp h
    by_cases hn : 0 ≤ n ∧ n ≤ 6 ∧ l1.length ≤ 3
    · rw [if_pos hn] at h
      obtain ⟨m, rfl⟩ := Int.eq_ofNat_of_zero_le hn.1
      rw [Int.toNat_natCast] at h
      have hw := fun w0 hB hg => one_with k w w0 w.heap.size m A1 c1 l1 r hr1 hc1 (by omega) hn.2.2 e3 h (by omega) hB hg
      have h2 : (w.alloc (.cells #[.int .i64 0] 3)).heap[w.heap.size]? = some (.cells #[.int .i64 0] 3 (0, 0)) := by
        rw [alloc_at, if_pos rfl]
      have b1 : ∀ (nd : Nat) (x : Value), ((w.drewN nd).alloc (.cells #[x] 3)).cell? ⟨w.heap.size, 0, none⟩ = some x := fun nd x => cell_of_one (heap_alloc_new (w.drewN nd) _)
      have b2 : ∀ (nd : Nat) (x : Value), ((w.drewN nd).alloc (.cells #[x] 3)).frozen? ⟨w.heap.size, 0, none⟩ = false := fun nd x => free_of_one (heap_alloc_new (w.drewN nd) _)
      have HW := Aside0.mk hw
      have H2 := Aside0.mk h2
      clear hw h2 h e3 hr1 hn
      go_enter Try.func20, Try.ntmps20
      go_wp2_with (first | (go_at_call 56; refine (impl_CountRowOk.calls k a0 A1 c1 l1 true _ HV.out hc1 E2.out).mono ?_; rintro e w3 ⟨rfl, hD⟩; obtain ⟨nd2, rfl⟩ := hD.out; clear hD) | (go_at_call 57; refine (HW.out _ (by repeat (first | exact Below.refl _ _ | apply pw_below_drewN | apply below_drew | apply below_alloc | refine below_set ?_ (Nat.le_refl _))) (by first | exact H2.out | exact one_setCell (heap_alloc_new (w.drewN _) _))).mono ?_; rintro e w4 ⟨rfl, q1, q2⟩; have cN4 := cell_of_one q2; have HQ1 := Aside0.mk q1; clear q1 q2))
      go_ret
      exact ⟨rfl, HQ1.out.toBelow (by repeat (first | exact Below.refl _ _ | apply pw_below_drewN | apply below_drew | apply below_alloc | refine below_set ?_ (Nat.le_refl _))) (by omega)⟩
    · rw [if_neg hn] at h
      cases h

/-! ### impl_BackWays: function 50 -/
mutual
def impl_BackWays.j0 : Nat → List Int → List Int → Bool → Option (Int)
  | 0, _, _, _ => none
  | k + 1, x0, x1, x17 => if x17 = true then (some (-1)) else (impl_BackWays.l0 k x0 1 x1 (x1.length : Int) 0)
def impl_BackWays.l0 : Nat → List Int → Int → List Int → Int → Int → Option (Int)
  | 0, _, _, _, _, _ => none
  | k + 1, x0, x5, x18, x19, x20 => if x20 < x19 then (if 0 ≤ x20 then (if x20 < (x18.length : Int) then (if 0 ≤ (rd x18 x20) then (if (rd x18 x20) < (x0.length : Int) then (impl_BackWays.l0 k x0 (wrap64 (x5 * (rd x0 (rd x18 x20)))) x18 x19 (wrap64 (x20 + 1))) else (none)) else (none)) else (none)) else (none)) else (some x5)
end
def impl_BackWays.f (k : Nat) (l0 : List Int) (l1 : List Int) : Option (Int) := (impl_UrnOk.f k l0).bind fun t125 => (if t125 = true then ((impl_WordOk.f k (l0.length : Int) l1).bind fun t126 => (impl_BackWays.j0 k l0 l1 (!t126))) else (impl_BackWays.j0 k l0 l1 true))
theorem impl_BackWays.mono_l : ∀ k, (∀ y0 y1 y2, LeO (impl_BackWays.j0 k y0 y1 y2) (impl_BackWays.j0 (k + 1) y0 y1 y2)) ∧ (∀ y0 y1 y2 y3 y4, LeO (impl_BackWays.l0 k y0 y1 y2 y3 y4) (impl_BackWays.l0 (k + 1) y0 y1 y2 y3 y4))
  | 0 => ⟨fun _ _ _ r h => by simp [impl_BackWays.j0] at h, fun _ _ _ _ _ r h => by simp [impl_BackWays.l0] at h⟩
  | k + 1 => by
    obtain ⟨ih0, ih1⟩ := impl_BackWays.mono_l k
    refine ⟨?_, ?_⟩
    · intro y0 y1 y2
      unfold impl_BackWays.j0
      repeat' first
      | (with_reducible exact ih0 _ _ _)
      | (with_reducible exact ih1 _ _ _ _ _)
      | (with_reducible exact impl_UrnOk.mono _ _)
      | (with_reducible exact impl_WordOk.mono _ _ _)
      | (with_reducible exact LeO.refl _)
      | (with_reducible exact LeO.none _)
      | (with_reducible refine LeO.ite ?_ ?_)
      | (with_reducible refine LeO.bind ?_ (fun _ => ?_))
      | exact ih0 _ _ _
      | exact ih1 _ _ _ _ _
      | exact impl_UrnOk.mono _ _
      | exact impl_WordOk.mono _ _ _
      | exact LeO.none _
      | refine LeO.ite ?_ ?_
      | refine LeO.bind ?_ (fun _ => ?_)
    · intro y0 y1 y2 y3 y4
      unfold impl_BackWays.l0
      repeat' first
      | (with_reducible exact ih0 _ _ _)
      | (with_reducible exact ih1 _ _ _ _ _)
      | (with_reducible exact impl_UrnOk.mono _ _)
      | (with_reducible exact impl_WordOk.mono _ _ _)
      | (with_reducible exact LeO.refl _)
      | (with_reducible exact LeO.none _)
      | (with_reducible refine LeO.ite ?_ ?_)
      | (with_reducible refine LeO.bind ?_ (fun _ => ?_))
      | exact ih0 _ _ _
      | exact ih1 _ _ _ _ _
      | exact impl_UrnOk.mono _ _
      | exact impl_WordOk.mono _ _ _
      | exact LeO.none _
      | refine LeO.ite ?_ ?_
      | refine LeO.bind ?_ (fun _ => ?_)
theorem impl_BackWays.mono : ∀ a0 a1 k, LeO (impl_BackWays.f k a0 a1) (impl_BackWays.f (k + 1) a0 a1) := by
  intro a0 a1 k
  obtain ⟨ih0, ih1⟩ := impl_BackWays.mono_l k
  unfold impl_BackWays.f
  repeat' first
      | (with_reducible exact ih0 _ _ _)
      | (with_reducible exact ih1 _ _ _ _ _)
      | (with_reducible exact impl_UrnOk.mono _ _)
      | (with_reducible exact impl_WordOk.mono _ _ _)
      | (with_reducible exact LeO.refl _)
      | (with_reducible exact LeO.none _)
      | (with_reducible refine LeO.ite ?_ ?_)
      | (with_reducible refine LeO.bind ?_ (fun _ => ?_))
      | exact ih0 _ _ _
      | exact ih1 _ _ _ _ _
      | exact impl_UrnOk.mono _ _
      | exact impl_WordOk.mono _ _ _
      | exact LeO.none _
      | refine LeO.ite ?_ ?_
      | refine LeO.bind ?_ (fun _ => ?_)
set_option maxHeartbeats 8000000 in
set_option maxRecDepth 100000 in
theorem impl_BackWays.calls (k : Nat) (A0 : Option Addr) (c0 : Nat) (l0 : List Int) (A1 : Option Addr) (c1 : Nat) (l1 : List Int) (r : Int) (w : World) (hr0 : Kd.C (Kd.int .i64) w A0 l0.length l0) (hc0 : l0.length ≤ c0) (hr1 : Kd.C (Kd.int .i64) w A1 l1.length l1) (hc1 : l1.length ≤ c1) (h : impl_BackWays.f k l0 l1 = some r) :
    Calls Try.prog 50 #[.slice A0 l0.length c0, .slice A1 l1.length c1] w fun e w' => e = .returned (.int .i64 r) ∧ Drawn0 w w' := by
  have HR0 := Aside0.mk hr0
  have HC0 := Aside0.mk hc0
  clear hr0 hc0
  have HR1 := Aside0.mk hr1
  have HC1 := Aside0.mk hc1
  clear hr1 hc1
  have H : ((impl_UrnOk.f k l0).bind fun t125 => (if t125 = true then ((impl_WordOk.f k (l0.length : Int) l1).bind fun t126 => (impl_BackWays.j0 k l0 l1 (!t126))) else (impl_BackWays.j0 k l0 l1 true))) = some r := h
  clear h
  have HC3 := Aside0.mk H
  clear H
  go_enter Try.func50, Try.ntmps50
  go_upto_region 1 with (fail)
  go_cut [17] (fun v17 wc => ∃ (kq : Nat) (x17_2 : Bool), v17 = .bool x17_2 ∧ Aside0 (impl_BackWays.j0 kq l0 l1 x17_2 = some r) ∧ Aside0 (kq ≤ k) ∧ Drawn0 w wc)
  case first =>
    have H := HC3.out
    clear HC3
    replace H := Option.bind_eq_some_iff.mp H
    obtain ⟨t125, A40, H⟩ := H
    replace H : (if t125 = true then ((impl_WordOk.f k (l0.length : Int) l1).bind fun t126 => (impl_BackWays.j0 k l0 l1 (!t126))) else (impl_BackWays.j0 k l0 l1 true)) = some r := H
    have A4 := Aside0.mk A40
    clear A40
    by_cases c5 : t125 = true
    · subst c5
      have H1 : ((impl_WordOk.f k (l0.length : Int) l1).bind fun t126 => (impl_BackWays.j0 k l0 l1 (!t126))) = some r := by rw [if_pos rfl] at H; exact H
      clear H
      have H := H1
      clear H1
      replace H := Option.bind_eq_some_iff.mp H
      obtain ⟨t126, A60, H⟩ := H
      replace H : (impl_BackWays.j0 k l0 l1 (!t126)) = some r := H
      have A6 := Aside0.mk A60
      clear A60
      have H' := Aside0.mk H
      clear H
      go_wp2_with (first | ((with_reducible refine gate_callee (f := 39) rfl ?_); refine goesL_ (some 9) rfl rfl Try.func39 (by kernel_rfl) rfl #[.slice A0 l0.length c0] rfl (by (try simp only [List.map_toArray, List.map_cons, List.map_nil]); first | done | rfl | (simp only [List.length_drop, List.length_take]; rfl)) ?_; (with_reducible refine (impl_UrnOk.calls k _ _ l0 true _ ?side1 ?side2 A4.out).mono ?_); (case side1 => repeat (first | exact HR0.out | (with_reducible refine Kd.C_alloc ?_ _) | (with_reducible refine Kd.C_drewN ?_ _) | (with_reducible refine Kd.C_drew ?_))); (case side2 => exact HC0.out); rintro e w' ⟨rfl, ⟨nd, rfl⟩⟩; refine ⟨_, rfl, ?_⟩) | (go_at_call 68; (with_reducible refine (impl_WordOk.calls k (l0.length : Int) _ _ l1 t126 _ ?side1 ?side2 A6.out).mono ?_); (case side1 => repeat (first | exact HR1.out | (with_reducible refine Kd.C_alloc ?_ _) | (with_reducible refine Kd.C_drewN ?_ _) | (with_reducible refine Kd.C_drew ?_))); (case side2 => exact HC1.out); rintro e w' ⟨rfl, ⟨nd, rfl⟩⟩))
      go_meet
      case rel => exact ⟨_, (!t126), (by first | rfl | (simp; done) | (simp [*]; done)), H', ⟨by first | omega | exact Nat.le_refl _⟩, by repeat (first | exact Drawn0.refl _ | apply Drawn0.step)⟩
    · replace c5 := Bool.eq_false_iff.mpr c5
      subst c5
      have H1 : (impl_BackWays.j0 k l0 l1 true) = some r := by rw [if_neg (show ¬ (false = true) by decide)] at H; exact H
      clear H
      have H := H1
      clear H1
      have H' := Aside0.mk H
      clear H
      go_wp2_with (first | ((with_reducible refine gate_callee (f := 39) rfl ?_); refine goesL_ (some 9) rfl rfl Try.func39 (by kernel_rfl) rfl #[.slice A0 l0.length c0] rfl (by (try simp only [List.map_toArray, List.map_cons, List.map_nil]); first | done | rfl | (simp only [List.length_drop, List.length_take]; rfl)) ?_; (with_reducible refine (impl_UrnOk.calls k _ _ l0 false _ ?side1 ?side2 A4.out).mono ?_); (case side1 => repeat (first | exact HR0.out | (with_reducible refine Kd.C_alloc ?_ _) | (with_reducible refine Kd.C_drewN ?_ _) | (with_reducible refine Kd.C_drew ?_))); (case side2 => exact HC0.out); rintro e w' ⟨rfl, ⟨nd, rfl⟩⟩; refine ⟨_, rfl, ?_⟩))
      go_meet
      case rel => exact ⟨_, (true), (by first | rfl | (simp; done) | (simp [*]; done)), H', ⟨by first | omega | exact Nat.le_refl _⟩, by repeat (first | exact Drawn0.refl _ | apply Drawn0.step)⟩
  case rest =>
    clear HC3
    try clear c1
    try clear p2
    try clear c3
    try clear c5
    obtain ⟨kq, x17_2, rfl, HA, HJ2, ⟨mc2, rfl⟩⟩ := hcut
    cases kq with
    | zero => exact absurd HA.out (by simp [impl_BackWays.j0])
    | succ kj2 =>
      have H := HA.out
      clear HA
      simp only [impl_BackWays.j0] at H
      by_cases c7 : x17_2 = true
      · subst c7
        have H1 : (some (-1)) = some r := by rw [if_pos rfl] at H; exact H
        clear H
        have H := H1
        clear H1
        obtain rfl := Option.some.inj H
        go_wp2
        go_ret
        exact ⟨by first | rfl | (simp; done) | (simp [*]; done), by repeat (first | exact Drawn0.refl _ | apply Drawn0.step)⟩
      · replace c7 := Bool.eq_false_iff.mpr c7
        subst c7
        have H1 : (impl_BackWays.l0 kj2 l0 1 l1 (l1.length : Int) 0) = some r := by rw [if_neg (show ¬ (false = true) by decide)] at H; exact H
        clear H
        have H := H1
        clear H1
        have H' := Aside0.mk H
        clear H
        go_wp2
        go_loopg [5, 20] kj2 (fun kq v5 v20 w' => ∃ (x5_2 : Int) (x20_2 : Int), v5 = .int .i64 x5_2 ∧ v20 = .int .i64 x20_2 ∧ Aside0 (impl_BackWays.l0 kq l0 x5_2 l1 (l1.length : Int) x20_2 = some r) ∧ Aside0 (kq ≤ kj2) ∧ Drawn0 w w')
        case atStart => exact ⟨(1), (0), (by first | rfl | (simp; done) | (simp [*]; done)), (by first | rfl | (simp; done) | (simp [*]; done)), H', ⟨Nat.le_refl _⟩, by repeat (first | exact Drawn0.refl _ | apply Drawn0.step)⟩
        case round =>
          clear H'
          try clear c1
          try clear c2
          try clear p2
          try clear c3
          try clear c5
          try clear c7
          try clear p2
          obtain ⟨x5_2, x20_2, rfl, rfl, HA, HK2, ⟨m2, rfl⟩⟩ := hrel
          cases gk with
          | zero => exact absurd HA.out (by simp [impl_BackWays.l0])
          | succ k2 =>
            have H := HA.out
            clear HA
            simp only [impl_BackWays.l0] at H
            by_cases c8 : x20_2 < (l1.length : Int)
            · rw [if_pos c8] at H
              have c8b0 : decide (x20_2 < (l1.length : Int)) = true := decide_eq_true c8
              clear c8
              by_cases c9 : 0 ≤ x20_2
              · rw [if_pos c9] at H
                have c9b0 : decide (0 ≤ x20_2) = true := decide_eq_true c9
                clear c9
                by_cases c10 : x20_2 < (l1.length : Int)
                · rw [if_pos c10] at H
                  have c10b0 : decide (x20_2 < (l1.length : Int)) = true := decide_eq_true c10
                  clear c10
                  by_cases c11 : 0 ≤ (rd l1 x20_2)
                  · rw [if_pos c11] at H
                    have c11b0 : decide (0 ≤ (rd l1 x20_2)) = true := decide_eq_true c11
                    clear c11
                    by_cases c12 : (rd l1 x20_2) < (l0.length : Int)
                    · rw [if_pos c12] at H
                      have c12b0 : decide ((rd l1 x20_2) < (l0.length : Int)) = true := decide_eq_true c12
                      clear c12
                      have H' := Aside0.mk H
                      clear H
                      have p127 : 0 ≤ (x20_2 : Int) := of_decide_eq_true (by first | (with_reducible assumption) | assumption)
                      have q127 : x20_2 < (l1.length : Int) := of_decide_eq_true (by first | (with_reducible assumption) | assumption)
                      obtain ⟨ad127, e127, hx127_0⟩ := Kd.at_int HR1.out x20_2 p127 q127
                      cases e127
                      replace p127 := eq_true p127
                      replace q127 := eq_true q127
                      have p128 : 0 ≤ ((rd l1 x20_2) : Int) := of_decide_eq_true (by first | (with_reducible assumption) | assumption)
                      have q128 : (rd l1 x20_2) < (l0.length : Int) := of_decide_eq_true (by first | (with_reducible assumption) | assumption)
                      obtain ⟨ad128, e128, hx128_0⟩ := Kd.at_int HR0.out (rd l1 x20_2) p128 q128
                      cases e128
                      replace p128 := eq_true p128
                      replace q128 := eq_true q128
                      go_wp2
                      go_roundg k2
                      case measure => have := HJ2.out; have := HK2.out; omega
                      case rel => exact ⟨(wrap64 (x5_2 * (rd l0 (rd l1 x20_2)))), (wrap64 (x20_2 + 1)), (by first | rfl | (simp; done) | (simp [*]; done)), (by first | rfl | (simp; done) | (simp [*]; done)), H', ⟨by have := HJ2.out; have := HK2.out; omega⟩, by repeat (first | exact Drawn0.refl _ | apply Drawn0.step)⟩
                    · rw [if_neg c12] at H
                      exact absurd H (by simp)
                  · rw [if_neg c11] at H
                    exact absurd H (by simp)
                · rw [if_neg c10] at H
                  exact absurd H (by simp)
              · rw [if_neg c9] at H
                exact absurd H (by simp)
            · rw [if_neg c8] at H
              have c8b0 : decide (x20_2 < (l1.length : Int)) = false := decide_eq_false c8
              clear c8
              obtain rfl := Option.some.inj H
              go_wp2
              go_ret
              exact ⟨by first | rfl | (simp; done) | (simp [*]; done), by repeat (first | exact Drawn0.refl _ | apply Drawn0.step)⟩

-- NOT PRINTED: function 69 (impl_BackCounts_1)

/-- What BackCounts' own function does with a word. -/
def backF (k : Nat) (urn : List Int) (a : Int) (q : List Int) : Option Int := (impl_BackWays.f k urn q).bind fun x => some (wrap64 (a + x))
set_option maxHeartbeats 2000000 in
set_option maxRecDepth 100000 in
theorem back_tells (k : Nat) (w00 w1 : World) (g Bu : Nat) (Au : Option Addr) (cu : Nat) (urn : List Int) (hC : Kd.C (Kd.int .i64) w00 Au urn.length urn) (hc : urn.length ≤ cu) (hB : Below w00.heap.size w00 w1) (hg0 : w00.heap.size ≤ g)
    (hbu : w1.heap[Bu]? = some (.cells #[.slice Au urn.length cu] 23 (0, 0))) (h1 : Bu ≠ g) :
    Tells 69 #[.pointer (some ⟨g, 0, none⟩), .pointer (some ⟨Bu, 0, none⟩)] w1 g (backF k urn) := by
  intro W a a' Aq cq q hA hq hcq hf
  unfold backF at hf
  obtain ⟨x, e1, hf⟩ := Option.bind_eq_some_iff.mp hf
  obtain rfl := Option.some.inj hf
  have cU := cell_of_one (hA.stay.keep hbu h1)
  have cN := cell_of_one hA.now
  have fN := free_of_one hA.now
  have hbW : Below w00.heap.size w00 W := hA.stay.toBelow hB hg0
  have HA := Aside0.mk hA
  have HQ := Aside0.mk hq
  have HU := Aside0.mk (Kd.C_below hC hbW)
  have E1 := Aside0.mk e1
  clear hA hq hbW e1 hC hbu hB hf
  show Calls Try.prog 69 #[.slice Aq q.length cq, .pointer (some ⟨g, 0, none⟩), .pointer (some ⟨Bu, 0, none⟩)] W _
  go_enter Try.func69, Try.ntmps69
  go_wp2_with (fail)
  go_region_with (go_at_call 50; refine (impl_BackWays.calls k Au cu urn Aq cq q x _ (by first | exact HU.out | exact Kd.C_drew HU.out | exact Kd.C_drewN HU.out _) hc (by first | exact HQ.out | exact Kd.C_drew HQ.out | exact Kd.C_drewN HQ.out _) hcq E1.out).mono ?_; rintro e w2 ⟨rfl, hD2⟩; have hB2 := hD2.below; have cN2 := cell_of_one (((below_undrew hB2).block g (lt_of_block HA.out.now)).trans HA.out.now); have fN2 := free_of_one (((below_undrew hB2).block g (lt_of_block HA.out.now)).trans HA.out.now); have HB2 := Aside0.mk hB2; clear hB2 hD2)
  all_goals
    have e : IntKind.i64.wrap (a + x) = wrap64 (a + x) := by simp only [IntKind.wrap_i64, wrap64]
    have hS := ((Stay.refl W g).below (below_undrew HB2.out)).far ⟨g, 0, none⟩ (.int .i64 (wrap64 (a + x))) (.inl rfl)
    have hN := one_setCell (u := .int .i64 (wrap64 (a + x))) (((below_undrew HB2.out).block g (lt_of_block HA.out.now)).trans HA.out.now)
    go_end0
    rw [e]
    exact ⟨rfl, hS, hN⟩
def impl_BackCounts.f (k : Nat) (l0 : List Int) (l1 : List Int) : Option (Int) := (impl_UrnOk.f k l0).bind fun t1 => (if t1 = true then ((impl_CountRowOk.f k (l0.length : Int) l1).bind fun t2 => (if t2 = true then ((impl_sum.f k l1).bind fun n => (if 0 ≤ n ∧ n ≤ 6 ∧ l1.length ≤ 3 then tellAll (withF k l1 (backF k l0)) 0 (allW l1.length n.toNat) else none)) else (some (-1)))) else (some (-1)))
theorem impl_BackCounts.mono : ∀ a0 a1 k, LeO (impl_BackCounts.f k a0 a1) (impl_BackCounts.f (k + 1) a0 a1) := fun a0 a1 k =>
  LeO.bind (impl_UrnOk.mono _ _) fun t1 => LeO.ite (LeO.bind (impl_CountRowOk.mono _ _ _) fun t2 => LeO.ite (LeO.bind (impl_sum.mono _ _) fun n => LeO.ite (tellAll_mono (fun a q => withF_mono k a1 (fun a q => LeO.bind (impl_BackWays.mono _ _ _) fun x => LeO.refl _) a q) _ _) (LeO.refl _)) (LeO.refl _)) (LeO.refl _)
theorem back_with (k : Nat) (w w0 : World) (g Bu n : Nat) (A0 : Option Addr) (c0 : Nat) (l0 : List Int) (A1 : Option Addr) (c1 : Nat) (l1 : List Int) (r : Int) (hr0 : Kd.C (Kd.int .i64) w A0 l0.length l0) (hc0 : l0.length ≤ c0) (hr1 : Kd.C (Kd.int .i64) w A1 l1.length l1) (hc1 : l1.length ≤ c1)
    (hn : n ≤ 6) (hcol : l1.length ≤ 3) (hs : impl_sum.f k l1 = some (n : Int)) (hf : tellAll (withF k l1 (backF k l0)) 0 (allW l1.length n) = some r) (hg0 : w.heap.size ≤ g) (h1 : Bu ≠ g)
    (hB : Below w.heap.size w w0) (hbu : w0.heap[Bu]? = some (.cells #[.slice A0 l0.length c0] 23 (0, 0))) (hg : w0.heap[g]? = some (.cells #[.int .i64 0] 3 (0, 0))) :
    Calls Try.prog 57 #[.slice A1 l1.length c1, .func (.func 69) #[] #[.pointer (some ⟨g, 0, none⟩), .pointer (some ⟨Bu, 0, none⟩)]] w0 fun e W' => e = .returned (.tuple #[]) ∧ Stay w0 W' g ∧ W'.heap[g]? = some (.cells #[.int .i64 r] 3 (0, 0)) :=
  wordsWith_any k w w0 g 69 n _ (backF k l0) A1 c1 l1 0 r (enters 69 _ _ Try.func69 (by kernel_rfl) rfl)
    (fun w1 hb => back_tells k w w1 g Bu A0 c0 l0 hr0 hc0 (below_next hb hB) hg0 ((hb.block Bu (lt_of_block hbu)).trans hbu) h1) hr1 hc1 hB hg0 hg hn hcol hs hf
set_option maxHeartbeats 8000000 in
set_option maxRecDepth 100000 in
theorem impl_BackCounts.calls (k : Nat) (A0 : Option Addr) (c0 : Nat) (l0 : List Int) (A1 : Option Addr) (c1 : Nat) (l1 : List Int) (r : Int) (w : World) (hr0 : Kd.C (Kd.int .i64) w A0 l0.length l0) (hc0 : l0.length ≤ c0) (hr1 : Kd.C (Kd.int .i64) w A1 l1.length l1) (hc1 : l1.length ≤ c1) (h : impl_BackCounts.f k l0 l1 = some r) :
    Calls Try.prog 22 #[.slice A0 l0.length c0, .slice A1 l1.length c1] w fun e w' => e = .returned (.int .i64 r) ∧ Below w.heap.size w w' := by
  unfold impl_BackCounts.f at h
  obtain ⟨t1, e1, h⟩ := Option.bind_eq_some_iff.mp h
  have E1 := Aside0.mk e1
  have HU := Aside0.mk hr0
  clear e1
  cases t1 with
  | false =>
    obtain rfl : (-1 : Int) = r := by simpa using h
    clear h hr0 hr1
    go_enter Try.func22, Try.ntmps22
    go_wp2_with (first | (go_at_call 39; refine (impl_UrnOk.calls k A0 c0 l0 false _ (by first | exact Kd.C_alloc HU.out _ | exact Kd.C_drew (Kd.C_alloc HU.out _)) hc0 E1.out).mono ?_; rintro e w2 ⟨rfl, hD⟩; obtain ⟨nd, rfl⟩ := hD.out; clear hD))
    go_ret
    exact ⟨rfl, by repeat (first | exact Below.refl _ _ | apply pw_below_drewN | apply below_drew | apply below_alloc)⟩
  | true =>
    simp only [if_true] at h
    obtain ⟨t2, e2, h⟩ := Option.bind_eq_some_iff.mp h
    have E2 := Aside0.mk e2
    have HV := Aside0.mk hr1
    clear e2
    cases t2 with
    | false =>
      obtain rfl : (-1 : Int) = r := by simpa using h
      clear h hr0 hr1
      go_enter Try.func22, Try.ntmps22
      go_wp2_with (first | (go_at_call 39; refine (impl_UrnOk.calls k A0 c0 l0 true _ (Kd.C_alloc HU.out _) hc0 E1.out).mono ?_; rintro e w2 ⟨rfl, hD⟩; obtain ⟨nd, rfl⟩ := hD.out; clear hD) | (go_at_call 56; refine (impl_CountRowOk.calls k (l0.length : Int) A1 c1 l1 false _ (by repeat (first | exact HV.out | refine Kd.C_drewN ?_ _ | refine Kd.C_alloc ?_ _)) hc1 E2.out).mono ?_; rintro e w3 ⟨rfl, hD⟩; obtain ⟨nd2, rfl⟩ := hD.out; clear hD))
      go_ret
      exact ⟨rfl, by repeat (first | exact Below.refl _ _ | apply pw_below_drewN | apply below_drew | apply below_alloc)⟩
    | true =>
      simp only [if_true] at h
      obtain ⟨n, e3, h⟩ := Option.bind_eq_some_iff.mp h
      by_cases hn : 0 ≤ n ∧ n ≤ 6 ∧ l1.length ≤ 3
      · rw [if_pos hn] at h
        obtain ⟨m, rfl⟩ := Int.eq_ofNat_of_zero_le hn.1
        rw [Int.toNat_natCast] at h
        have hw := fun w0 hB hbu hg => back_with k w w0 (w.heap.size + 1) w.heap.size m A0 c0 l0 A1 c1 l1 r hr0 hc0 hr1 hc1 (by omega) hn.2.2 e3 h (by omega) (by omega) hB hbu hg
        have h1 : ((w.alloc (.cells #[.slice A0 l0.length c0] 23)).alloc (.cells #[.int .i64 0] 3)).heap[w.heap.size]? = some (.cells #[.slice A0 l0.length c0] 23 (0, 0)) := by
          rw [alloc_at, if_neg (by simp), alloc_at, if_pos rfl]
        have h2 : ((w.alloc (.cells #[.slice A0 l0.length c0] 23)).alloc (.cells #[.int .i64 0] 3)).heap[w.heap.size + 1]? = some (.cells #[.int .i64 0] 3 (0, 0)) := by
          rw [alloc_at, if_pos (by simp)]
        have HW := Aside0.mk hw
        have H1 := Aside0.mk h1
        have H2 := Aside0.mk h2
        clear hw h1 h2 h e3 hr0 hr1 hn
        go_enter Try.func22, Try.ntmps22
        go_wp2_with (first | (go_at_call 39; refine (impl_UrnOk.calls k A0 c0 l0 true _ (Kd.C_alloc HU.out _) hc0 E1.out).mono ?_; rintro e w2 ⟨rfl, hD⟩; obtain ⟨nd, rfl⟩ := hD.out; clear hD) | (go_at_call 56; refine (impl_CountRowOk.calls k (l0.length : Int) A1 c1 l1 true _ (by repeat (first | exact HV.out | refine Kd.C_drewN ?_ _ | refine Kd.C_alloc ?_ _)) hc1 E2.out).mono ?_; rintro e w3 ⟨rfl, hD⟩; obtain ⟨nd2, rfl⟩ := hD.out; clear hD) | (go_at_call 57; refine (HW.out _ (by repeat (first | exact Below.refl _ _ | apply pw_below_drewN | apply below_drew | apply below_alloc)) (by exact H1.out) (by exact H2.out)).mono ?_; rintro e w4 ⟨rfl, q1, q2⟩; have cN4 := cell_of_one q2; have HQ1 := Aside0.mk q1; clear q1 q2))
        go_ret
        exact ⟨rfl, HQ1.out.toBelow (by repeat (first | exact Below.refl _ _ | apply pw_below_drewN | apply below_drew | apply below_alloc)) (by omega)⟩
      · rw [if_neg hn] at h
        cases h

end Go.Proofs.Ythpjeinjldfmjaa.QFnBackCounts
