/- What the functions that the law FnWordWays reaches come to, each with its proof; and the row of the law. -/
import Derived.Test.YthpjeinjldfmjaaQFnWordWaysx0
import Derived.Test.YthpjeinjldfmjaaQFnWordWaysx1
namespace Go.Proofs.Ythpjeinjldfmjaa.QFnWordWays
open Go.RowKit Go.Proofs.YthpjeinjldfmjaaW.PrintWords Go.Proofs.YthpjeinjldfmjaaW.PrintLast Go.Proofs.YthpjeinjldfmjaaW.PrintMore
attribute [local go_sem] max2_int min2_int max_two min_two max_three min_three max_four min_four   -- for this text's walks alone
set_option linter.unusedVariables false
set_option linter.unusedSimpArgs false

/-! ### impl_CountsOf: function 46 -/
def impl_CountsOf.l0 : Nat → List Int → List Int → Int → Int → Option (List Int)
  | 0, _, _, _, _ => none
  | k + 1, x5, x14, x15, x16 => if x16 < x15 then (if 0 ≤ x16 then (if x16 < (x14.length : Int) then (if 0 ≤ (rd x14 x16) then (if (rd x14 x16) < (x5.length : Int) then (impl_CountsOf.l0 k (x5.set ((rd x14 x16) : Int).toNat (wrap64 ((rd x5 (rd x14 x16)) + 1))) x14 x15 (wrap64 (x16 + 1))) else (none)) else (none)) else (none)) else (none)) else (some x5)
def impl_CountsOf.f (k : Nat) (a0 : Int) (l1 : List Int) : Option (List Int) := (impl_WordOk.f k a0 l1).bind fun t116 => (if t116 = true then (if 0 ≤ a0 then (if (a0 : Int).toNat ≤ 35184372088832 then (impl_CountsOf.l0 k (List.replicate (a0 : Int).toNat 0) l1 (l1.length : Int) 0) else (none)) else (none)) else (some ([] : List Int)))
theorem impl_CountsOf.mono_l : ∀ k, (∀ y0 y1 y2 y3, LeO (impl_CountsOf.l0 k y0 y1 y2 y3) (impl_CountsOf.l0 (k + 1) y0 y1 y2 y3))
  | 0 => fun _ _ _ _ r h => by simp [impl_CountsOf.l0] at h
  | k + 1 => by
    have ih0 := impl_CountsOf.mono_l k
    · intro y0 y1 y2 y3
      unfold impl_CountsOf.l0
      repeat' first
      | (with_reducible exact ih0 _ _ _ _)
      | (with_reducible exact impl_WordOk.mono _ _ _)
      | (with_reducible exact LeO.refl _)
      | (with_reducible exact LeO.none _)
      | (with_reducible refine LeO.ite ?_ ?_)
      | (with_reducible refine LeO.bind ?_ (fun _ => ?_))
      | exact ih0 _ _ _ _
      | exact impl_WordOk.mono _ _ _
      | exact LeO.none _
      | refine LeO.ite ?_ ?_
      | refine LeO.bind ?_ (fun _ => ?_)
theorem impl_CountsOf.mono : ∀ a0 a1 k, LeO (impl_CountsOf.f k a0 a1) (impl_CountsOf.f (k + 1) a0 a1) := by
  intro a0 a1 k
  have ih0 := impl_CountsOf.mono_l k
  unfold impl_CountsOf.f
  repeat' first
      | (with_reducible exact ih0 _ _ _ _)
      | (with_reducible exact impl_WordOk.mono _ _ _)
      | (with_reducible exact LeO.refl _)
      | (with_reducible exact LeO.none _)
      | (with_reducible refine LeO.ite ?_ ?_)
      | (with_reducible refine LeO.bind ?_ (fun _ => ?_))
      | exact ih0 _ _ _ _
      | exact impl_WordOk.mono _ _ _
      | exact LeO.none _
      | refine LeO.ite ?_ ?_
      | refine LeO.bind ?_ (fun _ => ?_)
set_option maxHeartbeats 8000000 in
set_option maxRecDepth 100000 in
theorem impl_CountsOf.calls (k : Nat) (a0 : Int) (A1 : Option Addr) (c1 : Nat) (l1 : List Int) (r : List Int) (w : World) (hr1 : Kd.C (Kd.int .i64) w A1 l1.length l1) (hc1 : l1.length ≤ c1) (h : impl_CountsOf.f k a0 l1 = some r) :
    Calls Try.prog 46 #[.int .i64 a0, .slice A1 l1.length c1] w fun e w' => ∃ v0_ : Value, e = .returned (v0_) ∧ Kd.R (Kd.int .i64) 3 w' w.heap.size (fun _ => True) v0_ r ∧ Below w.heap.size w w' := by
  have HR1 := Aside0.mk hr1
  have HC1 := Aside0.mk hc1
  clear hr1 hc1
  have HB := Aside0.mk (Below.refl w.heap.size w)
  have H : ((impl_WordOk.f k a0 l1).bind fun t116 => (if t116 = true then (if 0 ≤ a0 then (if (a0 : Int).toNat ≤ 35184372088832 then (impl_CountsOf.l0 k (List.replicate (a0 : Int).toNat 0) l1 (l1.length : Int) 0) else (none)) else (none)) else (some ([] : List Int)))) = some r := h
  clear h
  replace H := Option.bind_eq_some_iff.mp H
  obtain ⟨t116, A30, H⟩ := H
  replace H : (if t116 = true then (if 0 ≤ a0 then (if (a0 : Int).toNat ≤ 35184372088832 then (impl_CountsOf.l0 k (List.replicate (a0 : Int).toNat 0) l1 (l1.length : Int) 0) else (none)) else (none)) else (some ([] : List Int))) = some r := H
  have A3 := Aside0.mk A30
  clear A30
  by_cases c4 : t116 = true
  · subst c4
    have H1 : (if 0 ≤ a0 then (if (a0 : Int).toNat ≤ 35184372088832 then (impl_CountsOf.l0 k (List.replicate (a0 : Int).toNat 0) l1 (l1.length : Int) 0) else (none)) else (none)) = some r := by rw [if_pos rfl] at H; exact H
    clear H
    have H := H1
    clear H1
    by_cases c5 : 0 ≤ a0
    · rw [if_pos c5] at H
      have c5b0 := eq_true c5
      have c5b1 : decide (0 ≤ a0) = true := decide_eq_true c5
      clear c5
      by_cases c6 : (a0 : Int).toNat ≤ 35184372088832
      · rw [if_pos c6] at H
        have c6b0 := eq_true c6
        have c6b1 : decide ((a0 : Int).toNat ≤ 35184372088832) = true := decide_eq_true c6
        clear c6
        obtain ⟨y117, hy117⟩ : ∃ y_ : List Int, y_ = (List.replicate (a0 : Int).toNat 0) := ⟨_, rfl⟩
        replace H : (impl_CountsOf.l0 k y117 l1 (l1.length : Int) 0) = some r := by first | (rw [hy117]; with_reducible exact H) | (have H2_ := (Option.bind_some _ _).symm.trans H; rw [hy117]; with_reducible exact H2_) | (have H2_ := (Option.bind_some _ _).symm.trans H; with_reducible exact H2_) | with_reducible exact H | (rw [hy117]; exact H) | exact H
        have Ny117 := Aside0.mk hy117
        clear hy117
        have H' := Aside0.mk H
        clear H
        go_enter Try.func46, Try.ntmps46
        go_wp2_with (first | ((with_reducible refine gate_callee (f := 68) rfl ?_); refine goesL_ (some 10) rfl rfl Try.func68 (by kernel_rfl) rfl #[.int .i64 a0, .slice A1 l1.length c1] rfl (by (try simp only [List.map_toArray, List.map_cons, List.map_nil]); first | done | rfl | (simp only [List.length_drop, List.length_take]; rfl)) ?_; (with_reducible refine (impl_WordOk.calls k a0 _ _ l1 true _ ?side1 ?side2 A3.out).mono ?_); (case side1 => repeat (first | exact HR1.out | (with_reducible refine Kd.C_alloc ?_ _) | (with_reducible refine Kd.C_drewN ?_ _) | (with_reducible refine Kd.C_drew ?_))); (case side2 => exact HC1.out); rintro e w' ⟨rfl, ⟨nd, rfl⟩⟩; refine ⟨_, rfl, ?_⟩) | ((with_reducible refine gate_dst (N := 13) rfl ?_); refine Kd.R_make (Kd.int .i64) _ 3 rfl (N := 13) rfl 23 _ _ rfl a0 rfl rfl Try.underlying23 (.int .i64 0) 8 info3 rfl (by decide) (by omega) 0 (ok := fun _ => True) (okp := fun _ => True) rfl (fun _ hk => hk) trivial (of_decide_eq_true (by first | (with_reducible assumption) | assumption)) (Nat.le_trans (Nat.mul_le_mul_right _ (of_decide_eq_true (by first | (with_reducible assumption) | assumption) : a0.toNat ≤ 35184372088832)) (by omega)) (Below.refl _ _) (Nat.le_refl _) ?_; intro v118 w7 ho8 hb hg_ hnew_; clear hg_ hnew_; (first | rw [← Ny117.out] at ho8 | (simp only [Int.reduceToNat] at ho8; rw [← Ny117.out] at ho8)); have n0_ := Aside0.mk (Kd.R_lower ho8 (below_size (by repeat (first | (with_reducible first | exact HB.out | apply below_alloc | apply pw_below_drewN | apply below_drew1) | exact HB.out)))); have n1_ := Aside0.mk (below_step (by repeat (first | (with_reducible first | exact HB.out | apply below_alloc | apply pw_below_drewN | apply below_drew1) | exact HB.out)) hb); clear HB; have HO119 := n0_; have HB := n1_; clear n0_ n1_; clear hb ho8))
        go_loopg [16] k (fun kq v16 w' => ∃ (x5_1 : List Int) (x16_1 : Int), v16 = .int .i64 x16_1 ∧ Aside0 (impl_CountsOf.l0 kq x5_1 l1 (l1.length : Int) x16_1 = some r) ∧ Aside0 (kq ≤ k) ∧ Aside0 (Kd.R (Kd.int .i64) 3 w' w.heap.size (fun _ => True) v118 x5_1) ∧ Aside0 (Below w.heap.size w w'))
        case atStart => exact ⟨(y117), (0), (by first | rfl | (simp; done) | (simp [*]; done)), H', ⟨Nat.le_refl _⟩, ⟨by (with_reducible repeat (first | apply Kd.R_alloc | apply Kd.R_drewN | apply Kd.R_drew)); exact HO119.out⟩, ⟨by repeat (first | (with_reducible first | exact HB.out | apply below_alloc | apply pw_below_drewN | apply below_drew1) | exact HB.out)⟩⟩
        case round =>
          clear H'
          try clear c1
          try clear p2
          try clear c4
          try clear c5
          try clear c5b0
          try clear c5b1
          try clear c6
          try clear c6b0
          try clear c6b1
          obtain ⟨x5_1, x16_1, rfl, HA, HK1, HO_5, HB⟩ := hrel
          cases gk with
          | zero => exact absurd HA.out (by simp [impl_CountsOf.l0])
          | succ k1 =>
            have H := HA.out
            clear HA
            simp only [impl_CountsOf.l0] at H
            by_cases c9 : x16_1 < (l1.length : Int)
            · rw [if_pos c9] at H
              have c9b0 : decide (x16_1 < (l1.length : Int)) = true := decide_eq_true c9
              clear c9
              by_cases c10 : 0 ≤ x16_1
              · rw [if_pos c10] at H
                have c10b0 : decide (0 ≤ x16_1) = true := decide_eq_true c10
                clear c10
                by_cases c11 : x16_1 < (l1.length : Int)
                · rw [if_pos c11] at H
                  have c11b0 : decide (x16_1 < (l1.length : Int)) = true := decide_eq_true c11
                  clear c11
                  by_cases c12 : 0 ≤ (rd l1 x16_1)
                  · rw [if_pos c12] at H
                    have c12b0 : decide (0 ≤ (rd l1 x16_1)) = true := decide_eq_true c12
                    clear c12
                    by_cases c13 : (rd l1 x16_1) < (x5_1.length : Int)
                    · rw [if_pos c13] at H
                      have c13b0 : decide ((rd l1 x16_1) < (x5_1.length : Int)) = true := decide_eq_true c13
                      clear c13
                      obtain ⟨y122, hy122⟩ : ∃ y_ : List Int, y_ = (x5_1.set ((rd l1 x16_1) : Int).toNat (wrap64 ((rd x5_1 (rd l1 x16_1)) + 1))) := ⟨_, rfl⟩
                      replace H : (impl_CountsOf.l0 k1 y122 l1 (l1.length : Int) (wrap64 (x16_1 + 1))) = some r := by first | (rw [hy122]; with_reducible exact H) | (have H2_ := (Option.bind_some _ _).symm.trans H; rw [hy122]; with_reducible exact H2_) | (have H2_ := (Option.bind_some _ _).symm.trans H; with_reducible exact H2_) | with_reducible exact H | (rw [hy122]; exact H) | exact H
                      have Ny122 := Aside0.mk hy122
                      clear hy122
                      have H' := Aside0.mk H
                      clear H
                      have p120 : 0 ≤ (x16_1 : Int) := of_decide_eq_true (by first | (with_reducible assumption) | assumption)
                      have q120 : x16_1 < (l1.length : Int) := of_decide_eq_true (by first | (with_reducible assumption) | assumption)
                      obtain ⟨ad120, e120, hx120_0⟩ := Kd.at_int HR1.out x16_1 p120 q120
                      cases e120
                      replace hx120_0 := (HB.out.cell (World.block_lt_of_cell? w _ hx120_0)).trans hx120_0
                      replace p120 := eq_true p120
                      replace q120 := eq_true q120
                      obtain ⟨Ao15, co15, eo15⟩ := Kd.R_slice HO_5.out
                      subst eo15
                      have p121 : 0 ≤ ((rd l1 x16_1) : Int) := of_decide_eq_true (by first | (with_reducible assumption) | assumption)
                      have q121 : (rd l1 x16_1) < (x5_1.length : Int) := of_decide_eq_true (by first | (with_reducible assumption) | assumption)
                      obtain ⟨ad121, e121, hx121_0⟩ := Kd.at_int (Kd.R_reads' HO_5.out).2.2 (rd l1 x16_1) p121 q121
                      cases e121
                      replace p121 := eq_true p121
                      replace q121 := eq_true q121
                      have p14 : 0 ≤ ((rd l1 x16_1) : Int) := of_decide_eq_true (by first | (with_reducible assumption) | assumption)
                      have q14 : ((rd l1 x16_1) : Int) < ((x5_1.length : Int) : Int) := of_decide_eq_true (by first | (with_reducible assumption) | assumption)
                      obtain ⟨go14, co14, eo14, gb14, gl14, cl14, HG14⟩ := Kd.R_form HO_5.out (by omega)
                      (first | cases eo14 | (injection eo14 with ea_ en_ ec_; (first | subst ea_ | (injection ea_ with ea_; subst ea_)); subst ec_; clear en_))
                      have GB14 := Aside0.mk gb14
                      have GG14 := Aside0.mk HG14
                      clear gb14 gl14 HG14
                      (first | simp only [add_plain] at hx121_0 | skip)
                      obtain ⟨hx14_0, hf14_0⟩ := Kd.R_celln 0 HO_5.out ((rd l1 x16_1) : Int) p14 q14
                      replace p14 := eq_true p14
                      replace q14 := eq_true q14
                      have HP16 := Kd.R_putg HO_5.out ((rd l1 x16_1) : Int) (wrap64 ((rd x5_1 (rd l1 x16_1)) + 1))
                      go_wp2_with (first | ((with_reducible refine gate_store (t := 3) (p := 25) rfl ?_); refine store_event (t := 3) (p := 25) (v := ?vo_w17) (w1 := (wr.setCell ⟨go14, ((rd l1 x16_1) : Int).toNat, none⟩ (.int .i64 (wrap64 ((rd x5_1 (rd l1 x16_1)) + 1))))) ?hg ?ho ?hn ?hr ?_; (case ho => rfl); (case hg => rfl); (case hn => rfl); (case hr => first | (go_simp; done) | (go_simp; rfl)); intro w17 hw; have hg : wr.grownBy w17 (some go14) := (by rw [hw]; exact HP16.2); have hp_ : Kd.R (Kd.int .i64) 3 w17 w.heap.size (fun _ => True) (.slice (some ⟨go14, 0, none⟩) x5_1.length co15) y122 := (by rw [hw, Ny122.out]; exact HP16.1); clear HP16; have n0_ := Aside0.mk (hp_); have n1_ := Aside0.mk ((by rw [hw]; exact below_set (HB.out) GB14.out : Below w.heap.size w w17)); clear HO_5; clear HB; have HO_5 := n0_; have HB := n1_; clear n0_ n1_; clear hg hw hp_))
                      go_roundg k1
                      case measure => have := HK1.out; omega
                      case rel => exact ⟨(y122), (wrap64 (x16_1 + 1)), (by first | rfl | (simp; done) | (simp [*]; done)), H', ⟨by have := HK1.out; omega⟩, ⟨by (with_reducible repeat (first | apply Kd.R_alloc | apply Kd.R_drewN | apply Kd.R_drew)); exact HO_5.out⟩, ⟨by repeat (first | (with_reducible first | exact HB.out | apply below_alloc | apply pw_below_drewN | apply below_drew1) | exact HB.out)⟩⟩
                    · rw [if_neg c13] at H
                      exact absurd H (by simp)
                  · rw [if_neg c12] at H
                    exact absurd H (by simp)
                · rw [if_neg c11] at H
                  exact absurd H (by simp)
              · rw [if_neg c10] at H
                exact absurd H (by simp)
            · rw [if_neg c9] at H
              have c9b0 : decide (x16_1 < (l1.length : Int)) = false := decide_eq_false c9
              clear c9
              obtain rfl := Option.some.inj H
              go_wp2
              go_ret
              exact ⟨_, by first | rfl | (simp [errW_none, errW_some] <;> rfl) | (simp [*, errW_none, errW_some] <;> rfl), by (with_reducible repeat (first | apply Kd.R_alloc | apply Kd.R_drewN | apply Kd.R_drew)); exact HO_5.out, by repeat (first | (with_reducible first | exact HB.out | apply below_alloc | apply pw_below_drewN | apply below_drew1) | exact HB.out)⟩
      · rw [if_neg c6] at H
        exact absurd H (by simp)
    · rw [if_neg c5] at H
      exact absurd H (by simp)
  · replace c4 := Bool.eq_false_iff.mpr c4
    subst c4
    have H1 : (some ([] : List Int)) = some r := by rw [if_neg (show ¬ (false = true) by decide)] at H; exact H
    clear H
    have H := H1
    clear H1
    obtain rfl := Option.some.inj H
    go_enter Try.func46, Try.ntmps46
    go_wp2_with (first | ((with_reducible refine gate_callee (f := 68) rfl ?_); refine goesL_ (some 10) rfl rfl Try.func68 (by kernel_rfl) rfl #[.int .i64 a0, .slice A1 l1.length c1] rfl (by (try simp only [List.map_toArray, List.map_cons, List.map_nil]); first | done | rfl | (simp only [List.length_drop, List.length_take]; rfl)) ?_; (with_reducible refine (impl_WordOk.calls k a0 _ _ l1 false _ ?side1 ?side2 A3.out).mono ?_); (case side1 => repeat (first | exact HR1.out | (with_reducible refine Kd.C_alloc ?_ _) | (with_reducible refine Kd.C_drewN ?_ _) | (with_reducible refine Kd.C_drew ?_))); (case side2 => exact HC1.out); rintro e w' ⟨rfl, ⟨nd, rfl⟩⟩; refine ⟨_, rfl, ?_⟩))
    go_ret
    exact ⟨_, by first | rfl | (simp [errW_none, errW_some] <;> rfl) | (simp [*, errW_none, errW_some] <;> rfl), by first | exact Kd.R_nil _ _ _ _ _ | exact Kd.N_nil _ _ _ _ _ | exact Kd.V_nil _ _ _ _ _ | exact Kd.Q_nil _ _ _ _ _ | exact Kd.S_nil _ _ _ _ _, by repeat (first | (with_reducible first | exact HB.out | apply below_alloc | apply pw_below_drewN | apply below_drew1) | exact HB.out)⟩

/-! ### slices_Equal_int_int: function 87 -/
def slices_Equal_int_int.l0 : Nat → List Int → List Int → Int → Int → Option (Bool)
  | 0, _, _, _, _ => none
  | k + 1, x0, x1, x12, x13 => if x13 < x12 then (if 0 ≤ x13 then (if x13 < (x0.length : Int) then (if x13 < (x1.length : Int) then (if (rd x0 x13) = (rd x1 x13) then (slices_Equal_int_int.l0 k x0 x1 x12 (wrap64 (x13 + 1))) else (some false)) else (none)) else (none)) else (none)) else (some true)
def slices_Equal_int_int.f (k : Nat) (l0 : List Int) (l1 : List Int) : Option (Bool) := if (l0.length : Int) = (l1.length : Int) then (slices_Equal_int_int.l0 k l0 l1 (l0.length : Int) 0) else (some false)
theorem slices_Equal_int_int.mono_l : ∀ k, (∀ y0 y1 y2 y3, LeO (slices_Equal_int_int.l0 k y0 y1 y2 y3) (slices_Equal_int_int.l0 (k + 1) y0 y1 y2 y3))
  | 0 => fun _ _ _ _ r h => by simp [slices_Equal_int_int.l0] at h
  | k + 1 => by
    have ih0 := slices_Equal_int_int.mono_l k
    · intro y0 y1 y2 y3
      unfold slices_Equal_int_int.l0
      repeat' first
      | (with_reducible exact ih0 _ _ _ _)
      | (with_reducible exact LeO.refl _)
      | (with_reducible exact LeO.none _)
      | (with_reducible refine LeO.ite ?_ ?_)
      | (with_reducible refine LeO.bind ?_ (fun _ => ?_))
      | exact ih0 _ _ _ _
      | exact LeO.none _
      | refine LeO.ite ?_ ?_
      | refine LeO.bind ?_ (fun _ => ?_)
theorem slices_Equal_int_int.mono : ∀ a0 a1 k, LeO (slices_Equal_int_int.f k a0 a1) (slices_Equal_int_int.f (k + 1) a0 a1) := by
  intro a0 a1 k
  have ih0 := slices_Equal_int_int.mono_l k
  unfold slices_Equal_int_int.f
  repeat' first
      | (with_reducible exact ih0 _ _ _ _)
      | (with_reducible exact LeO.refl _)
      | (with_reducible exact LeO.none _)
      | (with_reducible refine LeO.ite ?_ ?_)
      | (with_reducible refine LeO.bind ?_ (fun _ => ?_))
      | exact ih0 _ _ _ _
      | exact LeO.none _
      | refine LeO.ite ?_ ?_
      | refine LeO.bind ?_ (fun _ => ?_)
set_option maxHeartbeats 8000000 in
set_option maxRecDepth 100000 in
theorem slices_Equal_int_int.calls (k : Nat) (A0 : Option Addr) (c0 : Nat) (l0 : List Int) (A1 : Option Addr) (c1 : Nat) (l1 : List Int) (r : Bool) (w : World) (hr0 : Kd.C (Kd.int .i64) w A0 l0.length l0) (hc0 : l0.length ≤ c0) (hr1 : Kd.C (Kd.int .i64) w A1 l1.length l1) (hc1 : l1.length ≤ c1) (h : slices_Equal_int_int.f k l0 l1 = some r) :
    Calls Try.prog 87 #[.slice A0 l0.length c0, .slice A1 l1.length c1] w fun e w' => e = .returned (.bool r) ∧ Drawn0 w w' := by
  have HR0 := Aside0.mk hr0
  have HC0 := Aside0.mk hc0
  clear hr0 hc0
  have HR1 := Aside0.mk hr1
  have HC1 := Aside0.mk hc1
  clear hr1 hc1
  have H : (if (l0.length : Int) = (l1.length : Int) then (slices_Equal_int_int.l0 k l0 l1 (l0.length : Int) 0) else (some false)) = some r := h
  clear h
  by_cases c3 : (l0.length : Int) = (l1.length : Int)
  · rw [if_pos c3] at H
    have c3b0 : ((l0.length : Int) == (l1.length : Int)) = true := beq_iff_eq.mpr c3
    have c3b1 : ((l0.length : Int) != (l1.length : Int)) = false := bne_eq_false_iff_eq.mpr c3
    have c3b2 : (l0.length == l1.length) = true := by first | simpa using c3 | (simp at c3 ⊢; omega)
    clear c3
    have H' := Aside0.mk H
    clear H
    go_enter Try.func87, Try.ntmps87
    go_wp2
    repeat (go_quiet (fail); try go_wp2)
    go_loopg [13] k (fun kq v13 w' => ∃ (x13_1 : Int), v13 = .int .i64 x13_1 ∧ Aside0 (slices_Equal_int_int.l0 kq l0 l1 (l0.length : Int) x13_1 = some r) ∧ Aside0 (kq ≤ k) ∧ Drawn0 w w')
    case atStart => exact ⟨(0), (by first | rfl | (simp; done) | (simp [*]; done)), H', ⟨Nat.le_refl _⟩, by repeat (first | exact Drawn0.refl _ | apply Drawn0.step)⟩
    case round =>
      clear H'
      try clear c1
      try clear p2
      try clear c3
      try clear c3b0
      try clear c3b1
      try clear c3b2
      obtain ⟨x13_1, rfl, HA, HK1, ⟨m1, rfl⟩⟩ := hrel
      cases gk with
      | zero => exact absurd HA.out (by simp [slices_Equal_int_int.l0])
      | succ k1 =>
        have H := HA.out
        clear HA
        simp only [slices_Equal_int_int.l0] at H
        by_cases c4 : x13_1 < (l0.length : Int)
        · rw [if_pos c4] at H
          have c4b0 : decide (x13_1 < (l0.length : Int)) = true := decide_eq_true c4
          clear c4
          by_cases c5 : 0 ≤ x13_1
          · rw [if_pos c5] at H
            have c5b0 : decide (0 ≤ x13_1) = true := decide_eq_true c5
            clear c5
            by_cases c6 : x13_1 < (l0.length : Int)
            · rw [if_pos c6] at H
              have c6b0 : decide (x13_1 < (l0.length : Int)) = true := decide_eq_true c6
              clear c6
              by_cases c7 : x13_1 < (l1.length : Int)
              · rw [if_pos c7] at H
                have c7b0 : decide (x13_1 < (l1.length : Int)) = true := decide_eq_true c7
                clear c7
                by_cases c8 : (rd l0 x13_1) = (rd l1 x13_1)
                · rw [if_pos c8] at H
                  have c8b0 : ((rd l0 x13_1) == (rd l1 x13_1)) = true := beq_iff_eq.mpr c8
                  have c8b1 : ((rd l0 x13_1) != (rd l1 x13_1)) = false := bne_eq_false_iff_eq.mpr c8
                  clear c8
                  have H' := Aside0.mk H
                  clear H
                  have p123 : 0 ≤ (x13_1 : Int) := of_decide_eq_true (by first | (with_reducible assumption) | assumption)
                  have q123 : x13_1 < (l0.length : Int) := of_decide_eq_true (by first | (with_reducible assumption) | assumption)
                  obtain ⟨ad123, e123, hx123_0⟩ := Kd.at_int HR0.out x13_1 p123 q123
                  cases e123
                  replace p123 := eq_true p123
                  replace q123 := eq_true q123
                  have p124 : 0 ≤ (x13_1 : Int) := of_decide_eq_true (by first | (with_reducible assumption) | assumption)
                  have q124 : x13_1 < (l1.length : Int) := of_decide_eq_true (by first | (with_reducible assumption) | assumption)
                  obtain ⟨ad124, e124, hx124_0⟩ := Kd.at_int HR1.out x13_1 p124 q124
                  cases e124
                  replace p124 := eq_true p124
                  replace q124 := eq_true q124
                  go_wp2
                  repeat (go_quiet (fail); try go_wp2)
                  go_roundg k1
                  case measure => have := HK1.out; omega
                  case rel => exact ⟨(wrap64 (x13_1 + 1)), (by first | rfl | (simp; done) | (simp [*]; done)), H', ⟨by have := HK1.out; omega⟩, by repeat (first | exact Drawn0.refl _ | apply Drawn0.step)⟩
                · rw [if_neg c8] at H
                  have c8b0 : ((rd l0 x13_1) == (rd l1 x13_1)) = false := beq_eq_false_iff_ne.mpr c8
                  have c8b1 : ((rd l0 x13_1) != (rd l1 x13_1)) = true := bne_iff_ne.mpr c8
                  obtain rfl := Option.some.inj H
                  have p123 : 0 ≤ (x13_1 : Int) := of_decide_eq_true (by first | (with_reducible assumption) | assumption)
                  have q123 : x13_1 < (l0.length : Int) := of_decide_eq_true (by first | (with_reducible assumption) | assumption)
                  obtain ⟨ad123, e123, hx123_0⟩ := Kd.at_int HR0.out x13_1 p123 q123
                  cases e123
                  replace p123 := eq_true p123
                  replace q123 := eq_true q123
                  have p124 : 0 ≤ (x13_1 : Int) := of_decide_eq_true (by first | (with_reducible assumption) | assumption)
                  have q124 : x13_1 < (l1.length : Int) := of_decide_eq_true (by first | (with_reducible assumption) | assumption)
                  obtain ⟨ad124, e124, hx124_0⟩ := Kd.at_int HR1.out x13_1 p124 q124
                  cases e124
                  replace p124 := eq_true p124
                  replace q124 := eq_true q124
                  go_wp2
                  repeat (go_quiet (fail); try go_wp2)
                  go_ret
                  exact ⟨by first | rfl | (simp; done) | (simp [*]; done), by repeat (first | exact Drawn0.refl _ | apply Drawn0.step)⟩
              · rw [if_neg c7] at H
                exact absurd H (by simp)
            · rw [if_neg c6] at H
              exact absurd H (by simp)
          · rw [if_neg c5] at H
            exact absurd H (by simp)
        · rw [if_neg c4] at H
          have c4b0 : decide (x13_1 < (l0.length : Int)) = false := decide_eq_false c4
          clear c4
          obtain rfl := Option.some.inj H
          go_wp2
          repeat (go_quiet (fail); try go_wp2)
          go_ret
          exact ⟨by first | rfl | (simp; done) | (simp [*]; done), by repeat (first | exact Drawn0.refl _ | apply Drawn0.step)⟩
  · rw [if_neg c3] at H
    have c3b0 : ((l0.length : Int) == (l1.length : Int)) = false := beq_eq_false_iff_ne.mpr c3
    have c3b1 : ((l0.length : Int) != (l1.length : Int)) = true := bne_iff_ne.mpr c3
    have c3b2 : (l0.length == l1.length) = false := by first | simpa using c3 | (simp at c3 ⊢; omega)
    obtain rfl := Option.some.inj H
    go_enter Try.func87, Try.ntmps87
    go_wp2
    repeat (go_quiet (fail); try go_wp2)
    go_ret
    exact ⟨by first | rfl | (simp; done) | (simp [*]; done), by repeat (first | exact Drawn0.refl _ | apply Drawn0.step)⟩

-- NOT PRINTED: function 86 (impl_wordsWith_1)

/-- wordsWith's own function: it tells on the words with the counts. -/
def withF (k : Nat) (counts : List Int) (f : Int → List Int → Option Int) (a : Int) (q : List Int) : Option Int :=
  (impl_CountsOf.f k (counts.length : Int) q).bind fun cs => (slices_Equal_int_int.f k cs counts).bind fun b => if b = true then f a q else some a
set_option maxHeartbeats 2000000 in
set_option maxRecDepth 100000 in
theorem with_tells (k : Nat) (w00 w1 : World) (g Bc Bt t : Nat) (lb : Array Value) (f : Int → List Int → Option Int) (A : Option Addr) (c : Nat) (counts : List Int)
    (eg : ∀ args w, (callFunc t args).run Try.prog w = .ok (.enter t args) w) (hT : Tells t lb w1 g f) (hC : Kd.C (Kd.int .i64) w00 A counts.length counts) (hc : counts.length ≤ c) (hB : Below w00.heap.size w00 w1) (hg0 : w00.heap.size ≤ g)
    (hbc : w1.heap[Bc]? = some (.cells #[.slice A counts.length c] 23 (0, 0))) (hbt : w1.heap[Bt]? = some (.cells #[.func (.func t) #[] lb] 61 (0, 0))) (h1 : Bc ≠ g) (h2 : Bt ≠ g) :
    Tells 86 #[.pointer (some ⟨Bc, 0, none⟩), .pointer (some ⟨Bt, 0, none⟩)] w1 g (withF k counts f) := by
  intro W a a' Aq cq q hA hq hcq hf
  unfold withF at hf
  obtain ⟨cs, e1, hf⟩ := Option.bind_eq_some_iff.mp hf
  obtain ⟨b, e2, hf⟩ := Option.bind_eq_some_iff.mp hf
  have cC := cell_of_one (hA.stay.keep hbc h1)
  have kT := hA.stay.keep hbt h2
  have hbW : Below w00.heap.size w00 W := hA.stay.toBelow hB hg0
  have HA := Aside0.mk hA
  have HQ := Aside0.mk hq
  have HW := Aside0.mk hbW
  have HT := Aside0.mk kT
  have E1 := Aside0.mk e1
  have E2 := Aside0.mk e2
  have HC := Aside0.mk hC
  have HT2 := Aside0.mk hT
  clear hA hq hbW kT e1 e2 hC hT hbc hbt hB
  cases b with
  | true =>
    simp only [if_true] at hf
    have Hf := Aside0.mk hf
    clear hf
    show Calls Try.prog 86 #[.slice Aq q.length cq, .pointer (some ⟨Bc, 0, none⟩), .pointer (some ⟨Bt, 0, none⟩)] W _
    go_enter Try.func86, Try.ntmps86
    go_wp2_with (fail)
    go_region_with (first | (go_at_call 46; refine (impl_CountsOf.calls k (counts.length : Int) Aq cq q cs _ (by first | exact HQ.out | exact Kd.C_drew HQ.out | exact Kd.C_drewN HQ.out _) hcq E1.out).mono ?_; rintro e w2 ⟨v2, rfl, hR2, hB2⟩; have cC2 := pw_cell_below hB2 (a := ⟨Bc, 0, none⟩) (v := .slice A counts.length c) (by first | exact cC | simpa using cC); have HW2 := Aside0.mk (below_next (w := w00) hB2 (by first | exact HW.out | exact HW.out.drew)); obtain ⟨A2, c2, rfl, hc2, hk2⟩ := Kd.R_reads hR2; have HK2 := Aside0.mk hk2; have HB2 := Aside0.mk hB2; clear hR2 hB2 hk2) | (go_at_call 87; refine (slices_Equal_int_int.calls k A2 c2 cs A c counts true _ HK2.out hc2 (Kd.C_below HC.out HW2.out) hc E2.out).mono ?_; rintro e w3 ⟨rfl, hD⟩; obtain ⟨nd, rfl⟩ := hD.out; clear hD))
    all_goals
      have hS2 : Stay W (w2.drewN nd) g := ((Stay.refl W g).below (below_undrew HB2.out)).drewN nd
      have hN2 : (w2.drewN nd).heap[g]? = some (.cells #[.int .i64 a] 3 (0, 0)) := ((below_undrew HB2.out).block g (lt_of_block HA.out.now)).trans HA.out.now
      have cT2 : w2.cell? ⟨Bt, 0, none⟩ = some (.func (.func t) #[] lb) := cell_of_one (((below_undrew HB2.out).block Bt (lt_of_block HT.out)).trans HT.out)
      have call := HT2.out (w2.drewN nd) a a' Aq cq q ⟨HA.out.stay.trans hS2, hN2⟩ (Kd.C_drewN (Kd.C_below HQ.out (below_undrew HB2.out)) nd) hcq Hf.out
      have HS2 := Aside0.mk hS2
      have HCall := Aside0.mk call
      clear hS2 hN2 call
      go_wp2_with (go_at_fn t; refine HCall.out.mono ?_; rintro e w4 ⟨rfl, q1, q2⟩)
      go_end0
      exact ⟨rfl, HS2.out.trans q1, q2⟩
  | false =>
    obtain rfl := Option.some.inj hf
    clear hf
    show Calls Try.prog 86 #[.slice Aq q.length cq, .pointer (some ⟨Bc, 0, none⟩), .pointer (some ⟨Bt, 0, none⟩)] W _
    go_enter Try.func86, Try.ntmps86
    go_wp2_with (fail)
    go_region_with (first | (go_at_call 46; refine (impl_CountsOf.calls k (counts.length : Int) Aq cq q cs _ (by first | exact HQ.out | exact Kd.C_drew HQ.out | exact Kd.C_drewN HQ.out _) hcq E1.out).mono ?_; rintro e w2 ⟨v2, rfl, hR2, hB2⟩; have cC2 := pw_cell_below hB2 (a := ⟨Bc, 0, none⟩) (v := .slice A counts.length c) (by first | exact cC | simpa using cC); have HW2 := Aside0.mk (below_next (w := w00) hB2 (by first | exact HW.out | exact HW.out.drew)); obtain ⟨A2, c2, rfl, hc2, hk2⟩ := Kd.R_reads hR2; have HK2 := Aside0.mk hk2; have HB2 := Aside0.mk hB2; clear hR2 hB2 hk2) | (go_at_call 87; refine (slices_Equal_int_int.calls k A2 c2 cs A c counts false _ HK2.out hc2 (Kd.C_below HC.out HW2.out) hc E2.out).mono ?_; rintro e w3 ⟨rfl, hD⟩; obtain ⟨nd, rfl⟩ := hD.out; clear hD))
    all_goals
      have hS2 : Stay W (w2.drewN nd) g := ((Stay.refl W g).below (below_undrew HB2.out)).drewN nd
      have hN2 : (w2.drewN nd).heap[g]? = some (.cells #[.int .i64 a] 3 (0, 0)) := ((below_undrew HB2.out).block g (lt_of_block HA.out.now)).trans HA.out.now
      have HS2 := Aside0.mk hS2
      have HN2 := Aside0.mk hN2
      clear hS2 hN2
      go_wp2_with (fail)
      go_end0
      exact ⟨rfl, HS2.out, HN2.out⟩
theorem with_words (k : Nat) (w00 w0 w1 : World) (g Bc Bt t n : Nat) (lb : Array Value) (f : Int → List Int → Option Int) (A : Option Addr) (c : Nat) (counts : List Int) (a a' : Int)
    (eg : ∀ args w, (callFunc t args).run Try.prog w = .ok (.enter t args) w) (hT : ∀ w1, Below w0.heap.size w0 w1 → Tells t lb w1 g f) (hC : Kd.C (Kd.int .i64) w00 A counts.length counts) (hc : counts.length ≤ c) (hB : Below w00.heap.size w00 w0)
    (hg0 : w00.heap.size ≤ g) (hg : w0.heap[g]? = some (.cells #[.int .i64 a] 3 (0, 0))) (hn : n ≤ 6) (hcol : counts.length ≤ 3) (hf : tellAll (withF k counts f) a (allW counts.length n) = some a')
    (hb : Below w0.heap.size w0 w1) (h1 : w0.heap.size ≤ Bc) (h2 : w0.heap.size ≤ Bt) (hbc : w1.heap[Bc]? = some (.cells #[.slice A counts.length c] 23 (0, 0))) (hbt : w1.heap[Bt]? = some (.cells #[.func (.func t) #[] lb] 61 (0, 0))) :
    Calls Try.prog 71 #[.int .i64 (counts.length : Int), .int .i64 (n : Int), .func (.func 86) #[] #[.pointer (some ⟨Bc, 0, none⟩), .pointer (some ⟨Bt, 0, none⟩)]] w1 fun e W' => e = .returned (.tuple #[]) ∧ Stay w1 W' g ∧ W'.heap[g]? = some (.cells #[.int .i64 a'] 3 (0, 0)) := by
  have hgl := lt_of_block hg
  exact words_any w1 g n counts.length 86 _ (withF k counts f) a a' (enters 86 _ _ Try.func86 (by kernel_rfl) rfl)
    (with_tells k w00 w1 g Bc Bt t lb f A c counts eg (hT w1 hb) hC hc (below_next hb hB) hg0 hbc hbt (by omega) (by omega)) hn hcol ((hb.block g hgl).trans hg) hf
theorem Stay.of_below {w W V : World} {g : Nat} (h : Below w.heap.size w W) (k : Stay W V g) : Stay w V g := ((Stay.refl w g).below h).trans k
set_option maxHeartbeats 2000000 in
set_option maxRecDepth 100000 in
theorem wordsWith_any (k : Nat) (w00 w0 : World) (g t n : Nat) (lb : Array Value) (f : Int → List Int → Option Int) (A : Option Addr) (c : Nat) (counts : List Int) (a a' : Int)
    (eg : ∀ args w, (callFunc t args).run Try.prog w = .ok (.enter t args) w) (hT : ∀ w1, Below w0.heap.size w0 w1 → Tells t lb w1 g f) (hC : Kd.C (Kd.int .i64) w00 A counts.length counts) (hc : counts.length ≤ c) (hB : Below w00.heap.size w00 w0)
    (hg0 : w00.heap.size ≤ g) (hg : w0.heap[g]? = some (.cells #[.int .i64 a] 3 (0, 0))) (hn : n ≤ 6) (hcol : counts.length ≤ 3) (hs : impl_sum.f k counts = some (n : Int)) (hf : tellAll (withF k counts f) a (allW counts.length n) = some a') :
    Calls Try.prog 57 #[.slice A counts.length c, .func (.func t) #[] lb] w0 fun e W' => e = .returned (.tuple #[]) ∧ Stay w0 W' g ∧ W'.heap[g]? = some (.cells #[.int .i64 a'] 3 (0, 0)) := by
  have hw := fun w1 hb hbc hbt => with_words k w00 w0 w1 g w0.heap.size (w0.heap.size + 1) t n lb f A c counts a a' eg hT hC hc hB hg0 hg hn hcol hf hb (Nat.le_refl _) (by omega) hbc hbt
  have h1 : ((w0.alloc (.cells #[.slice A counts.length c] 23)).alloc (.cells #[.func (.func t) #[] lb] 61)).heap[w0.heap.size]? = some (.cells #[.slice A counts.length c] 23 (0, 0)) := by
    rw [alloc_at, if_neg (by simp), alloc_at, if_pos rfl]
  have h2 : ((w0.alloc (.cells #[.slice A counts.length c] 23)).alloc (.cells #[.func (.func t) #[] lb] 61)).heap[w0.heap.size + 1]? = some (.cells #[.func (.func t) #[] lb] 61 (0, 0)) := by
    rw [alloc_at, if_pos (by simp)]
  have HW := Aside0.mk hw
  have H1 := Aside0.mk h1
  have H2 := Aside0.mk h2
  have HC := Aside0.mk hC
  have HB := Aside0.mk hB
  have HS := Aside0.mk hs
  clear hw h1 h2 hC hB hs hT hf hg
  go_enter Try.func57, Try.ntmps57
  go_wp2_with (fail)
  go_region_with (first | (go_at_call 75; refine (impl_sum.calls k A c counts (n : Int) _ (Kd.C_below HC.out (below_next (by repeat (first | exact Below.refl _ _ | apply pw_below_drewN | apply below_drew | apply below_alloc)) HB.out)) hc HS.out).mono ?_; rintro e w3 ⟨rfl, hD⟩; obtain ⟨nd, rfl⟩ := hD.out; clear hD) | (go_at_call 71; refine (HW.out _ (by repeat (first | exact Below.refl _ _ | apply pw_below_drewN | apply below_drew | apply below_alloc)) (by exact H1.out) (by exact H2.out)).mono ?_; rintro e w4 ⟨rfl, q1, q2⟩))
  all_goals
    go_end0
    exact ⟨rfl, Stay.of_below (by repeat (first | exact Below.refl _ _ | apply pw_below_drewN | apply below_drew | apply below_alloc)) q1, q2⟩
theorem withF_mono (k : Nat) (counts : List Int) {f g : Int → List Int → Option Int} (h : ∀ a q, LeO (f a q) (g a q)) (a : Int) (q : List Int) : LeO (withF k counts f a q) (withF (k + 1) counts g a q) :=
  LeO.bind (impl_CountsOf.mono _ _ _) fun cs => LeO.bind (slices_Equal_int_int.mono _ _ _) fun b => LeO.ite (h a q) (LeO.refl _)

-- NOT PRINTED: function 66 (impl_WordsWith_1)

/-- What WordsWith's own function does with a word. -/
def oneF (a : Int) (q : List Int) : Option Int := some (wrap64 (a + 1))
set_option maxHeartbeats 2000000 in
set_option maxRecDepth 100000 in
theorem one_tells (w1 : World) (g : Nat) : Tells 66 #[.pointer (some ⟨g, 0, none⟩)] w1 g oneF := by
  intro W a a' Aq cq q hA hq hcq hf
  obtain rfl := Option.some.inj hf
  have cN := cell_of_one hA.now
  have fN := free_of_one hA.now
  have HA := Aside0.mk hA
  clear hA hq hf
  show Calls Try.prog 66 #[.slice Aq q.length cq, .pointer (some ⟨g, 0, none⟩)] W _
  go_enter Try.func66, Try.ntmps66
  go_wp2_with (fail)
  go_end0
  exact ⟨rfl, (Stay.refl W g).far ⟨g, 0, none⟩ _ (.inl rfl), one_setCell HA.out.now⟩
def impl_WordsWith.f (k : Nat) (a0 : Int) (l1 : List Int) : Option (Int) := (impl_CountRowOk.f k a0 l1).bind fun t2 => (if t2 = true then ((impl_sum.f k l1).bind fun n => (if 0 ≤ n ∧ n ≤ 6 ∧ l1.length ≤ 3 then tellAll (withF k l1 oneF) 0 (allW l1.length n.toNat) else none)) else (some (-1)))
theorem impl_WordsWith.mono : ∀ a0 a1 k, LeO (impl_WordsWith.f k a0 a1) (impl_WordsWith.f (k + 1) a0 a1) := fun a0 a1 k =>
  LeO.bind (impl_CountRowOk.mono _ _ _) fun t2 => LeO.ite (LeO.bind (impl_sum.mono _ _) fun n => LeO.ite (tellAll_mono (fun a q => withF_mono k a1 (fun a q => LeO.refl _) a q) _ _) (LeO.refl _)) (LeO.refl _)
theorem one_with (k : Nat) (w w0 : World) (g n : Nat) (A1 : Option Addr) (c1 : Nat) (l1 : List Int) (r : Int) (hr1 : Kd.C (Kd.int .i64) w A1 l1.length l1) (hc1 : l1.length ≤ c1)
    (hn : n ≤ 6) (hcol : l1.length ≤ 3) (hs : impl_sum.f k l1 = some (n : Int)) (hf : tellAll (withF k l1 oneF) 0 (allW l1.length n) = some r) (hg0 : w.heap.size ≤ g)
    (hB : Below w.heap.size w w0) (hg : w0.heap[g]? = some (.cells #[.int .i64 0] 3 (0, 0))) :
    Calls Try.prog 57 #[.slice A1 l1.length c1, .func (.func 66) #[] #[.pointer (some ⟨g, 0, none⟩)]] w0 fun e W' => e = .returned (.tuple #[]) ∧ Stay w0 W' g ∧ W'.heap[g]? = some (.cells #[.int .i64 r] 3 (0, 0)) :=
  wordsWith_any k w w0 g 66 n _ oneF A1 c1 l1 0 r (enters 66 _ _ Try.func66 (by kernel_rfl) rfl) (fun w1 _ => one_tells w1 g) hr1 hc1 hB hg0 hg hn hcol hs hf
set_option maxHeartbeats 8000000 in
set_option maxRecDepth 100000 in
theorem impl_WordsWith.calls (k : Nat) (a0 : Int) (A1 : Option Addr) (c1 : Nat) (l1 : List Int) (r : Int) (w : World) (hr1 : Kd.C (Kd.int .i64) w A1 l1.length l1) (hc1 : l1.length ≤ c1) (h : impl_WordsWith.f k a0 l1 = some r) :
    Calls Try.prog 20 #[.int .i64 a0, .slice A1 l1.length c1] w fun e w' => e = .returned (.int .i64 r) ∧ Below w.heap.size w w' := by
  unfold impl_WordsWith.f at h
  obtain ⟨t2, e2, h⟩ := Option.bind_eq_some_iff.mp h
  have E2 := Aside0.mk e2
  have HV := Aside0.mk hr1
  clear e2
  cases t2 with
  | false =>
    obtain rfl : (-1 : Int) = r := by simpa using h
    clear h hr1
    go_enter Try.func20, Try.ntmps20
    go_wp2_with (first | (go_at_call 56; refine (impl_CountRowOk.calls k a0 A1 c1 l1 false _ HV.out hc1 E2.out).mono ?_; rintro e w3 ⟨rfl, hD⟩; obtain ⟨nd2, rfl⟩ := hD.out; clear hD))
    go_ret
    exact ⟨rfl, by repeat (first | exact Below.refl _ _ | apply pw_below_drewN | apply below_drew | apply below_alloc)⟩
  | true =>
    simp only [if_true] at h
    obtain ⟨n, e3, h⟩ := Option.bind_eq_some_iff.mp h
    by_cases hn : 0 ≤ n ∧ n ≤ 6 ∧ l1.length ≤ 3
    · rw [if_pos hn] at h
      obtain ⟨m, rfl⟩ := Int.eq_ofNat_of_zero_le hn.1
      rw [Int.toNat_natCast] at h
      have hw := fun w0 hB hg => one_with k w w0 w.heap.size m A1 c1 l1 r hr1 hc1 (by omega) hn.2.2 e3 h (by omega) hB hg
      have h2 : (w.alloc (.cells #[.int .i64 0] 3)).heap[w.heap.size]? = some (.cells #[.int .i64 0] 3 (0, 0)) := by
        rw [alloc_at, if_pos rfl]
      have b1 : ∀ (nd : Nat) (x : Value), ((w.drewN nd).alloc (.cells #[x] 3)).cell? ⟨w.heap.size, 0, none⟩ = some x := fun nd x => cell_of_one (heap_alloc_new (w.drewN nd) _)
      have b2 : ∀ (nd : Nat) (x : Value), ((w.drewN nd).alloc (.cells #[x] 3)).frozen? ⟨w.heap.size, 0, none⟩ = false := fun nd x => free_of_one (heap_alloc_new (w.drewN nd) _)
      have HW := Aside0.mk hw
      have H2 := Aside0.mk h2
      clear hw h2 h e3 hr1 hn
      go_enter Try.func20, Try.ntmps20
      go_wp2_with (first | (go_at_call 56; refine (impl_CountRowOk.calls k a0 A1 c1 l1 true _ HV.out hc1 E2.out).mono ?_; rintro e w3 ⟨rfl, hD⟩; obtain ⟨nd2, rfl⟩ := hD.out; clear hD) | (go_at_call 57; refine (HW.out _ (by repeat (first | exact Below.refl _ _ | apply pw_below_drewN | apply below_drew | apply below_alloc | refine below_set ?_ (Nat.le_refl _))) (by first | exact H2.out | exact one_setCell (heap_alloc_new (w.drewN _) _))).mono ?_; rintro e w4 ⟨rfl, q1, q2⟩; have cN4 := cell_of_one q2; have HQ1 := Aside0.mk q1; clear q1 q2))
      go_ret
      exact ⟨rfl, HQ1.out.toBelow (by repeat (first | exact Below.refl _ _ | apply pw_below_drewN | apply below_drew | apply below_alloc | refine below_set ?_ (Nat.le_refl _))) (by omega)⟩
    · rw [if_neg hn] at h
      cases h

/-! ### impl_SameRule: function 19 -/
mutual
def impl_SameRule.j0 : Nat → Int → Int → Bool → Option ((List (List Int)))
  | 0, _, _, _ => none
  | k + 1, x0, x1, x18 => if x18 = true then (some ([] : List (List Int))) else (impl_SameRule.l0 k x0 x1 (([] : List (List Int))) x0 0)
def impl_SameRule.l0 : Nat → Int → Int → List (List Int) → Int → Int → Option ((List (List Int)))
  | 0, _, _, _, _, _ => none
  | k + 1, x0, x1, x5, x20, x21 => if x21 < x20 then (if 0 ≤ x0 then (if (x0 : Int).toNat ≤ 35184372088832 then ((some (List.replicate (x0 : Int).toNat 0 : List Int)).bind fun y129 => (if 0 ≤ x21 then (if x21 < (y129.length : Int) then (if x5.length < 5864062014805 then (impl_SameRule.l0 k x0 x1 (x5 ++ [(y129.set (x21 : Int).toNat x1)]) x20 (wrap64 (x21 + 1))) else (none)) else (none)) else (none))) else (none)) else (none)) else (some x5)
end
def impl_SameRule.f (k : Nat) (a0 : Int) (a1 : Int) : Option ((List (List Int))) := (impl_coloursOk.f a0).bind fun t125 => (if t125 = true then (if a1 < (-1) then (impl_SameRule.j0 k a0 a1 true) else (impl_SameRule.j0 k a0 a1 (decide (a1 > 3)))) else (impl_SameRule.j0 k a0 a1 true))
theorem impl_SameRule.mono_l : ∀ k, (∀ y0 y1 y2, LeO (impl_SameRule.j0 k y0 y1 y2) (impl_SameRule.j0 (k + 1) y0 y1 y2)) ∧ (∀ y0 y1 y2 y3 y4, LeO (impl_SameRule.l0 k y0 y1 y2 y3 y4) (impl_SameRule.l0 (k + 1) y0 y1 y2 y3 y4))
  | 0 => ⟨fun _ _ _ r h => by simp [impl_SameRule.j0] at h, fun _ _ _ _ _ r h => by simp [impl_SameRule.l0] at h⟩
  | k + 1 => by
    obtain ⟨ih0, ih1⟩ := impl_SameRule.mono_l k
    refine ⟨?_, ?_⟩
    · intro y0 y1 y2
      unfold impl_SameRule.j0
      repeat' first
      | (with_reducible exact ih0 _ _ _)
      | (with_reducible exact ih1 _ _ _ _ _)
      | (with_reducible exact LeO.refl _)
      | (with_reducible exact LeO.none _)
      | (with_reducible refine LeO.ite ?_ ?_)
      | (with_reducible refine LeO.bind ?_ (fun _ => ?_))
      | exact ih0 _ _ _
      | exact ih1 _ _ _ _ _
      | exact LeO.none _
      | refine LeO.ite ?_ ?_
      | refine LeO.bind ?_ (fun _ => ?_)
    · intro y0 y1 y2 y3 y4
      unfold impl_SameRule.l0
      repeat' first
      | (with_reducible exact ih0 _ _ _)
      | (with_reducible exact ih1 _ _ _ _ _)
      | (with_reducible exact LeO.refl _)
      | (with_reducible exact LeO.none _)
      | (with_reducible refine LeO.ite ?_ ?_)
      | (with_reducible refine LeO.bind ?_ (fun _ => ?_))
      | exact ih0 _ _ _
      | exact ih1 _ _ _ _ _
      | exact LeO.none _
      | refine LeO.ite ?_ ?_
      | refine LeO.bind ?_ (fun _ => ?_)
theorem impl_SameRule.mono : ∀ a0 a1 k, LeO (impl_SameRule.f k a0 a1) (impl_SameRule.f (k + 1) a0 a1) := by
  intro a0 a1 k
  obtain ⟨ih0, ih1⟩ := impl_SameRule.mono_l k
  unfold impl_SameRule.f
  repeat' first
      | (with_reducible exact ih0 _ _ _)
      | (with_reducible exact ih1 _ _ _ _ _)
      | (with_reducible exact LeO.refl _)
      | (with_reducible exact LeO.none _)
      | (with_reducible refine LeO.ite ?_ ?_)
      | (with_reducible refine LeO.bind ?_ (fun _ => ?_))
      | exact ih0 _ _ _
      | exact ih1 _ _ _ _ _
      | exact LeO.none _
      | refine LeO.ite ?_ ?_
      | refine LeO.bind ?_ (fun _ => ?_)
set_option maxHeartbeats 8000000 in
set_option maxRecDepth 100000 in
theorem impl_SameRule.calls (k : Nat) (a0 : Int) (a1 : Int) (r : List (List Int)) (w : World) (h : impl_SameRule.f k a0 a1 = some r) :
    Calls Try.prog 19 #[.int .i64 a0, .int .i64 a1] w fun e w' => ∃ v0_ : Value, e = .returned (v0_) ∧ Kd.S (Kd.slice 3 (Kd.int .i64)) 23 w' w.heap.size (fun _ => True) v0_ r ∧ Below w.heap.size w w' := by
  have HB := Aside0.mk (Below.refl w.heap.size w)
  have H : ((impl_coloursOk.f a0).bind fun t125 => (if t125 = true then (if a1 < (-1) then (impl_SameRule.j0 k a0 a1 true) else (impl_SameRule.j0 k a0 a1 (decide (a1 > 3)))) else (impl_SameRule.j0 k a0 a1 true))) = some r := h
  clear h
  have HC3 := Aside0.mk H
  clear H
  go_enter Try.func19, Try.ntmps19
  go_upto_region 1 with (fail)
  go_cut [18] (fun v18 wc => ∃ (kq : Nat) (x18_2 : Bool), v18 = .bool x18_2 ∧ Aside0 (impl_SameRule.j0 kq a0 a1 x18_2 = some r) ∧ Aside0 (kq ≤ k) ∧ Aside0 (Below w.heap.size w wc))
  case first =>
    have H := HC3.out
    clear HC3
    replace H := Option.bind_eq_some_iff.mp H
    obtain ⟨t125, A40, H⟩ := H
    replace H : (if t125 = true then (if a1 < (-1) then (impl_SameRule.j0 k a0 a1 true) else (impl_SameRule.j0 k a0 a1 (decide (a1 > 3)))) else (impl_SameRule.j0 k a0 a1 true)) = some r := H
    have A4 := Aside0.mk A40
    clear A40
    by_cases c5 : t125 = true
    · subst c5
      have H1 : (if a1 < (-1) then (impl_SameRule.j0 k a0 a1 true) else (impl_SameRule.j0 k a0 a1 (decide (a1 > 3)))) = some r := by rw [if_pos rfl] at H; exact H
      clear H
      have H := H1
      clear H1
      by_cases c6 : a1 < (-1)
      · rw [if_pos c6] at H
        have c6b0 : decide (a1 < (-1)) = true := decide_eq_true c6
        clear c6
        (first | rw [c6b0] | (simp only [i64_w, i32_w]; rw [c6b0]) | skip)
        have H' := Aside0.mk H
        clear H
        go_wp2_with (first | ((with_reducible refine gate_callee (f := 65) rfl ?_); refine goesL_ (some 9) rfl rfl Try.func65 (by kernel_rfl) rfl #[.int .i64 a0] rfl (by (try simp only [List.map_toArray, List.map_cons, List.map_nil]); first | done | rfl | (simp only [List.length_drop, List.length_take]; rfl)) ?_; (with_reducible refine (impl_coloursOk.calls a0 true _ A4.out).mono ?_); rintro e w' ⟨rfl, ⟨nd, rfl⟩⟩; refine ⟨_, rfl, ?_⟩))
        go_meet
        case rel => exact ⟨_, (true), (by first | rfl | (simp; done) | (simp [*]; done)), H', ⟨by first | omega | exact Nat.le_refl _⟩, ⟨by repeat (first | (with_reducible first | exact HB.out | apply below_alloc | apply pw_below_drewN | apply below_drew1) | exact HB.out)⟩⟩
      · rw [if_neg c6] at H
        have c6b0 : decide (a1 < (-1)) = false := decide_eq_false c6
        clear c6
        (first | rw [c6b0] | (simp only [i64_w, i32_w]; rw [c6b0]) | skip)
        have H' := Aside0.mk H
        clear H
        go_wp2_with (first | ((with_reducible refine gate_callee (f := 65) rfl ?_); refine goesL_ (some 9) rfl rfl Try.func65 (by kernel_rfl) rfl #[.int .i64 a0] rfl (by (try simp only [List.map_toArray, List.map_cons, List.map_nil]); first | done | rfl | (simp only [List.length_drop, List.length_take]; rfl)) ?_; (with_reducible refine (impl_coloursOk.calls a0 true _ A4.out).mono ?_); rintro e w' ⟨rfl, ⟨nd, rfl⟩⟩; refine ⟨_, rfl, ?_⟩))
        go_meet
        case rel => exact ⟨_, (decide (a1 > 3)), (by first | rfl | (simp; done) | (simp [*]; done)), H', ⟨by first | omega | exact Nat.le_refl _⟩, ⟨by repeat (first | (with_reducible first | exact HB.out | apply below_alloc | apply pw_below_drewN | apply below_drew1) | exact HB.out)⟩⟩
    · replace c5 := Bool.eq_false_iff.mpr c5
      subst c5
      have H1 : (impl_SameRule.j0 k a0 a1 true) = some r := by rw [if_neg (show ¬ (false = true) by decide)] at H; exact H
      clear H
      have H := H1
      clear H1
      have H' := Aside0.mk H
      clear H
      go_wp2_with (first | ((with_reducible refine gate_callee (f := 65) rfl ?_); refine goesL_ (some 9) rfl rfl Try.func65 (by kernel_rfl) rfl #[.int .i64 a0] rfl (by (try simp only [List.map_toArray, List.map_cons, List.map_nil]); first | done | rfl | (simp only [List.length_drop, List.length_take]; rfl)) ?_; (with_reducible refine (impl_coloursOk.calls a0 false _ A4.out).mono ?_); rintro e w' ⟨rfl, ⟨nd, rfl⟩⟩; refine ⟨_, rfl, ?_⟩))
      go_meet
      case rel => exact ⟨_, (true), (by first | rfl | (simp; done) | (simp [*]; done)), H', ⟨by first | omega | exact Nat.le_refl _⟩, ⟨by repeat (first | (with_reducible first | exact HB.out | apply below_alloc | apply pw_below_drewN | apply below_drew1) | exact HB.out)⟩⟩
  case rest =>
    clear HC3
    try clear c1
    try clear p2
    try clear c5
    try clear c6
    try clear c6b0
    obtain ⟨kq, x18_2, rfl, HA, HJ2, HB⟩ := hcut
    cases kq with
    | zero => exact absurd HA.out (by simp [impl_SameRule.j0])
    | succ kj2 =>
      have H := HA.out
      clear HA
      simp only [impl_SameRule.j0] at H
      by_cases c7 : x18_2 = true
      · subst c7
        have H1 : (some ([] : List (List Int))) = some r := by rw [if_pos rfl] at H; exact H
        clear H
        have H := H1
        clear H1
        obtain rfl := Option.some.inj H
        go_wp2
        go_ret
        exact ⟨_, by first | rfl | (simp [errW_none, errW_some] <;> rfl) | (simp [*, errW_none, errW_some] <;> rfl), by first | exact Kd.S_nil _ _ _ _ _ | exact Kd.N_nil _ _ _ _ _ | exact Kd.V_nil _ _ _ _ _ | exact Kd.Q_nil _ _ _ _ _ | exact Kd.R_nil _ _ _ _ _, by repeat (first | (with_reducible first | exact HB.out | apply below_alloc | apply pw_below_drewN | apply below_drew1) | exact HB.out)⟩
      · replace c7 := Bool.eq_false_iff.mpr c7
        subst c7
        have H1 : (impl_SameRule.l0 kj2 a0 a1 (([] : List (List Int))) a0 0) = some r := by rw [if_neg (show ¬ (false = true) by decide)] at H; exact H
        clear H
        have H := H1
        clear H1
        obtain ⟨y126, hy126⟩ : ∃ y_ : List (List Int), y_ = (([] : List (List Int))) := ⟨_, rfl⟩
        replace H : (impl_SameRule.l0 kj2 a0 a1 y126 a0 0) = some r := by first | (rw [hy126]; with_reducible exact H) | (have H2_ := (Option.bind_some _ _).symm.trans H; rw [hy126]; with_reducible exact H2_) | (have H2_ := (Option.bind_some _ _).symm.trans H; with_reducible exact H2_) | with_reducible exact H | (rw [hy126]; exact H) | exact H
        have Ny126 := Aside0.mk hy126
        clear hy126
        have H' := Aside0.mk H
        clear H
        go_wp2_with (first | ((with_reducible refine gate_dst (N := 19) rfl ?_); refine Kd.S_lit (Kd.slice 3 (Kd.int .i64)) _ 23 ?hg (N := 19) ?hd (xs := ([] : List (List Int))) (inner := []) (ok := fun _ => True) (okp := fun _ => True) ?hr ?hp (fun _ hk => hk) trivial (Below.refl _ _) (Nat.le_refl _) (by simp) ?_; (case hd => rfl); (case hg => rfl); (case hr => first | (go_simp; done) | (go_simp; rfl)); (case hp => exact (Reps.none _ _)); intro v127 w8 ho9 hb hg_ hnew_; clear hg_ hnew_; (first | rw [← Ny126.out] at ho9 | (simp only [Int.reduceToNat] at ho9; rw [← Ny126.out] at ho9)); have n0_ := Aside0.mk (Kd.S_lower ho9 (below_size (by repeat (first | (with_reducible first | exact HB.out | apply below_alloc | apply pw_below_drewN | apply below_drew1) | exact HB.out)))); have n1_ := Aside0.mk (below_step (by repeat (first | (with_reducible first | exact HB.out | apply below_alloc | apply pw_below_drewN | apply below_drew1) | exact HB.out)) hb); clear HB; have HO128 := n0_; have HB := n1_; clear n0_ n1_; clear hb ho9))
        go_loopg [5, 21] kj2 (fun kq v5 v21 w' => ∃ (x5_2 : List (List Int)) (x21_2 : Int), v21 = .int .i64 x21_2 ∧ Aside0 (impl_SameRule.l0 kq a0 a1 x5_2 a0 x21_2 = some r) ∧ Aside0 (kq ≤ kj2) ∧ Aside0 (Kd.S (Kd.slice 3 (Kd.int .i64)) 23 w' w.heap.size (fun _ => True) v5 x5_2) ∧ Aside0 (Below w.heap.size w w'))
        case atStart => exact ⟨(y126), (0), (by first | rfl | (simp; done) | (simp [*]; done)), H', ⟨Nat.le_refl _⟩, ⟨by (with_reducible repeat (first | apply Kd.S_alloc | apply Kd.S_drewN | apply Kd.S_drew)); exact HO128.out⟩, ⟨by repeat (first | (with_reducible first | exact HB.out | apply below_alloc | apply pw_below_drewN | apply below_drew1) | exact HB.out)⟩⟩
        case round =>
          clear H'
          try clear c1
          try clear p2
          try clear c5
          try clear c6
          try clear c6b0
          try clear c7
          try clear p2
          obtain ⟨x5_2, x21_2, rfl, HA, HK2, HO_5, HB⟩ := hrel
          cases gk with
          | zero => exact absurd HA.out (by simp [impl_SameRule.l0])
          | succ k2 =>
            have H := HA.out
            clear HA
            simp only [impl_SameRule.l0] at H
            by_cases c10 : x21_2 < a0
            · rw [if_pos c10] at H
              have c10b0 : decide (x21_2 < a0) = true := decide_eq_true c10
              clear c10
              by_cases c11 : 0 ≤ a0
              · rw [if_pos c11] at H
                have c11b0 := eq_true c11
                have c11b1 : decide (0 ≤ a0) = true := decide_eq_true c11
                clear c11
                by_cases c12 : (a0 : Int).toNat ≤ 35184372088832
                · rw [if_pos c12] at H
                  have c12b0 := eq_true c12
                  have c12b1 : decide ((a0 : Int).toNat ≤ 35184372088832) = true := decide_eq_true c12
                  clear c12
                  obtain ⟨y129, hy129⟩ : ∃ y_ : List Int, y_ = (List.replicate (a0 : Int).toNat 0) := ⟨_, rfl⟩
                  replace H : (if 0 ≤ x21_2 then (if x21_2 < (y129.length : Int) then (if x5_2.length < 5864062014805 then (impl_SameRule.l0 k2 a0 a1 (x5_2 ++ [(y129.set (x21_2 : Int).toNat a1)]) a0 (wrap64 (x21_2 + 1))) else (none)) else (none)) else (none)) = some r := by first | (rw [hy129]; with_reducible exact H) | (have H2_ := (Option.bind_some _ _).symm.trans H; rw [hy129]; with_reducible exact H2_) | (have H2_ := (Option.bind_some _ _).symm.trans H; with_reducible exact H2_) | with_reducible exact H | (rw [hy129]; exact H) | exact H
                  have Ny129 := Aside0.mk hy129
                  clear hy129
                  by_cases c13 : 0 ≤ x21_2
                  · rw [if_pos c13] at H
                    have c13b0 : decide (0 ≤ x21_2) = true := decide_eq_true c13
                    clear c13
                    by_cases c14 : x21_2 < (y129.length : Int)
                    · rw [if_pos c14] at H
                      have c14b0 : decide (x21_2 < (y129.length : Int)) = true := decide_eq_true c14
                      clear c14
                      obtain ⟨y132, hy132⟩ : ∃ y_ : List Int, y_ = (y129.set (x21_2 : Int).toNat a1) := ⟨_, rfl⟩
                      replace H : (if x5_2.length < 5864062014805 then (impl_SameRule.l0 k2 a0 a1 (x5_2 ++ [y132]) a0 (wrap64 (x21_2 + 1))) else (none)) = some r := by first | (rw [hy132]; with_reducible exact H) | (have H2_ := (Option.bind_some _ _).symm.trans H; rw [hy132]; with_reducible exact H2_) | (have H2_ := (Option.bind_some _ _).symm.trans H; with_reducible exact H2_) | with_reducible exact H | (rw [hy132]; exact H) | exact H
                      have Ny132 := Aside0.mk hy132
                      clear hy132
                      by_cases c16 : x5_2.length < 5864062014805
                      · rw [if_pos c16] at H
                        have LMc16 := Aside0.mk c16
                        clear c16
                        obtain ⟨y133, hy133⟩ : ∃ y_ : List (List Int), y_ = (x5_2 ++ [y132]) := ⟨_, rfl⟩
                        replace H : (impl_SameRule.l0 k2 a0 a1 y133 a0 (wrap64 (x21_2 + 1))) = some r := by first | (rw [hy133]; with_reducible exact H) | (have H2_ := (Option.bind_some _ _).symm.trans H; rw [hy133]; with_reducible exact H2_) | (have H2_ := (Option.bind_some _ _).symm.trans H; with_reducible exact H2_) | with_reducible exact H | (rw [hy133]; exact H) | exact H
                        have Ny133 := Aside0.mk hy133
                        clear hy133
                        have H' := Aside0.mk H
                        clear H
                        go_wp2_with (first | ((with_reducible refine gate_dst (N := 25) rfl ?_); refine Kd.R_make (Kd.int .i64) _ 3 rfl (N := 25) rfl 23 _ _ rfl a0 rfl rfl Try.underlying23 (.int .i64 0) 8 info3 rfl (by decide) (by omega) 0 (ok := fun _ => True) (okp := fun _ => True) rfl (fun _ hk => hk) trivial (of_decide_eq_true (by first | (with_reducible assumption) | assumption)) (Nat.le_trans (Nat.mul_le_mul_right _ (of_decide_eq_true (by first | (with_reducible assumption) | assumption) : a0.toNat ≤ 35184372088832)) (by omega)) (Below.refl _ _) (Nat.le_refl _) ?_; intro v130 w17 ho18 hb hg_ hnew_; clear hg_ hnew_; (first | rw [← Ny129.out] at ho18 | (simp only [Int.reduceToNat] at ho18; rw [← Ny129.out] at ho18)); have n0_ := Aside0.mk (Kd.S_elder' (by (with_reducible repeat (first | apply Kd.S_alloc | apply Kd.S_drewN | apply Kd.S_drew)); exact HO_5.out) (Kd.R_base ho18) hb); have n1_ := Aside0.mk (Kd.R_lower ho18 (below_size (by repeat (first | (with_reducible first | exact HB.out | apply below_alloc | apply pw_below_drewN | apply below_drew1) | exact HB.out)))); have n2_ := Aside0.mk (below_step (by repeat (first | (with_reducible first | exact HB.out | apply below_alloc | apply pw_below_drewN | apply below_drew1) | exact HB.out)) hb); clear HO_5; clear HB; have HO_5 := n0_; have HO131 := n1_; have HB := n2_; clear n0_ n1_ n2_; clear hb ho18; have p15 : 0 ≤ (x21_2 : Int) := of_decide_eq_true (by first | (with_reducible assumption) | assumption); have q15 : (x21_2 : Int) < ((y129.length : Int) : Int) := of_decide_eq_true (by first | (with_reducible assumption) | assumption); obtain ⟨go15, co15, eo15, gb15, gl15, cl15, HG15⟩ := Kd.R_form HO131.out (by omega); (first | cases eo15 | (injection eo15 with ea_ en_ ec_; (first | subst ea_ | (injection ea_ with ea_; subst ea_)); subst ec_; clear en_)); have GB15 := Aside0.mk gb15; have GG15 := Aside0.mk HG15; clear gb15 gl15 HG15; obtain ⟨hx15_0, hf15_0⟩ := Kd.R_celln 0 HO131.out (x21_2 : Int) p15 q15; replace p15 := eq_true p15; replace q15 := eq_true q15; obtain ⟨hy19_, hz19_⟩ := Kd.R_celln 0 HO131.out (x21_2 : Int) (of_decide_eq_true (by first | (with_reducible assumption) | assumption)) (of_decide_eq_true (by first | (with_reducible assumption) | assumption)); have HP19 := Kd.R_putg HO131.out (x21_2 : Int) a1) | ((with_reducible refine gate_store (t := 3) (p := 29) rfl ?_); refine store_event (t := 3) (p := 29) (v := ?vo_w20) (w1 := (w17.setCell ⟨go15, (x21_2 : Int).toNat, none⟩ (.int .i64 a1))) ?hg ?ho ?hn ?hr ?_; (case ho => rfl); (case hg => rfl); (case hn => rfl); (case hr => first | (go_simp; done) | (go_simp; rfl)); intro w20 hw; have hg : w17.grownBy w20 (some go15) := (by rw [hw]; exact HP19.2); have hp_ : Kd.R (Kd.int .i64) 3 w20 w.heap.size (fun _ => True) (.slice (some ⟨go15, 0, none⟩) y129.length co15) y132 := (by rw [hw, Ny132.out]; exact HP19.1); clear HP19; have n0_ := Aside0.mk (Kd.S_after (v := (.slice (some ⟨go15, 0, none⟩) y129.length co15)) (v1 := (.slice (some ⟨go15, 0, none⟩) y129.length co15)) (ok := (fun _ => True)) (by (with_reducible repeat (first | apply Kd.S_alloc | apply Kd.S_drewN | apply Kd.S_drew)); exact HO_5.out) hg (.inl rfl)); have n1_ := Aside0.mk (hp_); have n2_ := Aside0.mk ((by rw [hw]; exact below_set (HB.out) GB15.out : Below w.heap.size w w20)); clear HO_5; clear HO131; clear HB; have HO_5 := n0_; have HO131 := n1_; have HB := n2_; clear n0_ n1_ n2_; clear hg hw hp_) | ((with_reducible refine gate_builtin (b := .append) (xs := #[.tmp 30, .tmp 32]) rfl ?_); at_builtin; refine Kd.S_append (Kd.slice 3 (Kd.int .i64)) (w0 := w) w.heap.size rfl (.tmp 30) (.tmp 32) 28 23 (.slice none 0 0) 24 rfl Try.underlying28 info23 rfl (by decide) (by omega) u5 x5_2 y132 [.slice (some ⟨go15, 0, none⟩) y129.length co15] (fun _ => True) (fun k_ => some k_ = (.slice (some ⟨go15, 0, none⟩) y129.length co15 : Value).ownBlock) rfl rfl ?aP (fun k_ hk_ => ((Kd.R_mono (ok' := fun k_ => ((fun _ => True)) k_ ∧ some k_ ≠ (u5 : Value).ownBlock) (Kd.R_apart' (HO131.out) (Kd.S_typed HO_5.out) (by decide)) (fun k_ hk => ⟨trivial, hk.2⟩))).1 k_ hk_.symm) ?aF ?aO ?aB ?aS ?aL ?_; (case aP => exact Kd.M_row (Kd.R_mono (Kd.R_tight rfl (Kd.R_mono (ok' := fun k_ => ((fun _ => True)) k_ ∧ some k_ ≠ (u5 : Value).ownBlock) (Kd.R_apart' (HO131.out) (Kd.S_typed HO_5.out) (by decide)) (fun k_ hk => ⟨trivial, hk.2⟩))) (fun _ h_ => h_))); (case aB => exact (by repeat (first | (with_reducible first | exact HB.out | apply below_alloc | apply pw_below_drewN | apply below_drew1) | exact HB.out))); (case aF => exact (fun _ _ => trivial)); (case aO => exact (by (with_reducible repeat (first | apply Kd.S_alloc | apply Kd.S_drewN | apply Kd.S_drew)); exact Kd.S_mono HO_5.out (fun k_ hk => ⟨trivial, fun e_ => hk.2 e_⟩))); (case aS => exact (below_size (by repeat (first | (with_reducible first | exact HB.out | apply below_alloc | apply pw_below_drewN | apply below_drew1) | exact HB.out)))); (case aL => have := LMc16.out; omega); intro v134 w21 ho hb hg hat; rw [← Ny133.out] at ho; have n0_ := Aside0.mk (hb); have n1_ := Aside0.mk (ho); clear HB; clear HO_5; clear HO131; have HB := n0_; have HO135 := n1_; clear n0_ n1_; clear ho hb hg hat))
                        go_roundg k2
                        case measure => have := HJ2.out; have := HK2.out; omega
                        case rel => exact ⟨(y133), (wrap64 (x21_2 + 1)), (by first | rfl | (simp; done) | (simp [*]; done)), H', ⟨by have := HJ2.out; have := HK2.out; omega⟩, ⟨by (with_reducible repeat (first | apply Kd.S_alloc | apply Kd.S_drewN | apply Kd.S_drew)); exact HO135.out⟩, ⟨by repeat (first | (with_reducible first | exact HB.out | apply below_alloc | apply pw_below_drewN | apply below_drew1) | exact HB.out)⟩⟩
                      · rw [if_neg c16] at H
                        exact absurd H (by simp)
                    · rw [if_neg c14] at H
                      exact absurd H (by simp)
                  · rw [if_neg c13] at H
                    exact absurd H (by simp)
                · rw [if_neg c12] at H
                  exact absurd H (by simp)
              · rw [if_neg c11] at H
                exact absurd H (by simp)
            · rw [if_neg c10] at H
              have c10b0 : decide (x21_2 < a0) = false := decide_eq_false c10
              clear c10
              obtain rfl := Option.some.inj H
              go_wp2
              go_ret
              exact ⟨_, by first | rfl | (simp [errW_none, errW_some] <;> rfl) | (simp [*, errW_none, errW_some] <;> rfl), by (with_reducible repeat (first | apply Kd.S_alloc | apply Kd.S_drewN | apply Kd.S_drew)); exact HO_5.out, by repeat (first | (with_reducible first | exact HB.out | apply below_alloc | apply pw_below_drewN | apply below_drew1) | exact HB.out)⟩

theorem slices_info3 : (Try.prog.info? 3).map (fun i => (i.zero, i.size, i.bytes)) = some (some (.int .i64 0), 1, 8) := by kernel_rfl
/-! ### slices_Clone_int_int: function 94 -/
def slices_Clone_int_int.f (l0 : List Int) : Option (List Int) := if l0.length < 17592186044416 then some l0 else none
set_option maxHeartbeats 8000000 in
set_option maxRecDepth 100000 in
theorem slices_Clone_int_int.calls (A0 : Option Addr) (c0 : Nat) (l0 : List Int) (r : List Int) (w : World) (hr0 : Kd.C (Kd.int .i64) w A0 l0.length l0) (hc0 : l0.length ≤ c0) (h : slices_Clone_int_int.f l0 = some r) :
    Calls Try.prog 94 #[.slice A0 l0.length c0] w fun e w' => ∃ v0_ : Value, e = .returned (v0_) ∧ Kd.R (Kd.int .i64) 3 w' w.heap.size (fun _ => True) v0_ r ∧ Below w.heap.size w w' := by
  unfold slices_Clone_int_int.f at h
  by_cases hlen : l0.length < 17592186044416
  · rw [if_pos hlen] at h
    obtain rfl := Option.some.inj h
    clear h
    cases A0 with
    | none =>
      have hz : l0 = [] := by
        apply List.eq_nil_of_length_eq_zero
        apply Nat.eq_zero_of_not_pos
        intro hp
        obtain ⟨ad, h1, _⟩ := hr0.2.2 hp
        cases h1
      subst hz
      have he := fun (W : World) => Lib.run_eql_slice_nil (P := Try.prog) W 23 3 none 0 c0 0 0 Try.underlying23
      go_enter Try.func94, Try.ntmps94
      go_wp2_with (fail)
      go_ret
      exact ⟨_, rfl, Kd.R_nil _ _ _ _ _, Below.refl _ _⟩
    | some ad =>
      have he := fun (W : World) => Lib.run_eql_slice_nil (P := Try.prog) W 23 3 (some ad) l0.length c0 0 0 Try.underlying23
      go_enter Try.func94, Try.ntmps94
      have HR := Aside0.mk hr0
      have HL := Aside0.mk hlen
      clear hr0 hlen
      go_wp2_with (first | ((with_reducible refine gate_dst (N := 5) rfl ?_); refine Kd.R_lit (Kd.int .i64) _ 3 ?hg (N := 5) ?hd (xs := ([] : List Int)) (inner := []) (ok := fun _ => True) (okp := fun _ => True) ?hr ?hp (fun _ hk => hk) trivial (Below.refl _ _) (Nat.le_refl _) (by simp) ?_; (case hd => rfl); (case hg => rfl); (case hr => first | (go_simp; done) | (go_simp; rfl)); (case hp => exact (Reps.none _ _)); intro v1 w1 ho1 hb1 hg_ hnew_; clear hg_ hnew_; have HO1 := Aside0.mk ho1; have HB1 := Aside0.mk hb1; clear ho1 hb1) | ((with_reducible refine gate_builtin (b := .append) (xs := #[.tmp 5, .tmp 6]) rfl ?_); at_builtin; refine Kd.R_append_rows (Kd.int .i64) (w0 := w) w.heap.size rfl (.tmp 5) (.tmp 6) 23 3 (.int .i64 0) 8 rfl Try.underlying23 slices_info3 rfl (by decide) (by omega) v1 [] l0 _ _ _ (fun _ => True) (fun _ => False) rfl rfl ?aO ?aR (fun _ _ h => h) (fun _ h => h.elim) ?aF ?aB ?aS ?aL ?_; (case aR => exact (Kd.C_below HR.out HB1.out)); (case aB => exact HB1.out); (case aF => exact (fun _ _ => trivial)); (case aO => exact HO1.out); (case aS => exact (below_size HB1.out)); (case aL => have := HL.out; simp; omega); intro v2 w2 ho hb hg hat; have HO2 := Aside0.mk ho; have HB2 := Aside0.mk hb; clear ho hb hg hat))
      go_ret
      exact ⟨_, rfl, by simpa using HO2.out, HB2.out⟩
  · rw [if_neg hlen] at h
    cases h

end Go.Proofs.Ythpjeinjldfmjaa.QFnWordWays
