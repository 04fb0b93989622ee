/- What the functions of the law FnBoxMean come to, function by function (told by the print, with rows of this seat's own where that did not build). -/
import Derived.Test.YtoplkcbmbkadbaaPFnBoxMeanx0
import Derived.Test.YtoplkcbmbkadbaaPFnBoxMeanx1
import Derived.Test.YtoplkcbmbkadbaaQFnBoxMeanx2
import Derived.Test.YtoplkcbmbkadbaaQFnBoxMeanx3
namespace Go.Proofs.Ytoplkcbmbkadbaa.PFnBoxMean
open Go.RowKit Go.Proofs.YtoplkcbmbkadbaaW.PrintWords Go.Proofs.YtoplkcbmbkadbaaW.PrintLast Go.Proofs.YtoplkcbmbkadbaaW.PrintMore
attribute [local go_sem] max2_int min2_int max_two min_two max_three min_three max_four min_four   -- for this text's walks alone
set_option linter.unusedVariables false
set_option linter.unusedSimpArgs false

/-! ### laws_FnBoxMean: function 14 -/
def laws_FnBoxMean.j0 : Nat → Int → Int → Int → Int → Int → Bool → Bool → Option (Bool)
  | 0, _, _, _, _, _, _, _ => none
  | k + 1, x3, x4, x5, x6, x7, x8, x56 => if x56 = true then (some false) else (if x8 = true then ((impl_NextChance.f k x3 x4 x5).bind fun bt196 => ((impl_BoxMean.f k x3 x5 x4).bind fun bt199 => (if x7 ≥ 1 then (if bt199.2.2 = true then (if (wrap64 ((wrap64 (x6 * bt199.2.1)) + (wrap64 (bt199.1 * x7)))) = (wrap64 ((wrap64 (x3 * x7)) * bt199.2.1)) then (if bt196.2.2 = true then (if (wrap64 (x6 * bt196.2.1)) = (wrap64 (x7 * (wrap64 ((wrap64 (x4 * bt196.2.1)) + (wrap64 ((wrap64 ((wrap64 (x3 - x4)) - x5)) * bt196.1)))))) then (some true) else (some false)) else (some (x6 == (wrap64 (x4 * x7))))) else (some false)) else (some false)) else (some false)))) else (if x6 = 0 then (if x7 = 0 then ((laws_alive.f k).bind fun t202 => (some t202)) else (some false)) else (some false)))
def laws_FnBoxMean.f (k : Nat) (l0 : List Int) : Option (Bool) := if (l0.length : Int) > 1048576 then (some true) else ((spec_DrawBoxMean.f k l0).bind fun bt187 => ((impl_BoxMean.f k bt187.1 bt187.2.1 bt187.2.2).bind fun bt190 => ((spec_BoxMean.f k bt187.1 bt187.2.1 bt187.2.2).bind fun bt193 => (if bt190.1 = bt193.1 then (if bt190.2.1 = bt193.2.1 then (laws_FnBoxMean.j0 k bt187.1 bt187.2.1 bt187.2.2 bt190.1 bt190.2.1 bt190.2.2 (bt190.2.2 != bt193.2.2)) else (laws_FnBoxMean.j0 k bt187.1 bt187.2.1 bt187.2.2 bt190.1 bt190.2.1 bt190.2.2 true)) else (laws_FnBoxMean.j0 k bt187.1 bt187.2.1 bt187.2.2 bt190.1 bt190.2.1 bt190.2.2 true)))))
theorem laws_FnBoxMean.mono_l : ∀ k, (∀ y0 y1 y2 y3 y4 y5 y6, LeO (laws_FnBoxMean.j0 k y0 y1 y2 y3 y4 y5 y6) (laws_FnBoxMean.j0 (k + 1) y0 y1 y2 y3 y4 y5 y6))
  | 0 => fun _ _ _ _ _ _ _ r h => by simp [laws_FnBoxMean.j0] at h
  | k + 1 => by
    have ih0 := laws_FnBoxMean.mono_l k
    · intro y0 y1 y2 y3 y4 y5 y6
      unfold laws_FnBoxMean.j0
      repeat' first
      | (with_reducible exact ih0 _ _ _ _ _ _ _)
      | (with_reducible exact impl_BoxMean.mono _ _ _ _)
      | (with_reducible exact impl_NextChance.mono _ _ _ _)
      | (with_reducible exact laws_alive.mono _)
      | (with_reducible exact spec_BoxMean.mono _ _ _ _)
      | (with_reducible exact spec_DrawBoxMean.mono _ _)
      | (with_reducible exact LeO.refl _)
      | (with_reducible exact LeO.none _)
      | (with_reducible refine LeO.ite ?_ ?_)
      | (with_reducible refine LeO.bind ?_ (fun _ => ?_))
      | exact ih0 _ _ _ _ _ _ _
      | exact impl_BoxMean.mono _ _ _ _
      | exact impl_NextChance.mono _ _ _ _
      | exact laws_alive.mono _
      | exact spec_BoxMean.mono _ _ _ _
      | exact spec_DrawBoxMean.mono _ _
      | exact LeO.none _
      | refine LeO.ite ?_ ?_
      | refine LeO.bind ?_ (fun _ => ?_)
theorem laws_FnBoxMean.mono : ∀ a0 k, LeO (laws_FnBoxMean.f k a0) (laws_FnBoxMean.f (k + 1) a0) := by
  intro a0 k
  have ih0 := laws_FnBoxMean.mono_l k
  unfold laws_FnBoxMean.f
  repeat' first
      | (with_reducible exact ih0 _ _ _ _ _ _ _)
      | (with_reducible exact impl_BoxMean.mono _ _ _ _)
      | (with_reducible exact impl_NextChance.mono _ _ _ _)
      | (with_reducible exact laws_alive.mono _)
      | (with_reducible exact spec_BoxMean.mono _ _ _ _)
      | (with_reducible exact spec_DrawBoxMean.mono _ _)
      | (with_reducible exact LeO.refl _)
      | (with_reducible exact LeO.none _)
      | (with_reducible refine LeO.ite ?_ ?_)
      | (with_reducible refine LeO.bind ?_ (fun _ => ?_))
      | exact ih0 _ _ _ _ _ _ _
      | exact impl_BoxMean.mono _ _ _ _
      | exact impl_NextChance.mono _ _ _ _
      | exact laws_alive.mono _
      | exact spec_BoxMean.mono _ _ _ _
      | exact spec_DrawBoxMean.mono _ _
      | exact LeO.none _
      | refine LeO.ite ?_ ?_
      | refine LeO.bind ?_ (fun _ => ?_)
set_option maxHeartbeats 8000000 in
set_option maxRecDepth 100000 in
theorem laws_FnBoxMean.calls (k : Nat) (A0 : Option Addr) (c0 : Nat) (l0 : List Int) (r : Bool) (w : World) (hr0 : Kd.C (Kd.int .u8) w A0 l0.length l0) (hc0 : l0.length ≤ c0) (h : laws_FnBoxMean.f k l0 = some r) :
    Calls Try.prog 14 #[.slice A0 l0.length c0] w fun e w' => e = .returned (.bool r) ∧ Below w.heap.size w w' := by
  have HR0 := Aside0.mk hr0
  have HC0 := Aside0.mk hc0
  clear hr0 hc0
  have HB := Aside0.mk (Below.refl w.heap.size w)
  have H : (if (l0.length : Int) > 1048576 then (some true) else ((spec_DrawBoxMean.f k l0).bind fun bt187 => ((impl_BoxMean.f k bt187.1 bt187.2.1 bt187.2.2).bind fun bt190 => ((spec_BoxMean.f k bt187.1 bt187.2.1 bt187.2.2).bind fun bt193 => (if bt190.1 = bt193.1 then (if bt190.2.1 = bt193.2.1 then (laws_FnBoxMean.j0 k bt187.1 bt187.2.1 bt187.2.2 bt190.1 bt190.2.1 bt190.2.2 (bt190.2.2 != bt193.2.2)) else (laws_FnBoxMean.j0 k bt187.1 bt187.2.1 bt187.2.2 bt190.1 bt190.2.1 bt190.2.2 true)) else (laws_FnBoxMean.j0 k bt187.1 bt187.2.1 bt187.2.2 bt190.1 bt190.2.1 bt190.2.2 true)))))) = some r := h
  clear h
  by_cases c2 : (l0.length : Int) > 1048576
  · rw [if_pos c2] at H
    have c2b0 : decide (1048576 < (l0.length : Int)) = true := decide_eq_true c2
    have c2b1 : decide (1048576 < l0.length) = true := decide_eq_true (by omega)
    clear c2
    obtain rfl := Option.some.inj H
    go_enter Try.func14, Try.ntmps14
    go_wp2
    go_ret
    exact ⟨by first | rfl | (simp [errW_none, errW_some] <;> rfl) | (simp [*, errW_none, errW_some] <;> rfl), by repeat (first | (with_reducible first | exact HB.out | apply below_alloc | apply pw_below_drewN | apply below_drew1) | exact HB.out)⟩
  · rw [if_neg c2] at H
    have c2b0 : decide (1048576 < (l0.length : Int)) = false := decide_eq_false c2
    have c2b1 : decide (1048576 < l0.length) = false := decide_eq_false (by omega)
    clear c2
    replace H := Option.bind_eq_some_iff.mp H
    obtain ⟨⟨t187, t188, t189⟩, A30, H⟩ := H
    replace H : ((impl_BoxMean.f k t187 t188 t189).bind fun bt190 => ((spec_BoxMean.f k t187 t188 t189).bind fun bt193 => (if bt190.1 = bt193.1 then (if bt190.2.1 = bt193.2.1 then (laws_FnBoxMean.j0 k t187 t188 t189 bt190.1 bt190.2.1 bt190.2.2 (bt190.2.2 != bt193.2.2)) else (laws_FnBoxMean.j0 k t187 t188 t189 bt190.1 bt190.2.1 bt190.2.2 true)) else (laws_FnBoxMean.j0 k t187 t188 t189 bt190.1 bt190.2.1 bt190.2.2 true)))) = some r := H
    have A3 := Aside0.mk A30
    clear A30
    replace H := Option.bind_eq_some_iff.mp H
    obtain ⟨⟨t190, t191, t192⟩, A40, H⟩ := H
    replace H : ((spec_BoxMean.f k t187 t188 t189).bind fun bt193 => (if t190 = bt193.1 then (if t191 = bt193.2.1 then (laws_FnBoxMean.j0 k t187 t188 t189 t190 t191 t192 (t192 != bt193.2.2)) else (laws_FnBoxMean.j0 k t187 t188 t189 t190 t191 t192 true)) else (laws_FnBoxMean.j0 k t187 t188 t189 t190 t191 t192 true))) = some r := H
    have A4 := Aside0.mk A40
    clear A40
    replace H := Option.bind_eq_some_iff.mp H
    obtain ⟨⟨t193, t194, t195⟩, A50, H⟩ := H
    replace H : (if t190 = t193 then (if t191 = t194 then (laws_FnBoxMean.j0 k t187 t188 t189 t190 t191 t192 (t192 != t195)) else (laws_FnBoxMean.j0 k t187 t188 t189 t190 t191 t192 true)) else (laws_FnBoxMean.j0 k t187 t188 t189 t190 t191 t192 true)) = some r := H
    have A5 := Aside0.mk A50
    clear A50
    have HC6 := Aside0.mk H
    clear H
    go_enter Try.func14, Try.ntmps14
    go_upto_region 6 with (first | ((with_reducible refine gate_callee (f := 38) rfl ?_); refine goesL_ (some 24) rfl rfl Try.func38 (by kernel_rfl) rfl #[.slice A0 l0.length c0] rfl (by (try simp only [List.map_toArray, List.map_cons, List.map_nil]); first | done | rfl | (simp only [List.length_drop, List.length_take]; rfl)) ?_; (with_reducible refine (spec_DrawBoxMean.calls k _ _ l0 t187 t188 t189 _ ?side1 ?side2 A3.out).mono ?_); (case side1 => repeat (first | exact HR0.out | (with_reducible refine Kd.C_alloc ?_ _) | (with_reducible refine Kd.C_drewN ?_ _) | (with_reducible refine Kd.C_drew ?_))); (case side2 => exact HC0.out); rintro e w7 ⟨rfl, hb⟩; refine ⟨_, rfl, ?_⟩; have n0_ := Aside0.mk (below_step (by repeat (first | (with_reducible first | exact HB.out | apply below_alloc | apply pw_below_drewN | apply below_drew1) | exact HB.out)) hb); clear HB; have HB := n0_; clear n0_; (try clear hb); (try clear hb2); (try clear hk); (try clear hi)) | ((with_reducible refine gate_callee (f := 33) rfl ?_); refine goesL_ (some 32) rfl rfl Try.func33 (by kernel_rfl) rfl #[.int .i64 t187, .int .i64 t188, .int .i64 t189] rfl (by (try simp only [List.map_toArray, List.map_cons, List.map_nil]); first | done | rfl | (simp only [List.length_drop, List.length_take]; rfl)) ?_; (with_reducible refine (impl_BoxMean.calls k t187 t188 t189 t190 t191 t192 _ A4.out).mono ?_); rintro e w8 ⟨rfl, hb⟩; refine ⟨_, rfl, ?_⟩; have n0_ := Aside0.mk (below_step (by repeat (first | (with_reducible first | exact HB.out | apply below_alloc | apply pw_below_drewN | apply below_drew1) | exact HB.out)) hb); clear HB; have HB := n0_; clear n0_; (try clear hb); (try clear hb2); (try clear hk); (try clear hi)) | ((with_reducible refine gate_callee (f := 32) rfl ?_); refine goesL_ (some 40) rfl rfl Try.func32 (by kernel_rfl) rfl #[.int .i64 t187, .int .i64 t188, .int .i64 t189] rfl (by (try simp only [List.map_toArray, List.map_cons, List.map_nil]); first | done | rfl | (simp only [List.length_drop, List.length_take]; rfl)) ?_; (with_reducible refine (spec_BoxMean.calls k t187 t188 t189 t193 t194 t195 _ A5.out).mono ?_); rintro e w9 ⟨rfl, hb⟩; refine ⟨_, rfl, ?_⟩; have n0_ := Aside0.mk (below_step (by repeat (first | (with_reducible first | exact HB.out | apply below_alloc | apply pw_below_drewN | apply below_drew1) | exact HB.out)) hb); clear HB; have HB := n0_; clear n0_; (try clear hb); (try clear hb2); (try clear hk); (try clear hi)))
    (try simp only [Act.put, List.setIfInBounds_toArray, List.set_cons_zero, List.set_cons_succ])
    go_cut [56] (fun v56 wc => ∃ (kq : Nat) (x56_5 : Bool), v56 = .bool x56_5 ∧ Aside0 (laws_FnBoxMean.j0 kq t187 t188 t189 t190 t191 t192 x56_5 = some r) ∧ Aside0 (kq ≤ k) ∧ Aside0 (Below w.heap.size w wc))
    case first =>
      have H := HC6.out
      clear HC6
      by_cases c10 : t190 = t193
      · rw [if_pos c10] at H
        have c10b0 : (t190 == t193) = true := beq_iff_eq.mpr c10
        have c10b1 : (t190 != t193) = false := bne_eq_false_iff_eq.mpr c10
        clear c10
        (first | rw [c10b0] | (simp only [i64_w, i32_w]; rw [c10b0]) | skip)
        by_cases c11 : t191 = t194
        · rw [if_pos c11] at H
          have c11b0 : (t191 == t194) = true := beq_iff_eq.mpr c11
          have c11b1 : (t191 != t194) = false := bne_eq_false_iff_eq.mpr c11
          clear c11
          have H' := Aside0.mk H
          clear H
          go_wp2
          go_meet
          case rel => exact ⟨_, ((t192 != t195)), (by first | rfl | (simp; done) | (simp [*]; done)), H', ⟨by first | omega | exact Nat.le_refl _⟩, ⟨by repeat (first | (with_reducible first | exact HB.out | apply below_alloc | apply pw_below_drewN | apply below_drew1) | exact HB.out)⟩⟩
        · rw [if_neg c11] at H
          have c11b0 : (t191 == t194) = false := beq_eq_false_iff_ne.mpr c11
          have c11b1 : (t191 != t194) = true := bne_iff_ne.mpr c11
          have H' := Aside0.mk H
          clear H
          go_wp2
          go_meet
          case rel => exact ⟨_, (true), (by first | rfl | (simp; done) | (simp [*]; done)), H', ⟨by first | omega | exact Nat.le_refl _⟩, ⟨by repeat (first | (with_reducible first | exact HB.out | apply below_alloc | apply pw_below_drewN | apply below_drew1) | exact HB.out)⟩⟩
      · rw [if_neg c10] at H
        have c10b0 : (t190 == t193) = false := beq_eq_false_iff_ne.mpr c10
        have c10b1 : (t190 != t193) = true := bne_iff_ne.mpr c10
        (first | rw [c10b0] | (simp only [i64_w, i32_w]; rw [c10b0]) | skip)
        have H' := Aside0.mk H
        clear H
        go_wp2
        go_meet
        case rel => exact ⟨_, (true), (by first | rfl | (simp; done) | (simp [*]; done)), H', ⟨by first | omega | exact Nat.le_refl _⟩, ⟨by repeat (first | (with_reducible first | exact HB.out | apply below_alloc | apply pw_below_drewN | apply below_drew1) | exact HB.out)⟩⟩
    case rest =>
      clear HC6
      try clear c1
      try clear c2
      try clear c2b0
      try clear c2b1
      try clear p2
      try clear c3
      try clear c10
      try clear c10b0
      try clear c10b1
      try clear c11
      try clear c11b0
      try clear c11b1
      obtain ⟨kq, x56_5, rfl, HA, HJ5, HB⟩ := hcut
      cases kq with
      | zero => exact absurd HA.out (by simp [laws_FnBoxMean.j0])
      | succ kj5 =>
        have H := HA.out
        clear HA
        simp only [laws_FnBoxMean.j0] at H
        by_cases c12 : x56_5 = true
        · subst c12
          have H1 : (some false) = some r := by rw [if_pos rfl] at H; exact H
          clear H
          have H := H1
          clear H1
          obtain rfl := Option.some.inj H
          go_wp2
          go_ret
          exact ⟨by first | rfl | (simp [errW_none, errW_some] <;> rfl) | (simp [*, errW_none, errW_some] <;> rfl), by repeat (first | (with_reducible first | exact HB.out | apply below_alloc | apply pw_below_drewN | apply below_drew1) | exact HB.out)⟩
        · replace c12 := Bool.eq_false_iff.mpr c12
          subst c12
          have H1 : (if t192 = true then ((impl_NextChance.f kj5 t187 t188 t189).bind fun bt196 => ((impl_BoxMean.f kj5 t187 t189 t188).bind fun bt199 => (if t191 ≥ 1 then (if bt199.2.2 = true then (if (wrap64 ((wrap64 (t190 * bt199.2.1)) + (wrap64 (bt199.1 * t191)))) = (wrap64 ((wrap64 (t187 * t191)) * bt199.2.1)) then (if bt196.2.2 = true then (if (wrap64 (t190 * bt196.2.1)) = (wrap64 (t191 * (wrap64 ((wrap64 (t188 * bt196.2.1)) + (wrap64 ((wrap64 ((wrap64 (t187 - t188)) - t189)) * bt196.1)))))) then (some true) else (some false)) else (some (t190 == (wrap64 (t188 * t191))))) else (some false)) else (some false)) else (some false)))) else (if t190 = 0 then (if t191 = 0 then ((laws_alive.f kj5).bind fun t202 => (some t202)) else (some false)) else (some false))) = some r := by rw [if_neg (show ¬ (false = true) by decide)] at H; exact H
          clear H
          have H := H1
          clear H1
          by_cases c13 : t192 = true
          · subst c13
            have H1 : ((impl_NextChance.f kj5 t187 t188 t189).bind fun bt196 => ((impl_BoxMean.f kj5 t187 t189 t188).bind fun bt199 => (if t191 ≥ 1 then (if bt199.2.2 = true then (if (wrap64 ((wrap64 (t190 * bt199.2.1)) + (wrap64 (bt199.1 * t191)))) = (wrap64 ((wrap64 (t187 * t191)) * bt199.2.1)) then (if bt196.2.2 = true then (if (wrap64 (t190 * bt196.2.1)) = (wrap64 (t191 * (wrap64 ((wrap64 (t188 * bt196.2.1)) + (wrap64 ((wrap64 ((wrap64 (t187 - t188)) - t189)) * bt196.1)))))) then (some true) else (some false)) else (some (t190 == (wrap64 (t188 * t191))))) else (some false)) else (some false)) else (some false)))) = some r := by rw [if_pos rfl] at H; exact H
            clear H
            have H := H1
            clear H1
            replace H := Option.bind_eq_some_iff.mp H
            obtain ⟨⟨t196, t197, t198⟩, A140, H⟩ := H
            replace H : ((impl_BoxMean.f kj5 t187 t189 t188).bind fun bt199 => (if t191 ≥ 1 then (if bt199.2.2 = true then (if (wrap64 ((wrap64 (t190 * bt199.2.1)) + (wrap64 (bt199.1 * t191)))) = (wrap64 ((wrap64 (t187 * t191)) * bt199.2.1)) then (if t198 = true then (if (wrap64 (t190 * t197)) = (wrap64 (t191 * (wrap64 ((wrap64 (t188 * t197)) + (wrap64 ((wrap64 ((wrap64 (t187 - t188)) - t189)) * t196)))))) then (some true) else (some false)) else (some (t190 == (wrap64 (t188 * t191))))) else (some false)) else (some false)) else (some false))) = some r := H
            have A14 := Aside0.mk A140
            clear A140
            replace H := Option.bind_eq_some_iff.mp H
            obtain ⟨⟨t199, t200, t201⟩, A150, H⟩ := H
            replace H : (if t191 ≥ 1 then (if t201 = true then (if (wrap64 ((wrap64 (t190 * t200)) + (wrap64 (t199 * t191)))) = (wrap64 ((wrap64 (t187 * t191)) * t200)) then (if t198 = true then (if (wrap64 (t190 * t197)) = (wrap64 (t191 * (wrap64 ((wrap64 (t188 * t197)) + (wrap64 ((wrap64 ((wrap64 (t187 - t188)) - t189)) * t196)))))) then (some true) else (some false)) else (some (t190 == (wrap64 (t188 * t191))))) else (some false)) else (some false)) else (some false)) = some r := H
            have A15 := Aside0.mk A150
            clear A150
            by_cases c16 : t191 ≥ 1
            · rw [if_pos c16] at H
              have c16b0 : decide (1 ≤ t191) = true := decide_eq_true c16
              clear c16
              by_cases c17 : t201 = true
              · subst c17
                have H1 : (if (wrap64 ((wrap64 (t190 * t200)) + (wrap64 (t199 * t191)))) = (wrap64 ((wrap64 (t187 * t191)) * t200)) then (if t198 = true then (if (wrap64 (t190 * t197)) = (wrap64 (t191 * (wrap64 ((wrap64 (t188 * t197)) + (wrap64 ((wrap64 ((wrap64 (t187 - t188)) - t189)) * t196)))))) then (some true) else (some false)) else (some (t190 == (wrap64 (t188 * t191))))) else (some false)) = some r := by rw [if_pos rfl] at H; exact H
                clear H
                have H := H1
                clear H1
                by_cases c18 : (wrap64 ((wrap64 (t190 * t200)) + (wrap64 (t199 * t191)))) = (wrap64 ((wrap64 (t187 * t191)) * t200))
                · rw [if_pos c18] at H
                  have c18b0 : ((wrap64 ((wrap64 (t190 * t200)) + (wrap64 (t199 * t191)))) == (wrap64 ((wrap64 (t187 * t191)) * t200))) = true := beq_iff_eq.mpr c18
                  have c18b1 : ((wrap64 ((wrap64 (t190 * t200)) + (wrap64 (t199 * t191)))) != (wrap64 ((wrap64 (t187 * t191)) * t200))) = false := bne_eq_false_iff_eq.mpr c18
                  clear c18
                  by_cases c19 : t198 = true
                  · subst c19
                    have H1 : (if (wrap64 (t190 * t197)) = (wrap64 (t191 * (wrap64 ((wrap64 (t188 * t197)) + (wrap64 ((wrap64 ((wrap64 (t187 - t188)) - t189)) * t196)))))) then (some true) else (some false)) = some r := by rw [if_pos rfl] at H; exact H
                    clear H
                    have H := H1
                    clear H1
                    by_cases c20 : (wrap64 (t190 * t197)) = (wrap64 (t191 * (wrap64 ((wrap64 (t188 * t197)) + (wrap64 ((wrap64 ((wrap64 (t187 - t188)) - t189)) * t196))))))
                    · rw [if_pos c20] at H
                      have c20b0 : ((wrap64 (t190 * t197)) == (wrap64 (t191 * (wrap64 ((wrap64 (t188 * t197)) + (wrap64 ((wrap64 ((wrap64 (t187 - t188)) - t189)) * t196))))))) = true := beq_iff_eq.mpr c20
                      have c20b1 : ((wrap64 (t190 * t197)) != (wrap64 (t191 * (wrap64 ((wrap64 (t188 * t197)) + (wrap64 ((wrap64 ((wrap64 (t187 - t188)) - t189)) * t196))))))) = false := bne_eq_false_iff_eq.mpr c20
                      clear c20
                      obtain rfl := Option.some.inj H
                      go_wp2_with (first | ((with_reducible refine gate_callee (f := 28) rfl ?_); refine goesL_ (some 72) rfl rfl Try.func28 (by kernel_rfl) rfl #[.int .i64 t187, .int .i64 t188, .int .i64 t189] rfl (by (try simp only [List.map_toArray, List.map_cons, List.map_nil]); first | done | rfl | (simp only [List.length_drop, List.length_take]; rfl)) ?_; (with_reducible refine (impl_NextChance.calls kj5 t187 t188 t189 t196 t197 true _ A14.out).mono ?_); rintro e w21 ⟨rfl, hb⟩; refine ⟨_, rfl, ?_⟩; have n0_ := Aside0.mk (below_step (by repeat (first | (with_reducible first | exact HB.out | apply below_alloc | apply pw_below_drewN | apply below_drew1) | exact HB.out)) hb); clear HB; have HB := n0_; clear n0_; (try clear hb); (try clear hb2); (try clear hk); (try clear hi)) | ((with_reducible refine gate_callee (f := 33) rfl ?_); refine goesL_ (some 80) rfl rfl Try.func33 (by kernel_rfl) rfl #[.int .i64 t187, .int .i64 t189, .int .i64 t188] rfl (by (try simp only [List.map_toArray, List.map_cons, List.map_nil]); first | done | rfl | (simp only [List.length_drop, List.length_take]; rfl)) ?_; (with_reducible refine (impl_BoxMean.calls kj5 t187 t189 t188 t199 t200 true _ A15.out).mono ?_); rintro e w22 ⟨rfl, hb⟩; refine ⟨_, rfl, ?_⟩; have n0_ := Aside0.mk (below_step (by repeat (first | (with_reducible first | exact HB.out | apply below_alloc | apply pw_below_drewN | apply below_drew1) | exact HB.out)) hb); clear HB; have HB := n0_; clear n0_; (try clear hb); (try clear hb2); (try clear hk); (try clear hi)))
                      go_ret
                      exact ⟨by first | rfl | (simp [errW_none, errW_some] <;> rfl) | (simp [*, errW_none, errW_some] <;> rfl), by repeat (first | (with_reducible first | exact HB.out | apply below_alloc | apply pw_below_drewN | apply below_drew1) | exact HB.out)⟩
                    · rw [if_neg c20] at H
                      have c20b0 : ((wrap64 (t190 * t197)) == (wrap64 (t191 * (wrap64 ((wrap64 (t188 * t197)) + (wrap64 ((wrap64 ((wrap64 (t187 - t188)) - t189)) * t196))))))) = false := beq_eq_false_iff_ne.mpr c20
                      have c20b1 : ((wrap64 (t190 * t197)) != (wrap64 (t191 * (wrap64 ((wrap64 (t188 * t197)) + (wrap64 ((wrap64 ((wrap64 (t187 - t188)) - t189)) * t196))))))) = true := bne_iff_ne.mpr c20
                      obtain rfl := Option.some.inj H
                      go_wp2_with (first | ((with_reducible refine gate_callee (f := 28) rfl ?_); refine goesL_ (some 72) rfl rfl Try.func28 (by kernel_rfl) rfl #[.int .i64 t187, .int .i64 t188, .int .i64 t189] rfl (by (try simp only [List.map_toArray, List.map_cons, List.map_nil]); first | done | rfl | (simp only [List.length_drop, List.length_take]; rfl)) ?_; (with_reducible refine (impl_NextChance.calls kj5 t187 t188 t189 t196 t197 true _ A14.out).mono ?_); rintro e w23 ⟨rfl, hb⟩; refine ⟨_, rfl, ?_⟩; have n0_ := Aside0.mk (below_step (by repeat (first | (with_reducible first | exact HB.out | apply below_alloc | apply pw_below_drewN | apply below_drew1) | exact HB.out)) hb); clear HB; have HB := n0_; clear n0_; (try clear hb); (try clear hb2); (try clear hk); (try clear hi)) | ((with_reducible refine gate_callee (f := 33) rfl ?_); refine goesL_ (some 80) rfl rfl Try.func33 (by kernel_rfl) rfl #[.int .i64 t187, .int .i64 t189, .int .i64 t188] rfl (by (try simp only [List.map_toArray, List.map_cons, List.map_nil]); first | done | rfl | (simp only [List.length_drop, List.length_take]; rfl)) ?_; (with_reducible refine (impl_BoxMean.calls kj5 t187 t189 t188 t199 t200 true _ A15.out).mono ?_); rintro e w24 ⟨rfl, hb⟩; refine ⟨_, rfl, ?_⟩; have n0_ := Aside0.mk (below_step (by repeat (first | (with_reducible first | exact HB.out | apply below_alloc | apply pw_below_drewN | apply below_drew1) | exact HB.out)) hb); clear HB; have HB := n0_; clear n0_; (try clear hb); (try clear hb2); (try clear hk); (try clear hi)))
                      go_ret
                      exact ⟨by first | rfl | (simp [errW_none, errW_some] <;> rfl) | (simp [*, errW_none, errW_some] <;> rfl), by repeat (first | (with_reducible first | exact HB.out | apply below_alloc | apply pw_below_drewN | apply below_drew1) | exact HB.out)⟩
                  · replace c19 := Bool.eq_false_iff.mpr c19
                    subst c19
                    have H1 : (some (t190 == (wrap64 (t188 * t191)))) = some r := by rw [if_neg (show ¬ (false = true) by decide)] at H; exact H
                    clear H
                    have H := H1
                    clear H1
                    obtain rfl := Option.some.inj H
                    go_wp2_with (first | ((with_reducible refine gate_callee (f := 28) rfl ?_); refine goesL_ (some 72) rfl rfl Try.func28 (by kernel_rfl) rfl #[.int .i64 t187, .int .i64 t188, .int .i64 t189] rfl (by (try simp only [List.map_toArray, List.map_cons, List.map_nil]); first | done | rfl | (simp only [List.length_drop, List.length_take]; rfl)) ?_; (with_reducible refine (impl_NextChance.calls kj5 t187 t188 t189 t196 t197 false _ A14.out).mono ?_); rintro e w25 ⟨rfl, hb⟩; refine ⟨_, rfl, ?_⟩; have n0_ := Aside0.mk (below_step (by repeat (first | (with_reducible first | exact HB.out | apply below_alloc | apply pw_below_drewN | apply below_drew1) | exact HB.out)) hb); clear HB; have HB := n0_; clear n0_; (try clear hb); (try clear hb2); (try clear hk); (try clear hi)) | ((with_reducible refine gate_callee (f := 33) rfl ?_); refine goesL_ (some 80) rfl rfl Try.func33 (by kernel_rfl) rfl #[.int .i64 t187, .int .i64 t189, .int .i64 t188] rfl (by (try simp only [List.map_toArray, List.map_cons, List.map_nil]); first | done | rfl | (simp only [List.length_drop, List.length_take]; rfl)) ?_; (with_reducible refine (impl_BoxMean.calls kj5 t187 t189 t188 t199 t200 true _ A15.out).mono ?_); rintro e w26 ⟨rfl, hb⟩; refine ⟨_, rfl, ?_⟩; have n0_ := Aside0.mk (below_step (by repeat (first | (with_reducible first | exact HB.out | apply below_alloc | apply pw_below_drewN | apply below_drew1) | exact HB.out)) hb); clear HB; have HB := n0_; clear n0_; (try clear hb); (try clear hb2); (try clear hk); (try clear hi)))
                    go_ret
                    exact ⟨by first | rfl | (simp [errW_none, errW_some] <;> rfl) | (simp [*, errW_none, errW_some] <;> rfl), by repeat (first | (with_reducible first | exact HB.out | apply below_alloc | apply pw_below_drewN | apply below_drew1) | exact HB.out)⟩
                · rw [if_neg c18] at H
                  have c18b0 : ((wrap64 ((wrap64 (t190 * t200)) + (wrap64 (t199 * t191)))) == (wrap64 ((wrap64 (t187 * t191)) * t200))) = false := beq_eq_false_iff_ne.mpr c18
                  have c18b1 : ((wrap64 ((wrap64 (t190 * t200)) + (wrap64 (t199 * t191)))) != (wrap64 ((wrap64 (t187 * t191)) * t200))) = true := bne_iff_ne.mpr c18
                  obtain rfl := Option.some.inj H
                  go_wp2_with (first | ((with_reducible refine gate_callee (f := 28) rfl ?_); refine goesL_ (some 72) rfl rfl Try.func28 (by kernel_rfl) rfl #[.int .i64 t187, .int .i64 t188, .int .i64 t189] rfl (by (try simp only [List.map_toArray, List.map_cons, List.map_nil]); first | done | rfl | (simp only [List.length_drop, List.length_take]; rfl)) ?_; (with_reducible refine (impl_NextChance.calls kj5 t187 t188 t189 t196 t197 t198 _ A14.out).mono ?_); rintro e w27 ⟨rfl, hb⟩; refine ⟨_, rfl, ?_⟩; have n0_ := Aside0.mk (below_step (by repeat (first | (with_reducible first | exact HB.out | apply below_alloc | apply pw_below_drewN | apply below_drew1) | exact HB.out)) hb); clear HB; have HB := n0_; clear n0_; (try clear hb); (try clear hb2); (try clear hk); (try clear hi)) | ((with_reducible refine gate_callee (f := 33) rfl ?_); refine goesL_ (some 80) rfl rfl Try.func33 (by kernel_rfl) rfl #[.int .i64 t187, .int .i64 t189, .int .i64 t188] rfl (by (try simp only [List.map_toArray, List.map_cons, List.map_nil]); first | done | rfl | (simp only [List.length_drop, List.length_take]; rfl)) ?_; (with_reducible refine (impl_BoxMean.calls kj5 t187 t189 t188 t199 t200 true _ A15.out).mono ?_); rintro e w28 ⟨rfl, hb⟩; refine ⟨_, rfl, ?_⟩; have n0_ := Aside0.mk (below_step (by repeat (first | (with_reducible first | exact HB.out | apply below_alloc | apply pw_below_drewN | apply below_drew1) | exact HB.out)) hb); clear HB; have HB := n0_; clear n0_; (try clear hb); (try clear hb2); (try clear hk); (try clear hi)))
                  go_ret
                  exact ⟨by first | rfl | (simp [errW_none, errW_some] <;> rfl) | (simp [*, errW_none, errW_some] <;> rfl), by repeat (first | (with_reducible first | exact HB.out | apply below_alloc | apply pw_below_drewN | apply below_drew1) | exact HB.out)⟩
              · replace c17 := Bool.eq_false_iff.mpr c17
                subst c17
                have H1 : (some false) = some r := by rw [if_neg (show ¬ (false = true) by decide)] at H; exact H
                clear H
                have H := H1
                clear H1
                obtain rfl := Option.some.inj H
                go_wp2_with (first | ((with_reducible refine gate_callee (f := 28) rfl ?_); refine goesL_ (some 72) rfl rfl Try.func28 (by kernel_rfl) rfl #[.int .i64 t187, .int .i64 t188, .int .i64 t189] rfl (by (try simp only [List.map_toArray, List.map_cons, List.map_nil]); first | done | rfl | (simp only [List.length_drop, List.length_take]; rfl)) ?_; (with_reducible refine (impl_NextChance.calls kj5 t187 t188 t189 t196 t197 t198 _ A14.out).mono ?_); rintro e w29 ⟨rfl, hb⟩; refine ⟨_, rfl, ?_⟩; have n0_ := Aside0.mk (below_step (by repeat (first | (with_reducible first | exact HB.out | apply below_alloc | apply pw_below_drewN | apply below_drew1) | exact HB.out)) hb); clear HB; have HB := n0_; clear n0_; (try clear hb); (try clear hb2); (try clear hk); (try clear hi)) | ((with_reducible refine gate_callee (f := 33) rfl ?_); refine goesL_ (some 80) rfl rfl Try.func33 (by kernel_rfl) rfl #[.int .i64 t187, .int .i64 t189, .int .i64 t188] rfl (by (try simp only [List.map_toArray, List.map_cons, List.map_nil]); first | done | rfl | (simp only [List.length_drop, List.length_take]; rfl)) ?_; (with_reducible refine (impl_BoxMean.calls kj5 t187 t189 t188 t199 t200 false _ A15.out).mono ?_); rintro e w30 ⟨rfl, hb⟩; refine ⟨_, rfl, ?_⟩; have n0_ := Aside0.mk (below_step (by repeat (first | (with_reducible first | exact HB.out | apply below_alloc | apply pw_below_drewN | apply below_drew1) | exact HB.out)) hb); clear HB; have HB := n0_; clear n0_; (try clear hb); (try clear hb2); (try clear hk); (try clear hi)))
                go_ret
                exact ⟨by first | rfl | (simp [errW_none, errW_some] <;> rfl) | (simp [*, errW_none, errW_some] <;> rfl), by repeat (first | (with_reducible first | exact HB.out | apply below_alloc | apply pw_below_drewN | apply below_drew1) | exact HB.out)⟩
            · rw [if_neg c16] at H
              have c16b0 : decide (1 ≤ t191) = false := decide_eq_false c16
              clear c16
              obtain rfl := Option.some.inj H
              go_wp2_with (first | ((with_reducible refine gate_callee (f := 28) rfl ?_); refine goesL_ (some 72) rfl rfl Try.func28 (by kernel_rfl) rfl #[.int .i64 t187, .int .i64 t188, .int .i64 t189] rfl (by (try simp only [List.map_toArray, List.map_cons, List.map_nil]); first | done | rfl | (simp only [List.length_drop, List.length_take]; rfl)) ?_; (with_reducible refine (impl_NextChance.calls kj5 t187 t188 t189 t196 t197 t198 _ A14.out).mono ?_); rintro e w31 ⟨rfl, hb⟩; refine ⟨_, rfl, ?_⟩; have n0_ := Aside0.mk (below_step (by repeat (first | (with_reducible first | exact HB.out | apply below_alloc | apply pw_below_drewN | apply below_drew1) | exact HB.out)) hb); clear HB; have HB := n0_; clear n0_; (try clear hb); (try clear hb2); (try clear hk); (try clear hi)) | ((with_reducible refine gate_callee (f := 33) rfl ?_); refine goesL_ (some 80) rfl rfl Try.func33 (by kernel_rfl) rfl #[.int .i64 t187, .int .i64 t189, .int .i64 t188] rfl (by (try simp only [List.map_toArray, List.map_cons, List.map_nil]); first | done | rfl | (simp only [List.length_drop, List.length_take]; rfl)) ?_; (with_reducible refine (impl_BoxMean.calls kj5 t187 t189 t188 t199 t200 t201 _ A15.out).mono ?_); rintro e w32 ⟨rfl, hb⟩; refine ⟨_, rfl, ?_⟩; have n0_ := Aside0.mk (below_step (by repeat (first | (with_reducible first | exact HB.out | apply below_alloc | apply pw_below_drewN | apply below_drew1) | exact HB.out)) hb); clear HB; have HB := n0_; clear n0_; (try clear hb); (try clear hb2); (try clear hk); (try clear hi)))
              go_ret
              exact ⟨by first | rfl | (simp [errW_none, errW_some] <;> rfl) | (simp [*, errW_none, errW_some] <;> rfl), by repeat (first | (with_reducible first | exact HB.out | apply below_alloc | apply pw_below_drewN | apply below_drew1) | exact HB.out)⟩
          · replace c13 := Bool.eq_false_iff.mpr c13
            subst c13
            have H1 : (if t190 = 0 then (if t191 = 0 then ((laws_alive.f kj5).bind fun t202 => (some t202)) else (some false)) else (some false)) = some r := by rw [if_neg (show ¬ (false = true) by decide)] at H; exact H
            clear H
            have H := H1
            clear H1
            by_cases c33 : t190 = 0
            · rw [if_pos c33] at H
              have c33b0 : (t190 == 0) = true := beq_iff_eq.mpr c33
              have c33b1 : (t190 != 0) = false := bne_eq_false_iff_eq.mpr c33
              clear c33
              by_cases c34 : t191 = 0
              · rw [if_pos c34] at H
                have c34b0 : (t191 == 0) = true := beq_iff_eq.mpr c34
                have c34b1 : (t191 != 0) = false := bne_eq_false_iff_eq.mpr c34
                clear c34
                replace H := Option.bind_eq_some_iff.mp H
                obtain ⟨t202, A350, H⟩ := H
                replace H : (some t202) = some r := H
                have A35 := Aside0.mk A350
                clear A350
                obtain rfl := Option.some.inj H
                go_wp2_with (first | (go_at_call 31; (with_reducible refine (laws_alive.calls kj5  t202 _ A35.out).mono ?_); rintro e w36 ⟨rfl, hb⟩; have n0_ := Aside0.mk (below_step (by repeat (first | (with_reducible first | exact HB.out | apply below_alloc | apply pw_below_drewN | apply below_drew1) | exact HB.out)) hb); clear HB; have HB := n0_; clear n0_; (try clear hb); (try clear hb2); (try clear hk); (try clear hi)))
                go_ret
                exact ⟨by first | rfl | (simp [errW_none, errW_some] <;> rfl) | (simp [*, errW_none, errW_some] <;> rfl), by repeat (first | (with_reducible first | exact HB.out | apply below_alloc | apply pw_below_drewN | apply below_drew1) | exact HB.out)⟩
              · rw [if_neg c34] at H
                have c34b0 : (t191 == 0) = false := beq_eq_false_iff_ne.mpr c34
                have c34b1 : (t191 != 0) = true := bne_iff_ne.mpr c34
                obtain rfl := Option.some.inj H
                go_wp2
                go_ret
                exact ⟨by first | rfl | (simp [errW_none, errW_some] <;> rfl) | (simp [*, errW_none, errW_some] <;> rfl), by repeat (first | (with_reducible first | exact HB.out | apply below_alloc | apply pw_below_drewN | apply below_drew1) | exact HB.out)⟩
            · rw [if_neg c33] at H
              have c33b0 : (t190 == 0) = false := beq_eq_false_iff_ne.mpr c33
              have c33b1 : (t190 != 0) = true := bne_iff_ne.mpr c33
              obtain rfl := Option.some.inj H
              go_wp2
              go_ret
              exact ⟨by first | rfl | (simp [errW_none, errW_some] <;> rfl) | (simp [*, errW_none, errW_some] <;> rfl), by repeat (first | (with_reducible first | exact HB.out | apply below_alloc | apply pw_below_drewN | apply below_drew1) | exact HB.out)⟩

/-- THE ONE PURE STATEMENT of laws_FnBoxMean: yours. -/
def laws_FnBoxMean.Pure : Prop := ∀ (l0 : List Int), l0.length ≤ maxLen → l0.length * 1 ≤ 140737488351232 → (∀ x ∈ l0, (Lit.int .u8 x).wf = true) → ∃ k, laws_FnBoxMean.f k l0 = some true
theorem laws_FnBoxMean.walk (P : laws_FnBoxMean.Pure) (a0 : Option Addr) (len0 cap0 : Nat) (z0 : List Int) (w : World) (w0 : (a0 = none ∧ len0 = 0 ∧ cap0 = 0 ∧ z0 = []) ∨ ∃ x, a0 = some x ∧ len0 ≤ cap0 ∧ cap0 ≤ maxLen ∧ z0.length = cap0 ∧ (∀ i, i < z0.length → w.cell? (x.add i) = some (.int .u8 (z0.getD i 0))) ∧ ∀ n ∈ z0, (Lit.int .u8 n).wf = true) (y0 : len0 * 1 ≤ 140737488351232) :
    Calls Try.prog 14 #[.slice a0 len0 cap0] w fun e w' => e = .returned (.bool true) ∧ Below w.heap.size w w' := by
  obtain ⟨l0, rfl, hr0, hm0, hw0, hc0⟩ := ReadsInt.ofRowC w0
  obtain ⟨k, h⟩ := P l0 hm0 y0 hw0
  refine (laws_FnBoxMean.calls k _ _ l0 true w (Kd.C_of_reads (d := (0 : Int)) (h1 := fun _ => rfl) hr0) hc0 h).mono ?_
  rintro e w' ⟨rfl, hd⟩
  exact ⟨rfl, hd⟩

end Go.Proofs.Ytoplkcbmbkadbaa.PFnBoxMean
