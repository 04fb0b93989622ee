/- What the functions that the law FnShareSum reaches come to, each with its proof; and the row of the law. -/
import Derived.Test.YthpjeinjldfmjaaQFnShareSumx0
import Derived.Test.YthpjeinjldfmjaaQFnShareSumx1
import Derived.Test.YthpjeinjldfmjaaQFnShareSumx2
namespace Go.Proofs.Ythpjeinjldfmjaa.QFnShareSum
open Go.RowKit Go.Proofs.YthpjeinjldfmjaaW.PrintWords Go.Proofs.YthpjeinjldfmjaaW.PrintLast Go.Proofs.YthpjeinjldfmjaaW.PrintMore
attribute [local go_sem] max2_int min2_int max_two min_two max_three min_three max_four min_four   -- for this text's walks alone
set_option linter.unusedVariables false
set_option linter.unusedSimpArgs false

/-- What BallSum's own function does with a word. -/
def ballF (k : Nat) (urn : List Int) (rule : List (List Int)) (col : Int) (a : Int) (q : List Int) : Option Int := (impl_ruleWays.f k urn rule q).bind fun x => if 0 < x then ((impl_after.f k urn rule q).bind fun v => if 0 ≤ col ∧ col < (v.length : Int) then some (wrap64 (a + wrap64 (x * rd v col))) else none) else some a
theorem ballF_mono (k : Nat) (urn : List Int) (rule : List (List Int)) (col : Int) (a : Int) (q : List Int) : LeO (ballF k urn rule col a q) (ballF (k + 1) urn rule col a q) :=
  LeO.bind (impl_ruleWays.mono _ _ _ _) fun x => LeO.ite (LeO.bind (impl_after.mono _ _ _ _) fun v => LeO.refl _) (LeO.refl _)
set_option maxHeartbeats 4000000 in
set_option maxRecDepth 100000 in
theorem ball_tells (k : Nat) (w00 w01 w1 : World) (g Bu Br Bc : Nat) (col : Int) (Au : Option Addr) (cu : Nat) (urn : List Int) (Ar : Option Addr) (cr : Nat) (rule : List (List Int)) (hC : Kd.C (Kd.int .i64) w00 Au urn.length urn) (hc : urn.length ≤ cu)
    (hR : Kd.C (Kd.slice 3 (Kd.int .i64)) w01 Ar rule.length rule) (hcr : rule.length ≤ cr) (hB : Below w00.heap.size w00 w1) (hB1 : Below w01.heap.size w01 w1) (hg0 : w00.heap.size ≤ g) (hg1 : w01.heap.size ≤ g)
    (hbu : w1.heap[Bu]? = some (.cells #[.slice Au urn.length cu] 23 (0, 0))) (hbr : w1.heap[Br]? = some (.cells #[.slice Ar rule.length cr] 28 (0, 0))) (hbc : w1.heap[Bc]? = some (.cells #[.int .i64 col] 3 (0, 0))) (h1 : Bu ≠ g) (h2 : Br ≠ g) (h3 : Bc ≠ g) :
    Tells 92 #[.pointer (some ⟨Bu, 0, none⟩), .pointer (some ⟨Br, 0, none⟩), .pointer (some ⟨g, 0, none⟩), .pointer (some ⟨Bc, 0, none⟩)] w1 g (ballF k urn rule col) := by
  intro W a a' Aq cq q hA hq hcq hf
  unfold ballF at hf
  obtain ⟨x, e1, hf⟩ := Option.bind_eq_some_iff.mp hf
  have bU := hA.stay.keep hbu h1
  have bR := hA.stay.keep hbr h2
  have bC := hA.stay.keep hbc h3
  have cU := cell_of_one bU
  have cR := cell_of_one bR
  have HA := Aside0.mk hA
  have HQ := Aside0.mk hq
  have HU := Aside0.mk (Kd.C_below hC (hA.stay.toBelow hB hg0))
  have HR := Aside0.mk (Kd.C_below hR (hA.stay.toBelow hB1 hg1))
  have E1 := Aside0.mk e1
  have KU := Aside0.mk bU
  have KR := Aside0.mk bR
  have KC := Aside0.mk bC
  clear hA hq e1 hC hR hbu hbr hbc hB hB1 bU bR bC
  show Calls Try.prog 92 #[.slice Aq q.length cq, .pointer (some ⟨Bu, 0, none⟩), .pointer (some ⟨Br, 0, none⟩), .pointer (some ⟨g, 0, none⟩), .pointer (some ⟨Bc, 0, none⟩)] W _
  by_cases c : 0 < x
  · rw [if_pos c] at hf
    obtain ⟨v, e2, hf⟩ := Option.bind_eq_some_iff.mp hf
    by_cases cc : 0 ≤ col ∧ col < (v.length : Int)
    · rw [if_pos cc] at hf
      obtain rfl := Option.some.inj hf
      have E2 := Aside0.mk e2
      have CC := Aside0.mk cc
      have d : decide (0 < x) = true := decide_eq_true c
      clear hf e2 c cc
      go_enter Try.func92, Try.ntmps92
      go_wp2_with (go_at_call 59; refine (impl_ruleWays.calls k Au cu urn Ar cr rule Aq cq q x _ HU.out hc HR.out hcr HQ.out hcq E1.out).mono ?_; rintro e w2 ⟨rfl, hB2⟩; have cU2 := cell_of_one ((hB2.block Bu (lt_of_block KU.out)).trans KU.out); have cR2 := cell_of_one ((hB2.block Br (lt_of_block KR.out)).trans KR.out); have cC2 := cell_of_one ((hB2.block Bc (lt_of_block KC.out)).trans KC.out); have cN2 := cell_of_one ((hB2.block g (lt_of_block HA.out.now)).trans HA.out.now); have HB2 := Aside0.mk hB2; clear hB2)
      have fN2 := free_of_one ((HB2.out.block g (lt_of_block HA.out.now)).trans HA.out.now)
      go_region_with (go_at_call 88; refine (impl_after.calls k Au cu urn Ar cr rule Aq cq q v _ (by first | exact Kd.C_below HU.out HB2.out | exact Kd.C_drew (Kd.C_below HU.out HB2.out) | exact Kd.C_drewN (Kd.C_below HU.out HB2.out) _) hc (by first | exact Kd.C_below HR.out HB2.out | exact Kd.C_drew (Kd.C_below HR.out HB2.out) | exact Kd.C_drewN (Kd.C_below HR.out HB2.out) _) hcr (by first | exact Kd.C_below HQ.out HB2.out | exact Kd.C_drew (Kd.C_below HQ.out HB2.out) | exact Kd.C_drewN (Kd.C_below HQ.out HB2.out) _) hcq E2.out).mono ?_; rintro e w3 ⟨v0, rfl, ho0, hB3⟩; have hT := below_next (below_undrew hB3) HB2.out; have cC3 := cell_of_one ((hT.block Bc (lt_of_block KC.out)).trans KC.out); have cN3 := cell_of_one ((hT.block g (lt_of_block HA.out.now)).trans HA.out.now); have fN3 := free_of_one ((hT.block g (lt_of_block HA.out.now)).trans HA.out.now); obtain ⟨Ao, co, eo⟩ := Kd.R_slice ho0; subst eo; obtain ⟨ad, ea, hx⟩ := Kd.at_int (Kd.R_reads' ho0).2.2 col CC.out.1 CC.out.2; cases ea; have p1 := eq_true CC.out.1; have p2 := eq_true CC.out.2; have HT := Aside0.mk hT; clear hT hB3 ho0)
      all_goals
        have e : IntKind.i64.wrap (a + IntKind.i64.wrap (x * rd v col)) = wrap64 (a + wrap64 (x * rd v col)) := by simp only [IntKind.wrap_i64, wrap64]
        have hS := ((Stay.refl W g).below HT.out).far ⟨g, 0, none⟩ (.int .i64 (wrap64 (a + wrap64 (x * rd v col)))) (.inl rfl)
        have hN := one_setCell (u := .int .i64 (wrap64 (a + wrap64 (x * rd v col)))) ((HT.out.block g (lt_of_block HA.out.now)).trans HA.out.now)
        go_end0
        rw [e]
        exact ⟨rfl, hS, hN⟩
    · rw [if_neg cc] at hf
      cases hf
  · rw [if_neg c] at hf
    obtain rfl := Option.some.inj hf
    have d : decide (0 < x) = false := decide_eq_false c
    clear hf c
    go_enter Try.func92, Try.ntmps92
    go_wp2_with (go_at_call 59; refine (impl_ruleWays.calls k Au cu urn Ar cr rule Aq cq q x _ HU.out hc HR.out hcr HQ.out hcq E1.out).mono ?_; rintro e w2 ⟨rfl, hB2⟩; have HB2 := Aside0.mk hB2; clear hB2)
    have hS := (Stay.refl W g).below HB2.out
    have hN := (HB2.out.block g (lt_of_block HA.out.now)).trans HA.out.now
    go_end0
    exact ⟨rfl, hS, hN⟩
theorem box4_0 (w : World) (a b c d : Obj) : ((((w.alloc a).alloc b).alloc c).alloc d).heap[w.heap.size]? = some a := by
  rw [alloc_at, if_neg (by simp; omega), alloc_at, if_neg (by simp; omega), alloc_at, if_neg (by simp), alloc_at, if_pos rfl]
theorem box4_1 (w : World) (a b c d : Obj) : ((((w.alloc a).alloc b).alloc c).alloc d).heap[w.heap.size + 1]? = some b := by
  rw [alloc_at, if_neg (by simp), alloc_at, if_neg (by simp), alloc_at, if_pos (by simp)]
theorem box4_2 (w : World) (a b c d : Obj) : ((((w.alloc a).alloc b).alloc c).alloc d).heap[w.heap.size + 1 + 1]? = some c := by
  rw [alloc_at, if_neg (by simp), alloc_at, if_pos (by simp)]
theorem box4_3 (w : World) (a b c d : Obj) : ((((w.alloc a).alloc b).alloc c).alloc d).heap[w.heap.size + 1 + 1 + 1]? = some d := by
  rw [alloc_at, if_pos (by simp)]
def impl_BallSum.f (k : Nat) (l0 : List Int) (l1 : List (List Int)) (a2 : Int) (a3 : Int) : Option (Int) := (impl_ruleAsked.f k l0 l1).bind fun t1 => (if t1 = true then (if a2 < 0 then some (-1) else (if a2 > 6 then some (-1) else (if a3 < 0 then some (-1) else (if (l0.length : Int) ≤ a3 then some (-1) else (if l0.length ≤ 3 then tellAll (ballF k l0 l1 a3) 0 (allW l0.length a2.toNat) else none))))) else some (-1))
theorem impl_BallSum.mono : ∀ a0 a1 a2 a3 k, LeO (impl_BallSum.f k a0 a1 a2 a3) (impl_BallSum.f (k + 1) a0 a1 a2 a3) := fun a0 a1 a2 a3 k =>
  LeO.bind (impl_ruleAsked.mono _ _ _) fun t1 => LeO.ite (LeO.ite (LeO.refl _) (LeO.ite (LeO.refl _) (LeO.ite (LeO.refl _) (LeO.ite (LeO.refl _) (LeO.ite (tellAll_mono (fun a q => ballF_mono k a0 a1 a3 a q) _ _) (LeO.refl _)))))) (LeO.refl _)
theorem ball_with (k : Nat) (w w0 : World) (g Bu Br Bc m : Nat) (A0 : Option Addr) (c0 : Nat) (l0 : List Int) (A1 : Option Addr) (c1 : Nat) (l1 : List (List Int)) (a3 : Int) (r : Int) (hr0 : Kd.C (Kd.int .i64) w A0 l0.length l0) (hc0 : l0.length ≤ c0) (hr1 : Kd.C (Kd.slice 3 (Kd.int .i64)) w A1 l1.length l1) (hc1 : l1.length ≤ c1)
    (hn : m ≤ 6) (hcol : l0.length ≤ 3) (hf : tellAll (ballF k l0 l1 a3) 0 (allW l0.length m) = some r) (hg0 : w.heap.size ≤ g) (h1 : Bu ≠ g) (h2 : Br ≠ g) (h3 : Bc ≠ g)
    (hB : Below w.heap.size w w0) (hbu : w0.heap[Bu]? = some (.cells #[.slice A0 l0.length c0] 23 (0, 0))) (hbr : w0.heap[Br]? = some (.cells #[.slice A1 l1.length c1] 28 (0, 0))) (hbc : w0.heap[Bc]? = some (.cells #[.int .i64 a3] 3 (0, 0))) (hg : w0.heap[g]? = some (.cells #[.int .i64 0] 3 (0, 0))) :
    Calls Try.prog 71 #[.int .i64 (l0.length : Int), .int .i64 (m : Int), .func (.func 92) #[] #[.pointer (some ⟨Bu, 0, none⟩), .pointer (some ⟨Br, 0, none⟩), .pointer (some ⟨g, 0, none⟩), .pointer (some ⟨Bc, 0, none⟩)]] w0 fun e W' => e = .returned (.tuple #[]) ∧ Stay w0 W' g ∧ W'.heap[g]? = some (.cells #[.int .i64 r] 3 (0, 0)) :=
  words_any w0 g m l0.length 92 _ (ballF k l0 l1 a3) 0 r (enters 92 _ _ Try.func92 (by kernel_rfl) rfl)
    (ball_tells k w w w0 g Bu Br Bc a3 A0 c0 l0 A1 c1 l1 hr0 hc0 hr1 hc1 hB hB hg0 hg0 hbu hbr hbc h1 h2 h3) hn hcol hg hf
set_option maxHeartbeats 8000000 in
set_option maxRecDepth 100000 in
theorem impl_BallSum.calls (k : Nat) (A0 : Option Addr) (c0 : Nat) (l0 : List Int) (A1 : Option Addr) (c1 : Nat) (l1 : List (List Int)) (a2 : Int) (a3 : Int) (r : Int) (w : World) (hr0 : Kd.C (Kd.int .i64) w A0 l0.length l0) (hc0 : l0.length ≤ c0) (hr1 : Kd.C (Kd.slice 3 (Kd.int .i64)) w A1 l1.length l1) (hc1 : l1.length ≤ c1) (h : impl_BallSum.f k l0 l1 a2 a3 = some r) :
    Calls Try.prog 78 #[.slice A0 l0.length c0, .slice A1 l1.length c1, .int .i64 a2, .int .i64 a3] w fun e w' => e = .returned (.int .i64 r) ∧ Below w.heap.size w w' := by
  unfold impl_BallSum.f at h
  obtain ⟨t1, e1, h⟩ := Option.bind_eq_some_iff.mp h
  have E1 := Aside0.mk e1
  have HU := Aside0.mk hr0
  have HV := Aside0.mk hr1
  clear e1
  cases t1 with
  | false =>
    obtain rfl : (-1 : Int) = r := by simpa using h
    clear h hr0 hr1
    go_enter Try.func78, Try.ntmps78
    go_wp2_with (first | (go_at_call 67; refine (impl_ruleAsked.calls k A0 c0 l0 A1 c1 l1 false _ (by repeat (first | exact HU.out | refine Kd.C_drewN ?_ _ | refine Kd.C_alloc ?_ _)) hc0 (by repeat (first | exact HV.out | refine Kd.C_drewN ?_ _ | refine Kd.C_alloc ?_ _)) hc1 E1.out).mono ?_; rintro e w2 ⟨rfl, hD⟩; obtain ⟨nd, rfl⟩ := hD.out; clear hD))
    go_ret
    exact ⟨rfl, by repeat (first | exact Below.refl _ _ | apply pw_below_drewN | apply below_drew | apply below_alloc)⟩
  | true =>
    simp only [if_true] at h
    by_cases c2 : a2 < 0
    · rw [if_pos c2] at h
      obtain rfl := Option.some.inj h
      have d2 : decide (a2 < 0) = true := decide_eq_true c2
      clear h hr0 hr1 c2
      go_enter Try.func78, Try.ntmps78
      go_wp2_with (first | (go_at_call 67; refine (impl_ruleAsked.calls k A0 c0 l0 A1 c1 l1 true _ (by repeat (first | exact HU.out | refine Kd.C_drewN ?_ _ | refine Kd.C_alloc ?_ _)) hc0 (by repeat (first | exact HV.out | refine Kd.C_drewN ?_ _ | refine Kd.C_alloc ?_ _)) hc1 E1.out).mono ?_; rintro e w2 ⟨rfl, hD⟩; obtain ⟨nd, rfl⟩ := hD.out; clear hD))
      go_ret
      exact ⟨rfl, by repeat (first | exact Below.refl _ _ | apply pw_below_drewN | apply below_drew | apply below_alloc)⟩
    · rw [if_neg c2] at h
      have d2 : decide (a2 < 0) = false := decide_eq_false c2
      by_cases c3 : a2 > 6
      · rw [if_pos c3] at h
        obtain rfl := Option.some.inj h
        have d3 : decide (6 < a2) = true := decide_eq_true c3
        clear h hr0 hr1 c2 c3
        go_enter Try.func78, Try.ntmps78
        go_wp2_with (first | (go_at_call 67; refine (impl_ruleAsked.calls k A0 c0 l0 A1 c1 l1 true _ (by repeat (first | exact HU.out | refine Kd.C_drewN ?_ _ | refine Kd.C_alloc ?_ _)) hc0 (by repeat (first | exact HV.out | refine Kd.C_drewN ?_ _ | refine Kd.C_alloc ?_ _)) hc1 E1.out).mono ?_; rintro e w2 ⟨rfl, hD⟩; obtain ⟨nd, rfl⟩ := hD.out; clear hD))
        go_ret
        exact ⟨rfl, by repeat (first | exact Below.refl _ _ | apply pw_below_drewN | apply below_drew | apply below_alloc)⟩
      · rw [if_neg c3] at h
        have d3 : decide (6 < a2) = false := decide_eq_false c3
        by_cases c4 : a3 < 0
        · rw [if_pos c4] at h
          obtain rfl := Option.some.inj h
          have d4 : decide (a3 < 0) = true := decide_eq_true c4
          clear h hr0 hr1 c2 c3 c4
          go_enter Try.func78, Try.ntmps78
          go_wp2_with (first | (go_at_call 67; refine (impl_ruleAsked.calls k A0 c0 l0 A1 c1 l1 true _ (by repeat (first | exact HU.out | refine Kd.C_drewN ?_ _ | refine Kd.C_alloc ?_ _)) hc0 (by repeat (first | exact HV.out | refine Kd.C_drewN ?_ _ | refine Kd.C_alloc ?_ _)) hc1 E1.out).mono ?_; rintro e w2 ⟨rfl, hD⟩; obtain ⟨nd, rfl⟩ := hD.out; clear hD))
          go_ret
          exact ⟨rfl, by repeat (first | exact Below.refl _ _ | apply pw_below_drewN | apply below_drew | apply below_alloc)⟩
        · rw [if_neg c4] at h
          have d4 : decide (a3 < 0) = false := decide_eq_false c4
          by_cases c5 : (l0.length : Int) ≤ a3
          · rw [if_pos c5] at h
            obtain rfl := Option.some.inj h
            have d5 : decide ((l0.length : Int) ≤ a3) = true := decide_eq_true c5
            clear h hr0 hr1 c2 c3 c4 c5
            go_enter Try.func78, Try.ntmps78
            go_wp2_with (first | (go_at_call 67; refine (impl_ruleAsked.calls k A0 c0 l0 A1 c1 l1 true _ (by repeat (first | exact HU.out | refine Kd.C_drewN ?_ _ | refine Kd.C_alloc ?_ _)) hc0 (by repeat (first | exact HV.out | refine Kd.C_drewN ?_ _ | refine Kd.C_alloc ?_ _)) hc1 E1.out).mono ?_; rintro e w2 ⟨rfl, hD⟩; obtain ⟨nd, rfl⟩ := hD.out; clear hD))
            go_ret
            exact ⟨rfl, by repeat (first | exact Below.refl _ _ | apply pw_below_drewN | apply below_drew | apply below_alloc)⟩
          · rw [if_neg c5] at h
            have d5 : decide ((l0.length : Int) ≤ a3) = false := decide_eq_false c5
            by_cases hl : l0.length ≤ 3
            · rw [if_pos hl] at h
              obtain ⟨m, rfl⟩ := Int.eq_ofNat_of_zero_le (show 0 ≤ a2 by omega)
              rw [Int.toNat_natCast] at h
              have hw := fun w0 hB hbu hbr hbc hg => ball_with k w w0 (w.heap.size + 1 + 1 + 1) w.heap.size (w.heap.size + 1) (w.heap.size + 1 + 1) m A0 c0 l0 A1 c1 l1 a3 r hr0 hc0 hr1 hc1 (by omega) hl h (by omega) (by omega) (by omega) (by omega) hB hbu hbr hbc hg
              have h1 := box4_0 w (.cells #[.slice A0 l0.length c0] 23) (.cells #[.slice A1 l1.length c1] 28) (.cells #[.int .i64 a3] 3) (.cells #[.int .i64 0] 3)
              have h2 := box4_1 w (.cells #[.slice A0 l0.length c0] 23) (.cells #[.slice A1 l1.length c1] 28) (.cells #[.int .i64 a3] 3) (.cells #[.int .i64 0] 3)
              have h3 := box4_2 w (.cells #[.slice A0 l0.length c0] 23) (.cells #[.slice A1 l1.length c1] 28) (.cells #[.int .i64 a3] 3) (.cells #[.int .i64 0] 3)
              have h4 := box4_3 w (.cells #[.slice A0 l0.length c0] 23) (.cells #[.slice A1 l1.length c1] 28) (.cells #[.int .i64 a3] 3) (.cells #[.int .i64 0] 3)
              have HW := Aside0.mk hw
              have H1 := Aside0.mk h1
              have H2 := Aside0.mk h2
              have H3 := Aside0.mk h3
              have H4 := Aside0.mk h4
              clear hw h1 h2 h3 h4 h hr0 hr1 hl c2 c3 c4 c5
              go_enter Try.func78, Try.ntmps78
              go_wp2_with (first | (go_at_call 67; refine (impl_ruleAsked.calls k A0 c0 l0 A1 c1 l1 true _ (by repeat (first | exact HU.out | refine Kd.C_drewN ?_ _ | refine Kd.C_alloc ?_ _)) hc0 (by repeat (first | exact HV.out | refine Kd.C_drewN ?_ _ | refine Kd.C_alloc ?_ _)) hc1 E1.out).mono ?_; rintro e w2 ⟨rfl, hD⟩; obtain ⟨nd, rfl⟩ := hD.out; clear hD) | (go_at_call 71; refine (HW.out _ (by repeat (first | exact Below.refl _ _ | apply pw_below_drewN | apply below_drew | apply below_alloc)) (by exact H1.out) (by exact H2.out) (by exact H3.out) (by exact H4.out)).mono ?_; rintro e w4 ⟨rfl, q1, q2⟩; have cN4 := cell_of_one q2; have HQ1 := Aside0.mk q1; clear q1 q2))
              go_ret
              exact ⟨rfl, HQ1.out.toBelow (by repeat (first | exact Below.refl _ _ | apply pw_below_drewN | apply below_drew | apply below_alloc)) (by omega)⟩
            · rw [if_neg hl] at h
              cases h

/-- A rule with a row is no nil. -/
theorem row_some {α : Type} {d : Kd α} {w : World} {A : Option Addr} {xs : List α} (h : d.C w A xs.length xs) (hne : xs ≠ []) : ∃ ad, A = some ad := by
  obtain ⟨ad, e, _⟩ := h.2.2 (List.length_pos_iff.mpr hne)
  exact ⟨ad, e⟩
set_option maxHeartbeats 4000000 in
set_option maxRecDepth 100000 in
/-- No such rule: nil. -/
theorem rule_none (a0 a1 : Int) (t : Bool) (w : World) (e0 : impl_coloursOk.f a0 = some t) (h : t = false ∨ a1 < -1 ∨ a1 > 3) :
    Calls Try.prog 19 #[.int .i64 a0, .int .i64 a1] w fun e w' => e = .returned (.slice none 0 0) ∧ Below w.heap.size w w' := by
  have E0 := Aside0.mk e0
  clear e0
  by_cases ht : t = false
  · subst ht
    clear h
    go_enter Try.func19, Try.ntmps19
    go_wp2_with (go_at_call 65; refine (impl_coloursOk.calls a0 false _ E0.out).mono ?_; rintro e w2 ⟨rfl, hD⟩; obtain ⟨nd, rfl⟩ := hD.out; clear hD)
    go_ret
    exact ⟨rfl, by repeat (first | exact Below.refl _ _ | apply pw_below_drewN | apply below_drew | apply below_alloc)⟩
  · have ht' : t = true := by cases t <;> simp_all
    subst ht'
    by_cases h1 : a1 < -1
    · have d1 : decide (a1 < -1) = true := decide_eq_true h1
      clear h ht h1
      go_enter Try.func19, Try.ntmps19
      go_wp2_with (go_at_call 65; refine (impl_coloursOk.calls a0 true _ E0.out).mono ?_; rintro e w2 ⟨rfl, hD⟩; obtain ⟨nd, rfl⟩ := hD.out; clear hD)
      go_ret
      exact ⟨rfl, by repeat (first | exact Below.refl _ _ | apply pw_below_drewN | apply below_drew | apply below_alloc)⟩
    · have h3 : a1 > 3 := by
        rcases h with h | h | h
        · exact absurd h ht
        · exact absurd h h1
        · exact h
      have d1 : decide (a1 < -1) = false := decide_eq_false h1
      have d2 : decide (3 < a1) = true := decide_eq_true h3
      clear h ht h1 h3
      go_enter Try.func19, Try.ntmps19
      go_wp2_with (go_at_call 65; refine (impl_coloursOk.calls a0 true _ E0.out).mono ?_; rintro e w2 ⟨rfl, hD⟩; obtain ⟨nd, rfl⟩ := hD.out; clear hD)
      go_ret
      exact ⟨rfl, by repeat (first | exact Below.refl _ _ | apply pw_below_drewN | apply below_drew | apply below_alloc)⟩
def impl_ShareSum.f (k : Nat) (l0 : List Int) (a1 : Int) (a2 : Int) (a3 : Int) : Option (Int) := (impl_coloursOk.f (l0.length : Int)).bind fun t0 => (if t0 = false ∨ a1 < -1 ∨ a1 > 3 then some (-1) else ((impl_SameRule.f k (l0.length : Int) a1).bind fun rule => (if rule = [] then none else impl_BallSum.f k l0 rule a2 a3)))
theorem impl_ShareSum.mono : ∀ a0 a1 a2 a3 k, LeO (impl_ShareSum.f k a0 a1 a2 a3) (impl_ShareSum.f (k + 1) a0 a1 a2 a3) := fun a0 a1 a2 a3 k =>
  LeO.bind (LeO.refl _) fun t0 => LeO.ite (LeO.refl _) (LeO.bind (impl_SameRule.mono _ _ _) fun rule => LeO.ite (LeO.refl _) (impl_BallSum.mono _ _ _ _ _))
set_option maxHeartbeats 8000000 in
set_option maxRecDepth 100000 in
theorem impl_ShareSum.calls (k : Nat) (A0 : Option Addr) (c0 : Nat) (l0 : List Int) (a1 : Int) (a2 : Int) (a3 : Int) (r : Int) (w : World) (hr0 : Kd.C (Kd.int .i64) w A0 l0.length l0) (hc0 : l0.length ≤ c0) (h : impl_ShareSum.f k l0 a1 a2 a3 = some r) :
    Calls Try.prog 33 #[.slice A0 l0.length c0, .int .i64 a1, .int .i64 a2, .int .i64 a3] w fun e w' => e = .returned (.int .i64 r) ∧ Below w.heap.size w w' := by
  unfold impl_ShareSum.f at h
  obtain ⟨t0, e0, h⟩ := Option.bind_eq_some_iff.mp h
  have HU := Aside0.mk hr0
  by_cases hbad : t0 = false ∨ a1 < -1 ∨ a1 > 3
  · rw [if_pos hbad] at h
    obtain rfl := Option.some.inj h
    have HB0 := Aside0.mk (fun w => rule_none (l0.length : Int) a1 t0 w e0 hbad)
    have he := fun (W : World) => Lib.run_eql_slice_nil (P := Try.prog) W 28 23 none 0 0 0 0 Try.underlying28
    clear h hr0 hbad e0
    go_enter Try.func33, Try.ntmps33
    go_wp2_with (go_at_call 19; refine (HB0.out _).mono ?_; rintro e w2 ⟨rfl, hB2⟩; have HW2 := Aside0.mk hB2; clear hB2)
    go_ret
    exact ⟨rfl, HW2.out⟩
  · rw [if_neg hbad] at h
    obtain ⟨rule, e1, h⟩ := Option.bind_eq_some_iff.mp h
    by_cases hne : rule = []
    · rw [if_pos hne] at h
      cases h
    · rw [if_neg hne] at h
      have E0 := Aside0.mk e1
      have Hne := Aside0.mk hne
      have E1 := Aside0.mk h
      have he := fun (W : World) (ad : Addr) (n c : Nat) => Lib.run_eql_slice_nil (P := Try.prog) W 28 23 (some ad) n c 0 0 Try.underlying28
      clear e0 e1 h hne hbad hr0
      go_enter Try.func33, Try.ntmps33
      go_wp2_with (first | (go_at_call 19; refine (impl_SameRule.calls k (l0.length : Int) a1 rule _ E0.out).mono ?_; rintro e w2 ⟨v2, rfl, hS2, hB2⟩; obtain ⟨A2, c3, rfl, hc3, hk2⟩ := Kd.R_reads (by first | exact hS2 | exact Kd.S_R hS2 | exact Kd.N_R hS2); obtain ⟨ad, rfl⟩ := row_some hk2 Hne.out; have HW2 := Aside0.mk hB2; have HK2 := Aside0.mk hk2; clear hB2 hk2 hS2) | (go_at_call 78; refine (impl_BallSum.calls k A0 c0 l0 (some ad) c3 rule a2 a3 r _ (by repeat (first | exact Kd.C_below HU.out HW2.out | refine Kd.C_drewN ?_ _ | refine Kd.C_alloc ?_ _)) hc0 (by repeat (first | exact HK2.out | refine Kd.C_drewN ?_ _ | refine Kd.C_alloc ?_ _)) hc3 E1.out).mono ?_; rintro e w4 ⟨rfl, hB4⟩; have HB4 := Aside0.mk (below_next hB4 (by repeat (first | exact HW2.out | exact Below.refl _ _ | apply pw_below_drewN | apply below_drew | apply below_alloc))); clear hB4))
      go_ret
      exact ⟨rfl, HB4.out⟩

/-! ### spec_l1In: function 62 -/
def spec_l1In.f (a0 : Int) (a1 : Int) (a2 : Int) : Option (Bool) := if a0 ≥ a1 then (some (decide (a0 ≤ a2))) else (some false)
set_option maxHeartbeats 8000000 in
set_option maxRecDepth 100000 in
theorem spec_l1In.calls (a0 : Int) (a1 : Int) (a2 : Int) (r : Bool) (w : World) (h : spec_l1In.f a0 a1 a2 = some r) :
    Calls Try.prog 62 #[.int .i64 a0, .int .i64 a1, .int .i64 a2] w fun e w' => e = .returned (.bool r) ∧ Drawn0 w w' := by
  have H : (if a0 ≥ a1 then (some (decide (a0 ≤ a2))) else (some false)) = some r := h
  clear h
  by_cases c4 : a0 ≥ a1
  · rw [if_pos c4] at H
    have c4b0 : decide (a1 ≤ a0) = true := decide_eq_true c4
    clear c4
    obtain rfl := Option.some.inj H
    go_enter Try.func62, Try.ntmps62
    go_wp2
    go_ret
    exact ⟨by first | rfl | (simp; done) | (simp [*]; done), by repeat (first | exact Drawn0.refl _ | apply Drawn0.step)⟩
  · rw [if_neg c4] at H
    have c4b0 : decide (a1 ≤ a0) = false := decide_eq_false c4
    clear c4
    obtain rfl := Option.some.inj H
    go_enter Try.func62, Try.ntmps62
    go_wp2
    go_ret
    exact ⟨by first | rfl | (simp; done) | (simp [*]; done), by repeat (first | exact Drawn0.refl _ | apply Drawn0.step)⟩

/-! ### spec_UrnOk: function 77 -/
def spec_UrnOk.l0 : Nat → List Int → Int → Option (Bool)
  | 0, _, _ => none
  | k + 1, x0, x3 => if x3 < (x0.length : Int) then (if 0 ≤ x3 then ((spec_l1In.f (rd x0 x3) 0 40).bind fun t204 => (if t204 = true then (spec_UrnOk.l0 k x0 (wrap64 (x3 + 1))) else (some false))) else (none)) else ((spec_l1In.f (x0.length : Int) 1 3).bind fun t205 => (some t205))
def spec_UrnOk.f (k : Nat) (l0 : List Int) : Option (Bool) := spec_UrnOk.l0 k l0 0
theorem spec_UrnOk.mono_l : ∀ k, (∀ y0 y1, LeO (spec_UrnOk.l0 k y0 y1) (spec_UrnOk.l0 (k + 1) y0 y1))
  | 0 => fun _ _ r h => by simp [spec_UrnOk.l0] at h
  | k + 1 => by
    have ih0 := spec_UrnOk.mono_l k
    · intro y0 y1
      unfold spec_UrnOk.l0
      repeat' first
      | (with_reducible exact ih0 _ _)
      | (with_reducible exact LeO.refl _)
      | (with_reducible exact LeO.none _)
      | (with_reducible refine LeO.ite ?_ ?_)
      | (with_reducible refine LeO.bind ?_ (fun _ => ?_))
      | exact ih0 _ _
      | exact LeO.none _
      | refine LeO.ite ?_ ?_
      | refine LeO.bind ?_ (fun _ => ?_)
theorem spec_UrnOk.mono : ∀ a0 k, LeO (spec_UrnOk.f k a0) (spec_UrnOk.f (k + 1) a0) := by
  intro a0 k
  have ih0 := spec_UrnOk.mono_l k
  unfold spec_UrnOk.f
  repeat' first
      | (with_reducible exact ih0 _ _)
      | (with_reducible exact LeO.refl _)
      | (with_reducible exact LeO.none _)
      | (with_reducible refine LeO.ite ?_ ?_)
      | (with_reducible refine LeO.bind ?_ (fun _ => ?_))
      | exact ih0 _ _
      | exact LeO.none _
      | refine LeO.ite ?_ ?_
      | refine LeO.bind ?_ (fun _ => ?_)
set_option maxHeartbeats 8000000 in
set_option maxRecDepth 100000 in
theorem spec_UrnOk.calls (k : Nat) (A0 : Option Addr) (c0 : Nat) (l0 : List Int) (r : Bool) (w : World) (hr0 : Kd.C (Kd.int .i64) w A0 l0.length l0) (hc0 : l0.length ≤ c0) (h : spec_UrnOk.f k l0 = some r) :
    Calls Try.prog 77 #[.slice A0 l0.length c0] w fun e w' => e = .returned (.bool r) ∧ Drawn0 w w' := by
  have HR0 := Aside0.mk hr0
  have HC0 := Aside0.mk hc0
  clear hr0 hc0
  have H : (spec_UrnOk.l0 k l0 0) = some r := h
  clear h
  have H' := Aside0.mk H
  clear H
  go_enter Try.func77, Try.ntmps77
  go_wp2
  go_loopg [3] k (fun kq v3 w' => ∃ (x3_1 : Int), v3 = .int .i64 x3_1 ∧ Aside0 (spec_UrnOk.l0 kq l0 x3_1 = some r) ∧ Aside0 (kq ≤ k) ∧ Drawn0 w w')
  case atStart => exact ⟨(0), (by first | rfl | (simp; done) | (simp [*]; done)), H', ⟨Nat.le_refl _⟩, by repeat (first | exact Drawn0.refl _ | apply Drawn0.step)⟩
  case round =>
    clear H'
    obtain ⟨x3_1, rfl, HA, HK1, ⟨m1, rfl⟩⟩ := hrel
    cases gk with
    | zero => exact absurd HA.out (by simp [spec_UrnOk.l0])
    | succ k1 =>
      have H := HA.out
      clear HA
      simp only [spec_UrnOk.l0] at H
      by_cases c2 : x3_1 < (l0.length : Int)
      · rw [if_pos c2] at H
        have c2b0 : decide (x3_1 < (l0.length : Int)) = true := decide_eq_true c2
        clear c2
        by_cases c3 : 0 ≤ x3_1
        · rw [if_pos c3] at H
          have c3b0 : decide (0 ≤ x3_1) = true := decide_eq_true c3
          clear c3
          replace H := Option.bind_eq_some_iff.mp H
          obtain ⟨t204, A40, H⟩ := H
          replace H : (if t204 = true then (spec_UrnOk.l0 k1 l0 (wrap64 (x3_1 + 1))) else (some false)) = some r := H
          have A4 := Aside0.mk A40
          clear A40
          by_cases c5 : t204 = true
          · subst c5
            have H1 : (spec_UrnOk.l0 k1 l0 (wrap64 (x3_1 + 1))) = some r := by rw [if_pos rfl] at H; exact H
            clear H
            have H := H1
            clear H1
            have H' := Aside0.mk H
            clear H
            have p203 : 0 ≤ (x3_1 : Int) := of_decide_eq_true (by first | (with_reducible assumption) | assumption)
            have q203 : x3_1 < (l0.length : Int) := of_decide_eq_true (by first | (with_reducible assumption) | assumption)
            obtain ⟨ad203, e203, hx203_0⟩ := Kd.at_int HR0.out x3_1 p203 q203
            cases e203
            replace p203 := eq_true p203
            replace q203 := eq_true q203
            go_wp2_with (first | ((with_reducible refine gate_callee (f := 62) rfl ?_); refine goesL_ (some 14) rfl rfl Try.func62 (by kernel_rfl) rfl #[.int .i64 (rd l0 x3_1), .int .i64 0, .int .i64 40] rfl (by (try simp only [List.map_toArray, List.map_cons, List.map_nil]); first | done | rfl | (simp only [List.length_drop, List.length_take]; rfl)) ?_; (with_reducible refine (spec_l1In.calls (rd l0 x3_1) 0 40 true _ A4.out).mono ?_); rintro e w' ⟨rfl, ⟨nd, rfl⟩⟩; refine ⟨_, rfl, ?_⟩))
            go_roundg k1
            case measure => have := HK1.out; omega
            case rel => exact ⟨(wrap64 (x3_1 + 1)), (by first | rfl | (simp; done) | (simp [*]; done)), H', ⟨by have := HK1.out; omega⟩, by repeat (first | exact Drawn0.refl _ | apply Drawn0.step)⟩
          · replace c5 := Bool.eq_false_iff.mpr c5
            subst c5
            have H1 : (some false) = some r := by rw [if_neg (show ¬ (false = true) by decide)] at H; exact H
            clear H
            have H := H1
            clear H1
            obtain rfl := Option.some.inj H
            have p203 : 0 ≤ (x3_1 : Int) := of_decide_eq_true (by first | (with_reducible assumption) | assumption)
            have q203 : x3_1 < (l0.length : Int) := of_decide_eq_true (by first | (with_reducible assumption) | assumption)
            obtain ⟨ad203, e203, hx203_0⟩ := Kd.at_int HR0.out x3_1 p203 q203
            cases e203
            replace p203 := eq_true p203
            replace q203 := eq_true q203
            go_wp2_with (first | ((with_reducible refine gate_callee (f := 62) rfl ?_); refine goesL_ (some 14) rfl rfl Try.func62 (by kernel_rfl) rfl #[.int .i64 (rd l0 x3_1), .int .i64 0, .int .i64 40] rfl (by (try simp only [List.map_toArray, List.map_cons, List.map_nil]); first | done | rfl | (simp only [List.length_drop, List.length_take]; rfl)) ?_; (with_reducible refine (spec_l1In.calls (rd l0 x3_1) 0 40 false _ A4.out).mono ?_); rintro e w' ⟨rfl, ⟨nd, rfl⟩⟩; refine ⟨_, rfl, ?_⟩))
            go_ret
            exact ⟨by first | rfl | (simp; done) | (simp [*]; done), by repeat (first | exact Drawn0.refl _ | apply Drawn0.step)⟩
        · rw [if_neg c3] at H
          exact absurd H (by simp)
      · rw [if_neg c2] at H
        have c2b0 : decide (x3_1 < (l0.length : Int)) = false := decide_eq_false c2
        clear c2
        replace H := Option.bind_eq_some_iff.mp H
        obtain ⟨t205, A60, H⟩ := H
        replace H : (some t205) = some r := H
        have A6 := Aside0.mk A60
        clear A60
        obtain rfl := Option.some.inj H
        go_wp2_with (first | ((with_reducible refine gate_callee (f := 62) rfl ?_); refine goesL_ (some 18) rfl rfl Try.func62 (by kernel_rfl) rfl #[.int .i64 (l0.length : Int), .int .i64 1, .int .i64 3] rfl (by (try simp only [List.map_toArray, List.map_cons, List.map_nil]); first | done | rfl | (simp only [List.length_drop, List.length_take]; rfl)) ?_; (with_reducible refine (spec_l1In.calls (l0.length : Int) 1 3 t205 _ A6.out).mono ?_); rintro e w' ⟨rfl, ⟨nd, rfl⟩⟩; refine ⟨_, rfl, ?_⟩))
        go_ret
        exact ⟨by first | rfl | (simp; done) | (simp [*]; done), by repeat (first | exact Drawn0.refl _ | apply Drawn0.step)⟩

/-! ### spec_StartOk: function 60 -/
def spec_StartOk.l0 : Nat → List Int → Int → Option (Bool)
  | 0, _, _ => none
  | k + 1, x0, x3 => if x3 < (x0.length : Int) then (if 0 ≤ x3 then (if (rd x0 x3) > 10 then (some false) else (spec_StartOk.l0 k x0 (wrap64 (x3 + 1)))) else (none)) else ((spec_UrnOk.f k x0).bind fun t207 => (some t207))
def spec_StartOk.f (k : Nat) (l0 : List Int) : Option (Bool) := spec_StartOk.l0 k l0 0
theorem spec_StartOk.mono_l : ∀ k, (∀ y0 y1, LeO (spec_StartOk.l0 k y0 y1) (spec_StartOk.l0 (k + 1) y0 y1))
  | 0 => fun _ _ r h => by simp [spec_StartOk.l0] at h
  | k + 1 => by
    have ih0 := spec_StartOk.mono_l k
    · intro y0 y1
      unfold spec_StartOk.l0
      repeat' first
      | (with_reducible exact ih0 _ _)
      | (with_reducible exact spec_UrnOk.mono _ _)
      | (with_reducible exact LeO.refl _)
      | (with_reducible exact LeO.none _)
      | (with_reducible refine LeO.ite ?_ ?_)
      | (with_reducible refine LeO.bind ?_ (fun _ => ?_))
      | exact ih0 _ _
      | exact spec_UrnOk.mono _ _
      | exact LeO.none _
      | refine LeO.ite ?_ ?_
      | refine LeO.bind ?_ (fun _ => ?_)
theorem spec_StartOk.mono : ∀ a0 k, LeO (spec_StartOk.f k a0) (spec_StartOk.f (k + 1) a0) := by
  intro a0 k
  have ih0 := spec_StartOk.mono_l k
  unfold spec_StartOk.f
  repeat' first
      | (with_reducible exact ih0 _ _)
      | (with_reducible exact spec_UrnOk.mono _ _)
      | (with_reducible exact LeO.refl _)
      | (with_reducible exact LeO.none _)
      | (with_reducible refine LeO.ite ?_ ?_)
      | (with_reducible refine LeO.bind ?_ (fun _ => ?_))
      | exact ih0 _ _
      | exact spec_UrnOk.mono _ _
      | exact LeO.none _
      | refine LeO.ite ?_ ?_
      | refine LeO.bind ?_ (fun _ => ?_)
set_option maxHeartbeats 8000000 in
set_option maxRecDepth 100000 in
theorem spec_StartOk.calls (k : Nat) (A0 : Option Addr) (c0 : Nat) (l0 : List Int) (r : Bool) (w : World) (hr0 : Kd.C (Kd.int .i64) w A0 l0.length l0) (hc0 : l0.length ≤ c0) (h : spec_StartOk.f k l0 = some r) :
    Calls Try.prog 60 #[.slice A0 l0.length c0] w fun e w' => e = .returned (.bool r) ∧ Drawn0 w w' := by
  have HR0 := Aside0.mk hr0
  have HC0 := Aside0.mk hc0
  clear hr0 hc0
  have H : (spec_StartOk.l0 k l0 0) = some r := h
  clear h
  have H' := Aside0.mk H
  clear H
  go_enter Try.func60, Try.ntmps60
  go_wp2
  go_loopg [3] k (fun kq v3 w' => ∃ (x3_1 : Int), v3 = .int .i64 x3_1 ∧ Aside0 (spec_StartOk.l0 kq l0 x3_1 = some r) ∧ Aside0 (kq ≤ k) ∧ Drawn0 w w')
  case atStart => exact ⟨(0), (by first | rfl | (simp; done) | (simp [*]; done)), H', ⟨Nat.le_refl _⟩, by repeat (first | exact Drawn0.refl _ | apply Drawn0.step)⟩
  case round =>
    clear H'
    obtain ⟨x3_1, rfl, HA, HK1, ⟨m1, rfl⟩⟩ := hrel
    cases gk with
    | zero => exact absurd HA.out (by simp [spec_StartOk.l0])
    | succ k1 =>
      have H := HA.out
      clear HA
      simp only [spec_StartOk.l0] at H
      by_cases c2 : x3_1 < (l0.length : Int)
      · rw [if_pos c2] at H
        have c2b0 : decide (x3_1 < (l0.length : Int)) = true := decide_eq_true c2
        clear c2
        by_cases c3 : 0 ≤ x3_1
        · rw [if_pos c3] at H
          have c3b0 : decide (0 ≤ x3_1) = true := decide_eq_true c3
          clear c3
          by_cases c4 : (rd l0 x3_1) > 10
          · rw [if_pos c4] at H
            have c4b0 : decide (10 < (rd l0 x3_1)) = true := decide_eq_true c4
            clear c4
            obtain rfl := Option.some.inj H
            have p206 : 0 ≤ (x3_1 : Int) := of_decide_eq_true (by first | (with_reducible assumption) | assumption)
            have q206 : x3_1 < (l0.length : Int) := of_decide_eq_true (by first | (with_reducible assumption) | assumption)
            obtain ⟨ad206, e206, hx206_0⟩ := Kd.at_int HR0.out x3_1 p206 q206
            cases e206
            replace p206 := eq_true p206
            replace q206 := eq_true q206
            go_wp2
            go_ret
            exact ⟨by first | rfl | (simp; done) | (simp [*]; done), by repeat (first | exact Drawn0.refl _ | apply Drawn0.step)⟩
          · rw [if_neg c4] at H
            have c4b0 : decide (10 < (rd l0 x3_1)) = false := decide_eq_false c4
            clear c4
            have H' := Aside0.mk H
            clear H
            have p206 : 0 ≤ (x3_1 : Int) := of_decide_eq_true (by first | (with_reducible assumption) | assumption)
            have q206 : x3_1 < (l0.length : Int) := of_decide_eq_true (by first | (with_reducible assumption) | assumption)
            obtain ⟨ad206, e206, hx206_0⟩ := Kd.at_int HR0.out x3_1 p206 q206
            cases e206
            replace p206 := eq_true p206
            replace q206 := eq_true q206
            go_wp2
            go_roundg k1
            case measure => have := HK1.out; omega
            case rel => exact ⟨(wrap64 (x3_1 + 1)), (by first | rfl | (simp; done) | (simp [*]; done)), H', ⟨by have := HK1.out; omega⟩, by repeat (first | exact Drawn0.refl _ | apply Drawn0.step)⟩
        · rw [if_neg c3] at H
          exact absurd H (by simp)
      · rw [if_neg c2] at H
        have c2b0 : decide (x3_1 < (l0.length : Int)) = false := decide_eq_false c2
        clear c2
        replace H := Option.bind_eq_some_iff.mp H
        obtain ⟨t207, A50, H⟩ := H
        replace H : (some t207) = some r := H
        have A5 := Aside0.mk A50
        clear A50
        obtain rfl := Option.some.inj H
        go_wp2_with (first | ((with_reducible refine gate_callee (f := 77) rfl ?_); refine goesL_ (some 16) rfl rfl Try.func77 (by kernel_rfl) rfl #[.slice A0 l0.length c0] rfl (by (try simp only [List.map_toArray, List.map_cons, List.map_nil]); first | done | rfl | (simp only [List.length_drop, List.length_take]; rfl)) ?_; (with_reducible refine (spec_UrnOk.calls k1 _ _ l0 t207 _ ?side1 ?side2 A5.out).mono ?_); (case side1 => repeat (first | exact HR0.out | (with_reducible refine Kd.C_alloc ?_ _) | (with_reducible refine Kd.C_drewN ?_ _) | (with_reducible refine Kd.C_drew ?_))); (case side2 => exact HC0.out); rintro e w' ⟨rfl, ⟨nd, rfl⟩⟩; refine ⟨_, rfl, ?_⟩))
        go_ret
        exact ⟨by first | rfl | (simp; done) | (simp [*]; done), by repeat (first | exact Drawn0.refl _ | apply Drawn0.step)⟩

/-! ### spec_l5Shares: function 79 -/
mutual
def spec_l5Shares.l0 : Nat → List Int → Int → Int → Int → Int → Int → Option (Int)
  | 0, _, _, _, _, _, _ => none
  | k + 1, x0, x1, x2, x3, x9, x10 => if x10 < (x0.length : Int) then (if 0 ≤ x10 then (if (rd x0 x10) > 0 then ((some (([] : List Int) : List Int)).bind fun y210 => (if y210.length + x0.length < 17592186044416 then ((some (y210 ++ x0 : List Int)).bind fun y213 => (if x10 < (y213.length : Int) then ((spec_l5Shares.f k (y213.set (x10 : Int).toNat (wrap64 ((rd y213 x10) + x1))) x1 (wrap64 (x2 - 1)) x3).bind fun t219 => (spec_l5Shares.l0 k x0 x1 x2 x3 (wrap64 (x9 + (wrap64 ((rd x0 x10) * t219)))) (wrap64 (x10 + 1)))) else (none))) else (none))) else (spec_l5Shares.l0 k x0 x1 x2 x3 x9 (wrap64 (x10 + 1)))) else (none)) else (some x9)
def spec_l5Shares.f : Nat → List Int → Int → Int → Int → Option (Int)
  | 0, _, _, _, _ => none
  | k + 1, l0, a1, a2, a3 => if a2 = 0 then (if 0 ≤ a3 then (if a3 < (l0.length : Int) then (some (rd l0 a3)) else (none)) else (none)) else (spec_l5Shares.l0 k l0 a1 a2 a3 0 0)
end
theorem spec_l5Shares.mono_l : ∀ k, (∀ y0 y1 y2 y3, LeO (spec_l5Shares.f k y0 y1 y2 y3) (spec_l5Shares.f (k + 1) y0 y1 y2 y3)) ∧ (∀ y0 y1 y2 y3 y4 y5, LeO (spec_l5Shares.l0 k y0 y1 y2 y3 y4 y5) (spec_l5Shares.l0 (k + 1) y0 y1 y2 y3 y4 y5))
  | 0 => ⟨fun _ _ _ _ r h => by simp [spec_l5Shares.f] at h, fun _ _ _ _ _ _ r h => by simp [spec_l5Shares.l0] at h⟩
  | k + 1 => by
    obtain ⟨ih0, ih1⟩ := spec_l5Shares.mono_l k
    refine ⟨?_, ?_⟩
    · intro y0 y1 y2 y3
      unfold spec_l5Shares.f
      repeat' first
      | (with_reducible exact ih0 _ _ _ _)
      | (with_reducible exact ih1 _ _ _ _ _ _)
      | (with_reducible exact LeO.refl _)
      | (with_reducible exact LeO.none _)
      | (with_reducible refine LeO.ite ?_ ?_)
      | (with_reducible refine LeO.bind ?_ (fun _ => ?_))
      | exact ih0 _ _ _ _
      | exact ih1 _ _ _ _ _ _
      | exact LeO.none _
      | refine LeO.ite ?_ ?_
      | refine LeO.bind ?_ (fun _ => ?_)
    · intro y0 y1 y2 y3 y4 y5
      unfold spec_l5Shares.l0
      repeat' first
      | (with_reducible exact ih0 _ _ _ _)
      | (with_reducible exact ih1 _ _ _ _ _ _)
      | (with_reducible exact LeO.refl _)
      | (with_reducible exact LeO.none _)
      | (with_reducible refine LeO.ite ?_ ?_)
      | (with_reducible refine LeO.bind ?_ (fun _ => ?_))
      | exact ih0 _ _ _ _
      | exact ih1 _ _ _ _ _ _
      | exact LeO.none _
      | refine LeO.ite ?_ ?_
      | refine LeO.bind ?_ (fun _ => ?_)
theorem spec_l5Shares.mono : ∀ a0 a1 a2 a3 k, LeO (spec_l5Shares.f k a0 a1 a2 a3) (spec_l5Shares.f (k + 1) a0 a1 a2 a3) := by
  intro a0 a1 a2 a3 k
  obtain ⟨ih0, ih1⟩ := spec_l5Shares.mono_l k
  exact ih0 a0 a1 a2 a3
def spec_l5Shares.T10 : Bool × List (List Nat × List Nat) := (true, [([], []), ([], []), ([], []), ([1, 2], [1, 2]), ([3], [3]), ([], []), ([], []), ([], []), ([7], [7]), ([], []), ([5, 6, 8, 9], [5, 6, 8, 9]), ([4, 10], [4, 10]), ([0, 11], [0, 11]), ([12, 10, 0, 1, 2, 3, 4, 5, 6, 7, 8, 9, 10, 11, 12], [0, 12])])
def spec_l5Shares.B10 : List Nat := [0, 0, 0, 6, 14, 0, 0, 0, 128, 0, 992, 2046, 4095, 8191]
theorem spec_l5Shares.tab10 : rtab .any (opsOf Try.f79 10) = spec_l5Shares.T10 := by kernel_rfl
theorem spec_l5Shares.bits10 : waitsOk spec_l5Shares.T10.2 spec_l5Shares.B10 = true := by kernel_rfl
set_option maxHeartbeats 8000000 in
set_option maxRecDepth 100000 in
theorem spec_l5Shares.calls (k : Nat) : ∀ (A0 : Option Addr) (c0 : Nat) (l0 : List Int) (a1 : Int) (a2 : Int) (a3 : Int) (r : Int) (w : World) (hr0 : Kd.C (Kd.int .i64) w A0 l0.length l0) (hc0 : l0.length ≤ c0) (h : spec_l5Shares.f k l0 a1 a2 a3 = some r),
    Calls Try.prog 79 #[.slice A0 l0.length c0, .int .i64 a1, .int .i64 a2, .int .i64 a3] w fun e w' => e = .returned (.int .i64 r) ∧ Below w.heap.size w w' := by
  induction k using Nat.strongRecOn with
  | _ k ih =>
  intro A0 c0 l0 a1 a2 a3 r w hr0 hc0 h
  cases k with
  | zero => exact absurd h (by simp [spec_l5Shares.f])
  | succ k =>
  simp only [spec_l5Shares.f] at h
  have HR0 := Aside0.mk hr0
  have HC0 := Aside0.mk hc0
  clear hr0 hc0
  have HB := Aside0.mk (Below.refl w.heap.size w)
  have H : (if a2 = 0 then (if 0 ≤ a3 then (if a3 < (l0.length : Int) then (some (rd l0 a3)) else (none)) else (none)) else (spec_l5Shares.l0 k l0 a1 a2 a3 0 0)) = some r := h
  clear h
  by_cases c5 : a2 = 0
  · rw [if_pos c5] at H
    have c5b0 : (a2 == 0) = true := beq_iff_eq.mpr c5
    have c5b1 : (a2 != 0) = false := bne_eq_false_iff_eq.mpr c5
    clear c5
    by_cases c6 : 0 ≤ a3
    · rw [if_pos c6] at H
      have c6b0 : decide (0 ≤ a3) = true := decide_eq_true c6
      clear c6
      by_cases c7 : a3 < (l0.length : Int)
      · rw [if_pos c7] at H
        have c7b0 : decide (a3 < (l0.length : Int)) = true := decide_eq_true c7
        clear c7
        obtain rfl := Option.some.inj H
        have p208 : 0 ≤ (a3 : Int) := of_decide_eq_true (by first | (with_reducible assumption) | assumption)
        have q208 : a3 < (l0.length : Int) := of_decide_eq_true (by first | (with_reducible assumption) | assumption)
        obtain ⟨ad208, e208, hx208_0⟩ := Kd.at_int HR0.out a3 p208 q208
        cases e208
        replace p208 := eq_true p208
        replace q208 := eq_true q208
        go_enter Try.func79, Try.ntmps79
        go_wp2
        go_ret
        exact ⟨by first | rfl | (simp [errW_none, errW_some] <;> rfl) | (simp [*, errW_none, errW_some] <;> rfl), by repeat (first | (with_reducible first | exact HB.out | apply below_alloc | apply pw_below_drewN | apply below_drew1) | exact HB.out)⟩
      · rw [if_neg c7] at H
        exact absurd H (by simp)
    · rw [if_neg c6] at H
      exact absurd H (by simp)
  · rw [if_neg c5] at H
    have c5b0 : (a2 == 0) = false := beq_eq_false_iff_ne.mpr c5
    have c5b1 : (a2 != 0) = true := bne_iff_ne.mpr c5
    have H' := Aside0.mk H
    clear H
    go_enter Try.func79, Try.ntmps79
    go_wp2
    go_loopg [9, 10] k (fun kq v9 v10 w' => ∃ (x9_1 : Int) (x10_1 : Int), v9 = .int .i64 x9_1 ∧ v10 = .int .i64 x10_1 ∧ Aside0 (spec_l5Shares.l0 kq l0 a1 a2 a3 x9_1 x10_1 = some r) ∧ Aside0 (kq ≤ k) ∧ Aside0 (Below w.heap.size w w'))
    case atStart => exact ⟨(0), (0), (by first | rfl | (simp; done) | (simp [*]; done)), (by first | rfl | (simp; done) | (simp [*]; done)), H', ⟨Nat.le_refl _⟩, ⟨by repeat (first | (with_reducible first | exact HB.out | apply below_alloc | apply pw_below_drewN | apply below_drew1) | exact HB.out)⟩⟩
    case round =>
      clear H'
      try clear p2
      try clear q2
      try clear hx2
      try clear c5
      try clear c5b0
      try clear c5b1
      try clear c6
      try clear c6b0
      try clear c7
      try clear c7b0
      try clear hx208_0
      try clear p208
      try clear q208
      obtain ⟨x9_1, x10_1, rfl, rfl, HA, HK1, HB⟩ := hrel
      cases gk with
      | zero => exact absurd HA.out (by simp [spec_l5Shares.l0])
      | succ k1 =>
        have H := HA.out
        clear HA
        simp only [spec_l5Shares.l0] at H
        by_cases c8 : x10_1 < (l0.length : Int)
        · rw [if_pos c8] at H
          have c8b0 : decide (x10_1 < (l0.length : Int)) = true := decide_eq_true c8
          clear c8
          by_cases c9 : 0 ≤ x10_1
          · rw [if_pos c9] at H
            have c9b0 : decide (0 ≤ x10_1) = true := decide_eq_true c9
            clear c9
            by_cases c10 : (rd l0 x10_1) > 0
            · rw [if_pos c10] at H
              have c10b0 : decide (0 < (rd l0 x10_1)) = true := decide_eq_true c10
              clear c10
              obtain ⟨y210, hy210⟩ : ∃ y_ : List Int, y_ = (([] : List Int)) := ⟨_, rfl⟩
              replace H : (if y210.length + l0.length < 17592186044416 then ((some (y210 ++ l0 : List Int)).bind fun y213 => (if x10_1 < (y213.length : Int) then ((spec_l5Shares.f k1 (y213.set (x10_1 : Int).toNat (wrap64 ((rd y213 x10_1) + a1))) a1 (wrap64 (a2 - 1)) a3).bind fun t219 => (spec_l5Shares.l0 k1 l0 a1 a2 a3 (wrap64 (x9_1 + (wrap64 ((rd l0 x10_1) * t219)))) (wrap64 (x10_1 + 1)))) else (none))) else (none)) = some r := by first | (rw [hy210]; with_reducible exact H) | (have H2_ := (Option.bind_some _ _).symm.trans H; rw [hy210]; with_reducible exact H2_) | (have H2_ := (Option.bind_some _ _).symm.trans H; with_reducible exact H2_) | with_reducible exact H | (rw [hy210]; exact H) | exact H
              have Ny210 := Aside0.mk hy210
              clear hy210
              by_cases c11 : y210.length + l0.length < 17592186044416
              · rw [if_pos c11] at H
                have LMc11 := Aside0.mk c11
                clear c11
                obtain ⟨y213, hy213⟩ : ∃ y_ : List Int, y_ = (y210 ++ l0) := ⟨_, rfl⟩
                replace H : (if x10_1 < (y213.length : Int) then ((spec_l5Shares.f k1 (y213.set (x10_1 : Int).toNat (wrap64 ((rd y213 x10_1) + a1))) a1 (wrap64 (a2 - 1)) a3).bind fun t219 => (spec_l5Shares.l0 k1 l0 a1 a2 a3 (wrap64 (x9_1 + (wrap64 ((rd l0 x10_1) * t219)))) (wrap64 (x10_1 + 1)))) else (none)) = some r := by first | (rw [hy213]; with_reducible exact H) | (have H2_ := (Option.bind_some _ _).symm.trans H; rw [hy213]; with_reducible exact H2_) | (have H2_ := (Option.bind_some _ _).symm.trans H; with_reducible exact H2_) | with_reducible exact H | (rw [hy213]; exact H) | exact H
                have Ny213 := Aside0.mk hy213
                clear hy213
                by_cases c12 : x10_1 < (y213.length : Int)
                · rw [if_pos c12] at H
                  have c12b0 : decide (x10_1 < (y213.length : Int)) = true := decide_eq_true c12
                  clear c12
                  obtain ⟨y217, hy217⟩ : ∃ y_ : List Int, y_ = (y213.set (x10_1 : Int).toNat (wrap64 ((rd y213 x10_1) + a1))) := ⟨_, rfl⟩
                  replace H : ((spec_l5Shares.f k1 y217 a1 (wrap64 (a2 - 1)) a3).bind fun t219 => (spec_l5Shares.l0 k1 l0 a1 a2 a3 (wrap64 (x9_1 + (wrap64 ((rd l0 x10_1) * t219)))) (wrap64 (x10_1 + 1)))) = some r := by first | (rw [hy217]; with_reducible exact H) | (have H2_ := (Option.bind_some _ _).symm.trans H; rw [hy217]; with_reducible exact H2_) | (have H2_ := (Option.bind_some _ _).symm.trans H; with_reducible exact H2_) | with_reducible exact H | (rw [hy217]; exact H) | exact H
                  have Ny217 := Aside0.mk hy217
                  clear hy217
                  replace H := Option.bind_eq_some_iff.mp H
                  obtain ⟨t219, A140, H⟩ := H
                  replace H : (spec_l5Shares.l0 k1 l0 a1 a2 a3 (wrap64 (x9_1 + (wrap64 ((rd l0 x10_1) * t219)))) (wrap64 (x10_1 + 1))) = some r := H
                  have A14 := Aside0.mk A140
                  clear A140
                  have H' := Aside0.mk H
                  clear H
                  have p209 : 0 ≤ (x10_1 : Int) := of_decide_eq_true (by first | (with_reducible assumption) | assumption)
                  have q209 : x10_1 < (l0.length : Int) := of_decide_eq_true (by first | (with_reducible assumption) | assumption)
                  obtain ⟨ad209, e209, hx209_0⟩ := Kd.at_int HR0.out x10_1 p209 q209
                  cases e209
                  replace hx209_0 := (HB.out.cell (World.block_lt_of_cell? w _ hx209_0)).trans hx209_0
                  replace p209 := eq_true p209
                  replace q209 := eq_true q209
                  try go_wp2_with (first | ((with_reducible refine gate_dst (N := 29) rfl ?_); refine Kd.R_lit (Kd.int .i64) _ 3 ?hg (N := 29) ?hd (xs := ([] : List Int)) (inner := []) (ok := fun _ => True) (okp := fun _ => True) ?hr ?hp (fun _ hk => hk) trivial (Below.refl _ _) (Nat.le_refl _) (by simp) ?_; (case hd => rfl); (case hg => rfl); (case hr => first | (go_simp; done) | (go_simp; rfl)); (case hp => exact (Reps.none _ _)); intro v211 w15 ho16 hb hg_ hnew_; clear hg_ hnew_; (first | rw [← Ny210.out] at ho16 | (simp only [Int.reduceToNat] at ho16; rw [← Ny210.out] at ho16)); have n0_ := Aside0.mk (Kd.R_lower ho16 (below_size (by repeat (first | (with_reducible first | exact HB.out | apply below_alloc | apply pw_below_drewN | apply below_drew1) | exact HB.out)))); have n1_ := Aside0.mk (below_step (by repeat (first | (with_reducible first | exact HB.out | apply below_alloc | apply pw_below_drewN | apply below_drew1) | exact HB.out)) hb); clear HB; have HO212 := n0_; have HB := n1_; clear n0_ n1_; clear hb ho16) | ((with_reducible refine gate_builtin (b := .append) (xs := #[.tmp 29, .tmp 30]) rfl ?_); at_builtin; refine Kd.R_append_rows (Kd.int .i64) (w0 := w) w.heap.size rfl (.tmp 29) (.tmp 30) 23 3 (.int .i64 0) 8 rfl Try.underlying23 info3 rfl (by decide) (by omega) v211 y210 l0 _ _ _ (fun _ => True) (fun _ => False) rfl rfl ?aO ?aR (fun _ _ h => h) (fun _ h => h.elim) ?aF ?aB ?aS ?aL ?_; (case aR => repeat (first | exact (Kd.C_below HR0.out HB.out) | (with_reducible refine Kd.C_alloc ?_ _) | (with_reducible refine Kd.C_drewN ?_ _) | (with_reducible refine Kd.C_drew ?_))); (case aB => exact (by repeat (first | (with_reducible first | exact HB.out | apply below_alloc | apply pw_below_drewN | apply below_drew1) | exact HB.out))); (case aF => exact (fun _ _ => trivial)); (case aO => exact (by (with_reducible repeat (first | apply Kd.R_alloc | apply Kd.R_drewN | apply Kd.R_drew)); exact HO212.out)); (case aS => exact (below_size (by repeat (first | (with_reducible first | exact HB.out | apply below_alloc | apply pw_below_drewN | apply below_drew1) | exact HB.out)))); (case aL => have := LMc11.out; omega); intro v214 w17 ho hb hg hat; rw [← Ny213.out] at ho; have n0_ := Aside0.mk (hb); have n1_ := Aside0.mk (ho); clear HB; clear HO212; have HB := n0_; have HO215 := n1_; clear n0_ n1_; clear ho hb hg hat; obtain ⟨Ao18, co18, eo18⟩ := Kd.R_slice HO215.out; subst eo18; have p216 : 0 ≤ (x10_1 : Int) := of_decide_eq_true (by first | (with_reducible assumption) | assumption); have q216 : x10_1 < (y213.length : Int) := of_decide_eq_true (by first | (with_reducible assumption) | assumption); obtain ⟨ad216, e216, hx216_0⟩ := Kd.at_int (Kd.R_reads' HO215.out).2.2 x10_1 p216 q216; cases e216; replace p216 := eq_true p216; replace q216 := eq_true q216; have p13 : 0 ≤ (x10_1 : Int) := of_decide_eq_true (by first | (with_reducible assumption) | assumption); have q13 : (x10_1 : Int) < ((y213.length : Int) : Int) := of_decide_eq_true (by first | (with_reducible assumption) | assumption); obtain ⟨go13, co13, eo13, gb13, gl13, cl13, HG13⟩ := Kd.R_form HO215.out (by omega); (first | cases eo13 | (injection eo13 with ea_ en_ ec_; (first | subst ea_ | (injection ea_ with ea_; subst ea_)); subst ec_; clear en_)); have GB13 := Aside0.mk gb13; have GG13 := Aside0.mk HG13; clear gb13 gl13 HG13; (first | simp only [add_plain] at hx216_0 | skip); obtain ⟨hx13_0, hf13_0⟩ := Kd.R_celln 0 HO215.out (x10_1 : Int) p13 q13; replace p13 := eq_true p13; replace q13 := eq_true q13; obtain ⟨hy19_, hz19_⟩ := Kd.R_celln 0 HO215.out (x10_1 : Int) (of_decide_eq_true (by first | (with_reducible assumption) | assumption)) (of_decide_eq_true (by first | (with_reducible assumption) | assumption)); have HP19 := Kd.R_putg HO215.out (x10_1 : Int) (wrap64 ((rd y213 x10_1) + a1))) | ((with_reducible refine gate_store (t := 3) (p := 40) rfl ?_); refine store_event (t := 3) (p := 40) (v := ?vo_w20) (w1 := (w17.setCell ⟨go13, (x10_1 : Int).toNat, none⟩ (.int .i64 (wrap64 ((rd y213 x10_1) + a1))))) ?hg ?ho ?hn ?hr ?_; (case ho => rfl); (case hg => rfl); (case hn => rfl); (case hr => first | (go_simp; done) | (go_simp; rfl)); intro w20 hw; have hg : w17.grownBy w20 (some go13) := (by rw [hw]; exact HP19.2); have hp_ : Kd.R (Kd.int .i64) 3 w20 w.heap.size (fun _ => True) (.slice (some ⟨go13, 0, none⟩) y213.length co18) y217 := (by rw [hw, Ny217.out]; exact HP19.1); clear HP19; have n0_ := Aside0.mk (hp_); have n1_ := Aside0.mk ((by rw [hw]; exact below_set (HB.out) GB13.out : Below w.heap.size w w20)); clear HO215; clear HB; have HO215 := n0_; have HB := n1_; clear n0_ n1_; clear hg hw hp_))
                  have n0_ := Aside0.mk (Kd.R_drew HO215.out)
                  have n1_ := Aside0.mk (below_drew1 HB.out)
                  clear HO215
                  clear HB
                  have HO215 := n0_
                  have HB := n1_
                  clear n0_ n1_
                  have p218 : 0 ≤ (x10_1 : Int) := of_decide_eq_true (by first | (with_reducible assumption) | assumption)
                  have q218 : x10_1 < (l0.length : Int) := of_decide_eq_true (by first | (with_reducible assumption) | assumption)
                  obtain ⟨ad218, e218, hx218_0⟩ := Kd.at_int HR0.out x10_1 p218 q218
                  have hw218_0 := hx218_0
                  obtain rfl : ad209 = ad218 := (by injection e218)
                  replace hx218_0 := (HB.out.cell (World.block_lt_of_cell? w _ hx218_0)).trans hx218_0
                  replace p218 := eq_true p218
                  replace q218 := eq_true q218
                  refine start_ (n := 14) (S := fun w' => w'.cell? (ad209.add (x10_1).toNat) = some (.int .i64 (rd l0 x10_1))) (ds := []) #[false, false, false, false, false, false, false, false, false, false, false, false, false, false] (by kernel_rfl) rfl rfl (((HB.out.cell (World.block_lt_of_cell? w _ hw218_0)).trans hw218_0)) (fun hHeld => ?_); refine with_tabW spec_l5Shares.tab10 spec_l5Shares.bits10 (fun HT_ HW_ => ?_)
                  generalize w20.drew = w21 at HO215 HB hx218_0 hHeld ⊢
                  refine pure_ (i := 0) (N := some 41) (v := ?_) (a' := ?_) #[true, false, false, false, false, false, false, false, false, false, false, false, false, false] rfl rfl (any_of HT_.out (by kernel_rfl)) (fun _ _ _ h => h) (Or.inl ⟨by rfl, ?_⟩) ?_ ?_
                  rotate_left
                  · intro w'
                    go_simp
                    with_reducible rfl
                  rotate_left
                  · simp only [Act.put, List.setIfInBounds_toArray, List.set_cons_zero, List.set_cons_succ, i64_w, i32_w]
                    rfl
                  refine pure_ (i := 1) (N := some 42) (v := ?_) (a' := ?_) #[true, true, false, false, false, false, false, false, false, false, false, false, false, false] rfl rfl (any_of HT_.out (by kernel_rfl)) (fun _ _ _ h => h) (Or.inl ⟨by rfl, ?_⟩) ?_ ?_
                  rotate_left
                  · intro w'
                    go_simp
                    with_reducible rfl
                  rotate_left
                  · simp only [Act.put, List.setIfInBounds_toArray, List.set_cons_zero, List.set_cons_succ, i64_w, i32_w]
                    rfl
                  refine pure_ (i := 2) (N := some 43) (v := ?_) (a' := ?_) #[true, true, true, false, false, false, false, false, false, false, false, false, false, false] rfl rfl (any_of HT_.out (by kernel_rfl)) (fun _ _ _ h => h) (Or.inl ⟨by rfl, ?_⟩) ?_ ?_
                  rotate_left
                  · intro w'
                    go_simp
                    with_reducible rfl
                  rotate_left
                  · simp only [Act.put, List.setIfInBounds_toArray, List.set_cons_zero, List.set_cons_succ, i64_w, i32_w]
                    rfl
                  refine pure_ (i := 3) (N := some 44) (v := ?_) (a' := ?_) #[true, true, true, true, false, false, false, false, false, false, false, false, false, false] rfl rfl (any_of HT_.out (by kernel_rfl)) (fun _ _ _ h => h) (Or.inl ⟨by rfl, ?_⟩) ?_ ?_
                  rotate_left
                  · intro w'
                    go_simp
                    with_reducible rfl
                  rotate_left
                  · simp only [Act.put, List.setIfInBounds_toArray, List.set_cons_zero, List.set_cons_succ, i64_w, i32_w]
                    rfl
                  refine pure_ (i := 5) (N := some 46) (v := ?_) (a' := ?_) #[true, true, true, true, false, true, false, false, false, false, false, false, false, false] rfl rfl (any_of HT_.out (by kernel_rfl)) (fun _ _ _ h => h) (Or.inl ⟨by rfl, ?_⟩) ?_ ?_
                  rotate_left
                  · intro w'
                    go_simp
                    with_reducible rfl
                  rotate_left
                  · simp only [Act.put, List.setIfInBounds_toArray, List.set_cons_zero, List.set_cons_succ, i64_w, i32_w]
                    rfl
                  refine pure_ (i := 6) (N := some 47) (v := ?_) (a' := ?_) #[true, true, true, true, false, true, true, false, false, false, false, false, false, false] rfl rfl (any_of HT_.out (by kernel_rfl)) (fun _ _ _ h => h) (Or.inl ⟨by rfl, ?_⟩) ?_ ?_
                  rotate_left
                  · intro w'
                    go_simp
                    with_reducible rfl
                  rotate_left
                  · simp only [Act.put, List.setIfInBounds_toArray, List.set_cons_zero, List.set_cons_succ, i64_w, i32_w]
                    rfl
                  refine pure_ (i := 7) (N := some 48) (v := ?_) (a' := ?_) #[true, true, true, true, false, true, true, true, false, false, false, false, false, false] rfl rfl (any_of HT_.out (by kernel_rfl)) (fun _ _ _ h => h) (Or.inl ⟨by rfl, ?_⟩) ?_ ?_
                  rotate_left
                  · intro w'
                    go_simp
                    with_reducible rfl
                  rotate_left
                  · simp only [Act.put, List.setIfInBounds_toArray, List.set_cons_zero, List.set_cons_succ, i64_w, i32_w]
                    rfl
                  refine pure_ (i := 8) (N := some 49) (v := ?_) (a' := ?_) #[true, true, true, true, false, true, true, true, true, false, false, false, false, false] rfl rfl (any_of HT_.out (by kernel_rfl)) (fun _ _ _ h => h) (Or.inl ⟨by rfl, ?_⟩) ?_ ?_
                  rotate_left
                  · intro w'
                    go_simp
                    with_reducible rfl
                  rotate_left
                  · simp only [Act.put, List.setIfInBounds_toArray, List.set_cons_zero, List.set_cons_succ, i64_w, i32_w]
                    rfl
                  refine pure_ (i := 9) (N := some 50) (v := ?_) (a' := ?_) #[true, true, true, true, false, true, true, true, true, true, false, false, false, false] rfl rfl (any_of HT_.out (by kernel_rfl)) (fun _ _ _ h => h) (Or.inl ⟨by rfl, ?_⟩) ?_ ?_
                  rotate_left
                  · intro w'
                    go_simp
                    with_reducible rfl
                  rotate_left
                  · simp only [Act.put, List.setIfInBounds_toArray, List.set_cons_zero, List.set_cons_succ, i64_w, i32_w]
                    rfl
                  refine take_ (i := 4) (N := some 45) (v := ?_) (a' := ?_) #[true, true, true, true, true, true, true, true, true, true, false, false, false, false] rfl rfl (take_ofW HT_.out HW_.out (by kernel_rfl)) (fun _ _ _ h => h) (Or.inl ⟨by rfl, ?_⟩) hHeld ?_ ?_
                  rotate_left
                  · intro w' s0
                    go_simp
                    with_reducible rfl
                  rotate_left
                  · simp only [Act.put, List.setIfInBounds_toArray, List.set_cons_zero, List.set_cons_succ, i64_w, i32_w]
                    rfl
                  refine one_ (i := 10) (N := some 51) #[true, true, true, true, true, true, true, true, true, true, true, false, false, false] rfl rfl (one_of HT_.out (by kernel_rfl)) (by decide) (fun K hK => ?_)
                  refine goes_ Try.func79 (by kernel_rfl) rfl #[.slice (some ⟨go13, 0, none⟩) y217.length co18, .int .i64 a1, .int .i64 (wrap64 (a2 - 1)), .int .i64 a3] (by rfl) rfl rfl (by (try simp only [List.map_toArray, List.map_cons, List.map_nil]); first | done | (rw [show y217.length = y213.length from (Kd.R_reads' HO215.out).1.symm] <;> rfl) | rfl | (simp only [List.length_drop, List.length_take]; rfl)) ?_
                  with_reducible refine (ih k1 (by have := HK1.out; omega) _ _ y217 a1 (wrap64 (a2 - 1)) a3 t219 _ ?side1 ?side2 A14.out).mono ?_
                  (case side1 => repeat (first | exact (Kd.R_reads' HO215.out).2.2 | (with_reducible refine Kd.C_alloc ?_ _) | (with_reducible refine Kd.C_drewN ?_ _) | (with_reducible refine Kd.C_drew ?_)))
                  (case side2 => rw [show y217.length = y213.length from (Kd.R_reads' HO215.out).1.symm]; exact (Kd.R_reads' HO215.out).2.1)
                  rintro e w22 ⟨rfl, hb⟩
                  refine ⟨_, rfl, ?_⟩
                  have n0_ := Aside0.mk (Kd.R_below (by (with_reducible repeat (first | apply Kd.R_alloc | apply Kd.R_drewN | apply Kd.R_drew)); exact HO215.out) hb)
                  have n1_ := Aside0.mk (below_step (by repeat (first | (with_reducible first | exact HB.out | apply below_alloc | apply pw_below_drewN | apply below_drew1) | exact HB.out)) hb)
                  clear HO215
                  clear HB
                  have HO215 := n0_
                  have HB := n1_
                  clear n0_ n1_
                  (try clear hb)
                  (try clear hb2)
                  (try clear hk)
                  (try clear hi)
                  refine hK.out _ _ (((HB.out.cell (World.block_lt_of_cell? w _ hw218_0)).trans hw218_0)) (fun hHeld => ?_)
                  clear hK K
                  refine norm_ (a' := ?_) ?_ ?_
                  rotate_left
                  · show Act.put _ (some 51) _ = _
                    simp only [Act.put, List.setIfInBounds_toArray, List.set_cons_zero, List.set_cons_succ, i64_w, i32_w]
                    rfl
                  refine pure_ (i := 11) (N := some 52) (v := ?_) (a' := ?_) #[true, true, true, true, true, true, true, true, true, true, true, true, false, false] rfl rfl (any_of HT_.out (by kernel_rfl)) (fun _ _ _ h => h) (Or.inl ⟨by rfl, ?_⟩) ?_ ?_
                  rotate_left
                  · intro w'
                    go_simp
                    with_reducible rfl
                  rotate_left
                  · simp only [Act.put, List.setIfInBounds_toArray, List.set_cons_zero, List.set_cons_succ, i64_w, i32_w]
                    rfl
                  refine pure_ (i := 12) (N := some 53) (v := ?_) (a' := ?_) #[true, true, true, true, true, true, true, true, true, true, true, true, true, false] rfl rfl (any_of HT_.out (by kernel_rfl)) (fun _ _ _ h => h) (Or.inl ⟨by rfl, ?_⟩) ?_ ?_
                  rotate_left
                  · intro w'
                    go_simp
                    with_reducible rfl
                  rotate_left
                  · simp only [Act.put, List.setIfInBounds_toArray, List.set_cons_zero, List.set_cons_succ, i64_w, i32_w]
                    rfl
                  refine pure_ (i := 13) (N := some 9) (v := ?_) (a' := ?_) #[true, true, true, true, true, true, true, true, true, true, true, true, true, true] rfl rfl (any_of HT_.out (by kernel_rfl)) (fun _ _ _ h => h) (Or.inl ⟨by rfl, ?_⟩) ?_ ?_
                  rotate_left
                  · intro w'
                    go_simp
                    with_reducible rfl
                  rotate_left
                  · simp only [Act.put, List.setIfInBounds_toArray, List.set_cons_zero, List.set_cons_succ, i64_w, i32_w]
                    rfl
                  refine done_ (done_of HT_.out (by kernel_rfl)) ?_
                  try go_wp2
                  go_roundg k1
                  case measure => have := HK1.out; omega
                  case rel => exact ⟨(wrap64 (x9_1 + (wrap64 ((rd l0 x10_1) * t219)))), (wrap64 (x10_1 + 1)), (by first | rfl | (simp; done) | (simp [*]; done)), (by first | rfl | (simp; done) | (simp [*]; done)), H', ⟨by have := HK1.out; omega⟩, ⟨by repeat (first | (with_reducible first | exact HB.out | apply below_alloc | apply pw_below_drewN | apply below_drew1) | exact HB.out)⟩⟩
                · rw [if_neg c12] at H
                  exact absurd H (by simp)
              · rw [if_neg c11] at H
                exact absurd H (by simp)
            · rw [if_neg c10] at H
              have c10b0 : decide (0 < (rd l0 x10_1)) = false := decide_eq_false c10
              clear c10
              have H' := Aside0.mk H
              clear H
              have p209 : 0 ≤ (x10_1 : Int) := of_decide_eq_true (by first | (with_reducible assumption) | assumption)
              have q209 : x10_1 < (l0.length : Int) := of_decide_eq_true (by first | (with_reducible assumption) | assumption)
              obtain ⟨ad209, e209, hx209_0⟩ := Kd.at_int HR0.out x10_1 p209 q209
              cases e209
              replace hx209_0 := (HB.out.cell (World.block_lt_of_cell? w _ hx209_0)).trans hx209_0
              replace p209 := eq_true p209
              replace q209 := eq_true q209
              go_wp2
              go_roundg k1
              case measure => have := HK1.out; omega
              case rel => exact ⟨(x9_1), (wrap64 (x10_1 + 1)), (by first | rfl | (simp; done) | (simp [*]; done)), (by first | rfl | (simp; done) | (simp [*]; done)), H', ⟨by have := HK1.out; omega⟩, ⟨by repeat (first | (with_reducible first | exact HB.out | apply below_alloc | apply pw_below_drewN | apply below_drew1) | exact HB.out)⟩⟩
          · rw [if_neg c9] at H
            exact absurd H (by simp)
        · rw [if_neg c8] at H
          have c8b0 : decide (x10_1 < (l0.length : Int)) = false := decide_eq_false c8
          clear c8
          obtain rfl := Option.some.inj H
          go_wp2
          go_ret
          exact ⟨by first | rfl | (simp [errW_none, errW_some] <;> rfl) | (simp [*, errW_none, errW_some] <;> rfl), by repeat (first | (with_reducible first | exact HB.out | apply below_alloc | apply pw_below_drewN | apply below_drew1) | exact HB.out)⟩

end Go.Proofs.Ythpjeinjldfmjaa.QFnShareSum
