/- What the functions that the law FnShareSum reaches come to, each with its proof; and the row of the law. -/
import Derived.Test.YthpjeinjldfmjaaQFnShareSumx0
import Derived.Test.YthpjeinjldfmjaaQFnShareSumx1
namespace Go.Proofs.Ythpjeinjldfmjaa.QFnShareSum
open Go.RowKit Go.Proofs.YthpjeinjldfmjaaW.PrintWords Go.Proofs.YthpjeinjldfmjaaW.PrintLast Go.Proofs.YthpjeinjldfmjaaW.PrintMore
attribute [local go_sem] max2_int min2_int max_two min_two max_three min_three max_four min_four   -- for this text's walks alone
set_option linter.unusedVariables false
set_option linter.unusedSimpArgs false

/-! ### impl_ruleAsked: function 67 -/
def impl_ruleAsked.f (k : Nat) (l0 : List Int) (l1 : List (List Int)) : Option (Bool) := (impl_StartOk.f k l0).bind fun t127 => (if t127 = true then ((impl_RuleOk.f k (l0.length : Int) l1).bind fun t128 => (some t128)) else (some false))
theorem impl_ruleAsked.mono : ∀ a0 a1 k, LeO (impl_ruleAsked.f k a0 a1) (impl_ruleAsked.f (k + 1) a0 a1) := by
  intro a0 a1 k
  unfold impl_ruleAsked.f
  repeat' first
      | (with_reducible exact impl_RuleOk.mono _ _ _)
      | (with_reducible exact impl_StartOk.mono _ _)
      | (with_reducible exact LeO.refl _)
      | (with_reducible exact LeO.none _)
      | (with_reducible refine LeO.ite ?_ ?_)
      | (with_reducible refine LeO.bind ?_ (fun _ => ?_))
      | exact impl_RuleOk.mono _ _ _
      | exact impl_StartOk.mono _ _
      | exact LeO.none _
      | refine LeO.ite ?_ ?_
      | refine LeO.bind ?_ (fun _ => ?_)
set_option maxHeartbeats 8000000 in
set_option maxRecDepth 100000 in
theorem impl_ruleAsked.calls (k : Nat) (A0 : Option Addr) (c0 : Nat) (l0 : List Int) (A1 : Option Addr) (c1 : Nat) (l1 : List (List Int)) (r : Bool) (w : World) (hr0 : Kd.C (Kd.int .i64) w A0 l0.length l0) (hc0 : l0.length ≤ c0) (hr1 : Kd.C (Kd.slice 3 (Kd.int .i64)) w A1 l1.length l1) (hc1 : l1.length ≤ c1) (h : impl_ruleAsked.f k l0 l1 = some r) :
    Calls Try.prog 67 #[.slice A0 l0.length c0, .slice A1 l1.length c1] w fun e w' => e = .returned (.bool r) ∧ Drawn0 w w' := by
  have HR0 := Aside0.mk hr0
  have HC0 := Aside0.mk hc0
  clear hr0 hc0
  have HR1 := Aside0.mk hr1
  have HC1 := Aside0.mk hc1
  clear hr1 hc1
  have H : ((impl_StartOk.f k l0).bind fun t127 => (if t127 = true then ((impl_RuleOk.f k (l0.length : Int) l1).bind fun t128 => (some t128)) else (some false))) = some r := h
  clear h
  replace H := Option.bind_eq_some_iff.mp H
  obtain ⟨t127, A30, H⟩ := H
  replace H : (if t127 = true then ((impl_RuleOk.f k (l0.length : Int) l1).bind fun t128 => (some t128)) else (some false)) = some r := H
  have A3 := Aside0.mk A30
  clear A30
  by_cases c4 : t127 = true
  · subst c4
    have H1 : ((impl_RuleOk.f k (l0.length : Int) l1).bind fun t128 => (some t128)) = some r := by rw [if_pos rfl] at H; exact H
    clear H
    have H := H1
    clear H1
    replace H := Option.bind_eq_some_iff.mp H
    obtain ⟨t128, A50, H⟩ := H
    replace H : (some t128) = some r := H
    have A5 := Aside0.mk A50
    clear A50
    obtain rfl := Option.some.inj H
    go_enter Try.func67, Try.ntmps67
    go_wp2_with (first | ((with_reducible refine gate_callee (f := 55) rfl ?_); refine goesL_ (some 6) rfl rfl Try.func55 (by kernel_rfl) rfl #[.slice A0 l0.length c0] rfl (by (try simp only [List.map_toArray, List.map_cons, List.map_nil]); first | done | rfl | (simp only [List.length_drop, List.length_take]; rfl)) ?_; (with_reducible refine (impl_StartOk.calls k _ _ l0 true _ ?side1 ?side2 A3.out).mono ?_); (case side1 => repeat (first | exact HR0.out | (with_reducible refine Kd.C_alloc ?_ _) | (with_reducible refine Kd.C_drewN ?_ _) | (with_reducible refine Kd.C_drew ?_))); (case side2 => exact HC0.out); rintro e w' ⟨rfl, ⟨nd, rfl⟩⟩; refine ⟨_, rfl, ?_⟩) | (go_at_call 90; (with_reducible refine (impl_RuleOk.calls k (l0.length : Int) _ _ l1 t128 _ ?side1 ?side2 A5.out).mono ?_); (case side1 => repeat (first | exact HR1.out | (with_reducible refine Kd.C_alloc ?_ _) | (with_reducible refine Kd.C_drewN ?_ _) | (with_reducible refine Kd.C_drew ?_))); (case side2 => exact HC1.out); rintro e w' ⟨rfl, ⟨nd, rfl⟩⟩))
    go_ret
    exact ⟨by first | rfl | (simp; done) | (simp [*]; done), by repeat (first | exact Drawn0.refl _ | apply Drawn0.step)⟩
  · replace c4 := Bool.eq_false_iff.mpr c4
    subst c4
    have H1 : (some false) = some r := by rw [if_neg (show ¬ (false = true) by decide)] at H; exact H
    clear H
    have H := H1
    clear H1
    obtain rfl := Option.some.inj H
    go_enter Try.func67, Try.ntmps67
    go_wp2_with (first | ((with_reducible refine gate_callee (f := 55) rfl ?_); refine goesL_ (some 6) rfl rfl Try.func55 (by kernel_rfl) rfl #[.slice A0 l0.length c0] rfl (by (try simp only [List.map_toArray, List.map_cons, List.map_nil]); first | done | rfl | (simp only [List.length_drop, List.length_take]; rfl)) ?_; (with_reducible refine (impl_StartOk.calls k _ _ l0 false _ ?side1 ?side2 A3.out).mono ?_); (case side1 => repeat (first | exact HR0.out | (with_reducible refine Kd.C_alloc ?_ _) | (with_reducible refine Kd.C_drewN ?_ _) | (with_reducible refine Kd.C_drew ?_))); (case side2 => exact HC0.out); rintro e w' ⟨rfl, ⟨nd, rfl⟩⟩; refine ⟨_, rfl, ?_⟩))
    go_ret
    exact ⟨by first | rfl | (simp; done) | (simp [*]; done), by repeat (first | exact Drawn0.refl _ | apply Drawn0.step)⟩

-- NOT PRINTED: function 91 (impl_words_1)


/-- All words of m draws of c colours, the first place slowest. -/
def allW (c : Nat) : Nat → List (List Int)
  | 0 => [[]]
  | m + 1 => (List.range c).flatMap fun (x : Nat) => (allW c m).map fun t => (x : Int) :: t
/-- A number that is told one word after the other. -/
def tellAll (f : Int → List Int → Option Int) : Int → List (List Int) → Option Int
  | a, [] => some a
  | a, q :: qs => (f a q).bind fun a' => tellAll f a' qs
theorem tellAll_append (f : Int → List Int → Option Int) (xs ys : List (List Int)) : ∀ a, tellAll f a (xs ++ ys) = (tellAll f a xs).bind fun a' => tellAll f a' ys := by
  induction xs with
  | nil => intro a; rfl
  | cons q qs ih =>
    intro a
    show (f a q).bind _ = ((f a q).bind _).bind _
    cases f a q with
    | none => rfl
    | some a' => exact ih a'

/-- The world is as it was but for one block of w's (and what is new). -/
structure Stay (w W : World) (g : Nat) : Prop where
  os : W.os = w.os
  tape : W.tape = w.tape
  output : W.output = w.output
  size : w.heap.size ≤ W.heap.size
  block : ∀ i, i < w.heap.size → i ≠ g → W.heap[i]? = w.heap[i]?
theorem Stay.refl (w : World) (g : Nat) : Stay w w g := ⟨rfl, rfl, rfl, Nat.le_refl _, fun _ _ _ => rfl⟩
theorem Stay.trans {w W V : World} {g : Nat} (h : Stay w W g) (k : Stay W V g) : Stay w V g :=
  ⟨k.os.trans h.os, k.tape.trans h.tape, k.output.trans h.output, Nat.le_trans h.size k.size, fun i hi hg => (k.block i (Nat.lt_of_lt_of_le hi h.size) hg).trans (h.block i hi hg)⟩
theorem Stay.below {w W V : World} {g : Nat} (h : Stay w W g) (k : Below W.heap.size W V) : Stay w V g :=
  h.trans ⟨k.os, k.tape, k.output, k.size, fun i hi _ => k.block i hi⟩
theorem Stay.far {w W : World} {g : Nat} (h : Stay w W g) (p : Addr) (u : Value) (hp : p.block = g ∨ w.heap.size ≤ p.block) : Stay w (W.setCell p u) g :=
  ⟨h.os, h.tape, h.output, by simpa [World.setCell] using h.size, fun i hi hg => (Below.heap_setCell W p u i (by omega)).trans (h.block i hi hg)⟩
theorem Stay.drewN {w W : World} {g : Nat} (h : Stay w W g) (m : Nat) : Stay w (W.drewN m) g := ⟨h.os, h.tape, h.output, h.size, h.block⟩
theorem Stay.keep {w W : World} {g k : Nat} {o : Obj} (h : Stay w W g) (hb : w.heap[k]? = some o) (hk : k ≠ g) : W.heap[k]? = some o := (h.block k (lt_of_block hb) hk).trans hb
theorem Stay.toBelow {w W V : World} {g : Nat} (h : Stay W V g) (k : Below w.heap.size w W) (hg : w.heap.size ≤ g) : Below w.heap.size w V :=
  k.trans ⟨h.os, h.tape, h.output, h.size, fun i hi => h.block i (Nat.lt_of_lt_of_le hi k.size) (by omega)⟩

/-- The number that is told stands in block g, the wordsRest is as it was. -/
structure Acc (w0 W : World) (g : Nat) (a : Int) : Prop where
  stay : Stay w0 W g
  now : W.heap[g]? = some (.cells #[.int .i64 a] 3 (0, 0))
/-- What is asked of the function that is told a word: it tells the number on, and turns nothing else. -/
def Tells (t : Nat) (lb : Array Value) (w0 : World) (g : Nat) (f : Int → List Int → Option Int) : Prop :=
  ∀ (W : World) (a a' : Int) (A : Option Addr) (c : Nat) (q : List Int), Acc w0 W g a → Kd.C (Kd.int .i64) W A q.length q → q.length ≤ c → f a q = some a' →
    Calls Try.prog t (#[.slice A q.length c] ++ lb) W fun e W' => e = .returned (.tuple #[]) ∧ Stay W W' g ∧ W'.heap[g]? = some (.cells #[.int .i64 a'] 3 (0, 0))

/-- The variables of a call of words. -/
structure Fr (W : World) (Bm Bt Bw Bc By G : Nat) (many colours : Nat) (t : Nat) (lb : Array Value) (A : Option Addr) (c : Nat) (p : List Int) : Prop where
  hm : W.heap[Bm]? = some (.cells #[.int .i64 (many : Int)] 3 (0, 0))
  ht : W.heap[Bt]? = some (.cells #[.func (.func t) #[] lb] 61 (0, 0))
  hw : W.heap[Bw]? = some (.cells #[.slice A p.length c] 23 (0, 0))
  hc : W.heap[Bc]? = some (.cells #[.int .i64 (colours : Int)] 3 (0, 0))
  hy : W.heap[By]? = some (.cells #[.func (.func 91) #[] #[.pointer (some ⟨Bm, 0, none⟩), .pointer (some ⟨Bt, 0, none⟩), .pointer (some ⟨Bw, 0, none⟩), .pointer (some ⟨Bc, 0, none⟩), .pointer (some ⟨By, 0, none⟩)]] 73 (0, 0))
  hr : Kd.R (Kd.int .i64) 3 W 0 (fun k => k = G) (.slice A p.length c) p
set_option maxHeartbeats 1000000 in
set_option maxRecDepth 100000 in
theorem try_end (w0 W : World) (g Bm Bt Bw Bc By G many colours t : Nat) (lb : Array Value) (f : Int → List Int → Option Int) (A : Option Addr) (c : Nat) (p : List Int) (a a' : Int)
    (eg : ∀ args w, (callFunc t args).run Try.prog w = .ok (.enter t args) w) (hT : Tells t lb w0 g f) (hF : Fr W Bm Bt Bw Bc By G many colours t lb A c p) (hp : p.length = many) (hA : Acc w0 W g a) (hf : f a p = some a') (hm : many ≤ 6) :
    Calls Try.prog 91 #[.int .i64 (many : Int), .pointer (some ⟨Bm, 0, none⟩), .pointer (some ⟨Bt, 0, none⟩), .pointer (some ⟨Bw, 0, none⟩), .pointer (some ⟨Bc, 0, none⟩), .pointer (some ⟨By, 0, none⟩)] W fun e W' =>
      e = .returned (.tuple #[]) ∧ Stay W W' g ∧ W'.heap[g]? = some (.cells #[.int .i64 a'] 3 (0, 0)) := by
  subst hp
  have cM := cell_of_one hF.hm
  have cT := cell_of_one hF.ht
  have cW := cell_of_one hF.hw
  have hc := Kd.R_reads' hF.hr
  have HC := Lib.hid hc
  clear hc
  have call := hT W a a' A c p hA HC.out.2.2 HC.out.2.1 hf
  have HF := Aside0.mk hF
  clear hF
  have HCall := Aside0.mk call
  clear call HC
  go_enter Try.func91, Try.ntmps91
  go_wp2_with (go_at_fn t; refine HCall.out.mono ?_; rintro e W' ⟨rfl, h1, h2⟩)
  exact bodyPost_ret (results_none rfl _ _ _) rfl ⟨rfl, h1, h2⟩
/-- Where the blocks of a call of words lie: behind w0's, each in its place. -/
structure Lay (w0 : World) (g Bm Bt Bw Bc By G : Nat) : Prop where
  lg : g < w0.heap.size
  lm : w0.heap.size ≤ Bm
  lt : w0.heap.size ≤ Bt
  lw : w0.heap.size ≤ Bw
  lc : w0.heap.size ≤ Bc
  ly : w0.heap.size ≤ By
  lG : w0.heap.size ≤ G
  nm : Bm ≠ G
  nt : Bt ≠ G
  nw : Bw ≠ G
  nc : Bc ≠ G
  ny : By ≠ G
theorem Fr.stay {w0 W V : World} {g Bm Bt Bw Bc By G many colours t : Nat} {lb : Array Value} {A : Option Addr} {c : Nat} {p : List Int} (h : Fr W Bm Bt Bw Bc By G many colours t lb A c p) (hL : Lay w0 g Bm Bt Bw Bc By G) (hs : Stay W V g) : Fr V Bm Bt Bw Bc By G many colours t lb A c p := by
  have := hL.lg
  have := hL.lm
  have := hL.lt
  have := hL.lw
  have := hL.lc
  have := hL.ly
  have := hL.lG
  exact ⟨hs.keep h.hm (by omega), hs.keep h.ht (by omega), hs.keep h.hw (by omega), hs.keep h.hc (by omega), hs.keep h.hy (by omega),
    Kd.R_step h.hr fun k hk hlt => hs.block k hlt (by omega)⟩
theorem Fr.put {w0 W : World} {g Bm Bt Bw Bc By G many colours t : Nat} {lb : Array Value} {c : Nat} {p : List Int} (h : Fr W Bm Bt Bw Bc By G many colours t lb (some ⟨G, 0, none⟩) c p) (hL : Lay w0 g Bm Bt Bw Bc By G) (i : Nat) (x : Int) :
    Fr (W.setCell ⟨G, i, none⟩ (.int .i64 x)) Bm Bt Bw Bc By G many colours t lb (some ⟨G, 0, none⟩) c (p.set i x) := by
  refine ⟨blk_far h.hm hL.nm _, blk_far h.ht hL.nt _, ?_, blk_far h.hc hL.nc _, blk_far h.hy hL.ny _, ?_⟩
  · rw [List.length_set]
    exact blk_far h.hw hL.nw _
  · rw [List.length_set]
    have := Kd.R_putn (i := (i : Int)) (x := x) h.hr
    rw [Int.toNat_natCast] at this
    exact this
theorem Acc.put {w0 W : World} {g Gp : Nat} {n : Int} (h : Acc w0 W g n) (hg : g ≠ Gp) (hG : w0.heap.size ≤ Gp) (i : Nat) (u : Value) : Acc w0 (W.setCell ⟨Gp, i, none⟩ u) g n :=
  ⟨h.stay.far ⟨Gp, i, none⟩ u (.inr hG), blk_far h.now hg u⟩

/-- The words that are still to come from colour x on. -/
def wordsRest (pre : List Int) (colours d x : Nat) : List (List Int) :=
  (List.range' x (colours - x)).flatMap fun (y : Nat) => (allW colours d).map fun s => pre ++ ((y : Int) :: s)
theorem wordsRest_zero (pre : List Int) (colours d : Nat) : (allW colours (d + 1)).map (pre ++ ·) = wordsRest pre colours d 0 := by
  simp only [wordsRest, allW, List.map_flatMap, List.map_map, Nat.sub_zero, List.range_eq_range']
  rfl
theorem wordsRest_step (pre : List Int) (colours d x : Nat) (h : x < colours) : wordsRest pre colours d x = ((allW colours d).map fun s => (pre ++ [(x : Int)]) ++ s) ++ wordsRest pre colours d (x + 1) := by
  obtain ⟨m, hm⟩ : ∃ m, colours - x = m + 1 := ⟨colours - x - 1, by omega⟩
  have hm' : colours - (x + 1) = m := by omega
  simp only [wordsRest, hm, hm', List.range'_succ, List.flatMap_cons, List.append_assoc, List.singleton_append]
theorem wordsRest_end (pre : List Int) (colours d : Nat) : wordsRest pre colours d colours = [] := by
  simp [wordsRest]
set_option maxHeartbeats 2000000 in
set_option maxRecDepth 100000 in
theorem try_any (w0 : World) (g Bm Bt Bw Bc By G n colours t : Nat) (lb : Array Value) (f : Int → List Int → Option Int) (A : Option Addr) (c : Nat)
    (eg : ∀ args w, (callFunc t args).run Try.prog w = .ok (.enter t args) w) (hT : Tells t lb w0 g f) (hL : Lay w0 g Bm Bt Bw Bc By G) (hn : n ≤ 6) (hcol : colours ≤ 3) (d : Nat) :
    ∀ (at_ : Nat) (W : World) (p : List Int) (a a' : Int), at_ + d = n → p.length = n → Fr W Bm Bt Bw Bc By G n colours t lb A c p → Acc w0 W g a → tellAll f a ((allW colours d).map (p.take at_ ++ ·)) = some a' →
    Calls Try.prog 91 #[.int .i64 (at_ : Int), .pointer (some ⟨Bm, 0, none⟩), .pointer (some ⟨Bt, 0, none⟩), .pointer (some ⟨Bw, 0, none⟩), .pointer (some ⟨Bc, 0, none⟩), .pointer (some ⟨By, 0, none⟩)] W fun e W' =>
      e = .returned (.tuple #[]) ∧ Acc w0 W' g a' ∧ ∃ p', Fr W' Bm Bt Bw Bc By G n colours t lb A c p' ∧ p'.length = n ∧ p'.take at_ = p.take at_ := by
  induction d with
  | zero =>
    intro at_ W p a a' hat hp hF hA hf
    have hat' : at_ = n := by omega
    subst hat'
    have hf' : f a p = some a' := by
      simp only [allW, List.map_cons, List.map_nil, tellAll, List.append_nil, List.take_of_length_le (Nat.le_of_eq hp)] at hf
      cases hq : f a p with
      | none => rw [hq] at hf; cases hf
      | some b => rw [hq] at hf; exact hf
    refine (try_end w0 W g Bm Bt Bw Bc By G at_ colours t lb f A c p a a' eg hT hF hp hA hf' hn).mono ?_
    rintro e W' ⟨rfl, h1, h2⟩
    exact ⟨rfl, ⟨hA.stay.trans h1, h2⟩, p, hF.stay hL h1, hp, rfl⟩
  | succ d ih =>
    intro at_ W p a a' hat hp hF hA hf
    rw [wordsRest_zero] at hf
    have hne : decide ((at_ : Int) = (n : Int)) = false := decide_eq_false (by omega)
    have hne2 : ((at_ : Int) == (n : Int)) = false := beq_eq_false_iff_ne.mpr (by omega)
    obtain ⟨cap, hAc⟩ : ∃ cap, A = some ⟨G, 0, none⟩ ∧ cap = c := by
      refine ⟨c, ?_, rfl⟩
      obtain ⟨inner, ho⟩ := Kd.R_own hF.hr
      rcases ho.2 with ⟨h1, h2⟩ | ⟨g', cap', cur, hv, _⟩
      · omega
      · injection hv with hv1
        subst hv1
        have := hF.hr.1 g' rfl
        rw [this]
    obtain ⟨rfl, rfl⟩ := hAc
    have cM := cell_of_one hF.hm
    have cC := cell_of_one hF.hc
    have HF := Aside0.mk hF
    have HA := Aside0.mk hA
    have Hf := Aside0.mk hf
    have Hp := Aside0.mk hp
    clear hF hA hf hp
    go_enter Try.func91, Try.ntmps91
    go_wp2_with fail
    go_loopw [15] (fun i wr => ∃ (x : Nat) (ar : Int) (pr : List Int), x ≤ colours ∧ i = .int .i64 (x : Int) ∧ Aside0 (Fr wr Bm Bt Bw Bc By G n colours t lb (some ⟨G, 0, none⟩) cap pr) ∧ Aside0 (pr.length = n) ∧ Aside0 (pr.take at_ = p.take at_) ∧ Aside0 (Acc w0 wr g ar) ∧ Aside0 (tellAll f ar (wordsRest (p.take at_) colours d x) = some a'))
      (fun i _ => colours - (intOf i).toNat)
    case atStart => exact ⟨0, a, p, Nat.zero_le _, rfl, HF, Hp, ⟨rfl⟩, HA, Hf⟩
    case round =>
      obtain ⟨x, ar, pr, hx, rfl, HFr, Hpr, Hpre, HAr, Hfr⟩ := hrel
      clear HF HA Hf cM cC
      by_cases hlt : x < colours
      · have hlt' : decide ((x : Int) < (colours : Int)) = true := decide_eq_true (by omega)
        have hfr := Hfr.out
        rw [wordsRest_step _ _ _ _ hlt, tellAll_append] at hfr
        obtain ⟨a1, hf1, hf2⟩ := Option.bind_eq_some_iff.mp hfr
        have Hf2 := Aside0.mk hf2
        have hlen := Hpr.out
        have hFr := HFr.out
        have hset : (pr.set at_ (x : Int)).take (at_ + 1) = p.take at_ ++ [(x : Int)] := by
          rw [← Hpre.out, List.take_succ_eq_append_getElem (by simp; omega), List.take_set_of_le (Nat.le_refl _)]
          simp
        have hF1 := hFr.put hL at_ (x : Int)
        have hA1 := HAr.out.put (i := at_) (u := .int .i64 (x : Int)) (show g ≠ G by have := hL.lg; have := hL.lG; omega) hL.lG
        have call := ih (at_ + 1) (wr.setCell ⟨G, at_, none⟩ (.int .i64 (x : Int))) (pr.set at_ (x : Int)) ar a1 (by omega) (by simp; omega) hF1 hA1 (by rw [hset]; exact hf1)
        have Hcall := Aside0.mk call
        have cW := cell_of_one hFr.hw
        have cY := cell_of_one hFr.hy
        have cX : ∃ v, wr.cell? ⟨G, at_, none⟩ = some v := by
          obtain ⟨inner, ho⟩ := Kd.R_own hFr.hr
          have hl := ho.1
          have := ho.cellAt at_ (show at_ < pr.length * 1 by omega)
          rw [List.getElem?_eq_getElem (show at_ < inner.length by have : inner.length = pr.length * 1 := hl; omega)] at this
          exact ⟨_, this⟩
        obtain ⟨vx, cX⟩ := cX
        have fX : wr.frozen? ⟨G, at_, none⟩ = false := by
          obtain ⟨inner, ho⟩ := Kd.R_own hFr.hr
          exact ho.frozenAt at_
        have hidx : at_ < pr.length := by omega
        have hb : at_ ≤ 5 := by omega
        have hgo : G ≠ Bw ∧ G ≠ By := ⟨fun e => hL.nw e.symm, fun e => hL.ny e.symm⟩
        have cY1 : (wr.setCell ⟨G, at_, none⟩ (.int .i64 (x : Int))).cell? ⟨By, 0, none⟩ = _ := cell_of_one hF1.hy
        have Hlen := Aside0.mk hlen
        have HL := Aside0.mk hL
        have Hat := Aside0.mk hat
        have Hset := Aside0.mk hset
        clear hlen hL hat hset hfr hf1 hf2 hFr hF1 hA1 call hne hne2 ih
        go_wp2_with (go_at_call 91; refine Hcall.out.mono ?_; rintro e w2 ⟨rfl, hA2, p2, hF2, hp2, htk⟩)
        go_roundw
        case rel =>
          refine ⟨x + 1, a1, p2, hlt, by go_num, ⟨hF2⟩, ⟨hp2⟩, ⟨?_⟩, ⟨hA2⟩, Hf2⟩
          have e1 : p2.take at_ = (p2.take (at_ + 1)).take at_ := by rw [List.take_take, Nat.min_eq_left (by omega)]
          have e2 : (p.take at_).length = at_ := by
            have := Hp.out
            have := Hat.out
            simp
            omega
          rw [e1, htk, Hset.out, List.take_append_of_le_length (by omega), List.take_of_length_le (by omega)]
        case measure => simp [intOf]; omega
      · have hlt' : decide ((x : Int) < (colours : Int)) = false := decide_eq_false (by omega)
        have hxe : x = colours := by omega
        have hfr := Hfr.out
        rw [hxe, wordsRest_end] at hfr
        obtain rfl := Option.some.inj hfr
        clear hxe hfr
        go_wp2_with fail
        go_end0
        exact ⟨rfl, HAr.out, pr, HFr.out, Hpr.out, Hpre.out⟩
theorem info3' : (Try.prog.info? 3).map (fun i => (i.zero, i.size, i.bytes)) = some (some (.int .i64 0), 1, 8) := by kernel_rfl
theorem enters (f : FuncId) (fn : Func) (cd : Code) (hf : Try.prog.funcs[f]? = some fn) (hn : (fn.name == "runtime.NumGoroutine") = false) (hb : fn.body = some cd) : ∀ args w, (callFunc f args).run Try.prog w = .ok (.enter f args) w := enters_of hf hn hb
theorem alloc_at (w : World) (o : Obj) (k : Nat) : (w.alloc o).heap[k]? = if k = w.heap.size then some o else w.heap[k]? := by
  show (w.heap.push o)[k]? = _
  rw [Array.getElem?_push]
set_option maxHeartbeats 2000000 in
set_option maxRecDepth 100000 in
theorem words_any (w0 : World) (g n colours t : Nat) (lb : Array Value) (f : Int → List Int → Option Int) (a a' : Int)
    (eg : ∀ args w, (callFunc t args).run Try.prog w = .ok (.enter t args) w) (hT : Tells t lb w0 g f) (hn : n ≤ 6) (hcol : colours ≤ 3) (hg : w0.heap[g]? = some (.cells #[.int .i64 a] 3 (0, 0))) (hf : tellAll f a (allW colours n) = some a') :
    Calls Try.prog 71 #[.int .i64 (colours : Int), .int .i64 (n : Int), .func (.func t) #[] lb] w0 fun e W' => e = .returned (.tuple #[]) ∧ Stay w0 W' g ∧ W'.heap[g]? = some (.cells #[.int .i64 a'] 3 (0, 0)) := by
  have hmk := print_make (P := Try.prog) 23 3 .i64 8 Try.underlying23 info3' (by decide) n (by omega)
  have hgl := lt_of_block hg
  have hL : Lay w0 g (w0.heap.size + 1) (w0.heap.size + 1 + 1) (w0.heap.size + 1 + 1 + 1 + 1) w0.heap.size (w0.heap.size + 1 + 1 + 1 + 1 + 1) (w0.heap.size + 1 + 1 + 1) :=
    ⟨hgl, by omega, by omega, by omega, by omega, by omega, by omega, by omega, by omega, by omega, by omega, by omega⟩
  have hr : (List.replicate n (0 : Int)).length = n := List.length_replicate
  have call := try_any w0 g (w0.heap.size + 1) (w0.heap.size + 1 + 1) (w0.heap.size + 1 + 1 + 1 + 1) w0.heap.size (w0.heap.size + 1 + 1 + 1 + 1 + 1) (w0.heap.size + 1 + 1 + 1) n colours t lb f (some ⟨w0.heap.size + 1 + 1 + 1, 0, none⟩) n eg hT hL hn hcol n 0
    ((((((w0.alloc (.cells #[.int .i64 (colours : Int)] 3)).alloc (.cells #[.int .i64 (n : Int)] 3)).alloc (.cells #[.func (.func t) #[] lb] 61)).alloc (.cells (madeCells #[.int .i64 0] n) 3)).alloc (.cells #[.slice (some ⟨w0.heap.size + 1 + 1 + 1, 0, none⟩) n n] 23)).alloc
      (.cells #[.func (.func 91) #[] #[.pointer (some ⟨w0.heap.size + 1, 0, none⟩), .pointer (some ⟨w0.heap.size + 1 + 1, 0, none⟩), .pointer (some ⟨w0.heap.size + 1 + 1 + 1 + 1, 0, none⟩), .pointer (some ⟨w0.heap.size, 0, none⟩), .pointer (some ⟨w0.heap.size + 1 + 1 + 1 + 1 + 1, 0, none⟩)]] 73))
    (List.replicate n 0) a a' (by omega) hr
    (by
      refine ⟨?_, ?_, ?_, ?_, ?_, ?_⟩
      · rw [alloc_at, if_neg (by simp <;> omega), alloc_at, if_neg (by simp <;> omega), alloc_at, if_neg (by simp <;> omega), alloc_at, if_neg (by simp <;> omega), alloc_at, if_pos (by simp)]
      · rw [alloc_at, if_neg (by simp <;> omega), alloc_at, if_neg (by simp <;> omega), alloc_at, if_neg (by simp <;> omega), alloc_at, if_pos (by simp)]
      · rw [hr, alloc_at, if_neg (by simp <;> omega), alloc_at, if_pos (by simp)]
      · rw [alloc_at, if_neg (by simp <;> omega), alloc_at, if_neg (by simp <;> omega), alloc_at, if_neg (by simp <;> omega), alloc_at, if_neg (by simp <;> omega), alloc_at, if_neg (by simp <;> omega), alloc_at, if_pos (by simp)]
      · rw [alloc_at, if_pos (by simp)]
      · rw [hr]
        have ho : ((((w0.alloc (.cells #[.int .i64 (colours : Int)] 3)).alloc (.cells #[.int .i64 (n : Int)] 3)).alloc (.cells #[.func (.func t) #[] lb] 61)).alloc (.cells (madeCells #[.int .i64 0] n) 3)).ownsRow 0 3 1 (.slice (some ⟨w0.heap.size + 1 + 1 + 1, 0, none⟩) n n) n (nums .i64 (List.replicate n 0)) := by
          simpa using own_made (((w0.alloc (.cells #[.int .i64 (colours : Int)] 3)).alloc (.cells #[.int .i64 (n : Int)] 3)).alloc (.cells #[.func (.func t) #[] lb] 61)) 0 3 .i64 n (Nat.zero_le _) (by omega)
        have h1 := Kd.R_of_own (enc := Value.int .i64) (h1 := fun _ => rfl) (ok := fun k => k = w0.heap.size + 1 + 1 + 1) (xs := List.replicate n (0 : Int)) (by rw [hr]; exact ho) (fun k hk => by simp [Value.ownBlock] at hk; omega)
        refine Kd.R_step (Kd.R_step h1 (fun k _ hk => Below.heap_alloc _ _ _ hk)) (fun k _ hk => Below.heap_alloc _ _ _ ?_)
        exact hk)
    ⟨⟨rfl, rfl, rfl, by simp; omega, fun i hi _ => by rw [alloc_at, if_neg (by first | omega | (simp; omega)), alloc_at, if_neg (by first | omega | (simp; omega)), alloc_at, if_neg (by first | omega | (simp; omega)), alloc_at, if_neg (by first | omega | (simp; omega)), alloc_at, if_neg (by first | omega | (simp; omega)), alloc_at, if_neg (by first | omega | (simp; omega))]⟩,
      by rw [alloc_at, if_neg (by first | omega | (simp; omega)), alloc_at, if_neg (by first | omega | (simp; omega)), alloc_at, if_neg (by first | omega | (simp; omega)), alloc_at, if_neg (by first | omega | (simp; omega)), alloc_at, if_neg (by first | omega | (simp; omega)), alloc_at, if_neg (by first | omega | (simp; omega))]; exact hg⟩
    (by simpa using hf)
  have Hcall := Aside0.mk call
  clear call hL hr hgl hg hf hT
  go_enter Try.func71, Try.ntmps71
  go_wp2_with (go_at_call 91; refine Hcall.out.mono ?_; rintro e W' ⟨rfl, hA, _, _, _, _⟩)
  go_end0
  exact ⟨rfl, hA.stay, hA.now⟩
theorem below_undrew {W V : World} (k : Below W.drew.heap.size W.drew V) : Below W.heap.size W V := ⟨k.os, k.tape, k.output, k.size, k.block⟩
theorem below_next {w w1 w2 : World} (k : Below w1.heap.size w1 w2) (h : Below w.heap.size w w1) : Below w.heap.size w w2 := below_then h h.size k
theorem tellAll_mono {f g : Int → List Int → Option Int} (h : ∀ a q, LeO (f a q) (g a q)) : ∀ (qs : List (List Int)) (a : Int), LeO (tellAll f a qs) (tellAll g a qs)
  | [], a => LeO.refl _
  | q :: qs, a => LeO.bind (h a q) fun a' => tellAll_mono h qs a'

theorem slices_info3 : (Try.prog.info? 3).map (fun i => (i.zero, i.size, i.bytes)) = some (some (.int .i64 0), 1, 8) := by kernel_rfl
/-! ### slices_Clone_int_int: function 94 -/
def slices_Clone_int_int.f (l0 : List Int) : Option (List Int) := if l0.length < 17592186044416 then some l0 else none
set_option maxHeartbeats 8000000 in
set_option maxRecDepth 100000 in
theorem slices_Clone_int_int.calls (A0 : Option Addr) (c0 : Nat) (l0 : List Int) (r : List Int) (w : World) (hr0 : Kd.C (Kd.int .i64) w A0 l0.length l0) (hc0 : l0.length ≤ c0) (h : slices_Clone_int_int.f l0 = some r) :
    Calls Try.prog 94 #[.slice A0 l0.length c0] w fun e w' => ∃ v0_ : Value, e = .returned (v0_) ∧ Kd.R (Kd.int .i64) 3 w' w.heap.size (fun _ => True) v0_ r ∧ Below w.heap.size w w' := by
  unfold slices_Clone_int_int.f at h
  by_cases hlen : l0.length < 17592186044416
  · rw [if_pos hlen] at h
    obtain rfl := Option.some.inj h
    clear h
    cases A0 with
    | none =>
      have hz : l0 = [] := by
        apply List.eq_nil_of_length_eq_zero
        apply Nat.eq_zero_of_not_pos
        intro hp
        obtain ⟨ad, h1, _⟩ := hr0.2.2 hp
        cases h1
      subst hz
      have he := fun (W : World) => Lib.run_eql_slice_nil (P := Try.prog) W 23 3 none 0 c0 0 0 Try.underlying23
      go_enter Try.func94, Try.ntmps94
      go_wp2_with (fail)
      go_ret
      exact ⟨_, rfl, Kd.R_nil _ _ _ _ _, Below.refl _ _⟩
    | some ad =>
      have he := fun (W : World) => Lib.run_eql_slice_nil (P := Try.prog) W 23 3 (some ad) l0.length c0 0 0 Try.underlying23
      go_enter Try.func94, Try.ntmps94
      have HR := Aside0.mk hr0
      have HL := Aside0.mk hlen
      clear hr0 hlen
      go_wp2_with (first | ((with_reducible refine gate_dst (N := 5) rfl ?_); refine Kd.R_lit (Kd.int .i64) _ 3 ?hg (N := 5) ?hd (xs := ([] : List Int)) (inner := []) (ok := fun _ => True) (okp := fun _ => True) ?hr ?hp (fun _ hk => hk) trivial (Below.refl _ _) (Nat.le_refl _) (by simp) ?_; (case hd => rfl); (case hg => rfl); (case hr => first | (go_simp; done) | (go_simp; rfl)); (case hp => exact (Reps.none _ _)); intro v1 w1 ho1 hb1 hg_ hnew_; clear hg_ hnew_; have HO1 := Aside0.mk ho1; have HB1 := Aside0.mk hb1; clear ho1 hb1) | ((with_reducible refine gate_builtin (b := .append) (xs := #[.tmp 5, .tmp 6]) rfl ?_); at_builtin; refine Kd.R_append_rows (Kd.int .i64) (w0 := w) w.heap.size rfl (.tmp 5) (.tmp 6) 23 3 (.int .i64 0) 8 rfl Try.underlying23 slices_info3 rfl (by decide) (by omega) v1 [] l0 _ _ _ (fun _ => True) (fun _ => False) rfl rfl ?aO ?aR (fun _ _ h => h) (fun _ h => h.elim) ?aF ?aB ?aS ?aL ?_; (case aR => exact (Kd.C_below HR.out HB1.out)); (case aB => exact HB1.out); (case aF => exact (fun _ _ => trivial)); (case aO => exact HO1.out); (case aS => exact (below_size HB1.out)); (case aL => have := HL.out; simp; omega); intro v2 w2 ho hb hg hat; have HO2 := Aside0.mk ho; have HB2 := Aside0.mk hb; clear ho hb hg hat))
      go_ret
      exact ⟨_, rfl, by simpa using HO2.out, HB2.out⟩
  · rw [if_neg hlen] at h
    cases h

/-! ### impl_added: function 95 -/
def impl_added.l0 : Nat → List Int → List Int → Int → Int → Option (List Int)
  | 0, _, _, _, _ => none
  | k + 1, x5, x10, x11, x12 => if x12 < x11 then (if 0 ≤ x12 then (if x12 < (x10.length : Int) then (if x12 < (x5.length : Int) then (impl_added.l0 k (x5.set (x12 : Int).toNat (wrap64 ((rd x5 x12) + (rd x10 x12)))) x10 x11 (wrap64 (x12 + 1))) else (none)) else (none)) else (none)) else (some x5)
def impl_added.f (k : Nat) (l0 : List Int) (l1 : List Int) : Option (List Int) := (slices_Clone_int_int.f l0).bind fun t129 => (impl_added.l0 k t129 l1 (l1.length : Int) 0)
theorem impl_added.mono_l : ∀ k, (∀ y0 y1 y2 y3, LeO (impl_added.l0 k y0 y1 y2 y3) (impl_added.l0 (k + 1) y0 y1 y2 y3))
  | 0 => fun _ _ _ _ r h => by simp [impl_added.l0] at h
  | k + 1 => by
    have ih0 := impl_added.mono_l k
    · intro y0 y1 y2 y3
      unfold impl_added.l0
      repeat' first
      | (with_reducible exact ih0 _ _ _ _)
      | (with_reducible exact LeO.refl _)
      | (with_reducible exact LeO.none _)
      | (with_reducible refine LeO.ite ?_ ?_)
      | (with_reducible refine LeO.bind ?_ (fun _ => ?_))
      | exact ih0 _ _ _ _
      | exact LeO.none _
      | refine LeO.ite ?_ ?_
      | refine LeO.bind ?_ (fun _ => ?_)
theorem impl_added.mono : ∀ a0 a1 k, LeO (impl_added.f k a0 a1) (impl_added.f (k + 1) a0 a1) := by
  intro a0 a1 k
  have ih0 := impl_added.mono_l k
  unfold impl_added.f
  repeat' first
      | (with_reducible exact ih0 _ _ _ _)
      | (with_reducible exact LeO.refl _)
      | (with_reducible exact LeO.none _)
      | (with_reducible refine LeO.ite ?_ ?_)
      | (with_reducible refine LeO.bind ?_ (fun _ => ?_))
      | exact ih0 _ _ _ _
      | exact LeO.none _
      | refine LeO.ite ?_ ?_
      | refine LeO.bind ?_ (fun _ => ?_)
set_option maxHeartbeats 8000000 in
set_option maxRecDepth 100000 in
theorem impl_added.calls (k : Nat) (A0 : Option Addr) (c0 : Nat) (l0 : List Int) (A1 : Option Addr) (c1 : Nat) (l1 : List Int) (r : List Int) (w : World) (hr0 : Kd.C (Kd.int .i64) w A0 l0.length l0) (hc0 : l0.length ≤ c0) (hr1 : Kd.C (Kd.int .i64) w A1 l1.length l1) (hc1 : l1.length ≤ c1) (h : impl_added.f k l0 l1 = some r) :
    Calls Try.prog 95 #[.slice A0 l0.length c0, .slice A1 l1.length c1] w fun e w' => ∃ v0_ : Value, e = .returned (v0_) ∧ Kd.R (Kd.int .i64) 3 w' w.heap.size (fun _ => True) v0_ r ∧ Below w.heap.size w w' := by
  have HR0 := Aside0.mk hr0
  have HC0 := Aside0.mk hc0
  clear hr0 hc0
  have HR1 := Aside0.mk hr1
  have HC1 := Aside0.mk hc1
  clear hr1 hc1
  have HB := Aside0.mk (Below.refl w.heap.size w)
  have H : ((slices_Clone_int_int.f l0).bind fun t129 => (impl_added.l0 k t129 l1 (l1.length : Int) 0)) = some r := h
  clear h
  replace H := Option.bind_eq_some_iff.mp H
  obtain ⟨t129, A30, H⟩ := H
  replace H : (impl_added.l0 k t129 l1 (l1.length : Int) 0) = some r := H
  have A3 := Aside0.mk A30
  clear A30
  have H' := Aside0.mk H
  clear H
  go_enter Try.func95, Try.ntmps95
  go_wp2_with (first | ((with_reducible refine gate_callee (f := 94) rfl ?_); refine goesL_ (some 9) rfl rfl Try.func94 (by kernel_rfl) rfl #[.slice A0 l0.length c0] rfl (by (try simp only [List.map_toArray, List.map_cons, List.map_nil]); first | done | rfl | (simp only [List.length_drop, List.length_take]; rfl)) ?_; (with_reducible refine (slices_Clone_int_int.calls _ _ l0 t129 _ ?side1 ?side2 A3.out).mono ?_); (case side1 => repeat (first | exact HR0.out | (with_reducible refine Kd.C_alloc ?_ _) | (with_reducible refine Kd.C_drewN ?_ _) | (with_reducible refine Kd.C_drew ?_))); (case side2 => exact HC0.out); rintro e w4 ⟨v130, rfl, ho0, hb⟩; refine ⟨_, rfl, ?_⟩; have n0_ := Aside0.mk (Kd.R_lower ho0 (below_size (by repeat (first | (with_reducible first | exact HB.out | apply below_alloc | apply pw_below_drewN | apply below_drew1) | exact HB.out)))); have n1_ := Aside0.mk (below_step (by repeat (first | (with_reducible first | exact HB.out | apply below_alloc | apply pw_below_drewN | apply below_drew1) | exact HB.out)) hb); clear HB; have HO131 := n0_; have HB := n1_; clear n0_ n1_; (try clear hb); (try clear hb2); (try clear hk); (try clear hi); (try clear ho0)))
  go_loopg [12] k (fun kq v12 w' => ∃ (x5_1 : List Int) (x12_1 : Int), v12 = .int .i64 x12_1 ∧ Aside0 (impl_added.l0 kq x5_1 l1 (l1.length : Int) x12_1 = some r) ∧ Aside0 (kq ≤ k) ∧ Aside0 (Kd.R (Kd.int .i64) 3 w' w.heap.size (fun _ => True) v130 x5_1) ∧ Aside0 (Below w.heap.size w w'))
  case atStart => exact ⟨(t129), (0), (by first | rfl | (simp; done) | (simp [*]; done)), H', ⟨Nat.le_refl _⟩, ⟨by (with_reducible repeat (first | apply Kd.R_alloc | apply Kd.R_drewN | apply Kd.R_drew)); exact HO131.out⟩, ⟨by repeat (first | (with_reducible first | exact HB.out | apply below_alloc | apply pw_below_drewN | apply below_drew1) | exact HB.out)⟩⟩
  case round =>
    clear H'
    try clear c1
    try clear p2
    obtain ⟨x5_1, x12_1, rfl, HA, HK1, HO_5, HB⟩ := hrel
    cases gk with
    | zero => exact absurd HA.out (by simp [impl_added.l0])
    | succ k1 =>
      have H := HA.out
      clear HA
      simp only [impl_added.l0] at H
      by_cases c5 : x12_1 < (l1.length : Int)
      · rw [if_pos c5] at H
        have c5b0 : decide (x12_1 < (l1.length : Int)) = true := decide_eq_true c5
        clear c5
        by_cases c6 : 0 ≤ x12_1
        · rw [if_pos c6] at H
          have c6b0 : decide (0 ≤ x12_1) = true := decide_eq_true c6
          clear c6
          by_cases c7 : x12_1 < (l1.length : Int)
          · rw [if_pos c7] at H
            have c7b0 : decide (x12_1 < (l1.length : Int)) = true := decide_eq_true c7
            clear c7
            by_cases c8 : x12_1 < (x5_1.length : Int)
            · rw [if_pos c8] at H
              have c8b0 : decide (x12_1 < (x5_1.length : Int)) = true := decide_eq_true c8
              clear c8
              obtain ⟨y134, hy134⟩ : ∃ y_ : List Int, y_ = (x5_1.set (x12_1 : Int).toNat (wrap64 ((rd x5_1 x12_1) + (rd l1 x12_1)))) := ⟨_, rfl⟩
              replace H : (impl_added.l0 k1 y134 l1 (l1.length : Int) (wrap64 (x12_1 + 1))) = some r := by first | (rw [hy134]; with_reducible exact H) | (have H2_ := (Option.bind_some _ _).symm.trans H; rw [hy134]; with_reducible exact H2_) | (have H2_ := (Option.bind_some _ _).symm.trans H; with_reducible exact H2_) | with_reducible exact H | (rw [hy134]; exact H) | exact H
              have Ny134 := Aside0.mk hy134
              clear hy134
              have H' := Aside0.mk H
              clear H
              have p132 : 0 ≤ (x12_1 : Int) := of_decide_eq_true (by first | (with_reducible assumption) | assumption)
              have q132 : x12_1 < (l1.length : Int) := of_decide_eq_true (by first | (with_reducible assumption) | assumption)
              obtain ⟨ad132, e132, hx132_0⟩ := Kd.at_int HR1.out x12_1 p132 q132
              cases e132
              replace hx132_0 := (HB.out.cell (World.block_lt_of_cell? w _ hx132_0)).trans hx132_0
              replace p132 := eq_true p132
              replace q132 := eq_true q132
              obtain ⟨Ao10, co10, eo10⟩ := Kd.R_slice HO_5.out
              subst eo10
              have p133 : 0 ≤ (x12_1 : Int) := of_decide_eq_true (by first | (with_reducible assumption) | assumption)
              have q133 : x12_1 < (x5_1.length : Int) := of_decide_eq_true (by first | (with_reducible assumption) | assumption)
              obtain ⟨ad133, e133, hx133_0⟩ := Kd.at_int (Kd.R_reads' HO_5.out).2.2 x12_1 p133 q133
              cases e133
              replace p133 := eq_true p133
              replace q133 := eq_true q133
              have p9 : 0 ≤ (x12_1 : Int) := of_decide_eq_true (by first | (with_reducible assumption) | assumption)
              have q9 : (x12_1 : Int) < ((x5_1.length : Int) : Int) := of_decide_eq_true (by first | (with_reducible assumption) | assumption)
              obtain ⟨go9, co9, eo9, gb9, gl9, cl9, HG9⟩ := Kd.R_form HO_5.out (by omega)
              (first | cases eo9 | (injection eo9 with ea_ en_ ec_; (first | subst ea_ | (injection ea_ with ea_; subst ea_)); subst ec_; clear en_))
              have GB9 := Aside0.mk gb9
              have GG9 := Aside0.mk HG9
              clear gb9 gl9 HG9
              (first | simp only [add_plain] at hx133_0 | skip)
              obtain ⟨hx9_0, hf9_0⟩ := Kd.R_celln 0 HO_5.out (x12_1 : Int) p9 q9
              replace p9 := eq_true p9
              replace q9 := eq_true q9
              have HP11 := Kd.R_putg HO_5.out (x12_1 : Int) (wrap64 ((rd x5_1 x12_1) + (rd l1 x12_1)))
              go_wp2_with (first | ((with_reducible refine gate_store (t := 3) (p := 23) rfl ?_); refine store_event (t := 3) (p := 23) (v := ?vo_w12) (w1 := (wr.setCell ⟨go9, (x12_1 : Int).toNat, none⟩ (.int .i64 (wrap64 ((rd x5_1 x12_1) + (rd l1 x12_1)))))) ?hg ?ho ?hn ?hr ?_; (case ho => rfl); (case hg => rfl); (case hn => rfl); (case hr => first | (go_simp; done) | (go_simp; rfl)); intro w12 hw; have hg : wr.grownBy w12 (some go9) := (by rw [hw]; exact HP11.2); have hp_ : Kd.R (Kd.int .i64) 3 w12 w.heap.size (fun _ => True) (.slice (some ⟨go9, 0, none⟩) x5_1.length co10) y134 := (by rw [hw, Ny134.out]; exact HP11.1); clear HP11; have n0_ := Aside0.mk (hp_); have n1_ := Aside0.mk ((by rw [hw]; exact below_set (HB.out) GB9.out : Below w.heap.size w w12)); clear HO_5; clear HB; have HO_5 := n0_; have HB := n1_; clear n0_ n1_; clear hg hw hp_))
              go_roundg k1
              case measure => have := HK1.out; omega
              case rel => exact ⟨(y134), (wrap64 (x12_1 + 1)), (by first | rfl | (simp; done) | (simp [*]; done)), H', ⟨by have := HK1.out; omega⟩, ⟨by (with_reducible repeat (first | apply Kd.R_alloc | apply Kd.R_drewN | apply Kd.R_drew)); exact HO_5.out⟩, ⟨by repeat (first | (with_reducible first | exact HB.out | apply below_alloc | apply pw_below_drewN | apply below_drew1) | exact HB.out)⟩⟩
            · rw [if_neg c8] at H
              exact absurd H (by simp)
          · rw [if_neg c7] at H
            exact absurd H (by simp)
        · rw [if_neg c6] at H
          exact absurd H (by simp)
      · rw [if_neg c5] at H
        have c5b0 : decide (x12_1 < (l1.length : Int)) = false := decide_eq_false c5
        clear c5
        obtain rfl := Option.some.inj H
        go_wp2
        go_ret
        exact ⟨_, by first | rfl | (simp [errW_none, errW_some] <;> rfl) | (simp [*, errW_none, errW_some] <;> rfl), by (with_reducible repeat (first | apply Kd.R_alloc | apply Kd.R_drewN | apply Kd.R_drew)); exact HO_5.out, by repeat (first | (with_reducible first | exact HB.out | apply below_alloc | apply pw_below_drewN | apply below_drew1) | exact HB.out)⟩

/-! ### impl_after: function 88 -/
def impl_after.l0 : Nat → List (List Int) → List Int → List Int → Int → Int → Option (List Int)
  | 0, _, _, _, _, _ => none
  | k + 1, x1, x7, x12, x13, x14 => if x14 < x13 then (if 0 ≤ x14 then (if x14 < (x12.length : Int) then (if 0 ≤ (rd x12 x14) then (if (rd x12 x14) < (x1.length : Int) then ((impl_added.f k x7 (rd_L1 x1 (rd x12 x14))).bind fun t140 => (impl_after.l0 k x1 t140 x12 x13 (wrap64 (x14 + 1)))) else (none)) else (none)) else (none)) else (none)) else (some x7)
def impl_after.f (k : Nat) (l0 : List Int) (l1 : List (List Int)) (l2 : List Int) : Option (List Int) := (slices_Clone_int_int.f l0).bind fun t135 => (impl_after.l0 k l1 t135 l2 (l2.length : Int) 0)
theorem impl_after.mono_l : ∀ k, (∀ y0 y1 y2 y3 y4, LeO (impl_after.l0 k y0 y1 y2 y3 y4) (impl_after.l0 (k + 1) y0 y1 y2 y3 y4))
  | 0 => fun _ _ _ _ _ r h => by simp [impl_after.l0] at h
  | k + 1 => by
    have ih0 := impl_after.mono_l k
    · intro y0 y1 y2 y3 y4
      unfold impl_after.l0
      repeat' first
      | (with_reducible exact ih0 _ _ _ _ _)
      | (with_reducible exact impl_added.mono _ _ _)
      | (with_reducible exact LeO.refl _)
      | (with_reducible exact LeO.none _)
      | (with_reducible refine LeO.ite ?_ ?_)
      | (with_reducible refine LeO.bind ?_ (fun _ => ?_))
      | exact ih0 _ _ _ _ _
      | exact impl_added.mono _ _ _
      | exact LeO.none _
      | refine LeO.ite ?_ ?_
      | refine LeO.bind ?_ (fun _ => ?_)
theorem impl_after.mono : ∀ a0 a1 a2 k, LeO (impl_after.f k a0 a1 a2) (impl_after.f (k + 1) a0 a1 a2) := by
  intro a0 a1 a2 k
  have ih0 := impl_after.mono_l k
  unfold impl_after.f
  repeat' first
      | (with_reducible exact ih0 _ _ _ _ _)
      | (with_reducible exact impl_added.mono _ _ _)
      | (with_reducible exact LeO.refl _)
      | (with_reducible exact LeO.none _)
      | (with_reducible refine LeO.ite ?_ ?_)
      | (with_reducible refine LeO.bind ?_ (fun _ => ?_))
      | exact ih0 _ _ _ _ _
      | exact impl_added.mono _ _ _
      | exact LeO.none _
      | refine LeO.ite ?_ ?_
      | refine LeO.bind ?_ (fun _ => ?_)
set_option maxHeartbeats 8000000 in
set_option maxRecDepth 100000 in
theorem impl_after.calls (k : Nat) (A0 : Option Addr) (c0 : Nat) (l0 : List Int) (A1 : Option Addr) (c1 : Nat) (l1 : List (List Int)) (A2 : Option Addr) (c2 : Nat) (l2 : List Int) (r : List Int) (w : World) (hr0 : Kd.C (Kd.int .i64) w A0 l0.length l0) (hc0 : l0.length ≤ c0) (hr1 : Kd.C (Kd.slice 3 (Kd.int .i64)) w A1 l1.length l1) (hc1 : l1.length ≤ c1) (hr2 : Kd.C (Kd.int .i64) w A2 l2.length l2) (hc2 : l2.length ≤ c2) (h : impl_after.f k l0 l1 l2 = some r) :
    Calls Try.prog 88 #[.slice A0 l0.length c0, .slice A1 l1.length c1, .slice A2 l2.length c2] w fun e w' => ∃ v0_ : Value, e = .returned (v0_) ∧ Kd.R (Kd.int .i64) 3 w' w.heap.size (fun _ => True) v0_ r ∧ Below w.heap.size w w' := by
  have HR0 := Aside0.mk hr0
  have HC0 := Aside0.mk hc0
  clear hr0 hc0
  have HR1 := Aside0.mk hr1
  have HC1 := Aside0.mk hc1
  clear hr1 hc1
  have HR2 := Aside0.mk hr2
  have HC2 := Aside0.mk hc2
  clear hr2 hc2
  have HB := Aside0.mk (Below.refl w.heap.size w)
  have H : ((slices_Clone_int_int.f l0).bind fun t135 => (impl_after.l0 k l1 t135 l2 (l2.length : Int) 0)) = some r := h
  clear h
  replace H := Option.bind_eq_some_iff.mp H
  obtain ⟨t135, A40, H⟩ := H
  replace H : (impl_after.l0 k l1 t135 l2 (l2.length : Int) 0) = some r := H
  have A4 := Aside0.mk A40
  clear A40
  have H' := Aside0.mk H
  clear H
  go_enter Try.func88, Try.ntmps88
  go_wp2_with (first | ((with_reducible refine gate_callee (f := 94) rfl ?_); refine goesL_ (some 11) rfl rfl Try.func94 (by kernel_rfl) rfl #[.slice A0 l0.length c0] rfl (by (try simp only [List.map_toArray, List.map_cons, List.map_nil]); first | done | rfl | (simp only [List.length_drop, List.length_take]; rfl)) ?_; (with_reducible refine (slices_Clone_int_int.calls _ _ l0 t135 _ ?side1 ?side2 A4.out).mono ?_); (case side1 => repeat (first | exact HR0.out | (with_reducible refine Kd.C_alloc ?_ _) | (with_reducible refine Kd.C_drewN ?_ _) | (with_reducible refine Kd.C_drew ?_))); (case side2 => exact HC0.out); rintro e w5 ⟨v136, rfl, ho0, hb⟩; refine ⟨_, rfl, ?_⟩; have n0_ := Aside0.mk (Kd.R_lower ho0 (below_size (by repeat (first | (with_reducible first | exact HB.out | apply below_alloc | apply pw_below_drewN | apply below_drew1) | exact HB.out)))); have n1_ := Aside0.mk (below_step (by repeat (first | (with_reducible first | exact HB.out | apply below_alloc | apply pw_below_drewN | apply below_drew1) | exact HB.out)) hb); clear HB; have HO137 := n0_; have HB := n1_; clear n0_ n1_; (try clear hb); (try clear hb2); (try clear hk); (try clear hi); (try clear ho0)))
  go_loopg [7, 14] k (fun kq v7 v14 w' => ∃ (x7_1 : List Int) (x14_1 : Int), v14 = .int .i64 x14_1 ∧ Aside0 (impl_after.l0 kq l1 x7_1 l2 (l2.length : Int) x14_1 = some r) ∧ Aside0 (kq ≤ k) ∧ Aside0 (Kd.R (Kd.int .i64) 3 w' w.heap.size (fun _ => True) v7 x7_1) ∧ Aside0 (Below w.heap.size w w'))
  case atStart => exact ⟨(t135), (0), (by first | rfl | (simp; done) | (simp [*]; done)), H', ⟨Nat.le_refl _⟩, ⟨by (with_reducible repeat (first | apply Kd.R_alloc | apply Kd.R_drewN | apply Kd.R_drew)); exact HO137.out⟩, ⟨by repeat (first | (with_reducible first | exact HB.out | apply below_alloc | apply pw_below_drewN | apply below_drew1) | exact HB.out)⟩⟩
  case round =>
    clear H'
    try clear c1
    try clear c2
    try clear p2
    obtain ⟨x7_1, x14_1, rfl, HA, HK1, HO_7, HB⟩ := hrel
    cases gk with
    | zero => exact absurd HA.out (by simp [impl_after.l0])
    | succ k1 =>
      have H := HA.out
      clear HA
      simp only [impl_after.l0] at H
      by_cases c6 : x14_1 < (l2.length : Int)
      · rw [if_pos c6] at H
        have c6b0 : decide (x14_1 < (l2.length : Int)) = true := decide_eq_true c6
        clear c6
        by_cases c7 : 0 ≤ x14_1
        · rw [if_pos c7] at H
          have c7b0 : decide (0 ≤ x14_1) = true := decide_eq_true c7
          clear c7
          by_cases c8 : x14_1 < (l2.length : Int)
          · rw [if_pos c8] at H
            have c8b0 : decide (x14_1 < (l2.length : Int)) = true := decide_eq_true c8
            clear c8
            by_cases c9 : 0 ≤ (rd l2 x14_1)
            · rw [if_pos c9] at H
              have c9b0 : decide (0 ≤ (rd l2 x14_1)) = true := decide_eq_true c9
              clear c9
              by_cases c10 : (rd l2 x14_1) < (l1.length : Int)
              · rw [if_pos c10] at H
                have c10b0 : decide ((rd l2 x14_1) < (l1.length : Int)) = true := decide_eq_true c10
                clear c10
                replace H := Option.bind_eq_some_iff.mp H
                obtain ⟨t140, A110, H⟩ := H
                replace H : (impl_after.l0 k1 l1 t140 l2 (l2.length : Int) (wrap64 (x14_1 + 1))) = some r := H
                have A11 := Aside0.mk A110
                clear A110
                have H' := Aside0.mk H
                clear H
                have p138 : 0 ≤ (x14_1 : Int) := of_decide_eq_true (by first | (with_reducible assumption) | assumption)
                have q138 : x14_1 < (l2.length : Int) := of_decide_eq_true (by first | (with_reducible assumption) | assumption)
                obtain ⟨ad138, e138, hx138_0⟩ := Kd.at_int HR2.out x14_1 p138 q138
                cases e138
                replace hx138_0 := (HB.out.cell (World.block_lt_of_cell? w _ hx138_0)).trans hx138_0
                replace p138 := eq_true p138
                replace q138 := eq_true q138
                have p139 : 0 ≤ ((rd l2 x14_1) : Int) := of_decide_eq_true (by first | (with_reducible assumption) | assumption)
                have q139 : (rd l2 x14_1) < (l1.length : Int) := of_decide_eq_true (by first | (with_reducible assumption) | assumption)
                obtain ⟨ad139, A139_0, c139_0, e139, hx139_0, hl139_0, hi139_0⟩ := at_L1 HR1.out (rd l2 x14_1) p139 q139
                cases e139
                replace hx139_0 := (HB.out.cell (World.block_lt_of_cell? w _ hx139_0)).trans hx139_0
                have HR139_0 := Aside0.mk hi139_0
                have HC139_0 := Aside0.mk hl139_0
                clear hi139_0 hl139_0
                replace p139 := eq_true p139
                replace q139 := eq_true q139
                obtain ⟨Ao12, co12, eo12⟩ := Kd.R_slice HO_7.out
                subst eo12
                go_wp2_with (first | ((with_reducible refine gate_callee (f := 95) rfl ?_); refine goesL_ (some 23) rfl rfl Try.func95 (by kernel_rfl) rfl #[.slice Ao12 x7_1.length co12, .slice A139_0 (rd_L1 l1 (rd l2 x14_1)).length c139_0] rfl (by (try simp only [List.map_toArray, List.map_cons, List.map_nil]); first | done | rfl | (simp only [List.length_drop, List.length_take]; rfl)) ?_; (with_reducible refine (impl_added.calls k1 _ _ x7_1 _ _ (rd_L1 l1 (rd l2 x14_1)) t140 _ ?side1 ?side2 ?side3 ?side4 A11.out).mono ?_); (case side1 => repeat (first | exact (Kd.R_reads' HO_7.out).2.2 | (with_reducible refine Kd.C_alloc ?_ _) | (with_reducible refine Kd.C_drewN ?_ _) | (with_reducible refine Kd.C_drew ?_))); (case side2 => exact (Kd.R_reads' HO_7.out).2.1); (case side3 => repeat (first | exact (Kd.C_below HR139_0.out HB.out) | (with_reducible refine Kd.C_alloc ?_ _) | (with_reducible refine Kd.C_drewN ?_ _) | (with_reducible refine Kd.C_drew ?_))); (case side4 => exact HC139_0.out); rintro e w13 ⟨v141, rfl, ho0, hb⟩; refine ⟨_, rfl, ?_⟩; have n0_ := Aside0.mk (Kd.R_elder' (by (with_reducible repeat (first | apply Kd.R_alloc | apply Kd.R_drewN | apply Kd.R_drew)); exact HO_7.out) (Kd.R_base ho0) hb); have n1_ := Aside0.mk (Kd.R_lower (Kd.R_new' ho0 (Kd.R_lt (by (with_reducible repeat (first | apply Kd.R_alloc | apply Kd.R_drewN | apply Kd.R_drew)); exact HO_7.out))) (below_size (by repeat (first | (with_reducible first | exact HB.out | apply below_alloc | apply pw_below_drewN | apply below_drew1) | exact HB.out)))); have n2_ := Aside0.mk (below_step (by repeat (first | (with_reducible first | exact HB.out | apply below_alloc | apply pw_below_drewN | apply below_drew1) | exact HB.out)) hb); clear HO_7; clear HB; have HO_7 := n0_; have HO142 := n1_; have HB := n2_; clear n0_ n1_ n2_; (try clear hb); (try clear hb2); (try clear hk); (try clear hi); (try clear ho0)))
                go_roundg k1
                case measure => have := HK1.out; omega
                case rel => exact ⟨(t140), (wrap64 (x14_1 + 1)), (by first | rfl | (simp; done) | (simp [*]; done)), H', ⟨by have := HK1.out; omega⟩, ⟨by (with_reducible repeat (first | apply Kd.R_alloc | apply Kd.R_drewN | apply Kd.R_drew)); exact Kd.R_mono HO142.out (fun _ hk => trivial)⟩, ⟨by repeat (first | (with_reducible first | exact HB.out | apply below_alloc | apply pw_below_drewN | apply below_drew1) | exact HB.out)⟩⟩
              · rw [if_neg c10] at H
                exact absurd H (by simp)
            · rw [if_neg c9] at H
              exact absurd H (by simp)
          · rw [if_neg c8] at H
            exact absurd H (by simp)
        · rw [if_neg c7] at H
          exact absurd H (by simp)
      · rw [if_neg c6] at H
        have c6b0 : decide (x14_1 < (l2.length : Int)) = false := decide_eq_false c6
        clear c6
        obtain rfl := Option.some.inj H
        go_wp2
        go_ret
        exact ⟨_, by first | rfl | (simp [errW_none, errW_some] <;> rfl) | (simp [*, errW_none, errW_some] <;> rfl), by (with_reducible repeat (first | apply Kd.R_alloc | apply Kd.R_drewN | apply Kd.R_drew)); exact HO_7.out, by repeat (first | (with_reducible first | exact HB.out | apply below_alloc | apply pw_below_drewN | apply below_drew1) | exact HB.out)⟩

/-! ### impl_ruleWays: function 59 -/
def impl_ruleWays.l0 : Nat → List Int → List (List Int) → List Int → Int → List Int → Int → Int → Option (Int)
  | 0, _, _, _, _, _, _, _ => none
  | k + 1, x0, x1, x2, x7, x10, x11, x12 => if x12 < x11 then (if 0 ≤ x12 then (if x12 < (x10.length : Int) then (if x12 ≤ (x2.length : Int) then ((impl_after.f k x0 x1 (x2.take (x12 : Int).toNat)).bind fun t145 => (if 0 ≤ (rd x10 x12) then (if (rd x10 x12) < (t145.length : Int) then (if (wrap64 (x7 * (mx 0 (rd t145 (rd x10 x12))))) = 0 then (some 0) else (impl_ruleWays.l0 k x0 x1 x2 (wrap64 (x7 * (mx 0 (rd t145 (rd x10 x12))))) x10 x11 (wrap64 (x12 + 1)))) else (none)) else (none))) else (none)) else (none)) else (none)) else (some x7)
def impl_ruleWays.f (k : Nat) (l0 : List Int) (l1 : List (List Int)) (l2 : List Int) : Option (Int) := impl_ruleWays.l0 k l0 l1 l2 1 l2 (l2.length : Int) 0
theorem impl_ruleWays.mono_l : ∀ k, (∀ y0 y1 y2 y3 y4 y5 y6, LeO (impl_ruleWays.l0 k y0 y1 y2 y3 y4 y5 y6) (impl_ruleWays.l0 (k + 1) y0 y1 y2 y3 y4 y5 y6))
  | 0 => fun _ _ _ _ _ _ _ r h => by simp [impl_ruleWays.l0] at h
  | k + 1 => by
    have ih0 := impl_ruleWays.mono_l k
    · intro y0 y1 y2 y3 y4 y5 y6
      unfold impl_ruleWays.l0
      repeat' first
      | (with_reducible exact ih0 _ _ _ _ _ _ _)
      | (with_reducible exact impl_after.mono _ _ _ _)
      | (with_reducible exact LeO.refl _)
      | (with_reducible exact LeO.none _)
      | (with_reducible refine LeO.ite ?_ ?_)
      | (with_reducible refine LeO.bind ?_ (fun _ => ?_))
      | exact ih0 _ _ _ _ _ _ _
      | exact impl_after.mono _ _ _ _
      | exact LeO.none _
      | refine LeO.ite ?_ ?_
      | refine LeO.bind ?_ (fun _ => ?_)
theorem impl_ruleWays.mono : ∀ a0 a1 a2 k, LeO (impl_ruleWays.f k a0 a1 a2) (impl_ruleWays.f (k + 1) a0 a1 a2) := by
  intro a0 a1 a2 k
  have ih0 := impl_ruleWays.mono_l k
  unfold impl_ruleWays.f
  repeat' first
      | (with_reducible exact ih0 _ _ _ _ _ _ _)
      | (with_reducible exact impl_after.mono _ _ _ _)
      | (with_reducible exact LeO.refl _)
      | (with_reducible exact LeO.none _)
      | (with_reducible refine LeO.ite ?_ ?_)
      | (with_reducible refine LeO.bind ?_ (fun _ => ?_))
      | exact ih0 _ _ _ _ _ _ _
      | exact impl_after.mono _ _ _ _
      | exact LeO.none _
      | refine LeO.ite ?_ ?_
      | refine LeO.bind ?_ (fun _ => ?_)
set_option maxHeartbeats 8000000 in
set_option maxRecDepth 100000 in
theorem impl_ruleWays.calls (k : Nat) (A0 : Option Addr) (c0 : Nat) (l0 : List Int) (A1 : Option Addr) (c1 : Nat) (l1 : List (List Int)) (A2 : Option Addr) (c2 : Nat) (l2 : List Int) (r : Int) (w : World) (hr0 : Kd.C (Kd.int .i64) w A0 l0.length l0) (hc0 : l0.length ≤ c0) (hr1 : Kd.C (Kd.slice 3 (Kd.int .i64)) w A1 l1.length l1) (hc1 : l1.length ≤ c1) (hr2 : Kd.C (Kd.int .i64) w A2 l2.length l2) (hc2 : l2.length ≤ c2) (h : impl_ruleWays.f k l0 l1 l2 = some r) :
    Calls Try.prog 59 #[.slice A0 l0.length c0, .slice A1 l1.length c1, .slice A2 l2.length c2] w fun e w' => e = .returned (.int .i64 r) ∧ Below w.heap.size w w' := by
  have HR0 := Aside0.mk hr0
  have HC0 := Aside0.mk hc0
  clear hr0 hc0
  have HR1 := Aside0.mk hr1
  have HC1 := Aside0.mk hc1
  clear hr1 hc1
  have HR2 := Aside0.mk hr2
  have HC2 := Aside0.mk hc2
  clear hr2 hc2
  have HB := Aside0.mk (Below.refl w.heap.size w)
  have H : (impl_ruleWays.l0 k l0 l1 l2 1 l2 (l2.length : Int) 0) = some r := h
  clear h
  have H' := Aside0.mk H
  clear H
  go_enter Try.func59, Try.ntmps59
  go_wp2
  go_loopg [7, 12] k (fun kq v7 v12 w' => ∃ (x7_1 : Int) (x12_1 : Int), v7 = .int .i64 x7_1 ∧ v12 = .int .i64 x12_1 ∧ Aside0 (impl_ruleWays.l0 kq l0 l1 l2 x7_1 l2 (l2.length : Int) x12_1 = some r) ∧ Aside0 (kq ≤ k) ∧ Aside0 (Below w.heap.size w w'))
  case atStart => exact ⟨(1), (0), (by first | rfl | (simp; done) | (simp [*]; done)), (by first | rfl | (simp; done) | (simp [*]; done)), H', ⟨Nat.le_refl _⟩, ⟨by repeat (first | (with_reducible first | exact HB.out | apply below_alloc | apply pw_below_drewN | apply below_drew1) | exact HB.out)⟩⟩
  case round =>
    clear H'
    try clear c1
    try clear c2
    try clear p2
    obtain ⟨x7_1, x12_1, rfl, rfl, HA, HK1, HB⟩ := hrel
    cases gk with
    | zero => exact absurd HA.out (by simp [impl_ruleWays.l0])
    | succ k1 =>
      have H := HA.out
      clear HA
      simp only [impl_ruleWays.l0] at H
      by_cases c4 : x12_1 < (l2.length : Int)
      · rw [if_pos c4] at H
        have c4b0 : decide (x12_1 < (l2.length : Int)) = true := decide_eq_true c4
        clear c4
        by_cases c5 : 0 ≤ x12_1
        · rw [if_pos c5] at H
          have c5b0 : decide (0 ≤ x12_1) = true := decide_eq_true c5
          clear c5
          by_cases c6 : x12_1 < (l2.length : Int)
          · rw [if_pos c6] at H
            have c6b0 : decide (x12_1 < (l2.length : Int)) = true := decide_eq_true c6
            clear c6
            have c7b0 := eq_true (of_decide_eq_true (by first | (with_reducible assumption) | assumption) : 0 ≤ x12_1)
            by_cases c8 : x12_1 ≤ (l2.length : Int)
            · rw [if_pos c8] at H
              have c8b0 := eq_true c8
              have c8b1 : decide (x12_1 ≤ (l2.length : Int)) = true := decide_eq_true c8
              clear c8
              replace H := Option.bind_eq_some_iff.mp H
              obtain ⟨t145, A90, H⟩ := H
              replace H : (if 0 ≤ (rd l2 x12_1) then (if (rd l2 x12_1) < (t145.length : Int) then (if (wrap64 (x7_1 * (mx 0 (rd t145 (rd l2 x12_1))))) = 0 then (some 0) else (impl_ruleWays.l0 k1 l0 l1 l2 (wrap64 (x7_1 * (mx 0 (rd t145 (rd l2 x12_1))))) l2 (l2.length : Int) (wrap64 (x12_1 + 1)))) else (none)) else (none)) = some r := H
              have A9 := Aside0.mk A90
              clear A90
              by_cases c10 : 0 ≤ (rd l2 x12_1)
              · rw [if_pos c10] at H
                have c10b0 : decide (0 ≤ (rd l2 x12_1)) = true := decide_eq_true c10
                clear c10
                by_cases c11 : (rd l2 x12_1) < (t145.length : Int)
                · rw [if_pos c11] at H
                  have c11b0 : decide ((rd l2 x12_1) < (t145.length : Int)) = true := decide_eq_true c11
                  clear c11
                  obtain ⟨ji12, hji12⟩ : ∃ j_ : Int, (mx 0 (rd t145 (rd l2 x12_1))) = j_ := ⟨_, rfl⟩
                  replace H : (if (wrap64 (x7_1 * (ji12))) = 0 then (some 0) else (impl_ruleWays.l0 k1 l0 l1 l2 (wrap64 (x7_1 * (ji12))) l2 (l2.length : Int) (wrap64 (x12_1 + 1)))) = some r := by first | (rw [hji12] at H; exact H) | (simp only [hji12] at H ⊢; exact H)
                  (try rw [hji12] at A9)
                  have hji12_ : (if 0 < (rd t145 (rd l2 x12_1)) then (rd t145 (rd l2 x12_1)) else 0) = ji12 := hji12
                  by_cases c13 : (wrap64 (x7_1 * (ji12))) = 0
                  · rw [if_pos c13] at H
                    have c13b0 : ((wrap64 (x7_1 * (ji12))) == 0) = true := beq_iff_eq.mpr c13
                    have c13b1 : ((wrap64 (x7_1 * (ji12))) != 0) = false := bne_eq_false_iff_eq.mpr c13
                    clear c13
                    obtain rfl := Option.some.inj H
                    have p143 : 0 ≤ (x12_1 : Int) := of_decide_eq_true (by first | (with_reducible assumption) | assumption)
                    have q143 : x12_1 < (l2.length : Int) := of_decide_eq_true (by first | (with_reducible assumption) | assumption)
                    obtain ⟨ad143, e143, hx143_0⟩ := Kd.at_int HR2.out x12_1 p143 q143
                    cases e143
                    replace hx143_0 := (HB.out.cell (World.block_lt_of_cell? w _ hx143_0)).trans hx143_0
                    replace p143 := eq_true p143
                    replace q143 := eq_true q143
                    obtain ⟨i014, hi014, _, hsz14, _⟩ := info_parts info3
                    obtain ⟨hcut14, hA14, hC14⟩ := print_take_of (P := Try.prog) (Value.int .i64) 0 23 3 .i64 Try.underlying23 hi014 hsz14 (some ad143) c2 l2 x12_1 (of_decide_eq_true (by first | (with_reducible assumption) | assumption)) (of_decide_eq_true (by first | (with_reducible assumption) | assumption)) HC2.out
                    have HR144 := Aside0.mk (Kd.C_of_reads (h1 := fun _ => rfl) (hA14 _ (Kd.reads_of_C HR2.out)))
                    have HC144 := Aside0.mk hC14
                    clear hA14 hC14 hi014 hsz14
                    go_wp2_with (first | ((with_reducible refine gate_callee (f := 88) rfl ?_); refine goesL_ (some 23) rfl rfl Try.func88 (by kernel_rfl) rfl #[.slice A0 l0.length c0, .slice A1 l1.length c1, .slice (some ad143) (l2.take (x12_1 : Int).toNat).length c2] rfl (by (try simp only [List.map_toArray, List.map_cons, List.map_nil]); first | done | (rw [show (l2.take (x12_1 : Int).toNat).length = x12_1.toNat from (by rw [List.length_take]; have h_ : (x12_1 : Int) ≤ (l2.length : Int) := of_decide_eq_true (by first | (with_reducible assumption) | assumption); omega)] <;> rfl) | rfl | (simp only [List.length_drop, List.length_take]; rfl)) ?_; (with_reducible refine (impl_after.calls k1 _ _ l0 _ _ l1 _ _ (l2.take (x12_1 : Int).toNat) t145 _ ?side1 ?side2 ?side3 ?side4 ?side5 ?side6 A9.out).mono ?_); (case side1 => repeat (first | exact (Kd.C_below HR0.out HB.out) | (with_reducible refine Kd.C_alloc ?_ _) | (with_reducible refine Kd.C_drewN ?_ _) | (with_reducible refine Kd.C_drew ?_))); (case side2 => exact HC0.out); (case side3 => repeat (first | exact (Kd.C_below HR1.out HB.out) | (with_reducible refine Kd.C_alloc ?_ _) | (with_reducible refine Kd.C_drewN ?_ _) | (with_reducible refine Kd.C_drew ?_))); (case side4 => exact HC1.out); (case side5 => repeat (first | exact (Kd.C_below HR144.out HB.out) | (with_reducible refine Kd.C_alloc ?_ _) | (with_reducible refine Kd.C_drewN ?_ _) | (with_reducible refine Kd.C_drew ?_))); (case side6 => exact HC144.out); rintro e w15 ⟨v146, rfl, ho0, hb⟩; refine ⟨_, rfl, ?_⟩; have n0_ := Aside0.mk (Kd.R_lower ho0 (below_size (by repeat (first | (with_reducible first | exact HB.out | apply below_alloc | apply pw_below_drewN | apply below_drew1) | exact HB.out)))); have n1_ := Aside0.mk (below_step (by repeat (first | (with_reducible first | exact HB.out | apply below_alloc | apply pw_below_drewN | apply below_drew1) | exact HB.out)) hb); clear HB; have HO147 := n0_; have HB := n1_; clear n0_ n1_; (try clear hb); (try clear hb2); (try clear hk); (try clear hi); (try clear ho0); obtain ⟨Ao16, co16, eo16⟩ := Kd.R_slice HO147.out; subst eo16; have p148 : 0 ≤ ((rd l2 x12_1) : Int) := of_decide_eq_true (by first | (with_reducible assumption) | assumption); have q148 : (rd l2 x12_1) < (t145.length : Int) := of_decide_eq_true (by first | (with_reducible assumption) | assumption); obtain ⟨ad148, e148, hx148_0⟩ := Kd.at_int (Kd.R_reads' HO147.out).2.2 (rd l2 x12_1) p148 q148; cases e148; replace p148 := eq_true p148; replace q148 := eq_true q148))
                    go_ret
                    exact ⟨by first | rfl | (simp [errW_none, errW_some] <;> rfl) | (simp only [← hji12]; first | rfl | (simp [errW_none, errW_some] <;> rfl)) | (simp [*, errW_none, errW_some] <;> rfl), by repeat (first | (with_reducible first | exact HB.out | apply below_alloc | apply pw_below_drewN | apply below_drew1) | exact HB.out)⟩
                  · rw [if_neg c13] at H
                    have c13b0 : ((wrap64 (x7_1 * (ji12))) == 0) = false := beq_eq_false_iff_ne.mpr c13
                    have c13b1 : ((wrap64 (x7_1 * (ji12))) != 0) = true := bne_iff_ne.mpr c13
                    have H' := Aside0.mk H
                    clear H
                    have p143 : 0 ≤ (x12_1 : Int) := of_decide_eq_true (by first | (with_reducible assumption) | assumption)
                    have q143 : x12_1 < (l2.length : Int) := of_decide_eq_true (by first | (with_reducible assumption) | assumption)
                    obtain ⟨ad143, e143, hx143_0⟩ := Kd.at_int HR2.out x12_1 p143 q143
                    cases e143
                    replace hx143_0 := (HB.out.cell (World.block_lt_of_cell? w _ hx143_0)).trans hx143_0
                    replace p143 := eq_true p143
                    replace q143 := eq_true q143
                    obtain ⟨i017, hi017, _, hsz17, _⟩ := info_parts info3
                    obtain ⟨hcut17, hA17, hC17⟩ := print_take_of (P := Try.prog) (Value.int .i64) 0 23 3 .i64 Try.underlying23 hi017 hsz17 (some ad143) c2 l2 x12_1 (of_decide_eq_true (by first | (with_reducible assumption) | assumption)) (of_decide_eq_true (by first | (with_reducible assumption) | assumption)) HC2.out
                    have HR144 := Aside0.mk (Kd.C_of_reads (h1 := fun _ => rfl) (hA17 _ (Kd.reads_of_C HR2.out)))
                    have HC144 := Aside0.mk hC17
                    clear hA17 hC17 hi017 hsz17
                    go_wp2_with (first | ((with_reducible refine gate_callee (f := 88) rfl ?_); refine goesL_ (some 23) rfl rfl Try.func88 (by kernel_rfl) rfl #[.slice A0 l0.length c0, .slice A1 l1.length c1, .slice (some ad143) (l2.take (x12_1 : Int).toNat).length c2] rfl (by (try simp only [List.map_toArray, List.map_cons, List.map_nil]); first | done | (rw [show (l2.take (x12_1 : Int).toNat).length = x12_1.toNat from (by rw [List.length_take]; have h_ : (x12_1 : Int) ≤ (l2.length : Int) := of_decide_eq_true (by first | (with_reducible assumption) | assumption); omega)] <;> rfl) | rfl | (simp only [List.length_drop, List.length_take]; rfl)) ?_; (with_reducible refine (impl_after.calls k1 _ _ l0 _ _ l1 _ _ (l2.take (x12_1 : Int).toNat) t145 _ ?side1 ?side2 ?side3 ?side4 ?side5 ?side6 A9.out).mono ?_); (case side1 => repeat (first | exact (Kd.C_below HR0.out HB.out) | (with_reducible refine Kd.C_alloc ?_ _) | (with_reducible refine Kd.C_drewN ?_ _) | (with_reducible refine Kd.C_drew ?_))); (case side2 => exact HC0.out); (case side3 => repeat (first | exact (Kd.C_below HR1.out HB.out) | (with_reducible refine Kd.C_alloc ?_ _) | (with_reducible refine Kd.C_drewN ?_ _) | (with_reducible refine Kd.C_drew ?_))); (case side4 => exact HC1.out); (case side5 => repeat (first | exact (Kd.C_below HR144.out HB.out) | (with_reducible refine Kd.C_alloc ?_ _) | (with_reducible refine Kd.C_drewN ?_ _) | (with_reducible refine Kd.C_drew ?_))); (case side6 => exact HC144.out); rintro e w18 ⟨v146, rfl, ho0, hb⟩; refine ⟨_, rfl, ?_⟩; have n0_ := Aside0.mk (Kd.R_lower ho0 (below_size (by repeat (first | (with_reducible first | exact HB.out | apply below_alloc | apply pw_below_drewN | apply below_drew1) | exact HB.out)))); have n1_ := Aside0.mk (below_step (by repeat (first | (with_reducible first | exact HB.out | apply below_alloc | apply pw_below_drewN | apply below_drew1) | exact HB.out)) hb); clear HB; have HO147 := n0_; have HB := n1_; clear n0_ n1_; (try clear hb); (try clear hb2); (try clear hk); (try clear hi); (try clear ho0); obtain ⟨Ao19, co19, eo19⟩ := Kd.R_slice HO147.out; subst eo19; have p148 : 0 ≤ ((rd l2 x12_1) : Int) := of_decide_eq_true (by first | (with_reducible assumption) | assumption); have q148 : (rd l2 x12_1) < (t145.length : Int) := of_decide_eq_true (by first | (with_reducible assumption) | assumption); obtain ⟨ad148, e148, hx148_0⟩ := Kd.at_int (Kd.R_reads' HO147.out).2.2 (rd l2 x12_1) p148 q148; cases e148; replace p148 := eq_true p148; replace q148 := eq_true q148))
                    go_roundg k1
                    case measure => have := HK1.out; omega
                    case rel => exact ⟨(wrap64 (x7_1 * (ji12))), (wrap64 (x12_1 + 1)), (by first | rfl | (simp; done) | (simp only [← hji12] <;> (first | rfl | simp)) | (simp [*]; done)), (by first | rfl | (simp; done) | (simp [*]; done)), H', ⟨by have := HK1.out; omega⟩, ⟨by repeat (first | (with_reducible first | exact HB.out | apply below_alloc | apply pw_below_drewN | apply below_drew1) | exact HB.out)⟩⟩
                · rw [if_neg c11] at H
                  exact absurd H (by simp)
              · rw [if_neg c10] at H
                exact absurd H (by simp)
            · rw [if_neg c8] at H
              exact absurd H (by simp)
          · rw [if_neg c6] at H
            exact absurd H (by simp)
        · rw [if_neg c5] at H
          exact absurd H (by simp)
      · rw [if_neg c4] at H
        have c4b0 : decide (x12_1 < (l2.length : Int)) = false := decide_eq_false c4
        clear c4
        obtain rfl := Option.some.inj H
        go_wp2
        go_ret
        exact ⟨by first | rfl | (simp [errW_none, errW_some] <;> rfl) | (simp [*, errW_none, errW_some] <;> rfl), by repeat (first | (with_reducible first | exact HB.out | apply below_alloc | apply pw_below_drewN | apply below_drew1) | exact HB.out)⟩

-- NOT PRINTED: function 72 (impl_RuleAll_1)

end Go.Proofs.Ythpjeinjldfmjaa.QFnShareSum
