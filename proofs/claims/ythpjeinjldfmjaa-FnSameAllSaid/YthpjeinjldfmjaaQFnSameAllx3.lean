/- What the functions that the law FnSameAll reaches come to, each with its proof; and the row of the law. -/
import Derived.Test.YthpjeinjldfmjaaQFnSameAllx0
import Derived.Test.YthpjeinjldfmjaaQFnSameAllx1
namespace Go.Proofs.Ythpjeinjldfmjaa.QFnSameAll
open Go.RowKit Go.Proofs.YthpjeinjldfmjaaW.PrintWords Go.Proofs.YthpjeinjldfmjaaW.PrintLast Go.Proofs.YthpjeinjldfmjaaW.PrintMore
attribute [local go_sem] max2_int min2_int max_two min_two max_three min_three max_four min_four   -- for this text's walks alone
set_option linter.unusedVariables false
set_option linter.unusedSimpArgs false


/-- All words of m draws of c colours, the first place slowest. -/
def allW (c : Nat) : Nat → List (List Int)
  | 0 => [[]]
  | m + 1 => (List.range c).flatMap fun (x : Nat) => (allW c m).map fun t => (x : Int) :: t
/-- A number that is told one word after the other. -/
def tellAll (f : Int → List Int → Option Int) : Int → List (List Int) → Option Int
  | a, [] => some a
  | a, q :: qs => (f a q).bind fun a' => tellAll f a' qs
theorem tellAll_append (f : Int → List Int → Option Int) (xs ys : List (List Int)) : ∀ a, tellAll f a (xs ++ ys) = (tellAll f a xs).bind fun a' => tellAll f a' ys := by
  induction xs with
  | nil => intro a; rfl
  | cons q qs ih =>
    intro a
    show (f a q).bind _ = ((f a q).bind _).bind _
    cases f a q with
    | none => rfl
    | some a' => exact ih a'

/-- The world is as it was but for one block of w's (and what is new). -/
structure Stay (w W : World) (g : Nat) : Prop where
  os : W.os = w.os
  tape : W.tape = w.tape
  output : W.output = w.output
  size : w.heap.size ≤ W.heap.size
  block : ∀ i, i < w.heap.size → i ≠ g → W.heap[i]? = w.heap[i]?
theorem Stay.refl (w : World) (g : Nat) : Stay w w g := ⟨rfl, rfl, rfl, Nat.le_refl _, fun _ _ _ => rfl⟩
theorem Stay.trans {w W V : World} {g : Nat} (h : Stay w W g) (k : Stay W V g) : Stay w V g :=
  ⟨k.os.trans h.os, k.tape.trans h.tape, k.output.trans h.output, Nat.le_trans h.size k.size, fun i hi hg => (k.block i (Nat.lt_of_lt_of_le hi h.size) hg).trans (h.block i hi hg)⟩
theorem Stay.below {w W V : World} {g : Nat} (h : Stay w W g) (k : Below W.heap.size W V) : Stay w V g :=
  h.trans ⟨k.os, k.tape, k.output, k.size, fun i hi _ => k.block i hi⟩
theorem Stay.far {w W : World} {g : Nat} (h : Stay w W g) (p : Addr) (u : Value) (hp : p.block = g ∨ w.heap.size ≤ p.block) : Stay w (W.setCell p u) g :=
  ⟨h.os, h.tape, h.output, by simpa [World.setCell] using h.size, fun i hi hg => (Below.heap_setCell W p u i (by omega)).trans (h.block i hi hg)⟩
theorem Stay.drewN {w W : World} {g : Nat} (h : Stay w W g) (m : Nat) : Stay w (W.drewN m) g := ⟨h.os, h.tape, h.output, h.size, h.block⟩
theorem Stay.keep {w W : World} {g k : Nat} {o : Obj} (h : Stay w W g) (hb : w.heap[k]? = some o) (hk : k ≠ g) : W.heap[k]? = some o := (h.block k (lt_of_block hb) hk).trans hb
theorem Stay.toBelow {w W V : World} {g : Nat} (h : Stay W V g) (k : Below w.heap.size w W) (hg : w.heap.size ≤ g) : Below w.heap.size w V :=
  k.trans ⟨h.os, h.tape, h.output, h.size, fun i hi => h.block i (Nat.lt_of_lt_of_le hi k.size) (by omega)⟩

/-- The number that is told stands in block g, the wordsRest is as it was. -/
structure Acc (w0 W : World) (g : Nat) (a : Int) : Prop where
  stay : Stay w0 W g
  now : W.heap[g]? = some (.cells #[.int .i64 a] 3 (0, 0))
/-- What is asked of the function that is told a word: it tells the number on, and turns nothing else. -/
def Tells (t : Nat) (lb : Array Value) (w0 : World) (g : Nat) (f : Int → List Int → Option Int) : Prop :=
  ∀ (W : World) (a a' : Int) (A : Option Addr) (c : Nat) (q : List Int), Acc w0 W g a → Kd.C (Kd.int .i64) W A q.length q → q.length ≤ c → f a q = some a' →
    Calls Try.prog t (#[.slice A q.length c] ++ lb) W fun e W' => e = .returned (.tuple #[]) ∧ Stay W W' g ∧ W'.heap[g]? = some (.cells #[.int .i64 a'] 3 (0, 0))

/-- The variables of a call of words. -/
structure Fr (W : World) (Bm Bt Bw Bc By G : Nat) (many colours : Nat) (t : Nat) (lb : Array Value) (A : Option Addr) (c : Nat) (p : List Int) : Prop where
  hm : W.heap[Bm]? = some (.cells #[.int .i64 (many : Int)] 3 (0, 0))
  ht : W.heap[Bt]? = some (.cells #[.func (.func t) #[] lb] 61 (0, 0))
  hw : W.heap[Bw]? = some (.cells #[.slice A p.length c] 23 (0, 0))
  hc : W.heap[Bc]? = some (.cells #[.int .i64 (colours : Int)] 3 (0, 0))
  hy : W.heap[By]? = some (.cells #[.func (.func 91) #[] #[.pointer (some ⟨Bm, 0, none⟩), .pointer (some ⟨Bt, 0, none⟩), .pointer (some ⟨Bw, 0, none⟩), .pointer (some ⟨Bc, 0, none⟩), .pointer (some ⟨By, 0, none⟩)]] 73 (0, 0))
  hr : Kd.R (Kd.int .i64) 3 W 0 (fun k => k = G) (.slice A p.length c) p
set_option maxHeartbeats 1000000 in
set_option maxRecDepth 100000 in
theorem try_end (w0 W : World) (g Bm Bt Bw Bc By G many colours t : Nat) (lb : Array Value) (f : Int → List Int → Option Int) (A : Option Addr) (c : Nat) (p : List Int) (a a' : Int)
    (eg : ∀ args w, (callFunc t args).run Try.prog w = .ok (.enter t args) w) (hT : Tells t lb w0 g f) (hF : Fr W Bm Bt Bw Bc By G many colours t lb A c p) (hp : p.length = many) (hA : Acc w0 W g a) (hf : f a p = some a') (hm : many ≤ 6) :
    Calls Try.prog 91 #[.int .i64 (many : Int), .pointer (some ⟨Bm, 0, none⟩), .pointer (some ⟨Bt, 0, none⟩), .pointer (some ⟨Bw, 0, none⟩), .pointer (some ⟨Bc, 0, none⟩), .pointer (some ⟨By, 0, none⟩)] W fun e W' =>
      e = .returned (.tuple #[]) ∧ Stay W W' g ∧ W'.heap[g]? = some (.cells #[.int .i64 a'] 3 (0, 0)) := by
  subst hp
  have cM := cell_of_one hF.hm
  have cT := cell_of_one hF.ht
  have cW := cell_of_one hF.hw
  have hc := Kd.R_reads' hF.hr
  have HC := Lib.hid hc
  clear hc
  have call := hT W a a' A c p hA HC.out.2.2 HC.out.2.1 hf
  have HF := Aside0.mk hF
  clear hF
  have HCall := Aside0.mk call
  clear call HC
  go_enter Try.func91, Try.ntmps91
  go_wp2_with (go_at_fn t; refine HCall.out.mono ?_; rintro e W' ⟨rfl, h1, h2⟩)
  exact bodyPost_ret (results_none rfl _ _ _) rfl ⟨rfl, h1, h2⟩
/-- Where the blocks of a call of words lie: behind w0's, each in its place. -/
structure Lay (w0 : World) (g Bm Bt Bw Bc By G : Nat) : Prop where
  lg : g < w0.heap.size
  lm : w0.heap.size ≤ Bm
  lt : w0.heap.size ≤ Bt
  lw : w0.heap.size ≤ Bw
  lc : w0.heap.size ≤ Bc
  ly : w0.heap.size ≤ By
  lG : w0.heap.size ≤ G
  nm : Bm ≠ G
  nt : Bt ≠ G
  nw : Bw ≠ G
  nc : Bc ≠ G
  ny : By ≠ G
theorem Fr.stay {w0 W V : World} {g Bm Bt Bw Bc By G many colours t : Nat} {lb : Array Value} {A : Option Addr} {c : Nat} {p : List Int} (h : Fr W Bm Bt Bw Bc By G many colours t lb A c p) (hL : Lay w0 g Bm Bt Bw Bc By G) (hs : Stay W V g) : Fr V Bm Bt Bw Bc By G many colours t lb A c p := by
  have := hL.lg
  have := hL.lm
  have := hL.lt
  have := hL.lw
  have := hL.lc
  have := hL.ly
  have := hL.lG
  exact ⟨hs.keep h.hm (by omega), hs.keep h.ht (by omega), hs.keep h.hw (by omega), hs.keep h.hc (by omega), hs.keep h.hy (by omega),
    Kd.R_step h.hr fun k hk hlt => hs.block k hlt (by omega)⟩
theorem Fr.put {w0 W : World} {g Bm Bt Bw Bc By G many colours t : Nat} {lb : Array Value} {c : Nat} {p : List Int} (h : Fr W Bm Bt Bw Bc By G many colours t lb (some ⟨G, 0, none⟩) c p) (hL : Lay w0 g Bm Bt Bw Bc By G) (i : Nat) (x : Int) :
    Fr (W.setCell ⟨G, i, none⟩ (.int .i64 x)) Bm Bt Bw Bc By G many colours t lb (some ⟨G, 0, none⟩) c (p.set i x) := by
  refine ⟨blk_far h.hm hL.nm _, blk_far h.ht hL.nt _, ?_, blk_far h.hc hL.nc _, blk_far h.hy hL.ny _, ?_⟩
  · rw [List.length_set]
    exact blk_far h.hw hL.nw _
  · rw [List.length_set]
    have := Kd.R_putn (i := (i : Int)) (x := x) h.hr
    rw [Int.toNat_natCast] at this
    exact this
theorem Acc.put {w0 W : World} {g Gp : Nat} {n : Int} (h : Acc w0 W g n) (hg : g ≠ Gp) (hG : w0.heap.size ≤ Gp) (i : Nat) (u : Value) : Acc w0 (W.setCell ⟨Gp, i, none⟩ u) g n :=
  ⟨h.stay.far ⟨Gp, i, none⟩ u (.inr hG), blk_far h.now hg u⟩

/-- The words that are still to come from colour x on. -/
def wordsRest (pre : List Int) (colours d x : Nat) : List (List Int) :=
  (List.range' x (colours - x)).flatMap fun (y : Nat) => (allW colours d).map fun s => pre ++ ((y : Int) :: s)
theorem wordsRest_zero (pre : List Int) (colours d : Nat) : (allW colours (d + 1)).map (pre ++ ·) = wordsRest pre colours d 0 := by
  simp only [wordsRest, allW, List.map_flatMap, List.map_map, Nat.sub_zero, List.range_eq_range']
  rfl
theorem wordsRest_step (pre : List Int) (colours d x : Nat) (h : x < colours) : wordsRest pre colours d x = ((allW colours d).map fun s => (pre ++ [(x : Int)]) ++ s) ++ wordsRest pre colours d (x + 1) := by
  obtain ⟨m, hm⟩ : ∃ m, colours - x = m + 1 := ⟨colours - x - 1, by omega⟩
  have hm' : colours - (x + 1) = m := by omega
  simp only [wordsRest, hm, hm', List.range'_succ, List.flatMap_cons, List.append_assoc, List.singleton_append]
theorem wordsRest_end (pre : List Int) (colours d : Nat) : wordsRest pre colours d colours = [] := by
  simp [wordsRest]
set_option maxHeartbeats 2000000 in
set_option maxRecDepth 100000 in
theorem try_any (w0 : World) (g Bm Bt Bw Bc By G n colours t : Nat) (lb : Array Value) (f : Int → List Int → Option Int) (A : Option Addr) (c : Nat)
    (eg : ∀ args w, (callFunc t args).run Try.prog w = .ok (.enter t args) w) (hT : Tells t lb w0 g f) (hL : Lay w0 g Bm Bt Bw Bc By G) (hn : n ≤ 6) (hcol : colours ≤ 3) (d : Nat) :
    ∀ (at_ : Nat) (W : World) (p : List Int) (a a' : Int), at_ + d = n → p.length = n → Fr W Bm Bt Bw Bc By G n colours t lb A c p → Acc w0 W g a → tellAll f a ((allW colours d).map (p.take at_ ++ ·)) = some a' →
    Calls Try.prog 91 #[.int .i64 (at_ : Int), .pointer (some ⟨Bm, 0, none⟩), .pointer (some ⟨Bt, 0, none⟩), .pointer (some ⟨Bw, 0, none⟩), .pointer (some ⟨Bc, 0, none⟩), .pointer (some ⟨By, 0, none⟩)] W fun e W' =>
      e = .returned (.tuple #[]) ∧ Acc w0 W' g a' ∧ ∃ p', Fr W' Bm Bt Bw Bc By G n colours t lb A c p' ∧ p'.length = n ∧ p'.take at_ = p.take at_ := by
  induction d with
  | zero =>
    intro at_ W p a a' hat hp hF hA hf
    have hat' : at_ = n := by omega
    subst hat'
    have hf' : f a p = some a' := by
      simp only [allW, List.map_cons, List.map_nil, tellAll, List.append_nil, List.take_of_length_le (Nat.le_of_eq hp)] at hf
      cases hq : f a p with
      | none => rw [hq] at hf; cases hf
      | some b => rw [hq] at hf; exact hf
    refine (try_end w0 W g Bm Bt Bw Bc By G at_ colours t lb f A c p a a' eg hT hF hp hA hf' hn).mono ?_
    rintro e W' ⟨rfl, h1, h2⟩
    exact ⟨rfl, ⟨hA.stay.trans h1, h2⟩, p, hF.stay hL h1, hp, rfl⟩
  | succ d ih =>
    intro at_ W p a a' hat hp hF hA hf
    rw [wordsRest_zero] at hf
    have hne : decide ((at_ : Int) = (n : Int)) = false := decide_eq_false (by omega)
    have hne2 : ((at_ : Int) == (n : Int)) = false := beq_eq_false_iff_ne.mpr (by omega)
    obtain ⟨cap, hAc⟩ : ∃ cap, A = some ⟨G, 0, none⟩ ∧ cap = c := by
      refine ⟨c, ?_, rfl⟩
      obtain ⟨inner, ho⟩ := Kd.R_own hF.hr
      rcases ho.2 with ⟨h1, h2⟩ | ⟨g', cap', cur, hv, _⟩
      · omega
      · injection hv with hv1
        subst hv1
        have := hF.hr.1 g' rfl
        rw [this]
    obtain ⟨rfl, rfl⟩ := hAc
    have cM := cell_of_one hF.hm
    have cC := cell_of_one hF.hc
    have HF := Aside0.mk hF
    have HA := Aside0.mk hA
    have Hf := Aside0.mk hf
    have Hp := Aside0.mk hp
    clear hF hA hf hp
    go_enter Try.func91, Try.ntmps91
    go_wp2_with fail
    go_loopw [15] (fun i wr => ∃ (x : Nat) (ar : Int) (pr : List Int), x ≤ colours ∧ i = .int .i64 (x : Int) ∧ Aside0 (Fr wr Bm Bt Bw Bc By G n colours t lb (some ⟨G, 0, none⟩) cap pr) ∧ Aside0 (pr.length = n) ∧ Aside0 (pr.take at_ = p.take at_) ∧ Aside0 (Acc w0 wr g ar) ∧ Aside0 (tellAll f ar (wordsRest (p.take at_) colours d x) = some a'))
      (fun i _ => colours - (intOf i).toNat)
    case atStart => exact ⟨0, a, p, Nat.zero_le _, rfl, HF, Hp, ⟨rfl⟩, HA, Hf⟩
    case round =>
      obtain ⟨x, ar, pr, hx, rfl, HFr, Hpr, Hpre, HAr, Hfr⟩ := hrel
      clear HF HA Hf cM cC
      by_cases hlt : x < colours
      · have hlt' : decide ((x : Int) < (colours : Int)) = true := decide_eq_true (by omega)
        have hfr := Hfr.out
        rw [wordsRest_step _ _ _ _ hlt, tellAll_append] at hfr
        obtain ⟨a1, hf1, hf2⟩ := Option.bind_eq_some_iff.mp hfr
        have Hf2 := Aside0.mk hf2
        have hlen := Hpr.out
        have hFr := HFr.out
        have hset : (pr.set at_ (x : Int)).take (at_ + 1) = p.take at_ ++ [(x : Int)] := by
          rw [← Hpre.out, List.take_succ_eq_append_getElem (by simp; omega), List.take_set_of_le (Nat.le_refl _)]
          simp
        have hF1 := hFr.put hL at_ (x : Int)
        have hA1 := HAr.out.put (i := at_) (u := .int .i64 (x : Int)) (show g ≠ G by have := hL.lg; have := hL.lG; omega) hL.lG
        have call := ih (at_ + 1) (wr.setCell ⟨G, at_, none⟩ (.int .i64 (x : Int))) (pr.set at_ (x : Int)) ar a1 (by omega) (by simp; omega) hF1 hA1 (by rw [hset]; exact hf1)
        have Hcall := Aside0.mk call
        have cW := cell_of_one hFr.hw
        have cY := cell_of_one hFr.hy
        have cX : ∃ v, wr.cell? ⟨G, at_, none⟩ = some v := by
          obtain ⟨inner, ho⟩ := Kd.R_own hFr.hr
          have hl := ho.1
          have := ho.cellAt at_ (show at_ < pr.length * 1 by omega)
          rw [List.getElem?_eq_getElem (show at_ < inner.length by have : inner.length = pr.length * 1 := hl; omega)] at this
          exact ⟨_, this⟩
        obtain ⟨vx, cX⟩ := cX
        have fX : wr.frozen? ⟨G, at_, none⟩ = false := by
          obtain ⟨inner, ho⟩ := Kd.R_own hFr.hr
          exact ho.frozenAt at_
        have hidx : at_ < pr.length := by omega
        have hb : at_ ≤ 5 := by omega
        have hgo : G ≠ Bw ∧ G ≠ By := ⟨fun e => hL.nw e.symm, fun e => hL.ny e.symm⟩
        have cY1 : (wr.setCell ⟨G, at_, none⟩ (.int .i64 (x : Int))).cell? ⟨By, 0, none⟩ = _ := cell_of_one hF1.hy
        have Hlen := Aside0.mk hlen
        have HL := Aside0.mk hL
        have Hat := Aside0.mk hat
        have Hset := Aside0.mk hset
        clear hlen hL hat hset hfr hf1 hf2 hFr hF1 hA1 call hne hne2 ih
        go_wp2_with (go_at_call 91; refine Hcall.out.mono ?_; rintro e w2 ⟨rfl, hA2, p2, hF2, hp2, htk⟩)
        go_roundw
        case rel =>
          refine ⟨x + 1, a1, p2, hlt, by go_num, ⟨hF2⟩, ⟨hp2⟩, ⟨?_⟩, ⟨hA2⟩, Hf2⟩
          have e1 : p2.take at_ = (p2.take (at_ + 1)).take at_ := by rw [List.take_take, Nat.min_eq_left (by omega)]
          have e2 : (p.take at_).length = at_ := by
            have := Hp.out
            have := Hat.out
            simp
            omega
          rw [e1, htk, Hset.out, List.take_append_of_le_length (by omega), List.take_of_length_le (by omega)]
        case measure => simp [intOf]; omega
      · have hlt' : decide ((x : Int) < (colours : Int)) = false := decide_eq_false (by omega)
        have hxe : x = colours := by omega
        have hfr := Hfr.out
        rw [hxe, wordsRest_end] at hfr
        obtain rfl := Option.some.inj hfr
        clear hxe hfr
        go_wp2_with fail
        go_end0
        exact ⟨rfl, HAr.out, pr, HFr.out, Hpr.out, Hpre.out⟩
theorem info3' : (Try.prog.info? 3).map (fun i => (i.zero, i.size, i.bytes)) = some (some (.int .i64 0), 1, 8) := by kernel_rfl
theorem enters (f : FuncId) (fn : Func) (cd : Code) (hf : Try.prog.funcs[f]? = some fn) (hn : (fn.name == "runtime.NumGoroutine") = false) (hb : fn.body = some cd) : ∀ args w, (callFunc f args).run Try.prog w = .ok (.enter f args) w := enters_of hf hn hb
theorem alloc_at (w : World) (o : Obj) (k : Nat) : (w.alloc o).heap[k]? = if k = w.heap.size then some o else w.heap[k]? := by
  show (w.heap.push o)[k]? = _
  rw [Array.getElem?_push]
set_option maxHeartbeats 2000000 in
set_option maxRecDepth 100000 in
theorem words_any (w0 : World) (g n colours t : Nat) (lb : Array Value) (f : Int → List Int → Option Int) (a a' : Int)
    (eg : ∀ args w, (callFunc t args).run Try.prog w = .ok (.enter t args) w) (hT : Tells t lb w0 g f) (hn : n ≤ 6) (hcol : colours ≤ 3) (hg : w0.heap[g]? = some (.cells #[.int .i64 a] 3 (0, 0))) (hf : tellAll f a (allW colours n) = some a') :
    Calls Try.prog 71 #[.int .i64 (colours : Int), .int .i64 (n : Int), .func (.func t) #[] lb] w0 fun e W' => e = .returned (.tuple #[]) ∧ Stay w0 W' g ∧ W'.heap[g]? = some (.cells #[.int .i64 a'] 3 (0, 0)) := by
  have hmk := print_make (P := Try.prog) 23 3 .i64 8 Try.underlying23 info3' (by decide) n (by omega)
  have hgl := lt_of_block hg
  have hL : Lay w0 g (w0.heap.size + 1) (w0.heap.size + 1 + 1) (w0.heap.size + 1 + 1 + 1 + 1) w0.heap.size (w0.heap.size + 1 + 1 + 1 + 1 + 1) (w0.heap.size + 1 + 1 + 1) :=
    ⟨hgl, by omega, by omega, by omega, by omega, by omega, by omega, by omega, by omega, by omega, by omega, by omega⟩
  have hr : (List.replicate n (0 : Int)).length = n := List.length_replicate
  have call := try_any w0 g (w0.heap.size + 1) (w0.heap.size + 1 + 1) (w0.heap.size + 1 + 1 + 1 + 1) w0.heap.size (w0.heap.size + 1 + 1 + 1 + 1 + 1) (w0.heap.size + 1 + 1 + 1) n colours t lb f (some ⟨w0.heap.size + 1 + 1 + 1, 0, none⟩) n eg hT hL hn hcol n 0
    ((((((w0.alloc (.cells #[.int .i64 (colours : Int)] 3)).alloc (.cells #[.int .i64 (n : Int)] 3)).alloc (.cells #[.func (.func t) #[] lb] 61)).alloc (.cells (madeCells #[.int .i64 0] n) 3)).alloc (.cells #[.slice (some ⟨w0.heap.size + 1 + 1 + 1, 0, none⟩) n n] 23)).alloc
      (.cells #[.func (.func 91) #[] #[.pointer (some ⟨w0.heap.size + 1, 0, none⟩), .pointer (some ⟨w0.heap.size + 1 + 1, 0, none⟩), .pointer (some ⟨w0.heap.size + 1 + 1 + 1 + 1, 0, none⟩), .pointer (some ⟨w0.heap.size, 0, none⟩), .pointer (some ⟨w0.heap.size + 1 + 1 + 1 + 1 + 1, 0, none⟩)]] 73))
    (List.replicate n 0) a a' (by omega) hr
    (by
      refine ⟨?_, ?_, ?_, ?_, ?_, ?_⟩
      · rw [alloc_at, if_neg (by simp <;> omega), alloc_at, if_neg (by simp <;> omega), alloc_at, if_neg (by simp <;> omega), alloc_at, if_neg (by simp <;> omega), alloc_at, if_pos (by simp)]
      · rw [alloc_at, if_neg (by simp <;> omega), alloc_at, if_neg (by simp <;> omega), alloc_at, if_neg (by simp <;> omega), alloc_at, if_pos (by simp)]
      · rw [hr, alloc_at, if_neg (by simp <;> omega), alloc_at, if_pos (by simp)]
      · rw [alloc_at, if_neg (by simp <;> omega), alloc_at, if_neg (by simp <;> omega), alloc_at, if_neg (by simp <;> omega), alloc_at, if_neg (by simp <;> omega), alloc_at, if_neg (by simp <;> omega), alloc_at, if_pos (by simp)]
      · rw [alloc_at, if_pos (by simp)]
      · rw [hr]
        have ho : ((((w0.alloc (.cells #[.int .i64 (colours : Int)] 3)).alloc (.cells #[.int .i64 (n : Int)] 3)).alloc (.cells #[.func (.func t) #[] lb] 61)).alloc (.cells (madeCells #[.int .i64 0] n) 3)).ownsRow 0 3 1 (.slice (some ⟨w0.heap.size + 1 + 1 + 1, 0, none⟩) n n) n (nums .i64 (List.replicate n 0)) := by
          simpa using own_made (((w0.alloc (.cells #[.int .i64 (colours : Int)] 3)).alloc (.cells #[.int .i64 (n : Int)] 3)).alloc (.cells #[.func (.func t) #[] lb] 61)) 0 3 .i64 n (Nat.zero_le _) (by omega)
        have h1 := Kd.R_of_own (enc := Value.int .i64) (h1 := fun _ => rfl) (ok := fun k => k = w0.heap.size + 1 + 1 + 1) (xs := List.replicate n (0 : Int)) (by rw [hr]; exact ho) (fun k hk => by simp [Value.ownBlock] at hk; omega)
        refine Kd.R_step (Kd.R_step h1 (fun k _ hk => Below.heap_alloc _ _ _ hk)) (fun k _ hk => Below.heap_alloc _ _ _ ?_)
        exact hk)
    ⟨⟨rfl, rfl, rfl, by simp; omega, fun i hi _ => by rw [alloc_at, if_neg (by first | omega | (simp; omega)), alloc_at, if_neg (by first | omega | (simp; omega)), alloc_at, if_neg (by first | omega | (simp; omega)), alloc_at, if_neg (by first | omega | (simp; omega)), alloc_at, if_neg (by first | omega | (simp; omega)), alloc_at, if_neg (by first | omega | (simp; omega))]⟩,
      by rw [alloc_at, if_neg (by first | omega | (simp; omega)), alloc_at, if_neg (by first | omega | (simp; omega)), alloc_at, if_neg (by first | omega | (simp; omega)), alloc_at, if_neg (by first | omega | (simp; omega)), alloc_at, if_neg (by first | omega | (simp; omega)), alloc_at, if_neg (by first | omega | (simp; omega))]; exact hg⟩
    (by simpa using hf)
  have Hcall := Aside0.mk call
  clear call hL hr hgl hg hf hT
  go_enter Try.func71, Try.ntmps71
  go_wp2_with (go_at_call 91; refine Hcall.out.mono ?_; rintro e W' ⟨rfl, hA, _, _, _, _⟩)
  go_end0
  exact ⟨rfl, hA.stay, hA.now⟩
theorem below_undrew {W V : World} (k : Below W.drew.heap.size W.drew V) : Below W.heap.size W V := ⟨k.os, k.tape, k.output, k.size, k.block⟩
theorem below_next {w w1 w2 : World} (k : Below w1.heap.size w1 w2) (h : Below w.heap.size w w1) : Below w.heap.size w w2 := below_then h h.size k
theorem tellAll_mono {f g : Int → List Int → Option Int} (h : ∀ a q, LeO (f a q) (g a q)) : ∀ (qs : List (List Int)) (a : Int), LeO (tellAll f a qs) (tellAll g a qs)
  | [], a => LeO.refl _
  | q :: qs, a => LeO.bind (h a q) fun a' => tellAll_mono h qs a'

/-! ### impl_sum: function 75 -/
def impl_sum.l0 : Nat → Int → List Int → Int → Int → Option (Int)
  | 0, _, _, _, _ => none
  | k + 1, x3, x6, x7, x8 => if x8 < x7 then (if 0 ≤ x8 then (if x8 < (x6.length : Int) then (impl_sum.l0 k (wrap64 (x3 + (rd x6 x8))) x6 x7 (wrap64 (x8 + 1))) else (none)) else (none)) else (some x3)
def impl_sum.f (k : Nat) (l0 : List Int) : Option (Int) := impl_sum.l0 k 0 l0 (l0.length : Int) 0
theorem impl_sum.mono_l : ∀ k, (∀ y0 y1 y2 y3, LeO (impl_sum.l0 k y0 y1 y2 y3) (impl_sum.l0 (k + 1) y0 y1 y2 y3))
  | 0 => fun _ _ _ _ r h => by simp [impl_sum.l0] at h
  | k + 1 => by
    have ih0 := impl_sum.mono_l k
    · intro y0 y1 y2 y3
      unfold impl_sum.l0
      repeat' first
      | (with_reducible exact ih0 _ _ _ _)
      | (with_reducible exact LeO.refl _)
      | (with_reducible exact LeO.none _)
      | (with_reducible refine LeO.ite ?_ ?_)
      | (with_reducible refine LeO.bind ?_ (fun _ => ?_))
      | exact ih0 _ _ _ _
      | exact LeO.none _
      | refine LeO.ite ?_ ?_
      | refine LeO.bind ?_ (fun _ => ?_)
theorem impl_sum.mono : ∀ a0 k, LeO (impl_sum.f k a0) (impl_sum.f (k + 1) a0) := by
  intro a0 k
  have ih0 := impl_sum.mono_l k
  unfold impl_sum.f
  repeat' first
      | (with_reducible exact ih0 _ _ _ _)
      | (with_reducible exact LeO.refl _)
      | (with_reducible exact LeO.none _)
      | (with_reducible refine LeO.ite ?_ ?_)
      | (with_reducible refine LeO.bind ?_ (fun _ => ?_))
      | exact ih0 _ _ _ _
      | exact LeO.none _
      | refine LeO.ite ?_ ?_
      | refine LeO.bind ?_ (fun _ => ?_)
set_option maxHeartbeats 8000000 in
set_option maxRecDepth 100000 in
theorem impl_sum.calls (k : Nat) (A0 : Option Addr) (c0 : Nat) (l0 : List Int) (r : Int) (w : World) (hr0 : Kd.C (Kd.int .i64) w A0 l0.length l0) (hc0 : l0.length ≤ c0) (h : impl_sum.f k l0 = some r) :
    Calls Try.prog 75 #[.slice A0 l0.length c0] w fun e w' => e = .returned (.int .i64 r) ∧ Drawn0 w w' := by
  have HR0 := Aside0.mk hr0
  have HC0 := Aside0.mk hc0
  clear hr0 hc0
  have H : (impl_sum.l0 k 0 l0 (l0.length : Int) 0) = some r := h
  clear h
  have H' := Aside0.mk H
  clear H
  go_enter Try.func75, Try.ntmps75
  go_wp2
  go_loopg [3, 8] k (fun kq v3 v8 w' => ∃ (x3_1 : Int) (x8_1 : Int), v3 = .int .i64 x3_1 ∧ v8 = .int .i64 x8_1 ∧ Aside0 (impl_sum.l0 kq x3_1 l0 (l0.length : Int) x8_1 = some r) ∧ Aside0 (kq ≤ k) ∧ Drawn0 w w')
  case atStart => exact ⟨(0), (0), (by first | rfl | (simp; done) | (simp [*]; done)), (by first | rfl | (simp; done) | (simp [*]; done)), H', ⟨Nat.le_refl _⟩, by repeat (first | exact Drawn0.refl _ | apply Drawn0.step)⟩
  case round =>
    clear H'
    obtain ⟨x3_1, x8_1, rfl, rfl, HA, HK1, ⟨m1, rfl⟩⟩ := hrel
    cases gk with
    | zero => exact absurd HA.out (by simp [impl_sum.l0])
    | succ k1 =>
      have H := HA.out
      clear HA
      simp only [impl_sum.l0] at H
      by_cases c2 : x8_1 < (l0.length : Int)
      · rw [if_pos c2] at H
        have c2b0 : decide (x8_1 < (l0.length : Int)) = true := decide_eq_true c2
        clear c2
        by_cases c3 : 0 ≤ x8_1
        · rw [if_pos c3] at H
          have c3b0 : decide (0 ≤ x8_1) = true := decide_eq_true c3
          clear c3
          by_cases c4 : x8_1 < (l0.length : Int)
          · rw [if_pos c4] at H
            have c4b0 : decide (x8_1 < (l0.length : Int)) = true := decide_eq_true c4
            clear c4
            have H' := Aside0.mk H
            clear H
            have p182 : 0 ≤ (x8_1 : Int) := of_decide_eq_true (by first | (with_reducible assumption) | assumption)
            have q182 : x8_1 < (l0.length : Int) := of_decide_eq_true (by first | (with_reducible assumption) | assumption)
            obtain ⟨ad182, e182, hx182_0⟩ := Kd.at_int HR0.out x8_1 p182 q182
            cases e182
            replace p182 := eq_true p182
            replace q182 := eq_true q182
            go_wp2
            go_roundg k1
            case measure => have := HK1.out; omega
            case rel => exact ⟨(wrap64 (x3_1 + (rd l0 x8_1))), (wrap64 (x8_1 + 1)), (by first | rfl | (simp; done) | (simp [*]; done)), (by first | rfl | (simp; done) | (simp [*]; done)), H', ⟨by have := HK1.out; omega⟩, by repeat (first | exact Drawn0.refl _ | apply Drawn0.step)⟩
          · rw [if_neg c4] at H
            exact absurd H (by simp)
        · rw [if_neg c3] at H
          exact absurd H (by simp)
      · rw [if_neg c2] at H
        have c2b0 : decide (x8_1 < (l0.length : Int)) = false := decide_eq_false c2
        clear c2
        obtain rfl := Option.some.inj H
        go_wp2
        go_ret
        exact ⟨by first | rfl | (simp; done) | (simp [*]; done), by repeat (first | exact Drawn0.refl _ | apply Drawn0.step)⟩

/-! ### impl_WordOk: function 68 -/
def impl_WordOk.l0 : Nat → Int → List Int → List Int → Int → Int → Option (Bool)
  | 0, _, _, _, _, _ => none
  | k + 1, x0, x1, x7, x8, x9 => if x9 < x8 then (if 0 ≤ x9 then (if x9 < (x7.length : Int) then (if (rd x7 x9) < 0 then (some false) else (if (rd x7 x9) ≥ x0 then (some false) else (impl_WordOk.l0 k x0 x1 x7 x8 (wrap64 (x9 + 1))))) else (none)) else (none)) else ((impl_coloursOk.f x0).bind fun t184 => (if t184 = true then (some (decide ((x1.length : Int) ≤ 6))) else (some false)))
def impl_WordOk.f (k : Nat) (a0 : Int) (l1 : List Int) : Option (Bool) := impl_WordOk.l0 k a0 l1 l1 (l1.length : Int) 0
theorem impl_WordOk.mono_l : ∀ k, (∀ y0 y1 y2 y3 y4, LeO (impl_WordOk.l0 k y0 y1 y2 y3 y4) (impl_WordOk.l0 (k + 1) y0 y1 y2 y3 y4))
  | 0 => fun _ _ _ _ _ r h => by simp [impl_WordOk.l0] at h
  | k + 1 => by
    have ih0 := impl_WordOk.mono_l k
    · intro y0 y1 y2 y3 y4
      unfold impl_WordOk.l0
      repeat' first
      | (with_reducible exact ih0 _ _ _ _ _)
      | (with_reducible exact LeO.refl _)
      | (with_reducible exact LeO.none _)
      | (with_reducible refine LeO.ite ?_ ?_)
      | (with_reducible refine LeO.bind ?_ (fun _ => ?_))
      | exact ih0 _ _ _ _ _
      | exact LeO.none _
      | refine LeO.ite ?_ ?_
      | refine LeO.bind ?_ (fun _ => ?_)
theorem impl_WordOk.mono : ∀ a0 a1 k, LeO (impl_WordOk.f k a0 a1) (impl_WordOk.f (k + 1) a0 a1) := by
  intro a0 a1 k
  have ih0 := impl_WordOk.mono_l k
  unfold impl_WordOk.f
  repeat' first
      | (with_reducible exact ih0 _ _ _ _ _)
      | (with_reducible exact LeO.refl _)
      | (with_reducible exact LeO.none _)
      | (with_reducible refine LeO.ite ?_ ?_)
      | (with_reducible refine LeO.bind ?_ (fun _ => ?_))
      | exact ih0 _ _ _ _ _
      | exact LeO.none _
      | refine LeO.ite ?_ ?_
      | refine LeO.bind ?_ (fun _ => ?_)
set_option maxHeartbeats 8000000 in
set_option maxRecDepth 100000 in
theorem impl_WordOk.calls (k : Nat) (a0 : Int) (A1 : Option Addr) (c1 : Nat) (l1 : List Int) (r : Bool) (w : World) (hr1 : Kd.C (Kd.int .i64) w A1 l1.length l1) (hc1 : l1.length ≤ c1) (h : impl_WordOk.f k a0 l1 = some r) :
    Calls Try.prog 68 #[.int .i64 a0, .slice A1 l1.length c1] w fun e w' => e = .returned (.bool r) ∧ Drawn0 w w' := by
  have HR1 := Aside0.mk hr1
  have HC1 := Aside0.mk hc1
  clear hr1 hc1
  have H : (impl_WordOk.l0 k a0 l1 l1 (l1.length : Int) 0) = some r := h
  clear h
  have H' := Aside0.mk H
  clear H
  go_enter Try.func68, Try.ntmps68
  go_wp2
  go_loopg [9] k (fun kq v9 w' => ∃ (x9_1 : Int), v9 = .int .i64 x9_1 ∧ Aside0 (impl_WordOk.l0 kq a0 l1 l1 (l1.length : Int) x9_1 = some r) ∧ Aside0 (kq ≤ k) ∧ Drawn0 w w')
  case atStart => exact ⟨(0), (by first | rfl | (simp; done) | (simp [*]; done)), H', ⟨Nat.le_refl _⟩, by repeat (first | exact Drawn0.refl _ | apply Drawn0.step)⟩
  case round =>
    clear H'
    try clear c1
    try clear p2
    obtain ⟨x9_1, rfl, HA, HK1, ⟨m1, rfl⟩⟩ := hrel
    cases gk with
    | zero => exact absurd HA.out (by simp [impl_WordOk.l0])
    | succ k1 =>
      have H := HA.out
      clear HA
      simp only [impl_WordOk.l0] at H
      by_cases c3 : x9_1 < (l1.length : Int)
      · rw [if_pos c3] at H
        have c3b0 : decide (x9_1 < (l1.length : Int)) = true := decide_eq_true c3
        clear c3
        by_cases c4 : 0 ≤ x9_1
        · rw [if_pos c4] at H
          have c4b0 : decide (0 ≤ x9_1) = true := decide_eq_true c4
          clear c4
          by_cases c5 : x9_1 < (l1.length : Int)
          · rw [if_pos c5] at H
            have c5b0 : decide (x9_1 < (l1.length : Int)) = true := decide_eq_true c5
            clear c5
            by_cases c6 : (rd l1 x9_1) < 0
            · rw [if_pos c6] at H
              have c6b0 : decide ((rd l1 x9_1) < 0) = true := decide_eq_true c6
              clear c6
              obtain rfl := Option.some.inj H
              have p183 : 0 ≤ (x9_1 : Int) := of_decide_eq_true (by first | (with_reducible assumption) | assumption)
              have q183 : x9_1 < (l1.length : Int) := of_decide_eq_true (by first | (with_reducible assumption) | assumption)
              obtain ⟨ad183, e183, hx183_0⟩ := Kd.at_int HR1.out x9_1 p183 q183
              cases e183
              replace p183 := eq_true p183
              replace q183 := eq_true q183
              go_wp2
              go_ret
              exact ⟨by first | rfl | (simp; done) | (simp [*]; done), by repeat (first | exact Drawn0.refl _ | apply Drawn0.step)⟩
            · rw [if_neg c6] at H
              have c6b0 : decide ((rd l1 x9_1) < 0) = false := decide_eq_false c6
              clear c6
              by_cases c7 : (rd l1 x9_1) ≥ a0
              · rw [if_pos c7] at H
                have c7b0 : decide (a0 ≤ (rd l1 x9_1)) = true := decide_eq_true c7
                clear c7
                obtain rfl := Option.some.inj H
                have p183 : 0 ≤ (x9_1 : Int) := of_decide_eq_true (by first | (with_reducible assumption) | assumption)
                have q183 : x9_1 < (l1.length : Int) := of_decide_eq_true (by first | (with_reducible assumption) | assumption)
                obtain ⟨ad183, e183, hx183_0⟩ := Kd.at_int HR1.out x9_1 p183 q183
                cases e183
                replace p183 := eq_true p183
                replace q183 := eq_true q183
                go_wp2
                go_ret
                exact ⟨by first | rfl | (simp; done) | (simp [*]; done), by repeat (first | exact Drawn0.refl _ | apply Drawn0.step)⟩
              · rw [if_neg c7] at H
                have c7b0 : decide (a0 ≤ (rd l1 x9_1)) = false := decide_eq_false c7
                clear c7
                have H' := Aside0.mk H
                clear H
                have p183 : 0 ≤ (x9_1 : Int) := of_decide_eq_true (by first | (with_reducible assumption) | assumption)
                have q183 : x9_1 < (l1.length : Int) := of_decide_eq_true (by first | (with_reducible assumption) | assumption)
                obtain ⟨ad183, e183, hx183_0⟩ := Kd.at_int HR1.out x9_1 p183 q183
                cases e183
                replace p183 := eq_true p183
                replace q183 := eq_true q183
                go_wp2
                go_roundg k1
                case measure => have := HK1.out; omega
                case rel => exact ⟨(wrap64 (x9_1 + 1)), (by first | rfl | (simp; done) | (simp [*]; done)), H', ⟨by have := HK1.out; omega⟩, by repeat (first | exact Drawn0.refl _ | apply Drawn0.step)⟩
          · rw [if_neg c5] at H
            exact absurd H (by simp)
        · rw [if_neg c4] at H
          exact absurd H (by simp)
      · rw [if_neg c3] at H
        have c3b0 : decide (x9_1 < (l1.length : Int)) = false := decide_eq_false c3
        clear c3
        replace H := Option.bind_eq_some_iff.mp H
        obtain ⟨t184, A80, H⟩ := H
        replace H : (if t184 = true then (some (decide ((l1.length : Int) ≤ 6))) else (some false)) = some r := H
        have A8 := Aside0.mk A80
        clear A80
        by_cases c9 : t184 = true
        · subst c9
          have H1 : (some (decide ((l1.length : Int) ≤ 6))) = some r := by rw [if_pos rfl] at H; exact H
          clear H
          have H := H1
          clear H1
          obtain rfl := Option.some.inj H
          go_wp2_with (first | ((with_reducible refine gate_callee (f := 65) rfl ?_); refine goesL_ (some 22) rfl rfl Try.func65 (by kernel_rfl) rfl #[.int .i64 a0] rfl (by (try simp only [List.map_toArray, List.map_cons, List.map_nil]); first | done | rfl | (simp only [List.length_drop, List.length_take]; rfl)) ?_; (with_reducible refine (impl_coloursOk.calls a0 true _ A8.out).mono ?_); rintro e w' ⟨rfl, ⟨nd, rfl⟩⟩; refine ⟨_, rfl, ?_⟩))
          go_ret
          exact ⟨by first | rfl | (simp; done) | (simp [*]; done), by repeat (first | exact Drawn0.refl _ | apply Drawn0.step)⟩
        · replace c9 := Bool.eq_false_iff.mpr c9
          subst c9
          have H1 : (some false) = some r := by rw [if_neg (show ¬ (false = true) by decide)] at H; exact H
          clear H
          have H := H1
          clear H1
          obtain rfl := Option.some.inj H
          go_wp2_with (first | ((with_reducible refine gate_callee (f := 65) rfl ?_); refine goesL_ (some 22) rfl rfl Try.func65 (by kernel_rfl) rfl #[.int .i64 a0] rfl (by (try simp only [List.map_toArray, List.map_cons, List.map_nil]); first | done | rfl | (simp only [List.length_drop, List.length_take]; rfl)) ?_; (with_reducible refine (impl_coloursOk.calls a0 false _ A8.out).mono ?_); rintro e w' ⟨rfl, ⟨nd, rfl⟩⟩; refine ⟨_, rfl, ?_⟩))
          go_ret
          exact ⟨by first | rfl | (simp; done) | (simp [*]; done), by repeat (first | exact Drawn0.refl _ | apply Drawn0.step)⟩

/-! ### impl_CountsOf: function 46 -/
def impl_CountsOf.l0 : Nat → List Int → List Int → Int → Int → Option (List Int)
  | 0, _, _, _, _ => none
  | k + 1, x5, x14, x15, x16 => if x16 < x15 then (if 0 ≤ x16 then (if x16 < (x14.length : Int) then (if 0 ≤ (rd x14 x16) then (if (rd x14 x16) < (x5.length : Int) then (impl_CountsOf.l0 k (x5.set ((rd x14 x16) : Int).toNat (wrap64 ((rd x5 (rd x14 x16)) + 1))) x14 x15 (wrap64 (x16 + 1))) else (none)) else (none)) else (none)) else (none)) else (some x5)
def impl_CountsOf.f (k : Nat) (a0 : Int) (l1 : List Int) : Option (List Int) := (impl_WordOk.f k a0 l1).bind fun t185 => (if t185 = true then (if 0 ≤ a0 then (if (a0 : Int).toNat ≤ 35184372088832 then (impl_CountsOf.l0 k (List.replicate (a0 : Int).toNat 0) l1 (l1.length : Int) 0) else (none)) else (none)) else (some ([] : List Int)))
theorem impl_CountsOf.mono_l : ∀ k, (∀ y0 y1 y2 y3, LeO (impl_CountsOf.l0 k y0 y1 y2 y3) (impl_CountsOf.l0 (k + 1) y0 y1 y2 y3))
  | 0 => fun _ _ _ _ r h => by simp [impl_CountsOf.l0] at h
  | k + 1 => by
    have ih0 := impl_CountsOf.mono_l k
    · intro y0 y1 y2 y3
      unfold impl_CountsOf.l0
      repeat' first
      | (with_reducible exact ih0 _ _ _ _)
      | (with_reducible exact impl_WordOk.mono _ _ _)
      | (with_reducible exact LeO.refl _)
      | (with_reducible exact LeO.none _)
      | (with_reducible refine LeO.ite ?_ ?_)
      | (with_reducible refine LeO.bind ?_ (fun _ => ?_))
      | exact ih0 _ _ _ _
      | exact impl_WordOk.mono _ _ _
      | exact LeO.none _
      | refine LeO.ite ?_ ?_
      | refine LeO.bind ?_ (fun _ => ?_)
theorem impl_CountsOf.mono : ∀ a0 a1 k, LeO (impl_CountsOf.f k a0 a1) (impl_CountsOf.f (k + 1) a0 a1) := by
  intro a0 a1 k
  have ih0 := impl_CountsOf.mono_l k
  unfold impl_CountsOf.f
  repeat' first
      | (with_reducible exact ih0 _ _ _ _)
      | (with_reducible exact impl_WordOk.mono _ _ _)
      | (with_reducible exact LeO.refl _)
      | (with_reducible exact LeO.none _)
      | (with_reducible refine LeO.ite ?_ ?_)
      | (with_reducible refine LeO.bind ?_ (fun _ => ?_))
      | exact ih0 _ _ _ _
      | exact impl_WordOk.mono _ _ _
      | exact LeO.none _
      | refine LeO.ite ?_ ?_
      | refine LeO.bind ?_ (fun _ => ?_)
set_option maxHeartbeats 8000000 in
set_option maxRecDepth 100000 in
theorem impl_CountsOf.calls (k : Nat) (a0 : Int) (A1 : Option Addr) (c1 : Nat) (l1 : List Int) (r : List Int) (w : World) (hr1 : Kd.C (Kd.int .i64) w A1 l1.length l1) (hc1 : l1.length ≤ c1) (h : impl_CountsOf.f k a0 l1 = some r) :
    Calls Try.prog 46 #[.int .i64 a0, .slice A1 l1.length c1] w fun e w' => ∃ v0_ : Value, e = .returned (v0_) ∧ Kd.R (Kd.int .i64) 3 w' w.heap.size (fun _ => True) v0_ r ∧ Below w.heap.size w w' := by
  have HR1 := Aside0.mk hr1
  have HC1 := Aside0.mk hc1
  clear hr1 hc1
  have HB := Aside0.mk (Below.refl w.heap.size w)
  have H : ((impl_WordOk.f k a0 l1).bind fun t185 => (if t185 = true then (if 0 ≤ a0 then (if (a0 : Int).toNat ≤ 35184372088832 then (impl_CountsOf.l0 k (List.replicate (a0 : Int).toNat 0) l1 (l1.length : Int) 0) else (none)) else (none)) else (some ([] : List Int)))) = some r := h
  clear h
  replace H := Option.bind_eq_some_iff.mp H
  obtain ⟨t185, A30, H⟩ := H
  replace H : (if t185 = true then (if 0 ≤ a0 then (if (a0 : Int).toNat ≤ 35184372088832 then (impl_CountsOf.l0 k (List.replicate (a0 : Int).toNat 0) l1 (l1.length : Int) 0) else (none)) else (none)) else (some ([] : List Int))) = some r := H
  have A3 := Aside0.mk A30
  clear A30
  by_cases c4 : t185 = true
  · subst c4
    have H1 : (if 0 ≤ a0 then (if (a0 : Int).toNat ≤ 35184372088832 then (impl_CountsOf.l0 k (List.replicate (a0 : Int).toNat 0) l1 (l1.length : Int) 0) else (none)) else (none)) = some r := by rw [if_pos rfl] at H; exact H
    clear H
    have H := H1
    clear H1
    by_cases c5 : 0 ≤ a0
    · rw [if_pos c5] at H
      have c5b0 := eq_true c5
      have c5b1 : decide (0 ≤ a0) = true := decide_eq_true c5
      clear c5
      by_cases c6 : (a0 : Int).toNat ≤ 35184372088832
      · rw [if_pos c6] at H
        have c6b0 := eq_true c6
        have c6b1 : decide ((a0 : Int).toNat ≤ 35184372088832) = true := decide_eq_true c6
        clear c6
        obtain ⟨y186, hy186⟩ : ∃ y_ : List Int, y_ = (List.replicate (a0 : Int).toNat 0) := ⟨_, rfl⟩
        replace H : (impl_CountsOf.l0 k y186 l1 (l1.length : Int) 0) = some r := by first | (rw [hy186]; with_reducible exact H) | (have H2_ := (Option.bind_some _ _).symm.trans H; rw [hy186]; with_reducible exact H2_) | (have H2_ := (Option.bind_some _ _).symm.trans H; with_reducible exact H2_) | with_reducible exact H | (rw [hy186]; exact H) | exact H
        have Ny186 := Aside0.mk hy186
        clear hy186
        have H' := Aside0.mk H
        clear H
        go_enter Try.func46, Try.ntmps46
        go_wp2_with (first | ((with_reducible refine gate_callee (f := 68) rfl ?_); refine goesL_ (some 10) rfl rfl Try.func68 (by kernel_rfl) rfl #[.int .i64 a0, .slice A1 l1.length c1] rfl (by (try simp only [List.map_toArray, List.map_cons, List.map_nil]); first | done | rfl | (simp only [List.length_drop, List.length_take]; rfl)) ?_; (with_reducible refine (impl_WordOk.calls k a0 _ _ l1 true _ ?side1 ?side2 A3.out).mono ?_); (case side1 => repeat (first | exact HR1.out | (with_reducible refine Kd.C_alloc ?_ _) | (with_reducible refine Kd.C_drewN ?_ _) | (with_reducible refine Kd.C_drew ?_))); (case side2 => exact HC1.out); rintro e w' ⟨rfl, ⟨nd, rfl⟩⟩; refine ⟨_, rfl, ?_⟩) | ((with_reducible refine gate_dst (N := 13) rfl ?_); refine Kd.R_make (Kd.int .i64) _ 3 rfl (N := 13) rfl 23 _ _ rfl a0 rfl rfl Try.underlying23 (.int .i64 0) 8 info3 rfl (by decide) (by omega) 0 (ok := fun _ => True) (okp := fun _ => True) rfl (fun _ hk => hk) trivial (of_decide_eq_true (by first | (with_reducible assumption) | assumption)) (Nat.le_trans (Nat.mul_le_mul_right _ (of_decide_eq_true (by first | (with_reducible assumption) | assumption) : a0.toNat ≤ 35184372088832)) (by omega)) (Below.refl _ _) (Nat.le_refl _) ?_; intro v187 w7 ho8 hb hg_ hnew_; clear hg_ hnew_; (first | rw [← Ny186.out] at ho8 | (simp only [Int.reduceToNat] at ho8; rw [← Ny186.out] at ho8)); have n0_ := Aside0.mk (Kd.R_lower ho8 (below_size (by repeat (first | (with_reducible first | exact HB.out | apply below_alloc | apply pw_below_drewN | apply below_drew1) | exact HB.out)))); have n1_ := Aside0.mk (below_step (by repeat (first | (with_reducible first | exact HB.out | apply below_alloc | apply pw_below_drewN | apply below_drew1) | exact HB.out)) hb); clear HB; have HO188 := n0_; have HB := n1_; clear n0_ n1_; clear hb ho8))
        go_loopg [16] k (fun kq v16 w' => ∃ (x5_1 : List Int) (x16_1 : Int), v16 = .int .i64 x16_1 ∧ Aside0 (impl_CountsOf.l0 kq x5_1 l1 (l1.length : Int) x16_1 = some r) ∧ Aside0 (kq ≤ k) ∧ Aside0 (Kd.R (Kd.int .i64) 3 w' w.heap.size (fun _ => True) v187 x5_1) ∧ Aside0 (Below w.heap.size w w'))
        case atStart => exact ⟨(y186), (0), (by first | rfl | (simp; done) | (simp [*]; done)), H', ⟨Nat.le_refl _⟩, ⟨by (with_reducible repeat (first | apply Kd.R_alloc | apply Kd.R_drewN | apply Kd.R_drew)); exact HO188.out⟩, ⟨by repeat (first | (with_reducible first | exact HB.out | apply below_alloc | apply pw_below_drewN | apply below_drew1) | exact HB.out)⟩⟩
        case round =>
          clear H'
          try clear c1
          try clear p2
          try clear c4
          try clear c5
          try clear c5b0
          try clear c5b1
          try clear c6
          try clear c6b0
          try clear c6b1
          obtain ⟨x5_1, x16_1, rfl, HA, HK1, HO_5, HB⟩ := hrel
          cases gk with
          | zero => exact absurd HA.out (by simp [impl_CountsOf.l0])
          | succ k1 =>
            have H := HA.out
            clear HA
            simp only [impl_CountsOf.l0] at H
            by_cases c9 : x16_1 < (l1.length : Int)
            · rw [if_pos c9] at H
              have c9b0 : decide (x16_1 < (l1.length : Int)) = true := decide_eq_true c9
              clear c9
              by_cases c10 : 0 ≤ x16_1
              · rw [if_pos c10] at H
                have c10b0 : decide (0 ≤ x16_1) = true := decide_eq_true c10
                clear c10
                by_cases c11 : x16_1 < (l1.length : Int)
                · rw [if_pos c11] at H
                  have c11b0 : decide (x16_1 < (l1.length : Int)) = true := decide_eq_true c11
                  clear c11
                  by_cases c12 : 0 ≤ (rd l1 x16_1)
                  · rw [if_pos c12] at H
                    have c12b0 : decide (0 ≤ (rd l1 x16_1)) = true := decide_eq_true c12
                    clear c12
                    by_cases c13 : (rd l1 x16_1) < (x5_1.length : Int)
                    · rw [if_pos c13] at H
                      have c13b0 : decide ((rd l1 x16_1) < (x5_1.length : Int)) = true := decide_eq_true c13
                      clear c13
                      obtain ⟨y191, hy191⟩ : ∃ y_ : List Int, y_ = (x5_1.set ((rd l1 x16_1) : Int).toNat (wrap64 ((rd x5_1 (rd l1 x16_1)) + 1))) := ⟨_, rfl⟩
                      replace H : (impl_CountsOf.l0 k1 y191 l1 (l1.length : Int) (wrap64 (x16_1 + 1))) = some r := by first | (rw [hy191]; with_reducible exact H) | (have H2_ := (Option.bind_some _ _).symm.trans H; rw [hy191]; with_reducible exact H2_) | (have H2_ := (Option.bind_some _ _).symm.trans H; with_reducible exact H2_) | with_reducible exact H | (rw [hy191]; exact H) | exact H
                      have Ny191 := Aside0.mk hy191
                      clear hy191
                      have H' := Aside0.mk H
                      clear H
                      have p189 : 0 ≤ (x16_1 : Int) := of_decide_eq_true (by first | (with_reducible assumption) | assumption)
                      have q189 : x16_1 < (l1.length : Int) := of_decide_eq_true (by first | (with_reducible assumption) | assumption)
                      obtain ⟨ad189, e189, hx189_0⟩ := Kd.at_int HR1.out x16_1 p189 q189
                      cases e189
                      replace hx189_0 := (HB.out.cell (World.block_lt_of_cell? w _ hx189_0)).trans hx189_0
                      replace p189 := eq_true p189
                      replace q189 := eq_true q189
                      obtain ⟨Ao15, co15, eo15⟩ := Kd.R_slice HO_5.out
                      subst eo15
                      have p190 : 0 ≤ ((rd l1 x16_1) : Int) := of_decide_eq_true (by first | (with_reducible assumption) | assumption)
                      have q190 : (rd l1 x16_1) < (x5_1.length : Int) := of_decide_eq_true (by first | (with_reducible assumption) | assumption)
                      obtain ⟨ad190, e190, hx190_0⟩ := Kd.at_int (Kd.R_reads' HO_5.out).2.2 (rd l1 x16_1) p190 q190
                      cases e190
                      replace p190 := eq_true p190
                      replace q190 := eq_true q190
                      have p14 : 0 ≤ ((rd l1 x16_1) : Int) := of_decide_eq_true (by first | (with_reducible assumption) | assumption)
                      have q14 : ((rd l1 x16_1) : Int) < ((x5_1.length : Int) : Int) := of_decide_eq_true (by first | (with_reducible assumption) | assumption)
                      obtain ⟨go14, co14, eo14, gb14, gl14, cl14, HG14⟩ := Kd.R_form HO_5.out (by omega)
                      (first | cases eo14 | (injection eo14 with ea_ en_ ec_; (first | subst ea_ | (injection ea_ with ea_; subst ea_)); subst ec_; clear en_))
                      have GB14 := Aside0.mk gb14
                      have GG14 := Aside0.mk HG14
                      clear gb14 gl14 HG14
                      (first | simp only [add_plain] at hx190_0 | skip)
                      obtain ⟨hx14_0, hf14_0⟩ := Kd.R_celln 0 HO_5.out ((rd l1 x16_1) : Int) p14 q14
                      replace p14 := eq_true p14
                      replace q14 := eq_true q14
                      have HP16 := Kd.R_putg HO_5.out ((rd l1 x16_1) : Int) (wrap64 ((rd x5_1 (rd l1 x16_1)) + 1))
                      go_wp2_with (first | ((with_reducible refine gate_store (t := 3) (p := 25) rfl ?_); refine store_event (t := 3) (p := 25) (v := ?vo_w17) (w1 := (wr.setCell ⟨go14, ((rd l1 x16_1) : Int).toNat, none⟩ (.int .i64 (wrap64 ((rd x5_1 (rd l1 x16_1)) + 1))))) ?hg ?ho ?hn ?hr ?_; (case ho => rfl); (case hg => rfl); (case hn => rfl); (case hr => first | (go_simp; done) | (go_simp; rfl)); intro w17 hw; have hg : wr.grownBy w17 (some go14) := (by rw [hw]; exact HP16.2); have hp_ : Kd.R (Kd.int .i64) 3 w17 w.heap.size (fun _ => True) (.slice (some ⟨go14, 0, none⟩) x5_1.length co15) y191 := (by rw [hw, Ny191.out]; exact HP16.1); clear HP16; have n0_ := Aside0.mk (hp_); have n1_ := Aside0.mk ((by rw [hw]; exact below_set (HB.out) GB14.out : Below w.heap.size w w17)); clear HO_5; clear HB; have HO_5 := n0_; have HB := n1_; clear n0_ n1_; clear hg hw hp_))
                      go_roundg k1
                      case measure => have := HK1.out; omega
                      case rel => exact ⟨(y191), (wrap64 (x16_1 + 1)), (by first | rfl | (simp; done) | (simp [*]; done)), H', ⟨by have := HK1.out; omega⟩, ⟨by (with_reducible repeat (first | apply Kd.R_alloc | apply Kd.R_drewN | apply Kd.R_drew)); exact HO_5.out⟩, ⟨by repeat (first | (with_reducible first | exact HB.out | apply below_alloc | apply pw_below_drewN | apply below_drew1) | exact HB.out)⟩⟩
                    · rw [if_neg c13] at H
                      exact absurd H (by simp)
                  · rw [if_neg c12] at H
                    exact absurd H (by simp)
                · rw [if_neg c11] at H
                  exact absurd H (by simp)
              · rw [if_neg c10] at H
                exact absurd H (by simp)
            · rw [if_neg c9] at H
              have c9b0 : decide (x16_1 < (l1.length : Int)) = false := decide_eq_false c9
              clear c9
              obtain rfl := Option.some.inj H
              go_wp2
              go_ret
              exact ⟨_, by first | rfl | (simp [errW_none, errW_some] <;> rfl) | (simp [*, errW_none, errW_some] <;> rfl), by (with_reducible repeat (first | apply Kd.R_alloc | apply Kd.R_drewN | apply Kd.R_drew)); exact HO_5.out, by repeat (first | (with_reducible first | exact HB.out | apply below_alloc | apply pw_below_drewN | apply below_drew1) | exact HB.out)⟩
      · rw [if_neg c6] at H
        exact absurd H (by simp)
    · rw [if_neg c5] at H
      exact absurd H (by simp)
  · replace c4 := Bool.eq_false_iff.mpr c4
    subst c4
    have H1 : (some ([] : List Int)) = some r := by rw [if_neg (show ¬ (false = true) by decide)] at H; exact H
    clear H
    have H := H1
    clear H1
    obtain rfl := Option.some.inj H
    go_enter Try.func46, Try.ntmps46
    go_wp2_with (first | ((with_reducible refine gate_callee (f := 68) rfl ?_); refine goesL_ (some 10) rfl rfl Try.func68 (by kernel_rfl) rfl #[.int .i64 a0, .slice A1 l1.length c1] rfl (by (try simp only [List.map_toArray, List.map_cons, List.map_nil]); first | done | rfl | (simp only [List.length_drop, List.length_take]; rfl)) ?_; (with_reducible refine (impl_WordOk.calls k a0 _ _ l1 false _ ?side1 ?side2 A3.out).mono ?_); (case side1 => repeat (first | exact HR1.out | (with_reducible refine Kd.C_alloc ?_ _) | (with_reducible refine Kd.C_drewN ?_ _) | (with_reducible refine Kd.C_drew ?_))); (case side2 => exact HC1.out); rintro e w' ⟨rfl, ⟨nd, rfl⟩⟩; refine ⟨_, rfl, ?_⟩))
    go_ret
    exact ⟨_, by first | rfl | (simp [errW_none, errW_some] <;> rfl) | (simp [*, errW_none, errW_some] <;> rfl), by first | exact Kd.R_nil _ _ _ _ _ | exact Kd.N_nil _ _ _ _ _ | exact Kd.V_nil _ _ _ _ _ | exact Kd.Q_nil _ _ _ _ _ | exact Kd.S_nil _ _ _ _ _, by repeat (first | (with_reducible first | exact HB.out | apply below_alloc | apply pw_below_drewN | apply below_drew1) | exact HB.out)⟩

/-! ### slices_Equal_int_int: function 87 -/
def slices_Equal_int_int.l0 : Nat → List Int → List Int → Int → Int → Option (Bool)
  | 0, _, _, _, _ => none
  | k + 1, x0, x1, x12, x13 => if x13 < x12 then (if 0 ≤ x13 then (if x13 < (x0.length : Int) then (if x13 < (x1.length : Int) then (if (rd x0 x13) = (rd x1 x13) then (slices_Equal_int_int.l0 k x0 x1 x12 (wrap64 (x13 + 1))) else (some false)) else (none)) else (none)) else (none)) else (some true)
def slices_Equal_int_int.f (k : Nat) (l0 : List Int) (l1 : List Int) : Option (Bool) := if (l0.length : Int) = (l1.length : Int) then (slices_Equal_int_int.l0 k l0 l1 (l0.length : Int) 0) else (some false)
theorem slices_Equal_int_int.mono_l : ∀ k, (∀ y0 y1 y2 y3, LeO (slices_Equal_int_int.l0 k y0 y1 y2 y3) (slices_Equal_int_int.l0 (k + 1) y0 y1 y2 y3))
  | 0 => fun _ _ _ _ r h => by simp [slices_Equal_int_int.l0] at h
  | k + 1 => by
    have ih0 := slices_Equal_int_int.mono_l k
    · intro y0 y1 y2 y3
      unfold slices_Equal_int_int.l0
      repeat' first
      | (with_reducible exact ih0 _ _ _ _)
      | (with_reducible exact LeO.refl _)
      | (with_reducible exact LeO.none _)
      | (with_reducible refine LeO.ite ?_ ?_)
      | (with_reducible refine LeO.bind ?_ (fun _ => ?_))
      | exact ih0 _ _ _ _
      | exact LeO.none _
      | refine LeO.ite ?_ ?_
      | refine LeO.bind ?_ (fun _ => ?_)
theorem slices_Equal_int_int.mono : ∀ a0 a1 k, LeO (slices_Equal_int_int.f k a0 a1) (slices_Equal_int_int.f (k + 1) a0 a1) := by
  intro a0 a1 k
  have ih0 := slices_Equal_int_int.mono_l k
  unfold slices_Equal_int_int.f
  repeat' first
      | (with_reducible exact ih0 _ _ _ _)
      | (with_reducible exact LeO.refl _)
      | (with_reducible exact LeO.none _)
      | (with_reducible refine LeO.ite ?_ ?_)
      | (with_reducible refine LeO.bind ?_ (fun _ => ?_))
      | exact ih0 _ _ _ _
      | exact LeO.none _
      | refine LeO.ite ?_ ?_
      | refine LeO.bind ?_ (fun _ => ?_)
set_option maxHeartbeats 8000000 in
set_option maxRecDepth 100000 in
theorem slices_Equal_int_int.calls (k : Nat) (A0 : Option Addr) (c0 : Nat) (l0 : List Int) (A1 : Option Addr) (c1 : Nat) (l1 : List Int) (r : Bool) (w : World) (hr0 : Kd.C (Kd.int .i64) w A0 l0.length l0) (hc0 : l0.length ≤ c0) (hr1 : Kd.C (Kd.int .i64) w A1 l1.length l1) (hc1 : l1.length ≤ c1) (h : slices_Equal_int_int.f k l0 l1 = some r) :
    Calls Try.prog 87 #[.slice A0 l0.length c0, .slice A1 l1.length c1] w fun e w' => e = .returned (.bool r) ∧ Drawn0 w w' := by
  have HR0 := Aside0.mk hr0
  have HC0 := Aside0.mk hc0
  clear hr0 hc0
  have HR1 := Aside0.mk hr1
  have HC1 := Aside0.mk hc1
  clear hr1 hc1
  have H : (if (l0.length : Int) = (l1.length : Int) then (slices_Equal_int_int.l0 k l0 l1 (l0.length : Int) 0) else (some false)) = some r := h
  clear h
  by_cases c3 : (l0.length : Int) = (l1.length : Int)
  · rw [if_pos c3] at H
    have c3b0 : ((l0.length : Int) == (l1.length : Int)) = true := beq_iff_eq.mpr c3
    have c3b1 : ((l0.length : Int) != (l1.length : Int)) = false := bne_eq_false_iff_eq.mpr c3
    have c3b2 : (l0.length == l1.length) = true := by first | simpa using c3 | (simp at c3 ⊢; omega)
    clear c3
    have H' := Aside0.mk H
    clear H
    go_enter Try.func87, Try.ntmps87
    go_wp2
    repeat (go_quiet (fail); try go_wp2)
    go_loopg [13] k (fun kq v13 w' => ∃ (x13_1 : Int), v13 = .int .i64 x13_1 ∧ Aside0 (slices_Equal_int_int.l0 kq l0 l1 (l0.length : Int) x13_1 = some r) ∧ Aside0 (kq ≤ k) ∧ Drawn0 w w')
    case atStart => exact ⟨(0), (by first | rfl | (simp; done) | (simp [*]; done)), H', ⟨Nat.le_refl _⟩, by repeat (first | exact Drawn0.refl _ | apply Drawn0.step)⟩
    case round =>
      clear H'
      try clear c1
      try clear p2
      try clear c3
      try clear c3b0
      try clear c3b1
      try clear c3b2
      obtain ⟨x13_1, rfl, HA, HK1, ⟨m1, rfl⟩⟩ := hrel
      cases gk with
      | zero => exact absurd HA.out (by simp [slices_Equal_int_int.l0])
      | succ k1 =>
        have H := HA.out
        clear HA
        simp only [slices_Equal_int_int.l0] at H
        by_cases c4 : x13_1 < (l0.length : Int)
        · rw [if_pos c4] at H
          have c4b0 : decide (x13_1 < (l0.length : Int)) = true := decide_eq_true c4
          clear c4
          by_cases c5 : 0 ≤ x13_1
          · rw [if_pos c5] at H
            have c5b0 : decide (0 ≤ x13_1) = true := decide_eq_true c5
            clear c5
            by_cases c6 : x13_1 < (l0.length : Int)
            · rw [if_pos c6] at H
              have c6b0 : decide (x13_1 < (l0.length : Int)) = true := decide_eq_true c6
              clear c6
              by_cases c7 : x13_1 < (l1.length : Int)
              · rw [if_pos c7] at H
                have c7b0 : decide (x13_1 < (l1.length : Int)) = true := decide_eq_true c7
                clear c7
                by_cases c8 : (rd l0 x13_1) = (rd l1 x13_1)
                · rw [if_pos c8] at H
                  have c8b0 : ((rd l0 x13_1) == (rd l1 x13_1)) = true := beq_iff_eq.mpr c8
                  have c8b1 : ((rd l0 x13_1) != (rd l1 x13_1)) = false := bne_eq_false_iff_eq.mpr c8
                  clear c8
                  have H' := Aside0.mk H
                  clear H
                  have p192 : 0 ≤ (x13_1 : Int) := of_decide_eq_true (by first | (with_reducible assumption) | assumption)
                  have q192 : x13_1 < (l0.length : Int) := of_decide_eq_true (by first | (with_reducible assumption) | assumption)
                  obtain ⟨ad192, e192, hx192_0⟩ := Kd.at_int HR0.out x13_1 p192 q192
                  cases e192
                  replace p192 := eq_true p192
                  replace q192 := eq_true q192
                  have p193 : 0 ≤ (x13_1 : Int) := of_decide_eq_true (by first | (with_reducible assumption) | assumption)
                  have q193 : x13_1 < (l1.length : Int) := of_decide_eq_true (by first | (with_reducible assumption) | assumption)
                  obtain ⟨ad193, e193, hx193_0⟩ := Kd.at_int HR1.out x13_1 p193 q193
                  cases e193
                  replace p193 := eq_true p193
                  replace q193 := eq_true q193
                  go_wp2
                  repeat (go_quiet (fail); try go_wp2)
                  go_roundg k1
                  case measure => have := HK1.out; omega
                  case rel => exact ⟨(wrap64 (x13_1 + 1)), (by first | rfl | (simp; done) | (simp [*]; done)), H', ⟨by have := HK1.out; omega⟩, by repeat (first | exact Drawn0.refl _ | apply Drawn0.step)⟩
                · rw [if_neg c8] at H
                  have c8b0 : ((rd l0 x13_1) == (rd l1 x13_1)) = false := beq_eq_false_iff_ne.mpr c8
                  have c8b1 : ((rd l0 x13_1) != (rd l1 x13_1)) = true := bne_iff_ne.mpr c8
                  obtain rfl := Option.some.inj H
                  have p192 : 0 ≤ (x13_1 : Int) := of_decide_eq_true (by first | (with_reducible assumption) | assumption)
                  have q192 : x13_1 < (l0.length : Int) := of_decide_eq_true (by first | (with_reducible assumption) | assumption)
                  obtain ⟨ad192, e192, hx192_0⟩ := Kd.at_int HR0.out x13_1 p192 q192
                  cases e192
                  replace p192 := eq_true p192
                  replace q192 := eq_true q192
                  have p193 : 0 ≤ (x13_1 : Int) := of_decide_eq_true (by first | (with_reducible assumption) | assumption)
                  have q193 : x13_1 < (l1.length : Int) := of_decide_eq_true (by first | (with_reducible assumption) | assumption)
                  obtain ⟨ad193, e193, hx193_0⟩ := Kd.at_int HR1.out x13_1 p193 q193
                  cases e193
                  replace p193 := eq_true p193
                  replace q193 := eq_true q193
                  go_wp2
                  repeat (go_quiet (fail); try go_wp2)
                  go_ret
                  exact ⟨by first | rfl | (simp; done) | (simp [*]; done), by repeat (first | exact Drawn0.refl _ | apply Drawn0.step)⟩
              · rw [if_neg c7] at H
                exact absurd H (by simp)
            · rw [if_neg c6] at H
              exact absurd H (by simp)
          · rw [if_neg c5] at H
            exact absurd H (by simp)
        · rw [if_neg c4] at H
          have c4b0 : decide (x13_1 < (l0.length : Int)) = false := decide_eq_false c4
          clear c4
          obtain rfl := Option.some.inj H
          go_wp2
          repeat (go_quiet (fail); try go_wp2)
          go_ret
          exact ⟨by first | rfl | (simp; done) | (simp [*]; done), by repeat (first | exact Drawn0.refl _ | apply Drawn0.step)⟩
  · rw [if_neg c3] at H
    have c3b0 : ((l0.length : Int) == (l1.length : Int)) = false := beq_eq_false_iff_ne.mpr c3
    have c3b1 : ((l0.length : Int) != (l1.length : Int)) = true := bne_iff_ne.mpr c3
    have c3b2 : (l0.length == l1.length) = false := by first | simpa using c3 | (simp at c3 ⊢; omega)
    obtain rfl := Option.some.inj H
    go_enter Try.func87, Try.ntmps87
    go_wp2
    repeat (go_quiet (fail); try go_wp2)
    go_ret
    exact ⟨by first | rfl | (simp; done) | (simp [*]; done), by repeat (first | exact Drawn0.refl _ | apply Drawn0.step)⟩

-- NOT PRINTED: function 86 (impl_wordsWith_1)

end Go.Proofs.Ythpjeinjldfmjaa.QFnSameAll
