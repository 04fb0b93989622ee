/- What the functions that the law FnUnknownUrn reaches come to, each with its proof; and the row of the law. -/
import Derived.Test.YthpjeinjldfmjaaQFnUnknownUrnx0
import Derived.Test.YthpjeinjldfmjaaQFnUnknownUrnx2
namespace Go.Proofs.Ythpjeinjldfmjaa.QFnUnknownUrn
open Go.RowKit Go.Proofs.YthpjeinjldfmjaaW.PrintWords Go.Proofs.YthpjeinjldfmjaaW.PrintLast Go.Proofs.YthpjeinjldfmjaaW.PrintMore
attribute [local go_sem] max2_int min2_int max_two min_two max_three min_three max_four min_four   -- for this text's walks alone
set_option linter.unusedVariables false
set_option linter.unusedSimpArgs false


/-- All words of m draws of c colours, the first place slowest. -/
def allW (c : Nat) : Nat → List (List Int)
  | 0 => [[]]
  | m + 1 => (List.range c).flatMap fun (x : Nat) => (allW c m).map fun t => (x : Int) :: t
/-- A number that is told one word after the other. -/
def tellAll (f : Int → List Int → Option Int) : Int → List (List Int) → Option Int
  | a, [] => some a
  | a, q :: qs => (f a q).bind fun a' => tellAll f a' qs
theorem tellAll_append (f : Int → List Int → Option Int) (xs ys : List (List Int)) : ∀ a, tellAll f a (xs ++ ys) = (tellAll f a xs).bind fun a' => tellAll f a' ys := by
  induction xs with
  | nil => intro a; rfl
  | cons q qs ih =>
    intro a
    show (f a q).bind _ = ((f a q).bind _).bind _
    cases f a q with
    | none => rfl
    | some a' => exact ih a'

/-- The world is as it was but for one block of w's (and what is new). -/
structure Stay (w W : World) (g : Nat) : Prop where
  os : W.os = w.os
  tape : W.tape = w.tape
  output : W.output = w.output
  size : w.heap.size ≤ W.heap.size
  block : ∀ i, i < w.heap.size → i ≠ g → W.heap[i]? = w.heap[i]?
theorem Stay.refl (w : World) (g : Nat) : Stay w w g := ⟨rfl, rfl, rfl, Nat.le_refl _, fun _ _ _ => rfl⟩
theorem Stay.trans {w W V : World} {g : Nat} (h : Stay w W g) (k : Stay W V g) : Stay w V g :=
  ⟨k.os.trans h.os, k.tape.trans h.tape, k.output.trans h.output, Nat.le_trans h.size k.size, fun i hi hg => (k.block i (Nat.lt_of_lt_of_le hi h.size) hg).trans (h.block i hi hg)⟩
theorem Stay.below {w W V : World} {g : Nat} (h : Stay w W g) (k : Below W.heap.size W V) : Stay w V g :=
  h.trans ⟨k.os, k.tape, k.output, k.size, fun i hi _ => k.block i hi⟩
theorem Stay.far {w W : World} {g : Nat} (h : Stay w W g) (p : Addr) (u : Value) (hp : p.block = g ∨ w.heap.size ≤ p.block) : Stay w (W.setCell p u) g :=
  ⟨h.os, h.tape, h.output, by simpa [World.setCell] using h.size, fun i hi hg => (Below.heap_setCell W p u i (by omega)).trans (h.block i hi hg)⟩
theorem Stay.drewN {w W : World} {g : Nat} (h : Stay w W g) (m : Nat) : Stay w (W.drewN m) g := ⟨h.os, h.tape, h.output, h.size, h.block⟩
theorem Stay.keep {w W : World} {g k : Nat} {o : Obj} (h : Stay w W g) (hb : w.heap[k]? = some o) (hk : k ≠ g) : W.heap[k]? = some o := (h.block k (lt_of_block hb) hk).trans hb
theorem Stay.toBelow {w W V : World} {g : Nat} (h : Stay W V g) (k : Below w.heap.size w W) (hg : w.heap.size ≤ g) : Below w.heap.size w V :=
  k.trans ⟨h.os, h.tape, h.output, h.size, fun i hi => h.block i (Nat.lt_of_lt_of_le hi k.size) (by omega)⟩

/-- The number that is told stands in block g, the wordsRest is as it was. -/
structure Acc (w0 W : World) (g : Nat) (a : Int) : Prop where
  stay : Stay w0 W g
  now : W.heap[g]? = some (.cells #[.int .i64 a] 3 (0, 0))
/-- What is asked of the function that is told a word: it tells the number on, and turns nothing else. -/
def Tells (t : Nat) (lb : Array Value) (w0 : World) (g : Nat) (f : Int → List Int → Option Int) : Prop :=
  ∀ (W : World) (a a' : Int) (A : Option Addr) (c : Nat) (q : List Int), Acc w0 W g a → Kd.C (Kd.int .i64) W A q.length q → q.length ≤ c → f a q = some a' →
    Calls Try.prog t (#[.slice A q.length c] ++ lb) W fun e W' => e = .returned (.tuple #[]) ∧ Stay W W' g ∧ W'.heap[g]? = some (.cells #[.int .i64 a'] 3 (0, 0))

/-- The variables of a call of words. -/
structure Fr (W : World) (Bm Bt Bw Bc By G : Nat) (many colours : Nat) (t : Nat) (lb : Array Value) (A : Option Addr) (c : Nat) (p : List Int) : Prop where
  hm : W.heap[Bm]? = some (.cells #[.int .i64 (many : Int)] 3 (0, 0))
  ht : W.heap[Bt]? = some (.cells #[.func (.func t) #[] lb] 61 (0, 0))
  hw : W.heap[Bw]? = some (.cells #[.slice A p.length c] 23 (0, 0))
  hc : W.heap[Bc]? = some (.cells #[.int .i64 (colours : Int)] 3 (0, 0))
  hy : W.heap[By]? = some (.cells #[.func (.func 91) #[] #[.pointer (some ⟨Bm, 0, none⟩), .pointer (some ⟨Bt, 0, none⟩), .pointer (some ⟨Bw, 0, none⟩), .pointer (some ⟨Bc, 0, none⟩), .pointer (some ⟨By, 0, none⟩)]] 73 (0, 0))
  hr : Kd.R (Kd.int .i64) 3 W 0 (fun k => k = G) (.slice A p.length c) p
set_option maxHeartbeats 1000000 in
set_option maxRecDepth 100000 in
theorem try_end (w0 W : World) (g Bm Bt Bw Bc By G many colours t : Nat) (lb : Array Value) (f : Int → List Int → Option Int) (A : Option Addr) (c : Nat) (p : List Int) (a a' : Int)
    (eg : ∀ args w, (callFunc t args).run Try.prog w = .ok (.enter t args) w) (hT : Tells t lb w0 g f) (hF : Fr W Bm Bt Bw Bc By G many colours t lb A c p) (hp : p.length = many) (hA : Acc w0 W g a) (hf : f a p = some a') (hm : many ≤ 6) :
    Calls Try.prog 91 #[.int .i64 (many : Int), .pointer (some ⟨Bm, 0, none⟩), .pointer (some ⟨Bt, 0, none⟩), .pointer (some ⟨Bw, 0, none⟩), .pointer (some ⟨Bc, 0, none⟩), .pointer (some ⟨By, 0, none⟩)] W fun e W' =>
      e = .returned (.tuple #[]) ∧ Stay W W' g ∧ W'.heap[g]? = some (.cells #[.int .i64 a'] 3 (0, 0)) := by
  subst hp
  have cM := cell_of_one hF.hm
  have cT := cell_of_one hF.ht
  have cW := cell_of_one hF.hw
  have hc := Kd.R_reads' hF.hr
  have HC := Lib.hid hc
  clear hc
  have call := hT W a a' A c p hA HC.out.2.2 HC.out.2.1 hf
  have HF := Aside0.mk hF
  clear hF
  have HCall := Aside0.mk call
  clear call HC
  go_enter Try.func91, Try.ntmps91
  go_wp2_with (go_at_fn t; refine HCall.out.mono ?_; rintro e W' ⟨rfl, h1, h2⟩)
  exact bodyPost_ret (results_none rfl _ _ _) rfl ⟨rfl, h1, h2⟩
/-- Where the blocks of a call of words lie: behind w0's, each in its place. -/
structure Lay (w0 : World) (g Bm Bt Bw Bc By G : Nat) : Prop where
  lg : g < w0.heap.size
  lm : w0.heap.size ≤ Bm
  lt : w0.heap.size ≤ Bt
  lw : w0.heap.size ≤ Bw
  lc : w0.heap.size ≤ Bc
  ly : w0.heap.size ≤ By
  lG : w0.heap.size ≤ G
  nm : Bm ≠ G
  nt : Bt ≠ G
  nw : Bw ≠ G
  nc : Bc ≠ G
  ny : By ≠ G
theorem Fr.stay {w0 W V : World} {g Bm Bt Bw Bc By G many colours t : Nat} {lb : Array Value} {A : Option Addr} {c : Nat} {p : List Int} (h : Fr W Bm Bt Bw Bc By G many colours t lb A c p) (hL : Lay w0 g Bm Bt Bw Bc By G) (hs : Stay W V g) : Fr V Bm Bt Bw Bc By G many colours t lb A c p := by
  have := hL.lg
  have := hL.lm
  have := hL.lt
  have := hL.lw
  have := hL.lc
  have := hL.ly
  have := hL.lG
  exact ⟨hs.keep h.hm (by omega), hs.keep h.ht (by omega), hs.keep h.hw (by omega), hs.keep h.hc (by omega), hs.keep h.hy (by omega),
    Kd.R_step h.hr fun k hk hlt => hs.block k hlt (by omega)⟩
theorem Fr.put {w0 W : World} {g Bm Bt Bw Bc By G many colours t : Nat} {lb : Array Value} {c : Nat} {p : List Int} (h : Fr W Bm Bt Bw Bc By G many colours t lb (some ⟨G, 0, none⟩) c p) (hL : Lay w0 g Bm Bt Bw Bc By G) (i : Nat) (x : Int) :
    Fr (W.setCell ⟨G, i, none⟩ (.int .i64 x)) Bm Bt Bw Bc By G many colours t lb (some ⟨G, 0, none⟩) c (p.set i x) := by
  refine ⟨blk_far h.hm hL.nm _, blk_far h.ht hL.nt _, ?_, blk_far h.hc hL.nc _, blk_far h.hy hL.ny _, ?_⟩
  · rw [List.length_set]
    exact blk_far h.hw hL.nw _
  · rw [List.length_set]
    have := Kd.R_putn (i := (i : Int)) (x := x) h.hr
    rw [Int.toNat_natCast] at this
    exact this
theorem Acc.put {w0 W : World} {g Gp : Nat} {n : Int} (h : Acc w0 W g n) (hg : g ≠ Gp) (hG : w0.heap.size ≤ Gp) (i : Nat) (u : Value) : Acc w0 (W.setCell ⟨Gp, i, none⟩ u) g n :=
  ⟨h.stay.far ⟨Gp, i, none⟩ u (.inr hG), blk_far h.now hg u⟩

/-- The words that are still to come from colour x on. -/
def wordsRest (pre : List Int) (colours d x : Nat) : List (List Int) :=
  (List.range' x (colours - x)).flatMap fun (y : Nat) => (allW colours d).map fun s => pre ++ ((y : Int) :: s)
theorem wordsRest_zero (pre : List Int) (colours d : Nat) : (allW colours (d + 1)).map (pre ++ ·) = wordsRest pre colours d 0 := by
  simp only [wordsRest, allW, List.map_flatMap, List.map_map, Nat.sub_zero, List.range_eq_range']
  rfl
theorem wordsRest_step (pre : List Int) (colours d x : Nat) (h : x < colours) : wordsRest pre colours d x = ((allW colours d).map fun s => (pre ++ [(x : Int)]) ++ s) ++ wordsRest pre colours d (x + 1) := by
  obtain ⟨m, hm⟩ : ∃ m, colours - x = m + 1 := ⟨colours - x - 1, by omega⟩
  have hm' : colours - (x + 1) = m := by omega
  simp only [wordsRest, hm, hm', List.range'_succ, List.flatMap_cons, List.append_assoc, List.singleton_append]
theorem wordsRest_end (pre : List Int) (colours d : Nat) : wordsRest pre colours d colours = [] := by
  simp [wordsRest]
set_option maxHeartbeats 2000000 in
set_option maxRecDepth 100000 in
theorem try_any (w0 : World) (g Bm Bt Bw Bc By G n colours t : Nat) (lb : Array Value) (f : Int → List Int → Option Int) (A : Option Addr) (c : Nat)
    (eg : ∀ args w, (callFunc t args).run Try.prog w = .ok (.enter t args) w) (hT : Tells t lb w0 g f) (hL : Lay w0 g Bm Bt Bw Bc By G) (hn : n ≤ 6) (hcol : colours ≤ 3) (d : Nat) :
    ∀ (at_ : Nat) (W : World) (p : List Int) (a a' : Int), at_ + d = n → p.length = n → Fr W Bm Bt Bw Bc By G n colours t lb A c p → Acc w0 W g a → tellAll f a ((allW colours d).map (p.take at_ ++ ·)) = some a' →
    Calls Try.prog 91 #[.int .i64 (at_ : Int), .pointer (some ⟨Bm, 0, none⟩), .pointer (some ⟨Bt, 0, none⟩), .pointer (some ⟨Bw, 0, none⟩), .pointer (some ⟨Bc, 0, none⟩), .pointer (some ⟨By, 0, none⟩)] W fun e W' =>
      e = .returned (.tuple #[]) ∧ Acc w0 W' g a' ∧ ∃ p', Fr W' Bm Bt Bw Bc By G n colours t lb A c p' ∧ p'.length = n ∧ p'.take at_ = p.take at_ := by
  induction d with
  | zero =>
    intro at_ W p a a' hat hp hF hA hf
    have hat' : at_ = n := by omega
    subst hat'
    have hf' : f a p = some a' := by
      simp only [allW, List.map_cons, List.map_nil, tellAll, List.append_nil, List.take_of_length_le (Nat.le_of_eq hp)] at hf
      cases hq : f a p with
      | none => rw [hq] at hf; cases hf
      | some b => rw [hq] at hf; exact hf
    refine (try_end w0 W g Bm Bt Bw Bc By G at_ colours t lb f A c p a a' eg hT hF hp hA hf' hn).mono ?_
    rintro e W' ⟨rfl, h1, h2⟩
    exact ⟨rfl, ⟨hA.stay.trans h1, h2⟩, p, hF.stay hL h1, hp, rfl⟩
  | succ d ih =>
    intro at_ W p a a' hat hp hF hA hf
    rw [wordsRest_zero] at hf
    have hne : decide ((at_ : Int) = (n : Int)) = false := decide_eq_false (by omega)
    have hne2 : ((at_ : Int) == (n : Int)) = false := beq_eq_false_iff_ne.mpr (by omega)
    obtain ⟨cap, hAc⟩ : ∃ cap, A = some ⟨G, 0, none⟩ ∧ cap = c := by
      refine ⟨c, ?_, rfl⟩
      obtain ⟨inner, ho⟩ := Kd.R_own hF.hr
      rcases ho.2 with ⟨h1, h2⟩ | ⟨g', cap', cur, hv, _⟩
      · omega
      · injection hv with hv1
        subst hv1
        have := hF.hr.1 g' rfl
        rw [this]
    obtain ⟨rfl, rfl⟩ := hAc
    have cM := cell_of_one hF.hm
    have cC := cell_of_one hF.hc
    have HF := Aside0.mk hF
    have HA := Aside0.mk hA
    have Hf := Aside0.mk hf
    have Hp := Aside0.mk hp
    clear hF hA hf hp
    go_enter Try.func91, Try.ntmps91
    go_wp2_with fail
    go_loopw [15] (fun i wr => ∃ (x : Nat) (ar : Int) (pr : List Int), x ≤ colours ∧ i = .int .i64 (x : Int) ∧ Aside0 (Fr wr Bm Bt Bw Bc By G n colours t lb (some ⟨G, 0, none⟩) cap pr) ∧ Aside0 (pr.length = n) ∧ Aside0 (pr.take at_ = p.take at_) ∧ Aside0 (Acc w0 wr g ar) ∧ Aside0 (tellAll f ar (wordsRest (p.take at_) colours d x) = some a'))
      (fun i _ => colours - (intOf i).toNat)
    case atStart => exact ⟨0, a, p, Nat.zero_le _, rfl, HF, Hp, ⟨rfl⟩, HA, Hf⟩
    case round =>
      obtain ⟨x, ar, pr, hx, rfl, HFr, Hpr, Hpre, HAr, Hfr⟩ := hrel
      clear HF HA Hf cM cC
      by_cases hlt : x < colours
      · have hlt' : decide ((x : Int) < (colours : Int)) = true := decide_eq_true (by omega)
        have hfr := Hfr.out
        rw [wordsRest_step _ _ _ _ hlt, tellAll_append] at hfr
        obtain ⟨a1, hf1, hf2⟩ := Option.bind_eq_some_iff.mp hfr
        have Hf2 := Aside0.mk hf2
        have hlen := Hpr.out
        have hFr := HFr.out
        have hset : (pr.set at_ (x : Int)).take (at_ + 1) = p.take at_ ++ [(x : Int)] := by
          rw [← Hpre.out, List.take_succ_eq_append_getElem (by simp; omega), List.take_set_of_le (Nat.le_refl _)]
          simp
        have hF1 := hFr.put hL at_ (x : Int)
        have hA1 := HAr.out.put (i := at_) (u := .int .i64 (x : Int)) (show g ≠ G by have := hL.lg; have := hL.lG; omega) hL.lG
        have call := ih (at_ + 1) (wr.setCell ⟨G, at_, none⟩ (.int .i64 (x : Int))) (pr.set at_ (x : Int)) ar a1 (by omega) (by simp; omega) hF1 hA1 (by rw [hset]; exact hf1)
        have Hcall := Aside0.mk call
        have cW := cell_of_one hFr.hw
        have cY := cell_of_one hFr.hy
        have cX : ∃ v, wr.cell? ⟨G, at_, none⟩ = some v := by
          obtain ⟨inner, ho⟩ := Kd.R_own hFr.hr
          have hl := ho.1
          have := ho.cellAt at_ (show at_ < pr.length * 1 by omega)
          rw [List.getElem?_eq_getElem (show at_ < inner.length by have : inner.length = pr.length * 1 := hl; omega)] at this
          exact ⟨_, this⟩
        obtain ⟨vx, cX⟩ := cX
        have fX : wr.frozen? ⟨G, at_, none⟩ = false := by
          obtain ⟨inner, ho⟩ := Kd.R_own hFr.hr
          exact ho.frozenAt at_
        have hidx : at_ < pr.length := by omega
        have hb : at_ ≤ 5 := by omega
        have hgo : G ≠ Bw ∧ G ≠ By := ⟨fun e => hL.nw e.symm, fun e => hL.ny e.symm⟩
        have cY1 : (wr.setCell ⟨G, at_, none⟩ (.int .i64 (x : Int))).cell? ⟨By, 0, none⟩ = _ := cell_of_one hF1.hy
        have Hlen := Aside0.mk hlen
        have HL := Aside0.mk hL
        have Hat := Aside0.mk hat
        have Hset := Aside0.mk hset
        clear hlen hL hat hset hfr hf1 hf2 hFr hF1 hA1 call hne hne2 ih
        go_wp2_with (go_at_call 91; refine Hcall.out.mono ?_; rintro e w2 ⟨rfl, hA2, p2, hF2, hp2, htk⟩)
        go_roundw
        case rel =>
          refine ⟨x + 1, a1, p2, hlt, by go_num, ⟨hF2⟩, ⟨hp2⟩, ⟨?_⟩, ⟨hA2⟩, Hf2⟩
          have e1 : p2.take at_ = (p2.take (at_ + 1)).take at_ := by rw [List.take_take, Nat.min_eq_left (by omega)]
          have e2 : (p.take at_).length = at_ := by
            have := Hp.out
            have := Hat.out
            simp
            omega
          rw [e1, htk, Hset.out, List.take_append_of_le_length (by omega), List.take_of_length_le (by omega)]
        case measure => simp [intOf]; omega
      · have hlt' : decide ((x : Int) < (colours : Int)) = false := decide_eq_false (by omega)
        have hxe : x = colours := by omega
        have hfr := Hfr.out
        rw [hxe, wordsRest_end] at hfr
        obtain rfl := Option.some.inj hfr
        clear hxe hfr
        go_wp2_with fail
        go_end0
        exact ⟨rfl, HAr.out, pr, HFr.out, Hpr.out, Hpre.out⟩
theorem info3' : (Try.prog.info? 3).map (fun i => (i.zero, i.size, i.bytes)) = some (some (.int .i64 0), 1, 8) := by kernel_rfl
theorem enters (f : FuncId) (fn : Func) (cd : Code) (hf : Try.prog.funcs[f]? = some fn) (hn : (fn.name == "runtime.NumGoroutine") = false) (hb : fn.body = some cd) : ∀ args w, (callFunc f args).run Try.prog w = .ok (.enter f args) w := enters_of hf hn hb
theorem alloc_at (w : World) (o : Obj) (k : Nat) : (w.alloc o).heap[k]? = if k = w.heap.size then some o else w.heap[k]? := by
  show (w.heap.push o)[k]? = _
  rw [Array.getElem?_push]
set_option maxHeartbeats 2000000 in
set_option maxRecDepth 100000 in
theorem words_any (w0 : World) (g n colours t : Nat) (lb : Array Value) (f : Int → List Int → Option Int) (a a' : Int)
    (eg : ∀ args w, (callFunc t args).run Try.prog w = .ok (.enter t args) w) (hT : Tells t lb w0 g f) (hn : n ≤ 6) (hcol : colours ≤ 3) (hg : w0.heap[g]? = some (.cells #[.int .i64 a] 3 (0, 0))) (hf : tellAll f a (allW colours n) = some a') :
    Calls Try.prog 71 #[.int .i64 (colours : Int), .int .i64 (n : Int), .func (.func t) #[] lb] w0 fun e W' => e = .returned (.tuple #[]) ∧ Stay w0 W' g ∧ W'.heap[g]? = some (.cells #[.int .i64 a'] 3 (0, 0)) := by
  have hmk := print_make (P := Try.prog) 23 3 .i64 8 Try.underlying23 info3' (by decide) n (by omega)
  have hgl := lt_of_block hg
  have hL : Lay w0 g (w0.heap.size + 1) (w0.heap.size + 1 + 1) (w0.heap.size + 1 + 1 + 1 + 1) w0.heap.size (w0.heap.size + 1 + 1 + 1 + 1 + 1) (w0.heap.size + 1 + 1 + 1) :=
    ⟨hgl, by omega, by omega, by omega, by omega, by omega, by omega, by omega, by omega, by omega, by omega, by omega⟩
  have hr : (List.replicate n (0 : Int)).length = n := List.length_replicate
  have call := try_any w0 g (w0.heap.size + 1) (w0.heap.size + 1 + 1) (w0.heap.size + 1 + 1 + 1 + 1) w0.heap.size (w0.heap.size + 1 + 1 + 1 + 1 + 1) (w0.heap.size + 1 + 1 + 1) n colours t lb f (some ⟨w0.heap.size + 1 + 1 + 1, 0, none⟩) n eg hT hL hn hcol n 0
    ((((((w0.alloc (.cells #[.int .i64 (colours : Int)] 3)).alloc (.cells #[.int .i64 (n : Int)] 3)).alloc (.cells #[.func (.func t) #[] lb] 61)).alloc (.cells (madeCells #[.int .i64 0] n) 3)).alloc (.cells #[.slice (some ⟨w0.heap.size + 1 + 1 + 1, 0, none⟩) n n] 23)).alloc
      (.cells #[.func (.func 91) #[] #[.pointer (some ⟨w0.heap.size + 1, 0, none⟩), .pointer (some ⟨w0.heap.size + 1 + 1, 0, none⟩), .pointer (some ⟨w0.heap.size + 1 + 1 + 1 + 1, 0, none⟩), .pointer (some ⟨w0.heap.size, 0, none⟩), .pointer (some ⟨w0.heap.size + 1 + 1 + 1 + 1 + 1, 0, none⟩)]] 73))
    (List.replicate n 0) a a' (by omega) hr
    (by
      refine ⟨?_, ?_, ?_, ?_, ?_, ?_⟩
      · rw [alloc_at, if_neg (by simp <;> omega), alloc_at, if_neg (by simp <;> omega), alloc_at, if_neg (by simp <;> omega), alloc_at, if_neg (by simp <;> omega), alloc_at, if_pos (by simp)]
      · rw [alloc_at, if_neg (by simp <;> omega), alloc_at, if_neg (by simp <;> omega), alloc_at, if_neg (by simp <;> omega), alloc_at, if_pos (by simp)]
      · rw [hr, alloc_at, if_neg (by simp <;> omega), alloc_at, if_pos (by simp)]
      · rw [alloc_at, if_neg (by simp <;> omega), alloc_at, if_neg (by simp <;> omega), alloc_at, if_neg (by simp <;> omega), alloc_at, if_neg (by simp <;> omega), alloc_at, if_neg (by simp <;> omega), alloc_at, if_pos (by simp)]
      · rw [alloc_at, if_pos (by simp)]
      · rw [hr]
        have ho : ((((w0.alloc (.cells #[.int .i64 (colours : Int)] 3)).alloc (.cells #[.int .i64 (n : Int)] 3)).alloc (.cells #[.func (.func t) #[] lb] 61)).alloc (.cells (madeCells #[.int .i64 0] n) 3)).ownsRow 0 3 1 (.slice (some ⟨w0.heap.size + 1 + 1 + 1, 0, none⟩) n n) n (nums .i64 (List.replicate n 0)) := by
          simpa using own_made (((w0.alloc (.cells #[.int .i64 (colours : Int)] 3)).alloc (.cells #[.int .i64 (n : Int)] 3)).alloc (.cells #[.func (.func t) #[] lb] 61)) 0 3 .i64 n (Nat.zero_le _) (by omega)
        have h1 := Kd.R_of_own (enc := Value.int .i64) (h1 := fun _ => rfl) (ok := fun k => k = w0.heap.size + 1 + 1 + 1) (xs := List.replicate n (0 : Int)) (by rw [hr]; exact ho) (fun k hk => by simp [Value.ownBlock] at hk; omega)
        refine Kd.R_step (Kd.R_step h1 (fun k _ hk => Below.heap_alloc _ _ _ hk)) (fun k _ hk => Below.heap_alloc _ _ _ ?_)
        exact hk)
    ⟨⟨rfl, rfl, rfl, by simp; omega, fun i hi _ => by rw [alloc_at, if_neg (by first | omega | (simp; omega)), alloc_at, if_neg (by first | omega | (simp; omega)), alloc_at, if_neg (by first | omega | (simp; omega)), alloc_at, if_neg (by first | omega | (simp; omega)), alloc_at, if_neg (by first | omega | (simp; omega)), alloc_at, if_neg (by first | omega | (simp; omega))]⟩,
      by rw [alloc_at, if_neg (by first | omega | (simp; omega)), alloc_at, if_neg (by first | omega | (simp; omega)), alloc_at, if_neg (by first | omega | (simp; omega)), alloc_at, if_neg (by first | omega | (simp; omega)), alloc_at, if_neg (by first | omega | (simp; omega)), alloc_at, if_neg (by first | omega | (simp; omega))]; exact hg⟩
    (by simpa using hf)
  have Hcall := Aside0.mk call
  clear call hL hr hgl hg hf hT
  go_enter Try.func71, Try.ntmps71
  go_wp2_with (go_at_call 91; refine Hcall.out.mono ?_; rintro e W' ⟨rfl, hA, _, _, _, _⟩)
  go_end0
  exact ⟨rfl, hA.stay, hA.now⟩
theorem below_undrew {W V : World} (k : Below W.drew.heap.size W.drew V) : Below W.heap.size W V := ⟨k.os, k.tape, k.output, k.size, k.block⟩
theorem below_next {w w1 w2 : World} (k : Below w1.heap.size w1 w2) (h : Below w.heap.size w w1) : Below w.heap.size w w2 := below_then h h.size k
theorem tellAll_mono {f g : Int → List Int → Option Int} (h : ∀ a q, LeO (f a q) (g a q)) : ∀ (qs : List (List Int)) (a : Int), LeO (tellAll f a qs) (tellAll g a qs)
  | [], a => LeO.refl _
  | q :: qs, a => LeO.bind (h a q) fun a' => tellAll_mono h qs a'

-- NOT PRINTED: function 72 (impl_RuleAll_1)

/-- What RuleAll's and SameCounts' own functions do with a word. -/
def sumF (k : Nat) (urn : List Int) (rule : List (List Int)) (a : Int) (q : List Int) : Option Int := (impl_ruleWays.f k urn rule q).bind fun x => some (wrap64 (a + x))
theorem sumF_mono (k : Nat) (urn : List Int) (rule : List (List Int)) (a : Int) (q : List Int) : LeO (sumF k urn rule a q) (sumF (k + 1) urn rule a q) := LeO.bind (impl_ruleWays.mono _ _ _ _) fun x => LeO.refl _
set_option maxHeartbeats 4000000 in
set_option maxRecDepth 100000 in
theorem sum_tells72 (k : Nat) (w00 w01 w1 : World) (g Bu Br : Nat) (Au : Option Addr) (cu : Nat) (urn : List Int) (Ar : Option Addr) (cr : Nat) (rule : List (List Int)) (hC : Kd.C (Kd.int .i64) w00 Au urn.length urn) (hc : urn.length ≤ cu)
    (hR : Kd.C (Kd.slice 3 (Kd.int .i64)) w01 Ar rule.length rule) (hcr : rule.length ≤ cr) (hB : Below w00.heap.size w00 w1) (hB1 : Below w01.heap.size w01 w1) (hg0 : w00.heap.size ≤ g) (hg1 : w01.heap.size ≤ g)
    (hbu : w1.heap[Bu]? = some (.cells #[.slice Au urn.length cu] 23 (0, 0))) (hbr : w1.heap[Br]? = some (.cells #[.slice Ar rule.length cr] 28 (0, 0))) (h1 : Bu ≠ g) (h2 : Br ≠ g) :
    Tells 72 #[.pointer (some ⟨g, 0, none⟩), .pointer (some ⟨Bu, 0, none⟩), .pointer (some ⟨Br, 0, none⟩)] w1 g (sumF k urn rule) := by
  intro W a a' Aq cq q hA hq hcq hf
  unfold sumF at hf
  obtain ⟨x, e1, hf⟩ := Option.bind_eq_some_iff.mp hf
  obtain rfl := Option.some.inj hf
  have cU := cell_of_one (hA.stay.keep hbu h1)
  have cR := cell_of_one (hA.stay.keep hbr h2)
  have cN := cell_of_one hA.now
  have fN := free_of_one hA.now
  have HA := Aside0.mk hA
  have HQ := Aside0.mk hq
  have HU := Aside0.mk (Kd.C_below hC (hA.stay.toBelow hB hg0))
  have HR := Aside0.mk (Kd.C_below hR (hA.stay.toBelow hB1 hg1))
  have E1 := Aside0.mk e1
  clear hA hq e1 hC hR hbu hbr hB hB1 hf
  show Calls Try.prog 72 #[.slice Aq q.length cq, .pointer (some ⟨g, 0, none⟩), .pointer (some ⟨Bu, 0, none⟩), .pointer (some ⟨Br, 0, none⟩)] W _
  go_enter Try.func72, Try.ntmps72
  go_wp2_with (fail)
  go_region_with (go_at_call 59; refine (impl_ruleWays.calls k Au cu urn Ar cr rule Aq cq q x _ (by first | exact HU.out | exact Kd.C_drew HU.out | exact Kd.C_drewN HU.out _) hc (by first | exact HR.out | exact Kd.C_drew HR.out | exact Kd.C_drewN HR.out _) hcr (by first | exact HQ.out | exact Kd.C_drew HQ.out | exact Kd.C_drewN HQ.out _) hcq E1.out).mono ?_; rintro e w2 ⟨rfl, hB2⟩; have cN2 := cell_of_one (((below_undrew hB2).block g (lt_of_block HA.out.now)).trans HA.out.now); have fN2 := free_of_one (((below_undrew hB2).block g (lt_of_block HA.out.now)).trans HA.out.now); have HB2 := Aside0.mk hB2; clear hB2)
  all_goals
    have e : IntKind.i64.wrap (a + x) = wrap64 (a + x) := by simp only [IntKind.wrap_i64, wrap64]
    have hS := ((Stay.refl W g).below (below_undrew HB2.out)).far ⟨g, 0, none⟩ (.int .i64 (wrap64 (a + x))) (.inl rfl)
    have hN := one_setCell (u := .int .i64 (wrap64 (a + x))) (((below_undrew HB2.out).block g (lt_of_block HA.out.now)).trans HA.out.now)
    go_end0
    rw [e]
    exact ⟨rfl, hS, hN⟩
def impl_RuleAll.f (k : Nat) (l0 : List Int) (l1 : List (List Int)) (a2 : Int) : Option (Int) := (impl_ruleAsked.f k l0 l1).bind fun t1 => (if t1 = true then (if a2 < 0 then some (-1) else (if a2 > 6 then some (-1) else (if l0.length ≤ 3 then tellAll (sumF k l0 l1) 0 (allW l0.length a2.toNat) else none))) else some (-1))
theorem impl_RuleAll.mono : ∀ a0 a1 a2 k, LeO (impl_RuleAll.f k a0 a1 a2) (impl_RuleAll.f (k + 1) a0 a1 a2) := fun a0 a1 a2 k =>
  LeO.bind (impl_ruleAsked.mono _ _ _) fun t1 => LeO.ite (LeO.ite (LeO.refl _) (LeO.ite (LeO.refl _) (LeO.ite (tellAll_mono (fun a q => sumF_mono k a0 a1 a q) _ _) (LeO.refl _)))) (LeO.refl _)
theorem all_with (k : Nat) (w w0 : World) (g Bu Br m : Nat) (A0 : Option Addr) (c0 : Nat) (l0 : List Int) (A1 : Option Addr) (c1 : Nat) (l1 : List (List Int)) (r : Int) (hr0 : Kd.C (Kd.int .i64) w A0 l0.length l0) (hc0 : l0.length ≤ c0) (hr1 : Kd.C (Kd.slice 3 (Kd.int .i64)) w A1 l1.length l1) (hc1 : l1.length ≤ c1)
    (hn : m ≤ 6) (hcol : l0.length ≤ 3) (hf : tellAll (sumF k l0 l1) 0 (allW l0.length m) = some r) (hg0 : w.heap.size ≤ g) (h1 : Bu ≠ g) (h2 : Br ≠ g)
    (hB : Below w.heap.size w w0) (hbu : w0.heap[Bu]? = some (.cells #[.slice A0 l0.length c0] 23 (0, 0))) (hbr : w0.heap[Br]? = some (.cells #[.slice A1 l1.length c1] 28 (0, 0))) (hg : w0.heap[g]? = some (.cells #[.int .i64 0] 3 (0, 0))) :
    Calls Try.prog 71 #[.int .i64 (l0.length : Int), .int .i64 (m : Int), .func (.func 72) #[] #[.pointer (some ⟨g, 0, none⟩), .pointer (some ⟨Bu, 0, none⟩), .pointer (some ⟨Br, 0, none⟩)]] w0 fun e W' => e = .returned (.tuple #[]) ∧ Stay w0 W' g ∧ W'.heap[g]? = some (.cells #[.int .i64 r] 3 (0, 0)) :=
  words_any w0 g m l0.length 72 _ (sumF k l0 l1) 0 r (enters 72 _ _ Try.func72 (by kernel_rfl) rfl)
    (sum_tells72 k w w w0 g Bu Br A0 c0 l0 A1 c1 l1 hr0 hc0 hr1 hc1 hB hB hg0 hg0 hbu hbr h1 h2) hn hcol hg hf
set_option maxHeartbeats 8000000 in
set_option maxRecDepth 100000 in
theorem impl_RuleAll.calls (k : Nat) (A0 : Option Addr) (c0 : Nat) (l0 : List Int) (A1 : Option Addr) (c1 : Nat) (l1 : List (List Int)) (a2 : Int) (r : Int) (w : World) (hr0 : Kd.C (Kd.int .i64) w A0 l0.length l0) (hc0 : l0.length ≤ c0) (hr1 : Kd.C (Kd.slice 3 (Kd.int .i64)) w A1 l1.length l1) (hc1 : l1.length ≤ c1) (h : impl_RuleAll.f k l0 l1 a2 = some r) :
    Calls Try.prog 26 #[.slice A0 l0.length c0, .slice A1 l1.length c1, .int .i64 a2] w fun e w' => e = .returned (.int .i64 r) ∧ Below w.heap.size w w' := by
  unfold impl_RuleAll.f at h
  obtain ⟨t1, e1, h⟩ := Option.bind_eq_some_iff.mp h
  have E1 := Aside0.mk e1
  have HU := Aside0.mk hr0
  have HV := Aside0.mk hr1
  clear e1
  cases t1 with
  | false =>
    obtain rfl : (-1 : Int) = r := by simpa using h
    clear h hr0 hr1
    go_enter Try.func26, Try.ntmps26
    go_wp2_with (first | (go_at_call 67; refine (impl_ruleAsked.calls k A0 c0 l0 A1 c1 l1 false _ (by repeat (first | exact HU.out | refine Kd.C_drewN ?_ _ | refine Kd.C_alloc ?_ _)) hc0 (by repeat (first | exact HV.out | refine Kd.C_drewN ?_ _ | refine Kd.C_alloc ?_ _)) hc1 E1.out).mono ?_; rintro e w2 ⟨rfl, hD⟩; obtain ⟨nd, rfl⟩ := hD.out; clear hD))
    go_ret
    exact ⟨rfl, by repeat (first | exact Below.refl _ _ | apply pw_below_drewN | apply below_drew | apply below_alloc)⟩
  | true =>
    simp only [if_true] at h
    by_cases c2 : a2 < 0
    · rw [if_pos c2] at h
      obtain rfl := Option.some.inj h
      have d2 : decide (a2 < 0) = true := decide_eq_true c2
      clear h hr0 hr1 c2
      go_enter Try.func26, Try.ntmps26
      go_wp2_with (first | (go_at_call 67; refine (impl_ruleAsked.calls k A0 c0 l0 A1 c1 l1 true _ (by repeat (first | exact HU.out | refine Kd.C_drewN ?_ _ | refine Kd.C_alloc ?_ _)) hc0 (by repeat (first | exact HV.out | refine Kd.C_drewN ?_ _ | refine Kd.C_alloc ?_ _)) hc1 E1.out).mono ?_; rintro e w2 ⟨rfl, hD⟩; obtain ⟨nd, rfl⟩ := hD.out; clear hD))
      go_ret
      exact ⟨rfl, by repeat (first | exact Below.refl _ _ | apply pw_below_drewN | apply below_drew | apply below_alloc)⟩
    · rw [if_neg c2] at h
      have d2 : decide (a2 < 0) = false := decide_eq_false c2
      by_cases c3 : a2 > 6
      · rw [if_pos c3] at h
        obtain rfl := Option.some.inj h
        have d3 : decide (6 < a2) = true := decide_eq_true c3
        clear h hr0 hr1 c2 c3
        go_enter Try.func26, Try.ntmps26
        go_wp2_with (first | (go_at_call 67; refine (impl_ruleAsked.calls k A0 c0 l0 A1 c1 l1 true _ (by repeat (first | exact HU.out | refine Kd.C_drewN ?_ _ | refine Kd.C_alloc ?_ _)) hc0 (by repeat (first | exact HV.out | refine Kd.C_drewN ?_ _ | refine Kd.C_alloc ?_ _)) hc1 E1.out).mono ?_; rintro e w2 ⟨rfl, hD⟩; obtain ⟨nd, rfl⟩ := hD.out; clear hD))
        go_ret
        exact ⟨rfl, by repeat (first | exact Below.refl _ _ | apply pw_below_drewN | apply below_drew | apply below_alloc)⟩
      · rw [if_neg c3] at h
        by_cases hl : l0.length ≤ 3
        · rw [if_pos hl] at h
          obtain ⟨m, rfl⟩ := Int.eq_ofNat_of_zero_le (show 0 ≤ a2 by omega)
          rw [Int.toNat_natCast] at h
          have d3 : decide (6 < (m : Int)) = false := decide_eq_false c3
          have hw := fun w0 hB hbu hbr hg => all_with k w w0 (w.heap.size + 1 + 1) w.heap.size (w.heap.size + 1) m A0 c0 l0 A1 c1 l1 r hr0 hc0 hr1 hc1 (by omega) hl h (by omega) (by omega) (by omega) hB hbu hbr hg
          have h1 : (((w.alloc (.cells #[.slice A0 l0.length c0] 23)).alloc (.cells #[.slice A1 l1.length c1] 28)).alloc (.cells #[.int .i64 0] 3)).heap[w.heap.size]? = some (.cells #[.slice A0 l0.length c0] 23 (0, 0)) := by
            rw [alloc_at, if_neg (by simp; omega), alloc_at, if_neg (by simp), alloc_at, if_pos rfl]
          have h2 : (((w.alloc (.cells #[.slice A0 l0.length c0] 23)).alloc (.cells #[.slice A1 l1.length c1] 28)).alloc (.cells #[.int .i64 0] 3)).heap[w.heap.size + 1]? = some (.cells #[.slice A1 l1.length c1] 28 (0, 0)) := by
            rw [alloc_at, if_neg (by simp), alloc_at, if_pos (by simp)]
          have h3 : (((w.alloc (.cells #[.slice A0 l0.length c0] 23)).alloc (.cells #[.slice A1 l1.length c1] 28)).alloc (.cells #[.int .i64 0] 3)).heap[w.heap.size + 1 + 1]? = some (.cells #[.int .i64 0] 3 (0, 0)) := by
            rw [alloc_at, if_pos (by simp)]
          have HW := Aside0.mk hw
          have H1 := Aside0.mk h1
          have H2 := Aside0.mk h2
          have H3 := Aside0.mk h3
          clear hw h1 h2 h3 h hr0 hr1 hl c2 c3
          go_enter Try.func26, Try.ntmps26
          go_wp2_with (first | (go_at_call 67; refine (impl_ruleAsked.calls k A0 c0 l0 A1 c1 l1 true _ (by repeat (first | exact HU.out | refine Kd.C_drewN ?_ _ | refine Kd.C_alloc ?_ _)) hc0 (by repeat (first | exact HV.out | refine Kd.C_drewN ?_ _ | refine Kd.C_alloc ?_ _)) hc1 E1.out).mono ?_; rintro e w2 ⟨rfl, hD⟩; obtain ⟨nd, rfl⟩ := hD.out; clear hD) | (go_at_call 71; refine (HW.out _ (by repeat (first | exact Below.refl _ _ | apply pw_below_drewN | apply below_drew | apply below_alloc)) (by exact H1.out) (by exact H2.out) (by exact H3.out)).mono ?_; rintro e w4 ⟨rfl, q1, q2⟩; have cN4 := cell_of_one q2; have HQ1 := Aside0.mk q1; clear q1 q2))
          go_ret
          exact ⟨rfl, HQ1.out.toBelow (by repeat (first | exact Below.refl _ _ | apply pw_below_drewN | apply below_drew | apply below_alloc)) (by omega)⟩
        · rw [if_neg hl] at h
          cases h

/-- A state of type 70 at block g of W; what its slices lead to came in by w0. -/
def IsS70 (w0 W : World) (g : Nat) (f0 : List Int) (f1 : Int) : Prop := ∃ A0 c0, W.heap[g]? = some (.cells #[.slice A0 f0.length c0, .int .i64 f1] 70 (0, 0)) ∧ w0.heap.size ≤ g ∧ Kd.C (Kd.int .u8) w0 A0 f0.length f0
theorem IsS70.grown {w0 W : World} {g : Nat} {f0 : List Int} {f1 : Int} {W1 : World} {row : Option Nat} (h : IsS70 w0 W g f0 f1) (hw : W.grownBy W1 row) (hne : some g ≠ row) : IsS70 w0 W1 g f0 f1 := by
  obtain ⟨A0, c0, hb, hg, hr0⟩ := h
  exact ⟨A0, c0, blk_grown hb hw hne, hg, hr0⟩
theorem IsS70.own_neN {w0 W : World} {g : Nat} {f0 : List Int} {f1 : Int} {α : Type} {d : Kd α} {e : Nat} {base : Nat} {ok : Nat → Prop} {v : Value} {xs : List α} (h : IsS70 w0 W g f0 f1) (ho : Kd.N d e W base ok v xs) (ht : e ≠ 70) : some g ≠ v.ownBlock := by
  obtain ⟨A0, c0, hb, hg, hr0⟩ := h
  exact Kd.N_ne ho hb ht
theorem IsS70.fresh {w0 W : World} {g : Nat} {f0 : List Int} {f1 : Int} (h : IsS70 w0 W g f0 f1) : ∀ k, W.heap.size ≤ k → k ≠ g := by
  obtain ⟨A0, c0, hb, hg, hr0⟩ := h
  exact Kd.freshB hb
theorem IsS70.kept {w0 W : World} {g : Nat} {f0 : List Int} {f1 : Int} {W1 : World} {S : Nat → Prop} (h : IsS70 w0 W g f0 f1) (hk : Kept W W1 S) (hne : ¬ S g) : IsS70 w0 W1 g f0 f1 := by
  obtain ⟨A0, c0, hb, hg, hr0⟩ := h
  exact ⟨A0, c0, blk_kept hb hk hne, hg, hr0⟩
theorem IsS70.below {w0 W : World} {g : Nat} {f0 : List Int} {f1 : Int} {W1 : World} (h : IsS70 w0 W g f0 f1) (hw : Below W.heap.size W W1) : IsS70 w0 W1 g f0 f1 := h.grown (grown_of_below hw none) (by simp)
theorem IsS70.alloc {w0 W : World} {g : Nat} {f0 : List Int} {f1 : Int} (h : IsS70 w0 W g f0 f1) (o : Obj) : IsS70 w0 (W.alloc o) g f0 f1 := h.below (below_alloc (Below.refl _ _) o)
theorem IsS70.drewN {w0 W : World} {g : Nat} {f0 : List Int} {f1 : Int} (h : IsS70 w0 W g f0 f1) (m : Nat) : IsS70 w0 (W.drewN m) g f0 f1 := h
theorem IsS70.drew {w0 W : World} {g : Nat} {f0 : List Int} {f1 : Int} (h : IsS70 w0 W g f0 f1) : IsS70 w0 W.drew g f0 f1 := h
theorem IsS70.at_ {w0 W : World} {g : Nat} {f0 : List Int} {f1 : Int} {w' : World} {m : Nat} (hq : W.drewN m = w') (h : IsS70 w0 W g f0 f1) : IsS70 w0 w' g f0 f1 := by subst hq; exact IsS70.drewN h m
theorem IsS70.apart {w0 W : World} {g : Nat} {f0 : List Int} {f1 : Int} {α : Type} {d : Kd α} {e : Nat} {base : Nat} {ok : Nat → Prop} {v : Value} {xs : List α} (h : IsS70 w0 W g f0 f1) (ho : d.R e W base ok v xs) (ht : ∀ q, q ∈ e :: d.E → q ≠ 70) : d.R e W base (fun k => ok k ∧ k ≠ g) v xs := by
  obtain ⟨A0, c0, hb, hg, hr0⟩ := h
  exact Kd.R_types ho hb ht
theorem IsS70.own_ne {w0 W : World} {g : Nat} {f0 : List Int} {f1 : Int} {α : Type} {d : Kd α} {e : Nat} {base : Nat} {ok : Nat → Prop} {v : Value} {xs : List α} (h : IsS70 w0 W g f0 f1) (ho : d.R e W base ok v xs) (ht : e ≠ 70) : some g ≠ v.ownBlock := by
  obtain ⟨A0, c0, hb, hg, hr0⟩ := h
  exact Kd.R_ne ho hb ht
theorem IsS70.apartQ {w0 W : World} {g : Nat} {f0 : List Int} {f1 : Int} {α : Type} {d : Kd α} {e : Nat} {base : Nat} {ok : Nat → Prop} {v : Value} {xs : List α} (h : IsS70 w0 W g f0 f1) (ho : d.Q e W base ok v xs) (ht : ∀ q, q ∈ e :: d.E → q ≠ 70) : d.Q e W base (fun k => ok k ∧ k ≠ g) v xs := by
  obtain ⟨A0, c0, hb, hg, hr0⟩ := h
  exact Kd.Q_types ho hb ht
theorem IsS70.own_neQ {w0 W : World} {g : Nat} {f0 : List Int} {f1 : Int} {α : Type} {d : Kd α} {e : Nat} {base : Nat} {ok : Nat → Prop} {v : Value} {xs : List α} (h : IsS70 w0 W g f0 f1) (ho : d.Q e W base ok v xs) (ht : e ≠ 70) : some g ≠ v.ownBlock := by
  obtain ⟨A0, c0, hb, hg, hr0⟩ := h
  exact Kd.Q_ne ho hb ht
theorem IsS70.apartS {w0 W : World} {g : Nat} {f0 : List Int} {f1 : Int} {α : Type} {d : Kd α} {e : Nat} {base : Nat} {ok : Nat → Prop} {v : Value} {xs : List α} (h : IsS70 w0 W g f0 f1) (ho : d.S e W base ok v xs) (ht : ∀ q, q ∈ e :: d.E → q ≠ 70) : d.S e W base (fun k => ok k ∧ k ≠ g) v xs := by
  obtain ⟨A0, c0, hb, hg, hr0⟩ := h
  exact Kd.S_types ho hb ht
theorem IsS70.own_neS {w0 W : World} {g : Nat} {f0 : List Int} {f1 : Int} {α : Type} {d : Kd α} {e : Nat} {base : Nat} {ok : Nat → Prop} {v : Value} {xs : List α} (h : IsS70 w0 W g f0 f1) (ho : d.S e W base ok v xs) (ht : e ≠ 70) : some g ≠ v.ownBlock := by
  obtain ⟨A0, c0, hb, hg, hr0⟩ := h
  exact Kd.S_ne ho hb ht
theorem IsS70.lt {w0 W : World} {g : Nat} {f0 : List Int} {f1 : Int} (h : IsS70 w0 W g f0 f1) : g < W.heap.size := by
  obtain ⟨A0, c0, hb, hg, hr0⟩ := h
  exact blk_lt hb
theorem IsS70.ge {w0 W : World} {g : Nat} {f0 : List Int} {f1 : Int} (h : IsS70 w0 W g f0 f1) : w0.heap.size ≤ g := by
  obtain ⟨A0, c0, hb, hg, hr0⟩ := h
  exact hg
theorem IsS70.ne_blk {w0 W : World} {g : Nat} {f0 : List Int} {f1 : Int} {a : Nat} {cs : Array Value} {t : TypeId} {fr : Nat × Nat} (h : IsS70 w0 W g f0 f1) (hb2 : W.heap[a]? = some (.cells cs t fr)) (ht : t ≠ 70) : g ≠ a := by
  obtain ⟨A0, c0, hb, hg, hr0⟩ := h
  rintro rfl
  rw [hb] at hb2
  injection hb2 with hb2
  injection hb2 with _ ht2
  exact ht ht2.symm
theorem IsS70.far {w0 W : World} {g : Nat} {f0 : List Int} {f1 : Int} {p : Addr} (h : IsS70 w0 W g f0 f1) (hne : g ≠ p.block) (u : Value) : IsS70 w0 (W.setCell p u) g f0 f1 := by
  obtain ⟨A0, c0, hb, hg, hr0⟩ := h
  exact ⟨A0, c0, blk_far hb hne u, hg, hr0⟩
theorem cellS70_0 {W : World} {g : Nat} {A0 : Option Addr} {c0 : Nat} {f0 : List Int} {f1 : Int} (h : W.heap[g]? = some (.cells #[.slice A0 f0.length c0, .int .i64 f1] 70 (0, 0))) : W.cell? ⟨g, 0, none⟩ = some (.slice A0 f0.length c0) := (blk_cell h 0).trans rfl
theorem cellS70_1 {W : World} {g : Nat} {A0 : Option Addr} {c0 : Nat} {f0 : List Int} {f1 : Int} (h : W.heap[g]? = some (.cells #[.slice A0 f0.length c0, .int .i64 f1] 70 (0, 0))) : W.cell? ⟨g, 1, none⟩ = some (.int .i64 f1) := (blk_cell h 1).trans rfl
theorem IsS70.set_1 {w0 W : World} {g : Nat} {f0 : List Int} {f1 : Int} (h : IsS70 w0 W g f0 f1) (x : Int) : IsS70 w0 (W.setCell ⟨g, 1, none⟩ (.int .i64 x)) g f0 x := by
  obtain ⟨A0, c0, hb, hg, hr0⟩ := h
  exact ⟨A0, c0, by simpa using blk_set hb 1 (.int .i64 x), hg, hr0⟩
theorem IsS70.new (w0 W : World) (A0 : Option Addr) (c0 : Nat) (f0 : List Int) (f1 : Int) (hB : Below w0.heap.size w0 W) (hr0 : Kd.C (Kd.int .u8) w0 A0 f0.length f0) : IsS70 w0 (W.alloc (.cells #[.slice A0 f0.length c0, .int .i64 f1] 70)) W.heap.size f0 f1 := ⟨A0, c0, by simpa using heap_alloc_new W _, hB.size, hr0⟩

/-! ### spec_l20Open: function 51 -/
def spec_l20Open.f (l0 : List Int) : Option (List Int × Int) := if (l0.length : Int) > 2000 then (if 2000 ≤ (l0.length : Int) then (some (l0.take 2000, 0)) else (none)) else (some (l0, 0))
set_option maxHeartbeats 8000000 in
set_option maxRecDepth 100000 in
theorem spec_l20Open.calls (A0 : Option Addr) (c0 : Nat) (l0 : List Int) (r1 : List Int) (r2 : Int) (w0 w : World) (hB : Below w0.heap.size w0 w) (hr0 : Kd.C (Kd.int .u8) w0 A0 l0.length l0) (hc0 : l0.length ≤ c0) (h : spec_l20Open.f l0 = some (r1, r2)) :
    Calls Try.prog 51 #[.slice A0 l0.length c0] w fun e w' => ∃ g_ : Nat, e = .returned (.pointer (some ⟨g_, 0, none⟩)) ∧ IsS70 w0 w' g_ r1 r2 ∧ Below w0.heap.size w0 w' ∧ Below w.heap.size w w' := by
  have hu70 := Try.underlying70
  have HR0 := Aside0.mk hr0
  have HC0 := Aside0.mk hc0
  clear hr0 hc0
  have HBW := Aside0.mk (Below.refl w.heap.size w)
  have HW0 := Aside0.mk hB.size
  have HB := Aside0.mk hB
  clear hB
  have H : (if (l0.length : Int) > 2000 then (if 2000 ≤ (l0.length : Int) then (some (l0.take 2000, 0)) else (none)) else (some (l0, 0))) = some (r1, r2) := h
  clear h
  by_cases c2 : (l0.length : Int) > 2000
  · rw [if_pos c2] at H
    have c2b0 : decide (2000 < (l0.length : Int)) = true := decide_eq_true c2
    have c2b1 : decide (2000 < l0.length) = true := decide_eq_true (by omega)
    clear c2
    by_cases c3 : 2000 ≤ (l0.length : Int)
    · rw [if_pos c3] at H
      have c3b0 := eq_true c3
      have c3b1 : decide (2000 ≤ (l0.length : Int)) = true := decide_eq_true c3
      clear c3
      simp only [Option.some.injEq, Prod.mk.injEq] at H
      obtain ⟨rfl, rfl⟩ := H
      obtain ⟨i04, hi04, _, hsz4, _⟩ := info_parts info5
      obtain ⟨hcut4, hA4, hC4⟩ := print_take_of (P := Try.prog) (Value.int .u8) 0 22 5 .i64 Try.underlying22 hi04 hsz4 A0 c0 l0 2000 (by omega) (of_decide_eq_true (by first | (with_reducible assumption) | assumption)) HC0.out
      have HR154 := Aside0.mk (Kd.C_of_reads (h1 := fun _ => rfl) (hA4 _ (Kd.reads_of_C HR0.out)))
      have HC154 := Aside0.mk hC4
      clear hA4 hC4 hi04 hsz4
      go_enter Try.func51, Try.ntmps51
      go_wp2_with (first | ((with_reducible refine gate_dst (N := 10) rfl ?_); refine box_event ?hg (N := 10) ?hd (cs := #[.slice A0 (l0.take 2000).length c0, .int .i64 0]) (t := 70) ?hr ?_; (case hd => rfl); (case hg => rfl); (case hr => first | (go_simp; done) | (go_simp; rfl)); intro gb155 hg w5 hbox hb; have n0_ := Aside0.mk (below_step HBW.out hb); have n1_ := Aside0.mk (below_step (by repeat (first | (with_reducible first | exact HB.out | apply below_alloc | apply pw_below_drewN | apply below_drew1) | exact HB.out)) hb); have n2_ := Aside0.mk (hbox); have n3_ := Aside0.mk ((by rw [hg]; exact (below_size (by repeat (first | (with_reducible first | exact HBW.out | apply below_alloc | apply pw_below_drewN | apply below_drew1) | exact HBW.out))) : w.heap.size ≤ gb155)); have n4_ := Aside0.mk ((Nat.le_trans HW0.out (by rw [hg]; exact (below_size (by repeat (first | (with_reducible first | exact HBW.out | apply below_alloc | apply pw_below_drewN | apply below_drew1) | exact HBW.out))) : w.heap.size ≤ gb155) : w0.heap.size ≤ gb155)); clear HBW; clear HB; have HBW := n0_; have HB := n1_; have BK155 := n2_; have GW155 := n3_; have GE155 := n4_; clear n0_ n1_ n2_ n3_ n4_; clear hb hbox hg))
      go_ret
      exact ⟨_, rfl, (show IsS70 w0 _ gb155 (l0.take 2000) 0 from ⟨_, _, by (with_reducible repeat (first | refine blk_drewN ?_ _ | refine blk_drew ?_ | refine blk_alloc ?_ _)); exact BK155.out, GE155.out, HR154.out⟩), by repeat (first | (with_reducible first | exact HB.out | apply below_alloc | apply pw_below_drewN | apply below_drew1 | refine below_set ?_ GE155.out) | exact HB.out), by repeat (first | (with_reducible first | exact HBW.out | apply below_alloc | apply pw_below_drewN | apply below_drew1 | refine below_set ?_ GW155.out) | exact HBW.out)⟩
    · rw [if_neg c3] at H
      exact absurd H (by simp)
  · rw [if_neg c2] at H
    have c2b0 : decide (2000 < (l0.length : Int)) = false := decide_eq_false c2
    have c2b1 : decide (2000 < l0.length) = false := decide_eq_false (by omega)
    clear c2
    simp only [Option.some.injEq, Prod.mk.injEq] at H
    obtain ⟨rfl, rfl⟩ := H
    go_enter Try.func51, Try.ntmps51
    go_wp2_with (first | ((with_reducible refine gate_dst (N := 10) rfl ?_); refine box_event ?hg (N := 10) ?hd (cs := #[.slice A0 l0.length c0, .int .i64 0]) (t := 70) ?hr ?_; (case hd => rfl); (case hg => rfl); (case hr => first | (go_simp; done) | (go_simp; rfl)); intro gb156 hg w6 hbox hb; have n0_ := Aside0.mk (below_step HBW.out hb); have n1_ := Aside0.mk (below_step (by repeat (first | (with_reducible first | exact HB.out | apply below_alloc | apply pw_below_drewN | apply below_drew1) | exact HB.out)) hb); have n2_ := Aside0.mk (hbox); have n3_ := Aside0.mk ((by rw [hg]; exact (below_size (by repeat (first | (with_reducible first | exact HBW.out | apply below_alloc | apply pw_below_drewN | apply below_drew1) | exact HBW.out))) : w.heap.size ≤ gb156)); have n4_ := Aside0.mk ((Nat.le_trans HW0.out (by rw [hg]; exact (below_size (by repeat (first | (with_reducible first | exact HBW.out | apply below_alloc | apply pw_below_drewN | apply below_drew1) | exact HBW.out))) : w.heap.size ≤ gb156) : w0.heap.size ≤ gb156)); clear HBW; clear HB; have HBW := n0_; have HB := n1_; have BK156 := n2_; have GW156 := n3_; have GE156 := n4_; clear n0_ n1_ n2_ n3_ n4_; clear hb hbox hg))
    go_ret
    exact ⟨_, rfl, (show IsS70 w0 _ gb156 l0 0 from ⟨_, _, by (with_reducible repeat (first | refine blk_drewN ?_ _ | refine blk_drew ?_ | refine blk_alloc ?_ _)); exact BK156.out, GE156.out, HR0.out⟩), by repeat (first | (with_reducible first | exact HB.out | apply below_alloc | apply pw_below_drewN | apply below_drew1 | refine below_set ?_ GE156.out) | exact HB.out), by repeat (first | (with_reducible first | exact HBW.out | apply below_alloc | apply pw_below_drewN | apply below_drew1 | refine below_set ?_ GW156.out) | exact HBW.out)⟩

/-! ### spec_l20Rd_pick: function 53 -/
def spec_l20Rd_pick.j0 : Nat → Int → Bool → List Int → Int → Option (Int × Int)
  | 0, _, _, _, _ => none
  | k + 1, x1, x24, x1000, x1001 => if x24 = true then (some (0, x1001)) else (if (wrap64 (x1001 - 1)) < (x1000.length : Int) then (if 0 ≤ (wrap64 (x1001 - 1)) then (if x1 = 0 then (none) else (some (Int.tmod (wrap64 (rd x1000 (wrap64 (x1001 - 1)))) x1, x1001))) else (none)) else (if (x1000.length : Int) = 0 then (none) else (if 0 ≤ (Int.tmod (wrap64 (x1001 - 1)) (x1000.length : Int)) then (if (Int.tmod (wrap64 (x1001 - 1)) (x1000.length : Int)) < (x1000.length : Int) then (if 0 ≤ (Int.tmod (wrap64 ((wrap64 ((wrap64 (x1001 - 1)) * 7)) + 3)) (x1000.length : Int)) then (if (Int.tmod (wrap64 ((wrap64 ((wrap64 (x1001 - 1)) * 7)) + 3)) (x1000.length : Int)) < (x1000.length : Int) then (if x1 = 0 then (none) else (some (Int.tmod (Go.bits .xor .i64 (wrap64 ((wrap64 ((wrap64 ((wrap64 ((wrap64 (rd x1000 (Int.tmod (wrap64 (x1001 - 1)) (x1000.length : Int)))) * 131)) + (wrap64 ((wrap64 (rd x1000 (Int.tmod (wrap64 ((wrap64 ((wrap64 (x1001 - 1)) * 7)) + 3)) (x1000.length : Int)))) * 1117)))) + (wrap64 ((wrap64 (x1001 - 1)) * 29)))) + (wrap64 ((wrap64 (Int.tdiv (wrap64 (x1001 - 1)) (x1000.length : Int))) * 53)))) (wrap64 (Int.tdiv (wrap64 ((wrap64 ((wrap64 ((wrap64 ((wrap64 (rd x1000 (Int.tmod (wrap64 (x1001 - 1)) (x1000.length : Int)))) * 131)) + (wrap64 ((wrap64 (rd x1000 (Int.tmod (wrap64 ((wrap64 ((wrap64 (x1001 - 1)) * 7)) + 3)) (x1000.length : Int)))) * 1117)))) + (wrap64 ((wrap64 (x1001 - 1)) * 29)))) + (wrap64 ((wrap64 (Int.tdiv (wrap64 (x1001 - 1)) (x1000.length : Int))) * 53)))) 64))) x1, x1001))) else (none)) else (none)) else (none)) else (none))))
def spec_l20Rd_pick.f (k : Nat) (s0_0 : List Int) (s0_1 : Int) (a1 : Int) : Option (Int × Int) := if a1 < 1 then (spec_l20Rd_pick.j0 k a1 true s0_0 (wrap64 (s0_1 + 1))) else (spec_l20Rd_pick.j0 k a1 ((s0_0.length : Int) == 0) s0_0 (wrap64 (s0_1 + 1)))
theorem spec_l20Rd_pick.mono_l : ∀ k, (∀ y0 y1 y2 y3, LeO (spec_l20Rd_pick.j0 k y0 y1 y2 y3) (spec_l20Rd_pick.j0 (k + 1) y0 y1 y2 y3))
  | 0 => fun _ _ _ _ r h => by simp [spec_l20Rd_pick.j0] at h
  | k + 1 => by
    have ih0 := spec_l20Rd_pick.mono_l k
    · intro y0 y1 y2 y3
      unfold spec_l20Rd_pick.j0
      repeat' first
      | (with_reducible exact ih0 _ _ _ _)
      | (with_reducible exact LeO.refl _)
      | (with_reducible exact LeO.none _)
      | (with_reducible refine LeO.ite ?_ ?_)
      | (with_reducible refine LeO.bind ?_ (fun _ => ?_))
      | exact ih0 _ _ _ _
      | exact LeO.none _
      | refine LeO.ite ?_ ?_
      | refine LeO.bind ?_ (fun _ => ?_)
theorem spec_l20Rd_pick.mono : ∀ a0 a1 a2 k, LeO (spec_l20Rd_pick.f k a0 a1 a2) (spec_l20Rd_pick.f (k + 1) a0 a1 a2) := by
  intro a0 a1 a2 k
  have ih0 := spec_l20Rd_pick.mono_l k
  unfold spec_l20Rd_pick.f
  repeat' first
      | (with_reducible exact ih0 _ _ _ _)
      | (with_reducible exact LeO.refl _)
      | (with_reducible exact LeO.none _)
      | (with_reducible refine LeO.ite ?_ ?_)
      | (with_reducible refine LeO.bind ?_ (fun _ => ?_))
      | exact ih0 _ _ _ _
      | exact LeO.none _
      | refine LeO.ite ?_ ?_
      | refine LeO.bind ?_ (fun _ => ?_)
set_option maxHeartbeats 8000000 in
set_option maxRecDepth 100000 in
theorem spec_l20Rd_pick.calls (k : Nat) (g : Nat) (s0_0 : List Int) (s0_1 : Int) (a1 : Int) (r1 : Int) (r2 : Int) (w0 w : World) (hI : IsS70 w0 w g s0_0 s0_1) (hB : Below w0.heap.size w0 w) (h : spec_l20Rd_pick.f k s0_0 s0_1 a1 = some (r1, r2)) :
    Calls Try.prog 53 #[.pointer (some ⟨g, 0, none⟩), .int .i64 a1] w fun e w' => e = .returned (.int .i64 r1) ∧ IsS70 w0 w' g s0_0 r2 ∧ Below w0.heap.size w0 w' ∧ KeepBut w w' g none := by
  have HI0 := Aside0.mk hI
  have HK := Aside0.mk (KeepBut.refl w g none)
  have HL := Aside0.mk hB.size
  clear hI
  have HW0 := Aside0.mk hB.size
  have HB := Aside0.mk hB
  clear hB
  have H : (if a1 < 1 then (spec_l20Rd_pick.j0 k a1 true s0_0 (wrap64 (s0_1 + 1))) else (spec_l20Rd_pick.j0 k a1 ((s0_0.length : Int) == 0) s0_0 (wrap64 (s0_1 + 1)))) = some (r1, r2) := h
  clear h
  have HC3 := Aside0.mk H
  clear H
  obtain ⟨ASz4_0, cSz4_0, HGz4, hgz4, HSz4_0⟩ := HI0.out
  have hcz4_0 := cellS70_0 HGz4
  have hcz4_1 := cellS70_1 HGz4
  have hfz4_1 := blk_frozen HGz4 1
  clear HGz4 hgz4
  go_enter Try.func53, Try.ntmps53
  go_upto_region 2 with (fail)
  repeat (go_quiet (fail); go_upto_region 2 with (fail))
  go_cut [24] (fun v24 wc => ∃ (kq : Nat) (x24_2 : Bool), v24 = .bool x24_2 ∧ Aside0 (spec_l20Rd_pick.j0 kq a1 x24_2 s0_0 (wrap64 (s0_1 + 1)) = some (r1, r2)) ∧ Aside0 (kq ≤ k) ∧ Aside0 (IsS70 w0 wc g s0_0 (wrap64 (s0_1 + 1))) ∧ Aside0 (KeepBut w wc g none) ∧ Aside0 (Below w0.heap.size w0 wc))
  case first =>
    have H := HC3.out
    clear HC3
    by_cases c5 : a1 < 1
    · rw [if_pos c5] at H
      have c5b0 : decide (a1 < 1) = true := decide_eq_true c5
      clear c5
      (first | rw [c5b0] | (simp only [i64_w, i32_w]; rw [c5b0]) | skip)
      have H' := Aside0.mk H
      clear H
      go_wp2
      repeat (go_quiet (fail); try go_wp2)
      go_meet
      case rel => exact ⟨_, (true), (by first | rfl | (simp; done) | (simp [*]; done)), H', ⟨by first | omega | exact Nat.le_refl _⟩, ⟨by repeat (first | (with_reducible first | exact HI0.out | apply IsS70.alloc | apply IsS70.drewN | apply IsS70.drew | apply IsS70.set_1) | exact HI0.out)⟩, ⟨by repeat (first | (with_reducible first | exact HK.out | apply KeepBut.set_ | apply keep_drewN | apply keep_drew | apply keep_alloc) | exact HK.out)⟩, ⟨by repeat (first | (with_reducible first | exact HB.out | apply below_alloc | apply pw_below_drewN | apply below_drew1 | refine below_set ?_ (IsS70.ge HI0.out)) | exact HB.out)⟩⟩
    · rw [if_neg c5] at H
      have c5b0 : decide (a1 < 1) = false := decide_eq_false c5
      clear c5
      (first | rw [c5b0] | (simp only [i64_w, i32_w]; rw [c5b0]) | skip)
      have H' := Aside0.mk H
      clear H
      obtain ⟨ASz6_0, cSz6_0, HGz6, hgz6, HSz6_0⟩ := HI0.out
      have hcz6_0 := cellS70_0 HGz6
      have hcz6_1 := cellS70_1 HGz6
      have hfz6_1 := blk_frozen HGz6 1
      clear HGz6 hgz6
      go_wp2
      repeat (go_quiet (fail); try go_wp2)
      go_meet
      case rel => exact ⟨_, (((s0_0.length : Int) == 0)), (by first | rfl | (simp; done) | (simp [*]; done)), H', ⟨by first | omega | exact Nat.le_refl _⟩, ⟨by repeat (first | (with_reducible first | exact HI0.out | apply IsS70.alloc | apply IsS70.drewN | apply IsS70.drew | apply IsS70.set_1) | exact HI0.out)⟩, ⟨by repeat (first | (with_reducible first | exact HK.out | apply KeepBut.set_ | apply keep_drewN | apply keep_drew | apply keep_alloc) | exact HK.out)⟩, ⟨by repeat (first | (with_reducible first | exact HB.out | apply below_alloc | apply pw_below_drewN | apply below_drew1 | refine below_set ?_ (IsS70.ge HI0.out)) | exact HB.out)⟩⟩
  case rest =>
    clear HC3
    try clear p2
    try clear c5
    try clear c5b0
    try clear p6
    try clear hcz4_0
    try clear hcz4_1
    try clear hcz6_0
    try clear hcz6_1
    try clear hfz4_1
    try clear hfz6_1
    obtain ⟨kq, x24_2, rfl, HA, HJ2, HI0, HK, HB⟩ := hcut
    cases kq with
    | zero => exact absurd HA.out (by simp [spec_l20Rd_pick.j0])
    | succ kj2 =>
      have H := HA.out
      clear HA
      simp only [spec_l20Rd_pick.j0] at H
      by_cases c7 : x24_2 = true
      · subst c7
        have H1 : (some (0, (wrap64 (s0_1 + 1)))) = some (r1, r2) := by rw [if_pos rfl] at H; exact H
        clear H
        have H := H1
        clear H1
        simp only [Option.some.injEq, Prod.mk.injEq] at H
        obtain ⟨rfl, rfl⟩ := H
        go_wp2
        repeat (go_quiet (fail); try go_wp2)
        go_ret
        exact ⟨by first | rfl | (simp [errW_none, errW_some] <;> rfl) | (simp [*, errW_none, errW_some] <;> rfl), by repeat (first | (with_reducible first | exact HI0.out | apply IsS70.alloc | apply IsS70.drewN | apply IsS70.drew | apply IsS70.set_1) | exact HI0.out), by repeat (first | (with_reducible first | exact HB.out | apply below_alloc | apply pw_below_drewN | apply below_drew1 | refine below_set ?_ (IsS70.ge HI0.out)) | exact HB.out), by repeat (first | (with_reducible first | exact HK.out | apply KeepBut.set_ | apply keep_drewN | apply keep_drew | apply keep_alloc) | exact HK.out)⟩
      · replace c7 := Bool.eq_false_iff.mpr c7
        subst c7
        have H1 : (if (wrap64 ((wrap64 (s0_1 + 1)) - 1)) < (s0_0.length : Int) then (if 0 ≤ (wrap64 ((wrap64 (s0_1 + 1)) - 1)) then (if a1 = 0 then (none) else (some (Int.tmod (wrap64 (rd s0_0 (wrap64 ((wrap64 (s0_1 + 1)) - 1)))) a1, (wrap64 (s0_1 + 1))))) else (none)) else (if (s0_0.length : Int) = 0 then (none) else (if 0 ≤ (Int.tmod (wrap64 ((wrap64 (s0_1 + 1)) - 1)) (s0_0.length : Int)) then (if (Int.tmod (wrap64 ((wrap64 (s0_1 + 1)) - 1)) (s0_0.length : Int)) < (s0_0.length : Int) then (if 0 ≤ (Int.tmod (wrap64 ((wrap64 ((wrap64 ((wrap64 (s0_1 + 1)) - 1)) * 7)) + 3)) (s0_0.length : Int)) then (if (Int.tmod (wrap64 ((wrap64 ((wrap64 ((wrap64 (s0_1 + 1)) - 1)) * 7)) + 3)) (s0_0.length : Int)) < (s0_0.length : Int) then (if a1 = 0 then (none) else (some (Int.tmod (Go.bits .xor .i64 (wrap64 ((wrap64 ((wrap64 ((wrap64 ((wrap64 (rd s0_0 (Int.tmod (wrap64 ((wrap64 (s0_1 + 1)) - 1)) (s0_0.length : Int)))) * 131)) + (wrap64 ((wrap64 (rd s0_0 (Int.tmod (wrap64 ((wrap64 ((wrap64 ((wrap64 (s0_1 + 1)) - 1)) * 7)) + 3)) (s0_0.length : Int)))) * 1117)))) + (wrap64 ((wrap64 ((wrap64 (s0_1 + 1)) - 1)) * 29)))) + (wrap64 ((wrap64 (Int.tdiv (wrap64 ((wrap64 (s0_1 + 1)) - 1)) (s0_0.length : Int))) * 53)))) (wrap64 (Int.tdiv (wrap64 ((wrap64 ((wrap64 ((wrap64 ((wrap64 (rd s0_0 (Int.tmod (wrap64 ((wrap64 (s0_1 + 1)) - 1)) (s0_0.length : Int)))) * 131)) + (wrap64 ((wrap64 (rd s0_0 (Int.tmod (wrap64 ((wrap64 ((wrap64 ((wrap64 (s0_1 + 1)) - 1)) * 7)) + 3)) (s0_0.length : Int)))) * 1117)))) + (wrap64 ((wrap64 ((wrap64 (s0_1 + 1)) - 1)) * 29)))) + (wrap64 ((wrap64 (Int.tdiv (wrap64 ((wrap64 (s0_1 + 1)) - 1)) (s0_0.length : Int))) * 53)))) 64))) a1, (wrap64 (s0_1 + 1))))) else (none)) else (none)) else (none)) else (none)))) = some (r1, r2) := by rw [if_neg (show ¬ (false = true) by decide)] at H; exact H
        clear H
        have H := H1
        clear H1
        by_cases c8 : (wrap64 ((wrap64 (s0_1 + 1)) - 1)) < (s0_0.length : Int)
        · rw [if_pos c8] at H
          have c8b0 : decide ((wrap64 ((wrap64 (s0_1 + 1)) - 1)) < (s0_0.length : Int)) = true := decide_eq_true c8
          clear c8
          obtain ⟨ji9, hji9⟩ : ∃ j_ : Int, (wrap64 ((wrap64 (s0_1 + 1)) - 1)) = j_ := ⟨_, rfl⟩
          replace H : (if 0 ≤ (ji9) then (if a1 = 0 then (none) else (some (Int.tmod (wrap64 (rd s0_0 (ji9))) a1, (wrap64 (s0_1 + 1))))) else (none)) = some (r1, r2) := by first | (rw [hji9] at H; exact H) | (simp only [hji9] at H ⊢; exact H)
          (try rw [hji9] at c8b0)
          have hji9w : (IntKind.i64.wrap ((wrap64 (s0_1 + 1)) - 1)) = ji9 := (i64_w _).trans hji9
          by_cases c10 : 0 ≤ (ji9)
          · rw [if_pos c10] at H
            have c10b0 : decide (0 ≤ (ji9)) = true := decide_eq_true c10
            clear c10
            by_cases c11 : a1 = 0
            · rw [if_pos c11] at H
              exact absurd H (by simp)
            · rw [if_neg c11] at H
              have c11b0 : (a1 == 0) = false := beq_eq_false_iff_ne.mpr c11
              have c11b1 : (a1 != 0) = true := bne_iff_ne.mpr c11
              simp only [Option.some.injEq, Prod.mk.injEq] at H
              obtain ⟨rfl, rfl⟩ := H
              obtain ⟨ASz12_0, cSz12_0, HGz12, hgz12, HSz12_0⟩ := HI0.out
              have hcz12_0 := cellS70_0 HGz12
              have hcz12_1 := cellS70_1 HGz12
              have hfz12_1 := blk_frozen HGz12 1
              clear HGz12 hgz12
              have p157 : 0 ≤ ((ji9) : Int) := of_decide_eq_true (by first | (with_reducible assumption) | assumption)
              have q157 : (ji9) < (s0_0.length : Int) := of_decide_eq_true (by first | (with_reducible assumption) | assumption)
              obtain ⟨ad157, e157, hx157_0⟩ := Kd.at_int HSz12_0 (ji9) p157 q157
              cases e157
              replace hx157_0 := pw_cell_below HB.out hx157_0
              replace p157 := eq_true p157
              replace q157 := eq_true q157
              go_wp2
              repeat (go_quiet (fail); try go_wp2)
              go_ret
              exact ⟨by first | rfl | (simp [errW_none, errW_some] <;> rfl) | (simp only [← hji9]; first | rfl | (simp [errW_none, errW_some] <;> rfl)) | (simp [*, errW_none, errW_some] <;> rfl), by repeat (first | (with_reducible first | exact HI0.out | apply IsS70.alloc | apply IsS70.drewN | apply IsS70.drew | apply IsS70.set_1) | exact HI0.out), by repeat (first | (with_reducible first | exact HB.out | apply below_alloc | apply pw_below_drewN | apply below_drew1 | refine below_set ?_ (IsS70.ge HI0.out)) | exact HB.out), by repeat (first | (with_reducible first | exact HK.out | apply KeepBut.set_ | apply keep_drewN | apply keep_drew | apply keep_alloc) | exact HK.out)⟩
          · rw [if_neg c10] at H
            exact absurd H (by simp)
        · rw [if_neg c8] at H
          have c8b0 : decide ((wrap64 ((wrap64 (s0_1 + 1)) - 1)) < (s0_0.length : Int)) = false := decide_eq_false c8
          clear c8
          by_cases c13 : (s0_0.length : Int) = 0
          · rw [if_pos c13] at H
            exact absurd H (by simp)
          · rw [if_neg c13] at H
            have c13b0 : ((s0_0.length : Int) == 0) = false := beq_eq_false_iff_ne.mpr c13
            have c13b1 : ((s0_0.length : Int) != 0) = true := bne_iff_ne.mpr c13
            have c13b2 : ¬ (s0_0 = []) := fun h_ => c13 (by rw [h_]; rfl)
            obtain ⟨ji14, hji14⟩ : ∃ j_ : Int, (Int.tmod (wrap64 ((wrap64 (s0_1 + 1)) - 1)) (s0_0.length : Int)) = j_ := ⟨_, rfl⟩
            replace H : (if 0 ≤ (ji14) then (if (ji14) < (s0_0.length : Int) then (if 0 ≤ (Int.tmod (wrap64 ((wrap64 ((wrap64 ((wrap64 (s0_1 + 1)) - 1)) * 7)) + 3)) (s0_0.length : Int)) then (if (Int.tmod (wrap64 ((wrap64 ((wrap64 ((wrap64 (s0_1 + 1)) - 1)) * 7)) + 3)) (s0_0.length : Int)) < (s0_0.length : Int) then (if a1 = 0 then (none) else (some (Int.tmod (Go.bits .xor .i64 (wrap64 ((wrap64 ((wrap64 ((wrap64 ((wrap64 (rd s0_0 (ji14))) * 131)) + (wrap64 ((wrap64 (rd s0_0 (Int.tmod (wrap64 ((wrap64 ((wrap64 ((wrap64 (s0_1 + 1)) - 1)) * 7)) + 3)) (s0_0.length : Int)))) * 1117)))) + (wrap64 ((wrap64 ((wrap64 (s0_1 + 1)) - 1)) * 29)))) + (wrap64 ((wrap64 (Int.tdiv (wrap64 ((wrap64 (s0_1 + 1)) - 1)) (s0_0.length : Int))) * 53)))) (wrap64 (Int.tdiv (wrap64 ((wrap64 ((wrap64 ((wrap64 ((wrap64 (rd s0_0 (ji14))) * 131)) + (wrap64 ((wrap64 (rd s0_0 (Int.tmod (wrap64 ((wrap64 ((wrap64 ((wrap64 (s0_1 + 1)) - 1)) * 7)) + 3)) (s0_0.length : Int)))) * 1117)))) + (wrap64 ((wrap64 ((wrap64 (s0_1 + 1)) - 1)) * 29)))) + (wrap64 ((wrap64 (Int.tdiv (wrap64 ((wrap64 (s0_1 + 1)) - 1)) (s0_0.length : Int))) * 53)))) 64))) a1, (wrap64 (s0_1 + 1))))) else (none)) else (none)) else (none)) else (none)) = some (r1, r2) := by first | (rw [hji14] at H; exact H) | (simp only [hji14] at H ⊢; exact H)
            by_cases c15 : 0 ≤ (ji14)
            · rw [if_pos c15] at H
              have c15b0 : decide (0 ≤ (ji14)) = true := decide_eq_true c15
              clear c15
              by_cases c16 : (ji14) < (s0_0.length : Int)
              · rw [if_pos c16] at H
                have c16b0 : decide ((ji14) < (s0_0.length : Int)) = true := decide_eq_true c16
                clear c16
                obtain ⟨ji17, hji17⟩ : ∃ j_ : Int, (Int.tmod (wrap64 ((wrap64 ((wrap64 ((wrap64 (s0_1 + 1)) - 1)) * 7)) + 3)) (s0_0.length : Int)) = j_ := ⟨_, rfl⟩
                replace H : (if 0 ≤ (ji17) then (if (ji17) < (s0_0.length : Int) then (if a1 = 0 then (none) else (some (Int.tmod (Go.bits .xor .i64 (wrap64 ((wrap64 ((wrap64 ((wrap64 ((wrap64 (rd s0_0 (ji14))) * 131)) + (wrap64 ((wrap64 (rd s0_0 (ji17))) * 1117)))) + (wrap64 ((wrap64 ((wrap64 (s0_1 + 1)) - 1)) * 29)))) + (wrap64 ((wrap64 (Int.tdiv (wrap64 ((wrap64 (s0_1 + 1)) - 1)) (s0_0.length : Int))) * 53)))) (wrap64 (Int.tdiv (wrap64 ((wrap64 ((wrap64 ((wrap64 ((wrap64 (rd s0_0 (ji14))) * 131)) + (wrap64 ((wrap64 (rd s0_0 (ji17))) * 1117)))) + (wrap64 ((wrap64 ((wrap64 (s0_1 + 1)) - 1)) * 29)))) + (wrap64 ((wrap64 (Int.tdiv (wrap64 ((wrap64 (s0_1 + 1)) - 1)) (s0_0.length : Int))) * 53)))) 64))) a1, (wrap64 (s0_1 + 1))))) else (none)) else (none)) = some (r1, r2) := by first | (rw [hji17] at H; exact H) | (simp only [hji17] at H ⊢; exact H)
                by_cases c18 : 0 ≤ (ji17)
                · rw [if_pos c18] at H
                  have c18b0 : decide (0 ≤ (ji17)) = true := decide_eq_true c18
                  clear c18
                  by_cases c19 : (ji17) < (s0_0.length : Int)
                  · rw [if_pos c19] at H
                    have c19b0 : decide ((ji17) < (s0_0.length : Int)) = true := decide_eq_true c19
                    clear c19
                    by_cases c20 : a1 = 0
                    · rw [if_pos c20] at H
                      exact absurd H (by simp)
                    · rw [if_neg c20] at H
                      have c20b0 : (a1 == 0) = false := beq_eq_false_iff_ne.mpr c20
                      have c20b1 : (a1 != 0) = true := bne_iff_ne.mpr c20
                      simp only [Option.some.injEq, Prod.mk.injEq] at H
                      obtain ⟨rfl, rfl⟩ := H
                      obtain ⟨ASz21_0, cSz21_0, HGz21, hgz21, HSz21_0⟩ := HI0.out
                      have hcz21_0 := cellS70_0 HGz21
                      have hcz21_1 := cellS70_1 HGz21
                      have hfz21_1 := blk_frozen HGz21 1
                      clear HGz21 hgz21
                      have p158 : 0 ≤ ((ji14) : Int) := of_decide_eq_true (by first | (with_reducible assumption) | assumption)
                      have q158 : (ji14) < (s0_0.length : Int) := of_decide_eq_true (by first | (with_reducible assumption) | assumption)
                      obtain ⟨ad158, e158, hx158_0⟩ := Kd.at_int HSz21_0 (ji14) p158 q158
                      cases e158
                      replace hx158_0 := pw_cell_below HB.out hx158_0
                      replace p158 := eq_true p158
                      replace q158 := eq_true q158
                      have p159 : 0 ≤ ((ji17) : Int) := of_decide_eq_true (by first | (with_reducible assumption) | assumption)
                      have q159 : (ji17) < (s0_0.length : Int) := of_decide_eq_true (by first | (with_reducible assumption) | assumption)
                      obtain ⟨ad159, e159, hx159_0⟩ := Kd.at_int HSz21_0 (ji17) p159 q159
                      obtain rfl : ad158 = ad159 := (by injection e159)
                      replace hx159_0 := pw_cell_below HB.out hx159_0
                      replace p159 := eq_true p159
                      replace q159 := eq_true q159
                      go_wp2
                      repeat (go_quiet (fail); try go_wp2)
                      go_ret
                      exact ⟨by first | rfl | (simp [errW_none, errW_some] <;> rfl) | (simp only [← hji14, ← hji17]; first | rfl | (simp [errW_none, errW_some] <;> rfl)) | (simp [*, errW_none, errW_some] <;> rfl), by repeat (first | (with_reducible first | exact HI0.out | apply IsS70.alloc | apply IsS70.drewN | apply IsS70.drew | apply IsS70.set_1) | exact HI0.out), by repeat (first | (with_reducible first | exact HB.out | apply below_alloc | apply pw_below_drewN | apply below_drew1 | refine below_set ?_ (IsS70.ge HI0.out)) | exact HB.out), by repeat (first | (with_reducible first | exact HK.out | apply KeepBut.set_ | apply keep_drewN | apply keep_drew | apply keep_alloc) | exact HK.out)⟩
                  · rw [if_neg c19] at H
                    exact absurd H (by simp)
                · rw [if_neg c18] at H
                  exact absurd H (by simp)
              · rw [if_neg c16] at H
                exact absurd H (by simp)
            · rw [if_neg c15] at H
              exact absurd H (by simp)

/-! ### spec_l20Box: function 73 -/
def spec_l20Box.f (k : Nat) (s0_0 : List Int) (s0_1 : Int) : Option (Int × Int × Int × Int) := (spec_l20Rd_pick.f k s0_0 s0_1 8).bind fun bt160 => ((spec_l20Rd_pick.f k s0_0 bt160.2 (wrap64 ((wrap64 (1 + bt160.1)) + 1))).bind fun bt162 => ((spec_l20Rd_pick.f k s0_0 bt162.2 40).bind fun bt164 => ((spec_l20Rd_pick.f k s0_0 bt164.2 40).bind fun bt166 => ((spec_l20Rd_pick.f k s0_0 bt166.2 (wrap64 ((wrap64 ((wrap64 (1 + bt160.1)) - bt162.1)) + 1))).bind fun bt168 => ((spec_l20Rd_pick.f k s0_0 bt168.2 30).bind fun bt170 => (some (wrap64 ((wrap64 (1 + bt160.1)) + (wrap64 ((wrap64 (Int.tdiv bt164.1 39)) * 8))), wrap64 (bt162.1 - (wrap64 ((wrap64 (Int.tdiv bt166.1 39)) * 9))), wrap64 (bt168.1 + (wrap64 (Int.tdiv bt170.1 29))), bt170.2)))))))
theorem spec_l20Box.mono : ∀ a0 a1 k, LeO (spec_l20Box.f k a0 a1) (spec_l20Box.f (k + 1) a0 a1) := by
  intro a0 a1 k
  unfold spec_l20Box.f
  repeat' first
      | (with_reducible exact spec_l20Rd_pick.mono _ _ _ _)
      | (with_reducible exact LeO.refl _)
      | (with_reducible exact LeO.none _)
      | (with_reducible refine LeO.ite ?_ ?_)
      | (with_reducible refine LeO.bind ?_ (fun _ => ?_))
      | exact spec_l20Rd_pick.mono _ _ _ _
      | exact LeO.none _
      | refine LeO.ite ?_ ?_
      | refine LeO.bind ?_ (fun _ => ?_)
set_option maxHeartbeats 8000000 in
set_option maxRecDepth 100000 in
theorem spec_l20Box.calls (k : Nat) (g : Nat) (s0_0 : List Int) (s0_1 : Int) (r1 : Int) (r2 : Int) (r3 : Int) (r4 : Int) (w0 w : World) (hI : IsS70 w0 w g s0_0 s0_1) (hB : Below w0.heap.size w0 w) (h : spec_l20Box.f k s0_0 s0_1 = some (r1, r2, r3, r4)) :
    Calls Try.prog 73 #[.pointer (some ⟨g, 0, none⟩)] w fun e w' => e = .returned (.tuple #[.int .i64 r1, .int .i64 r2, .int .i64 r3]) ∧ IsS70 w0 w' g s0_0 r4 ∧ Below w0.heap.size w0 w' ∧ KeepBut w w' g none := by
  have HI0 := Aside0.mk hI
  have HK := Aside0.mk (KeepBut.refl w g none)
  have HL := Aside0.mk hB.size
  clear hI
  have HW0 := Aside0.mk hB.size
  have HB := Aside0.mk hB
  clear hB
  have H : ((spec_l20Rd_pick.f k s0_0 s0_1 8).bind fun bt160 => ((spec_l20Rd_pick.f k s0_0 bt160.2 (wrap64 ((wrap64 (1 + bt160.1)) + 1))).bind fun bt162 => ((spec_l20Rd_pick.f k s0_0 bt162.2 40).bind fun bt164 => ((spec_l20Rd_pick.f k s0_0 bt164.2 40).bind fun bt166 => ((spec_l20Rd_pick.f k s0_0 bt166.2 (wrap64 ((wrap64 ((wrap64 (1 + bt160.1)) - bt162.1)) + 1))).bind fun bt168 => ((spec_l20Rd_pick.f k s0_0 bt168.2 30).bind fun bt170 => (some (wrap64 ((wrap64 (1 + bt160.1)) + (wrap64 ((wrap64 (Int.tdiv bt164.1 39)) * 8))), wrap64 (bt162.1 - (wrap64 ((wrap64 (Int.tdiv bt166.1 39)) * 9))), wrap64 (bt168.1 + (wrap64 (Int.tdiv bt170.1 29))), bt170.2)))))))) = some (r1, r2, r3, r4) := h
  clear h
  replace H := Option.bind_eq_some_iff.mp H
  obtain ⟨⟨t160, t161⟩, A20, H⟩ := H
  replace H : ((spec_l20Rd_pick.f k s0_0 t161 (wrap64 ((wrap64 (1 + t160)) + 1))).bind fun bt162 => ((spec_l20Rd_pick.f k s0_0 bt162.2 40).bind fun bt164 => ((spec_l20Rd_pick.f k s0_0 bt164.2 40).bind fun bt166 => ((spec_l20Rd_pick.f k s0_0 bt166.2 (wrap64 ((wrap64 ((wrap64 (1 + t160)) - bt162.1)) + 1))).bind fun bt168 => ((spec_l20Rd_pick.f k s0_0 bt168.2 30).bind fun bt170 => (some (wrap64 ((wrap64 (1 + t160)) + (wrap64 ((wrap64 (Int.tdiv bt164.1 39)) * 8))), wrap64 (bt162.1 - (wrap64 ((wrap64 (Int.tdiv bt166.1 39)) * 9))), wrap64 (bt168.1 + (wrap64 (Int.tdiv bt170.1 29))), bt170.2))))))) = some (r1, r2, r3, r4) := H
  have A2 := Aside0.mk A20
  clear A20
  replace H := Option.bind_eq_some_iff.mp H
  obtain ⟨⟨t162, t163⟩, A30, H⟩ := H
  replace H : ((spec_l20Rd_pick.f k s0_0 t163 40).bind fun bt164 => ((spec_l20Rd_pick.f k s0_0 bt164.2 40).bind fun bt166 => ((spec_l20Rd_pick.f k s0_0 bt166.2 (wrap64 ((wrap64 ((wrap64 (1 + t160)) - t162)) + 1))).bind fun bt168 => ((spec_l20Rd_pick.f k s0_0 bt168.2 30).bind fun bt170 => (some (wrap64 ((wrap64 (1 + t160)) + (wrap64 ((wrap64 (Int.tdiv bt164.1 39)) * 8))), wrap64 (t162 - (wrap64 ((wrap64 (Int.tdiv bt166.1 39)) * 9))), wrap64 (bt168.1 + (wrap64 (Int.tdiv bt170.1 29))), bt170.2)))))) = some (r1, r2, r3, r4) := H
  have A3 := Aside0.mk A30
  clear A30
  replace H := Option.bind_eq_some_iff.mp H
  obtain ⟨⟨t164, t165⟩, A40, H⟩ := H
  replace H : ((spec_l20Rd_pick.f k s0_0 t165 40).bind fun bt166 => ((spec_l20Rd_pick.f k s0_0 bt166.2 (wrap64 ((wrap64 ((wrap64 (1 + t160)) - t162)) + 1))).bind fun bt168 => ((spec_l20Rd_pick.f k s0_0 bt168.2 30).bind fun bt170 => (some (wrap64 ((wrap64 (1 + t160)) + (wrap64 ((wrap64 (Int.tdiv t164 39)) * 8))), wrap64 (t162 - (wrap64 ((wrap64 (Int.tdiv bt166.1 39)) * 9))), wrap64 (bt168.1 + (wrap64 (Int.tdiv bt170.1 29))), bt170.2))))) = some (r1, r2, r3, r4) := H
  have A4 := Aside0.mk A40
  clear A40
  replace H := Option.bind_eq_some_iff.mp H
  obtain ⟨⟨t166, t167⟩, A50, H⟩ := H
  replace H : ((spec_l20Rd_pick.f k s0_0 t167 (wrap64 ((wrap64 ((wrap64 (1 + t160)) - t162)) + 1))).bind fun bt168 => ((spec_l20Rd_pick.f k s0_0 bt168.2 30).bind fun bt170 => (some (wrap64 ((wrap64 (1 + t160)) + (wrap64 ((wrap64 (Int.tdiv t164 39)) * 8))), wrap64 (t162 - (wrap64 ((wrap64 (Int.tdiv t166 39)) * 9))), wrap64 (bt168.1 + (wrap64 (Int.tdiv bt170.1 29))), bt170.2)))) = some (r1, r2, r3, r4) := H
  have A5 := Aside0.mk A50
  clear A50
  replace H := Option.bind_eq_some_iff.mp H
  obtain ⟨⟨t168, t169⟩, A60, H⟩ := H
  replace H : ((spec_l20Rd_pick.f k s0_0 t169 30).bind fun bt170 => (some (wrap64 ((wrap64 (1 + t160)) + (wrap64 ((wrap64 (Int.tdiv t164 39)) * 8))), wrap64 (t162 - (wrap64 ((wrap64 (Int.tdiv t166 39)) * 9))), wrap64 (t168 + (wrap64 (Int.tdiv bt170.1 29))), bt170.2))) = some (r1, r2, r3, r4) := H
  have A6 := Aside0.mk A60
  clear A60
  replace H := Option.bind_eq_some_iff.mp H
  obtain ⟨⟨t170, t171⟩, A70, H⟩ := H
  replace H : (some (wrap64 ((wrap64 (1 + t160)) + (wrap64 ((wrap64 (Int.tdiv t164 39)) * 8))), wrap64 (t162 - (wrap64 ((wrap64 (Int.tdiv t166 39)) * 9))), wrap64 (t168 + (wrap64 (Int.tdiv t170 29))), t171)) = some (r1, r2, r3, r4) := H
  have A7 := Aside0.mk A70
  clear A70
  simp only [Option.some.injEq, Prod.mk.injEq] at H
  obtain ⟨rfl, rfl, rfl, rfl⟩ := H
  go_enter Try.func73, Try.ntmps73
  go_wp2_with (first | ((with_reducible refine gate_callee (f := 53) rfl ?_); refine goesL_ (some 8) rfl rfl Try.func53 (by kernel_rfl) rfl #[.pointer (some ⟨g, 0, none⟩), .int .i64 8] rfl (by (try simp only [List.map_toArray, List.map_cons, List.map_nil]); first | done | rfl | (simp only [List.length_drop, List.length_take]; rfl)) ?_; (with_reducible refine (spec_l20Rd_pick.calls k g s0_0 s0_1 8 t160 t161 w0 _ ?side1 ?side2 A2.out).mono ?_); (case side1 => repeat (first | (with_reducible first | exact HI0.out | apply IsS70.alloc | apply IsS70.drewN | apply IsS70.drew | apply IsS70.set_1) | exact HI0.out)); (case side2 => repeat (first | (with_reducible first | exact HB.out | apply below_alloc | apply pw_below_drewN | apply below_drew1 | refine below_set ?_ (IsS70.ge HI0.out)) | exact HB.out)); rintro e w8 ⟨rfl, hi, hb, hk⟩; refine ⟨_, rfl, ?_⟩; have n0_ := Aside0.mk (KeepBut.trans (by repeat (first | (with_reducible first | exact HK.out | apply KeepBut.set_ | apply keep_drewN | apply keep_drew | apply keep_alloc) | exact HK.out)) hk (.inl rfl)); have n1_ := Aside0.mk (hb); have n2_ := Aside0.mk (hi); clear HK; clear HB; clear HI0; have HK := n0_; have HB := n1_; have HI0 := n2_; clear n0_ n1_ n2_; (try clear hb); (try clear hb2); (try clear hk); (try clear hi)) | ((with_reducible refine gate_callee (f := 53) rfl ?_); refine goesL_ (some 13) rfl rfl Try.func53 (by kernel_rfl) rfl #[.pointer (some ⟨g, 0, none⟩), .int .i64 (wrap64 ((wrap64 (1 + t160)) + 1))] rfl (by (try simp only [List.map_toArray, List.map_cons, List.map_nil]); first | done | rfl | (simp only [List.length_drop, List.length_take]; rfl)) ?_; (with_reducible refine (spec_l20Rd_pick.calls k g s0_0 t161 (wrap64 ((wrap64 (1 + t160)) + 1)) t162 t163 w0 _ ?side1 ?side2 A3.out).mono ?_); (case side1 => repeat (first | (with_reducible first | exact HI0.out | apply IsS70.alloc | apply IsS70.drewN | apply IsS70.drew | apply IsS70.set_1) | exact HI0.out)); (case side2 => repeat (first | (with_reducible first | exact HB.out | apply below_alloc | apply pw_below_drewN | apply below_drew1 | refine below_set ?_ (IsS70.ge HI0.out)) | exact HB.out)); rintro e w9 ⟨rfl, hi, hb, hk⟩; refine ⟨_, rfl, ?_⟩; have n0_ := Aside0.mk (KeepBut.trans (by repeat (first | (with_reducible first | exact HK.out | apply KeepBut.set_ | apply keep_drewN | apply keep_drew | apply keep_alloc) | exact HK.out)) hk (.inl rfl)); have n1_ := Aside0.mk (hb); have n2_ := Aside0.mk (hi); clear HK; clear HB; clear HI0; have HK := n0_; have HB := n1_; have HI0 := n2_; clear n0_ n1_ n2_; (try clear hb); (try clear hb2); (try clear hk); (try clear hi)) | ((with_reducible refine gate_callee (f := 53) rfl ?_); refine goesL_ (some 16) rfl rfl Try.func53 (by kernel_rfl) rfl #[.pointer (some ⟨g, 0, none⟩), .int .i64 40] rfl (by (try simp only [List.map_toArray, List.map_cons, List.map_nil]); first | done | rfl | (simp only [List.length_drop, List.length_take]; rfl)) ?_; (with_reducible refine (spec_l20Rd_pick.calls k g s0_0 t163 40 t164 t165 w0 _ ?side1 ?side2 A4.out).mono ?_); (case side1 => repeat (first | (with_reducible first | exact HI0.out | apply IsS70.alloc | apply IsS70.drewN | apply IsS70.drew | apply IsS70.set_1) | exact HI0.out)); (case side2 => repeat (first | (with_reducible first | exact HB.out | apply below_alloc | apply pw_below_drewN | apply below_drew1 | refine below_set ?_ (IsS70.ge HI0.out)) | exact HB.out)); rintro e w10 ⟨rfl, hi, hb, hk⟩; refine ⟨_, rfl, ?_⟩; have n0_ := Aside0.mk (KeepBut.trans (by repeat (first | (with_reducible first | exact HK.out | apply KeepBut.set_ | apply keep_drewN | apply keep_drew | apply keep_alloc) | exact HK.out)) hk (.inl rfl)); have n1_ := Aside0.mk (hb); have n2_ := Aside0.mk (hi); clear HK; clear HB; clear HI0; have HK := n0_; have HB := n1_; have HI0 := n2_; clear n0_ n1_ n2_; (try clear hb); (try clear hb2); (try clear hk); (try clear hi)) | ((with_reducible refine gate_callee (f := 53) rfl ?_); refine goesL_ (some 22) rfl rfl Try.func53 (by kernel_rfl) rfl #[.pointer (some ⟨g, 0, none⟩), .int .i64 40] rfl (by (try simp only [List.map_toArray, List.map_cons, List.map_nil]); first | done | rfl | (simp only [List.length_drop, List.length_take]; rfl)) ?_; (with_reducible refine (spec_l20Rd_pick.calls k g s0_0 t165 40 t166 t167 w0 _ ?side1 ?side2 A5.out).mono ?_); (case side1 => repeat (first | (with_reducible first | exact HI0.out | apply IsS70.alloc | apply IsS70.drewN | apply IsS70.drew | apply IsS70.set_1) | exact HI0.out)); (case side2 => repeat (first | (with_reducible first | exact HB.out | apply below_alloc | apply pw_below_drewN | apply below_drew1 | refine below_set ?_ (IsS70.ge HI0.out)) | exact HB.out)); rintro e w11 ⟨rfl, hi, hb, hk⟩; refine ⟨_, rfl, ?_⟩; have n0_ := Aside0.mk (KeepBut.trans (by repeat (first | (with_reducible first | exact HK.out | apply KeepBut.set_ | apply keep_drewN | apply keep_drew | apply keep_alloc) | exact HK.out)) hk (.inl rfl)); have n1_ := Aside0.mk (hb); have n2_ := Aside0.mk (hi); clear HK; clear HB; clear HI0; have HK := n0_; have HB := n1_; have HI0 := n2_; clear n0_ n1_ n2_; (try clear hb); (try clear hb2); (try clear hk); (try clear hi)) | ((with_reducible refine gate_callee (f := 53) rfl ?_); refine goesL_ (some 31) rfl rfl Try.func53 (by kernel_rfl) rfl #[.pointer (some ⟨g, 0, none⟩), .int .i64 (wrap64 ((wrap64 ((wrap64 (1 + t160)) - t162)) + 1))] rfl (by (try simp only [List.map_toArray, List.map_cons, List.map_nil]); first | done | rfl | (simp only [List.length_drop, List.length_take]; rfl)) ?_; (with_reducible refine (spec_l20Rd_pick.calls k g s0_0 t167 (wrap64 ((wrap64 ((wrap64 (1 + t160)) - t162)) + 1)) t168 t169 w0 _ ?side1 ?side2 A6.out).mono ?_); (case side1 => repeat (first | (with_reducible first | exact HI0.out | apply IsS70.alloc | apply IsS70.drewN | apply IsS70.drew | apply IsS70.set_1) | exact HI0.out)); (case side2 => repeat (first | (with_reducible first | exact HB.out | apply below_alloc | apply pw_below_drewN | apply below_drew1 | refine below_set ?_ (IsS70.ge HI0.out)) | exact HB.out)); rintro e w12 ⟨rfl, hi, hb, hk⟩; refine ⟨_, rfl, ?_⟩; have n0_ := Aside0.mk (KeepBut.trans (by repeat (first | (with_reducible first | exact HK.out | apply KeepBut.set_ | apply keep_drewN | apply keep_drew | apply keep_alloc) | exact HK.out)) hk (.inl rfl)); have n1_ := Aside0.mk (hb); have n2_ := Aside0.mk (hi); clear HK; clear HB; clear HI0; have HK := n0_; have HB := n1_; have HI0 := n2_; clear n0_ n1_ n2_; (try clear hb); (try clear hb2); (try clear hk); (try clear hi)) | ((with_reducible refine gate_callee (f := 53) rfl ?_); refine goesL_ (some 33) rfl rfl Try.func53 (by kernel_rfl) rfl #[.pointer (some ⟨g, 0, none⟩), .int .i64 30] rfl (by (try simp only [List.map_toArray, List.map_cons, List.map_nil]); first | done | rfl | (simp only [List.length_drop, List.length_take]; rfl)) ?_; (with_reducible refine (spec_l20Rd_pick.calls k g s0_0 t169 30 t170 t171 w0 _ ?side1 ?side2 A7.out).mono ?_); (case side1 => repeat (first | (with_reducible first | exact HI0.out | apply IsS70.alloc | apply IsS70.drewN | apply IsS70.drew | apply IsS70.set_1) | exact HI0.out)); (case side2 => repeat (first | (with_reducible first | exact HB.out | apply below_alloc | apply pw_below_drewN | apply below_drew1 | refine below_set ?_ (IsS70.ge HI0.out)) | exact HB.out)); rintro e w13 ⟨rfl, hi, hb, hk⟩; refine ⟨_, rfl, ?_⟩; have n0_ := Aside0.mk (KeepBut.trans (by repeat (first | (with_reducible first | exact HK.out | apply KeepBut.set_ | apply keep_drewN | apply keep_drew | apply keep_alloc) | exact HK.out)) hk (.inl rfl)); have n1_ := Aside0.mk (hb); have n2_ := Aside0.mk (hi); clear HK; clear HB; clear HI0; have HK := n0_; have HB := n1_; have HI0 := n2_; clear n0_ n1_ n2_; (try clear hb); (try clear hb2); (try clear hk); (try clear hi)))
  go_ret3
  exact ⟨by first | rfl | (simp [errW_none, errW_some] <;> rfl) | (simp [*, errW_none, errW_some] <;> rfl), by repeat (first | (with_reducible first | exact HI0.out | apply IsS70.alloc | apply IsS70.drewN | apply IsS70.drew | apply IsS70.set_1) | exact HI0.out), by repeat (first | (with_reducible first | exact HB.out | apply below_alloc | apply pw_below_drewN | apply below_drew1 | refine below_set ?_ (IsS70.ge HI0.out)) | exact HB.out), by repeat (first | (with_reducible first | exact HK.out | apply KeepBut.set_ | apply keep_drewN | apply keep_drew | apply keep_alloc) | exact HK.out)⟩

/-! ### spec_DrawBoxSum: function 27 -/
def spec_DrawBoxSum.f (k : Nat) (l0 : List Int) : Option (Int × Int × Int) := (spec_l20Open.f l0).bind fun bt172 => ((spec_l20Box.f k bt172.1 bt172.2).bind fun bt175 => (some (bt175.1, bt175.2.1, bt175.2.2.1)))
theorem spec_DrawBoxSum.mono : ∀ a0 k, LeO (spec_DrawBoxSum.f k a0) (spec_DrawBoxSum.f (k + 1) a0) := by
  intro a0 k
  unfold spec_DrawBoxSum.f
  repeat' first
      | (with_reducible exact spec_l20Box.mono _ _ _)
      | (with_reducible exact LeO.refl _)
      | (with_reducible exact LeO.none _)
      | (with_reducible refine LeO.ite ?_ ?_)
      | (with_reducible refine LeO.bind ?_ (fun _ => ?_))
      | exact spec_l20Box.mono _ _ _
      | exact LeO.none _
      | refine LeO.ite ?_ ?_
      | refine LeO.bind ?_ (fun _ => ?_)
set_option maxHeartbeats 8000000 in
set_option maxRecDepth 100000 in
theorem spec_DrawBoxSum.calls (k : Nat) (A0 : Option Addr) (c0 : Nat) (l0 : List Int) (r1 : Int) (r2 : Int) (r3 : Int) (w : World) (hr0 : Kd.C (Kd.int .u8) w A0 l0.length l0) (hc0 : l0.length ≤ c0) (h : spec_DrawBoxSum.f k l0 = some (r1, r2, r3)) :
    Calls Try.prog 27 #[.slice A0 l0.length c0] w fun e w' => e = .returned (.tuple #[.int .i64 r1, .int .i64 r2, .int .i64 r3]) ∧ Below w.heap.size w w' := by
  have HR0 := Aside0.mk hr0
  have HC0 := Aside0.mk hc0
  clear hr0 hc0
  have HB := Aside0.mk (Below.refl w.heap.size w)
  have H : ((spec_l20Open.f l0).bind fun bt172 => ((spec_l20Box.f k bt172.1 bt172.2).bind fun bt175 => (some (bt175.1, bt175.2.1, bt175.2.2.1)))) = some (r1, r2, r3) := h
  clear h
  replace H := Option.bind_eq_some_iff.mp H
  obtain ⟨⟨t172, t173⟩, A20, H⟩ := H
  replace H : ((spec_l20Box.f k t172 t173).bind fun bt175 => (some (bt175.1, bt175.2.1, bt175.2.2.1))) = some (r1, r2, r3) := H
  have A2 := Aside0.mk A20
  clear A20
  replace H := Option.bind_eq_some_iff.mp H
  obtain ⟨⟨t175, t176, t177, t178⟩, A30, H⟩ := H
  replace H : (some (t175, t176, t177)) = some (r1, r2, r3) := H
  have A3 := Aside0.mk A30
  clear A30
  simp only [Option.some.injEq, Prod.mk.injEq] at H
  obtain ⟨rfl, rfl, rfl⟩ := H
  go_enter Try.func27, Try.ntmps27
  go_wp2_with (first | ((with_reducible refine gate_callee (f := 51) rfl ?_); refine goesL_ (some 6) rfl rfl Try.func51 (by kernel_rfl) rfl #[.slice A0 l0.length c0] rfl (by (try simp only [List.map_toArray, List.map_cons, List.map_nil]); first | done | rfl | (simp only [List.length_drop, List.length_take]; rfl)) ?_; (with_reducible refine (spec_l20Open.calls _ _ l0 t172 t173 w _ ?side1 ?side2 ?side3 A2.out).mono ?_); (case side1 => repeat (first | (with_reducible first | exact HB.out | apply below_alloc | apply pw_below_drewN | apply below_drew1) | exact HB.out)); (case side2 => exact HR0.out); (case side3 => exact HC0.out); rintro e w4 ⟨g174, rfl, hi, hb, hb2⟩; refine ⟨_, rfl, ?_⟩; have n0_ := Aside0.mk (hb); have n1_ := Aside0.mk (hi); clear HB; have HB := n0_; have HI174 := n1_; clear n0_ n1_; (try clear hb); (try clear hb2); (try clear hk); (try clear hi)) | ((with_reducible refine gate_callee (f := 73) rfl ?_); refine goesL_ (some 7) rfl rfl Try.func73 (by kernel_rfl) rfl #[.pointer (some ⟨g174, 0, none⟩)] rfl (by (try simp only [List.map_toArray, List.map_cons, List.map_nil]); first | done | rfl | (simp only [List.length_drop, List.length_take]; rfl)) ?_; (with_reducible refine (spec_l20Box.calls k g174 t172 t173 t175 t176 t177 t178 w _ ?side1 ?side2 A3.out).mono ?_); (case side1 => repeat (first | (with_reducible first | exact HI174.out | apply IsS70.alloc | apply IsS70.drewN | apply IsS70.drew | apply IsS70.set_1) | exact HI174.out)); (case side2 => repeat (first | (with_reducible first | exact HB.out | apply below_alloc | apply pw_below_drewN | apply below_drew1 | refine below_set ?_ (IsS70.ge HI174.out)) | exact HB.out)); rintro e w5 ⟨rfl, hi, hb, hk⟩; refine ⟨_, rfl, ?_⟩; have n0_ := Aside0.mk (hb); have n1_ := Aside0.mk (hi); clear HB; clear HI174; have HB := n0_; have HI174 := n1_; clear n0_ n1_; (try clear hb); (try clear hb2); (try clear hk); (try clear hi)))
  go_ret3
  exact ⟨by first | rfl | (simp [errW_none, errW_some] <;> rfl) | (simp [*, errW_none, errW_some] <;> rfl), by repeat (first | (with_reducible first | exact HB.out | apply below_alloc | apply pw_below_drewN | apply below_drew1 | refine below_set ?_ (IsS70.ge HI174.out)) | exact HB.out)⟩

end Go.Proofs.Ythpjeinjldfmjaa.QFnUnknownUrn
