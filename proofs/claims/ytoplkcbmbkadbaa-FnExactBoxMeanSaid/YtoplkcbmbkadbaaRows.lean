/-
  No cell of these rows narrows 'for every input' (looked for: loops, veiled, ifaces, maps, wideKeys, modest, calm, conditions, laid).
  DERIVED. THE GIVEN ROWS OF THIS SEAT. 12 by the template 'for every input the law returns true; each argument reads behind the call as it read before'; 0 by the template 'total and deterministic' (their statements: YtoplkcbmbkadbaaTotals.lean).
  GIVEN WITH THE SEED: the statements are not yours to turn. If you find one false, say at which input.
  Laid BY PROGRAM, IN A SANDBOX (cutbox-rows.mjs): the forced cells as the released guide's own fill.sh prints them over the translation 5208c9b98b44db82… (all of the seat's roots in one cut). By AI agents, Wed Nov 11 2026. No macro, syntax, notation, axiom, sorry.
-/
import Derived.Test.YtoplkcbmbkadbaaChecked
import GoSem.Claim
import GoSem.ClaimJoined
import GoSem.ClaimMapViews
import Derived.JoinedTies
import Derived.KernelRfl
namespace Go.Proofs.Ytoplkcbmbkadbaa
/- THE CELL 'sum', in the pinned program and in every row, IS THE sha256 OF THE DUMP (.gsa) THAT YtoplkcbmbkadbaaProg.lean LOADS. Nothing in Lean hashes anything: it is a label: what it is worth is what the hold of that sum in a sandbox is worth. -/
noncomputable def Try.pinned : Pinned := { name := "ytoplkcbmbkadbaa", sum := "5208c9b98b44db82e38990fb6b1040314953667387e647281687611bb5396d86", checked := Try.checked }
namespace Rows
def none {H : Type} : Left H := { results := [], args := [] }

/-- 'laws.FnExactBoxOk': WHATEVER THE INPUT: true; the input reads as it did. -/
def fnExactBoxOkSpec : ChangeSpec := { name := "fnExactBoxOk", fn := fun _ => fun
  | [d1, d2, d3] => { results := [.lit (.bool true)], args := [d1, d2, d3] }
  | _ => none }
def fnExactBoxOkRow : OpenClaim := { program := "ytoplkcbmbkadbaa", sum := "5208c9b98b44db82e38990fb6b1040314953667387e647281687611bb5396d86", func := "loop.example/urnsandballs/laws.FnExactBoxOk", spec := "fnExactBoxOk", apart := false }
def FnExactBoxOkSaid : Prop := fnExactBoxOkRow.holds Try.pinned (OpenSpec.ofChange fnExactBoxOkSpec)

/-- ITS FALSE NEIGHBOUR: 'it returns false'. Refute it at one input. -/
def fnExactBoxOkWrong : ChangeSpec := { name := "fnExactBoxOk", fn := fun _ => fun
  | [d1, d2, d3] => { results := [.lit (.bool false)], args := [d1, d2, d3] }
  | _ => none }
def FnExactBoxOkWrongFalsely : Prop := fnExactBoxOkRow.holds Try.pinned (OpenSpec.ofChange fnExactBoxOkWrong)

/-- 'laws.FnBoxOk': WHATEVER THE INPUT: true; the input reads as it did. -/
def fnBoxOkSpec : ChangeSpec := { name := "fnBoxOk", fn := fun _ => fun
  | [d] => { results := [.lit (.bool true)], args := [d] }
  | _ => none }
def fnBoxOkRow : OpenClaim := { program := "ytoplkcbmbkadbaa", sum := "5208c9b98b44db82e38990fb6b1040314953667387e647281687611bb5396d86", func := "loop.example/urnsandballs/laws.FnBoxOk", spec := "fnBoxOk", apart := false }
def FnBoxOkSaid : Prop := fnBoxOkRow.holds Try.pinned (OpenSpec.ofChange fnBoxOkSpec)

/-- ITS FALSE NEIGHBOUR: 'it returns false'. Refute it at one input. -/
def fnBoxOkWrong : ChangeSpec := { name := "fnBoxOk", fn := fun _ => fun
  | [d] => { results := [.lit (.bool false)], args := [d] }
  | _ => none }
def FnBoxOkWrongFalsely : Prop := fnBoxOkRow.holds Try.pinned (OpenSpec.ofChange fnBoxOkWrong)

/-- 'laws.FnExactLikeliestBox': WHATEVER THE INPUT: true; the input reads as it did. -/
def fnExactLikeliestBoxSpec : ChangeSpec := { name := "fnExactLikeliestBox", fn := fun _ => fun
  | [d1, d2, d3] => { results := [.lit (.bool true)], args := [d1, d2, d3] }
  | _ => none }
def fnExactLikeliestBoxRow : OpenClaim := { program := "ytoplkcbmbkadbaa", sum := "5208c9b98b44db82e38990fb6b1040314953667387e647281687611bb5396d86", func := "loop.example/urnsandballs/laws.FnExactLikeliestBox", spec := "fnExactLikeliestBox", apart := false }
def FnExactLikeliestBoxSaid : Prop := fnExactLikeliestBoxRow.holds Try.pinned (OpenSpec.ofChange fnExactLikeliestBoxSpec)

/-- ITS FALSE NEIGHBOUR: 'it returns false'. Refute it at one input. -/
def fnExactLikeliestBoxWrong : ChangeSpec := { name := "fnExactLikeliestBox", fn := fun _ => fun
  | [d1, d2, d3] => { results := [.lit (.bool false)], args := [d1, d2, d3] }
  | _ => none }
def FnExactLikeliestBoxWrongFalsely : Prop := fnExactLikeliestBoxRow.holds Try.pinned (OpenSpec.ofChange fnExactLikeliestBoxWrong)

/-- 'laws.FnExactBoxSum': WHATEVER THE INPUT: true; the input reads as it did. -/
def fnExactBoxSumSpec : ChangeSpec := { name := "fnExactBoxSum", fn := fun _ => fun
  | [d1, d2, d3] => { results := [.lit (.bool true)], args := [d1, d2, d3] }
  | _ => none }
def fnExactBoxSumRow : OpenClaim := { program := "ytoplkcbmbkadbaa", sum := "5208c9b98b44db82e38990fb6b1040314953667387e647281687611bb5396d86", func := "loop.example/urnsandballs/laws.FnExactBoxSum", spec := "fnExactBoxSum", apart := false }
def FnExactBoxSumSaid : Prop := fnExactBoxSumRow.holds Try.pinned (OpenSpec.ofChange fnExactBoxSumSpec)

/-- ITS FALSE NEIGHBOUR: 'it returns false'. Refute it at one input. -/
def fnExactBoxSumWrong : ChangeSpec := { name := "fnExactBoxSum", fn := fun _ => fun
  | [d1, d2, d3] => { results := [.lit (.bool false)], args := [d1, d2, d3] }
  | _ => none }
def FnExactBoxSumWrongFalsely : Prop := fnExactBoxSumRow.holds Try.pinned (OpenSpec.ofChange fnExactBoxSumWrong)

/-- 'laws.FnExactBoxWeights': WHATEVER THE INPUT: true; the input reads as it did. -/
def fnExactBoxWeightsSpec : ChangeSpec := { name := "fnExactBoxWeights", fn := fun _ => fun
  | [d1, d2, d3] => { results := [.lit (.bool true)], args := [d1, d2, d3] }
  | _ => none }
def fnExactBoxWeightsRow : OpenClaim := { program := "ytoplkcbmbkadbaa", sum := "5208c9b98b44db82e38990fb6b1040314953667387e647281687611bb5396d86", func := "loop.example/urnsandballs/laws.FnExactBoxWeights", spec := "fnExactBoxWeights", apart := false }
def FnExactBoxWeightsSaid : Prop := fnExactBoxWeightsRow.holds Try.pinned (OpenSpec.ofChange fnExactBoxWeightsSpec)

/-- ITS FALSE NEIGHBOUR: 'it returns false'. Refute it at one input. -/
def fnExactBoxWeightsWrong : ChangeSpec := { name := "fnExactBoxWeights", fn := fun _ => fun
  | [d1, d2, d3] => { results := [.lit (.bool false)], args := [d1, d2, d3] }
  | _ => none }
def FnExactBoxWeightsWrongFalsely : Prop := fnExactBoxWeightsRow.holds Try.pinned (OpenSpec.ofChange fnExactBoxWeightsWrong)

/-- 'laws.FnExactNextChance': WHATEVER THE INPUT: true; the input reads as it did. -/
def fnExactNextChanceSpec : ChangeSpec := { name := "fnExactNextChance", fn := fun _ => fun
  | [d1, d2, d3] => { results := [.lit (.bool true)], args := [d1, d2, d3] }
  | _ => none }
def fnExactNextChanceRow : OpenClaim := { program := "ytoplkcbmbkadbaa", sum := "5208c9b98b44db82e38990fb6b1040314953667387e647281687611bb5396d86", func := "loop.example/urnsandballs/laws.FnExactNextChance", spec := "fnExactNextChance", apart := false }
def FnExactNextChanceSaid : Prop := fnExactNextChanceRow.holds Try.pinned (OpenSpec.ofChange fnExactNextChanceSpec)

/-- ITS FALSE NEIGHBOUR: 'it returns false'. Refute it at one input. -/
def fnExactNextChanceWrong : ChangeSpec := { name := "fnExactNextChance", fn := fun _ => fun
  | [d1, d2, d3] => { results := [.lit (.bool false)], args := [d1, d2, d3] }
  | _ => none }
def FnExactNextChanceWrongFalsely : Prop := fnExactNextChanceRow.holds Try.pinned (OpenSpec.ofChange fnExactNextChanceWrong)

/-- 'laws.FnBoxWeights': WHATEVER THE INPUT: true; the input reads as it did. -/
def fnBoxWeightsSpec : ChangeSpec := { name := "fnBoxWeights", fn := fun _ => fun
  | [d] => { results := [.lit (.bool true)], args := [d] }
  | _ => none }
def fnBoxWeightsRow : OpenClaim := { program := "ytoplkcbmbkadbaa", sum := "5208c9b98b44db82e38990fb6b1040314953667387e647281687611bb5396d86", func := "loop.example/urnsandballs/laws.FnBoxWeights", spec := "fnBoxWeights", apart := false }
def FnBoxWeightsSaid : Prop := fnBoxWeightsRow.holds Try.pinned (OpenSpec.ofChange fnBoxWeightsSpec)

/-- ITS FALSE NEIGHBOUR: 'it returns false'. Refute it at one input. -/
def fnBoxWeightsWrong : ChangeSpec := { name := "fnBoxWeights", fn := fun _ => fun
  | [d] => { results := [.lit (.bool false)], args := [d] }
  | _ => none }
def FnBoxWeightsWrongFalsely : Prop := fnBoxWeightsRow.holds Try.pinned (OpenSpec.ofChange fnBoxWeightsWrong)

/-- 'laws.FnExactBoxMean': WHATEVER THE INPUT: true; the input reads as it did. -/
def fnExactBoxMeanSpec : ChangeSpec := { name := "fnExactBoxMean", fn := fun _ => fun
  | [d1, d2, d3] => { results := [.lit (.bool true)], args := [d1, d2, d3] }
  | _ => none }
def fnExactBoxMeanRow : OpenClaim := { program := "ytoplkcbmbkadbaa", sum := "5208c9b98b44db82e38990fb6b1040314953667387e647281687611bb5396d86", func := "loop.example/urnsandballs/laws.FnExactBoxMean", spec := "fnExactBoxMean", apart := false }
def FnExactBoxMeanSaid : Prop := fnExactBoxMeanRow.holds Try.pinned (OpenSpec.ofChange fnExactBoxMeanSpec)

/-- ITS FALSE NEIGHBOUR: 'it returns false'. Refute it at one input. -/
def fnExactBoxMeanWrong : ChangeSpec := { name := "fnExactBoxMean", fn := fun _ => fun
  | [d1, d2, d3] => { results := [.lit (.bool false)], args := [d1, d2, d3] }
  | _ => none }
def FnExactBoxMeanWrongFalsely : Prop := fnExactBoxMeanRow.holds Try.pinned (OpenSpec.ofChange fnExactBoxMeanWrong)

/-- 'laws.FnLikeliestBox': WHATEVER THE INPUT: true; the input reads as it did. -/
def fnLikeliestBoxSpec : ChangeSpec := { name := "fnLikeliestBox", fn := fun _ => fun
  | [d] => { results := [.lit (.bool true)], args := [d] }
  | _ => none }
def fnLikeliestBoxRow : OpenClaim := { program := "ytoplkcbmbkadbaa", sum := "5208c9b98b44db82e38990fb6b1040314953667387e647281687611bb5396d86", func := "loop.example/urnsandballs/laws.FnLikeliestBox", spec := "fnLikeliestBox", apart := false }
def FnLikeliestBoxSaid : Prop := fnLikeliestBoxRow.holds Try.pinned (OpenSpec.ofChange fnLikeliestBoxSpec)

/-- ITS FALSE NEIGHBOUR: 'it returns false'. Refute it at one input. -/
def fnLikeliestBoxWrong : ChangeSpec := { name := "fnLikeliestBox", fn := fun _ => fun
  | [d] => { results := [.lit (.bool false)], args := [d] }
  | _ => none }
def FnLikeliestBoxWrongFalsely : Prop := fnLikeliestBoxRow.holds Try.pinned (OpenSpec.ofChange fnLikeliestBoxWrong)

/-- 'laws.FnBoxSum': WHATEVER THE INPUT: true; the input reads as it did. -/
def fnBoxSumSpec : ChangeSpec := { name := "fnBoxSum", fn := fun _ => fun
  | [d] => { results := [.lit (.bool true)], args := [d] }
  | _ => none }
def fnBoxSumRow : OpenClaim := { program := "ytoplkcbmbkadbaa", sum := "5208c9b98b44db82e38990fb6b1040314953667387e647281687611bb5396d86", func := "loop.example/urnsandballs/laws.FnBoxSum", spec := "fnBoxSum", apart := false }
def FnBoxSumSaid : Prop := fnBoxSumRow.holds Try.pinned (OpenSpec.ofChange fnBoxSumSpec)

/-- ITS FALSE NEIGHBOUR: 'it returns false'. Refute it at one input. -/
def fnBoxSumWrong : ChangeSpec := { name := "fnBoxSum", fn := fun _ => fun
  | [d] => { results := [.lit (.bool false)], args := [d] }
  | _ => none }
def FnBoxSumWrongFalsely : Prop := fnBoxSumRow.holds Try.pinned (OpenSpec.ofChange fnBoxSumWrong)

/-- 'laws.FnNextChance': WHATEVER THE INPUT: true; the input reads as it did. -/
def fnNextChanceSpec : ChangeSpec := { name := "fnNextChance", fn := fun _ => fun
  | [d] => { results := [.lit (.bool true)], args := [d] }
  | _ => none }
def fnNextChanceRow : OpenClaim := { program := "ytoplkcbmbkadbaa", sum := "5208c9b98b44db82e38990fb6b1040314953667387e647281687611bb5396d86", func := "loop.example/urnsandballs/laws.FnNextChance", spec := "fnNextChance", apart := false }
def FnNextChanceSaid : Prop := fnNextChanceRow.holds Try.pinned (OpenSpec.ofChange fnNextChanceSpec)

/-- ITS FALSE NEIGHBOUR: 'it returns false'. Refute it at one input. -/
def fnNextChanceWrong : ChangeSpec := { name := "fnNextChance", fn := fun _ => fun
  | [d] => { results := [.lit (.bool false)], args := [d] }
  | _ => none }
def FnNextChanceWrongFalsely : Prop := fnNextChanceRow.holds Try.pinned (OpenSpec.ofChange fnNextChanceWrong)

/-- 'laws.FnBoxMean': WHATEVER THE INPUT: true; the input reads as it did. -/
def fnBoxMeanSpec : ChangeSpec := { name := "fnBoxMean", fn := fun _ => fun
  | [d] => { results := [.lit (.bool true)], args := [d] }
  | _ => none }
def fnBoxMeanRow : OpenClaim := { program := "ytoplkcbmbkadbaa", sum := "5208c9b98b44db82e38990fb6b1040314953667387e647281687611bb5396d86", func := "loop.example/urnsandballs/laws.FnBoxMean", spec := "fnBoxMean", apart := false }
def FnBoxMeanSaid : Prop := fnBoxMeanRow.holds Try.pinned (OpenSpec.ofChange fnBoxMeanSpec)

/-- ITS FALSE NEIGHBOUR: 'it returns false'. Refute it at one input. -/
def fnBoxMeanWrong : ChangeSpec := { name := "fnBoxMean", fn := fun _ => fun
  | [d] => { results := [.lit (.bool false)], args := [d] }
  | _ => none }
def FnBoxMeanWrongFalsely : Prop := fnBoxMeanRow.holds Try.pinned (OpenSpec.ofChange fnBoxMeanWrong)

/- THE SECOND FORM. 'bulk': how many values and letters a reading holds, each counted each time it is reached (what is shared counts as often as it is met; a slice's spare places count too). A statement '..UptoSaid' is the law's where the arguments, and the package variables that the reading takes, are together of bulk at most 1048576: NARROWER than '..Said'. Prove '..Said' where nothing that the law and all that it calls make is longer than what came in: it says more and counts as full. Else prove '..UptoSaid'. A law counts once. -/
mutual
def uptoBulk {H : Type} : DataW H → Nat
  | .lit (.string bytes) => bytes.length + 1
  | .lit _ => 1
  | .nil => 1
  | .ptr d => uptoBulk d + 1
  | .slice elems spare => uptoBulkAll elems + uptoBulkAll spare + 1
  | .agg parts => uptoBulkAll parts + 1
  | .iface _ d => uptoBulk d + 1
  | .map entries => uptoBulkEntries entries + 1
  | .held _ => 1
def uptoBulkAll {H : Type} : List (DataW H) → Nat
  | [] => 0
  | d :: r => uptoBulk d + uptoBulkAll r
def uptoBulkEntries {H : Type} : List (Lit × DataW H) → Nat
  | [] => 0
  | x :: r => uptoBulkEntry x + uptoBulkEntries r
def uptoBulkEntry {H : Type} : Lit × DataW H → Nat
  | (.string bytes, d) => bytes.length + uptoBulk d + 1
  | (_, d) => uptoBulk d + 1
 end
def uptoSmall : (H : Type) → List (DataW H) → Bool := fun _ ds => decide (uptoBulkAll ds ≤ 1048576)
def OpenSpec.upto (s : _root_.Go.ChangeSpec) : _root_.Go.OpenSpec := { _root_.Go.OpenSpec.ofChange s with cond := some uptoSmall }

/-- 'laws.FnExactBoxOk', WHERE WHAT IT READS IS OF BULK AT MOST 1048576: true; the input reads as it did. -/
def fnExactBoxOkUptoRow : OpenClaim := { program := "ytoplkcbmbkadbaa", sum := "5208c9b98b44db82e38990fb6b1040314953667387e647281687611bb5396d86", func := "loop.example/urnsandballs/laws.FnExactBoxOk", spec := "fnExactBoxOk", apart := false, narrowed := true }
def FnExactBoxOkUptoSaid : Prop := fnExactBoxOkUptoRow.holds Try.pinned (OpenSpec.upto fnExactBoxOkSpec)

/-- 'laws.FnBoxOk', WHERE WHAT IT READS IS OF BULK AT MOST 1048576: true; the input reads as it did. -/
def fnBoxOkUptoRow : OpenClaim := { program := "ytoplkcbmbkadbaa", sum := "5208c9b98b44db82e38990fb6b1040314953667387e647281687611bb5396d86", func := "loop.example/urnsandballs/laws.FnBoxOk", spec := "fnBoxOk", apart := false, narrowed := true }
def FnBoxOkUptoSaid : Prop := fnBoxOkUptoRow.holds Try.pinned (OpenSpec.upto fnBoxOkSpec)

/-- 'laws.FnExactLikeliestBox', WHERE WHAT IT READS IS OF BULK AT MOST 1048576: true; the input reads as it did. -/
def fnExactLikeliestBoxUptoRow : OpenClaim := { program := "ytoplkcbmbkadbaa", sum := "5208c9b98b44db82e38990fb6b1040314953667387e647281687611bb5396d86", func := "loop.example/urnsandballs/laws.FnExactLikeliestBox", spec := "fnExactLikeliestBox", apart := false, narrowed := true }
def FnExactLikeliestBoxUptoSaid : Prop := fnExactLikeliestBoxUptoRow.holds Try.pinned (OpenSpec.upto fnExactLikeliestBoxSpec)

/-- 'laws.FnExactBoxSum', WHERE WHAT IT READS IS OF BULK AT MOST 1048576: true; the input reads as it did. -/
def fnExactBoxSumUptoRow : OpenClaim := { program := "ytoplkcbmbkadbaa", sum := "5208c9b98b44db82e38990fb6b1040314953667387e647281687611bb5396d86", func := "loop.example/urnsandballs/laws.FnExactBoxSum", spec := "fnExactBoxSum", apart := false, narrowed := true }
def FnExactBoxSumUptoSaid : Prop := fnExactBoxSumUptoRow.holds Try.pinned (OpenSpec.upto fnExactBoxSumSpec)

/-- 'laws.FnExactBoxWeights', WHERE WHAT IT READS IS OF BULK AT MOST 1048576: true; the input reads as it did. -/
def fnExactBoxWeightsUptoRow : OpenClaim := { program := "ytoplkcbmbkadbaa", sum := "5208c9b98b44db82e38990fb6b1040314953667387e647281687611bb5396d86", func := "loop.example/urnsandballs/laws.FnExactBoxWeights", spec := "fnExactBoxWeights", apart := false, narrowed := true }
def FnExactBoxWeightsUptoSaid : Prop := fnExactBoxWeightsUptoRow.holds Try.pinned (OpenSpec.upto fnExactBoxWeightsSpec)

/-- 'laws.FnExactNextChance', WHERE WHAT IT READS IS OF BULK AT MOST 1048576: true; the input reads as it did. -/
def fnExactNextChanceUptoRow : OpenClaim := { program := "ytoplkcbmbkadbaa", sum := "5208c9b98b44db82e38990fb6b1040314953667387e647281687611bb5396d86", func := "loop.example/urnsandballs/laws.FnExactNextChance", spec := "fnExactNextChance", apart := false, narrowed := true }
def FnExactNextChanceUptoSaid : Prop := fnExactNextChanceUptoRow.holds Try.pinned (OpenSpec.upto fnExactNextChanceSpec)

/-- 'laws.FnBoxWeights', WHERE WHAT IT READS IS OF BULK AT MOST 1048576: true; the input reads as it did. -/
def fnBoxWeightsUptoRow : OpenClaim := { program := "ytoplkcbmbkadbaa", sum := "5208c9b98b44db82e38990fb6b1040314953667387e647281687611bb5396d86", func := "loop.example/urnsandballs/laws.FnBoxWeights", spec := "fnBoxWeights", apart := false, narrowed := true }
def FnBoxWeightsUptoSaid : Prop := fnBoxWeightsUptoRow.holds Try.pinned (OpenSpec.upto fnBoxWeightsSpec)

/-- 'laws.FnExactBoxMean', WHERE WHAT IT READS IS OF BULK AT MOST 1048576: true; the input reads as it did. -/
def fnExactBoxMeanUptoRow : OpenClaim := { program := "ytoplkcbmbkadbaa", sum := "5208c9b98b44db82e38990fb6b1040314953667387e647281687611bb5396d86", func := "loop.example/urnsandballs/laws.FnExactBoxMean", spec := "fnExactBoxMean", apart := false, narrowed := true }
def FnExactBoxMeanUptoSaid : Prop := fnExactBoxMeanUptoRow.holds Try.pinned (OpenSpec.upto fnExactBoxMeanSpec)

/-- 'laws.FnLikeliestBox', WHERE WHAT IT READS IS OF BULK AT MOST 1048576: true; the input reads as it did. -/
def fnLikeliestBoxUptoRow : OpenClaim := { program := "ytoplkcbmbkadbaa", sum := "5208c9b98b44db82e38990fb6b1040314953667387e647281687611bb5396d86", func := "loop.example/urnsandballs/laws.FnLikeliestBox", spec := "fnLikeliestBox", apart := false, narrowed := true }
def FnLikeliestBoxUptoSaid : Prop := fnLikeliestBoxUptoRow.holds Try.pinned (OpenSpec.upto fnLikeliestBoxSpec)

/-- 'laws.FnBoxSum', WHERE WHAT IT READS IS OF BULK AT MOST 1048576: true; the input reads as it did. -/
def fnBoxSumUptoRow : OpenClaim := { program := "ytoplkcbmbkadbaa", sum := "5208c9b98b44db82e38990fb6b1040314953667387e647281687611bb5396d86", func := "loop.example/urnsandballs/laws.FnBoxSum", spec := "fnBoxSum", apart := false, narrowed := true }
def FnBoxSumUptoSaid : Prop := fnBoxSumUptoRow.holds Try.pinned (OpenSpec.upto fnBoxSumSpec)

/-- 'laws.FnNextChance', WHERE WHAT IT READS IS OF BULK AT MOST 1048576: true; the input reads as it did. -/
def fnNextChanceUptoRow : OpenClaim := { program := "ytoplkcbmbkadbaa", sum := "5208c9b98b44db82e38990fb6b1040314953667387e647281687611bb5396d86", func := "loop.example/urnsandballs/laws.FnNextChance", spec := "fnNextChance", apart := false, narrowed := true }
def FnNextChanceUptoSaid : Prop := fnNextChanceUptoRow.holds Try.pinned (OpenSpec.upto fnNextChanceSpec)

/-- 'laws.FnBoxMean', WHERE WHAT IT READS IS OF BULK AT MOST 1048576: true; the input reads as it did. -/
def fnBoxMeanUptoRow : OpenClaim := { program := "ytoplkcbmbkadbaa", sum := "5208c9b98b44db82e38990fb6b1040314953667387e647281687611bb5396d86", func := "loop.example/urnsandballs/laws.FnBoxMean", spec := "fnBoxMean", apart := false, narrowed := true }
def FnBoxMeanUptoSaid : Prop := fnBoxMeanUptoRow.holds Try.pinned (OpenSpec.upto fnBoxMeanSpec)

end Rows
end Go.Proofs.Ytoplkcbmbkadbaa
