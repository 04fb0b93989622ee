/-
  No cell of these rows narrows 'for every input' (looked for: loops, veiled, ifaces, maps, wideKeys, modest, calm, conditions, laid).
  DERIVED. THE GIVEN ROWS OF THIS SEAT. 12 by the template 'for every input the law returns true; each argument reads behind the call as it read before'; 0 by the template 'total and deterministic' (their statements: YthpjeinjldfmjaaTotals.lean).
  GIVEN WITH THE SEED: the statements are not yours to turn. If you find one false, say at which input.
  Laid BY PROGRAM, IN A SANDBOX (cutbox-rows.mjs): the forced cells as the released guide's own fill.sh prints them over the translation 66bc23969adcbfa9… (all of the seat's roots in one cut). By AI agents, Wed Nov 11 2026. No macro, syntax, notation, axiom, sorry.
-/
import Derived.Test.YthpjeinjldfmjaaChecked
import GoSem.Claim
import GoSem.ClaimJoined
import GoSem.ClaimMapViews
import Derived.JoinedTies
import Derived.KernelRfl
namespace Go.Proofs.Ythpjeinjldfmjaa
/- THE CELL 'sum', in the pinned program and in every row, IS THE sha256 OF THE DUMP (.gsa) THAT YthpjeinjldfmjaaProg.lean LOADS. Nothing in Lean hashes anything: it is a label: what it is worth is what the hold of that sum in a sandbox is worth. -/
noncomputable def Try.pinned : Pinned := { name := "ythpjeinjldfmjaa", sum := "66bc23969adcbfa96a8fd481727967850dfd74e3f9011620d41fb89224542a6c", checked := Try.checked }
namespace Rows
def none {H : Type} : Left H := { results := [], args := [] }

/-- 'laws.FnSameCounts': WHATEVER THE INPUT: true; the input reads as it did. -/
def fnSameCountsSpec : ChangeSpec := { name := "fnSameCounts", fn := fun _ => fun
  | [d] => { results := [.lit (.bool true)], args := [d] }
  | _ => none }
def fnSameCountsRow : OpenClaim := { program := "ythpjeinjldfmjaa", sum := "66bc23969adcbfa96a8fd481727967850dfd74e3f9011620d41fb89224542a6c", func := "loop.example/urnsandballs/laws.FnSameCounts", spec := "fnSameCounts", unfollowed := true, recurses := true, apart := false }
def FnSameCountsSaid : Prop := fnSameCountsRow.holds Try.pinned (OpenSpec.ofChange fnSameCountsSpec)

/-- ITS FALSE NEIGHBOUR: 'it returns false'. Refute it at one input. -/
def fnSameCountsWrong : ChangeSpec := { name := "fnSameCounts", fn := fun _ => fun
  | [d] => { results := [.lit (.bool false)], args := [d] }
  | _ => none }
def FnSameCountsWrongFalsely : Prop := fnSameCountsRow.holds Try.pinned (OpenSpec.ofChange fnSameCountsWrong)

/-- 'laws.FnSameSteps': WHATEVER THE INPUT: true; the input reads as it did. -/
def fnSameStepsSpec : ChangeSpec := { name := "fnSameSteps", fn := fun _ => fun
  | [d] => { results := [.lit (.bool true)], args := [d] }
  | _ => none }
def fnSameStepsRow : OpenClaim := { program := "ythpjeinjldfmjaa", sum := "66bc23969adcbfa96a8fd481727967850dfd74e3f9011620d41fb89224542a6c", func := "loop.example/urnsandballs/laws.FnSameSteps", spec := "fnSameSteps", unfollowed := true, recurses := true, apart := false }
def FnSameStepsSaid : Prop := fnSameStepsRow.holds Try.pinned (OpenSpec.ofChange fnSameStepsSpec)

/-- ITS FALSE NEIGHBOUR: 'it returns false'. Refute it at one input. -/
def fnSameStepsWrong : ChangeSpec := { name := "fnSameSteps", fn := fun _ => fun
  | [d] => { results := [.lit (.bool false)], args := [d] }
  | _ => none }
def FnSameStepsWrongFalsely : Prop := fnSameStepsRow.holds Try.pinned (OpenSpec.ofChange fnSameStepsWrong)

/-- 'laws.FnSameAll': WHATEVER THE INPUT: true; the input reads as it did. -/
def fnSameAllSpec : ChangeSpec := { name := "fnSameAll", fn := fun _ => fun
  | [d] => { results := [.lit (.bool true)], args := [d] }
  | _ => none }
def fnSameAllRow : OpenClaim := { program := "ythpjeinjldfmjaa", sum := "66bc23969adcbfa96a8fd481727967850dfd74e3f9011620d41fb89224542a6c", func := "loop.example/urnsandballs/laws.FnSameAll", spec := "fnSameAll", unfollowed := true, recurses := true, apart := false }
def FnSameAllSaid : Prop := fnSameAllRow.holds Try.pinned (OpenSpec.ofChange fnSameAllSpec)

/-- ITS FALSE NEIGHBOUR: 'it returns false'. Refute it at one input. -/
def fnSameAllWrong : ChangeSpec := { name := "fnSameAll", fn := fun _ => fun
  | [d] => { results := [.lit (.bool false)], args := [d] }
  | _ => none }
def FnSameAllWrongFalsely : Prop := fnSameAllRow.holds Try.pinned (OpenSpec.ofChange fnSameAllWrong)

/-- 'laws.FnUnknownUrn': WHATEVER THE INPUT: true; the input reads as it did. -/
def fnUnknownUrnSpec : ChangeSpec := { name := "fnUnknownUrn", fn := fun _ => fun
  | [d] => { results := [.lit (.bool true)], args := [d] }
  | _ => none }
def fnUnknownUrnRow : OpenClaim := { program := "ythpjeinjldfmjaa", sum := "66bc23969adcbfa96a8fd481727967850dfd74e3f9011620d41fb89224542a6c", func := "loop.example/urnsandballs/laws.FnUnknownUrn", spec := "fnUnknownUrn", unfollowed := true, recurses := true, apart := false }
def FnUnknownUrnSaid : Prop := fnUnknownUrnRow.holds Try.pinned (OpenSpec.ofChange fnUnknownUrnSpec)

/-- ITS FALSE NEIGHBOUR: 'it returns false'. Refute it at one input. -/
def fnUnknownUrnWrong : ChangeSpec := { name := "fnUnknownUrn", fn := fun _ => fun
  | [d] => { results := [.lit (.bool false)], args := [d] }
  | _ => none }
def FnUnknownUrnWrongFalsely : Prop := fnUnknownUrnRow.holds Try.pinned (OpenSpec.ofChange fnUnknownUrnWrong)

/-- 'laws.FnExactCountWays': WHATEVER THE INPUT: true; the input reads as it did. -/
def fnExactCountWaysSpec : ChangeSpec := { name := "fnExactCountWays", fn := fun _ => fun
  | [d1, d2] => { results := [.lit (.bool true)], args := [d1, d2] }
  | _ => none }
def fnExactCountWaysRow : OpenClaim := { program := "ythpjeinjldfmjaa", sum := "66bc23969adcbfa96a8fd481727967850dfd74e3f9011620d41fb89224542a6c", func := "loop.example/urnsandballs/laws.FnExactCountWays", spec := "fnExactCountWays", unfollowed := true, recurses := true, apart := false }
def FnExactCountWaysSaid : Prop := fnExactCountWaysRow.holds Try.pinned (OpenSpec.ofChange fnExactCountWaysSpec)

/-- ITS FALSE NEIGHBOUR: 'it returns false'. Refute it at one input. -/
def fnExactCountWaysWrong : ChangeSpec := { name := "fnExactCountWays", fn := fun _ => fun
  | [d1, d2] => { results := [.lit (.bool false)], args := [d1, d2] }
  | _ => none }
def FnExactCountWaysWrongFalsely : Prop := fnExactCountWaysRow.holds Try.pinned (OpenSpec.ofChange fnExactCountWaysWrong)

/-- 'laws.FnShareSum': WHATEVER THE INPUT: true; the input reads as it did. -/
def fnShareSumSpec : ChangeSpec := { name := "fnShareSum", fn := fun _ => fun
  | [d] => { results := [.lit (.bool true)], args := [d] }
  | _ => none }
def fnShareSumRow : OpenClaim := { program := "ythpjeinjldfmjaa", sum := "66bc23969adcbfa96a8fd481727967850dfd74e3f9011620d41fb89224542a6c", func := "loop.example/urnsandballs/laws.FnShareSum", spec := "fnShareSum", unfollowed := true, recurses := true, apart := false }
def FnShareSumSaid : Prop := fnShareSumRow.holds Try.pinned (OpenSpec.ofChange fnShareSumSpec)

/-- ITS FALSE NEIGHBOUR: 'it returns false'. Refute it at one input. -/
def fnShareSumWrong : ChangeSpec := { name := "fnShareSum", fn := fun _ => fun
  | [d] => { results := [.lit (.bool false)], args := [d] }
  | _ => none }
def FnShareSumWrongFalsely : Prop := fnShareSumRow.holds Try.pinned (OpenSpec.ofChange fnShareSumWrong)

/-- 'laws.FnSameTwice': WHATEVER THE INPUT: true; the input reads as it did. -/
def fnSameTwiceSpec : ChangeSpec := { name := "fnSameTwice", fn := fun _ => fun
  | [d] => { results := [.lit (.bool true)], args := [d] }
  | _ => none }
def fnSameTwiceRow : OpenClaim := { program := "ythpjeinjldfmjaa", sum := "66bc23969adcbfa96a8fd481727967850dfd74e3f9011620d41fb89224542a6c", func := "loop.example/urnsandballs/laws.FnSameTwice", spec := "fnSameTwice", unfollowed := true, recurses := true, apart := false }
def FnSameTwiceSaid : Prop := fnSameTwiceRow.holds Try.pinned (OpenSpec.ofChange fnSameTwiceSpec)

/-- ITS FALSE NEIGHBOUR: 'it returns false'. Refute it at one input. -/
def fnSameTwiceWrong : ChangeSpec := { name := "fnSameTwice", fn := fun _ => fun
  | [d] => { results := [.lit (.bool false)], args := [d] }
  | _ => none }
def FnSameTwiceWrongFalsely : Prop := fnSameTwiceRow.holds Try.pinned (OpenSpec.ofChange fnSameTwiceWrong)

/-- 'laws.FnExactSameCounts': WHATEVER THE INPUT: true; the input reads as it did. -/
def fnExactSameCountsSpec : ChangeSpec := { name := "fnExactSameCounts", fn := fun _ => fun
  | [d1, d2, d3] => { results := [.lit (.bool true)], args := [d1, d2, d3] }
  | _ => none }
def fnExactSameCountsRow : OpenClaim := { program := "ythpjeinjldfmjaa", sum := "66bc23969adcbfa96a8fd481727967850dfd74e3f9011620d41fb89224542a6c", func := "loop.example/urnsandballs/laws.FnExactSameCounts", spec := "fnExactSameCounts", unfollowed := true, recurses := true, apart := false }
def FnExactSameCountsSaid : Prop := fnExactSameCountsRow.holds Try.pinned (OpenSpec.ofChange fnExactSameCountsSpec)

/-- ITS FALSE NEIGHBOUR: 'it returns false'. Refute it at one input. -/
def fnExactSameCountsWrong : ChangeSpec := { name := "fnExactSameCounts", fn := fun _ => fun
  | [d1, d2, d3] => { results := [.lit (.bool false)], args := [d1, d2, d3] }
  | _ => none }
def FnExactSameCountsWrongFalsely : Prop := fnExactSameCountsRow.holds Try.pinned (OpenSpec.ofChange fnExactSameCountsWrong)

/-- 'laws.FnAllWays': WHATEVER THE INPUT: true; the input reads as it did. -/
def fnAllWaysSpec : ChangeSpec := { name := "fnAllWays", fn := fun _ => fun
  | [d] => { results := [.lit (.bool true)], args := [d] }
  | _ => none }
def fnAllWaysRow : OpenClaim := { program := "ythpjeinjldfmjaa", sum := "66bc23969adcbfa96a8fd481727967850dfd74e3f9011620d41fb89224542a6c", func := "loop.example/urnsandballs/laws.FnAllWays", spec := "fnAllWays", unfollowed := true, recurses := true, apart := false }
def FnAllWaysSaid : Prop := fnAllWaysRow.holds Try.pinned (OpenSpec.ofChange fnAllWaysSpec)

/-- ITS FALSE NEIGHBOUR: 'it returns false'. Refute it at one input. -/
def fnAllWaysWrong : ChangeSpec := { name := "fnAllWays", fn := fun _ => fun
  | [d] => { results := [.lit (.bool false)], args := [d] }
  | _ => none }
def FnAllWaysWrongFalsely : Prop := fnAllWaysRow.holds Try.pinned (OpenSpec.ofChange fnAllWaysWrong)

/-- 'laws.FnWordWays': WHATEVER THE INPUT: true; the input reads as it did. -/
def fnWordWaysSpec : ChangeSpec := { name := "fnWordWays", fn := fun _ => fun
  | [d] => { results := [.lit (.bool true)], args := [d] }
  | _ => none }
def fnWordWaysRow : OpenClaim := { program := "ythpjeinjldfmjaa", sum := "66bc23969adcbfa96a8fd481727967850dfd74e3f9011620d41fb89224542a6c", func := "loop.example/urnsandballs/laws.FnWordWays", spec := "fnWordWays", unfollowed := true, recurses := true, apart := false }
def FnWordWaysSaid : Prop := fnWordWaysRow.holds Try.pinned (OpenSpec.ofChange fnWordWaysSpec)

/-- ITS FALSE NEIGHBOUR: 'it returns false'. Refute it at one input. -/
def fnWordWaysWrong : ChangeSpec := { name := "fnWordWays", fn := fun _ => fun
  | [d] => { results := [.lit (.bool false)], args := [d] }
  | _ => none }
def FnWordWaysWrongFalsely : Prop := fnWordWaysRow.holds Try.pinned (OpenSpec.ofChange fnWordWaysWrong)

/-- 'laws.FnCountWays': WHATEVER THE INPUT: true; the input reads as it did. -/
def fnCountWaysSpec : ChangeSpec := { name := "fnCountWays", fn := fun _ => fun
  | [d] => { results := [.lit (.bool true)], args := [d] }
  | _ => none }
def fnCountWaysRow : OpenClaim := { program := "ythpjeinjldfmjaa", sum := "66bc23969adcbfa96a8fd481727967850dfd74e3f9011620d41fb89224542a6c", func := "loop.example/urnsandballs/laws.FnCountWays", spec := "fnCountWays", unfollowed := true, recurses := true, apart := false }
def FnCountWaysSaid : Prop := fnCountWaysRow.holds Try.pinned (OpenSpec.ofChange fnCountWaysSpec)

/-- ITS FALSE NEIGHBOUR: 'it returns false'. Refute it at one input. -/
def fnCountWaysWrong : ChangeSpec := { name := "fnCountWays", fn := fun _ => fun
  | [d] => { results := [.lit (.bool false)], args := [d] }
  | _ => none }
def FnCountWaysWrongFalsely : Prop := fnCountWaysRow.holds Try.pinned (OpenSpec.ofChange fnCountWaysWrong)

/-- 'laws.FnBackCounts': WHATEVER THE INPUT: true; the input reads as it did. -/
def fnBackCountsSpec : ChangeSpec := { name := "fnBackCounts", fn := fun _ => fun
  | [d] => { results := [.lit (.bool true)], args := [d] }
  | _ => none }
def fnBackCountsRow : OpenClaim := { program := "ythpjeinjldfmjaa", sum := "66bc23969adcbfa96a8fd481727967850dfd74e3f9011620d41fb89224542a6c", func := "loop.example/urnsandballs/laws.FnBackCounts", spec := "fnBackCounts", unfollowed := true, recurses := true, apart := false }
def FnBackCountsSaid : Prop := fnBackCountsRow.holds Try.pinned (OpenSpec.ofChange fnBackCountsSpec)

/-- ITS FALSE NEIGHBOUR: 'it returns false'. Refute it at one input. -/
def fnBackCountsWrong : ChangeSpec := { name := "fnBackCounts", fn := fun _ => fun
  | [d] => { results := [.lit (.bool false)], args := [d] }
  | _ => none }
def FnBackCountsWrongFalsely : Prop := fnBackCountsRow.holds Try.pinned (OpenSpec.ofChange fnBackCountsWrong)

/- THE SECOND FORM. 'bulk': how many values and letters a reading holds, each counted each time it is reached (what is shared counts as often as it is met; a slice's spare places count too). A statement '..UptoSaid' is the law's where the arguments, and the package variables that the reading takes, are together of bulk at most 1048576: NARROWER than '..Said'. Prove '..Said' where nothing that the law and all that it calls make is longer than what came in: it says more and counts as full. Else prove '..UptoSaid'. A law counts once. -/
mutual
def uptoBulk {H : Type} : DataW H → Nat
  | .lit (.string bytes) => bytes.length + 1
  | .lit _ => 1
  | .nil => 1
  | .ptr d => uptoBulk d + 1
  | .slice elems spare => uptoBulkAll elems + uptoBulkAll spare + 1
  | .agg parts => uptoBulkAll parts + 1
  | .iface _ d => uptoBulk d + 1
  | .map entries => uptoBulkEntries entries + 1
  | .held _ => 1
def uptoBulkAll {H : Type} : List (DataW H) → Nat
  | [] => 0
  | d :: r => uptoBulk d + uptoBulkAll r
def uptoBulkEntries {H : Type} : List (Lit × DataW H) → Nat
  | [] => 0
  | x :: r => uptoBulkEntry x + uptoBulkEntries r
def uptoBulkEntry {H : Type} : Lit × DataW H → Nat
  | (.string bytes, d) => bytes.length + uptoBulk d + 1
  | (_, d) => uptoBulk d + 1
 end
def uptoSmall : (H : Type) → List (DataW H) → Bool := fun _ ds => decide (uptoBulkAll ds ≤ 1048576)
def OpenSpec.upto (s : _root_.Go.ChangeSpec) : _root_.Go.OpenSpec := { _root_.Go.OpenSpec.ofChange s with cond := some uptoSmall }

/-- 'laws.FnSameCounts', WHERE WHAT IT READS IS OF BULK AT MOST 1048576: true; the input reads as it did. -/
def fnSameCountsUptoRow : OpenClaim := { program := "ythpjeinjldfmjaa", sum := "66bc23969adcbfa96a8fd481727967850dfd74e3f9011620d41fb89224542a6c", func := "loop.example/urnsandballs/laws.FnSameCounts", spec := "fnSameCounts", unfollowed := true, recurses := true, apart := false, narrowed := true }
def FnSameCountsUptoSaid : Prop := fnSameCountsUptoRow.holds Try.pinned (OpenSpec.upto fnSameCountsSpec)

/-- 'laws.FnSameSteps', WHERE WHAT IT READS IS OF BULK AT MOST 1048576: true; the input reads as it did. -/
def fnSameStepsUptoRow : OpenClaim := { program := "ythpjeinjldfmjaa", sum := "66bc23969adcbfa96a8fd481727967850dfd74e3f9011620d41fb89224542a6c", func := "loop.example/urnsandballs/laws.FnSameSteps", spec := "fnSameSteps", unfollowed := true, recurses := true, apart := false, narrowed := true }
def FnSameStepsUptoSaid : Prop := fnSameStepsUptoRow.holds Try.pinned (OpenSpec.upto fnSameStepsSpec)

/-- 'laws.FnSameAll', WHERE WHAT IT READS IS OF BULK AT MOST 1048576: true; the input reads as it did. -/
def fnSameAllUptoRow : OpenClaim := { program := "ythpjeinjldfmjaa", sum := "66bc23969adcbfa96a8fd481727967850dfd74e3f9011620d41fb89224542a6c", func := "loop.example/urnsandballs/laws.FnSameAll", spec := "fnSameAll", unfollowed := true, recurses := true, apart := false, narrowed := true }
def FnSameAllUptoSaid : Prop := fnSameAllUptoRow.holds Try.pinned (OpenSpec.upto fnSameAllSpec)

/-- 'laws.FnUnknownUrn', WHERE WHAT IT READS IS OF BULK AT MOST 1048576: true; the input reads as it did. -/
def fnUnknownUrnUptoRow : OpenClaim := { program := "ythpjeinjldfmjaa", sum := "66bc23969adcbfa96a8fd481727967850dfd74e3f9011620d41fb89224542a6c", func := "loop.example/urnsandballs/laws.FnUnknownUrn", spec := "fnUnknownUrn", unfollowed := true, recurses := true, apart := false, narrowed := true }
def FnUnknownUrnUptoSaid : Prop := fnUnknownUrnUptoRow.holds Try.pinned (OpenSpec.upto fnUnknownUrnSpec)

/-- 'laws.FnExactCountWays', WHERE WHAT IT READS IS OF BULK AT MOST 1048576: true; the input reads as it did. -/
def fnExactCountWaysUptoRow : OpenClaim := { program := "ythpjeinjldfmjaa", sum := "66bc23969adcbfa96a8fd481727967850dfd74e3f9011620d41fb89224542a6c", func := "loop.example/urnsandballs/laws.FnExactCountWays", spec := "fnExactCountWays", unfollowed := true, recurses := true, apart := false, narrowed := true }
def FnExactCountWaysUptoSaid : Prop := fnExactCountWaysUptoRow.holds Try.pinned (OpenSpec.upto fnExactCountWaysSpec)

/-- 'laws.FnShareSum', WHERE WHAT IT READS IS OF BULK AT MOST 1048576: true; the input reads as it did. -/
def fnShareSumUptoRow : OpenClaim := { program := "ythpjeinjldfmjaa", sum := "66bc23969adcbfa96a8fd481727967850dfd74e3f9011620d41fb89224542a6c", func := "loop.example/urnsandballs/laws.FnShareSum", spec := "fnShareSum", unfollowed := true, recurses := true, apart := false, narrowed := true }
def FnShareSumUptoSaid : Prop := fnShareSumUptoRow.holds Try.pinned (OpenSpec.upto fnShareSumSpec)

/-- 'laws.FnSameTwice', WHERE WHAT IT READS IS OF BULK AT MOST 1048576: true; the input reads as it did. -/
def fnSameTwiceUptoRow : OpenClaim := { program := "ythpjeinjldfmjaa", sum := "66bc23969adcbfa96a8fd481727967850dfd74e3f9011620d41fb89224542a6c", func := "loop.example/urnsandballs/laws.FnSameTwice", spec := "fnSameTwice", unfollowed := true, recurses := true, apart := false, narrowed := true }
def FnSameTwiceUptoSaid : Prop := fnSameTwiceUptoRow.holds Try.pinned (OpenSpec.upto fnSameTwiceSpec)

/-- 'laws.FnExactSameCounts', WHERE WHAT IT READS IS OF BULK AT MOST 1048576: true; the input reads as it did. -/
def fnExactSameCountsUptoRow : OpenClaim := { program := "ythpjeinjldfmjaa", sum := "66bc23969adcbfa96a8fd481727967850dfd74e3f9011620d41fb89224542a6c", func := "loop.example/urnsandballs/laws.FnExactSameCounts", spec := "fnExactSameCounts", unfollowed := true, recurses := true, apart := false, narrowed := true }
def FnExactSameCountsUptoSaid : Prop := fnExactSameCountsUptoRow.holds Try.pinned (OpenSpec.upto fnExactSameCountsSpec)

/-- 'laws.FnAllWays', WHERE WHAT IT READS IS OF BULK AT MOST 1048576: true; the input reads as it did. -/
def fnAllWaysUptoRow : OpenClaim := { program := "ythpjeinjldfmjaa", sum := "66bc23969adcbfa96a8fd481727967850dfd74e3f9011620d41fb89224542a6c", func := "loop.example/urnsandballs/laws.FnAllWays", spec := "fnAllWays", unfollowed := true, recurses := true, apart := false, narrowed := true }
def FnAllWaysUptoSaid : Prop := fnAllWaysUptoRow.holds Try.pinned (OpenSpec.upto fnAllWaysSpec)

/-- 'laws.FnWordWays', WHERE WHAT IT READS IS OF BULK AT MOST 1048576: true; the input reads as it did. -/
def fnWordWaysUptoRow : OpenClaim := { program := "ythpjeinjldfmjaa", sum := "66bc23969adcbfa96a8fd481727967850dfd74e3f9011620d41fb89224542a6c", func := "loop.example/urnsandballs/laws.FnWordWays", spec := "fnWordWays", unfollowed := true, recurses := true, apart := false, narrowed := true }
def FnWordWaysUptoSaid : Prop := fnWordWaysUptoRow.holds Try.pinned (OpenSpec.upto fnWordWaysSpec)

/-- 'laws.FnCountWays', WHERE WHAT IT READS IS OF BULK AT MOST 1048576: true; the input reads as it did. -/
def fnCountWaysUptoRow : OpenClaim := { program := "ythpjeinjldfmjaa", sum := "66bc23969adcbfa96a8fd481727967850dfd74e3f9011620d41fb89224542a6c", func := "loop.example/urnsandballs/laws.FnCountWays", spec := "fnCountWays", unfollowed := true, recurses := true, apart := false, narrowed := true }
def FnCountWaysUptoSaid : Prop := fnCountWaysUptoRow.holds Try.pinned (OpenSpec.upto fnCountWaysSpec)

/-- 'laws.FnBackCounts', WHERE WHAT IT READS IS OF BULK AT MOST 1048576: true; the input reads as it did. -/
def fnBackCountsUptoRow : OpenClaim := { program := "ythpjeinjldfmjaa", sum := "66bc23969adcbfa96a8fd481727967850dfd74e3f9011620d41fb89224542a6c", func := "loop.example/urnsandballs/laws.FnBackCounts", spec := "fnBackCounts", unfollowed := true, recurses := true, apart := false, narrowed := true }
def FnBackCountsUptoSaid : Prop := fnBackCountsUptoRow.holds Try.pinned (OpenSpec.upto fnBackCountsSpec)

end Rows
end Go.Proofs.Ythpjeinjldfmjaa
