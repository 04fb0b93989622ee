/-
  No cell of these rows narrows 'for every input' (looked for: loops, veiled, ifaces, maps, wideKeys, modest, calm, conditions, laid).
  DERIVED. THE GIVEN ROWS OF THIS SEAT. 12 by the template 'for every input the law returns true; each argument reads behind the call as it read before'; 0 by the template 'total and deterministic' (their statements: YthecibjeobpebaaTotals.lean).
  GIVEN WITH THE SEED: the statements are not yours to turn. If you find one false, say at which input.
  Laid BY PROGRAM, IN A SANDBOX (cutbox-rows.mjs): the forced cells as the released guide's own fill.sh prints them over the translation 077f1ced7a04b6df… (all of the seat's roots in one cut). By AI agents, Wed Nov 11 2026. No macro, syntax, notation, axiom, sorry.
-/
import Derived.Test.YthecibjeobpebaaChecked
import GoSem.Claim
import GoSem.ClaimJoined
import GoSem.ClaimMapViews
import Derived.JoinedTies
import Derived.KernelRfl
namespace Go.Proofs.Ythecibjeobpebaa
/- THE CELL 'sum', in the pinned program and in every row, IS THE sha256 OF THE DUMP (.gsa) THAT YthecibjeobpebaaProg.lean LOADS. Nothing in Lean hashes anything: it is a label: what it is worth is what the hold of that sum in a sandbox is worth. -/
noncomputable def Try.pinned : Pinned := { name := "ythecibjeobpebaa", sum := "077f1ced7a04b6df149611e354f90c8f77ad258e98b1169f5736f97013865c30", checked := Try.checked }
namespace Rows
def none {H : Type} : Left H := { results := [], args := [] }

/-- 'laws.FnExactApartWays': WHATEVER THE INPUT: true; the input reads as it did. -/
def fnExactApartWaysSpec : ChangeSpec := { name := "fnExactApartWays", fn := fun _ => fun
  | [d1, d2] => { results := [.lit (.bool true)], args := [d1, d2] }
  | _ => none }
def fnExactApartWaysRow : OpenClaim := { program := "ythecibjeobpebaa", sum := "077f1ced7a04b6df149611e354f90c8f77ad258e98b1169f5736f97013865c30", func := "loop.example/urnsandballs/laws.FnExactApartWays", spec := "fnExactApartWays", apart := false }
def FnExactApartWaysSaid : Prop := fnExactApartWaysRow.holds Try.pinned (OpenSpec.ofChange fnExactApartWaysSpec)

/-- ITS FALSE NEIGHBOUR: 'it returns false'. Refute it at one input. -/
def fnExactApartWaysWrong : ChangeSpec := { name := "fnExactApartWays", fn := fun _ => fun
  | [d1, d2] => { results := [.lit (.bool false)], args := [d1, d2] }
  | _ => none }
def FnExactApartWaysWrongFalsely : Prop := fnExactApartWaysRow.holds Try.pinned (OpenSpec.ofChange fnExactApartWaysWrong)

/-- 'laws.FnExactPairWays': WHATEVER THE INPUT: true; the input reads as it did. -/
def fnExactPairWaysSpec : ChangeSpec := { name := "fnExactPairWays", fn := fun _ => fun
  | [d1, d2] => { results := [.lit (.bool true)], args := [d1, d2] }
  | _ => none }
def fnExactPairWaysRow : OpenClaim := { program := "ythecibjeobpebaa", sum := "077f1ced7a04b6df149611e354f90c8f77ad258e98b1169f5736f97013865c30", func := "loop.example/urnsandballs/laws.FnExactPairWays", spec := "fnExactPairWays", apart := false }
def FnExactPairWaysSaid : Prop := fnExactPairWaysRow.holds Try.pinned (OpenSpec.ofChange fnExactPairWaysSpec)

/-- ITS FALSE NEIGHBOUR: 'it returns false'. Refute it at one input. -/
def fnExactPairWaysWrong : ChangeSpec := { name := "fnExactPairWays", fn := fun _ => fun
  | [d1, d2] => { results := [.lit (.bool false)], args := [d1, d2] }
  | _ => none }
def FnExactPairWaysWrongFalsely : Prop := fnExactPairWaysRow.holds Try.pinned (OpenSpec.ofChange fnExactPairWaysWrong)

/-- 'laws.FnExactGroupsOf': WHATEVER THE INPUT: true; the input reads as it did. -/
def fnExactGroupsOfSpec : ChangeSpec := { name := "fnExactGroupsOf", fn := fun _ => fun
  | [d1, d2] => { results := [.lit (.bool true)], args := [d1, d2] }
  | _ => none }
def fnExactGroupsOfRow : OpenClaim := { program := "ythecibjeobpebaa", sum := "077f1ced7a04b6df149611e354f90c8f77ad258e98b1169f5736f97013865c30", func := "loop.example/urnsandballs/laws.FnExactGroupsOf", spec := "fnExactGroupsOf", recurses := true, apart := false }
def FnExactGroupsOfSaid : Prop := fnExactGroupsOfRow.holds Try.pinned (OpenSpec.ofChange fnExactGroupsOfSpec)

/-- ITS FALSE NEIGHBOUR: 'it returns false'. Refute it at one input. -/
def fnExactGroupsOfWrong : ChangeSpec := { name := "fnExactGroupsOf", fn := fun _ => fun
  | [d1, d2] => { results := [.lit (.bool false)], args := [d1, d2] }
  | _ => none }
def FnExactGroupsOfWrongFalsely : Prop := fnExactGroupsOfRow.holds Try.pinned (OpenSpec.ofChange fnExactGroupsOfWrong)

/-- 'laws.FnExactEmptyWays': WHATEVER THE INPUT: true; the input reads as it did. -/
def fnExactEmptyWaysSpec : ChangeSpec := { name := "fnExactEmptyWays", fn := fun _ => fun
  | [d1, d2, d3] => { results := [.lit (.bool true)], args := [d1, d2, d3] }
  | _ => none }
def fnExactEmptyWaysRow : OpenClaim := { program := "ythecibjeobpebaa", sum := "077f1ced7a04b6df149611e354f90c8f77ad258e98b1169f5736f97013865c30", func := "loop.example/urnsandballs/laws.FnExactEmptyWays", spec := "fnExactEmptyWays", apart := false }
def FnExactEmptyWaysSaid : Prop := fnExactEmptyWaysRow.holds Try.pinned (OpenSpec.ofChange fnExactEmptyWaysSpec)

/-- ITS FALSE NEIGHBOUR: 'it returns false'. Refute it at one input. -/
def fnExactEmptyWaysWrong : ChangeSpec := { name := "fnExactEmptyWays", fn := fun _ => fun
  | [d1, d2, d3] => { results := [.lit (.bool false)], args := [d1, d2, d3] }
  | _ => none }
def FnExactEmptyWaysWrongFalsely : Prop := fnExactEmptyWaysRow.holds Try.pinned (OpenSpec.ofChange fnExactEmptyWaysWrong)

/-- 'laws.FnExactFullWays': WHATEVER THE INPUT: true; the input reads as it did. -/
def fnExactFullWaysSpec : ChangeSpec := { name := "fnExactFullWays", fn := fun _ => fun
  | [d1, d2] => { results := [.lit (.bool true)], args := [d1, d2] }
  | _ => none }
def fnExactFullWaysRow : OpenClaim := { program := "ythecibjeobpebaa", sum := "077f1ced7a04b6df149611e354f90c8f77ad258e98b1169f5736f97013865c30", func := "loop.example/urnsandballs/laws.FnExactFullWays", spec := "fnExactFullWays", apart := false }
def FnExactFullWaysSaid : Prop := fnExactFullWaysRow.holds Try.pinned (OpenSpec.ofChange fnExactFullWaysSpec)

/-- ITS FALSE NEIGHBOUR: 'it returns false'. Refute it at one input. -/
def fnExactFullWaysWrong : ChangeSpec := { name := "fnExactFullWays", fn := fun _ => fun
  | [d1, d2] => { results := [.lit (.bool false)], args := [d1, d2] }
  | _ => none }
def FnExactFullWaysWrongFalsely : Prop := fnExactFullWaysRow.holds Try.pinned (OpenSpec.ofChange fnExactFullWaysWrong)

/-- 'laws.FnExactWaitWays': WHATEVER THE INPUT: true; the input reads as it did. -/
def fnExactWaitWaysSpec : ChangeSpec := { name := "fnExactWaitWays", fn := fun _ => fun
  | [d1, d2] => { results := [.lit (.bool true)], args := [d1, d2] }
  | _ => none }
def fnExactWaitWaysRow : OpenClaim := { program := "ythecibjeobpebaa", sum := "077f1ced7a04b6df149611e354f90c8f77ad258e98b1169f5736f97013865c30", func := "loop.example/urnsandballs/laws.FnExactWaitWays", spec := "fnExactWaitWays", apart := false }
def FnExactWaitWaysSaid : Prop := fnExactWaitWaysRow.holds Try.pinned (OpenSpec.ofChange fnExactWaitWaysSpec)

/-- ITS FALSE NEIGHBOUR: 'it returns false'. Refute it at one input. -/
def fnExactWaitWaysWrong : ChangeSpec := { name := "fnExactWaitWays", fn := fun _ => fun
  | [d1, d2] => { results := [.lit (.bool false)], args := [d1, d2] }
  | _ => none }
def FnExactWaitWaysWrongFalsely : Prop := fnExactWaitWaysRow.holds Try.pinned (OpenSpec.ofChange fnExactWaitWaysWrong)

/-- 'laws.FnGroupsOf': WHATEVER THE INPUT: true; the input reads as it did. -/
def fnGroupsOfSpec : ChangeSpec := { name := "fnGroupsOf", fn := fun _ => fun
  | [d] => { results := [.lit (.bool true)], args := [d] }
  | _ => none }
def fnGroupsOfRow : OpenClaim := { program := "ythecibjeobpebaa", sum := "077f1ced7a04b6df149611e354f90c8f77ad258e98b1169f5736f97013865c30", func := "loop.example/urnsandballs/laws.FnGroupsOf", spec := "fnGroupsOf", recurses := true, apart := false }
def FnGroupsOfSaid : Prop := fnGroupsOfRow.holds Try.pinned (OpenSpec.ofChange fnGroupsOfSpec)

/-- ITS FALSE NEIGHBOUR: 'it returns false'. Refute it at one input. -/
def fnGroupsOfWrong : ChangeSpec := { name := "fnGroupsOf", fn := fun _ => fun
  | [d] => { results := [.lit (.bool false)], args := [d] }
  | _ => none }
def FnGroupsOfWrongFalsely : Prop := fnGroupsOfRow.holds Try.pinned (OpenSpec.ofChange fnGroupsOfWrong)

/-- 'laws.FnApartWays': WHATEVER THE INPUT: true; the input reads as it did. -/
def fnApartWaysSpec : ChangeSpec := { name := "fnApartWays", fn := fun _ => fun
  | [d] => { results := [.lit (.bool true)], args := [d] }
  | _ => none }
def fnApartWaysRow : OpenClaim := { program := "ythecibjeobpebaa", sum := "077f1ced7a04b6df149611e354f90c8f77ad258e98b1169f5736f97013865c30", func := "loop.example/urnsandballs/laws.FnApartWays", spec := "fnApartWays", apart := false }
def FnApartWaysSaid : Prop := fnApartWaysRow.holds Try.pinned (OpenSpec.ofChange fnApartWaysSpec)

/-- ITS FALSE NEIGHBOUR: 'it returns false'. Refute it at one input. -/
def fnApartWaysWrong : ChangeSpec := { name := "fnApartWays", fn := fun _ => fun
  | [d] => { results := [.lit (.bool false)], args := [d] }
  | _ => none }
def FnApartWaysWrongFalsely : Prop := fnApartWaysRow.holds Try.pinned (OpenSpec.ofChange fnApartWaysWrong)

/-- 'laws.FnPairWays': WHATEVER THE INPUT: true; the input reads as it did. -/
def fnPairWaysSpec : ChangeSpec := { name := "fnPairWays", fn := fun _ => fun
  | [d] => { results := [.lit (.bool true)], args := [d] }
  | _ => none }
def fnPairWaysRow : OpenClaim := { program := "ythecibjeobpebaa", sum := "077f1ced7a04b6df149611e354f90c8f77ad258e98b1169f5736f97013865c30", func := "loop.example/urnsandballs/laws.FnPairWays", spec := "fnPairWays", apart := false }
def FnPairWaysSaid : Prop := fnPairWaysRow.holds Try.pinned (OpenSpec.ofChange fnPairWaysSpec)

/-- ITS FALSE NEIGHBOUR: 'it returns false'. Refute it at one input. -/
def fnPairWaysWrong : ChangeSpec := { name := "fnPairWays", fn := fun _ => fun
  | [d] => { results := [.lit (.bool false)], args := [d] }
  | _ => none }
def FnPairWaysWrongFalsely : Prop := fnPairWaysRow.holds Try.pinned (OpenSpec.ofChange fnPairWaysWrong)

/-- 'laws.FnGroupsPower': WHATEVER THE INPUT: true; the input reads as it did. -/
def fnGroupsPowerSpec : ChangeSpec := { name := "fnGroupsPower", fn := fun _ => fun
  | [d] => { results := [.lit (.bool true)], args := [d] }
  | _ => none }
def fnGroupsPowerRow : OpenClaim := { program := "ythecibjeobpebaa", sum := "077f1ced7a04b6df149611e354f90c8f77ad258e98b1169f5736f97013865c30", func := "loop.example/urnsandballs/laws.FnGroupsPower", spec := "fnGroupsPower", apart := false }
def FnGroupsPowerSaid : Prop := fnGroupsPowerRow.holds Try.pinned (OpenSpec.ofChange fnGroupsPowerSpec)

/-- ITS FALSE NEIGHBOUR: 'it returns false'. Refute it at one input. -/
def fnGroupsPowerWrong : ChangeSpec := { name := "fnGroupsPower", fn := fun _ => fun
  | [d] => { results := [.lit (.bool false)], args := [d] }
  | _ => none }
def FnGroupsPowerWrongFalsely : Prop := fnGroupsPowerRow.holds Try.pinned (OpenSpec.ofChange fnGroupsPowerWrong)

/-- 'laws.FnEmptyWays': WHATEVER THE INPUT: true; the input reads as it did. -/
def fnEmptyWaysSpec : ChangeSpec := { name := "fnEmptyWays", fn := fun _ => fun
  | [d] => { results := [.lit (.bool true)], args := [d] }
  | _ => none }
def fnEmptyWaysRow : OpenClaim := { program := "ythecibjeobpebaa", sum := "077f1ced7a04b6df149611e354f90c8f77ad258e98b1169f5736f97013865c30", func := "loop.example/urnsandballs/laws.FnEmptyWays", spec := "fnEmptyWays", apart := false }
def FnEmptyWaysSaid : Prop := fnEmptyWaysRow.holds Try.pinned (OpenSpec.ofChange fnEmptyWaysSpec)

/-- ITS FALSE NEIGHBOUR: 'it returns false'. Refute it at one input. -/
def fnEmptyWaysWrong : ChangeSpec := { name := "fnEmptyWays", fn := fun _ => fun
  | [d] => { results := [.lit (.bool false)], args := [d] }
  | _ => none }
def FnEmptyWaysWrongFalsely : Prop := fnEmptyWaysRow.holds Try.pinned (OpenSpec.ofChange fnEmptyWaysWrong)

/-- 'laws.FnWaitWays': WHATEVER THE INPUT: true; the input reads as it did. -/
def fnWaitWaysSpec : ChangeSpec := { name := "fnWaitWays", fn := fun _ => fun
  | [d] => { results := [.lit (.bool true)], args := [d] }
  | _ => none }
def fnWaitWaysRow : OpenClaim := { program := "ythecibjeobpebaa", sum := "077f1ced7a04b6df149611e354f90c8f77ad258e98b1169f5736f97013865c30", func := "loop.example/urnsandballs/laws.FnWaitWays", spec := "fnWaitWays", apart := false }
def FnWaitWaysSaid : Prop := fnWaitWaysRow.holds Try.pinned (OpenSpec.ofChange fnWaitWaysSpec)

/-- ITS FALSE NEIGHBOUR: 'it returns false'. Refute it at one input. -/
def fnWaitWaysWrong : ChangeSpec := { name := "fnWaitWays", fn := fun _ => fun
  | [d] => { results := [.lit (.bool false)], args := [d] }
  | _ => none }
def FnWaitWaysWrongFalsely : Prop := fnWaitWaysRow.holds Try.pinned (OpenSpec.ofChange fnWaitWaysWrong)

/- THE SECOND FORM. 'bulk': how many values and letters a reading holds, each counted each time it is reached (what is shared counts as often as it is met; a slice's spare places count too). A statement '..UptoSaid' is the law's where the arguments, and the package variables that the reading takes, are together of bulk at most 1048576: NARROWER than '..Said'. Prove '..Said' where nothing that the law and all that it calls make is longer than what came in: it says more and counts as full. Else prove '..UptoSaid'. A law counts once. -/
mutual
def uptoBulk {H : Type} : DataW H → Nat
  | .lit (.string bytes) => bytes.length + 1
  | .lit _ => 1
  | .nil => 1
  | .ptr d => uptoBulk d + 1
  | .slice elems spare => uptoBulkAll elems + uptoBulkAll spare + 1
  | .agg parts => uptoBulkAll parts + 1
  | .iface _ d => uptoBulk d + 1
  | .map entries => uptoBulkEntries entries + 1
  | .held _ => 1
def uptoBulkAll {H : Type} : List (DataW H) → Nat
  | [] => 0
  | d :: r => uptoBulk d + uptoBulkAll r
def uptoBulkEntries {H : Type} : List (Lit × DataW H) → Nat
  | [] => 0
  | x :: r => uptoBulkEntry x + uptoBulkEntries r
def uptoBulkEntry {H : Type} : Lit × DataW H → Nat
  | (.string bytes, d) => bytes.length + uptoBulk d + 1
  | (_, d) => uptoBulk d + 1
 end
def uptoSmall : (H : Type) → List (DataW H) → Bool := fun _ ds => decide (uptoBulkAll ds ≤ 1048576)
def OpenSpec.upto (s : _root_.Go.ChangeSpec) : _root_.Go.OpenSpec := { _root_.Go.OpenSpec.ofChange s with cond := some uptoSmall }

/-- 'laws.FnExactApartWays', WHERE WHAT IT READS IS OF BULK AT MOST 1048576: true; the input reads as it did. -/
def fnExactApartWaysUptoRow : OpenClaim := { program := "ythecibjeobpebaa", sum := "077f1ced7a04b6df149611e354f90c8f77ad258e98b1169f5736f97013865c30", func := "loop.example/urnsandballs/laws.FnExactApartWays", spec := "fnExactApartWays", apart := false, narrowed := true }
def FnExactApartWaysUptoSaid : Prop := fnExactApartWaysUptoRow.holds Try.pinned (OpenSpec.upto fnExactApartWaysSpec)

/-- 'laws.FnExactPairWays', WHERE WHAT IT READS IS OF BULK AT MOST 1048576: true; the input reads as it did. -/
def fnExactPairWaysUptoRow : OpenClaim := { program := "ythecibjeobpebaa", sum := "077f1ced7a04b6df149611e354f90c8f77ad258e98b1169f5736f97013865c30", func := "loop.example/urnsandballs/laws.FnExactPairWays", spec := "fnExactPairWays", apart := false, narrowed := true }
def FnExactPairWaysUptoSaid : Prop := fnExactPairWaysUptoRow.holds Try.pinned (OpenSpec.upto fnExactPairWaysSpec)

/-- 'laws.FnExactGroupsOf', WHERE WHAT IT READS IS OF BULK AT MOST 1048576: true; the input reads as it did. -/
def fnExactGroupsOfUptoRow : OpenClaim := { program := "ythecibjeobpebaa", sum := "077f1ced7a04b6df149611e354f90c8f77ad258e98b1169f5736f97013865c30", func := "loop.example/urnsandballs/laws.FnExactGroupsOf", spec := "fnExactGroupsOf", recurses := true, apart := false, narrowed := true }
def FnExactGroupsOfUptoSaid : Prop := fnExactGroupsOfUptoRow.holds Try.pinned (OpenSpec.upto fnExactGroupsOfSpec)

/-- 'laws.FnExactEmptyWays', WHERE WHAT IT READS IS OF BULK AT MOST 1048576: true; the input reads as it did. -/
def fnExactEmptyWaysUptoRow : OpenClaim := { program := "ythecibjeobpebaa", sum := "077f1ced7a04b6df149611e354f90c8f77ad258e98b1169f5736f97013865c30", func := "loop.example/urnsandballs/laws.FnExactEmptyWays", spec := "fnExactEmptyWays", apart := false, narrowed := true }
def FnExactEmptyWaysUptoSaid : Prop := fnExactEmptyWaysUptoRow.holds Try.pinned (OpenSpec.upto fnExactEmptyWaysSpec)

/-- 'laws.FnExactFullWays', WHERE WHAT IT READS IS OF BULK AT MOST 1048576: true; the input reads as it did. -/
def fnExactFullWaysUptoRow : OpenClaim := { program := "ythecibjeobpebaa", sum := "077f1ced7a04b6df149611e354f90c8f77ad258e98b1169f5736f97013865c30", func := "loop.example/urnsandballs/laws.FnExactFullWays", spec := "fnExactFullWays", apart := false, narrowed := true }
def FnExactFullWaysUptoSaid : Prop := fnExactFullWaysUptoRow.holds Try.pinned (OpenSpec.upto fnExactFullWaysSpec)

/-- 'laws.FnExactWaitWays', WHERE WHAT IT READS IS OF BULK AT MOST 1048576: true; the input reads as it did. -/
def fnExactWaitWaysUptoRow : OpenClaim := { program := "ythecibjeobpebaa", sum := "077f1ced7a04b6df149611e354f90c8f77ad258e98b1169f5736f97013865c30", func := "loop.example/urnsandballs/laws.FnExactWaitWays", spec := "fnExactWaitWays", apart := false, narrowed := true }
def FnExactWaitWaysUptoSaid : Prop := fnExactWaitWaysUptoRow.holds Try.pinned (OpenSpec.upto fnExactWaitWaysSpec)

/-- 'laws.FnGroupsOf', WHERE WHAT IT READS IS OF BULK AT MOST 1048576: true; the input reads as it did. -/
def fnGroupsOfUptoRow : OpenClaim := { program := "ythecibjeobpebaa", sum := "077f1ced7a04b6df149611e354f90c8f77ad258e98b1169f5736f97013865c30", func := "loop.example/urnsandballs/laws.FnGroupsOf", spec := "fnGroupsOf", recurses := true, apart := false, narrowed := true }
def FnGroupsOfUptoSaid : Prop := fnGroupsOfUptoRow.holds Try.pinned (OpenSpec.upto fnGroupsOfSpec)

/-- 'laws.FnApartWays', WHERE WHAT IT READS IS OF BULK AT MOST 1048576: true; the input reads as it did. -/
def fnApartWaysUptoRow : OpenClaim := { program := "ythecibjeobpebaa", sum := "077f1ced7a04b6df149611e354f90c8f77ad258e98b1169f5736f97013865c30", func := "loop.example/urnsandballs/laws.FnApartWays", spec := "fnApartWays", apart := false, narrowed := true }
def FnApartWaysUptoSaid : Prop := fnApartWaysUptoRow.holds Try.pinned (OpenSpec.upto fnApartWaysSpec)

/-- 'laws.FnPairWays', WHERE WHAT IT READS IS OF BULK AT MOST 1048576: true; the input reads as it did. -/
def fnPairWaysUptoRow : OpenClaim := { program := "ythecibjeobpebaa", sum := "077f1ced7a04b6df149611e354f90c8f77ad258e98b1169f5736f97013865c30", func := "loop.example/urnsandballs/laws.FnPairWays", spec := "fnPairWays", apart := false, narrowed := true }
def FnPairWaysUptoSaid : Prop := fnPairWaysUptoRow.holds Try.pinned (OpenSpec.upto fnPairWaysSpec)

/-- 'laws.FnGroupsPower', WHERE WHAT IT READS IS OF BULK AT MOST 1048576: true; the input reads as it did. -/
def fnGroupsPowerUptoRow : OpenClaim := { program := "ythecibjeobpebaa", sum := "077f1ced7a04b6df149611e354f90c8f77ad258e98b1169f5736f97013865c30", func := "loop.example/urnsandballs/laws.FnGroupsPower", spec := "fnGroupsPower", apart := false, narrowed := true }
def FnGroupsPowerUptoSaid : Prop := fnGroupsPowerUptoRow.holds Try.pinned (OpenSpec.upto fnGroupsPowerSpec)

/-- 'laws.FnEmptyWays', WHERE WHAT IT READS IS OF BULK AT MOST 1048576: true; the input reads as it did. -/
def fnEmptyWaysUptoRow : OpenClaim := { program := "ythecibjeobpebaa", sum := "077f1ced7a04b6df149611e354f90c8f77ad258e98b1169f5736f97013865c30", func := "loop.example/urnsandballs/laws.FnEmptyWays", spec := "fnEmptyWays", apart := false, narrowed := true }
def FnEmptyWaysUptoSaid : Prop := fnEmptyWaysUptoRow.holds Try.pinned (OpenSpec.upto fnEmptyWaysSpec)

/-- 'laws.FnWaitWays', WHERE WHAT IT READS IS OF BULK AT MOST 1048576: true; the input reads as it did. -/
def fnWaitWaysUptoRow : OpenClaim := { program := "ythecibjeobpebaa", sum := "077f1ced7a04b6df149611e354f90c8f77ad258e98b1169f5736f97013865c30", func := "loop.example/urnsandballs/laws.FnWaitWays", spec := "fnWaitWays", apart := false, narrowed := true }
def FnWaitWaysUptoSaid : Prop := fnWaitWaysUptoRow.holds Try.pinned (OpenSpec.upto fnWaitWaysSpec)

end Rows
end Go.Proofs.Ythecibjeobpebaa
