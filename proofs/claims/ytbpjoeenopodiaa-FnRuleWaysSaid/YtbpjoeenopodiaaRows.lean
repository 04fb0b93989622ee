/-
  No cell of these rows narrows 'for every input' (looked for: loops, veiled, ifaces, maps, wideKeys, modest, calm, conditions, laid).
  DERIVED. THE GIVEN ROWS OF THIS SEAT. 3 by the template 'for every input the law returns true; each argument reads behind the call as it read before'; 0 by the template 'total and deterministic' (their statements: YtbpjoeenopodiaaTotals.lean).
  GIVEN WITH THE SEED: the statements are not yours to turn. If you find one false, say at which input.
  Laid BY PROGRAM, IN A SANDBOX (cutbox-rows.mjs): the forced cells as the released guide's own fill.sh prints them over the translation a6ff9a748ec1c709… (all of the seat's roots in one cut). By AI agents, Wed Nov 11 2026. No macro, syntax, notation, axiom, sorry.
-/
import Derived.Test.YtbpjoeenopodiaaChecked
import GoSem.Claim
import GoSem.ClaimJoined
import GoSem.ClaimMapViews
import Derived.JoinedTies
import Derived.KernelRfl
namespace Go.Proofs.Ytbpjoeenopodiaa
/- THE CELL 'sum', in the pinned program and in every row, IS THE sha256 OF THE DUMP (.gsa) THAT YtbpjoeenopodiaaProg.lean LOADS. Nothing in Lean hashes anything: it is a label: what it is worth is what the hold of that sum in a sandbox is worth. -/
noncomputable def Try.pinned : Pinned := { name := "ytbpjoeenopodiaa", sum := "a6ff9a748ec1c709c361f8a275d399810a4542c135b3c2d8e152243e5e1d072a", checked := Try.checked }
namespace Rows
def none {H : Type} : Left H := { results := [], args := [] }

/-- 'laws.FnWaitSum': WHATEVER THE INPUT: true; the input reads as it did. -/
def fnWaitSumSpec : ChangeSpec := { name := "fnWaitSum", fn := fun _ => fun
  | [d] => { results := [.lit (.bool true)], args := [d] }
  | _ => none }
def fnWaitSumRow : OpenClaim := { program := "ytbpjoeenopodiaa", sum := "a6ff9a748ec1c709c361f8a275d399810a4542c135b3c2d8e152243e5e1d072a", func := "loop.example/urnsandballs/laws.FnWaitSum", spec := "fnWaitSum", apart := false }
def FnWaitSumSaid : Prop := fnWaitSumRow.holds Try.pinned (OpenSpec.ofChange fnWaitSumSpec)

/-- ITS FALSE NEIGHBOUR: 'it returns false'. Refute it at one input. -/
def fnWaitSumWrong : ChangeSpec := { name := "fnWaitSum", fn := fun _ => fun
  | [d] => { results := [.lit (.bool false)], args := [d] }
  | _ => none }
def FnWaitSumWrongFalsely : Prop := fnWaitSumRow.holds Try.pinned (OpenSpec.ofChange fnWaitSumWrong)

/-- 'laws.FnFullWays': WHATEVER THE INPUT: true; the input reads as it did. -/
def fnFullWaysSpec : ChangeSpec := { name := "fnFullWays", fn := fun _ => fun
  | [d] => { results := [.lit (.bool true)], args := [d] }
  | _ => none }
def fnFullWaysRow : OpenClaim := { program := "ytbpjoeenopodiaa", sum := "a6ff9a748ec1c709c361f8a275d399810a4542c135b3c2d8e152243e5e1d072a", func := "loop.example/urnsandballs/laws.FnFullWays", spec := "fnFullWays", apart := false }
def FnFullWaysSaid : Prop := fnFullWaysRow.holds Try.pinned (OpenSpec.ofChange fnFullWaysSpec)

/-- ITS FALSE NEIGHBOUR: 'it returns false'. Refute it at one input. -/
def fnFullWaysWrong : ChangeSpec := { name := "fnFullWays", fn := fun _ => fun
  | [d] => { results := [.lit (.bool false)], args := [d] }
  | _ => none }
def FnFullWaysWrongFalsely : Prop := fnFullWaysRow.holds Try.pinned (OpenSpec.ofChange fnFullWaysWrong)

/-- 'laws.FnRuleWays': WHATEVER THE INPUT: true; the input reads as it did. -/
def fnRuleWaysSpec : ChangeSpec := { name := "fnRuleWays", fn := fun _ => fun
  | [d] => { results := [.lit (.bool true)], args := [d] }
  | _ => none }
def fnRuleWaysRow : OpenClaim := { program := "ytbpjoeenopodiaa", sum := "a6ff9a748ec1c709c361f8a275d399810a4542c135b3c2d8e152243e5e1d072a", func := "loop.example/urnsandballs/laws.FnRuleWays", spec := "fnRuleWays", apart := false }
def FnRuleWaysSaid : Prop := fnRuleWaysRow.holds Try.pinned (OpenSpec.ofChange fnRuleWaysSpec)

/-- ITS FALSE NEIGHBOUR: 'it returns false'. Refute it at one input. -/
def fnRuleWaysWrong : ChangeSpec := { name := "fnRuleWays", fn := fun _ => fun
  | [d] => { results := [.lit (.bool false)], args := [d] }
  | _ => none }
def FnRuleWaysWrongFalsely : Prop := fnRuleWaysRow.holds Try.pinned (OpenSpec.ofChange fnRuleWaysWrong)

/- THE SECOND FORM. 'bulk': how many values and letters a reading holds, each counted each time it is reached (what is shared counts as often as it is met; a slice's spare places count too). A statement '..UptoSaid' is the law's where the arguments, and the package variables that the reading takes, are together of bulk at most 1048576: NARROWER than '..Said'. Prove '..Said' where nothing that the law and all that it calls make is longer than what came in: it says more and counts as full. Else prove '..UptoSaid'. A law counts once. -/
mutual
def uptoBulk {H : Type} : DataW H → Nat
  | .lit (.string bytes) => bytes.length + 1
  | .lit _ => 1
  | .nil => 1
  | .ptr d => uptoBulk d + 1
  | .slice elems spare => uptoBulkAll elems + uptoBulkAll spare + 1
  | .agg parts => uptoBulkAll parts + 1
  | .iface _ d => uptoBulk d + 1
  | .map entries => uptoBulkEntries entries + 1
  | .held _ => 1
def uptoBulkAll {H : Type} : List (DataW H) → Nat
  | [] => 0
  | d :: r => uptoBulk d + uptoBulkAll r
def uptoBulkEntries {H : Type} : List (Lit × DataW H) → Nat
  | [] => 0
  | x :: r => uptoBulkEntry x + uptoBulkEntries r
def uptoBulkEntry {H : Type} : Lit × DataW H → Nat
  | (.string bytes, d) => bytes.length + uptoBulk d + 1
  | (_, d) => uptoBulk d + 1
 end
def uptoSmall : (H : Type) → List (DataW H) → Bool := fun _ ds => decide (uptoBulkAll ds ≤ 1048576)
def OpenSpec.upto (s : _root_.Go.ChangeSpec) : _root_.Go.OpenSpec := { _root_.Go.OpenSpec.ofChange s with cond := some uptoSmall }

/-- 'laws.FnWaitSum', WHERE WHAT IT READS IS OF BULK AT MOST 1048576: true; the input reads as it did. -/
def fnWaitSumUptoRow : OpenClaim := { program := "ytbpjoeenopodiaa", sum := "a6ff9a748ec1c709c361f8a275d399810a4542c135b3c2d8e152243e5e1d072a", func := "loop.example/urnsandballs/laws.FnWaitSum", spec := "fnWaitSum", apart := false, narrowed := true }
def FnWaitSumUptoSaid : Prop := fnWaitSumUptoRow.holds Try.pinned (OpenSpec.upto fnWaitSumSpec)

/-- 'laws.FnFullWays', WHERE WHAT IT READS IS OF BULK AT MOST 1048576: true; the input reads as it did. -/
def fnFullWaysUptoRow : OpenClaim := { program := "ytbpjoeenopodiaa", sum := "a6ff9a748ec1c709c361f8a275d399810a4542c135b3c2d8e152243e5e1d072a", func := "loop.example/urnsandballs/laws.FnFullWays", spec := "fnFullWays", apart := false, narrowed := true }
def FnFullWaysUptoSaid : Prop := fnFullWaysUptoRow.holds Try.pinned (OpenSpec.upto fnFullWaysSpec)

/-- 'laws.FnRuleWays', WHERE WHAT IT READS IS OF BULK AT MOST 1048576: true; the input reads as it did. -/
def fnRuleWaysUptoRow : OpenClaim := { program := "ytbpjoeenopodiaa", sum := "a6ff9a748ec1c709c361f8a275d399810a4542c135b3c2d8e152243e5e1d072a", func := "loop.example/urnsandballs/laws.FnRuleWays", spec := "fnRuleWays", apart := false, narrowed := true }
def FnRuleWaysUptoSaid : Prop := fnRuleWaysUptoRow.holds Try.pinned (OpenSpec.upto fnRuleWaysSpec)

end Rows
end Go.Proofs.Ytbpjoeenopodiaa
