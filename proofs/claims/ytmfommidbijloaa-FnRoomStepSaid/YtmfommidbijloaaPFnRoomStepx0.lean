-- PRINTED BY print.sh 35421559b90ae4d0a3588c463048766b98c2df88dd9212a6774a882060cdf62d: not written by this session
import Derived.Test.YtmfommidbijloaaProg
import Derived.Below
import Derived.Deep.Draws
import Derived.Deep.AppendLies
import Derived.Maps.AppendAt
import Derived.OwnWalk
import Derived.Laws.BytesArg
import Derived.Laws.MakeOwn
import Derived.Laws.OwnMore
import Derived.Deep.OwnRows
import Derived.Tactics
import Derived.Lib.ConvBytes
import Derived.Laws.Slices
import Derived.WalkKit
import Derived.KernelRfl
import Derived.RowKit3
import Derived.Deep.LoopGhost
import Derived.Deep.QuietTactic
import Derived.BigQuiet
import Derived.WideLaws
import Derived.Deep.DeepCutAuto
import Derived.Deep.CutBlock
import Derived.Deep.RegionHeld3
import Derived.Laws.Rows
import Derived.Lib.AppendStr
import Derived.ArgAppend
import Derived.Laws.IdiomCopy
import Derived.OrdersHeld
import Derived.Laws.BitsLemmas
import Derived.RowKit
import Derived.Test.YtmfommidbijloaaWWords
import Derived.Test.YtmfommidbijloaaWLast
import Derived.Test.YtmfommidbijloaaWTab
import Derived.Test.YtmfommidbijloaaWFour
import Derived.Test.YtmfommidbijloaaWQPut
import Derived.Test.YtmfommidbijloaaWApart
import Derived.Test.YtmfommidbijloaaWArr
import Derived.Test.YtmfommidbijloaaWZeros
import Derived.Test.YtmfommidbijloaaWFoot
import Derived.Test.YtmfommidbijloaaWKept
import Derived.Test.YtmfommidbijloaaWShare
import Derived.Test.YtmfommidbijloaaWN
import Derived.Test.YtmfommidbijloaaWFootNe
import Derived.Test.YtmfommidbijloaaWAt
import Derived.Test.YtmfommidbijloaaWEqStruct
import Derived.Test.YtmfommidbijloaaWRepsOne
import Derived.Test.YtmfommidbijloaaWInv
import Derived.Test.YtmfommidbijloaaWInvWords
import Derived.Test.YtmfommidbijloaaWGuard
import Derived.Test.YtmfommidbijloaaWNEv
import Derived.Test.YtmfommidbijloaaWMore
namespace Go.Proofs.Ytmfommidbijloaa.PFnRoomStep
open Go.RowKit Go.Proofs.YtmfommidbijloaaW.PrintWords Go.Proofs.YtmfommidbijloaaW.PrintLast Go.Proofs.YtmfommidbijloaaW.PrintMore
attribute [local go_sem] max2_int min2_int max_two min_two max_three min_three max_four min_four   -- for this text's walks alone
set_option linter.unusedVariables false
set_option linter.unusedSimpArgs false



def errW : Option Int → Value
  | none => .nilIface
  | some c => .iface 0 (.int .i64 c)
theorem errW_none : errW none = .nilIface := rfl
theorem errW_some (c : Int) : errW (some c) = .iface 0 (.int .i64 c) := rfl

theorem info3 : (Try.prog.info? 3).map (fun i => (i.zero, i.size, i.bytes)) = some (some (.int .i64 0), 1, 8) := by kernel_rfl
theorem info5 : (Try.prog.info? 5).map (fun i => (i.zero, i.size, i.bytes)) = some (some (.int .u8 0), 1, 1) := by kernel_rfl
-- the values' own types

end Go.Proofs.Ytmfommidbijloaa.PFnRoomStep
