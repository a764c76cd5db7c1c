-- Printed for this claim by this session's turned copy of the print (wip/tools/xprint.sh)
import Derived.Test.YtdpdpljbmncmeaaCap
import Derived.Test.YtdpdpljbmncmeaaProg
import Derived.Below
import Derived.Deep.Draws
import Derived.Deep.AppendLies
import Derived.Maps.AppendAt
import Derived.OwnWalk
import Derived.Laws.BytesArg
import Derived.Laws.MakeOwn
import Derived.Laws.OwnMore
import Derived.Deep.OwnRows
import Derived.Tactics
import Derived.Lib.ConvBytes
import Derived.Laws.Slices
import Derived.WalkKit
import Derived.KernelRfl
import Derived.RowKit3
import Derived.Deep.LoopGhost
import Derived.Deep.QuietTactic
import Derived.BigQuiet
import Derived.WideLaws
import Derived.Deep.DeepCutAuto
import Derived.Deep.CutBlock
import Derived.Deep.RegionHeld3
import Derived.Laws.Rows
import Derived.Lib.AppendStr
import Derived.ArgAppend
import Derived.Laws.IdiomCopy
import Derived.OrdersHeld
import Derived.Laws.BitsLemmas
import Derived.RowKit
import Derived.Test.YtdpdpljbmncmeaaWWords
import Derived.Test.YtdpdpljbmncmeaaWLast
import Derived.Test.YtdpdpljbmncmeaaWTab
import Derived.Test.YtdpdpljbmncmeaaWFour
import Derived.Test.YtdpdpljbmncmeaaWQPut
import Derived.Test.YtdpdpljbmncmeaaWApart
import Derived.Test.YtdpdpljbmncmeaaWArr
import Derived.Test.YtdpdpljbmncmeaaWZeros
import Derived.Test.YtdpdpljbmncmeaaWFoot
import Derived.Test.YtdpdpljbmncmeaaWKept
import Derived.Test.YtdpdpljbmncmeaaWShare
import Derived.Test.YtdpdpljbmncmeaaWN
import Derived.Test.YtdpdpljbmncmeaaWFootNe
import Derived.Test.YtdpdpljbmncmeaaWAt
import Derived.Test.YtdpdpljbmncmeaaWEqStruct
import Derived.Test.YtdpdpljbmncmeaaWRepsOne
import Derived.Test.YtdpdpljbmncmeaaWInv
import Derived.Test.YtdpdpljbmncmeaaWInvWords
import Derived.Test.YtdpdpljbmncmeaaWGuard
import Derived.Test.YtdpdpljbmncmeaaWNEv
import Derived.Test.YtdpdpljbmncmeaaWMore
namespace Go.Proofs.Ytdpdpljbmncmeaa.PSt
open Go.RowKit Go.Proofs.YtdpdpljbmncmeaaW.PrintWords Go.Proofs.YtdpdpljbmncmeaaW.PrintLast Go.Proofs.YtdpdpljbmncmeaaW.PrintMore
attribute [local go_sem] max2_int min2_int max_two min_two max_three min_three max_four min_four   -- for this text's walks alone
set_option linter.unusedVariables false
set_option linter.unusedSimpArgs false



def errW : Option Int → Value
  | none => .nilIface
  | some c => .iface 0 (.int .i64 c)
theorem errW_none : errW none = .nilIface := rfl
theorem errW_some (c : Int) : errW (some c) = .iface 0 (.int .i64 c) := rfl

theorem info5 : (Try.prog.info? 5).map (fun i => (i.zero, i.size, i.bytes)) = some (some (.int .u8 0), 1, 1) := by kernel_rfl
-- the values' own types

end Go.Proofs.Ytdpdpljbmncmeaa.PSt
