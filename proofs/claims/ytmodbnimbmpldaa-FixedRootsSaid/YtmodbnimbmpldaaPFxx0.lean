-- Printed for this claim by this session's turned copy of the print (wip/tools/xprint.sh)
import Derived.Test.YtmodbnimbmpldaaProg
import Derived.Below
import Derived.Deep.Draws
import Derived.Deep.AppendLies
import Derived.Maps.AppendAt
import Derived.OwnWalk
import Derived.Laws.BytesArg
import Derived.Laws.MakeOwn
import Derived.Laws.OwnMore
import Derived.Deep.OwnRows
import Derived.Tactics
import Derived.Lib.ConvBytes
import Derived.Laws.Slices
import Derived.WalkKit
import Derived.KernelRfl
import Derived.RowKit3
import Derived.Deep.LoopGhost
import Derived.Deep.QuietTactic
import Derived.BigQuiet
import Derived.WideLaws
import Derived.Deep.DeepCutAuto
import Derived.Deep.CutBlock
import Derived.Deep.RegionHeld3
import Derived.Laws.Rows
import Derived.Lib.AppendStr
import Derived.ArgAppend
import Derived.Laws.IdiomCopy
import Derived.OrdersHeld
import Derived.Laws.BitsLemmas
import Derived.RowKit
import Derived.Test.YtmodbnimbmpldaaWWords
import Derived.Test.YtmodbnimbmpldaaWLast
import Derived.Test.YtmodbnimbmpldaaWTab
import Derived.Test.YtmodbnimbmpldaaWFour
import Derived.Test.YtmodbnimbmpldaaWQPut
import Derived.Test.YtmodbnimbmpldaaWApart
import Derived.Test.YtmodbnimbmpldaaWArr
import Derived.Test.YtmodbnimbmpldaaWZeros
import Derived.Test.YtmodbnimbmpldaaWFoot
import Derived.Test.YtmodbnimbmpldaaWKept
import Derived.Test.YtmodbnimbmpldaaWShare
import Derived.Test.YtmodbnimbmpldaaWN
import Derived.Test.YtmodbnimbmpldaaWFootNe
import Derived.Test.YtmodbnimbmpldaaWAt
import Derived.Test.YtmodbnimbmpldaaWEqStruct
import Derived.Test.YtmodbnimbmpldaaWRepsOne
import Derived.Test.YtmodbnimbmpldaaWInv
import Derived.Test.YtmodbnimbmpldaaWInvWords
import Derived.Test.YtmodbnimbmpldaaWGuard
import Derived.Test.YtmodbnimbmpldaaWNEv
import Derived.Test.YtmodbnimbmpldaaWMore
namespace Go.Proofs.Ytmodbnimbmpldaa.PFx
open Go.RowKit Go.Proofs.YtmodbnimbmpldaaW.PrintWords Go.Proofs.YtmodbnimbmpldaaW.PrintLast Go.Proofs.YtmodbnimbmpldaaW.PrintMore
attribute [local go_sem] max2_int min2_int max_two min_two max_three min_three max_four min_four   -- for this text's walks alone
set_option linter.unusedVariables false
set_option linter.unusedSimpArgs false



def errW : Option Int → Value
  | none => .nilIface
  | some c => .iface 0 (.int .i64 c)
theorem errW_none : errW none = .nilIface := rfl
theorem errW_some (c : Int) : errW (some c) = .iface 0 (.int .i64 c) := rfl

-- the values' own types

end Go.Proofs.Ytmodbnimbmpldaa.PFx
