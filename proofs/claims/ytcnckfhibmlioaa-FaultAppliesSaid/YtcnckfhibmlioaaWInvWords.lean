-- printed by the kit's print, then trimmed by this session's own trimw.py: lemmas that this claim does not use are taken out
import Derived.Test.YtcnckfhibmlioaaWInv
import Derived.Test.YtcnckfhibmlioaaWFootNe
namespace Go.Proofs.YtcnckfhibmlioaaW.PrintWords
open Go.RowKit
end Go.Proofs.YtcnckfhibmlioaaW.PrintWords
namespace Go.Proofs.YtcnckfhibmlioaaW.PrintLast
section
variable {ops : Array Oper} {a : Act} {o og : Oper} {g : Nat} {t : Tmp} {u : Bool}
end
end Go.Proofs.YtcnckfhibmlioaaW.PrintLast
