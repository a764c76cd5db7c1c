-- printed by the kit's print, then trimmed by this session's own trimw.py: lemmas that this claim does not use are taken out
import Derived.Test.YtcnckfhibmlioaaWTab
/-! ### 56. Four, five, six operations that may come up next, in any order -/
namespace Go.Proofs.YtcnckfhibmlioaaW.PrintLast
section
variable {P : Program} {ops : Array Oper} {Q : Exit → Act → World → Prop} {md : Region.Mode} {S : World → Prop} {ds : List Nat} {T : Bool × List (List Nat × List Nat)}
end
end Go.Proofs.YtcnckfhibmlioaaW.PrintLast
