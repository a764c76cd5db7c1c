/- FaultChecks: the walk and the plain law, joined. -/
import Derived.Test.YtcnckfhibmlioaaFaChk
import Derived.Test.YtcnckfhibmlioaaFaOpen
namespace Go.Proofs.Ytcnckfhibmlioaa.Fa
open Go Go.RowKit Go.Proofs.Ytcnckfhibmlioaa Go.Proofs.Ytcnckfhibmlioaa.PFa Go.Proofs.YtcnckfhibmlioaaW.PrintWords
set_option linter.unusedVariables false
theorem checks_law (W : World) (A : Option Addr) (cap : Nat) (l : List S46) (hlc : l.length ≤ cap) (hcm : cap ≤ maxLen) (hC : Kd.C k46 W A l.length l) (hQ : ∀ a ∈ l, S46.wf a) :
    Calls Try.prog 3 #[.slice A l.length cap] W fun e W' => e = .returned (.bool true) ∧ Below W.heap.size W W' := timesynclaw55_FaultChecks.calls 1000 A cap l true W hC hlc (faultChecks_pure l)
end Go.Proofs.Ytcnckfhibmlioaa.Fa
