-- printed by the kit's print, then trimmed by this session's own trimw.py: lemmas that this claim does not use are taken out
import Derived.Test.YtcnckfhibmlioaaWLast
import Derived.Test.YtcnckfhibmlioaaWWords
/-! ### 50. A region's order in a table, made once a region: each step asks the table (numbers alone), not the operations -/
namespace Go.Proofs.YtcnckfhibmlioaaW.PrintLast
open Go.Proofs.YtcnckfhibmlioaaW.PrintWords (Aside0)
section
variable {md : Region.Mode} {ops : Array Oper} {T : Bool × List (List Nat × List Nat)} {l l' li lj lk : Array Bool} {ds : List Nat} {i j k : Nat}
end
end Go.Proofs.YtcnckfhibmlioaaW.PrintLast
