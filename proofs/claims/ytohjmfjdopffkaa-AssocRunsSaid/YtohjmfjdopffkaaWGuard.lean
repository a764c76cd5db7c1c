-- printed by the kit's print, then trimmed by this session's own trimw.py: lemmas that this claim does not use are taken out
import Derived.Test.YtohjmfjdopffkaaWWords
/-! ### 58. A guarded operation whose guard is known to want it: the same goal without the guard -/
namespace Go.Proofs.YtohjmfjdopffkaaW.PrintWords
open Go.RowKit
section
variable {P : Program} {ops : Array Oper} {rest : List Oper} {o : Oper} {a : Act} {Q : Exit → Act → World → Prop} {W : World}
end
end Go.Proofs.YtohjmfjdopffkaaW.PrintWords
