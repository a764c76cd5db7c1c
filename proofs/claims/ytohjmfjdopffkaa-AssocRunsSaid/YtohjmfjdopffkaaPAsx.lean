-- Printed for this claim by this session's turned copy of the print (wip/tools/xprint.sh)
import Derived.Test.YtohjmfjdopffkaaPAsx0
import Derived.Test.YtohjmfjdopffkaaPAsx1
import Derived.Test.YtohjmfjdopffkaaPAsx2
import Derived.Test.YtohjmfjdopffkaaPAsx3
import Derived.Test.YtohjmfjdopffkaaPAsx4
import Derived.Test.YtohjmfjdopffkaaPAsx5
namespace Go.Proofs.Ytohjmfjdopffkaa.PAs
open Go.RowKit Go.Proofs.YtohjmfjdopffkaaW.PrintWords Go.Proofs.YtohjmfjdopffkaaW.PrintLast Go.Proofs.YtohjmfjdopffkaaW.PrintMore
attribute [local go_sem] max2_int min2_int max_two min_two max_three min_three max_four min_four   -- for this text's walks alone
set_option linter.unusedVariables false
set_option linter.unusedSimpArgs false

end Go.Proofs.Ytohjmfjdopffkaa.PAs
