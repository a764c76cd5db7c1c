-- Printed for this claim by this session's turned copy of the print (wip/tools/xprint.sh)
import Derived.Test.YtmodbnimbmpldaaPFxx0
import Derived.Test.YtmodbnimbmpldaaPFxx1
import Derived.Test.YtmodbnimbmpldaaPFxx2
import Derived.Test.YtmodbnimbmpldaaPFxx3
import Derived.Test.YtmodbnimbmpldaaPFxx4
import Derived.Test.YtmodbnimbmpldaaPFxx5
import Derived.Test.YtmodbnimbmpldaaPFxx6
import Derived.Test.YtmodbnimbmpldaaPFxx7
namespace Go.Proofs.Ytmodbnimbmpldaa.PFx
open Go.RowKit Go.Proofs.YtmodbnimbmpldaaW.PrintWords Go.Proofs.YtmodbnimbmpldaaW.PrintLast Go.Proofs.YtmodbnimbmpldaaW.PrintMore
attribute [local go_sem] max2_int min2_int max_two min_two max_three min_three max_four min_four   -- for this text's walks alone
set_option linter.unusedVariables false
set_option linter.unusedSimpArgs false

end Go.Proofs.Ytmodbnimbmpldaa.PFx
