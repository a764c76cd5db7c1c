-- Printed for this claim by this session's turned copy of the print (wip/tools/xprint.sh)
import Derived.Test.YtdpdpljbmncmeaaPTsx0
import Derived.Test.YtdpdpljbmncmeaaPTsx1
import Derived.Test.YtdpdpljbmncmeaaPTsx2
import Derived.Test.YtdpdpljbmncmeaaPTsx3
import Derived.Test.YtdpdpljbmncmeaaPTsx4
import Derived.Test.YtdpdpljbmncmeaaPTsx5
namespace Go.Proofs.Ytdpdpljbmncmeaa.PTs
open Go.RowKit Go.Proofs.YtdpdpljbmncmeaaW.PrintWords Go.Proofs.YtdpdpljbmncmeaaW.PrintLast Go.Proofs.YtdpdpljbmncmeaaW.PrintMore
attribute [local go_sem] max2_int min2_int max_two min_two max_three min_three max_four min_four   -- for this text's walks alone
set_option linter.unusedVariables false
set_option linter.unusedSimpArgs false

end Go.Proofs.Ytdpdpljbmncmeaa.PTs
