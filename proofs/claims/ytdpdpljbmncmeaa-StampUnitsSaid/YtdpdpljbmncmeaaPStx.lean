-- Printed for this claim by this session's turned copy of the print (wip/tools/xprint.sh)
import Derived.Test.YtdpdpljbmncmeaaPStx0
import Derived.Test.YtdpdpljbmncmeaaPStx1
import Derived.Test.YtdpdpljbmncmeaaPStx2
import Derived.Test.YtdpdpljbmncmeaaPStx3
import Derived.Test.YtdpdpljbmncmeaaPStx4
import Derived.Test.YtdpdpljbmncmeaaPStx5
import Derived.Test.YtdpdpljbmncmeaaPStx6
import Derived.Test.YtdpdpljbmncmeaaPStx7
import Derived.Test.YtdpdpljbmncmeaaPStx8
namespace Go.Proofs.Ytdpdpljbmncmeaa.PSt
open Go.RowKit Go.Proofs.YtdpdpljbmncmeaaW.PrintWords Go.Proofs.YtdpdpljbmncmeaaW.PrintLast Go.Proofs.YtdpdpljbmncmeaaW.PrintMore
attribute [local go_sem] max2_int min2_int max_two min_two max_three min_three max_four min_four   -- for this text's walks alone
set_option linter.unusedVariables false
set_option linter.unusedSimpArgs false

end Go.Proofs.Ytdpdpljbmncmeaa.PSt
