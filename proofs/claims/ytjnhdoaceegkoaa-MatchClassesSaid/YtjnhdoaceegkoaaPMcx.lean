-- WRITTEN BY gprint.py, a program of this session, out of the translation (over the kit's print.py): Lean checks it.
import Derived.Test.YtjnhdoaceegkoaaPMcx0
import Derived.Test.YtjnhdoaceegkoaaPMcx1
import Derived.Test.YtjnhdoaceegkoaaPMcx2
import Derived.Test.YtjnhdoaceegkoaaPMcx3
import Derived.Test.YtjnhdoaceegkoaaPMcx4
import Derived.Test.YtjnhdoaceegkoaaPMcx5
import Derived.Test.YtjnhdoaceegkoaaPMcx6
namespace Go.Proofs.Ytjnhdoaceegkoaa.PMc
open Go.RowKit Go.Proofs.YtjnhdoaceegkoaaW.PrintWords Go.Proofs.YtjnhdoaceegkoaaW.PrintLast Go.Proofs.YtjnhdoaceegkoaaW.PrintMore
attribute [local go_sem] max2_int min2_int max_two min_two max_three min_three max_four min_four   -- for this text's walks alone
set_option linter.unusedVariables false
set_option linter.unusedSimpArgs false

end Go.Proofs.Ytjnhdoaceegkoaa.PMc
