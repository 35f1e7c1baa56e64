-- WRITTEN BY gprint.py, a program of this session, out of the translation (over the kit's print.py): Lean checks it.
import Derived.Test.YtjnhdoaceegkoaaPMlx0
import Derived.Test.YtjnhdoaceegkoaaPMlx1
import Derived.Test.YtjnhdoaceegkoaaPMlx2
import Derived.Test.YtjnhdoaceegkoaaPMlx3
import Derived.Test.YtjnhdoaceegkoaaPMlx4
import Derived.Test.YtjnhdoaceegkoaaPMlx5
import Derived.Test.YtjnhdoaceegkoaaPMlx6
import Derived.Test.YtjnhdoaceegkoaaPMlx7
import Derived.Test.YtjnhdoaceegkoaaPMlx8
import Derived.Test.YtjnhdoaceegkoaaPMlx9
namespace Go.Proofs.Ytjnhdoaceegkoaa.PMl
open Go.RowKit Go.Proofs.YtjnhdoaceegkoaaW.PrintWords Go.Proofs.YtjnhdoaceegkoaaW.PrintLast Go.Proofs.YtjnhdoaceegkoaaW.PrintMore
attribute [local go_sem] max2_int min2_int max_two min_two max_three min_three max_four min_four   -- for this text's walks alone
set_option linter.unusedVariables false
set_option linter.unusedSimpArgs false

end Go.Proofs.Ytjnhdoaceegkoaa.PMl
