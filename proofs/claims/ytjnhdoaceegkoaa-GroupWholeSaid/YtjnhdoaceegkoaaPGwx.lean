-- WRITTEN BY gprint.py, a program of this session, out of the translation (over the kit's print.py): Lean checks it.
import Derived.Test.YtjnhdoaceegkoaaPGwx0
import Derived.Test.YtjnhdoaceegkoaaPGwx1
import Derived.Test.YtjnhdoaceegkoaaPGwx2
import Derived.Test.YtjnhdoaceegkoaaPGwx3
import Derived.Test.YtjnhdoaceegkoaaPGwx4
import Derived.Test.YtjnhdoaceegkoaaPGwx5
import Derived.Test.YtjnhdoaceegkoaaPGwx6
import Derived.Test.YtjnhdoaceegkoaaPGwx7
import Derived.Test.YtjnhdoaceegkoaaPGwx8
import Derived.Test.YtjnhdoaceegkoaaPGwx9
import Derived.Test.YtjnhdoaceegkoaaPGwx10
namespace Go.Proofs.Ytjnhdoaceegkoaa.PGw
open Go.RowKit Go.Proofs.YtjnhdoaceegkoaaW.PrintWords Go.Proofs.YtjnhdoaceegkoaaW.PrintLast Go.Proofs.YtjnhdoaceegkoaaW.PrintMore
attribute [local go_sem] max2_int min2_int max_two min_two max_three min_three max_four min_four   -- for this text's walks alone
set_option linter.unusedVariables false
set_option linter.unusedSimpArgs false

end Go.Proofs.Ytjnhdoaceegkoaa.PGw
