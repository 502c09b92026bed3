-- PRINTED by print.py (a twelfth state) out of the translation. Not trusted: Lean checks it.
import Derived.Test.YtdccooaddoafnaaDoorQx0
import Derived.Test.YtdccooaddoafnaaDoorQx1
import Derived.Test.YtdccooaddoafnaaDoorQx2
import Derived.Test.YtdccooaddoafnaaDoorQx3
import Derived.Test.YtdccooaddoafnaaDoorQx4
import Derived.Test.YtdccooaddoafnaaDoorQx5
import Derived.Test.YtdccooaddoafnaaDoorQx6
import Derived.Test.YtdccooaddoafnaaDoorQx7
import Derived.Test.YtdccooaddoafnaaDoorQx8
import Derived.Test.YtdccooaddoafnaaDoorQx9
import Derived.Test.YtdccooaddoafnaaDoorQx10
import Derived.Test.YtdccooaddoafnaaDoorQx11
import Derived.Test.YtdccooaddoafnaaDoorQx12
import Derived.Test.YtdccooaddoafnaaDoorQx13
namespace Go.Proofs.YtdccooaddoafnaaDoor.Q
open Go.RowKit Go.Proofs.YtdccooaddoafnaaDoorW.PrintWords Go.Proofs.YtdccooaddoafnaaDoorW.PrintLast Go.Proofs.YtdccooaddoafnaaDoorW.PrintMore
attribute [local go_sem] str_gtr str_geq str_leq max2_int min2_int max_two min_two max_three min_three max_four min_four
set_option linter.unusedVariables false
set_option linter.unusedSimpArgs false

end Go.Proofs.YtdccooaddoafnaaDoor.Q
