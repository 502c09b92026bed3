-- PRINTED by print.py (a twelfth state) out of the translation. Not trusted: Lean checks it.
import Derived.Test.YtmddkhoibahehaaQx0
import Derived.Test.YtmddkhoibahehaaQx1
import Derived.Test.YtmddkhoibahehaaQx2
import Derived.Test.YtmddkhoibahehaaQx3
import Derived.Test.YtmddkhoibahehaaQx4
import Derived.Test.YtmddkhoibahehaaQx5
import Derived.Test.YtmddkhoibahehaaQx6
import Derived.Test.YtmddkhoibahehaaQx7
import Derived.Test.YtmddkhoibahehaaQx8
import Derived.Test.YtmddkhoibahehaaQx9
import Derived.Test.YtmddkhoibahehaaQx10
import Derived.Test.YtmddkhoibahehaaQx11
import Derived.Test.YtmddkhoibahehaaQx12
namespace Go.Proofs.Ytmddkhoibahehaa.Q
open Go.RowKit Go.Proofs.YtmddkhoibahehaaW.PrintWords Go.Proofs.YtmddkhoibahehaaW.PrintLast Go.Proofs.YtmddkhoibahehaaW.PrintMore
attribute [local go_sem] str_gtr str_geq str_leq max2_int min2_int max_two min_two max_three min_three max_four min_four   -- for this text's walks alone
set_option linter.unusedVariables false
set_option linter.unusedSimpArgs false

end Go.Proofs.Ytmddkhoibahehaa.Q
