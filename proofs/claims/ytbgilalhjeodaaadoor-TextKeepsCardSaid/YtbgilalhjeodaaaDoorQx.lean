-- PRINTED by print.py (a twelfth state) out of the translation. Not trusted: Lean checks it.
import Derived.Test.YtbgilalhjeodaaaDoorQx0
import Derived.Test.YtbgilalhjeodaaaDoorQx1
import Derived.Test.YtbgilalhjeodaaaDoorQx2
import Derived.Test.YtbgilalhjeodaaaDoorQx3
import Derived.Test.YtbgilalhjeodaaaDoorQx4
import Derived.Test.YtbgilalhjeodaaaDoorQx5
import Derived.Test.YtbgilalhjeodaaaDoorQx6
import Derived.Test.YtbgilalhjeodaaaDoorQx7
import Derived.Test.YtbgilalhjeodaaaDoorQx8
import Derived.Test.YtbgilalhjeodaaaDoorQx9
import Derived.Test.YtbgilalhjeodaaaDoorQx10
import Derived.Test.YtbgilalhjeodaaaDoorQx11
import Derived.Test.YtbgilalhjeodaaaDoorQx12
import Derived.Test.YtbgilalhjeodaaaDoorQx13
namespace Go.Proofs.YtbgilalhjeodaaaDoor.Q
open Go.RowKit Go.Proofs.YtbgilalhjeodaaaDoorW.PrintWords Go.Proofs.YtbgilalhjeodaaaDoorW.PrintLast Go.Proofs.YtbgilalhjeodaaaDoorW.PrintMore
attribute [local go_sem] str_gtr str_geq str_leq max2_int min2_int max_two min_two max_three min_three max_four min_four   -- for this text's walks alone
set_option linter.unusedVariables false
set_option linter.unusedSimpArgs false

end Go.Proofs.YtbgilalhjeodaaaDoor.Q
