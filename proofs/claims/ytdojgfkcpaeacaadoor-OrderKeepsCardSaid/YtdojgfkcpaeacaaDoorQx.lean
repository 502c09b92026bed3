-- PRINTED by print.py (a twelfth state) out of the translation. Not trusted: Lean checks it.
import Derived.Test.YtdojgfkcpaeacaaDoorQx0
import Derived.Test.YtdojgfkcpaeacaaDoorQx1
import Derived.Test.YtdojgfkcpaeacaaDoorQx2
import Derived.Test.YtdojgfkcpaeacaaDoorQx3
import Derived.Test.YtdojgfkcpaeacaaDoorQx4
import Derived.Test.YtdojgfkcpaeacaaDoorQx5
import Derived.Test.YtdojgfkcpaeacaaDoorQx6
import Derived.Test.YtdojgfkcpaeacaaDoorQx7
import Derived.Test.YtdojgfkcpaeacaaDoorQx8
import Derived.Test.YtdojgfkcpaeacaaDoorQx9
import Derived.Test.YtdojgfkcpaeacaaDoorQx10
import Derived.Test.YtdojgfkcpaeacaaDoorQx11
import Derived.Test.YtdojgfkcpaeacaaDoorQx12
import Derived.Test.YtdojgfkcpaeacaaDoorQx13
import Derived.Test.YtdojgfkcpaeacaaDoorQx14
import Derived.Test.YtdojgfkcpaeacaaDoorQx15
import Derived.Test.YtdojgfkcpaeacaaDoorQx16
namespace Go.Proofs.YtdojgfkcpaeacaaDoor.Q
open Go.RowKit Go.Proofs.YtdojgfkcpaeacaaDoorW.PrintWords Go.Proofs.YtdojgfkcpaeacaaDoorW.PrintLast Go.Proofs.YtdojgfkcpaeacaaDoorW.PrintMore
attribute [local go_sem] str_gtr str_geq str_leq max2_int min2_int max_two min_two max_three min_three max_four min_four
set_option linter.unusedVariables false
set_option linter.unusedSimpArgs false

end Go.Proofs.YtdojgfkcpaeacaaDoor.Q
