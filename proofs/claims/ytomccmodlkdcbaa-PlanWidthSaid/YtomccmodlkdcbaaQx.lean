-- PRINTED by print.py (a twelfth state) out of the translation. Not trusted: Lean checks it.
import Derived.Test.YtomccmodlkdcbaaQx0
import Derived.Test.YtomccmodlkdcbaaQx1
import Derived.Test.YtomccmodlkdcbaaQx2
import Derived.Test.YtomccmodlkdcbaaQx3
import Derived.Test.YtomccmodlkdcbaaQx4
import Derived.Test.YtomccmodlkdcbaaQx5
import Derived.Test.YtomccmodlkdcbaaQx6
import Derived.Test.YtomccmodlkdcbaaQx7
import Derived.Test.YtomccmodlkdcbaaQx8
import Derived.Test.YtomccmodlkdcbaaQx9
import Derived.Test.YtomccmodlkdcbaaQx10
import Derived.Test.YtomccmodlkdcbaaQx11
import Derived.Test.YtomccmodlkdcbaaQx12
namespace Go.Proofs.Ytomccmodlkdcbaa.Q
open Go.RowKit Go.Proofs.YtomccmodlkdcbaaW.PrintWords Go.Proofs.YtomccmodlkdcbaaW.PrintLast Go.Proofs.YtomccmodlkdcbaaW.PrintMore
attribute [local go_sem] str_gtr str_geq str_leq max2_int min2_int max_two min_two max_three min_three max_four min_four
set_option linter.unusedVariables false
set_option linter.unusedSimpArgs false

end Go.Proofs.Ytomccmodlkdcbaa.Q
