-- PRINTED by print.py (a twelfth state) out of the translation. Not trusted: Lean checks it.
import Derived.Test.YtpgdgofmoelgbaaQx0
import Derived.Test.YtpgdgofmoelgbaaQx1
import Derived.Test.YtpgdgofmoelgbaaQx2
import Derived.Test.YtpgdgofmoelgbaaQx3
import Derived.Test.YtpgdgofmoelgbaaQx4
import Derived.Test.YtpgdgofmoelgbaaQx5
import Derived.Test.YtpgdgofmoelgbaaQx6
namespace Go.Proofs.Ytpgdgofmoelgbaa.Q
open Go.RowKit Go.Proofs.YtpgdgofmoelgbaaW.PrintWords Go.Proofs.YtpgdgofmoelgbaaW.PrintLast Go.Proofs.YtpgdgofmoelgbaaW.PrintMore
attribute [local go_sem] max2_int min2_int max_two min_two max_three min_three max_four min_four   -- for this text's walks alone
set_option linter.unusedVariables false
set_option linter.unusedSimpArgs false

end Go.Proofs.Ytpgdgofmoelgbaa.Q
