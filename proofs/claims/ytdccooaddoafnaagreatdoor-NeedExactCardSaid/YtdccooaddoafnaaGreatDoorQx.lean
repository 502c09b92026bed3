-- PRINTED by print.py (a twelfth state) out of the translation. Not trusted: Lean checks it.
import Derived.Test.YtdccooaddoafnaaGreatDoorQx0
import Derived.Test.YtdccooaddoafnaaGreatDoorQx1
import Derived.Test.YtdccooaddoafnaaGreatDoorQx2
import Derived.Test.YtdccooaddoafnaaGreatDoorQx3
import Derived.Test.YtdccooaddoafnaaGreatDoorQx4
import Derived.Test.YtdccooaddoafnaaGreatDoorQx5
import Derived.Test.YtdccooaddoafnaaGreatDoorQx6
import Derived.Test.YtdccooaddoafnaaGreatDoorQx7
import Derived.Test.YtdccooaddoafnaaGreatDoorQx8
import Derived.Test.YtdccooaddoafnaaGreatDoorQx9
import Derived.Test.YtdccooaddoafnaaGreatDoorQx10
import Derived.Test.YtdccooaddoafnaaGreatDoorQx11
import Derived.Test.YtdccooaddoafnaaGreatDoorQx12
import Derived.Test.YtdccooaddoafnaaGreatDoorQx13
namespace Go.Proofs.YtdccooaddoafnaaGreatDoor.Q
open Go.RowKit Go.Proofs.YtdccooaddoafnaaGreatDoorW.PrintWords Go.Proofs.YtdccooaddoafnaaGreatDoorW.PrintLast Go.Proofs.YtdccooaddoafnaaGreatDoorW.PrintMore
attribute [local go_sem] str_gtr str_geq str_leq max2_int min2_int max_two min_two max_three min_three max_four min_four
set_option linter.unusedVariables false
set_option linter.unusedSimpArgs false

end Go.Proofs.YtdccooaddoafnaaGreatDoor.Q
