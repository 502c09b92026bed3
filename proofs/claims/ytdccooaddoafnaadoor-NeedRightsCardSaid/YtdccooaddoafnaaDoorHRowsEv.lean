/- Rows that are few and small: the reference's guard. -/
import Derived.Test.YtdccooaddoafnaaDoorHEvBase
import Derived.Test.YtdccooaddoafnaaDoorQx
set_option linter.unusedVariables false
set_option linter.unusedSimpArgs false
namespace Go.Proofs.YtdccooaddoafnaaDoor.Pure
open Go.RowKit Go.Proofs.YtdccooaddoafnaaDoor.Q Go.Proofs.YtdccooaddoafnaaDoorW.PrintWords Go.Proofs.YtdccooaddoafnaaDoorW.PrintLast Go.Proofs.YtdccooaddoafnaaDoorW.PrintMore
def SmallV (v : S40) : Prop := v.f1.size ≤ 100 ∧ (v.f0 = true → v.f1.toList = [])
/-- What the guard says of rows. -/
structure Small (l : List (List S40)) (a : Int) : Prop where
  a1 : 1 ≤ a
  a8 : a ≤ 8
  len : l.length ≤ 100
  row : ∀ r ∈ l, (r.length : Int) = a ∧ ∀ v ∈ r, SmallV v
/-! ### what is the same -/
end Go.Proofs.YtdccooaddoafnaaDoor.Pure
