/- Function values handed to the library: what is handed over, element by element. -/
import Derived.Test.YtjodnhlfodmpeaaHWords
import Derived.Laws.Cells
set_option linter.unusedVariables false
namespace Go.Proofs.YtjodnhlfodmpeaaW.PrintWords
open Go.RowKit
end Go.Proofs.YtjodnhlfodmpeaaW.PrintWords
