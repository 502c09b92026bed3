/- Is a slice nil: what the walk meets. -/
import Derived.Test.YtdojgfkcpaeacaaDoorHWords
import Derived.Lib.SliceRun
set_option linter.unusedVariables false
namespace Go.Proofs.YtdojgfkcpaeacaaDoorW.PrintWords
open Go.RowKit
theorem run_eqlNil {P : Program} {t e : TypeId} (ht : P.underlying t = some (.slice e)) (a : Option Addr) (n c : Nat) (W : World) : (binOp .eql t (.slice a n c) (.slice none 0 0)).run P W = .ok (.bool a.isNone) W := Lib.run_eql_slice_nil W t e a n c 0 0 ht
end Go.Proofs.YtdojgfkcpaeacaaDoorW.PrintWords
