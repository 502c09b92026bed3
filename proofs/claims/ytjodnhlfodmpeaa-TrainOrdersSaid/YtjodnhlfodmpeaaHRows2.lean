/- Laws beside the printed words: rows that are written in place, by their cells; a string turned to a row of bytes. -/
import Derived.Test.YtjodnhlfodmpeaaHWords
import Derived.Sort.Row
import Derived.Lib.ConvBytes
set_option linter.unusedVariables false
set_option linter.unusedSimpArgs false
namespace Go.Proofs.YtjodnhlfodmpeaaW.PrintWords
open Go.RowKit Go.Sort
end Go.Proofs.YtjodnhlfodmpeaaW.PrintWords
