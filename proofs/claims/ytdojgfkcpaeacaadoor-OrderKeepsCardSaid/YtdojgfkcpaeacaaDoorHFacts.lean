/- What the package-level variables hold: utf8's two tables, as their text lays them. -/
import Derived.Test.YtdojgfkcpaeacaaDoorShelf
import Derived.Test.YtdojgfkcpaeacaaDoorHWords
set_option linter.unusedVariables false
namespace Go.Proofs.YtdojgfkcpaeacaaDoor.Q
open Go.RowKit
/-- utf8's two tables are laid. -/
def Facts (w : World) : Prop := Lib.Utf8Tabs (Tryd.lays260_ren.g 3) (Tryd.lays260_ren.g 4) w
theorem Facts.below {w w' : World} (h : Facts w) (hb : Below w.heap.size w w') : Facts w' := Utf8Tabs_below h hb
theorem Facts.drewN {w : World} (h : Facts w) (n : Nat) : Facts (w.drewN n) := h
theorem Facts.drew {w : World} (h : Facts w) : Facts w.drew := h
theorem Facts.alloc {w : World} (h : Facts w) (o : Obj) : Facts (w.alloc o) := h.below ((Below.refl _ _).alloc (Nat.le_refl _) o)
theorem Facts.tabs {w : World} (h : Facts w) : Lib.Utf8Tabs (Tryd.lays260_ren.g 3) (Tryd.lays260_ren.g 4) w := h
end Go.Proofs.YtdojgfkcpaeacaaDoor.Q
