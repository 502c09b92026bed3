/- What the package-level variables hold: utf8's two tables, as their text lays them; a number in bytealg.MaxLen. -/
import Derived.Test.YtdccooaddoafnaaGreatDoorShelf
import Derived.Test.YtdccooaddoafnaaGreatDoorHWords
set_option linter.unusedVariables false
namespace Go.Proofs.YtdccooaddoafnaaGreatDoor.Q
open Go.RowKit
/-- utf8's two tables are laid; bytealg.MaxLen holds a number. -/
def Facts (w : World) : Prop := Lib.Utf8Tabs (Tryz.lays260_ren.g 3) (Tryz.lays260_ren.g 4) w ∧ ∃ m : Int, w.cell? ⟨Tryz.laysM143_ren.g 1, 0, none⟩ = some (.int .i64 m)
theorem Facts.below {w w' : World} (h : Facts w) (hb : Below w.heap.size w w') : Facts w' := ⟨Utf8Tabs_below h.1 hb, h.2.imp fun m hm => (hb.cell (World.block_lt_of_cell? w _ hm)).trans hm⟩
theorem Facts.drewN {w : World} (h : Facts w) (n : Nat) : Facts (w.drewN n) := h
theorem Facts.drew {w : World} (h : Facts w) : Facts w.drew := h
theorem Facts.alloc {w : World} (h : Facts w) (o : Obj) : Facts (w.alloc o) := h.below ((Below.refl _ _).alloc (Nat.le_refl _) o)
theorem Facts.tabs {w : World} (h : Facts w) : Lib.Utf8Tabs (Tryz.lays260_ren.g 3) (Tryz.lays260_ren.g 4) w := h.1
theorem Facts.maxLen {w : World} (h : Facts w) : ∃ m : Int, w.cell? ⟨Tryz.laysM143_ren.g 1, 0, none⟩ = some (.int .i64 m) := h.2
end Go.Proofs.YtdccooaddoafnaaGreatDoor.Q
