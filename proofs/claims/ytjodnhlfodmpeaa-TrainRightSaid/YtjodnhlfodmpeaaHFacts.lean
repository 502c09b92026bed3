/- What the package-level variables hold: a number in bytealg.MaxLen. -/
import Derived.Test.YtjodnhlfodmpeaaShelf
import Derived.Test.YtjodnhlfodmpeaaHWords
set_option linter.unusedVariables false
namespace Go.Proofs.Ytjodnhlfodmpeaa.Q
open Go.RowKit
/-- bytealg.MaxLen holds a number. -/
def Facts (w : World) : Prop := ∃ m : Int, w.cell? ⟨Try.laysM143_ren.g 1, 0, none⟩ = some (.int .i64 m)
theorem Facts.below {w w' : World} (h : Facts w) (hb : Below w.heap.size w w') : Facts w' := h.imp fun m hm => (hb.cell (World.block_lt_of_cell? w _ hm)).trans hm
theorem Facts.drewN {w : World} (h : Facts w) (n : Nat) : Facts (w.drewN n) := h
theorem Facts.drew {w : World} (h : Facts w) : Facts w.drew := h
theorem Facts.alloc {w : World} (h : Facts w) (o : Obj) : Facts (w.alloc o) := h.below ((Below.refl _ _).alloc (Nat.le_refl _) o)
theorem Facts.maxLen {w : World} (h : Facts w) : ∃ m : Int, w.cell? ⟨Try.laysM143_ren.g 1, 0, none⟩ = some (.int .i64 m) := h
end Go.Proofs.Ytjodnhlfodmpeaa.Q
