/- Function values handed to the library: what is handed over, element by element. -/
import Derived.Test.YtdccooaddoafnaaGreatDoorHWords
import Derived.Laws.Cells
set_option linter.unusedVariables false
namespace Go.Proofs.YtdccooaddoafnaaGreatDoorW.PrintWords
open Go.RowKit
/-- A load of a list's cells. -/
theorem loadFrom_list (P : Program) (W : World) (a : Addr) (cs : List Value) (k : Nat) (hk : cs.length = k) (h : ∀ j v, cs[j]? = some v → W.cell? (a.add j) = some v) :
    Sem.run P (loadCellsFrom a 0 k #[]) W = .ok cs.toArray W := by
  have h2 := run_loadCells_list (P := P) (w := W) a cs h
  rw [hk] at h2
  simpa [loadCells] using h2
theorem addr_add (a : Addr) (i j : Nat) : (a.add i).add j = a.add (i + j) := by
  unfold Addr.add
  by_cases hi : i = 0
  · subst hi; simp
  · by_cases hj : j = 0
    · subst hj; simp [hi]
    · simp [hi, hj, Nat.add_assoc]
end Go.Proofs.YtdccooaddoafnaaGreatDoorW.PrintWords
