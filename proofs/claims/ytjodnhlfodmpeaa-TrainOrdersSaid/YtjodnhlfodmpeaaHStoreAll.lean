/- A whole struct stored into a box of the call's own, as one event. -/
import Derived.Test.YtjodnhlfodmpeaaHWords
import Derived.Laws.Tables
import Derived.ChangeKeysEq
import Derived.Test.YtjodnhlfodmpeaaHFuncVals
set_option linter.unusedVariables false
set_option linter.unusedSimpArgs false
namespace Go.Proofs.YtjodnhlfodmpeaaW.PrintWords
open Go.RowKit
section
variable {P : Program} {ops : Array Oper} {rest : List Oper} {o : Oper} {a : Act} {Q : Exit → Act → World → Prop}
theorem blk_cells {W : World} {g : Nat} {t : TypeId} {cs : List Value} (h : W.heap[g]? = some (.cells cs.toArray t (0, 0))) : ∀ j v, cs[j]? = some v → W.cell? ((⟨g, 0, none⟩ : Addr).add j) = some v := fun j v hj => by
  have e : (⟨g, 0, none⟩ : Addr).add j = ⟨g, j, none⟩ := by unfold Addr.add; by_cases hz : j = 0 <;> simp [hz]
  rw [e]
  unfold World.cell?
  simpa [h] using hj
end
end Go.Proofs.YtjodnhlfodmpeaaW.PrintWords
