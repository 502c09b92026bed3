/- Small words for contracts told by hand: lists walked by a function that may have no answer. -/
import Derived.Test.YtjodnhlfodmpeaaHWords
import Derived.Test.YtjodnhlfodmpeaaHFuncVals
import Derived.Test.YtjodnhlfodmpeaaHStoreAll
import Derived.Laws.EntriesVeiled
set_option linter.unusedVariables false
namespace Go.Proofs.YtjodnhlfodmpeaaW.PrintWords
open Go.RowKit
theorem LeO.same {α : Type} {a : Option α} : LeO a a := fun _ h => h
theorem drop_getE {α : Type} (z : α) (l : List α) (i : Nat) (h : i < l.length) : l.drop i = l.getD i z :: l.drop (i + 1) := by
  rw [List.drop_eq_getElem_cons h, List.getD_eq_getElem?_getD, List.getElem?_eq_getElem h]; rfl
section
variable {P : Program} {ops : Array Oper} {rest : List Oper} {o : Oper} {a : Act} {Q : Exit → Act → World → Prop}
end
theorem cell0_of {W : World} {g : Nat} {t : TypeId} {v : Value} (h : W.heap[g]? = some (.cells #[v] t (0, 0))) : W.cell? ⟨g, 0, none⟩ = some v := by
  unfold World.cell?
  simp [h]
theorem blk_keep {W W' : World} {g : Nat} {o : Obj} (hb : Below W.heap.size W W') (h : W.heap[g]? = some o) : W'.heap[g]? = some o := (hb.block g (Array.getElem?_eq_some_iff.1 h).1).trans h
end Go.Proofs.YtjodnhlfodmpeaaW.PrintWords
