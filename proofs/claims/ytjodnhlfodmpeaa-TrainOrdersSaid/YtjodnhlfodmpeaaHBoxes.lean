/- Boxes of one cell: slices and function values put into them, as one event. -/
import Derived.Test.YtjodnhlfodmpeaaHCore
import Derived.OneCell
set_option linter.unusedVariables false
set_option linter.unusedSimpArgs false
namespace Go.Proofs.YtjodnhlfodmpeaaW.PrintWords
open Go.RowKit
section
variable {P : Program} {ops : Array Oper} {rest : List Oper} {o : Oper} {a : Act} {Q : Exit → Act → World → Prop}
/-- A function value stored into a box of one cell, as one event. -/
theorem store_fn {W : World} (hgd : o.guard = none) {t : TypeId} {p : Tmp} {v : Operand} (ho : o.op = .store t (.tmp p) v) (hN : o.dst = none) {g : Nat} {fn : Fn} {x1 x2 : Array Value} {u0 : Value} {t' : TypeId}
    (hp : a.eval (.tmp p) = .pointer (some ⟨g, 0, none⟩)) (hv : a.eval v = .func fn x1 x2) (hsz : ∀ w, (sizeOf t).run P w = .ok 1 w) (hb : W.heap[g]? = some (.cells #[u0] t' (0, 0)))
    (h : ∀ w', w'.heap[g]? = some (.cells #[.func fn x1 x2] t' (0, 0)) → (∀ k, k ≠ g → w'.heap[k]? = W.heap[k]?) → (∀ w : World, Below w.heap.size w W → w.heap.size ≤ g → Below w.heap.size w w') → wpList P ops Q rest a w') : wpList P ops Q (o :: rest) a W := by
  have hc : W.cell? ⟨g, 0, none⟩ = some u0 := cell0_of hb
  have hf : W.frozen? ⟨g, 0, none⟩ = false := by unfold World.frozen?; simp [hb]
  have hrun : (execOp a.eval o).run P W = .ok .skip (W.setCell ⟨g, 0, none⟩ (.func fn x1 x2)) := by
    unfold execOp
    rw [ho]
    simp only [hp, hv]
    go_simp
  refine store_event hgd ho hN hrun (fun w' e => ?_)
  subst e
  exact h _ (one_setCell hb) (fun k hk => Below.heap_setCell W _ _ k hk) (fun w hw hg => hw.setCell hg _)
end
end Go.Proofs.YtjodnhlfodmpeaaW.PrintWords
