/- A whole struct stored into a box of the call's own, as one event. -/
import Derived.Test.YtomccmodlkdcbaaHWords
import Derived.Laws.Tables
import Derived.ChangeKeysEq
import Derived.Test.YtomccmodlkdcbaaHFuncVals
set_option linter.unusedVariables false
set_option linter.unusedSimpArgs false
namespace Go.Proofs.YtomccmodlkdcbaaW.PrintWords
open Go.RowKit
section
variable {P : Program} {ops : Array Oper} {rest : List Oper} {o : Oper} {a : Act} {Q : Exit → Act → World → Prop}
theorem store_all {W : World} (hgd : o.guard = none) {t : TypeId} {p : Tmp} {v : Operand} (ho : o.op = .store t (.tmp p) v) (hN : o.dst = none) {g : Nat} {cs cur : Array Value} {t' : TypeId}
    (hp : a.eval (.tmp p) = .pointer (some ⟨g, 0, none⟩)) (hv : a.eval v = .agg cs) (hsz : ∀ w, (sizeOf t).run P w = .ok cs.size w) (hb : W.heap[g]? = some (.cells cur t' (0, 0))) (hl : cs.size = cur.size) (h1 : ∀ u ∈ cs.toList, u.oneCell' = true)
    (h : ∀ w', w'.heap[g]? = some (.cells cs t' (0, 0)) → (∀ k, k ≠ g → w'.heap[k]? = W.heap[k]?) → w'.heap.size = W.heap.size → w'.os = W.os → w'.tape = W.tape → w'.output = W.output → wpList P ops Q rest a w') : wpList P ops Q (o :: rest) a W := by
  have hrun : (execOp a.eval o).run P W = .ok .skip (W.setRow g cs) := by
    have h0 := run_storeCells_from g t' cs.toList 0 cur W hb (by simpa using hl) h1 (P := P)
    simp only [List.take_zero, List.nil_append, Array.toArray_toList] at h0
    unfold execOp
    rw [ho]
    simp only [hp, hv]
    simp [Instr.storeAt, storeVar, hsz, Value.cells, h0, Instr.sureAddr]
  refine store_event hgd ho hN hrun (fun w' e => ?_)
  subst e
  exact h _ (setRow_heap W g cur cs t' (0, 0) hb) (fun k hk => setRow_other W g k cs hk) (by simp [World.setRow]) rfl rfl rfl
/-- A whole struct loaded, as one event: its cells are known as a list. -/
theorem load_all {W : World} (hgd : o.guard = none) {t : TypeId} {p : Tmp} (ho : o.op = .load t (.tmp p)) {ad : Addr} {cs : List Value} (hp : a.eval (.tmp p) = .pointer (some ad)) (hagg : ∀ w, (isAgg t).run P w = .ok true w) (hsz : ∀ w, (sizeOf t).run P w = .ok cs.length w)
    (hc : ∀ j v, cs[j]? = some v → W.cell? (ad.add j) = some v) (h : wpList P ops Q rest (a.put o.dst (.agg cs.toArray)) W) : wpList P ops Q (o :: rest) a W := by
  have hrun : (execOp a.eval o).run P W = .ok (.value (.agg cs.toArray)) W := by
    have h0 := loadFrom_list P W ad cs cs.length rfl hc
    unfold execOp
    rw [ho]
    simp only [hp]
    simp [Instr.loadAt, loadVar, hagg, hsz, Instr.sureAddr, loadCells, h0]
  exact Kd.event_run hgd hrun h
/-- A whole struct put into a box, as one event. -/
theorem box_all {W : World} (hgd : o.guard = none) {t : TypeId} {x : Operand} (ho : o.op = .box t x) {cs : Array Value} (hv : a.eval x = .agg cs) (hsz : ∀ w, (sizeOf t).run P w = .ok cs.size w)
    (h : ∀ w1, w1.heap[W.heap.size]? = some (.cells cs t (0, 0)) → Below W.heap.size W w1 → wpList P ops Q rest (a.put o.dst (.pointer (some ⟨W.heap.size, 0, none⟩))) w1) : wpList P ops Q (o :: rest) a W := by
  have hrun : (execOp a.eval o).run P W = .ok (.value (.pointer (some ⟨W.heap.size, 0, none⟩))) (W.alloc (.cells cs t (0, 0))) := by
    unfold execOp
    rw [ho]
    simp only [hv]
    go_simp
  exact Kd.event_run hgd hrun (h _ (heap_alloc_new W _) ((Below.refl _ W).alloc (Nat.le_refl _) _))
theorem blk_cells {W : World} {g : Nat} {t : TypeId} {cs : List Value} (h : W.heap[g]? = some (.cells cs.toArray t (0, 0))) : ∀ j v, cs[j]? = some v → W.cell? ((⟨g, 0, none⟩ : Addr).add j) = some v := fun j v hj => by
  have e : (⟨g, 0, none⟩ : Addr).add j = ⟨g, j, none⟩ := by unfold Addr.add; by_cases hz : j = 0 <;> simp [hz]
  rw [e]
  unfold World.cell?
  simpa [h] using hj
end
end Go.Proofs.YtomccmodlkdcbaaW.PrintWords
