/- Small words for contracts told by hand: lists walked by a function that may have no answer. -/
import Derived.Test.YtomccmodlkdcbaaHWords
import Derived.Test.YtomccmodlkdcbaaHFuncVals
import Derived.Test.YtomccmodlkdcbaaHStoreAll
import Derived.Laws.EntriesVeiled
set_option linter.unusedVariables false
namespace Go.Proofs.YtomccmodlkdcbaaW.PrintWords
open Go.RowKit
/-- Are all so? -/
def allE {α : Type} (g : α → Option Bool) : List α → Option Bool
  | [] => some true
  | x :: xs => (g x).bind fun b => if b = true then allE g xs else some false
/-- Is one so? -/
def anyE {α : Type} (g : α → Option Bool) : List α → Option Bool
  | [] => some false
  | x :: xs => (g x).bind fun b => if b = true then some true else anyE g xs
/-- The place of the first that is so, or -1. -/
def findE {α : Type} (g : α → Option Bool) : List α → Nat → Option Int
  | [], _ => some (-1)
  | x :: xs, i => (g x).bind fun b => if b = true then some (i : Int) else findE g xs (i + 1)
theorem findE_any {α : Type} (g : α → Option Bool) : ∀ (l : List α) (i : Nat) (r : Bool), anyE g l = some r → ∃ z, findE g l i = some z ∧ decide (0 ≤ z) = r
  | [], i, r, h => ⟨-1, rfl, by obtain rfl := Option.some.inj h; rfl⟩
  | x :: xs, i, r, h => by
    simp only [anyE] at h
    obtain ⟨b, hb, h⟩ := Option.bind_eq_some_iff.1 h
    cases b with
    | true =>
      rw [if_pos rfl] at h
      obtain rfl := Option.some.inj h
      exact ⟨i, by simp only [findE, hb, Option.bind_some]; rfl, by simp⟩
    | false =>
      rw [if_neg (by decide)] at h
      obtain ⟨z, hz, e⟩ := findE_any g xs (i + 1) r h
      exact ⟨z, by simp only [findE, hb, Option.bind_some]; exact hz, e⟩
theorem LeO.bind' {α β : Type} {a a' : Option α} {g g' : α → Option β} (h : LeO a a') (hg : ∀ x, LeO (g x) (g' x)) : LeO (a.bind g) (a'.bind g') := fun r hr => by
  obtain ⟨t, ht, hr⟩ := Option.bind_eq_some_iff.1 hr
  rw [h t ht]
  exact hg t r hr
theorem LeO.ite' {α : Type} {c : Prop} [Decidable c] {a a' b b' : Option α} (h : LeO a a') (h2 : LeO b b') : LeO (if c then a else b) (if c then a' else b') := fun r hr => by
  by_cases hc : c
  · rw [if_pos hc] at hr ⊢; exact h r hr
  · rw [if_neg hc] at hr ⊢; exact h2 r hr
theorem LeO.same {α : Type} {a : Option α} : LeO a a := fun _ h => h
theorem LeO.map' {α β : Type} {a a' : Option α} {f : α → β} (h : LeO a a') : LeO (a.map f) (a'.map f) := fun r hr => by
  obtain ⟨t, ht, e⟩ := Option.map_eq_some_iff.1 hr
  rw [h t ht]; simp [e]
theorem anyE_mono {α : Type} {g g' : α → Option Bool} (h : ∀ x, LeO (g x) (g' x)) : ∀ l : List α, LeO (anyE g l) (anyE g' l)
  | [] => LeO.same
  | x :: xs => LeO.bind' (h x) fun b => LeO.ite' LeO.same (anyE_mono h xs)
theorem blk_cells_off {W : World} {g o : Nat} {t : TypeId} {cs c : List Value} (h : W.heap[g]? = some (.cells cs.toArray t (0, 0))) (hc : ∀ j v, c[j]? = some v → cs[o + j]? = some v) : ∀ j v, c[j]? = some v → W.cell? ((⟨g, o, none⟩ : Addr).add j) = some v := fun j v hj => by
  have e : (⟨g, o, none⟩ : Addr).add j = ⟨g, o + j, none⟩ := by unfold Addr.add; by_cases hz : j = 0 <;> simp [hz]
  rw [e]
  have h2 := hc j v hj
  unfold World.cell?
  simpa [h] using h2
theorem drop_getE {α : Type} (z : α) (l : List α) (i : Nat) (h : i < l.length) : l.drop i = l.getD i z :: l.drop (i + 1) := by
  rw [List.drop_eq_getElem_cons h, List.getD_eq_getElem?_getD, List.getElem?_eq_getElem h]; rfl
theorem getD_mem {α : Type} (z : α) (l : List α) (i : Nat) (h : i < l.length) : l.getD i z ∈ l := by
  rw [List.getD_eq_getElem?_getD, List.getElem?_eq_getElem h]; exact List.getElem_mem h
/-- An element of a row that came in: its place, its cells. -/
theorem Kd.C_elem {α : Type} {d : Kd α} {w : World} {A : Option Addr} {n : Nat} {xs : List α} (h : Kd.C d w A n xs) (z : α) (i : Nat) (hi : i < n) :
    ∃ ad c, A = some ad ∧ c.length = d.sz ∧ d.K w (xs.getD i z) c ∧ ∀ j v, c[j]? = some v → w.cell? ((ad.add (i * d.sz)).add j) = some v := by
  obtain ⟨ad, c, e, hl, hK, hc0⟩ := Kd.C_get h z (i : Int) (by omega) (by omega)
  have hK' : d.K w (xs.getD ((i : Int)).toNat z) c := hK
  rw [show ((i : Int)).toNat = i by omega] at hK' hc0
  exact ⟨ad, c, e, hl, hK', fun j v hj => by rw [addr_add]; exact hc0 j v hj⟩
section
variable {P : Program} {ops : Array Oper} {rest : List Oper} {o : Oper} {a : Act} {Q : Exit → Act → World → Prop}
/-- A whole number put into a box, as one event. -/
theorem box_num {W : World} (hgd : o.guard = none) {t : TypeId} {x : Operand} (ho : o.op = .box t x) {k : IntKind} {n : Int} (hv : a.eval x = .int k n)
    (h : ∀ w1, w1.heap[W.heap.size]? = some (.cells #[.int k n] t (0, 0)) → Below W.heap.size W w1 → wpList P ops Q rest (a.put o.dst (.pointer (some ⟨W.heap.size, 0, none⟩))) w1) : wpList P ops Q (o :: rest) a W := by
  have hrun : (execOp a.eval o).run P W = .ok (.value (.pointer (some ⟨W.heap.size, 0, none⟩))) (W.alloc (.cells #[.int k n] t (0, 0))) := by
    unfold execOp
    rw [ho]
    simp only [hv]
    go_simp
  exact Kd.event_run hgd hrun (h _ (heap_alloc_new W _) ((Below.refl _ W).alloc (Nat.le_refl _) _))
end
theorem cell0_of {W : World} {g : Nat} {t : TypeId} {v : Value} (h : W.heap[g]? = some (.cells #[v] t (0, 0))) : W.cell? ⟨g, 0, none⟩ = some v := by
  unfold World.cell?
  simp [h]
theorem blk_keep {W W' : World} {g : Nat} {o : Obj} (hb : Below W.heap.size W W') (h : W.heap[g]? = some o) : W'.heap[g]? = some o := (hb.block g (Array.getElem?_eq_some_iff.1 h).1).trans h
end Go.Proofs.YtomccmodlkdcbaaW.PrintWords
