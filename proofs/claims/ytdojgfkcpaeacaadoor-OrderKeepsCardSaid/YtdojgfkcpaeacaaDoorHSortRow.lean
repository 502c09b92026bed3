/- A row that a sort rewrites, beside calls that lay blocks of their own. -/
import Derived.Test.YtdojgfkcpaeacaaDoorHRows2
import Derived.Test.YtdojgfkcpaeacaaDoorHLater
set_option linter.unusedVariables false
set_option linter.unusedSimpArgs false
namespace Go.Proofs.YtdojgfkcpaeacaaDoorW.PrintWords
open Go.RowKit Go.Sort
theorem heap_putRow_ne {α : Type} [Inhabited α] (enc : α → Value) (w : World) (g off : Nat) (d : Array α) (k : Nat) (h : k ≠ g) : (putRow enc w g off d).heap[k]? = w.heap[k]? := by
  simp only [putRow, mapBlock, Array.getElem?_modify]
  rw [if_neg (fun z => h z.symm)]
theorem heap_putRow_congr {α : Type} [Inhabited α] (enc : α → Value) (w w' : World) (g off : Nat) (d : Array α) (k : Nat) (h : w'.heap[k]? = w.heap[k]?) : (putRow enc w' g off d).heap[k]? = (putRow enc w g off d).heap[k]? := by
  simp only [putRow, mapBlock, Array.getElem?_modify, h]
theorem size_putRow {α : Type} [Inhabited α] (enc : α → Value) (w : World) (g off : Nat) (d : Array α) : (putRow enc w g off d).heap.size = w.heap.size := by
  simp [putRow, mapBlock]
/-- The world in a sort of the row at block g, which held d0 in w1 and holds d now. -/
structure St {α : Type} [Inhabited α] (enc : α → Value) (w1 : World) (g : Nat) (d0 : Array α) (wr : World) (d : Array α) : Prop where
  holds : Holds enc wr g 0 d
  perm : d.toList.Perm d0.toList
  under : Below w1.heap.size w1 (putRow enc wr g 0 d0)
section
variable {α : Type} [Inhabited α] {enc : α → Value} {w1 wr w2 : World} {g : Nat} {d0 d : Array α}
theorem swp_perm (d : Array α) (i j : Nat) (hi : i < d.size) (hj : j < d.size) : (swp d i j).toList.Perm d.toList := by
  have h := (swp_permIn d 0 d.size i j (Nat.zero_le _) hi (Nat.zero_le _) hj (Nat.le_refl _)).2.2
  have hs : (swp d i j).size = d.size := size_swp d i j
  rw [← hs, Array.extract_size, hs, Array.extract_size] at h
  first | exact h | exact h.symm
theorem St.size (h : St enc w1 g d0 wr d) : d.size = d0.size := by simpa using h.perm.length_eq
theorem St.start (h : Holds enc w1 g 0 d0) : St enc w1 g d0 w1 d0 := ⟨h, List.Perm.refl _, by rw [putRow_self enc w1 g 0 d0 h]; exact Below.refl _ _⟩
theorem St.put (h : St enc w1 g d0 wr d) {d' : Array α} (hp : d'.toList.Perm d0.toList) : St enc w1 g d0 (putRow enc wr g 0 d') d' := by
  have hs : d'.size = d0.size := by simpa using hp.length_eq
  refine ⟨holds_putRow enc wr g 0 d d' h.holds (hs.trans h.size.symm), hp, ?_⟩
  rw [putRow_putRow enc wr g 0 d' d0 hs.symm]
  exact h.under
theorem St.swap (h : St enc w1 g d0 wr d) (i j : Nat) (hi : i < d.size) (hj : j < d.size) : St enc w1 g d0 ((wr.setCell ⟨g, 0 + i, none⟩ (enc d[j]!)).setCell ⟨g, 0 + j, none⟩ (enc d[i]!)) (swp d i j) := by
  have e : putRow enc wr g 0 d = wr := putRow_self enc wr g 0 d h.holds
  have h2 := putRow_swp enc wr g 0 d i j hi hj
  rw [e] at h2
  rw [h2]
  exact h.put ((swp_perm d i j hi hj).trans h.perm)
theorem St.below (h : St enc w1 g d0 wr d) (hg : g < w1.heap.size) (hb : Below wr.heap.size wr w2) : St enc w1 g d0 w2 d := by
  have hsz := h.under.size
  rw [size_putRow] at hsz
  refine ⟨holds_below enc h.holds (by omega) hb, h.perm, ?_⟩
  have u := h.under
  refine ⟨hb.os.trans u.os, hb.tape.trans u.tape, hb.output.trans u.output, by rw [size_putRow]; exact Nat.le_trans hsz hb.size, fun k hk => ?_⟩
  rw [heap_putRow_congr enc wr w2 g 0 d0 k (hb.block k (by omega))]
  exact u.block k hk
/-- A cell of another block is as it was. -/
theorem St.cell (h : St enc w1 g d0 wr d) {a : Addr} {v : Value} (hc : w1.cell? a = some v) (hne : a.block ≠ g) : wr.cell? a = some v := by
  have h2 := (h.under.cell (World.block_lt_of_cell? w1 a hc)).trans hc
  rw [cell?_putRow_other enc wr g 0 d0 a (.inl hne)] at h2
  exact h2
theorem St.block (h : St enc w1 g d0 wr d) (k : Nat) (hk : k < w1.heap.size) (hne : k ≠ g) : wr.heap[k]? = w1.heap[k]? := by
  rw [← heap_putRow_ne enc wr g 0 d0 k hne]
  exact h.under.block k hk
theorem St.heap_size (h : St enc w1 g d0 wr d) : w1.heap.size ≤ wr.heap.size := by
  have := h.under.size
  rw [size_putRow] at this
  exact this
end
end Go.Proofs.YtdojgfkcpaeacaaDoorW.PrintWords
