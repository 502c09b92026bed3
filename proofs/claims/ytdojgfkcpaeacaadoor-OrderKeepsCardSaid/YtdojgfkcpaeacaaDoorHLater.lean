/- Regions that draw their order, whose callees may lay blocks: walked once, in the order of the text; the worlds: what a world becomes where nothing old is turned. -/
import Derived.Test.YtdojgfkcpaeacaaDoorHWords
import Derived.Deep.QuietTactic
set_option linter.unusedVariables false
namespace Go.Proofs.YtdojgfkcpaeacaaDoorW.PrintWords
open Go.RowKit
/-- How far a world is behind another: its draws, the blocks behind it. -/
structure LaterBy where
  d : Nat
  os : Array Obj
  deriving Inhabited
def later (w : World) (d : Nat) (os : Array Obj) : World := { w with heap := w.heap ++ os, drawn := d }
theorem below_later (w : World) (d : Nat) (os : Array Obj) : Below w.heap.size w (later w d os) :=
  ⟨rfl, rfl, rfl, by simp [later], fun k hk => by simp [later, Array.getElem?_append_left hk]⟩
theorem later_of_below {w w' : World} (h : Below w.heap.size w w') : ∃ d os, w' = later w d os := by
  refine ⟨w'.drawn, w'.heap.extract w.heap.size w'.heap.size, ?_⟩
  have e : w'.heap = w.heap ++ w'.heap.extract w.heap.size w'.heap.size := by
    apply Array.ext_getElem?
    intro i
    have hs := h.size
    by_cases c : i < w.heap.size
    · rw [Array.getElem?_append_left c, h.block i c]
    · rw [Array.getElem?_append_right (by omega)]
      by_cases c2 : i < w'.heap.size
      · rw [Array.getElem?_extract, if_pos (by omega), show w.heap.size + (i - w.heap.size) = i by omega]
      · rw [Array.getElem?_eq_none (by omega), Array.getElem?_eq_none (by simp; omega)]
  cases w'
  cases w
  have h1 := h.os
  have h2 := h.tape
  have h3 := h.output
  simp only [later] at e h1 h2 h3 ⊢
  subst h1 h2 h3
  rw [← e]
theorem later_later (w : World) (d d' : Nat) (os os' : Array Obj) : later (later w d os) d' os' = later w d' (os ++ os') := by simp [later, Array.append_assoc]
theorem wp_region_later {P : Program} {id : Nat} {Q : Exit → Act → World → Prop} {a : Act} {w : World} {l : List Oper} (hm : P.follows .mixedOrders = true) (hB : Region.lexB .any l.toArray = true)
    (h : wpQuiet P l.toArray (fun w' => ∃ p : LaterBy, w' = later w p.d p.os) (fun a' => ∀ w', (∃ p : LaterBy, w' = later w p.d p.os) → Q .normal a' w') l a) : (Code.region id l.toArray true).wp P Q a w :=
  wp_region_quiet (C := fun w' => ∃ p : LaterBy, w' = later w p.d p.os) hm hB ⟨⟨w.drawn + 1, #[]⟩, by simp [later]⟩ (by simpa using h)
theorem cell_later {w : World} {a : Addr} {v : Value} (h : w.cell? a = some v) (d : Nat) (os : Array Obj) : (later w d os).cell? a = some v := ((below_later w d os).cell (World.block_lt_of_cell? w a h)).trans h
/-- A callee's contract, met in such a world. -/
theorem Calls.later_of {P : Program} {f : FuncId} {args : Array Value} {w : World} {d : Nat} {os : Array Obj} {v : Value}
    (h : Calls P f args (later w d os) fun e w' => e = .returned v ∧ Below (later w d os).heap.size (later w d os) w') : Calls P f args (later w d os) fun e w'' => e = .returned v ∧ ∃ p : LaterBy, w'' = later w p.d p.os :=
  h.mono fun _ _ ⟨he, hb⟩ => by
    obtain ⟨d', os', rfl⟩ := later_of_below hb
    exact ⟨he, ⟨d', os ++ os'⟩, later_later _ _ _ _ _⟩
end Go.Proofs.YtdojgfkcpaeacaaDoorW.PrintWords
