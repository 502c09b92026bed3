/- Laws beside the printed words: rows that are written in place, by their cells; a string turned to a row of bytes. -/
import Derived.Test.YtdojgfkcpaeacaaDoorHWords
import Derived.Sort.Row
import Derived.Lib.ConvBytes
set_option linter.unusedVariables false
set_option linter.unusedSimpArgs false
namespace Go.Proofs.YtdojgfkcpaeacaaDoorW.PrintWords
open Go.RowKit Go.Sort
/-- A row's cells behind one store. -/
theorem holds_set {α : Type} [Inhabited α] (enc : α → Value) {w : World} {blk off : Nat} {d : Array α} (h : Holds enc w blk off d) (i : Nat) (hi : i < d.size) (x : α) :
    Holds enc (w.setCell ⟨blk, off + i, none⟩ (enc x)) blk off (d.setIfInBounds i x) := by
  have e : putRow enc w blk off d = w := putRow_self enc w blk off d h
  have h2 := putRow_set enc w blk off d i x hi
  rw [e] at h2
  rw [h2]
  exact holds_putRow enc w blk off d (d.setIfInBounds i x) h (by simp)
theorem holds_below {α : Type} [Inhabited α] (enc : α → Value) {w w' : World} {blk off : Nat} {d : Array α} (h : Holds enc w blk off d) (hb : blk < w.heap.size) (k : Below w.heap.size w w') : Holds enc w' blk off d := by
  intro j hj
  obtain ⟨h1, h2⟩ := h j hj
  refine ⟨(k.cell hb).trans h1, ?_⟩
  unfold World.frozen? at h2 ⊢
  rw [k.block blk hb]
  exact h2
theorem below_setc {B : Nat} {w w' : World} (h : Below B w w') {blk : Nat} (hb : B ≤ blk) (o : Nat) (u : Value) : Below B w (w'.setCell ⟨blk, o, none⟩ u) :=
  h.trans ⟨rfl, rfl, rfl, by simp [World.setCell], fun k hk => Below.heap_setCell w' ⟨blk, o, none⟩ u k (by show k ≠ blk; omega)⟩
/-- '[]byte(s)': a new row that holds the string's bytes. -/
theorem conv_row {P : Program} (src dst e : TypeId) (hs : P.underlying src = some .string) (hd : P.underlying dst = some (.slice e)) (he : P.underlying e = some (.int .u8)) (s : ByteArray) (w : World) :
    ∃ (W1 : World) (cap : Nat), (convert src dst (.string s)).run P w = .ok (.slice (some ⟨w.heap.size, 0, none⟩) s.size cap) W1 ∧ Holds (Value.int .u8) W1 w.heap.size 0 (bytesOf s).toArray ∧ Below w.heap.size w W1 ∧ w.heap.size < W1.heap.size := by
  refine ⟨Lib.bytesWorld w e s, _, Lib.run_convert_string_bytes w src dst e s hs hd he, fun j hj => ?_, ⟨rfl, rfl, rfl, by rw [Lib.bytesWorld_size]; omega, fun j hj => Lib.bytesWorld_at_old w e s j hj⟩, by rw [Lib.bytesWorld_size]; omega⟩
  have hj2 : j < s.size := by rw [List.size_toArray, bytesOf_length] at hj; exact hj
  have hj3 : j < s.data.toList.length := by rw [data_length]; exact hj2
  rw [Nat.zero_add]
  constructor
  · rw [Lib.bytesWorld_cell w e s j hj2]
    simp [bytesOf, List.getD, hj3, hj2]
  · unfold World.frozen?
    rw [Lib.bytesWorld_at_new w e s]
    have : s.size ≤ (Lib.bytesCells w e s).size := by simp [Lib.bytesCells]
    simp
    omega
/-- A row that holds numbers reads as them. -/
theorem C_of_holds {w : World} {blk n : Nat} {xs : List Int} (h : Holds (Value.int .u8) w blk 0 xs.toArray) (hn : xs.length = n) (hl : n ≤ 9223372036854775807) : (Kd.int .u8).C w (some ⟨blk, 0, none⟩) n xs := by
  refine Kd.C_of_reads (d := (0 : Int)) (h1 := fun _ => rfl) ⟨hn, hl, fun _ => ⟨_, rfl, fun j hj => ?_⟩⟩
  have hj2 : j < xs.length := by omega
  rw [add_plain, (by simpa using (h j (by simpa using hj2)).1 : w.cell? ⟨blk, j, none⟩ = _)]
  simp [List.getD, hj2]
end Go.Proofs.YtdojgfkcpaeacaaDoorW.PrintWords
