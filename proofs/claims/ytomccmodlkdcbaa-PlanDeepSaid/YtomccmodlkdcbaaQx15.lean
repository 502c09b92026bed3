-- PRINTED by print.py (a twelfth state) out of the translation. Not trusted: Lean checks it.
import Derived.Test.YtomccmodlkdcbaaQx0
namespace Go.Proofs.Ytomccmodlkdcbaa.Q
open Go.RowKit Go.Proofs.YtomccmodlkdcbaaW.PrintWords Go.Proofs.YtomccmodlkdcbaaW.PrintLast Go.Proofs.YtomccmodlkdcbaaW.PrintMore
attribute [local go_sem] str_gtr str_geq str_leq max2_int min2_int max_two min_two max_three min_three max_four min_four   -- for this text's walks alone
set_option linter.unusedVariables false
set_option linter.unusedSimpArgs false

/-! ### slices_Sort_string_string: function 29 -/
-- told by hand
/-- Strings in the order of their bytes. -/
def sortS (l : List ByteArray) : List ByteArray := ((l.map toB).mergeSort fun x y => decide (x ≤ y)).map ofB
def slices_Sort_string_string.f (l0 : List ByteArray) : Option (List ByteArray) := if l0.length < 4611686018427387904 then some (sortS l0) else none
theorem slices_Sort_string_string.heap (w : World) (n g : Nat) (d : Array (List UInt8)) (os : Array Obj) (i : Nat) (hi : i < w.heap.size) : (Sort.grow (Sort.putRow encStr (Sort.ahead w n) g 0 d) os).heap[i]? = (Sort.putRow encStr w g 0 d).heap[i]? := by
  have hs : (Sort.putRow encStr (Sort.ahead w n) g 0 d).heap.size = w.heap.size := by simp [Sort.putRow, Sort.mapBlock, Sort.ahead]
  unfold Sort.grow
  simp only
  rw [Array.getElem?_append_left (by rw [hs]; exact hi)]
  rfl
theorem slices_Sort_string_string.heap_ne (w : World) (g : Nat) (d : Array (List UInt8)) (i : Nat) (hi : i ≠ g) : (Sort.putRow encStr w g 0 d).heap[i]? = w.heap[i]? := by
  simp only [Sort.putRow, Sort.mapBlock, Array.getElem?_modify]
  rw [if_neg (fun z => hi z.symm)]
theorem slices_Sort_string_string.calls (P0_ : Nat → Prop) (u9000_ : Value) (l0 : List ByteArray) (r : List ByteArray) (w0 w : World) (hB : Below w0.heap.size w0 w) (ho0 : Kd.R Kd.string 9 w w0.heap.size P0_ u9000_ l0) (h : slices_Sort_string_string.f l0 = some r) :
    Calls Try.prog 29 #[u9000_] w fun e w' => e = .returned (.tuple #[]) ∧ Kd.R Kd.string 9 w' w0.heap.size (fun k_ => (P0_ k_ ∨ w.heap.size ≤ k_)) u9000_ r ∧ Below w0.heap.size w0 w' ∧ Kept w w' (fun k_ => P0_ k_) := by
  unfold slices_Sort_string_string.f at h
  by_cases hlen : l0.length < 4611686018427387904
  case neg => rw [if_neg hlen] at h; cases h
  rw [if_pos hlen] at h
  obtain rfl := Option.some.inj h
  clear h
  obtain ⟨A, cp, rfl⟩ := Kd.R_slice ho0
  by_cases hn : l0 = []
  · subst hn
    refine (Try.slices_Sort_string_none A cp w).mono ?_
    rintro e w' ⟨rfl, rfl⟩
    exact ⟨rfl, by rw [show sortS [] = [] by simp [sortS]]; exact Kd.R_mono ho0 (fun _ hk => .inl hk), hB, Kept.refl _ _⟩
  · have hpos : 0 < l0.length := by cases l0 with | nil => exact absurd rfl hn | cons _ _ => simp
    obtain ⟨g, rfl⟩ : ∃ g, A = some ⟨g, 0, none⟩ := by
      obtain ⟨_, inner, hown, _⟩ := ho0
      rcases hown.2 with ⟨_, h⟩ | ⟨g, _, _, h, _⟩
      · omega
      · injection h with h _ _
        exact ⟨g, h⟩
    have hg : g < w.heap.size := Kd.R_lt ho0 g rfl
    have hgb : w0.heap.size ≤ g := Kd.R_base ho0 g rfl
    have hP : P0_ g := ho0.1 g rfl
    have hc := Try.slices_Sort_string g 0 cp (l0.map toB) w (holds_strs rfl ho0) hg (by simpa using hlen)
    rw [List.length_map] at hc
    refine hc.mono ?_
    rintro e w' ⟨rfl, n, os, rfl⟩
    have hl : ((l0.map toB).mergeSort fun x y => decide (x ≤ y)).length = l0.length := by rw [List.length_mergeSort, List.length_map]
    have hR := R_putStr (ok' := fun k_ => (P0_ k_ ∨ w.heap.size ≤ k_)) rfl ho0 (.inl hP) ((l0.map toB).mergeSort fun x y => decide (x ≤ y)) hl l0.length (Nat.le_refl _) (slices_Sort_string_string.heap w n g _ os g hg)
    rw [List.take_of_length_le (by omega)] at hR
    have hsz : w.heap.size ≤ (Sort.grow (Sort.putRow encStr (Sort.ahead w n) g 0 ((l0.map toB).mergeSort fun x y => decide (x ≤ y)).toArray) os).heap.size := by
      simp [Sort.grow, Sort.putRow, Sort.mapBlock, Sort.ahead]
    refine ⟨rfl, hR, ⟨hB.os, hB.tape, hB.output, Nat.le_trans hB.size hsz, fun k hk => ?_⟩, hsz, fun i hi hni => ?_⟩
    · rw [slices_Sort_string_string.heap w n g _ os k (Nat.lt_of_lt_of_le hk hB.size), slices_Sort_string_string.heap_ne w g _ k (by omega)]
      exact hB.block k hk
    · rw [slices_Sort_string_string.heap w n g _ os i hi]
      exact slices_Sort_string_string.heap_ne w g _ i (fun e => hni (by rw [e]; exact hP))

end Go.Proofs.Ytomccmodlkdcbaa.Q
