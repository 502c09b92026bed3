-- PRINTED by print.py (a twelfth state) out of the translation. Not trusted: Lean checks it.
import Derived.Test.YtomccmodlkdcbaaQx0
namespace Go.Proofs.Ytomccmodlkdcbaa.Q
open Go.RowKit Go.Proofs.YtomccmodlkdcbaaW.PrintWords Go.Proofs.YtomccmodlkdcbaaW.PrintLast Go.Proofs.YtomccmodlkdcbaaW.PrintMore
attribute [local go_sem] str_gtr str_geq str_leq max2_int min2_int max_two min_two max_three min_three max_four min_four   -- for this text's walks alone
set_option linter.unusedVariables false
set_option linter.unusedSimpArgs false

/-! ### slices_Compact_string_string: function 30 -/
-- told by hand
/-- Neighbours that are alike stand once. -/
def compS (l : List ByteArray) : List ByteArray := (Lib.compact (l.map toB)).map ofB
def slices_Compact_string_string.f (l0 : List ByteArray) : Option (List ByteArray) := if l0.length ≤ 9223372036854775807 then some (compS l0) else none
theorem slices_Compact_string_string.le (zs : List (List UInt8)) : (Lib.compact zs).length ≤ zs.length := by
  unfold Lib.compact Lib.compactUpTo
  rw [List.length_map]
  exact Nat.le_trans (List.length_filter_le _ _) (by simp)
theorem slices_Compact_string_string.heap (w : World) (n g : Nat) (d : Array (List UInt8)) (i : Nat) : (Sort.putRow encStr (Sort.ahead w n) g 0 d).heap[i]? = (Sort.putRow encStr w g 0 d).heap[i]? := rfl
theorem slices_Compact_string_string.heap_ne (w : World) (g : Nat) (d : Array (List UInt8)) (i : Nat) (hi : i ≠ g) : (Sort.putRow encStr w g 0 d).heap[i]? = w.heap[i]? := by
  simp only [Sort.putRow, Sort.mapBlock, Array.getElem?_modify]
  rw [if_neg (fun z => hi z.symm)]
theorem slices_Compact_string_string.calls (P0_ : Nat → Prop) (u9000_ : Value) (l0 : List ByteArray) (r : List ByteArray) (w0 w : World) (hB : Below w0.heap.size w0 w) (ho0 : Kd.R Kd.string 9 w w0.heap.size P0_ u9000_ l0) (h : slices_Compact_string_string.f l0 = some r) :
    Calls Try.prog 30 #[u9000_] w fun e w' => ∃ v0_ : Value, e = .returned (v0_) ∧ Kd.R Kd.string 9 w' w0.heap.size (fun k_ => (P0_ k_ ∨ w.heap.size ≤ k_)) v0_ r ∧ Below w0.heap.size w0 w' ∧ Kept w w' (fun k_ => P0_ k_) := by
  unfold slices_Compact_string_string.f at h
  by_cases hlen : l0.length ≤ 9223372036854775807
  case neg => rw [if_neg hlen] at h; cases h
  rw [if_pos hlen] at h
  obtain rfl := Option.some.inj h
  clear h
  obtain ⟨A, cp, rfl⟩ := Kd.R_slice ho0
  by_cases hn : l0 = []
  · subst hn
    refine (Try.slices_Compact_string_empty A cp w).mono ?_
    rintro e w' ⟨rfl, rfl⟩
    exact ⟨_, rfl, Kd.R_mono ho0 (fun _ hk => .inl hk), hB, Kept.refl _ _⟩
  · have hpos : 0 < l0.length := by cases l0 with | nil => exact absurd rfl hn | cons _ _ => simp
    have hcap : l0.length ≤ cp := by
      obtain ⟨A', c', e, hl, _⟩ := Kd.R_reads ho0
      injection e with _ _ e
      rw [e]; exact hl
    obtain ⟨g, rfl⟩ : ∃ g, A = some ⟨g, 0, none⟩ := by
      obtain ⟨_, inner, hown, _⟩ := ho0
      rcases hown.2 with ⟨_, h⟩ | ⟨g, _, _, h, _⟩
      · omega
      · injection h with h _ _
        exact ⟨g, h⟩
    have hg : g < w.heap.size := Kd.R_lt ho0 g rfl
    have hgb : w0.heap.size ≤ g := Kd.R_base ho0 g rfl
    have hP : P0_ g := ho0.1 g rfl
    have hc := Try.slices_Compact_string g 0 cp (l0.map toB) w (holds_strs rfl ho0) (by simpa using hlen) (by simpa using hcap)
    rw [List.length_map] at hc
    refine hc.mono ?_
    rintro e w' ⟨rfl, n, rfl⟩
    have hle := slices_Compact_string_string.le (l0.map toB)
    rw [List.length_map] at hle
    have hR := R_putStr (ok' := fun k_ => (P0_ k_ ∨ w.heap.size ≤ k_)) rfl ho0 (.inl hP) (Lib.compact (l0.map toB) ++ List.replicate (l0.length - (Lib.compact (l0.map toB)).length) []) (by simp; omega) (Lib.compact (l0.map toB)).length hle (slices_Compact_string_string.heap w n g _ g)
    rw [List.take_append_of_le_length (Nat.le_refl _), List.take_length] at hR
    have hsz : w.heap.size ≤ (Sort.putRow encStr (Sort.ahead w n) g 0 (Lib.compact (l0.map toB) ++ List.replicate (l0.length - (Lib.compact (l0.map toB)).length) []).toArray).heap.size := by
      simp [Sort.putRow, Sort.mapBlock, Sort.ahead]
    refine ⟨_, rfl, hR, ⟨hB.os, hB.tape, hB.output, Nat.le_trans hB.size hsz, fun k hk => ?_⟩, hsz, fun i hi hni => ?_⟩
    · rw [slices_Compact_string_string.heap w n g _ k, slices_Compact_string_string.heap_ne w g _ k (by omega)]
      exact hB.block k hk
    · rw [slices_Compact_string_string.heap w n g _ i]
      exact slices_Compact_string_string.heap_ne w g _ i (fun e => hni (by rw [e]; exact hP))

end Go.Proofs.Ytomccmodlkdcbaa.Q
