/- What an insertion sort's rounds do to the row, in plain lists. -/
import Derived.Sort.LotA
import Derived.Sort.WalkA
import Derived.Sort.WalkC
import Derived.BigRegion
import Derived.Test.YtdojgfkcpaeacaaDoorHSortRow
namespace Go.Proofs.YtdojgfkcpaeacaaDoorW.PrintWords
open Go.RowKit Go.Sort
section
variable {α : Type} [Inhabited α]
theorem mem_getB (d : Array α) (i : Nat) (h : i < d.size) : d[i]! ∈ d.toList := by
  rw [getElem!_pos d i h]; simp
theorem insInner_perm (lt : α → α → Bool) (a : Nat) : ∀ (j : Nat) (d : Array α), j < d.size → (insInner lt a j d).toList.Perm d.toList
  | 0, d, _ => by unfold insInner; exact List.Perm.refl _
  | j + 1, d, h => by
    unfold insInner
    split
    · exact (insInner_perm lt a j _ (by rw [size_swp]; omega)).trans (swp_perm d (j + 1) j h (by omega))
    · exact List.Perm.refl _
theorem insOuter_perm (lt : α → α → Bool) (a b : Nat) : ∀ (n i : Nat) (d : Array α), b - i ≤ n → b ≤ d.size → (insOuter lt a b i d).toList.Perm d.toList
  | 0, i, d, hn, hb => by rw [insOuter, if_neg (by omega)]
  | n + 1, i, d, hn, hb => by
    by_cases h : i < b
    · rw [insOuter, if_pos h]
      have hp := insInner_perm lt a i d (by omega)
      have hs : (insInner lt a i d).size = d.size := by simpa using hp.length_eq
      exact (insOuter_perm lt a b n (i + 1) _ (by omega) (by omega)).trans hp
    · rw [insOuter, if_neg h]
theorem insertionSort_perm (lt : α → α → Bool) (d : Array α) (a b : Nat) (hb : b ≤ d.size) : (insertionSort lt d a b).toList.Perm d.toList := insOuter_perm lt a b _ _ d (Nat.le_refl _) hb
end
end Go.Proofs.YtdojgfkcpaeacaaDoorW.PrintWords
