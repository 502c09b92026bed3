/- What an insertion sort's rounds do to the row, in plain lists. -/
import Derived.Sort.LotA
import Derived.Sort.WalkA
import Derived.Sort.WalkC
import Derived.BigRegion
import Derived.Test.YtdojgfkcpaeacaaDoorHSortRow
namespace Go.Proofs.YtdojgfkcpaeacaaDoorW.PrintWords
open Go.RowKit Go.Sort
section
variable {α : Type} [Inhabited α]
theorem mem_getElem! (d : Array α) (i : Nat) (h : i < d.size) : d[i]! ∈ d.toList := by
  rw [getElem!_pos d i h]; simp
theorem insInner_perm (lt : α → α → Bool) (a : Nat) : ∀ (j : Nat) (d : Array α), j < d.size → (insInner lt a j d).toList.Perm d.toList
  | 0, d, _ => by unfold insInner; exact List.Perm.refl _
  | j + 1, d, h => by
    unfold insInner
    split
    · exact (insInner_perm lt a j _ (by rw [size_swp]; omega)).trans (swp_perm d (j + 1) j h (by omega))
    · exact List.Perm.refl _
theorem insOuter_perm (lt : α → α → Bool) (a b : Nat) : ∀ (n i : Nat) (d : Array α), b - i ≤ n → b ≤ d.size → (insOuter lt a b i d).toList.Perm d.toList
  | 0, i, d, hn, hb => by rw [insOuter, if_neg (by omega)]
  | n + 1, i, d, hn, hb => by
    by_cases h : i < b
    · rw [insOuter, if_pos h]
      have hp := insInner_perm lt a i d (by omega)
      have hs : (insInner lt a i d).size = d.size := by simpa using hp.length_eq
      exact (insOuter_perm lt a b n (i + 1) _ (by omega) (by omega)).trans hp
    · rw [insOuter, if_neg h]
theorem insertionSort_perm (lt : α → α → Bool) (d : Array α) (a b : Nat) (hb : b ≤ d.size) : (insertionSort lt d a b).toList.Perm d.toList := insOuter_perm lt a b _ _ d (Nat.le_refl _) hb
theorem insInner_congr (lt lt' : α → α → Bool) (a : Nat) : ∀ (j : Nat) (d : Array α), j < d.size → (∀ x y, x ∈ d.toList → y ∈ d.toList → lt x y = lt' x y) → insInner lt a j d = insInner lt' a j d
  | 0, d, _, _ => by unfold insInner; rfl
  | j + 1, d, h, he => by
    unfold insInner
    rw [he _ _ (mem_getElem! d (j + 1) h) (mem_getElem! d j (by omega))]
    split
    · refine insInner_congr lt lt' a j _ (by rw [size_swp]; omega) (fun x y hx hy => he x y ?_ ?_)
      · exact (swp_perm d (j + 1) j h (by omega)).mem_iff.1 hx
      · exact (swp_perm d (j + 1) j h (by omega)).mem_iff.1 hy
    · rfl
theorem insOuter_congr (lt lt' : α → α → Bool) (a b : Nat) : ∀ (n i : Nat) (d : Array α), b - i ≤ n → b ≤ d.size → (∀ x y, x ∈ d.toList → y ∈ d.toList → lt x y = lt' x y) → insOuter lt a b i d = insOuter lt' a b i d
  | 0, i, d, hn, hb, he => by rw [insOuter, if_neg (by omega), insOuter, if_neg (by omega)]
  | n + 1, i, d, hn, hb, he => by
    by_cases h : i < b
    · rw [insOuter, if_pos h]
      have hp := insInner_perm lt a i d (by omega)
      have hs : (insInner lt a i d).size = d.size := by simpa using hp.length_eq
      rw [insOuter_congr lt lt' a b n (i + 1) _ (by omega) (by omega) (fun x y hx hy => he x y (hp.mem_iff.1 hx) (hp.mem_iff.1 hy)), insInner_congr lt lt' a i d (by omega) he]
      conv => rhs; rw [insOuter, if_pos h]
    · rw [insOuter, if_neg h, insOuter, if_neg h]
theorem insertionSort_congr (lt lt' : α → α → Bool) (d : Array α) (a b : Nat) (hb : b ≤ d.size) (he : ∀ x y, x ∈ d.toList → y ∈ d.toList → lt x y = lt' x y) : insertionSort lt d a b = insertionSort lt' d a b := insOuter_congr lt lt' a b _ _ d (Nat.le_refl _) hb he
end
end Go.Proofs.YtdojgfkcpaeacaaDoorW.PrintWords
