/- The reference's table of signs and string. -/
import Derived.Test.YtdccooaddoafnaaGreatDoorHLikeCore
set_option linter.unusedVariables false
set_option linter.unusedSimpArgs false
namespace Go.Proofs.YtdccooaddoafnaaGreatDoor.Pure
open Go.RowKit Go.Proofs.YtdccooaddoafnaaGreatDoor.Q Go.Proofs.YtdccooaddoafnaaGreatDoorW.PrintWords Go.Proofs.YtdccooaddoafnaaGreatDoorW.PrintLast
/-- The table's row behind i signs. -/
def row (l : List Int) (s : ByteArray) (i k : Nat) : Bool := HopPure.lm (l.take i) (s.data.toList.take k)
/-- A row of the table, all of it, and up to k. -/
structure Full (l : List Int) (s : ByteArray) (i : Nat) (xs : List Bool) : Prop where
  len : xs.length = s.size + 1
  at_ : ∀ (k : Nat) (h : k < xs.length), xs[k] = row l s i k
structure Part (l : List Int) (s : ByteArray) (i k : Nat) (xs : List Bool) : Prop where
  len : xs.length = s.size + 1
  at_ : ∀ (j : Nat) (h : j < xs.length), j < k → xs[j] = row l s i j
  rest : ∀ (j : Nat) (h : j < xs.length), k ≤ j → xs[j] = false
theorem Part.set {l : List Int} {s : ByteArray} {i k : Nat} {xs : List Bool} (h : Part l s i k xs) (b : Bool) (hb : b = row l s i k) : Part l s i (k + 1) (xs.set k b) := by
  refine ⟨by rw [List.length_set]; exact h.len, fun j hj hjk => ?_, fun j hj hjk => ?_⟩
  · rw [List.getElem_set]
    split
    · rename_i e; subst e; exact hb
    · exact h.at_ j (by simpa using hj) (by omega)
  · rw [List.getElem_set, if_neg (by omega)]
    exact h.rest j (by simpa using hj) (by omega)
theorem Part.same {l : List Int} {s : ByteArray} {i k : Nat} {xs : List Bool} (h : Part l s i k xs) (hb : row l s i k = false) : Part l s i (k + 1) xs := by
  refine ⟨h.len, fun j hj hjk => ?_, fun j hj hjk => h.rest j hj (by omega)⟩
  by_cases e : j = k
  · subst e; rw [hb]; exact h.rest j hj (Nat.le_refl _)
  · exact h.at_ j hj (by omega)
end Go.Proofs.YtdccooaddoafnaaGreatDoor.Pure
