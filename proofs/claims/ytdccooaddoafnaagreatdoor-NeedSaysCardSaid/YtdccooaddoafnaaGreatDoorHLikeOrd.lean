/- Literals in order and apart: what signs say of them, what the search from the left finds. -/
import Derived.Test.YtdccooaddoafnaaGreatDoorHLikeCore
import Derived.Lib.IndexMore
import Derived.Lib.IndexBytes
set_option linter.unusedVariables false
set_option linter.unusedSimpArgs false
namespace Go.Proofs.YtdccooaddoafnaaGreatDoor.Pure
open Go.RowKit Go.Proofs.YtdccooaddoafnaaGreatDoor.Q Go.Proofs.YtdccooaddoafnaaGreatDoorW.PrintWords Go.Proofs.YtdccooaddoafnaaGreatDoorW.PrintLast
open HopPure (lm alt)
open Go.Lib (index occAt NoOcc)
/-- Literals stand in a string, in order and apart. -/
def Ord : List (List UInt8) → List UInt8 → Prop
  | [], _ => True
  | x :: L, s => ∃ n, n + x.length ≤ s.length ∧ x <+: s.drop n ∧ Ord L (s.drop (n + x.length))
theorem Ord.more : ∀ {L : List (List UInt8)} {s : List UInt8} (m : Nat), Ord L (s.drop m) → Ord L s
  | [], _, _, _ => trivial
  | x :: L, s, m, h => by
    have key : ∀ k, k ≤ s.length → Ord (x :: L) (s.drop k) → Ord (x :: L) s := by
      intro k hk h
      obtain ⟨n, h1, h2, h3⟩ := h
      rw [List.length_drop] at h1
      rw [List.drop_drop] at h2 h3
      exact ⟨k + n, by omega, h2, by rw [Nat.add_assoc]; exact h3⟩
    by_cases c : m ≤ s.length
    · exact key m c h
    · rw [List.drop_eq_nil_of_le (by omega)] at h
      exact key s.length (Nat.le_refl _) (by rw [List.drop_length]; exact h)
/-! ### signs of any bytes -/
/-- Bytes as signs. -/
def lit (x : List UInt8) : List Int := x.map fun b => (b.toNat : Int)
def signs : List (List UInt8) → List Int
  | [] => []
  | x :: L => lit x ++ 257 :: signs L
/-! ### signs of one byte -/
/-! ### runs -/
end Go.Proofs.YtdccooaddoafnaaGreatDoor.Pure
