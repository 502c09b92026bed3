/- Literals in order and apart: what signs say of them, what the search from the left finds. -/
import Derived.Test.YtdccooaddoafnaaGreatDoorHLikeCore
import Derived.Lib.IndexMore
import Derived.Lib.IndexBytes
set_option linter.unusedVariables false
set_option linter.unusedSimpArgs false
namespace Go.Proofs.YtdccooaddoafnaaGreatDoor.Pure
open Go.RowKit Go.Proofs.YtdccooaddoafnaaGreatDoor.Q Go.Proofs.YtdccooaddoafnaaGreatDoorW.PrintWords Go.Proofs.YtdccooaddoafnaaGreatDoorW.PrintLast
open HopPure (lm alt)
open Go.Lib (index occAt NoOcc)
/-- Literals stand in a string, in order and apart. -/
def Ord : List (List UInt8) → List UInt8 → Prop
  | [], _ => True
  | x :: L, s => ∃ n, n + x.length ≤ s.length ∧ x <+: s.drop n ∧ Ord L (s.drop (n + x.length))
theorem Ord.more : ∀ {L : List (List UInt8)} {s : List UInt8} (m : Nat), Ord L (s.drop m) → Ord L s
  | [], _, _, _ => trivial
  | x :: L, s, m, h => by
    have key : ∀ k, k ≤ s.length → Ord (x :: L) (s.drop k) → Ord (x :: L) s := by
      intro k hk h
      obtain ⟨n, h1, h2, h3⟩ := h
      rw [List.length_drop] at h1
      rw [List.drop_drop] at h2 h3
      exact ⟨k + n, by omega, h2, by rw [Nat.add_assoc]; exact h3⟩
    by_cases c : m ≤ s.length
    · exact key m c h
    · rw [List.drop_eq_nil_of_le (by omega)] at h
      exact key s.length (Nat.le_refl _) (by rw [List.drop_length]; exact h)
/-! ### signs of any bytes -/
theorem star_iff (q : List Int) (s : List UInt8) : lm (257 :: q) s = true ↔ ∃ n, n ≤ s.length ∧ lm q (s.drop n) = true := by
  rw [HopPure.lm_star, Bool.or_eq_true]
  constructor
  · rintro (h | h)
    · exact ⟨0, Nat.zero_le _, by simpa using h⟩
    · obtain ⟨n, _, h1, h2⟩ := HopPure.alt_get _ _ h
      exact ⟨n, h1, h2⟩
  · rintro ⟨n, h1, h2⟩
    by_cases c : n = 0
    · subst c; left; simpa using h2
    · right; exact HopPure.alt_drop _ _ n (by omega) h1 h2
/-- Bytes as signs. -/
def lit (x : List UInt8) : List Int := x.map fun b => (b.toNat : Int)
def signs : List (List UInt8) → List Int
  | [] => []
  | x :: L => lit x ++ 257 :: signs L
/-! ### signs of one byte -/
/-! ### runs -/
def nb (l : List Int) : List UInt8 := l.map fun x => UInt8.ofNat x.toNat
theorem nb_append (a b : List Int) : nb (a ++ b) = nb a ++ nb b := by simp [nb]
theorem runs_ord : ∀ (l run : List Int) (s : List UInt8), okSigns l = true → lm l s = true → Ord ((HopPure.runsL run l).map nb) (nb run ++ s)
  | [], run, s, _, h => by
    unfold HopPure.runsL
    split
    · trivial
    · exact ⟨0, by simp, by simp, trivial⟩
  | x :: t, run, s, ho, h => by
    have hx : 0 ≤ x ∧ x ≤ 257 := by
      unfold okSigns at ho
      simp only [List.all_cons, Bool.and_eq_true, decide_eq_true_eq] at ho
      exact ho.1
    have ht : okSigns t = true := by
      unfold okSigns at ho ⊢
      simp only [List.all_cons, Bool.and_eq_true] at ho
      exact ho.2
    have special : ∀ m, Ord ((HopPure.runsL [] t).map nb) (nb [] ++ s.drop m) → ¬ x ≤ 255 → Ord ((HopPure.runsL run (x :: t)).map nb) (nb run ++ s) := by
      intro m hm hx2
      have h2 : Ord ((HopPure.runsL [] t).map nb) s := Ord.more m (by simpa [nb] using hm)
      unfold HopPure.runsL
      rw [if_neg hx2]
      by_cases c : run = []
      · subst c
        rw [if_pos rfl]
        simpa [nb] using h2
      · rw [if_neg c]
        refine ⟨0, by simp, by simp, ?_⟩
        rw [Nat.zero_add, List.drop_left]
        exact h2
    by_cases c1 : x ≤ 255
    · rw [HopPure.lm_one _ _ (by omega)] at h
      cases s with
      | nil => simp at h
      | cons c s =>
        simp only [Bool.and_eq_true, Bool.or_eq_true, decide_eq_true_eq] at h
        have hc : x = (c.toNat : Int) := by omega
        unfold HopPure.runsL
        rw [if_pos c1]
        have ih := runs_ord t (run ++ [x % 256]) s ht h.2
        have e : nb (run ++ [x % 256]) ++ s = nb run ++ c :: s := by
          rw [nb_append, List.append_assoc]
          have : nb [x % 256] = [c] := by
            have hcl := c.toNat_lt
            simp only [nb, List.map_cons, List.map_nil, List.cons.injEq, and_true]
            apply UInt8.toNat_inj.1
            simp only [UInt8.toNat_ofNat']
            omega
          rw [this]; rfl
        rw [e] at ih
        exact ih
    · by_cases c2 : x = 257
      · subst c2
        obtain ⟨n, h1, h2⟩ := (star_iff _ _).1 h
        exact special n (runs_ord t [] (s.drop n) ht h2) c1
      · rw [HopPure.lm_one _ _ c2] at h
        cases s with
        | nil => simp at h
        | cons c s =>
          simp only [Bool.and_eq_true] at h
          exact special 1 (by simpa using runs_ord t [] s ht h.2) c1
end Go.Proofs.YtdccooaddoafnaaGreatDoor.Pure
