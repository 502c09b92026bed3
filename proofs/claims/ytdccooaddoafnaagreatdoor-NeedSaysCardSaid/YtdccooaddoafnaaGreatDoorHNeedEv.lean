/- Predicates: what they say of a row. -/
import Derived.Test.YtdccooaddoafnaaGreatDoorHNeedLeaf
import Derived.Test.YtdccooaddoafnaaGreatDoorHLikeOrd
import Derived.Test.YtdccooaddoafnaaGreatDoorHCmpEv
set_option linter.unusedVariables false
set_option linter.unusedSimpArgs false
namespace Go.Proofs.YtdccooaddoafnaaGreatDoor.Pure
open Go.RowKit Go.Proofs.YtdccooaddoafnaaGreatDoor.Q Go.Proofs.YtdccooaddoafnaaGreatDoorW.PrintWords Go.Proofs.YtdccooaddoafnaaGreatDoorW.PrintLast Go.Proofs.YtdccooaddoafnaaGreatDoorW.PrintMore
open TextPure (nth nums cmpZ cmpZ_zero nums_inj)
/-! ### grams of a part -/
/-! ### what holds -/
/-! ### what is said -/
/-- The kids' answers put together: the one that settles it, Unknown, or the other one. -/
def bothV (st : Int) : List Int → Int → Int
  | [], out => out
  | x :: xs, out => if x = st then st else if x = 2 then bothV st xs 2 else bothV st xs out
theorem both_ev (f : Nat → S24 → Option Int) (v : S24 → Int) (st : Int) : ∀ l : List S24, (∀ q, q ∈ l → Ev (fun k => f k q) (v q)) → ∀ out, Ev (fun k => bothL (f k) st l out) (bothV st (l.map v) out)
  | [], _, out => Ev.congr (fun k => by rw [bothL]) (Ev.val (show out = _ from by simp [bothV]))
  | q :: qs, h, out => by
    have h1 := h q (List.mem_cons_self ..)
    have h2 := both_ev f v st qs fun y hy => h y (List.mem_cons_of_mem _ hy)
    refine Ev.congr (fun k => by rw [bothL]) (Ev.bind h1 ?_)
    rw [List.map_cons, bothV]
    by_cases c1 : v q = st
    · rw [if_pos c1]; exact Ev.pos c1 (Ev.val rfl)
    rw [if_neg c1]
    by_cases c2 : v q = 2
    · rw [if_pos c2]; exact Ev.neg c1 (Ev.pos c2 (h2 2))
    · rw [if_neg c2]; exact Ev.neg c1 (Ev.neg c2 (h2 out))
theorem bothV_eq (st : Int) (hst : st ≠ 2) : ∀ (xs : List Int) (out : Int), bothV st xs out = if st ∈ xs then st else if 2 ∈ xs then 2 else out
  | [], out => by simp [bothV]
  | x :: xs, out => by
    rw [bothV]
    by_cases c1 : x = st
    · rw [if_pos c1, if_pos (by simp [c1])]
    have m1 : st ∈ x :: xs ↔ st ∈ xs := by rw [List.mem_cons]; exact ⟨fun h => h.resolve_left (fun e => c1 e.symm), .inr⟩
    rw [if_neg c1]
    by_cases h1 : st ∈ xs
    · rw [if_pos (m1.2 h1)]
      by_cases c2 : x = 2
      · rw [if_pos c2, bothV_eq st hst xs 2, if_pos h1]
      · rw [if_neg c2, bothV_eq st hst xs out, if_pos h1]
    rw [if_neg (fun h => h1 (m1.1 h))]
    by_cases c2 : x = 2
    · rw [if_pos c2, bothV_eq st hst xs 2, if_neg h1, if_pos (by simp [c2] : (2 : Int) ∈ x :: xs)]
      split <;> rfl
    · have m2 : (2 : Int) ∈ x :: xs ↔ (2 : Int) ∈ xs := by rw [List.mem_cons]; exact ⟨fun h => h.resolve_left (fun e => c2 e.symm), .inr⟩
      rw [if_neg c2, bothV_eq st hst xs out, if_neg h1]
      by_cases h2 : (2 : Int) ∈ xs
      · rw [if_pos h2, if_pos (m2.2 h2)]
      · rw [if_neg h2, if_neg (fun h => h2 (m2.1 h))]
/-- One of the three answers. -/
def Tri (x : Int) : Prop := x = 0 ∨ x = 1 ∨ x = 2
/-- A row as predicates are asked of it. -/
def RowOk (cols : Int) (row : List S38) : Prop := (row.length : Int) = cols ∧ ∀ v, v ∈ row → v.f1.size ≤ 5000
theorem yes_f (b : Bool) : need_yes.f b = some (if b = true then 1 else 0) := by unfold need_yes.f; cases b <;> rfl
noncomputable def saysV (row : List S38) (p : S24) : Int := ans (fun k => saysP k p row)
theorem bothV_tri {st out : Int} (hs : st = 0 ∨ st = 1) (ho : Tri out) (xs : List Int) : Tri (bothV st xs out) := by
  rw [bothV_eq st (by omega)]
  unfold Tri at ho ⊢
  split
  · omega
  · split <;> omega
end Go.Proofs.YtdccooaddoafnaaGreatDoor.Pure
