/- Of whatever pattern and escape byte like.Parse answers as the reference does: the same signs, or that it is no pattern. No condition. -/
import Derived.Test.YtmddkhoibahehaaHLikeEv
set_option linter.unusedVariables false
set_option linter.unusedSimpArgs false
namespace Go.Proofs.Ytmddkhoibahehaa.Pure
open Go.RowKit Go.Proofs.Ytmddkhoibahehaa.Q Go.Proofs.YtmddkhoibahehaaW.PrintWords Go.Proofs.YtmddkhoibahehaaW.PrintLast

theorem presAll_length (s : ByteArray) (esc : Int) (hs : s.size ≤ 5000) : (presAll s esc).1.length ≤ 5000 := by
  have hp : ∀ (n : Nat) (l : List UInt8), l.length ≤ n → (pres [] (HopPure.parseL esc l)).1.length ≤ l.length := by
    intro n
    induction n using Nat.strongRecOn with
    | _ n ih =>
    intro l hn
    match l with
    | [] => simp [HopPure.parseL, pres]
    | [c] =>
      by_cases h : (c.toNat : Int) = esc
      · rw [HopPure.parseL_end _ _ h]; simp [pres]
      · simp [HopPure.parseL, h, pres]
    | c :: d :: t =>
      simp only [List.length_cons] at hn ⊢
      by_cases h : (c.toNat : Int) = esc
      · rw [HopPure.parseL_esc _ _ _ _ h]
        have := ih t.length (by omega) t (Nat.le_refl _)
        cases hq : HopPure.parseL esc t with
        | none => simp [pres]
        | some m => rw [hq] at this; simp [pres] at this ⊢; omega
      · rw [HopPure.parseL_plain _ _ _ h]
        have := ih (d :: t).length (by simp; omega) (d :: t) (Nat.le_refl _)
        cases hq : HopPure.parseL esc (d :: t) with
        | none => simp [pres]
        | some m => rw [hq] at this; simp [pres] at this ⊢; omega
  unfold presAll
  split
  · simp
  · have := hp _ s.data.toList (Nat.le_refl _)
    rw [dsize] at this
    omega

theorem LikeParses : hopperlaw09_LikeParses.Pure := by
  intro a0 a1 h0 h1
  refine Ev.rounds ?_
  unfold hopperlaw09_LikeParses.f
  refine Ev.bind awake_ev (Ev.pos rfl ?_)
  by_cases c : (a0.size : Int) > 5000
  · rw [decide_eq_true c]
    exact Ev.step (fun k => by rw [hopperlaw09_LikeParses.j0]) (Ev.pos rfl (Ev.bind awake_ev (Ev.val rfl)))
  · rw [decide_eq_false c]
    refine Ev.step (fun k => by rw [hopperlaw09_LikeParses.j0]) (Ev.neg (by simp) ?_)
    refine Ev.bind (parse_ev a0 a1 (by omega)) (Ev.bind (rparse_ev a0 a1 (by omega)) (Ev.pos rfl ?_))
    exact Ev.bind (ints_ev _ (by have := presAll_length a0 a1 (by omega); omega)) (Ev.val rfl)

end Go.Proofs.Ytmddkhoibahehaa.Pure
