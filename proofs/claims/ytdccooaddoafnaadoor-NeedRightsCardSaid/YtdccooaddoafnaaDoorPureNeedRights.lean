/- Of whatever predicate need.Right answers as the reference does. Of the package-level variables that it reaches: utf8's two tables are laid, bytealg.MaxLen holds a number. -/
import Derived.Test.YtdccooaddoafnaaDoorHNeedAwake
import Derived.Test.YtdccooaddoafnaaDoorHNeedRt
import Derived.Test.YtdccooaddoafnaaDoorHPredSmall
set_option linter.unusedVariables false
set_option linter.unusedSimpArgs false
namespace Go.Proofs.YtdccooaddoafnaaDoor.Pure
open Go.RowKit Go.Proofs.YtdccooaddoafnaaDoor.Q Go.Proofs.YtdccooaddoafnaaDoorW.PrintWords Go.Proofs.YtdccooaddoafnaaDoorW.PrintLast Go.Proofs.YtdccooaddoafnaaDoorW.PrintMore
theorem NeedRights : hopperlaw16_NeedRights.Pure := by
  intro a0 a1 a2 a3 a4 l5 cols _ _ _ _ _ _ _
  refine Ev.rounds ?_
  unfold hopperlaw16_NeedRights.f
  refine Ev.bind awake_ev (Ev.pos rfl ?_)
  obtain ⟨b, hb, _⟩ := small_ev24 21 ⟨a0, a1, a2, a3, a4, l5⟩ 20 (by omega) (by omega) (by omega)
  refine Ev.bind hb (Ev.step (fun k => by rw [hopperlaw16_NeedRights.j0]) ?_)
  cases b with
  | false => exact Ev.pos rfl (Ev.bind awake_ev (Ev.val rfl))
  | true =>
    refine Ev.neg (by decide) ?_
    obtain ⟨r, h1, h2, _⟩ := right_ev ⟨a0, a1, a2, a3, a4, l5⟩ cols 12 (by omega) (by omega)
    refine Ev.bind (a := r) ?_ (Ev.bind h2 (Ev.val (by simp)))
    unfold need_Right.f
    exact Ev.bind h1 (Ev.val rfl)
end Go.Proofs.YtdccooaddoafnaaDoor.Pure
