/- Of whatever keys order.Right answers as the reference does. No condition. -/
import Derived.Test.YtdojgfkcpaeacaaDoorHOrderEv
set_option linter.unusedVariables false
set_option linter.unusedSimpArgs false
namespace Go.Proofs.YtdojgfkcpaeacaaDoor.Pure
open Go.RowKit Go.Proofs.YtdojgfkcpaeacaaDoor.Q Go.Proofs.YtdojgfkcpaeacaaDoorW.PrintWords Go.Proofs.YtdojgfkcpaeacaaDoorW.PrintLast Go.Proofs.YtdojgfkcpaeacaaDoorW.PrintMore
theorem OrderRights : hopperlaw24_OrderRights.Pure := by
  intro l a hl ha
  refine Ev.rounds ?_
  unfold hopperlaw24_OrderRights.f
  refine Ev.bind awake_ev ?_
  refine Ev.pos rfl ?_
  by_cases c : (l.length : Int) > 30
  · rw [decide_eq_true c]
    exact Ev.step (fun k => by rw [hopperlaw24_OrderRights.j0]) (Ev.pos rfl (Ev.bind awake_ev (Ev.val rfl)))
  rw [decide_eq_false c]
  refine Ev.step (fun k => by rw [hopperlaw24_OrderRights.j0]) ?_
  refine Ev.neg (by simp) ?_
  refine Ev.bind (a := decide ((l.length : Int) ≤ 8) && !(l.any (keyWrong a))) (Ev.c rfl) ?_
  refine Ev.bind (a := decide ((l.length : Int) ≤ 8) && !(l.any (keyWrong a))) ?_ ?_
  · unfold hopperref24_Right.f
    have := right_l0 l a (by omega) _ 0 rfl (Nat.zero_le _)
    simpa using this
  · exact Ev.val (by simp)
end Go.Proofs.YtdojgfkcpaeacaaDoor.Pure
