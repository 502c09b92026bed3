/- Points of a string, how many; they are it again. No condition. -/
import Derived.Test.YtbgilalhjeodaaaDoorHTextEv3
import Derived.Test.YtbgilalhjeodaaaDoorHOpens
set_option linter.unusedVariables false
set_option linter.unusedSimpArgs false
namespace Go.Proofs.YtbgilalhjeodaaaDoor.Pure
open Go.RowKit Go.Proofs.YtbgilalhjeodaaaDoor.Q Go.Proofs.YtbgilalhjeodaaaDoorW.PrintWords Go.Proofs.YtbgilalhjeodaaaDoorW.PrintLast Go.Proofs.YtbgilalhjeodaaaDoorW.PrintMore
open TextPure (enc Pts cmpZ)
theorem TextPoints : hopperlaw08_TextPoints.Pure := by
  intro a0 h0
  refine Ev.rounds ?_
  unfold hopperlaw08_TextPoints.f
  have bad : Ev (fun k => hopperlaw08_TextPoints.j0 k a0 true) true := Ev.step (fun k => by rw [hopperlaw08_TextPoints.j0]) (Ev.pos rfl (Ev.bind awake_ev (Ev.val rfl)))
  refine Ev.bind awake_ev ?_
  refine Ev.pos rfl ?_
  by_cases c : (a0.size : Int) > 2000
  · rw [decide_eq_true c]; exact bad
  rw [decide_eq_false c]
  obtain ⟨ps, hp⟩ := pts a0
  have hl := hp.length_le
  rw [dsz] at hl
  refine Ev.step (fun k => by rw [hopperlaw08_TextPoints.j0]) ?_
  refine Ev.neg (by simp) ?_
  refine Ev.bind (points_ev hp (by omega)) ?_
  refine Ev.bind (rpoints_ev hp (by omega)) ?_
  refine Ev.bind (ints_ev ps ps (by omega)) ?_
  refine Ev.pos (decide_eq_true rfl) ?_
  refine Ev.bind (Ev.c (len_f hp (by omega))) ?_
  refine Ev.pos rfl ?_
  refine Ev.bind (bytes_ev hp (by omega)) ?_
  exact Ev.val (by simp)
end Go.Proofs.YtbgilalhjeodaaaDoor.Pure
