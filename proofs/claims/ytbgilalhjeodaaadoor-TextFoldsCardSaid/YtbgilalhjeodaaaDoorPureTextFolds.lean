/- Strings folded, and compared. No condition. -/
import Derived.Test.YtbgilalhjeodaaaDoorHTextEv3
import Derived.Test.YtbgilalhjeodaaaDoorHOpens
set_option linter.unusedVariables false
set_option linter.unusedSimpArgs false
namespace Go.Proofs.YtbgilalhjeodaaaDoor.Pure
open Go.RowKit Go.Proofs.YtbgilalhjeodaaaDoor.Q Go.Proofs.YtbgilalhjeodaaaDoorW.PrintWords Go.Proofs.YtbgilalhjeodaaaDoorW.PrintLast Go.Proofs.YtbgilalhjeodaaaDoorW.PrintMore
open TextPure (enc Pts cmpZ)
theorem TextFolds : hopperlaw08_TextFolds.Pure := by
  intro a0 a1 h0 h1
  refine Ev.rounds ?_
  unfold hopperlaw08_TextFolds.f
  have bad : Ev (fun k => hopperlaw08_TextFolds.j0 k a0 a1 true) true := Ev.step (fun k => by rw [hopperlaw08_TextFolds.j0]) (Ev.pos rfl (Ev.bind awake_ev (Ev.val rfl)))
  refine Ev.bind awake_ev ?_
  refine Ev.pos rfl ?_
  by_cases c : (a0.size : Int) > 2000
  · exact Ev.pos c bad
  refine Ev.neg c ?_
  by_cases c2 : (a1.size : Int) > 2000
  · rw [decide_eq_true c2]; exact bad
  rw [decide_eq_false c2]
  obtain ⟨ps, hp⟩ := pts a0
  obtain ⟨qs, hq⟩ := pts a1
  refine Ev.step (fun k => by rw [hopperlaw08_TextFolds.j0]) ?_
  refine Ev.neg (by simp) ?_
  refine Ev.bind (Ev.c (fold_f a0 (by omega))) ?_
  refine Ev.bind (rfold_ev a0 (by omega)) ?_
  refine Ev.pos rfl ?_
  refine Ev.bind (Ev.c (fold_f _ (by rw [fold_size]; omega))) ?_
  rw [fold_fold]
  refine Ev.pos rfl ?_
  refine Ev.bind (Ev.c (byfold_f a0 a1 (by omega) (by omega))) ?_
  refine Ev.bind (rbyfold_ev a0 a1 (by omega) (by omega)) ?_
  refine Ev.pos rfl ?_
  refine Ev.bind (bypoints_ev hp hq (by omega) (by omega)) ?_
  refine Ev.bind (rbypoints_ev hp hq (by omega) (by omega)) ?_
  exact Ev.val (by simp)
end Go.Proofs.YtbgilalhjeodaaaDoor.Pure
