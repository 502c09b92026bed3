/- Of whatever signs the literals that like.Runs answers are the reference's. No condition. -/
import Derived.Test.YtmddkhoibahehaaHLikeEv
set_option linter.unusedVariables false
set_option linter.unusedSimpArgs false
namespace Go.Proofs.Ytmddkhoibahehaa.Pure
open Go.RowKit Go.Proofs.Ytmddkhoibahehaa.Q Go.Proofs.YtmddkhoibahehaaW.PrintWords Go.Proofs.YtmddkhoibahehaaW.PrintLast

theorem LikeRuns : hopperlaw09_LikeRuns.Pure := by
  intro l0 h0 h1 h2
  have hlen : l0.length ≤ 1152921504606846976 := by omega
  refine Ev.rounds ?_
  unfold hopperlaw09_LikeRuns.f
  have bad : Ev (fun k => hopperlaw09_LikeRuns.j0 k l0 true) true := Ev.step (fun k => by rw [hopperlaw09_LikeRuns.j0]) (Ev.pos rfl (Ev.bind awake_ev (Ev.val rfl)))
  refine Ev.bind awake_ev (Ev.pos rfl ?_)
  by_cases c1 : (l0.length : Int) > 300
  · exact Ev.pos c1 bad
  refine Ev.neg c1 (Ev.bind (right_ev l0 hlen) ?_)
  cases hr : okSigns l0 with
  | false => exact bad
  | true =>
    refine Ev.step (fun k => by rw [hopperlaw09_LikeRuns.j0]) (Ev.neg (by simp) ?_)
    refine Ev.bind (runs_ev l0 (by omega)) (Ev.bind (rruns_ev l0 (by omega)) (Ev.bind (same_ev _ ?_) (Ev.val rfl)))
    have := runsS_length l0
    omega

end Go.Proofs.Ytmddkhoibahehaa.Pure
