/- A part of a string. No condition. -/
import Derived.Test.YtbgilalhjeodaaaDoorHTextEv3
import Derived.Test.YtbgilalhjeodaaaDoorHOpens
set_option linter.unusedVariables false
set_option linter.unusedSimpArgs false
namespace Go.Proofs.YtbgilalhjeodaaaDoor.Pure
open Go.RowKit Go.Proofs.YtbgilalhjeodaaaDoor.Q Go.Proofs.YtbgilalhjeodaaaDoorW.PrintWords Go.Proofs.YtbgilalhjeodaaaDoorW.PrintLast Go.Proofs.YtbgilalhjeodaaaDoorW.PrintMore
open TextPure (enc Pts cmpZ)
theorem TextSubs : hopperlaw08_TextSubs.Pure := by
  intro a0 a1 a2 h0 h1 h2
  refine Ev.rounds ?_
  unfold hopperlaw08_TextSubs.f
  have bad : Ev (fun k => hopperlaw08_TextSubs.j0 k a0 a1 a2 true) true := Ev.step (fun k => by rw [hopperlaw08_TextSubs.j0]) (Ev.pos rfl (Ev.bind awake_ev (Ev.val rfl)))
  refine Ev.bind awake_ev ?_
  refine Ev.pos rfl ?_
  by_cases c : (a0.size : Int) > 2000
  · rw [decide_eq_true c]; exact bad
  rw [decide_eq_false c]
  obtain ⟨ps, hp⟩ := pts a0
  have w1 := i64_wf h1
  have w2 := i64_wf h2
  obtain ⟨t, t1, t2, _⟩ := sub_f hp (by omega) a1 a2 w1.2
  obtain ⟨u, u1, u2⟩ := rsub_ev hp (by omega) a1 a2 w2.2
  have e : t = u := ba_ext (TextPure.nums_inj (by rw [u2, t2.bytes]))
  refine Ev.step (fun k => by rw [hopperlaw08_TextSubs.j0]) ?_
  refine Ev.neg (by simp) ?_
  refine Ev.bind (Ev.c t1) ?_
  refine Ev.bind u1 ?_
  exact Ev.val (by rw [e]; simp)
end Go.Proofs.YtbgilalhjeodaaaDoor.Pure
