/- What text.Points answers is new memory. No condition. -/
import Derived.Test.YtbgilalhjeodaaaDoorHTextEv3
import Derived.Test.YtbgilalhjeodaaaDoorHOpens
set_option linter.unusedVariables false
set_option linter.unusedSimpArgs false
namespace Go.Proofs.YtbgilalhjeodaaaDoor.Pure
open Go.RowKit Go.Proofs.YtbgilalhjeodaaaDoor.Q Go.Proofs.YtbgilalhjeodaaaDoorW.PrintWords Go.Proofs.YtbgilalhjeodaaaDoorW.PrintLast Go.Proofs.YtbgilalhjeodaaaDoorW.PrintMore
open TextPure (enc Pts cmpZ)
theorem keeps_l0 (a0 : ByteArray) (ps : List Int) (hp : Pts a0.data.toList ps) (hs : a0.size ≤ 1000) (hl : ps.length ≤ 1000) : ∀ (n i : Nat) (l : List Int), l.length - i = n → l.length = ps.length → i ≤ l.length → Ev (fun k => hopperlaw08_TextKeeps.l0 k a0 l (i : Int)) true := by
  intro n
  induction n with
  | zero =>
    intro i l hn he hi
    refine Ev.step (fun k => by rw [hopperlaw08_TextKeeps.l0]) ?_
    refine Ev.neg (by omega) ?_
    refine Ev.bind (points_ev hp (by omega)) ?_
    refine Ev.bind (rpoints_ev hp (by omega)) ?_
    refine Ev.bind (ints_ev ps ps (by omega)) ?_
    exact Ev.val (decide_eq_true rfl)
  | succ n ih =>
    intro i l hn he hi
    refine Ev.step (fun k => by rw [hopperlaw08_TextKeeps.l0]) ?_
    refine Ev.pos (by omega) ?_
    refine Ev.pos (by omega) ?_
    rw [w64s (n := l.length) (by omega) (by omega)]
    exact ih (i + 1) _ (by rw [List.length_set]; omega) (by rw [List.length_set]; exact he) (by rw [List.length_set]; omega)
theorem TextKeeps : hopperlaw08_TextKeeps.Pure := by
  intro a0 h0
  refine Ev.rounds ?_
  unfold hopperlaw08_TextKeeps.f
  have bad : Ev (fun k => hopperlaw08_TextKeeps.j0 k a0 true) true := Ev.step (fun k => by rw [hopperlaw08_TextKeeps.j0]) (Ev.pos rfl (Ev.bind awake_ev (Ev.val rfl)))
  refine Ev.bind awake_ev ?_
  refine Ev.pos rfl ?_
  by_cases c : (a0.size : Int) > 1000
  · rw [decide_eq_true c]; exact bad
  rw [decide_eq_false c]
  obtain ⟨ps, hp⟩ := pts a0
  have hl := hp.length_le
  rw [dsz] at hl
  refine Ev.step (fun k => by rw [hopperlaw08_TextKeeps.j0]) ?_
  refine Ev.neg (by simp) ?_
  refine Ev.bind (points_ev hp (by omega)) ?_
  exact keeps_l0 a0 ps hp (by omega) (by omega) ps.length 0 ps rfl rfl (by omega)
end Go.Proofs.YtbgilalhjeodaaaDoor.Pure
