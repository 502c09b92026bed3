/- What is handed in to like.Runs and like.Match stays as it was, and so does what stands behind it in its array. No condition. -/
import Derived.Test.YtmddkhoibahehaaHLikeEv
set_option linter.unusedVariables false
set_option linter.unusedSimpArgs false
namespace Go.Proofs.Ytmddkhoibahehaa.Pure
open Go.RowKit Go.Proofs.Ytmddkhoibahehaa.Q Go.Proofs.YtmddkhoibahehaaW.PrintWords Go.Proofs.YtmddkhoibahehaaW.PrintLast

theorem LikeKeeps : hopperlaw09_LikeKeeps.Pure := by
  intro l0 h0 h1 h2
  have hlen : l0.length ≤ 1152921504606846976 := by omega
  refine Ev.rounds ?_
  unfold hopperlaw09_LikeKeeps.f
  have bad : Ev (fun k => hopperlaw09_LikeKeeps.j0 k l0 true) true := Ev.step (fun k => by rw [hopperlaw09_LikeKeeps.j0]) (Ev.pos rfl (Ev.bind awake_ev (Ev.val rfl)))
  refine Ev.bind awake_ev (Ev.pos rfl ?_)
  by_cases c1 : (l0.length : Int) > 300
  · exact Ev.pos c1 bad
  refine Ev.neg c1 (Ev.bind (right_ev l0 hlen) ?_)
  cases hr : okSigns l0 with
  | false => exact bad
  | true =>
    refine Ev.step (fun k => by rw [hopperlaw09_LikeKeeps.j0]) (Ev.neg (by simp) ?_)
    refine Ev.bind (Ev.now _) (Ev.pos (by simp; omega) (Ev.bind (Ev.now _) (Ev.pos (by simp; omega) (Ev.bind (Ev.now _) (Ev.pos (by omega) (Ev.pos (by simp; omega) (Ev.bind (Ev.now _) ?_)))))))
    have e : (([] : List Int) ++ l0 ++ [9]).take ((l0.length : Int)).toNat = l0 := by simp
    rw [e]
    have hm : like_Match.f l0 (⟨#[97, 98, 99]⟩ : ByteArray) = some (HopPure.lm l0 [97, 98, 99]) := by
      unfold like_Match.f
      rw [if_pos hlen, if_pos (by decide)]
    refine Ev.bind (runs_ev l0 (by omega)) (Ev.bind (Ev.c hm) (Ev.bind (ints_ev l0 hlen) (Ev.pos rfl (Ev.pos (by simp; omega) (Ev.val ?_)))))
    simp [rd, List.getD]

end Go.Proofs.Ytmddkhoibahehaa.Pure
