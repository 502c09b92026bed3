/- Of whatever right predicate and row need.Says answers as the reference does. Of the package-level variables that it reaches: utf8's two tables are laid, bytealg.MaxLen holds a number. -/
import Derived.Test.YtdccooaddoafnaaGreatDoorHNeedAwake
import Derived.Test.YtdccooaddoafnaaGreatDoorHNeedRt
import Derived.Test.YtdccooaddoafnaaGreatDoorHPredSmall
import Derived.Test.YtdccooaddoafnaaGreatDoorHNeedSays2
set_option linter.unusedVariables false
set_option linter.unusedSimpArgs false
namespace Go.Proofs.YtdccooaddoafnaaGreatDoor.Pure
open Go.RowKit Go.Proofs.YtdccooaddoafnaaGreatDoor.Q Go.Proofs.YtdccooaddoafnaaGreatDoorW.PrintWords Go.Proofs.YtdccooaddoafnaaGreatDoorW.PrintLast Go.Proofs.YtdccooaddoafnaaGreatDoorW.PrintMore
theorem NeedSays : hopperlaw16_NeedSays.Pure := by
  intro a0 a1 a2 a3 a4 l5 row _ _ _ _ _ _ hrow
  refine Ev.rounds ?_
  unfold hopperlaw16_NeedSays.f
  have bad : Ev (fun k => hopperlaw16_NeedSays.j0 k row true a0 a1 a2 a3 a4 l5) true := Ev.step (fun k => by rw [hopperlaw16_NeedSays.j0]) (Ev.pos rfl (Ev.bind awake_ev (Ev.val rfl)))
  refine Ev.bind awake_ev (Ev.pos rfl ?_)
  obtain ⟨b, hb, _⟩ := small_ev24 21 ⟨a0, a1, a2, a3, a4, l5⟩ 20 (by omega) (by omega) (by omega)
  refine Ev.bind hb ?_
  cases b with
  | false => exact Ev.neg (by decide) bad
  | true =>
  refine Ev.pos rfl ?_
  by_cases c8 : (row.length : Int) > 8
  · exact Ev.pos c8 bad
  refine Ev.neg c8 ?_
  obtain ⟨r, _, h2, hrt⟩ := right_ev ⟨a0, a1, a2, a3, a4, l5⟩ (row.length : Int) 12 (by omega) (by omega)
  refine Ev.bind h2 ?_
  cases r with
  | false => exact Ev.neg (by decide) bad
  | true =>
  refine Ev.pos rfl ?_
  obtain ⟨c, hc, hS⟩ := rows_ev [row] (row.length : Int)
  refine Ev.bind hc ?_
  cases c with
  | false => exact bad
  | true =>
  refine Ev.step (fun k => by rw [hopperlaw16_NeedSays.j0]) (Ev.neg (by decide) ?_)
  have S := hS rfl
  have hmem : row ∈ [row] := by simp
  have hok : RowOk (row.length : Int) row := ⟨rfl, fun v hv => by have := ((S.row row hmem).2 v hv).1; omega⟩
  obtain ⟨x, x1, x2, _⟩ := says2_ev (hrt rfl) row hok
  exact Ev.bind (show Ev (fun k => need_Says.f k a0 a1 a2 a3 a4 l5 row) x from x1) (Ev.bind (show Ev (fun k => hopperref16_Says.f k a0 a1 a2 a3 a4 l5 row) x from x2) (Ev.val (by simp)))
end Go.Proofs.YtdccooaddoafnaaGreatDoor.Pure
