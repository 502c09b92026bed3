/- Of whatever right predicate and rows' filters need.Skip answers as the reference does. Of the package-level variables that it reaches: utf8's two tables are laid, bytealg.MaxLen holds a number. -/
import Derived.Test.YtdccooaddoafnaaDoorHNeedAwake
import Derived.Test.YtdccooaddoafnaaDoorHNeedRt
import Derived.Test.YtdccooaddoafnaaDoorHPredSmall
import Derived.Test.YtdccooaddoafnaaDoorHNeedSkip2
set_option linter.unusedVariables false
set_option linter.unusedSimpArgs false
namespace Go.Proofs.YtdccooaddoafnaaDoor.Pure
open Go.RowKit Go.Proofs.YtdccooaddoafnaaDoor.Q Go.Proofs.YtdccooaddoafnaaDoorW.PrintWords Go.Proofs.YtdccooaddoafnaaDoorW.PrintLast Go.Proofs.YtdccooaddoafnaaDoorW.PrintMore
theorem NeedSkip : hopperlaw16_NeedSkip.Pure := by
  intro a0 a1 a2 a3 a4 l5 rows cols bits _ _ _ _ _ _ _ _ hbits
  have hb16 : 0 ≤ bits ∧ bits ≤ 65535 := by
    have h : IntKind.u16.min ≤ bits ∧ bits ≤ IntKind.u16.max := by simpa [Lit.wf] using hbits
    have e1 : IntKind.u16.min = 0 := by decide
    have e2 : IntKind.u16.max = 65535 := by decide
    rw [e1, e2] at h
    exact h
  refine Ev.rounds ?_
  unfold hopperlaw16_NeedSkip.f
  have bad : Ev (fun k => hopperlaw16_NeedSkip.j0 k rows cols bits true a0 a1 a2 a3 a4 l5) true := Ev.step (fun k => by rw [hopperlaw16_NeedSkip.j0]) (Ev.pos rfl (Ev.bind awake_ev (Ev.val rfl)))
  refine Ev.bind awake_ev (Ev.pos rfl ?_)
  obtain ⟨b, hb, _⟩ := small_ev24 21 ⟨a0, a1, a2, a3, a4, l5⟩ 20 (by omega) (by omega) (by omega)
  refine Ev.bind hb ?_
  cases b with
  | false => exact Ev.neg (by decide) bad
  | true =>
  refine Ev.pos rfl ?_
  obtain ⟨c, hc, hS⟩ := rows_ev rows cols
  refine Ev.bind hc ?_
  cases c with
  | false => exact Ev.neg (by decide) bad
  | true =>
  refine Ev.pos rfl ?_
  obtain ⟨r, _, h2, hrt⟩ := right_ev ⟨a0, a1, a2, a3, a4, l5⟩ cols 12 (by omega) (by omega)
  refine Ev.bind h2 ?_
  cases r with
  | false => exact bad
  | true =>
  refine Ev.step (fun k => by rw [hopperlaw16_NeedSkip.j0]) (Ev.neg (by decide) ?_)
  have S := hS rfl
  obtain ⟨f, f1, f2, f3⟩ := filters_ev rows cols (Int.tmod bits 600) S.a1 S.a8 (Int.tmod_nonneg _ hb16.1) (Int.le_of_lt (Int.lt_of_lt_of_le (Int.tmod_lt_of_pos _ (by decide)) (by decide))) S.len (fun r hr => ⟨(S.row r hr).1, fun v hv => ((S.row r hr).2 v hv).1⟩)
  rw [w64 (x := bits) (by omega) (by omega)]
  refine Ev.bind f1 ?_
  obtain ⟨b, s1, s2⟩ := skip2_ev (hrt rfl) f f2 (fun x hx => by obtain ⟨j, hj, rfl⟩ := List.getElem_of_mem hx; exact (f3 j hj).1)
  exact Ev.bind s1 (Ev.bind s2 (Ev.val (by simp)))
end Go.Proofs.YtdccooaddoafnaaDoor.Pure
