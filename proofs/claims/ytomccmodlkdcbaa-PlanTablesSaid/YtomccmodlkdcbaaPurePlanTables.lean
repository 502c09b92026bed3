/- Of whatever plan: the names that it scans are the reference's. No condition. -/
import Derived.Test.YtomccmodlkdcbaaHPlanTabs
import Derived.Test.YtomccmodlkdcbaaHPlanEv
set_option linter.unusedVariables false
set_option linter.unusedSimpArgs false
namespace Go.Proofs.Ytomccmodlkdcbaa.Pure
open Go.RowKit Go.Proofs.Ytomccmodlkdcbaa.Q Go.Proofs.YtomccmodlkdcbaaW.PrintWords Go.Proofs.YtomccmodlkdcbaaW.PrintLast Go.Proofs.YtomccmodlkdcbaaW.PrintMore
theorem PlanTables : hopperlaw25_PlanTables.Pure := by
  intro a0_0 a0_1 a0_2 a0_3 a0_4 a0_5 a0_6 l0_7 l0_8 l0_9 l0_10 a0_11 l0_12 l0_13 l0_14 a0_15 a0_16 l0_17 _ _ _ _ _ _ _ _ _ _ _ _ _ _ _ _ _ _
  refine Ev.rounds ?_
  unfold hopperlaw25_PlanTables.f lawTabsP
  refine Ev.bind awake_ev (Ev.pos rfl ?_)
  obtain ⟨b, hb, hs⟩ := small_ev31 21 ⟨a0_0, a0_1, ⟨a0_2, a0_3, a0_4, a0_5, a0_6, l0_7⟩, l0_8, l0_9, l0_10, a0_11, l0_12, l0_13, l0_14, a0_15, a0_16, l0_17⟩ 20 (by omega) (by omega) (by omega)
  refine Ev.bind hb ?_
  cases b with
  | false => exact Ev.neg ft_ (Ev.val rfl)
  | true =>
    refine Ev.pos rfl ?_
    have hS := hs rfl
    obtain ⟨x, h1, h2, hl, _⟩ := tables_ev _ _ hS
    have h40 : x.length ≤ 40 := Nat.le_trans hl (by cases hS; assumption)
    exact Ev.bind h1 (Ev.bind h2 (same_ev x (by omega)))
end Go.Proofs.Ytomccmodlkdcbaa.Pure
