/- A plan as deep as may be is right; one more is not. No condition. -/
import Derived.Test.YtomccmodlkdcbaaHPlanEv
set_option linter.unusedVariables false
set_option linter.unusedSimpArgs false
namespace Go.Proofs.Ytomccmodlkdcbaa.Pure
open Go.RowKit Go.Proofs.Ytomccmodlkdcbaa.Q Go.Proofs.YtomccmodlkdcbaaW.PrintWords Go.Proofs.YtomccmodlkdcbaaW.PrintLast Go.Proofs.YtomccmodlkdcbaaW.PrintMore
theorem deep_all : ∀ n : Fin 256, hopperlaw25_PlanDeep.l0 120 (n.val : Int) 1 1 ⟨#[116]⟩ 0 0 ⟨#[]⟩ 0 0 [] [] [] [] 0 [] [] [] 0 0 [] = some true := by decide +kernel
theorem PlanDeep : hopperlaw25_PlanDeep.Pure := by
  intro a0 ha
  refine Ev.rounds ?_
  unfold hopperlaw25_PlanDeep.f
  have hr : 0 ≤ a0 ∧ a0 ≤ 255 := by
    unfold Lit.wf at ha
    simp only [Bool.and_eq_true, decide_eq_true_eq] at ha
    exact ha
  refine Ev.bind awake_ev ?_
  refine Ev.pos rfl ?_
  refine Ev.bind (Ev.c (show hopperlaw25_scan.f (⟨#[116]⟩ : ByteArray) = some (1, ⟨#[116]⟩, 0, 0, ⟨#[]⟩, 0, 0, [], [], [], [], 0, [], [], [], 0, 0, []) from rfl)) ?_
  obtain ⟨n, hn⟩ : ∃ n : Nat, a0 = (n : Int) := ⟨a0.toNat, by omega⟩
  subst hn
  have := deep_all ⟨n, by omega⟩
  exact Ev.of (fun k => (hopperlaw25_PlanDeep.mono_l k) _ _ _ _ _ _ _ _ _ _ _ _ _ _ _ _ _ _ _ _) this
end Go.Proofs.Ytomccmodlkdcbaa.Pure
