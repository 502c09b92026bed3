/- Right predicates, as the reference tells them. -/
import Derived.Test.YtdccooaddoafnaaDoorHNeedBase
import Derived.Test.YtdccooaddoafnaaDoorHNeedRight
set_option linter.unusedVariables false
set_option linter.unusedSimpArgs false
namespace Go.Proofs.YtdccooaddoafnaaDoor.Pure
open Go.RowKit Go.Proofs.YtdccooaddoafnaaDoor.Q Go.Proofs.YtdccooaddoafnaaDoorW.PrintWords Go.Proofs.YtdccooaddoafnaaDoorW.PrintLast Go.Proofs.YtdccooaddoafnaaDoorW.PrintMore
theorem allE_mem {α : Type} {g : α → Option Bool} : ∀ {l : List α}, allE g l = some true → ∀ x, x ∈ l → g x = some true
  | [], _, x, hx => by cases hx
  | y :: ys, h, x, hx => by
    simp only [allE] at h
    obtain ⟨b, hb, h⟩ := Option.bind_eq_some_iff.1 h
    cases b with
    | false => rw [if_neg (by decide)] at h; cases h
    | true =>
      rw [if_pos rfl] at h
      rcases List.mem_cons.1 hx with rfl | hx
      · exact hb
      · exact allE_mem h x hx
theorem right_rt (cols : Int) : ∀ (k : Nat) (p : S24) (deep : Int), refRightP k p cols deep = some true → Rt cols p
  | 0, p, deep, h => by cases h
  | k + 1, p, deep, h => by
    unfold refRightP at h
    by_cases c0 : r16a p deep = true
    · rw [if_pos c0] at h; cases h
    rw [if_neg c0] at h
    have hk : 1 ≤ p.f0 ∧ p.f0 ≤ 14 := by
      unfold r16a at c0
      simp only [Bool.or_eq_true, decide_eq_true_eq] at c0
      omega
    by_cases c1 : 12 ≤ p.f0
    · rw [if_pos c1] at h
      by_cases c2 : r16k p = true
      · rw [if_pos c2] at h; cases h
      rw [if_neg c2] at h
      rw [r16k_iff] at c2
      refine Rt.node p c1 hk.2 (by omega) (by omega) (fun e => ?_) (fun q hq => right_rt cols k q _ (allE_mem h q hq))
      by_cases e2 : p.f5.length = 1
      · exact e2
      · exact absurd (.inr (.inr (.inr (.inr (.inr (.inr ⟨e, e2⟩)))))) c2
    · rw [if_neg c1] at h
      by_cases c2 : r16l p cols = true
      · rw [if_pos c2] at h; cases h
      rw [r16l_iff] at c2
      refine Rt.leaf p hk.1 (by omega) ?_ (by omega) (by omega) (by omega) (by omega) (by omega) (fun e => by omega)
      cases h5 : p.f5 with
      | nil => rfl
      | cons a b => exact absurd (.inl (by rw [h5]; simp)) c2
theorem right_ev (p : S24) (cols deep : Int) (h0 : 0 ≤ deep) (h1 : deep ≤ 12) : ∃ b, Ev (fun k => rightP k p cols deep) b ∧ Ev (fun k => refRightP k p cols deep) b ∧ (b = true → Rt cols p) := by
  obtain ⟨b, a1, a2⟩ := right2 p cols deep h0 h1
  refine ⟨b, a1, a2, fun e => ?_⟩
  subst e
  obtain ⟨K, hK⟩ := a2
  exact right_rt cols K p deep (hK K (Nat.le_refl _))
end Go.Proofs.YtdccooaddoafnaaDoor.Pure
