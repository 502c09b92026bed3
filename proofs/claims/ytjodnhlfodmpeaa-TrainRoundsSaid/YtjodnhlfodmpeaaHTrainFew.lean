/- Few strings. -/
import Derived.Test.YtjodnhlfodmpeaaHTrainBase
set_option linter.unusedVariables false
set_option linter.unusedSimpArgs false
set_option maxHeartbeats 2000000
namespace Go.Proofs.Ytjodnhlfodmpeaa.Pure
open Go.RowKit Go.Proofs.Ytjodnhlfodmpeaa.Q Go.Proofs.YtjodnhlfodmpeaaW.PrintWords Go.Proofs.YtjodnhlfodmpeaaW.PrintLast Go.Proofs.YtjodnhlfodmpeaaW.PrintMore
open HopPure (bl cmpL Rising Table IsLongest Enc)

theorem few_l0 (l : List ByteArray) (hl : l.length ≤ maxLen) : ∀ (n i : Nat), l.length - i = n → i ≤ l.length → ∃ b : Bool, Ev (fun k => hopperref10_Few.l0 k l (i : Int)) b ∧ (b = true → l.length ≤ 300) := by
  unfold maxLen at hl
  have last : ∀ i : Int, ∃ b : Bool, Ev (fun k => hopperref10_Few.j1 k l i false) b ∧ (b = true → l.length ≤ 300) := fun i => ⟨decide ((l.length : Int) ≤ 300), Ev.step (fun k => by rw [hopperref10_Few.j1]) (Ev.neg (by simp) (Ev.val rfl)), fun h => by have := of_decide_eq_true h; omega⟩
  intro n
  induction n with
  | zero =>
    intro i hn hi
    obtain ⟨b, h1, h2⟩ := last i
    exact ⟨b, Ev.step (fun k => by rw [hopperref10_Few.l0]) (Ev.neg (by omega) h1), h2⟩
  | succ n ih =>
    intro i hn hi
    have hil : i < l.length := by omega
    by_cases c : i < 400
    · by_cases c2 : ((l[i]).size : Int) > 1000
      · refine ⟨false, Ev.step (fun k => by rw [hopperref10_Few.l0]) (Ev.pos (by omega) ?_), fun h => by cases h⟩
        rw [decide_eq_true (by omega)]
        refine Ev.step (fun k => by rw [hopperref10_Few.j1]) ?_
        refine Ev.pos rfl ?_
        refine Ev.pos (by omega) ?_
        refine Ev.pos (by omega) ?_
        rw [rdOfn _ l i hil]
        refine Ev.pos c2 ?_
        exact Ev.val rfl
      · obtain ⟨b, h1, h2⟩ := ih (i + 1) (by omega) (by omega)
        refine ⟨b, Ev.step (fun k => by rw [hopperref10_Few.l0]) (Ev.pos (by omega) ?_), h2⟩
        rw [decide_eq_true (by omega)]
        refine Ev.step (fun k => by rw [hopperref10_Few.j1]) ?_
        refine Ev.pos rfl ?_
        refine Ev.pos (by omega) ?_
        refine Ev.pos (by omega) ?_
        rw [rdOfn _ l i hil, w64s (n := l.length) hil (by omega)]
        exact Ev.neg c2 h1
    · obtain ⟨b, h1, h2⟩ := last i
      refine ⟨b, Ev.step (fun k => by rw [hopperref10_Few.l0]) (Ev.pos (by omega) ?_), h2⟩
      rw [decide_eq_false (by omega)]
      exact h1
theorem few_ev (l : List ByteArray) (hl : l.length ≤ maxLen) : ∃ b : Bool, Ev (fun k => hopperref10_Few.f k l) b ∧ (b = true → l.length ≤ 300) := few_l0 l hl _ 0 rfl (by omega)
end Go.Proofs.Ytjodnhlfodmpeaa.Pure
