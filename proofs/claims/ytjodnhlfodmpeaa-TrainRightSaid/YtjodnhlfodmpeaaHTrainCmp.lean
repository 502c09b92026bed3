/- The reference's compare: what the printed function comes to. -/
import Derived.Test.YtjodnhlfodmpeaaHTrainBase
set_option linter.unusedVariables false
set_option linter.unusedSimpArgs false
set_option maxHeartbeats 2000000
namespace Go.Proofs.Ytjodnhlfodmpeaa.Pure
open Go.RowKit Go.Proofs.Ytjodnhlfodmpeaa.Q Go.Proofs.YtjodnhlfodmpeaaW.PrintWords Go.Proofs.YtjodnhlfodmpeaaW.PrintLast Go.Proofs.YtjodnhlfodmpeaaW.PrintMore
open HopPure (bl cmpL Rising Table IsLongest Enc)

theorem compare_l0 (a b : ByteArray) (ha : a.size ≤ maxLen) : ∀ (n i : Nat), a.size - i = n → i ≤ a.size → i ≤ b.size → Ev (fun k => hopperref07_Compare.l0 k a b (i : Int)) (cmpL (a.data.toList.drop i) (b.data.toList.drop i)) := by
  have hda := dsz a
  have hdb := dsz b
  unfold maxLen at ha
  have last : ∀ i : Nat, i ≤ a.size → i ≤ b.size → ¬ (i < a.size ∧ i < b.size) → Ev (fun k => hopperref07_Compare.j1 k a b (i : Int) false) (cmpL (a.data.toList.drop i) (b.data.toList.drop i)) := by
    intro i h1 h2 h3
    refine Ev.step (fun k => by rw [hopperref07_Compare.j1]) (Ev.neg (by simp) ?_)
    by_cases c1 : a.size < b.size
    · refine Ev.pos (by omega) (Ev.val ?_)
      rw [List.drop_eq_nil_of_le (by omega), drop_at _ i (by omega)]; rfl
    · refine Ev.neg (by omega) ?_
      by_cases c2 : a.size > b.size
      · refine Ev.pos (by omega) (Ev.val ?_)
        rw [show b.data.toList.drop i = [] from List.drop_eq_nil_of_le (by omega), drop_at _ i (by omega)]; rfl
      · refine Ev.neg (by omega) (Ev.val ?_)
        rw [List.drop_eq_nil_of_le (by omega), List.drop_eq_nil_of_le (by omega)]; rfl
  intro n
  induction n with
  | zero =>
    intro i hn h1 h2
    refine Ev.step (fun k => by rw [hopperref07_Compare.l0]) (Ev.neg (by omega) (last i h1 h2 (by omega)))
  | succ n ih =>
    intro i hn h1 h2
    refine Ev.step (fun k => by rw [hopperref07_Compare.l0]) (Ev.pos (by omega) ?_)
    by_cases c : i < b.size
    · rw [decide_eq_true (by omega)]
      refine Ev.step (fun k => by rw [hopperref07_Compare.j1]) (Ev.pos rfl (Ev.pos (by omega) (Ev.pos (by omega) (Ev.pos (by omega) ?_))))
      have hia : i < a.data.toList.length := by omega
      have hib : i < b.data.toList.length := by omega
      rw [btn a i hia, btn b i hib, w64s (n := a.size) (by omega) (by omega), drop_at _ i hia, drop_at _ i hib, HopPure.cmpL_cons]
      by_cases c1 : (a.data.toList[i]).toNat < (b.data.toList[i]).toNat
      · exact Ev.pos (by omega) (Ev.val (by rw [if_pos c1]))
      · rw [if_neg c1]
        refine Ev.neg (by omega) ?_
        by_cases c2 : (b.data.toList[i]).toNat < (a.data.toList[i]).toNat
        · exact Ev.pos (by omega) (Ev.val (by rw [if_pos c2]))
        · rw [if_neg c2]
          exact Ev.neg (by omega) (ih (i + 1) (by omega) (by omega) (by omega))
    · rw [decide_eq_false (by omega)]
      exact last i h1 h2 (by omega)
theorem compare_ev (a b : ByteArray) (ha : a.size ≤ maxLen) : Ev (fun k => hopperref07_Compare.f k a b) (cmpL a.data.toList b.data.toList) := by
  unfold hopperref07_Compare.f
  simpa using compare_l0 a b ha _ 0 rfl (by omega) (by omega)
end Go.Proofs.Ytjodnhlfodmpeaa.Pure
