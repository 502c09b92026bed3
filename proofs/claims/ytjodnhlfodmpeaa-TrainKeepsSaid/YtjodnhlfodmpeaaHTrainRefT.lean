/- The reference's Train: the same table. -/
import Derived.Test.YtjodnhlfodmpeaaHTrainAwk
import Derived.Test.YtjodnhlfodmpeaaHTrainRefR
set_option linter.unusedVariables false
set_option linter.unusedSimpArgs false
namespace Go.Proofs.Ytjodnhlfodmpeaa.Pure
open Go.RowKit Go.Proofs.Ytjodnhlfodmpeaa.Q Go.Proofs.YtjodnhlfodmpeaaW.PrintWords Go.Proofs.YtjodnhlfodmpeaaW.PrintLast Go.Proofs.YtjodnhlfodmpeaaW.PrintMore
theorem rtrain_l0 (ss : List ByteArray) (hss : ss.length ≤ 1000000) (h : bytesN ss ≤ 100000) (a : Int) : ∀ (n i : Nat), rnds a - i = n → i ≤ rnds a → Ev (fun k => hopperref12_Train.l0 k ss a (trainB ss i) (i : Int)) (trainB ss (rnds a)) := by
  have h8 := rnds_le a
  have hr : rnds a = (min (max a 0) 8).toNat := rfl
  intro n
  induction n with
  | zero =>
    intro i hn hi
    have hi2 : i = rnds a := by omega
    refine Ev.step (fun k => by rw [hopperref12_Train.l0]) ?_
    by_cases c : (i : Int) < a
    · exact Ev.pos c (Ev.neg (by omega) (Ev.val (by rw [hi2])))
    · exact Ev.neg c (Ev.val (by rw [hi2]))
  | succ n ih =>
    intro i hn hi
    refine Ev.step (fun k => by rw [hopperref12_Train.l0]) (Ev.pos (by omega) (Ev.pos (by omega) (Ev.bind (rround_ev _ (trainB_table ss i) ss hss h) ?_)))
    rw [w64s (n := rnds a) (by omega) (by omega)]
    exact ih (i + 1) (by omega) (by omega)
theorem rtrain_ev (ss : List ByteArray) (hss : ss.length ≤ 1000000) (h : bytesN ss ≤ 100000) (a : Int) : Ev (fun k => hopperref12_Train.f k ss a) (trainB ss (rnds a)) := by
  unfold hopperref12_Train.f
  exact rtrain_l0 ss hss h a _ 0 rfl (by omega)
end Go.Proofs.Ytjodnhlfodmpeaa.Pure
