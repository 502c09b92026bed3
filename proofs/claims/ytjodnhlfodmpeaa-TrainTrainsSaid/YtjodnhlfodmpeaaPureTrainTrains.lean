/- train.Train answers as the reference does. No condition. -/
import Derived.Test.YtjodnhlfodmpeaaHTrainFew12
import Derived.Test.YtjodnhlfodmpeaaHTrainRefT
import Derived.Test.YtjodnhlfodmpeaaQx
set_option linter.unusedVariables false
set_option linter.unusedSimpArgs false
namespace Go.Proofs.Ytjodnhlfodmpeaa.Pure
open Go.RowKit Go.Proofs.Ytjodnhlfodmpeaa.Q Go.Proofs.YtjodnhlfodmpeaaW.PrintWords Go.Proofs.YtjodnhlfodmpeaaW.PrintLast Go.Proofs.YtjodnhlfodmpeaaW.PrintMore
theorem TrainTrains : hopperlaw12_TrainTrains.Pure := by
  intro l0 a1 h0 h1
  refine Ev.rounds ?_
  unfold hopperlaw12_TrainTrains.f
  refine Ev.bind awake_ev (Ev.pos rfl ?_)
  obtain ⟨g, hg, hg2⟩ := few12_ev l0 h0
  refine Ev.bind hg ?_
  cases g with
  | false =>
    show Ev (fun k => hopperlaw12_TrainTrains.j0 k l0 a1 true) true
    exact Ev.step (fun k => by rw [hopperlaw12_TrainTrains.j0]) (Ev.pos rfl (Ev.bind awake_ev (Ev.val rfl)))
  | true =>
  obtain ⟨hn, hb⟩ := hg2 rfl
  have hle := trainB_len l0 (rnds a1)
  show Ev (fun k => hopperlaw12_TrainTrains.j0 k l0 a1 false) true
  exact Ev.step (fun k => by rw [hopperlaw12_TrainTrains.j0]) (Ev.neg (by simp) (Ev.bind (train_ev l0 (by omega) a1) (Ev.bind (rtrain_ev l0 (by omega) (by omega) a1) (Ev.bind (same_ev (trainB l0 (rnds a1)) (by omega)) (Ev.val rfl)))))
end Go.Proofs.Ytjodnhlfodmpeaa.Pure
