/- train.Round answers as the reference does. No condition. -/
import Derived.Test.YtjodnhlfodmpeaaHTrainAwk
import Derived.Test.YtjodnhlfodmpeaaHTrainFew
import Derived.Test.YtjodnhlfodmpeaaHTrainFew12
import Derived.Test.YtjodnhlfodmpeaaHTrainRefR
import Derived.Test.YtjodnhlfodmpeaaQx
set_option linter.unusedVariables false
set_option linter.unusedSimpArgs false
namespace Go.Proofs.Ytjodnhlfodmpeaa.Pure
open Go.RowKit Go.Proofs.Ytjodnhlfodmpeaa.Q Go.Proofs.YtjodnhlfodmpeaaW.PrintWords Go.Proofs.YtjodnhlfodmpeaaW.PrintLast Go.Proofs.YtjodnhlfodmpeaaW.PrintMore
theorem TrainRounds : hopperlaw12_TrainRounds.Pure := by
  intro l0 l1 h0 h1
  refine Ev.rounds ?_
  unfold hopperlaw12_TrainRounds.f
  have bad : Ev (fun k => hopperlaw12_TrainRounds.j0 k l0 l1 true) true := Ev.step (fun k => by rw [hopperlaw12_TrainRounds.j0]) (Ev.pos rfl (Ev.bind awake_ev (Ev.val rfl)))
  refine Ev.bind awake_ev (Ev.pos rfl ?_)
  obtain ⟨f, hf, _⟩ := few_ev l0 h0.1
  refine Ev.bind hf ?_
  cases f with
  | false => exact Ev.neg (by simp) bad
  | true =>
  refine Ev.pos rfl ?_
  obtain ⟨g, hg, hg2⟩ := few12_ev l1 h1
  refine Ev.bind hg ?_
  cases g with
  | false => exact bad
  | true =>
  obtain ⟨hn, hb⟩ := hg2 rfl
  obtain ⟨t, ht, hm, _⟩ := order_ev l0 h0.1 (fun s hs => by have h := h0.2 s hs; unfold reachBytes at h; unfold maxLen; omega)
  have hle := hm.table.few
  have hle2 := (roundB_table t l1).few
  rw [TL_length] at hle2
  show Ev (fun k => hopperlaw12_TrainRounds.j0 k l0 l1 false) true
  exact Ev.step (fun k => by rw [hopperlaw12_TrainRounds.j0]) (Ev.neg (by simp) (Ev.bind ht (Ev.bind (round_ev t hm.table l1 (by omega)) (Ev.bind (rround_ev t hm.table l1 (by omega) (by omega)) (Ev.bind (same_ev (roundB t l1) (by omega)) (Ev.val rfl))))))
end Go.Proofs.Ytjodnhlfodmpeaa.Pure
