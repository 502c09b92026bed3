/- What is handed to train stays; what is answered is new memory. No condition. -/
import Derived.Test.YtjodnhlfodmpeaaHTrainFew12
import Derived.Test.YtjodnhlfodmpeaaHTrainRefT
import Derived.Test.YtjodnhlfodmpeaaQx
set_option linter.unusedVariables false
set_option linter.unusedSimpArgs false
namespace Go.Proofs.Ytjodnhlfodmpeaa.Pure
open Go.RowKit Go.Proofs.Ytjodnhlfodmpeaa.Q Go.Proofs.YtjodnhlfodmpeaaW.PrintWords Go.Proofs.YtjodnhlfodmpeaaW.PrintLast Go.Proofs.YtjodnhlfodmpeaaW.PrintMore
theorem keeps_l1 (l0 : List ByteArray) (hn : l0.length ≤ 60) (hb : bytesN l0 ≤ 600) : ∀ (n i : Nat) (s : List ByteArray), s.length - i = n → i ≤ s.length → s.length ≤ 1000 → Ev (fun k => hopperlaw12_TrainKeeps.l1 k l0 l0 s (i : Int)) true := by
  have hle := trainB_len l0 (rnds 2)
  intro n
  induction n with
  | zero =>
    intro i s hi1 hi2 hs
    exact Ev.step (fun k => by rw [hopperlaw12_TrainKeeps.l1]) (Ev.neg (by omega) (Ev.bind (same_ev l0 (by omega)) (Ev.pos rfl (Ev.bind (train_ev l0 (by omega) 2) (Ev.bind (rtrain_ev l0 (by omega) (by omega) 2) (Ev.bind (same_ev (trainB l0 (rnds 2)) (by omega)) (Ev.val rfl)))))))
  | succ n ih =>
    intro i s hi1 hi2 hs
    refine Ev.step (fun k => by rw [hopperlaw12_TrainKeeps.l1]) (Ev.pos (by omega) (Ev.pos (by omega) ?_))
    rw [w64s (n := s.length) (by omega) (by omega)]
    exact ih (i + 1) _ (by rw [List.length_set]; omega) (by rw [List.length_set]; omega) (by rw [List.length_set]; omega)
theorem keeps_l0 (l0 : List ByteArray) (hn : l0.length ≤ 60) (hb : bytesN l0 ≤ 600) : ∀ (n i : Nat) (s : List ByteArray), s.length - i = n → i ≤ s.length → s.length ≤ 1000 → Ev (fun k => hopperlaw12_TrainKeeps.l0 k l0 l0 s (i : Int)) true := by
  intro n
  induction n with
  | zero =>
    intro i s hi1 hi2 hs
    have hle := sampB_len l0 [0, 1, 2]
    exact Ev.step (fun k => by rw [hopperlaw12_TrainKeeps.l0]) (Ev.neg (by omega) (Ev.bind (sample_ev l0 (by omega) [0, 1, 2] (by decide) (by decide)) (keeps_l1 l0 hn hb _ 0 (sampB l0 [0, 1, 2]) rfl (by omega) (by simp at hle; omega))))
  | succ n ih =>
    intro i s hi1 hi2 hs
    refine Ev.step (fun k => by rw [hopperlaw12_TrainKeeps.l0]) (Ev.pos (by omega) (Ev.pos (by omega) ?_))
    rw [w64s (n := s.length) (by omega) (by omega)]
    exact ih (i + 1) _ (by rw [List.length_set]; omega) (by rw [List.length_set]; omega) (by rw [List.length_set]; omega)
theorem TrainKeeps : hopperlaw12_TrainKeeps.Pure := by
  intro l0 h0
  refine Ev.rounds ?_
  unfold hopperlaw12_TrainKeeps.f
  refine Ev.bind awake_ev (Ev.pos rfl ?_)
  obtain ⟨g, hg, hg2⟩ := few12_ev l0 h0
  refine Ev.bind hg ?_
  cases g with
  | false =>
    show Ev (fun k => hopperlaw12_TrainKeeps.j0 k l0 true) true
    exact Ev.step (fun k => by rw [hopperlaw12_TrainKeeps.j0]) (Ev.pos rfl (Ev.bind awake_ev (Ev.val rfl)))
  | true =>
  obtain ⟨hn, hb⟩ := hg2 rfl
  have hle := trainB_len l0 (rnds 2)
  show Ev (fun k => hopperlaw12_TrainKeeps.j0 k l0 false) true
  refine Ev.step (fun k => by rw [hopperlaw12_TrainKeeps.j0]) ?_
  refine Ev.neg (by simp) ?_
  refine Ev.bind (Ev.now _) ?_
  refine Ev.pos (by simp; omega) ?_
  refine Ev.bind (train_ev l0 (by omega) 2) ?_
  exact keeps_l0 l0 hn hb _ 0 (trainB l0 (rnds 2)) rfl (by omega) (by omega)
end Go.Proofs.Ytjodnhlfodmpeaa.Pure
