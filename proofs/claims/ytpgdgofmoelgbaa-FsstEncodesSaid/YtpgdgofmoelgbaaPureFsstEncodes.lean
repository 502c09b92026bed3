/- fsst.Encode answers as the reference encoder does. No condition. -/
import Derived.Test.YtpgdgofmoelgbaaHFsstEv5
import Derived.Test.YtpgdgofmoelgbaaQx
set_option linter.unusedVariables false
set_option linter.unusedSimpArgs false
namespace Go.Proofs.Ytpgdgofmoelgbaa.Pure
open Go.RowKit Go.Proofs.Ytpgdgofmoelgbaa.Q Go.Proofs.YtpgdgofmoelgbaaW.PrintWords Go.Proofs.YtpgdgofmoelgbaaW.PrintLast Go.Proofs.YtpgdgofmoelgbaaW.PrintMore
open HopPure (bl cmpL Rising Table IsLongest Enc decL cntL)
theorem FsstEncodes : hopperlaw11_FsstEncodes.Pure := by
  intro l0 a1 h0 h1
  refine Ev.rounds ?_
  unfold hopperlaw11_FsstEncodes.f
  have bad : Ev (fun k => hopperlaw11_FsstEncodes.j0 k l0 a1 true) true := Ev.step (fun k => by rw [hopperlaw11_FsstEncodes.j0]) (Ev.pos rfl (Ev.bind awake_ev (Ev.val rfl)))
  refine Ev.bind awake_ev ?_
  refine Ev.pos rfl ?_
  obtain ⟨f, hf, hf2⟩ := few_ev l0 h0.1
  refine Ev.bind hf ?_
  cases f with
  | false => exact Ev.neg (by simp) bad
  | true =>
  refine Ev.pos rfl ?_
  obtain ⟨t, ho, hmade, _⟩ := order_ev l0 h0.1 h0.2
  have ht := hmade.table
  by_cases c : (a1.size : Int) > 2000
  · rw [decide_eq_true c]; exact bad
  rw [decide_eq_false c]
  obtain ⟨b, hb, he⟩ := encode_ev t ht a1 (by omega)
  obtain ⟨b', hb', he'⟩ := rencode_ev t ht a1 (by omega)
  refine Ev.step (fun k => by rw [hopperlaw11_FsstEncodes.j0]) ?_
  refine Ev.neg (by simp) ?_
  refine Ev.bind ho ?_
  refine Ev.bind hb ?_
  refine Ev.bind hb' ?_
  refine Ev.bind (Ev.c (same_f b b')) ?_
  refine Ev.val ?_
  rw [he.unique ht he']
  exact decide_eq_true rfl
end Go.Proofs.Ytpgdgofmoelgbaa.Pure
