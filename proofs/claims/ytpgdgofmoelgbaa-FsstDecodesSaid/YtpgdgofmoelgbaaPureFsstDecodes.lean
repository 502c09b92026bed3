/- fsst.Decode and fsst.Count answer as the reference decoder does. No condition. -/
import Derived.Test.YtpgdgofmoelgbaaHFsstEv5
import Derived.Test.YtpgdgofmoelgbaaQx
set_option linter.unusedVariables false
set_option linter.unusedSimpArgs false
namespace Go.Proofs.Ytpgdgofmoelgbaa.Pure
open Go.RowKit Go.Proofs.Ytpgdgofmoelgbaa.Q Go.Proofs.YtpgdgofmoelgbaaW.PrintWords Go.Proofs.YtpgdgofmoelgbaaW.PrintLast Go.Proofs.YtpgdgofmoelgbaaW.PrintMore
open HopPure (bl cmpL Rising Table IsLongest Enc decL cntL)
theorem FsstDecodes : hopperlaw11_FsstDecodes.Pure := by
  intro l0 l1 a2 h0 h1 h2
  refine Ev.rounds ?_
  unfold hopperlaw11_FsstDecodes.f
  have bad : Ev (fun k => hopperlaw11_FsstDecodes.j0 k l0 l1 a2 true) true := Ev.step (fun k => by rw [hopperlaw11_FsstDecodes.j0]) (Ev.pos rfl (Ev.bind awake_ev (Ev.val rfl)))
  refine Ev.bind awake_ev ?_
  refine Ev.pos rfl ?_
  obtain ⟨f, hf, hf2⟩ := few_ev l0 h0.1
  refine Ev.bind hf ?_
  cases f with
  | false => exact Ev.neg (by simp) bad
  | true =>
  refine Ev.pos rfl ?_
  obtain ⟨t, ho, hmade, _⟩ := order_ev l0 h0.1 h0.2
  have ht := hmade.table
  by_cases c : (l1.length : Int) > 2000
  · rw [decide_eq_true c]; exact bad
  rw [decide_eq_false c]
  have hB : Bytes l1 := fun x hx => byte_wf (h1.2 x hx)
  have h64 := i64_wf h2
  have core : ∀ most : Int, 0 ≤ most → most ≤ 9223372036854775807 → Ev (fun k => hopperlaw11_FsstDecodes.j1 k l0 l1 most) true := by
    intro most hm0 hm1
    refine Ev.step (fun k => by rw [hopperlaw11_FsstDecodes.j1]) ?_
    refine Ev.bind ho ?_
    refine Ev.bind (decode_ev t ht most (by omega) hm1 l1 hB (by omega) 0) ?_
    refine Ev.bind (rdecode_ev t ht most l1 hB (by omega)) ?_
    refine Ev.bind (rdecode_ev t ht 100000 l1 hB (by omega)) ?_
    refine Ev.pos rfl ?_
    refine Ev.pos rfl ?_
    refine Ev.bind (count_ev t ht l1 hB (by omega)) ?_
    refine Ev.val ?_
    have e := decL_count ht l1.length l1 100000 [] 0 rfl hB (by simp; omega)
    rw [e]
    simp
  refine Ev.step (fun k => by rw [hopperlaw11_FsstDecodes.j0]) ?_
  refine Ev.neg (by simp) ?_
  by_cases c2 : a2 < 0
  · exact Ev.pos c2 (core 0 (by omega) (by omega))
  · exact Ev.neg c2 (core a2 (by omega) (by omega))
end Go.Proofs.Ytpgdgofmoelgbaa.Pure
