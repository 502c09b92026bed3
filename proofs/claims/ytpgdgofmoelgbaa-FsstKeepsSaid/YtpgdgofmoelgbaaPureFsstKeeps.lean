/- What is handed in to fsst.Encode and fsst.Decode stays as it was. No condition. -/
import Derived.Test.YtpgdgofmoelgbaaHFsstEv5
import Derived.Test.YtpgdgofmoelgbaaQx
set_option linter.unusedVariables false
set_option linter.unusedSimpArgs false
namespace Go.Proofs.Ytpgdgofmoelgbaa.Pure
open Go.RowKit Go.Proofs.Ytpgdgofmoelgbaa.Q Go.Proofs.YtpgdgofmoelgbaaW.PrintWords Go.Proofs.YtpgdgofmoelgbaaW.PrintLast Go.Proofs.YtpgdgofmoelgbaaW.PrintMore
open HopPure (bl cmpL Rising Table IsLongest Enc decL cntL)
theorem keeps_l0 (t : List ByteArray) (hl : t.length ≤ 100000) (b : List Int) : ∀ (n i : Nat), t.length - i = n → i ≤ t.length → Ev (fun k => hopperlaw11_FsstKeeps.l0 k t t b b (i : Int)) true := by
  intro n
  induction n with
  | zero =>
    intro i hn hi
    refine Ev.step (fun k => by rw [hopperlaw11_FsstKeeps.l0]) ?_
    refine Ev.neg (by omega) ?_
    refine Ev.bind (Ev.c (same_f b b)) ?_
    exact Ev.val (decide_eq_true rfl)
  | succ n ih =>
    intro i hn hi
    refine Ev.step (fun k => by rw [hopperlaw11_FsstKeeps.l0]) ?_
    refine Ev.pos (by omega) ?_
    refine Ev.pos (by omega) ?_
    refine Ev.pos (by omega) ?_
    refine Ev.pos rfl ?_
    rw [w64s (n := t.length) (by omega) (by omega)]
    exact ih (i + 1) (by omega) (by omega)
theorem FsstKeeps : hopperlaw11_FsstKeeps.Pure := by
  intro l0 a1 h0 h1
  refine Ev.rounds ?_
  unfold hopperlaw11_FsstKeeps.f
  have bad : Ev (fun k => hopperlaw11_FsstKeeps.j0 k l0 a1 true) true := Ev.step (fun k => by rw [hopperlaw11_FsstKeeps.j0]) (Ev.pos rfl (Ev.bind awake_ev (Ev.val rfl)))
  refine Ev.bind awake_ev ?_
  refine Ev.pos rfl ?_
  obtain ⟨f, hf, hf2⟩ := few_ev l0 h0.1
  refine Ev.bind hf ?_
  cases f with
  | false => exact Ev.neg (by simp) bad
  | true =>
  refine Ev.pos rfl ?_
  obtain ⟨t, ho, hmade, _⟩ := order_ev l0 h0.1 h0.2
  have ht := hmade.table
  by_cases c : (a1.size : Int) > 1000
  · rw [decide_eq_true c]; exact bad
  rw [decide_eq_false c]
  obtain ⟨b, hb, he⟩ := encoded t ht a1 (by omega)
  have hlen := he.len
  have hfew := hmade.few
  refine Ev.step (fun k => by rw [hopperlaw11_FsstKeeps.j0]) ?_
  refine Ev.neg (by simp) ?_
  refine Ev.bind ho ?_
  refine Ev.bind (Ev.now _) ?_
  refine Ev.pos (by simp <;> omega) ?_
  refine Ev.bind hb ?_
  refine Ev.bind (Ev.now _) ?_
  refine Ev.pos (by simp <;> omega) ?_
  refine Ev.bind (dec_one ht he 5000 (by omega) (by omega) (by omega)) ?_
  rw [List.nil_append, List.nil_append]
  exact keeps_l0 t (by omega) b t.length 0 rfl (by omega)
end Go.Proofs.Ytpgdgofmoelgbaa.Pure
