/- What was encoded is decoded again; alike codes are alike strings. No condition. -/
import Derived.Test.YtpgdgofmoelgbaaHFsstEv5
import Derived.Test.YtpgdgofmoelgbaaQx
set_option linter.unusedVariables false
set_option linter.unusedSimpArgs false
namespace Go.Proofs.Ytpgdgofmoelgbaa.Pure
open Go.RowKit Go.Proofs.Ytpgdgofmoelgbaa.Q Go.Proofs.YtpgdgofmoelgbaaW.PrintWords Go.Proofs.YtpgdgofmoelgbaaW.PrintLast Go.Proofs.YtpgdgofmoelgbaaW.PrintMore
open HopPure (bl cmpL Rising Table IsLongest Enc decL cntL)
theorem FsstBack : hopperlaw11_FsstBack.Pure := by
  intro l0 a1 a2 h0 h1 h2
  refine Ev.rounds ?_
  unfold hopperlaw11_FsstBack.f
  have bad : Ev (fun k => hopperlaw11_FsstBack.j0 k l0 a1 a2 true) true := Ev.step (fun k => by rw [hopperlaw11_FsstBack.j0]) (Ev.pos rfl (Ev.bind awake_ev (Ev.val rfl)))
  refine Ev.bind awake_ev ?_
  refine Ev.pos rfl ?_
  obtain ⟨f, hf, hf2⟩ := few_ev l0 h0.1
  refine Ev.bind hf ?_
  cases f with
  | false => exact Ev.neg (by simp) bad
  | true =>
  refine Ev.pos rfl ?_
  obtain ⟨t, ho, hmade, _⟩ := order_ev l0 h0.1 h0.2
  have ht := hmade.table
  by_cases c : (a1.size : Int) > 1000
  · exact Ev.pos c bad
  refine Ev.neg c ?_
  by_cases c2 : (a2.size : Int) > 1000
  · rw [decide_eq_true c2]; exact bad
  rw [decide_eq_false c2]
  obtain ⟨b, hb, he⟩ := encoded t ht a1 (by omega)
  obtain ⟨b', hb', he'⟩ := encoded t ht a2 (by omega)
  have hlen := he.len
  refine Ev.step (fun k => by rw [hopperlaw11_FsstBack.j0]) ?_
  refine Ev.neg (by simp) ?_
  refine Ev.bind ho ?_
  refine Ev.bind hb ?_
  refine Ev.bind hb' ?_
  refine Ev.bind (dec_one ht he (a1.size : Int) (by omega) (by omega) (by omega)) ?_
  refine Ev.pos rfl ?_
  refine Ev.pos rfl ?_
  rw [w64 (x := 2 * (a1.size : Int)) (by omega) (by omega), w64 (x := (a1.size : Int) - 1) (by omega) (by omega)]
  refine Ev.neg (by omega) ?_
  refine Ev.bind (Ev.c (same_f b b')) ?_
  have hs := coded_same ht he he'
  have same : (decide (nb b = nb b') != (a1.toList == a2.toList)) = false := by
    rw [tl, tl]
    by_cases h : a1.data.toList = a2.data.toList
    · rw [decide_eq_true (hs.2 h), beq_iff_eq.2 h]; rfl
    · rw [decide_eq_false (fun h3 => h (hs.1 h3)), beq_eq_false_iff_ne.2 h]; rfl
  refine Ev.neg (by rw [same]; simp) ?_
  by_cases c3 : a1.size = 0
  · refine Ev.bind (decode_ev t ht _ (by omega) (by omega) b he.bytes (by omega) 0) ?_
    exact Ev.pos (by omega) (Ev.val rfl)
  · refine Ev.bind (dec_less ht he (by omega) (by omega)) ?_
    exact Ev.neg (by omega) (Ev.val rfl)
end Go.Proofs.Ytpgdgofmoelgbaa.Pure
