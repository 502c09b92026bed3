/- Codes joined say the strings joined. No condition. -/
import Derived.Test.YtpgdgofmoelgbaaHFsstEv5
import Derived.Test.YtpgdgofmoelgbaaQx
set_option linter.unusedVariables false
set_option linter.unusedSimpArgs false
namespace Go.Proofs.Ytpgdgofmoelgbaa.Pure
open Go.RowKit Go.Proofs.Ytpgdgofmoelgbaa.Q Go.Proofs.YtpgdgofmoelgbaaW.PrintWords Go.Proofs.YtpgdgofmoelgbaaW.PrintLast Go.Proofs.YtpgdgofmoelgbaaW.PrintMore
open HopPure (bl cmpL Rising Table IsLongest Enc decL cntL)
theorem FsstJoins : hopperlaw11_FsstJoins.Pure := by
  intro l0 a1 a2 h0 h1 h2
  refine Ev.rounds ?_
  unfold hopperlaw11_FsstJoins.f
  have bad : Ev (fun k => hopperlaw11_FsstJoins.j0 k l0 a1 a2 true) true := Ev.step (fun k => by rw [hopperlaw11_FsstJoins.j0]) (Ev.pos rfl (Ev.bind awake_ev (Ev.val rfl)))
  refine Ev.bind awake_ev ?_
  refine Ev.pos rfl ?_
  obtain ⟨f, hf, hf2⟩ := few_ev l0 h0.1
  refine Ev.bind hf ?_
  cases f with
  | false => exact Ev.neg (by simp) bad
  | true =>
  refine Ev.pos rfl ?_
  obtain ⟨t, ho, hmade, _⟩ := order_ev l0 h0.1 h0.2
  have ht := hmade.table
  by_cases c : (a1.size : Int) > 1000
  · exact Ev.pos c bad
  refine Ev.neg c ?_
  by_cases c2 : (a2.size : Int) > 1000
  · rw [decide_eq_true c2]; exact bad
  rw [decide_eq_false c2]
  obtain ⟨b, hb, he⟩ := encoded t ht a1 (by omega)
  obtain ⟨b', hb', he'⟩ := encoded t ht a2 (by omega)
  have hsz : (a1 ++ a2).size = a1.size + a2.size := ba_size_append a1 a2
  obtain ⟨b3, hb3, he3⟩ := encoded t ht (a1 ++ a2) (by omega)
  have hlen := he.len
  have hlen' := he'.len
  have hlen3 := he3.len
  have hB := bytes_append he.bytes he'.bytes
  have r1 := cnt_range (T := TL t) _ b rfl
  have r2 := cnt_range (T := TL t) _ b' rfl
  refine Ev.step (fun k => by rw [hopperlaw11_FsstJoins.j0]) ?_
  refine Ev.neg (by simp) ?_
  refine Ev.bind ho ?_
  refine Ev.bind hb ?_
  refine Ev.bind hb' ?_
  refine Ev.bind (Ev.now _) ?_
  refine Ev.pos (by simp <;> omega) ?_
  refine Ev.bind (Ev.now _) ?_
  refine Ev.pos (by simp <;> omega) ?_
  rw [List.nil_append]
  refine Ev.bind (dec_two ht he he' 5000 (by omega) (by omega) (by omega) (by omega)) ?_
  refine Ev.pos rfl ?_
  refine Ev.pos (by omega) ?_
  refine Ev.pos rfl ?_
  refine Ev.bind (Ev.now _) ?_
  refine Ev.pos (by simp <;> omega) ?_
  refine Ev.bind (Ev.now _) ?_
  refine Ev.pos (by simp <;> omega) ?_
  refine Ev.bind (count_ev t ht (b ++ b') hB (by rw [List.length_append]; omega)) ?_
  refine Ev.bind (count_ev t ht b he.bytes (by omega)) ?_
  refine Ev.bind (count_ev t ht b' he'.bytes (by omega)) ?_
  refine Ev.pos (by rw [w64 (by omega) (by omega)]; exact count_two ht he b') ?_
  refine Ev.bind hb3 ?_
  refine Ev.val ?_
  rw [w64 (x := (a1.size : Int) + (a2.size : Int)) (by omega) (by omega), w64 (by omega) (by omega)]
  exact decide_eq_true (by omega)
end Go.Proofs.Ytpgdgofmoelgbaa.Pure
