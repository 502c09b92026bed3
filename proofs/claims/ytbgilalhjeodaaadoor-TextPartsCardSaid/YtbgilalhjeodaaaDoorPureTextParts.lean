/- Two parts of a string, one behind the other, are it. No condition. -/
import Derived.Test.YtbgilalhjeodaaaDoorHTextEv3
import Derived.Test.YtbgilalhjeodaaaDoorHOpens
set_option linter.unusedVariables false
set_option linter.unusedSimpArgs false
namespace Go.Proofs.YtbgilalhjeodaaaDoor.Pure
open Go.RowKit Go.Proofs.YtbgilalhjeodaaaDoor.Q Go.Proofs.YtbgilalhjeodaaaDoorW.PrintWords Go.Proofs.YtbgilalhjeodaaaDoorW.PrintLast Go.Proofs.YtbgilalhjeodaaaDoorW.PrintMore
open TextPure (enc Pts cmpZ)
theorem TextParts : hopperlaw08_TextParts.Pure := by
  intro a0 a1 h0 h1
  refine Ev.rounds ?_
  unfold hopperlaw08_TextParts.f
  have bad : Ev (fun k => hopperlaw08_TextParts.j0 k a0 a1 true) true := Ev.step (fun k => by rw [hopperlaw08_TextParts.j0]) (Ev.pos rfl (Ev.bind awake_ev (Ev.val rfl)))
  refine Ev.bind awake_ev ?_
  refine Ev.pos rfl ?_
  by_cases c : (a0.size : Int) > 2000
  · rw [decide_eq_true c]; exact bad
  rw [decide_eq_false c]
  obtain ⟨ps, hp⟩ := pts a0
  have hl := hp.length_le
  rw [dsz] at hl
  have w1 := byte_wf h1
  obtain ⟨t, t1, t2, t3⟩ := sub_f hp (by omega) 0 a1 (by omega)
  obtain ⟨u, u1, u2, u3⟩ := sub_f hp (by omega) a1 (a0.size : Int) (by omega)
  rw [show (0 : Int).toNat = 0 from rfl, List.drop_zero] at t2
  rw [List.take_of_length_le (by rw [List.length_drop]; omega)] at u2
  have e : t ++ u = a0 := ba_ext (TextPure.nums_inj (by rw [ba_append_list, TextPure.nums_append, ← t2.bytes, ← u2.bytes, ← List.flatMap_append, List.take_append_drop, hp.bytes]))
  have lt := List.length_take (i := a1.toNat) (l := ps)
  have lu := List.length_drop (i := a1.toNat) (l := ps)
  refine Ev.step (fun k => by rw [hopperlaw08_TextParts.j0]) ?_
  refine Ev.neg (by simp) ?_
  rw [w64 (x := a1) (by omega) (by omega)]
  refine Ev.bind (Ev.c t1) ?_
  refine Ev.bind (Ev.c u1) ?_
  refine Ev.pos (by omega) ?_
  refine Ev.pos (by rw [e]) ?_
  refine Ev.bind (Ev.c (len_f t2 (by omega))) ?_
  refine Ev.bind (Ev.c (len_f u2 (by omega))) ?_
  refine Ev.bind (Ev.c (len_f hp (by omega))) ?_
  have e2 : (wrap64 (((ps.take a1.toNat).length : Int) + ((ps.drop a1.toNat).length : Int)) != (ps.length : Int)) = false := by
    rw [w64 (by omega) (by omega)]
    simp only [bne_eq_false_iff_eq]
    omega
  rw [e2]
  refine Ev.step (fun k => by rw [hopperlaw08_TextParts.j1]) ?_
  refine Ev.neg (by simp) ?_
  refine Ev.bind (Ev.c (len_f hp (by omega))) ?_
  by_cases c2 : a1 > (ps.length : Int)
  · refine Ev.pos c2 ?_
    refine Ev.bind (Ev.c (len_f hp (by omega))) ?_
    refine Ev.bind (Ev.c (len_f t2 (by omega))) ?_
    refine Ev.pos (by omega) ?_
    obtain ⟨v, v1, v2, _⟩ := sub_f hp (by omega) (-3) (ps.length : Int) (by omega)
    refine Ev.bind (Ev.c v1) ?_
    rw [show (-3 : Int).toNat = 0 from rfl, List.drop_zero, List.take_of_length_le (by omega)] at v2
    rw [List.take_of_length_le (by omega)] at t2
    exact Ev.val (by rw [pts_inj v2 t2]; simp)
  · refine Ev.neg c2 ?_
    refine Ev.bind (Ev.c (len_f t2 (by omega))) ?_
    refine Ev.pos (by omega) ?_
    obtain ⟨v, v1, v2, _⟩ := sub_f hp (by omega) (-3) a1 (by omega)
    refine Ev.bind (Ev.c v1) ?_
    rw [show (-3 : Int).toNat = 0 from rfl, List.drop_zero] at v2
    exact Ev.val (by rw [pts_inj v2 t2]; simp)
end Go.Proofs.YtbgilalhjeodaaaDoor.Pure
