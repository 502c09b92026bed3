/- Comparing by points is an order. No condition. -/
import Derived.Test.YtbgilalhjeodaaaDoorHTextEv3
import Derived.Test.YtbgilalhjeodaaaDoorHOpens
set_option linter.unusedVariables false
set_option linter.unusedSimpArgs false
namespace Go.Proofs.YtbgilalhjeodaaaDoor.Pure
open Go.RowKit Go.Proofs.YtbgilalhjeodaaaDoor.Q Go.Proofs.YtbgilalhjeodaaaDoorW.PrintWords Go.Proofs.YtbgilalhjeodaaaDoorW.PrintLast Go.Proofs.YtbgilalhjeodaaaDoorW.PrintMore
open TextPure (enc Pts cmpZ)
theorem TextOrder : hopperlaw08_TextOrder.Pure := by
  intro a0 a1 a2 h0 h1 h2
  refine Ev.rounds ?_
  unfold hopperlaw08_TextOrder.f
  have bad : Ev (fun k => hopperlaw08_TextOrder.j0 k a0 a1 a2 true) true := Ev.step (fun k => by rw [hopperlaw08_TextOrder.j0]) (Ev.pos rfl (Ev.bind awake_ev (Ev.val rfl)))
  refine Ev.bind awake_ev ?_
  refine Ev.pos rfl ?_
  by_cases c : (a0.size : Int) > 1000
  · exact Ev.pos c bad
  refine Ev.neg c ?_
  by_cases c1 : (a1.size : Int) > 1000
  · exact Ev.pos c1 bad
  refine Ev.neg c1 ?_
  by_cases c2 : (a2.size : Int) > 1000
  · rw [decide_eq_true c2]; exact bad
  rw [decide_eq_false c2]
  obtain ⟨ps, hp⟩ := pts a0
  obtain ⟨qs, hq⟩ := pts a1
  obtain ⟨rs, hr⟩ := pts a2
  have vp := cmpZ_vals ps qs
  have turn : ∀ x y : List Int, cmpZ x y = wrap64 (-cmpZ y x) := fun x y => by
    have v := cmpZ_vals y x
    rw [w64 (by omega) (by omega)]
    exact TextPure.cmpZ_turn y x
  have last : Ev (fun k => hopperlaw08_TextOrder.j2 k a0 false) true := by
    refine Ev.step (fun k => by rw [hopperlaw08_TextOrder.j2]) ?_
    refine Ev.neg (by simp) ?_
    refine Ev.bind (Ev.c (fold_f a0 (by omega))) ?_
    refine Ev.bind (Ev.c (byfold_f a0 _ (by omega) (by rw [fold_size]; omega))) ?_
    refine Ev.val ?_
    rw [fold_fold, (TextPure.cmpZ_zero _ _).2 rfl]; rfl
  have same : ((cmpZ ps qs == 0) != (a0.toList == a1.toList)) = false := by
    rw [tl, tl]
    by_cases h : ps = qs
    · subst h
      rw [(TextPure.cmpZ_zero ps ps).2 rfl, pts_inj hp hq]; simp
    · have h3 : ¬ cmpZ ps qs = 0 := fun z => h ((TextPure.cmpZ_zero _ _).1 z)
      have h4 : ¬ a0.data.toList = a1.data.toList := fun z => h (by rw [← z] at hq; exact hp.unique hq)
      rw [beq_eq_false_iff_ne.2 h3, beq_eq_false_iff_ne.2 h4]; rfl
  refine Ev.step (fun k => by rw [hopperlaw08_TextOrder.j0]) ?_
  refine Ev.neg (by simp) ?_
  refine Ev.bind (bypoints_ev hp hq (by omega) (by omega)) ?_
  refine Ev.bind (bypoints_ev hq hr (by omega) (by omega)) ?_
  refine Ev.bind (bypoints_ev hq hp (by omega) (by omega)) ?_
  refine Ev.pos (turn ps qs) ?_
  refine Ev.neg (by rw [same]; simp) ?_
  refine Ev.bind (Ev.c (byfold_f a0 a1 (by omega) (by omega))) ?_
  refine Ev.bind (Ev.c (byfold_f a1 a0 (by omega) (by omega))) ?_
  rw [← turn]
  refine Ev.step (fun k => by rw [hopperlaw08_TextOrder.j1]) ?_
  refine Ev.neg (by simp) ?_
  by_cases d1 : cmpZ ps qs ≤ 0
  · refine Ev.pos d1 ?_
    by_cases d2 : cmpZ qs rs ≤ 0
    · refine Ev.pos d2 ?_
      refine Ev.bind (bypoints_ev hp hr (by omega) (by omega)) ?_
      have d3 := TextPure.cmpZ_trans ps qs rs d1 d2
      rw [decide_eq_false (by omega : ¬ cmpZ ps rs > 0)]
      exact last
    · exact Ev.neg d2 last
  · exact Ev.neg d1 last
end Go.Proofs.YtbgilalhjeodaaaDoor.Pure
