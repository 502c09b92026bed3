/- Grams and filters: the reference's questions. -/
import Derived.Test.YtdccooaddoafnaaDoorHGramEv
set_option linter.unusedVariables false
set_option linter.unusedSimpArgs false
namespace Go.Proofs.YtdccooaddoafnaaDoor.Pure
open Go.RowKit Go.Proofs.YtdccooaddoafnaaDoor.Q Go.Proofs.YtdccooaddoafnaaDoorW.PrintWords Go.Proofs.YtdccooaddoafnaaDoorW.PrintLast Go.Proofs.YtdccooaddoafnaaDoorW.PrintMore
theorem rhas_l0 (f0 : Int) (l : List Int) (f2 : List Bool) (g : Int) (hl : l.length ≤ 1000000) : ∀ (n i : Nat), l.length - i = n → Ev (fun k => hopperref15_Has.l0 k g (i : Int) f0 l f2) (decide (g ∈ l.drop i)) := by
  intro n
  induction n with
  | zero =>
    intro i hn
    rw [List.drop_of_length_le (by omega)]
    exact Ev.step (fun k => by rw [hopperref15_Has.l0]) (Ev.neg (by omega) (Ev.val (by simp)))
  | succ n ih =>
    intro i hn
    have hi : i < l.length := by omega
    refine Ev.step (fun k => by rw [hopperref15_Has.l0]) (Ev.pos (by omega) (Ev.pos (by omega) ?_))
    rw [rdn l i hi, w64s hi (by omega), List.drop_eq_getElem_cons hi]
    by_cases c : l[i] = g
    · exact Ev.pos c (Ev.val (by rw [decide_eq_true]; simp [c]))
    · refine Ev.neg c (Ev.eq (ih (i + 1) (by omega)) ?_)
      have : g ≠ l[i] := fun e => c e.symm
      exact decide_eq_decide.2 (by rw [List.mem_cons]; exact ⟨.inr, fun h => h.resolve_left this⟩)
theorem rhas_ev (f : S50) (hf : GoodF f) (g : Int) (hg : 0 ≤ g ∧ g ≤ 16777215) : Ev (fun k => hopperref15_Has.f k f.f0 f.f1 f.f2 g) (hasB f g) := by
  unfold hopperref15_Has.f hasB
  by_cases c : f.f0 > 0
  · have hp := plc_range g f.f0 hg.1 c
    have hl := hf.1 c
    rw [if_pos c, w64 (x := g * 40503) (by omega) (by omega)]
    refine Ev.pos c (Ev.neg (by omega) (Ev.pos hp.1 (Ev.pos ?_ (Ev.val rfl))))
    rw [hl]; exact hp.2
  · rw [if_neg c]
    have := rhas_l0 f.f0 f.f1 f.f2 g hf.2.2 _ 0 rfl
    exact Ev.neg c (by simpa using this)
theorem rmay_l0 (f : S50) (hf : GoodF f) (l : List Int) (hl : l.length ≤ 1000000) (hg : ∀ g, g ∈ l → 0 ≤ g ∧ g ≤ 16777215) : ∀ (n i : Nat), l.length - i = n → Ev (fun k => hopperref15_May.l0 k l (i : Int) f.f0 f.f1 f.f2) ((l.drop i).all (hasB f)) := by
  intro n
  induction n with
  | zero =>
    intro i hn
    rw [List.drop_of_length_le (by omega)]
    exact Ev.step (fun k => by rw [hopperref15_May.l0]) (Ev.neg (by omega) (Ev.val (show true = _ from rfl)))
  | succ n ih =>
    intro i hn
    have hi : i < l.length := by omega
    refine Ev.step (fun k => by rw [hopperref15_May.l0]) (Ev.pos (by omega) (Ev.pos (by omega) ?_))
    rw [rdn l i hi, w64s hi (by omega), List.drop_eq_getElem_cons hi, List.all_cons]
    refine Ev.bind (rhas_ev f hf l[i] (hg _ (List.getElem_mem hi))) ?_
    cases hasB f l[i] with
    | true => exact Ev.pos rfl (by simpa using ih (i + 1) (by omega))
    | false => exact Ev.neg (by decide) (Ev.val (show false = _ from rfl))
theorem rmay_ev (f : S50) (hf : GoodF f) (s : ByteArray) (hs : s.size ≤ 100000) : Ev (fun k => hopperref15_May.f k f.f0 f.f1 f.f2 s) (mayB f s) := by
  unfold hopperref15_May.f
  obtain ⟨r, h1, _, h3, h4⟩ := all_ev [s] (by simp) (fun t ht => by rw [List.mem_singleton.1 ht]; exact hs) (by simp [sumSz]; omega)
  have hb : sumSz [s] = s.size := by simp [sumSz]
  have hm : ∀ g, g ∈ r ↔ g ∈ rawG s := fun g => by rw [h3]; simp
  refine Ev.bind h1 (Ev.eq (rmay_l0 f hf r (by omega) (fun g hg => rawG_range ((hm g).1 hg)) _ 0 rfl) ?_)
  rw [List.drop_zero, mayB, ← not_any, ← not_any, any_mem _ hm]
end Go.Proofs.YtdccooaddoafnaaDoor.Pure
