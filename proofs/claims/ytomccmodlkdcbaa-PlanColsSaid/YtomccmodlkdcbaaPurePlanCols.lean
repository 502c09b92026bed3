/- Of whatever plan and tables: how many columns, or that it isn't right. No condition. -/
import Derived.Test.YtomccmodlkdcbaaHPlanSm
import Derived.Test.YtomccmodlkdcbaaHPlanEv
import Derived.Test.YtomccmodlkdcbaaHColsTwo
set_option linter.unusedVariables false
set_option linter.unusedSimpArgs false
namespace Go.Proofs.Ytomccmodlkdcbaa.Pure
open Go.RowKit Go.Proofs.Ytomccmodlkdcbaa.Q Go.Proofs.YtomccmodlkdcbaaW.PrintWords Go.Proofs.YtomccmodlkdcbaaW.PrintLast Go.Proofs.YtomccmodlkdcbaaW.PrintMore
theorem rd46 (l : List S46) (i : Nat) (h : i < l.length) : rd_T46 l (i : Int) = l[i] := by simp [rd_T46, List.getD, h]
theorem named_ev (l : List S46) (hl : l.length ≤ 9223372036854775807) : ∃ b, Ev (fun k => hopperref25_Named.f k l) b := by
  have loop : ∀ (d i : Nat), l.length - i = d → ∃ b, Ev (fun k => hopperref25_Named.l0 k l (i : Int)) b := by
    intro d
    induction d with
    | zero => intro i hd; exact ⟨decide ((l.length : Int) ≤ 20), Ev.step (fun k => by rw [hopperref25_Named.l0]) (Ev.neg (by omega) (Ev.val rfl))⟩
    | succ d ih =>
      intro i hd
      have hi : i < l.length := by omega
      obtain ⟨b, next⟩ := ih (i + 1) (by omega)
      rw [← w64s hi (by omega)] at next
      have S : ∀ {b}, Ev (fun k => if ((l[i].f0).size : Int) > 100 then (some false) else (if l[i].f1 < 1 then (some false) else (if l[i].f1 > 8 then (some false) else (hopperref25_Named.l0 k l (wrap64 ((i : Int) + 1)))))) b → Ev (fun k => hopperref25_Named.l0 k l (i : Int)) b := fun {b} h => Ev.step (fun k => by rw [hopperref25_Named.l0, rd46 l i hi]) (Ev.pos (by omega) (Ev.pos (by omega) h))
      by_cases c1 : ((l[i].f0).size : Int) > 100
      · exact ⟨false, S (Ev.pos c1 (Ev.val rfl))⟩
      by_cases c2 : l[i].f1 < 1
      · exact ⟨false, S (Ev.neg c1 (Ev.pos c2 (Ev.val rfl)))⟩
      by_cases c3 : l[i].f1 > 8
      · exact ⟨false, S (Ev.neg c1 (Ev.neg c2 (Ev.pos c3 (Ev.val rfl))))⟩
      exact ⟨b, S (Ev.neg c1 (Ev.neg c2 (Ev.neg c3 next)))⟩
  exact loop _ 0 rfl
theorem few_of : ∀ (n : Nat) (p : S31), Sm31 n p → Few p
  | 0, _, h => by cases h
  | n + 1, p, h => by
    cases h with
    | mk _ _ h1 h2 h3 h4 h5 h6 h7 h8 h9 h10 h11 h12 => exact ⟨p, by omega, by omega, fun q hq => few_of n q (h12 q hq)⟩
theorem PlanCols : hopperlaw25_PlanCols.Pure := by
  intro a0_0 a0_1 a0_2 a0_3 a0_4 a0_5 a0_6 l0_7 l0_8 l0_9 l0_10 a0_11 l0_12 l0_13 l0_14 a0_15 a0_16 l0_17 l1 _ _ _ _ _ _ _ _ _ _ _ _ _ _ _ _ _ _ hl1
  refine Ev.rounds ?_
  unfold hopperlaw25_PlanCols.f lawColsP
  refine Ev.bind awake_ev (Ev.pos rfl ?_)
  obtain ⟨b, hb, hs⟩ := small_ev31 21 ⟨a0_0, a0_1, ⟨a0_2, a0_3, a0_4, a0_5, a0_6, l0_7⟩, l0_8, l0_9, l0_10, a0_11, l0_12, l0_13, l0_14, a0_15, a0_16, l0_17⟩ 20 (by omega) (by omega) (by omega)
  refine Ev.bind hb ?_
  cases b with
  | false => exact Ev.neg ft_ (Ev.val rfl)
  | true =>
    refine Ev.pos rfl ?_
    have hS := hs rfl
    obtain ⟨c, hc⟩ := named_ev l1 (Nat.le_trans hl1.1 (by decide))
    refine Ev.bind hc ?_
    cases c with
    | false => exact Ev.neg ft_ (Ev.val rfl)
    | true =>
      refine Ev.pos rfl ?_
      obtain ⟨r, r1, r2⟩ := cols2 l1 _ (few_of _ _ hS) 12 (by omega) (by omega)
      by_cases z : r = 0
      · refine Ev.bind (a := (0, 5)) (Ev.bind r1 (Ev.pos z (Ev.val rfl))) (Ev.bind r2 (Ev.pos z (Ev.pos ⟨rfl, rfl⟩ (Ev.val rfl))))
      · refine Ev.bind (a := (r, 0)) (Ev.bind r1 (Ev.neg z (Ev.val rfl))) (Ev.bind r2 (Ev.neg z (Ev.pos ⟨rfl, rfl⟩ (Ev.val rfl))))
end Go.Proofs.Ytomccmodlkdcbaa.Pure
