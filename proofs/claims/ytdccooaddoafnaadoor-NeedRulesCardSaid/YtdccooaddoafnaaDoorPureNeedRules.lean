/- What is said of a predicate and of Not of it; And and Or of one and the same say the same; by Not they change places. Of the package-level variables that it reaches: utf8's two tables are laid, bytealg.MaxLen holds a number. -/
import Derived.Test.YtdccooaddoafnaaDoorHNeedAwake
import Derived.Test.YtdccooaddoafnaaDoorHNeedRt
import Derived.Test.YtdccooaddoafnaaDoorHPredSmall
import Derived.Test.YtdccooaddoafnaaDoorHNeedEv
set_option linter.unusedVariables false
set_option linter.unusedSimpArgs false
namespace Go.Proofs.YtdccooaddoafnaaDoor.Pure
open Go.RowKit Go.Proofs.YtdccooaddoafnaaDoor.Q Go.Proofs.YtdccooaddoafnaaDoorW.PrintWords Go.Proofs.YtdccooaddoafnaaDoorW.PrintLast Go.Proofs.YtdccooaddoafnaaDoorW.PrintMore
/-- What is said of Not of what is said. -/
def notV (x : Int) : Int := if x = 2 then 2 else 1 - x
theorem notV_tri {x : Int} (h : Tri x) : Tri (notV x) := by
  unfold Tri at h ⊢
  rcases h with rfl | rfl | rfl <;> decide
theorem not_ev {p : S24} {row : List S40} {x : Int} (h : Ev (fun k => saysP k p row) x) (ht : Tri x) : Ev (fun k => saysP k (notS p) row) (notV x) := by
  have h1 : Ev (fun k => saysP k ((notS p).f5.getD 0 z24) row) x := h
  by_cases c2 : x = 2
  · have e : notV x = 2 := by unfold notV; rw [if_pos c2]
    rw [e]
    exact Ev.step (fun k => by rw [saysP]) (Ev.neg (show ¬ (notS p).f0 = 12 from (by decide : ¬ (14 : Int) = 12)) (Ev.neg (show ¬ (notS p).f0 = 13 from (by decide : ¬ (14 : Int) = 13)) (Ev.pos (show (notS p).f0 = 14 from rfl) (Ev.pos (show 0 < (notS p).f5.length from Nat.one_pos) (Ev.bind h1 (Ev.pos c2 (Ev.val rfl)))))))
  · have e : notV x = wrap64 (1 - x) := by
      unfold notV; rw [if_neg c2]
      unfold Tri at ht
      rw [w64 (by omega) (by omega)]
    rw [e]
    exact Ev.step (fun k => by rw [saysP]) (Ev.neg (show ¬ (notS p).f0 = 12 from (by decide : ¬ (14 : Int) = 12)) (Ev.neg (show ¬ (notS p).f0 = 13 from (by decide : ¬ (14 : Int) = 13)) (Ev.pos (show (notS p).f0 = 14 from rfl) (Ev.pos (show 0 < (notS p).f5.length from Nat.one_pos) (Ev.bind h1 (Ev.neg c2 (Ev.val rfl)))))))
theorem two_ev {p q : S24} {row : List S40} {x y : Int} (hx : Ev (fun k => saysP k p row) x) (hy : Ev (fun k => saysP k q row) y) :
    Ev (fun k => saysP k (twoS 12 p q) row) (bothV 0 [x, y] 1) ∧ Ev (fun k => saysP k (twoS 13 p q) row) (bothV 1 [x, y] 0) := by
  have ex : saysV row p = x := ans_eq hx
  have ey : saysV row q = y := ans_eq hy
  have hv : ∀ r, r ∈ [p, q] → Ev (fun k => saysP k r row) (saysV row r) := fun r h => by
    simp only [List.mem_cons, List.not_mem_nil, or_false] at h
    rcases h with rfl | rfl
    · rw [ex]; exact hx
    · rw [ey]; exact hy
  have b1 := both_ev (fun k q => saysP k q row) (saysV row) 0 [p, q] hv 1
  have b2 := both_ev (fun k q => saysP k q row) (saysV row) 1 [p, q] hv 0
  rw [List.map_cons, List.map_cons, List.map_nil, ex, ey] at b1 b2
  have c1 : Ev (fun k => bothL (fun r => saysP k r row) 0 (twoS 12 p q).f5 1) (bothV 0 [x, y] 1) := b1
  have c2 : Ev (fun k => bothL (fun r => saysP k r row) 1 (twoS 13 p q).f5 0) (bothV 1 [x, y] 0) := b2
  exact ⟨Ev.step (fun k => by rw [saysP]) (Ev.pos (show (twoS 12 p q).f0 = 12 from rfl) c1), Ev.step (fun k => by rw [saysP]) (Ev.neg (show ¬ (twoS 13 p q).f0 = 12 from (by decide : ¬ (13 : Int) = 12)) (Ev.pos (show (twoS 13 p q).f0 = 13 from rfl) c2))⟩
/-- The rules, of whatever is said of the two. -/
theorem rules_all {x z : Int} (hx : Tri x) (hz : Tri z) : rulesB x (notV (notV x)) (bothV 1 [x, x] 0) (notV (bothV 0 [x, z] 1)) (bothV 1 [notV x, notV z] 0) (notV x) = true := by
  unfold Tri at hx hz
  rcases hx with rfl | rfl | rfl <;> rcases hz with rfl | rfl | rfl <;> decide
theorem rightS_eq (k : Nat) (p : S24) (row : List S40) : rightS k p row = refRightP k p (row.length : Int) 9 := by cases p; rfl
theorem saysS_eq (k : Nat) (p : S24) (row : List S40) : saysS k p row = saysP k p row := by cases p; rfl
theorem NeedRules : hopperlaw16_NeedRules.Pure := by
  intro a0 a1 a2 a3 a4 l5 b0 b1 b2 b3 b4 m5 row _ _ _ _ _ _ _ _ _ _ _ _ hrow
  refine Ev.rounds ?_
  unfold hopperlaw16_NeedRules.f lawRulesP
  refine Ev.bind awake_ev (Ev.pos rfl ?_)
  generalize (⟨a0, a1, a2, a3, a4, l5⟩ : S24) = p
  generalize (⟨b0, b1, b2, b3, b4, m5⟩ : S24) = q
  obtain ⟨s1, hs1, _⟩ := small_ev24 21 p 20 (by omega) (by omega) (by omega)
  refine Ev.bind (show Ev (fun k => smallS k p) s1 from hs1) ?_
  cases s1 with
  | false => exact Ev.neg (by decide) (Ev.val rfl)
  | true =>
  refine Ev.pos rfl ?_
  obtain ⟨s2, hs2, _⟩ := small_ev24 21 q 20 (by omega) (by omega) (by omega)
  refine Ev.bind (show Ev (fun k => smallS k q) s2 from hs2) ?_
  cases s2 with
  | false => exact Ev.neg (by decide) (Ev.val rfl)
  | true =>
  refine Ev.pos rfl ?_
  by_cases c8 : row.length ≤ 8
  case neg => exact Ev.neg c8 (Ev.val rfl)
  refine Ev.pos c8 ?_
  obtain ⟨r1, _, h1, hrp⟩ := right_ev p (row.length : Int) 9 (by omega) (by omega)
  refine Ev.bind (Ev.congr (fun k => rightS_eq k p row) h1) ?_
  cases r1 with
  | false => exact Ev.neg (by decide) (Ev.val rfl)
  | true =>
  refine Ev.pos rfl ?_
  obtain ⟨r2, _, h2, hrq⟩ := right_ev q (row.length : Int) 9 (by omega) (by omega)
  refine Ev.bind (Ev.congr (fun k => rightS_eq k q row) h2) ?_
  cases r2 with
  | false => exact Ev.neg (by decide) (Ev.val rfl)
  | true =>
  refine Ev.pos rfl ?_
  obtain ⟨c, hc, hS⟩ := rows_ev [row] (row.length : Int)
  refine Ev.bind hc ?_
  cases c with
  | false => exact Ev.neg (by decide) (Ev.val rfl)
  | true =>
  refine Ev.pos rfl ?_
  have S := hS rfl
  have hmem : row ∈ [row] := by simp
  have hok : RowOk (row.length : Int) row := ⟨rfl, fun v hv => by have := ((S.row row hmem).2 v hv).1; omega⟩
  obtain ⟨x, hx, tx⟩ := says_ev (hrp rfl) row hok
  obtain ⟨z, hz, tz⟩ := says_ev (hrq rfl) row hok
  have n1 := not_ev hx tx
  have n2 := not_ev hz tz
  have n3 := not_ev n1 (notV_tri tx)
  have t1 := (two_ev hx hx).2
  have t2 := (two_ev hx hz).1
  have n4 := not_ev t2 (bothV_tri (.inl rfl) (.inr (.inl rfl)) _)
  have t3 := (two_ev n1 n2).2
  refine Ev.bind (Ev.congr (fun k => saysS_eq k _ row) hx) (Ev.bind (Ev.congr (fun k => saysS_eq k _ row) n3) (Ev.bind (Ev.congr (fun k => saysS_eq k _ row) t1) (Ev.bind (Ev.congr (fun k => saysS_eq k _ row) n4) (Ev.bind (Ev.congr (fun k => saysS_eq k _ row) t3) (Ev.bind (Ev.congr (fun k => saysS_eq k _ row) n1) ?_)))))
  exact Ev.pos (rules_all tx tz) (Ev.val rfl)
end Go.Proofs.YtdccooaddoafnaaDoor.Pure
