/- Of no row whose filters are skipped says the predicate Yes. Of the package-level variables that it reaches: utf8's two tables are laid, bytealg.MaxLen holds a number. -/
import Derived.Test.YtdccooaddoafnaaDoorHNeedAwake
import Derived.Test.YtdccooaddoafnaaDoorHNeedRt1
import Derived.Test.YtdccooaddoafnaaDoorHPredSmall
import Derived.Test.YtdccooaddoafnaaDoorHNeedSkip1
set_option linter.unusedVariables false
set_option linter.unusedSimpArgs false
namespace Go.Proofs.YtdccooaddoafnaaDoor.Pure
open Go.RowKit Go.Proofs.YtdccooaddoafnaaDoor.Q Go.Proofs.YtdccooaddoafnaaDoorW.PrintWords Go.Proofs.YtdccooaddoafnaaDoorW.PrintLast Go.Proofs.YtdccooaddoafnaaDoorW.PrintMore
theorem skips_l0 (p : S24) (rows : List (List S40)) (hl : rows.length ≤ 100) (h : ∀ row, row ∈ rows → ∃ x, Ev (fun k => saysP k p row) x ∧ x ≠ 1) :
    ∀ (n i : Nat), rows.length - i = n → Ev (fun k => hopperlaw16_NeedSkips.l0 k rows (i : Int) p.f0 p.f1 p.f2 p.f3 p.f4 p.f5) true := by
  obtain ⟨g0, g1, g2, g3, g4, g5⟩ := p
  intro n
  induction n with
  | zero => intro i hn; exact Ev.step (fun k => by rw [hopperlaw16_NeedSkips.l0]) (Ev.neg (by omega) (Ev.val rfl))
  | succ n ih =>
    intro i hn
    have hi : i < rows.length := by omega
    refine Ev.step (fun k => by rw [hopperlaw16_NeedSkips.l0]) (Ev.pos (by omega) (Ev.pos (by omega) ?_))
    rw [rdLL rows i hi, w64s hi (by omega)]
    obtain ⟨x, hx, hne⟩ := h _ (List.getElem_mem hi)
    exact Ev.bind (show Ev (fun k => need_Says.f k g0 g1 g2 g3 g4 g5 rows[i]) x from hx) (Ev.neg hne (ih (i + 1) (by omega)))
theorem NeedSkips : hopperlaw16_NeedSkips.Pure := by
  intro a0 a1 a2 a3 a4 l5 rows cols bits _ _ _ _ _ _ _ _ hbits
  have hb16 : 0 ≤ bits ∧ bits ≤ 65535 := by
    have h : IntKind.u16.min ≤ bits ∧ bits ≤ IntKind.u16.max := by simpa [Lit.wf] using hbits
    have e1 : IntKind.u16.min = 0 := by decide
    have e2 : IntKind.u16.max = 65535 := by decide
    rw [e1, e2] at h
    exact h
  refine Ev.rounds ?_
  unfold hopperlaw16_NeedSkips.f
  have bad : Ev (fun k => hopperlaw16_NeedSkips.j0 k rows cols bits true a0 a1 a2 a3 a4 l5) true := Ev.step (fun k => by rw [hopperlaw16_NeedSkips.j0]) (Ev.pos rfl (Ev.bind awake_ev (Ev.val rfl)))
  refine Ev.bind awake_ev (Ev.pos rfl ?_)
  obtain ⟨b, hb, _⟩ := small_ev24 21 ⟨a0, a1, a2, a3, a4, l5⟩ 20 (by omega) (by omega) (by omega)
  refine Ev.bind hb ?_
  cases b with
  | false => exact Ev.neg (by decide) bad
  | true =>
  refine Ev.pos rfl ?_
  obtain ⟨c, hc, hS⟩ := rows_ev rows cols
  refine Ev.bind hc ?_
  cases c with
  | false => exact Ev.neg (by decide) bad
  | true =>
  refine Ev.pos rfl ?_
  obtain ⟨r, h1, hrt⟩ := right_ev cols ⟨a0, a1, a2, a3, a4, l5⟩ 12 (by omega) (by omega)
  refine Ev.bind (a := r) (by unfold need_Right.f; exact Ev.bind h1 (Ev.val rfl)) ?_
  cases r with
  | false => exact bad
  | true =>
  refine Ev.step (fun k => by rw [hopperlaw16_NeedSkips.j0]) (Ev.neg (by decide) ?_)
  have S := hS rfl
  obtain ⟨f, f1, f2, f3⟩ := filters_ev rows cols (Int.tmod bits 600) S.a1 S.a8 (Int.tmod_nonneg _ hb16.1) (Int.le_of_lt (Int.lt_of_lt_of_le (Int.tmod_lt_of_pos _ (by decide)) (by decide))) S.len (fun r hr => ⟨(S.row r hr).1, fun v hv => ((S.row r hr).2 v hv).1⟩)
  rw [w64 (x := bits) (by omega) (by omega)]
  refine Ev.bind f1 ?_
  obtain ⟨b, s1, s3⟩ := skip1_ev (hrt rfl) f f2 (fun x hx => by obtain ⟨j, hj, rfl⟩ := List.getElem_of_mem hx; exact (f3 j hj).1)
  refine Ev.bind s1 ?_
  cases b with
  | false => exact Ev.neg (by decide) (Ev.val rfl)
  | true =>
    refine Ev.pos rfl (skips_l0 ⟨a0, a1, a2, a3, a4, l5⟩ rows S.len (fun row hrow => ?_) _ 0 rfl)
    have hok : RowOk cols row := ⟨(S.row row hrow).1, fun v hv => by have := ((S.row row hrow).2 v hv).1; omega⟩
    obtain ⟨x, hx, _⟩ := says_ev (hrt rfl) row hok
    exact ⟨x, hx, s3 rfl row hok (cov_of f2 f3 hrow) x hx⟩
end Go.Proofs.YtdccooaddoafnaaDoor.Pure
