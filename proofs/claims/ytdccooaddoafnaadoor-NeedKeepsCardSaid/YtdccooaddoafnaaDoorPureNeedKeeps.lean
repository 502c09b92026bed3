/- need.Says, need.Skip and need.Right change nothing of what is handed in, and answer the same again. Of the package-level variables that it reaches: utf8's two tables are laid, bytealg.MaxLen holds a number. -/
import Derived.Test.YtdccooaddoafnaaDoorHNeedAwake
import Derived.Test.YtdccooaddoafnaaDoorHNeedRt
import Derived.Test.YtdccooaddoafnaaDoorHPredSmall
import Derived.Test.YtdccooaddoafnaaDoorHNeedSkip1
set_option linter.unusedVariables false
set_option linter.unusedSimpArgs false
namespace Go.Proofs.YtdccooaddoafnaaDoor.Pure
open Go.RowKit Go.Proofs.YtdccooaddoafnaaDoor.Q Go.Proofs.YtdccooaddoafnaaDoorW.PrintWords Go.Proofs.YtdccooaddoafnaaDoorW.PrintLast Go.Proofs.YtdccooaddoafnaaDoorW.PrintMore
theorem NeedKeeps : hopperlaw16_NeedKeeps.Pure := by
  intro a0 a1 a2 a3 a4 l5 row _ _ _ _ _ _ hrow
  refine Ev.rounds ?_
  unfold hopperlaw16_NeedKeeps.f
  have bad : Ev (fun k => hopperlaw16_NeedKeeps.j0 k row true a0 a1 a2 a3 a4 l5) true := Ev.step (fun k => by rw [hopperlaw16_NeedKeeps.j0]) (Ev.pos rfl (Ev.bind awake_ev (Ev.val rfl)))
  refine Ev.bind awake_ev (Ev.pos rfl ?_)
  obtain ⟨b, hb, _⟩ := small_ev24 21 ⟨a0, a1, a2, a3, a4, l5⟩ 20 (by omega) (by omega) (by omega)
  refine Ev.bind hb ?_
  cases b with
  | false => exact Ev.neg (by decide) bad
  | true =>
  refine Ev.pos rfl ?_
  by_cases c8 : (row.length : Int) > 8
  · exact Ev.pos c8 bad
  refine Ev.neg c8 ?_
  obtain ⟨r, h1, h2, hrt⟩ := right_ev ⟨a0, a1, a2, a3, a4, l5⟩ (row.length : Int) 12 (by omega) (by omega)
  refine Ev.bind h2 ?_
  cases r with
  | false => exact Ev.neg (by decide) bad
  | true =>
  refine Ev.pos rfl ?_
  obtain ⟨c, hc, hS⟩ := rows_ev [row] (row.length : Int)
  refine Ev.bind hc ?_
  cases c with
  | false => exact bad
  | true =>
  refine Ev.step (fun k => by rw [hopperlaw16_NeedKeeps.j0]) ?_
  refine Ev.neg (by decide) (Ev.bind (Ev.now _) ?_)
  refine Ev.pos (by simp; omega) ?_
  have S := hS rfl
  have hmem : row ∈ [row] := by simp
  have hok : RowOk (row.length : Int) row := ⟨rfl, fun v hv => by have := ((S.row row hmem).2 v hv).1; omega⟩
  obtain ⟨x, hx, _⟩ := says_ev (hrt rfl) row hok
  obtain ⟨f, f1, f2, f3⟩ := filters_ev [row] (row.length : Int) 0 S.a1 S.a8 (by omega) (by omega) S.len (fun r hr => ⟨(S.row r hr).1, fun v hv => ((S.row r hr).2 v hv).1⟩)
  obtain ⟨b, s1, _⟩ := skip1_ev (hrt rfl) f f2 (fun x hx => by obtain ⟨j, hj, rfl⟩ := List.getElem_of_mem hx; exact (f3 j hj).1)
  refine Ev.bind (show Ev (fun k => need_Says.f k a0 a1 a2 a3 a4 l5 row) x from hx) (Ev.bind f1 (Ev.bind (show Ev (fun k => need_Skip.f k a0 a1 a2 a3 a4 l5 f) b from s1) ?_))
  have loop : ∀ (n i : Nat), row.length - i = n → Ev (fun k => hopperlaw16_NeedKeeps.l0 k row ([] ++ row) x f b (i : Int) a0 a1 a2 a3 a4 l5) true := by
    rw [List.nil_append]
    intro n
    induction n with
    | zero =>
      intro i hn
      refine Ev.step (fun k => by rw [hopperlaw16_NeedKeeps.l0]) (Ev.neg (by omega) (Ev.bind (show Ev (fun k => need_Says.f k a0 a1 a2 a3 a4 l5 row) x from hx) (Ev.pos rfl (Ev.bind (show Ev (fun k => need_Skip.f k a0 a1 a2 a3 a4 l5 f) b from s1) (Ev.pos (beq_self_eq_true b) (Ev.bind (a := true) ?_ (Ev.val rfl)))))))
      unfold need_Right.f
      exact Ev.bind h1 (Ev.val rfl)
    | succ n ih =>
      intro i hn
      have hi : i < row.length := by omega
      have next := ih (i + 1) (by omega)
      rw [← w64s hi (by omega)] at next
      exact Ev.step (fun k => by rw [hopperlaw16_NeedKeeps.l0]) (Ev.pos (by omega) (Ev.pos (by omega) (Ev.pos (by omega) (Ev.neg (by simp) next))))
  exact loop _ 0 rfl
end Go.Proofs.YtdccooaddoafnaaDoor.Pure
