/- What is handed in stays; what is answered is new memory. Of the package-level variables that it reaches: utf8's two tables are laid. -/
import Derived.Test.YtdojgfkcpaeacaaDoorHOrderOne
set_option linter.unusedVariables false
set_option linter.unusedSimpArgs false
namespace Go.Proofs.YtdojgfkcpaeacaaDoor.Pure
open Go.Sort Go.RowKit Go.Proofs.YtdojgfkcpaeacaaDoor.Q Go.Proofs.YtdojgfkcpaeacaaDoorW.PrintWords Go.Proofs.YtdojgfkcpaeacaaDoorW.PrintLast Go.Proofs.YtdojgfkcpaeacaaDoorW.PrintMore
theorem right_fit (keys : List S39) (a : Int) (h : (decide ((keys.length : Int) ≤ 8) && !(keys.any (keyWrong a))) = true) : keys.length ≤ 8 ∧ ∀ x ∈ keys, 0 ≤ x.f0 ∧ x.f0 < a := by
  rw [Bool.and_eq_true] at h
  obtain ⟨h1, h2⟩ := h
  have h1 := of_decide_eq_true h1
  refine ⟨by omega, fun x hx => ?_⟩
  simp only [Bool.not_eq_true', List.any_eq_false] at h2
  have := h2 x hx
  unfold keyWrong at this
  simp only [Bool.or_eq_true, decide_eq_true_eq, not_or] at this
  omega
theorem OrderKeeps : hopperlaw24_OrderKeeps.Pure := by
  intro l a keys hl ha hk
  refine Ev.rounds ?_
  unfold hopperlaw24_OrderKeeps.f lawKeepsP
  refine Ev.bind awake_ev (Ev.pos rfl ?_)
  obtain ⟨b, hb, hS⟩ := rows_ev l a
  refine Ev.bind hb ?_
  cases b with
  | false => exact Ev.neg (by decide) (Ev.val rfl)
  | true =>
  refine Ev.pos rfl ?_
  have hS := hS rfl
  have hR : Ev (fun k => hopperref24_Right.f k keys a) (decide ((keys.length : Int) ≤ 8) && !(keys.any (keyWrong a))) := right_l0 keys a (Nat.le_trans hk.1 (by decide)) _ 0 rfl (Nat.zero_le _)
  refine Ev.bind hR ?_
  cases hc : (decide ((keys.length : Int) ≤ 8) && !(keys.any (keyWrong a))) with
  | false => exact Ev.neg (by decide) (Ev.val rfl)
  | true =>
  refine Ev.pos rfl ?_
  have H : Rowsy l keys a := ⟨hS, right_fit keys a hc⟩
  have hn := hS.len
  have hrow : ∀ r ∈ l, r.length ≤ 1000 := fun r hr => by
    have := (hS.row r hr).1
    have := hS.a8
    omega
  have hf : fineB l = true := by
    unfold fineB
    rw [Bool.and_eq_true]
    exact ⟨decide_eq_true (by omega), List.all_eq_true.2 fun r hr => decide_eq_true (hrow r hr)⟩
  refine Ev.pos hf ?_
  have hlen : ((inOrder l keys).map fun i => l.getD i []).length = l.length := by
    rw [List.length_map]
    unfold inOrder
    rw [List.length_mergeSort, List.length_range]
  have e0 : mn (mx 0 0) (l.length : Int) = 0 := by unfold mn mx; split <;> split <;> omega
  have e1 : wrap64 ((l.length : Int) - 0) = (l.length : Int) := by rw [w64 (by omega) (by omega)]; omega
  have e2 : mn (mx 1000 0) (l.length : Int) = (l.length : Int) := by unfold mn mx; split <;> split <;> omega
  have e3 : wrap64 ((0 : Int) + (l.length : Int)) = (l.length : Int) := by rw [w64 (by omega) (by omega)]; omega
  have hcut : Ev (fun k => order_Cut.f k l 0 1000) l := by
    unfold order_Cut.f
    rw [e0, e1, e2, e3]
    refine Ev.pos (by omega) (Ev.pos (by omega) (Ev.pos (by omega) ?_))
    rw [Int.toNat_natCast, List.take_length, show ((0 : Int)).toNat = 0 from rfl, List.drop_zero]
    exact Ev.bind (copied_ev l (by omega) hrow) (Ev.val rfl)
  exact Ev.bind (rows_z H) (Ev.bind hcut (Ev.pos (by rw [hlen]; omega) (Ev.bind (same18_ev l (by omega) hrow) (Ev.pos rfl (Ev.val rfl)))))
end Go.Proofs.YtdojgfkcpaeacaaDoor.Pure
