/- Of whatever rows and right keys: in order; how each two compare. No condition. -/
import Derived.Test.YtdojgfkcpaeacaaDoorHOrderRef
set_option linter.unusedVariables false
set_option linter.unusedSimpArgs false
namespace Go.Proofs.YtdojgfkcpaeacaaDoor.Pure
open Go.RowKit Go.Proofs.YtdojgfkcpaeacaaDoor.Q Go.Proofs.YtdojgfkcpaeacaaDoorW.PrintWords Go.Proofs.YtdojgfkcpaeacaaDoorW.PrintLast Go.Proofs.YtdojgfkcpaeacaaDoorW.PrintMore
theorem right_fit (keys : List S39) (a : Int) (h : (decide ((keys.length : Int) ≤ 8) && !(keys.any (keyWrong a))) = true) : keys.length ≤ 8 ∧ ∀ x ∈ keys, 0 ≤ x.f0 ∧ x.f0 < a := by
  rw [Bool.and_eq_true] at h
  obtain ⟨h1, h2⟩ := h
  have h1 := of_decide_eq_true h1
  refine ⟨by omega, fun x hx => ?_⟩
  simp only [Bool.not_eq_true', List.any_eq_false] at h2
  have := h2 x hx
  unfold keyWrong at this
  simp only [Bool.or_eq_true, decide_eq_true_eq, not_or] at this
  omega
theorem OrderRows : hopperlaw24_OrderRows.Pure := by
  intro l a keys hl ha hk
  refine Ev.rounds ?_
  unfold hopperlaw24_OrderRows.f
  have bad : Ev (fun k => hopperlaw24_OrderRows.j0 k l keys true) true := Ev.step (fun k => by rw [hopperlaw24_OrderRows.j0]) (Ev.pos rfl (Ev.bind awake_ev (Ev.val rfl)))
  refine Ev.bind awake_ev (Ev.pos rfl ?_)
  obtain ⟨b, hb, hS⟩ := rows_ev l a
  refine Ev.bind hb ?_
  cases b with
  | false => exact Ev.neg (by decide) bad
  | true =>
  refine Ev.pos rfl ?_
  have hS := hS rfl
  have hR : Ev (fun k => hopperref24_Right.f k keys a) (decide ((keys.length : Int) ≤ 8) && !(keys.any (keyWrong a))) := right_l0 keys a (Nat.le_trans hk.1 (by decide)) _ 0 rfl (Nat.zero_le _)
  refine Ev.bind hR ?_
  cases hc : (decide ((keys.length : Int) ≤ 8) && !(keys.any (keyWrong a))) with
  | false => exact bad
  | true =>
  have H : Rowsy l keys a := ⟨hS, right_fit keys a hc⟩
  refine Ev.step (fun k => by rw [hopperlaw24_OrderRows.j0]) (Ev.neg (by decide) ?_)
  have hn := hS.len
  have g : ∀ i (hi : i < l.length), l.getD i [] = l[i] := fun i hi => by rw [List.getD_eq_getElem?_getD, List.getElem?_eq_getElem hi]; rfl
  have last : Ev (fun k => (order_Rows.f k l keys).bind fun t257 => ((hopperref24_Rows.f k l keys).bind fun t260 => ((hopperref18_Same.f k t257 t260).bind fun t263 => (some t263)))) true := by
    refine Ev.bind (rows_z H) (Ev.bind (rrows_z H) (Ev.bind (same18_ev _ ?_ ?_) (Ev.val rfl)))
    · rw [List.length_map]
      unfold inOrder
      rw [List.length_mergeSort, List.length_range]; omega
    · intro r hr
      obtain ⟨i, hi, rfl⟩ := List.mem_map.1 hr
      have : i < l.length := by
        unfold inOrder at hi
        exact List.mem_range.1 ((List.mergeSort_perm _ _).mem_iff.1 hi)
      have := (H.at_ i this).2.1
      have := hS.a8
      omega
  have loop : ∀ (n i : Nat), l.length - i = n → 1 ≤ i → Ev (fun k => hopperlaw24_OrderRows.l0 k l keys (i : Int)) true := by
    intro n
    induction n with
    | zero =>
      intro i hi h1
      exact Ev.step (fun k => by rw [hopperlaw24_OrderRows.l0]) (Ev.neg (by omega) last)
    | succ n ih =>
      intro i hi h1
      have hlt : i < l.length := by omega
      have next := ih (i + 1) (by omega) (by omega)
      rw [← w64s hlt (by omega)] at next
      have hw := w64p (k := i) (by omega) (by omega)
      obtain ⟨x1, x2⟩ := H.cmp (i - 1) i (by omega) hlt
      obtain ⟨x3, x4⟩ := H.cmp 0 i (by omega) hlt
      rw [g _ (by omega), g _ hlt] at x1 x2 x3 x4
      have r0 := rdL l 0 (by omega)
      refine Ev.step (fun k => by rw [hopperlaw24_OrderRows.l0]) ?_
      rw [hw, rdL l (i - 1) (by omega), rdL l i hlt]
      rw [show rd_L6 l 0 = l[0]'(by omega) from r0]
      exact Ev.pos (by omega) (Ev.pos (by omega) (Ev.pos (by omega) (Ev.pos (by omega) (Ev.bind x1 (Ev.bind x2 (Ev.pos rfl (Ev.pos (by omega) (Ev.bind x3 (Ev.bind x4 (Ev.pos rfl next))))))))))
  exact loop _ 1 rfl (Nat.le_refl _)
end Go.Proofs.YtdojgfkcpaeacaaDoor.Pure
