/- Of whatever rows and numbers order.Cut cuts out what the reference does. No condition. -/
import Derived.Test.YtdojgfkcpaeacaaDoorHOrderEv
set_option linter.unusedVariables false
set_option linter.unusedSimpArgs false
namespace Go.Proofs.YtdojgfkcpaeacaaDoor.Pure
open Go.RowKit Go.Proofs.YtdojgfkcpaeacaaDoor.Q Go.Proofs.YtdojgfkcpaeacaaDoorW.PrintWords Go.Proofs.YtdojgfkcpaeacaaDoorW.PrintLast Go.Proofs.YtdojgfkcpaeacaaDoorW.PrintMore
def cutG (l : List (List S36)) (F N i : Nat) : List (List S36) := ((l.take i).drop F).take N
theorem cutG_len (l : List (List S36)) (F N i : Nat) (hi : i ≤ l.length) : (cutG l F N i).length = min N (i - F) := by
  unfold cutG
  rw [List.length_take, List.length_drop, List.length_take]
  omega
theorem cutG_in (l : List (List S36)) (F N i : Nat) (hi : i < l.length) (hF : F ≤ i) (hN : i - F < N) : cutG l F N (i + 1) = cutG l F N i ++ [l[i]] := by
  unfold cutG
  have hd : ((l.take i).drop F).length = i - F := by rw [List.length_drop, List.length_take]; omega
  have h1 : (l.take (i + 1)).drop F = (l.take i).drop F ++ [l[i]] := by
    rw [List.take_succ_eq_append_getElem hi, List.drop_append_of_le_length (by rw [List.length_take]; omega)]
  rw [h1]
  generalize (l.take i).drop F = z at hd
  rw [List.take_of_length_le (l := z ++ [l[i]]) (by rw [List.length_append, hd]; simp; omega), List.take_of_length_le (l := z) (by omega)]
theorem cutG_out (l : List (List S36)) (F N i : Nat) (hi : i < l.length) (h : i < F ∨ N ≤ i - F) : cutG l F N (i + 1) = cutG l F N i := by
  unfold cutG
  by_cases hF : i < F
  · rw [List.drop_of_length_le (by rw [List.length_take]; omega), List.drop_of_length_le (by rw [List.length_take]; omega)]
  · rw [List.take_succ_eq_append_getElem hi, List.drop_append_of_le_length (by rw [List.length_take]; omega), List.take_append_of_le_length (by rw [List.length_drop, List.length_take]; omega)]
theorem rcut_l0 (l : List (List S36)) (a b : Int) (hl : l.length ≤ 100) : ∀ (n i : Nat), l.length - i = n → i ≤ l.length → Ev (fun k => hopperref24_Cut.l0 k l a b (cutG l a.toNat b.toNat i) (i : Int)) (cutG l a.toNat b.toNat l.length)
  | 0, i, hi, hil => Ev.step (fun k => by rw [hopperref24_Cut.l0]) (Ev.neg (by omega) (Ev.val (by rw [show i = l.length by omega])))
  | n + 1, i, hi, hil => by
    have hlt : i < l.length := by omega
    have ih := rcut_l0 l a b hl n (i + 1) (by omega) (by omega)
    have hg := cutG_len l a.toNat b.toNat i hil
    have nx : wrap64 ((i : Int) + 1) = ((i + 1 : Nat) : Int) := w64s hlt (by omega)
    refine Ev.step (fun k => by rw [hopperref24_Cut.l0]) ?_
    refine Ev.pos (by omega) ?_
    by_cases c0 : (i : Int) ≥ a
    · refine Ev.pos c0 ?_
      by_cases c1 : ((cutG l a.toNat b.toNat i).length : Int) < b
      · refine Ev.pos c1 ?_
        refine Ev.pos (by omega) ?_
        refine Ev.pos (by omega) ?_
        rw [rdL l i hlt, nx, ← cutG_in l a.toNat b.toNat i hlt (by omega) (by omega)]
        exact ih
      · refine Ev.neg c1 ?_
        rw [nx, ← cutG_out l a.toNat b.toNat i hlt (by omega)]
        exact ih
    · refine Ev.neg c0 ?_
      rw [nx, ← cutG_out l a.toNat b.toNat i hlt (by omega)]
      exact ih
theorem cuts_eq (l : List (List S36)) (F N f c : Nat) (hf : f = min F l.length) (hc : c = min N (l.length - f)) : (l.take (f + c)).drop f = cutG l F N l.length := by
  unfold cutG
  rw [List.take_length]
  apply List.ext_getElem?
  intro j
  rw [List.getElem?_drop, List.getElem?_take, List.getElem?_take, List.getElem?_drop]
  by_cases h : j < c
  · rw [if_pos (by omega), if_pos (by omega), show f + j = F + j by omega]
  · rw [if_neg (by omega)]
    split
    · rw [List.getElem?_eq_none (by omega)]
    · rfl
theorem OrderCuts : hopperlaw24_OrderCuts.Pure := by
  intro l n a b hl hn ha hb
  refine Ev.rounds ?_
  unfold hopperlaw24_OrderCuts.f
  refine Ev.bind awake_ev ?_
  refine Ev.pos rfl ?_
  obtain ⟨g, hg, hs⟩ := rows_ev l n
  refine Ev.bind hg ?_
  cases g with
  | false =>
    refine Ev.step (fun k => by rw [hopperlaw24_OrderCuts.j0]) ?_
    refine Ev.pos rfl ?_
    exact Ev.bind awake_ev (Ev.val rfl)
  | true =>
    have S := hs rfl
    have hlen := S.len
    refine Ev.step (fun k => by rw [hopperlaw24_OrderCuts.j0]) ?_
    refine Ev.neg (by simp) ?_
    obtain ⟨f, hf⟩ : ∃ f : Nat, f = min a.toNat l.length := ⟨_, rfl⟩
    obtain ⟨c, hc⟩ : ∃ c : Nat, c = min b.toNat (l.length - f) := ⟨_, rfl⟩
    have ef : mn (mx a 0) (l.length : Int) = (f : Int) := by unfold mn mx; split <;> split <;> omega
    have ew : wrap64 ((l.length : Int) - (f : Int)) = ((l.length - f : Nat) : Int) := by rw [w64 (by omega) (by omega)]; omega
    have ec : mn (mx b 0) ((l.length - f : Nat) : Int) = (c : Int) := by unfold mn mx; split <;> split <;> omega
    have es : wrap64 ((f : Int) + (c : Int)) = ((f + c : Nat) : Int) := by rw [w64 (by omega) (by omega)]; omega
    have hG := cuts_eq l a.toNat b.toNat f c hf hc
    have hrow : ∀ r ∈ cutG l a.toNat b.toNat l.length, r.length ≤ 1000 := fun r hr => by
      have h1 : r ∈ l := by
        unfold cutG at hr
        rw [List.take_length] at hr
        exact List.mem_of_mem_drop (List.mem_of_mem_take hr)
      have := (S.row r h1).1
      have := S.a8
      omega
    have hGl : (cutG l a.toNat b.toNat l.length).length ≤ 1000 := by rw [cutG_len _ _ _ _ (Nat.le_refl _)]; omega
    refine Ev.bind (a := cutG l a.toNat b.toNat l.length) ?_ ?_
    · unfold order_Cut.f
      rw [ef, ew, ec, es]
      refine Ev.pos (by omega) ?_
      refine Ev.pos (by omega) ?_
      refine Ev.pos (by omega) ?_
      rw [show ((f + c : Nat) : Int).toNat = f + c by omega, show (f : Int).toNat = f by omega, hG]
      exact Ev.bind (copied_ev _ hGl hrow) (Ev.val rfl)
    refine Ev.bind (a := cutG l a.toNat b.toNat l.length) ?_ ?_
    · unfold hopperref24_Cut.f
      have := rcut_l0 l a b hlen _ 0 rfl (Nat.zero_le _)
      rw [show cutG l a.toNat b.toNat 0 = [] by simp [cutG]] at this
      exact this
    exact Ev.bind (same18_ev _ hGl hrow) (Ev.val rfl)
end Go.Proofs.YtdojgfkcpaeacaaDoor.Pure
