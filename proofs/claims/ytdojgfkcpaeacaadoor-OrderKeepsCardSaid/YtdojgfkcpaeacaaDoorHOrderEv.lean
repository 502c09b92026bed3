/- The printed functions of layer 24, in plain words: awake, rows that are few and small, what is copied, what is the same. -/
import Derived.Test.YtdojgfkcpaeacaaDoorHEvBase
import Derived.Test.YtdojgfkcpaeacaaDoorHOpens
import Derived.Test.YtdojgfkcpaeacaaDoorQx
set_option linter.unusedVariables false
set_option linter.unusedSimpArgs false
namespace Go.Proofs.YtdojgfkcpaeacaaDoor.Pure
open Go.RowKit Go.Proofs.YtdojgfkcpaeacaaDoor.Q Go.Proofs.YtdojgfkcpaeacaaDoorW.PrintWords Go.Proofs.YtdojgfkcpaeacaaDoorW.PrintLast Go.Proofs.YtdojgfkcpaeacaaDoorW.PrintMore
def aw0 : List (List S36) := [[⟨false, ⟨#[98]⟩⟩], [⟨true, ⟨#[]⟩⟩], [⟨false, ⟨#[97]⟩⟩]]
theorem aw_idx : (order_Rows.idx 20 aw0 [⟨0, 0, false⟩]).toList = [1, 2, 0] := by
  unfold order_Rows.idx stableP
  rw [symAll, dif_neg (by decide), insBlocks, dif_neg (by decide)]
  unfold Sort.insertionSort
  rw [Sort.insOuter, if_pos (by decide), Sort.insOuter, if_pos (by decide), Sort.insOuter, if_neg (by decide)]
  kernel_rfl
theorem aw_rows : order_Rows.f 20 aw0 [⟨0, 0, false⟩] = some [[⟨true, ⟨#[]⟩⟩], [⟨false, ⟨#[97]⟩⟩], [⟨false, ⟨#[98]⟩⟩]] := by
  unfold order_Rows.f
  rw [show order_copied.f 20 aw0 = some aw0 by kernel_rfl]
  simp only [Option.bind_some]
  rw [if_pos (show order_Rows.ok 20 aw0 [⟨0, 0, false⟩] = true by kernel_rfl), aw_idx]
  rfl
theorem awake_ev : Ev (fun k => hopperlaw24_awake.f k) true := by
  refine Ev.of (fun k => hopperlaw24_awake.mono k) (k := 20) ?_
  unfold hopperlaw24_awake.f
  simp only [Option.bind_some]
  have h := aw_rows
  unfold aw0 at h
  rw [h]
  simp only [Option.bind_some]
  decide +kernel
/-! ### rows -/
theorem rdL (l : List (List S36)) (i : Nat) (h : i < l.length) : rd_L6 l (i : Int) = l[i] := by simp [rd_L6, List.getD, h]
theorem rd36 (l : List S36) (i : Nat) (h : i < l.length) : rd_T36 l (i : Int) = l[i] := by simp [rd_T36, List.getD, h]
theorem rd39 (l : List S39) (i : Nat) (h : i < l.length) : rd_T39 l (i : Int) = l[i] := by simp [rd_T39, List.getD, h]
def SmallV (v : S36) : Prop := v.f1.size ≤ 100 ∧ (v.f0 = true → v.f1.toList = [])
/-- What the guard says of rows. -/
structure Small (l : List (List S36)) (a : Int) : Prop where
  a1 : 1 ≤ a
  a8 : a ≤ 8
  len : l.length ≤ 100
  row : ∀ r ∈ l, (r.length : Int) = a ∧ ∀ v ∈ r, SmallV v
theorem rows_l1 (l : List (List S36)) (a : Int) (ha : a ≤ 8) (i : Nat) (hi : i < l.length) (hr : (l[i].length : Int) = a)
    (hn : ∃ b, Ev (fun k => hopperref16_Rows.l0 k l a (wrap64 ((i : Int) + 1))) b ∧ (b = true → ∀ r ∈ l.drop (i + 1), (r.length : Int) = a ∧ ∀ v ∈ r, SmallV v)) :
    ∀ (n j : Nat), l[i].length - j = n → j ≤ l[i].length → ∃ b, Ev (fun k => hopperref16_Rows.l1 k l a (i : Int) (j : Int)) b ∧ (b = true → (∀ v ∈ l[i].drop j, SmallV v) ∧ ∀ r ∈ l.drop (i + 1), (r.length : Int) = a ∧ ∀ v ∈ r, SmallV v)
  | 0, j, hj, hjl => by
    obtain ⟨b, h1, h2⟩ := hn
    refine ⟨b, Ev.step (fun k => by rw [hopperref16_Rows.l1]) (Ev.neg (by omega) h1), fun hb => ⟨fun v hv => ?_, h2 hb⟩⟩
    rw [List.drop_of_length_le (by omega)] at hv
    cases hv
  | n + 1, j, hj, hjl => by
    have hlt : j < l[i].length := by omega
    obtain ⟨b, h1, h2⟩ := rows_l1 l a ha i hi hr hn n (j + 1) (by omega) (by omega)
    have e := drop_at l[i] j hlt
    by_cases c1 : ((l[i][j]).f1.size : Int) > 100
    · refine ⟨false, Ev.step (fun k => by rw [hopperref16_Rows.l1]) (Ev.pos (by omega) (Ev.pos (by omega) (Ev.pos (by omega) (Ev.pos (by omega) (Ev.pos (by rw [rdL l i hi]; omega) (Ev.pos (by rw [rdL l i hi, rd36 _ j hlt]; exact c1) (Ev.val rfl))))))), fun hb => by cases hb⟩
    · have go : ∀ (_ : l[i][j].f0 = true → l[i][j].f1.toList = []), (∀ v ∈ l[i].drop (j + 1), SmallV v) → ∀ v ∈ l[i].drop j, SmallV v := fun h3 h4 v hv => by
        rw [e] at hv
        rcases List.mem_cons.1 hv with rfl | hv
        · exact ⟨by omega, h3⟩
        · exact h4 v hv
      have nx : wrap64 ((j : Int) + 1) = ((j + 1 : Nat) : Int) := w64s hlt (by omega)
      by_cases c2 : l[i][j].f0 = true
      · by_cases c3 : l[i][j].f1.toList = []
        · refine ⟨b, Ev.step (fun k => by rw [hopperref16_Rows.l1]) (Ev.pos (by omega) (Ev.pos (by omega) (Ev.pos (by omega) (Ev.pos (by omega) (Ev.pos (by rw [rdL l i hi]; omega) (Ev.neg (by rw [rdL l i hi, rd36 _ j hlt]; exact c1) (Ev.pos (by rw [rdL l i hi, rd36 _ j hlt]; exact c2) (Ev.pos (by rw [rdL l i hi, rd36 _ j hlt]; exact c3) (by rw [nx]; exact h1))))))))), fun hb => ⟨go (fun _ => c3) (h2 hb).1, (h2 hb).2⟩⟩
        · refine ⟨false, Ev.step (fun k => by rw [hopperref16_Rows.l1]) (Ev.pos (by omega) (Ev.pos (by omega) (Ev.pos (by omega) (Ev.pos (by omega) (Ev.pos (by rw [rdL l i hi]; omega) (Ev.neg (by rw [rdL l i hi, rd36 _ j hlt]; exact c1) (Ev.pos (by rw [rdL l i hi, rd36 _ j hlt]; exact c2) (Ev.neg (by rw [rdL l i hi, rd36 _ j hlt]; exact c3) (Ev.val rfl))))))))), fun hb => by cases hb⟩
      · refine ⟨b, Ev.step (fun k => by rw [hopperref16_Rows.l1]) (Ev.pos (by omega) (Ev.pos (by omega) (Ev.pos (by omega) (Ev.pos (by omega) (Ev.pos (by rw [rdL l i hi]; omega) (Ev.neg (by rw [rdL l i hi, rd36 _ j hlt]; exact c1) (Ev.neg (by rw [rdL l i hi, rd36 _ j hlt]; exact c2) (by rw [nx]; exact h1)))))))), fun hb => ⟨go (fun h => absurd h c2) (h2 hb).1, (h2 hb).2⟩⟩
theorem rows_l0 (l : List (List S36)) (a : Int) (ha : a ≤ 8) (hl : l.length ≤ 100) : ∀ (n i : Nat), l.length - i = n → i ≤ l.length → ∃ b, Ev (fun k => hopperref16_Rows.l0 k l a (i : Int)) b ∧ (b = true → ∀ r ∈ l.drop i, (r.length : Int) = a ∧ ∀ v ∈ r, SmallV v)
  | 0, i, hi, hil => by
    refine ⟨true, Ev.step (fun k => by rw [hopperref16_Rows.l0]) (Ev.neg (by omega) (Ev.val rfl)), fun _ r hr => ?_⟩
    rw [List.drop_of_length_le (by omega)] at hr
    cases hr
  | n + 1, i, hi, hil => by
    have hlt : i < l.length := by omega
    have ih := rows_l0 l a ha hl n (i + 1) (by omega) (by omega)
    have nx : wrap64 ((i : Int) + 1) = ((i + 1 : Nat) : Int) := w64s hlt (by omega)
    rw [← nx] at ih
    by_cases c : (l[i].length : Int) = a
    · obtain ⟨b, h1, h2⟩ := rows_l1 l a ha i hlt c ih _ 0 rfl (Nat.zero_le _)
      have h1' : Ev (fun k => hopperref16_Rows.l1 k l a (i : Int) 0) b := h1
      refine ⟨b, ?_, fun hb r hr => ?_⟩
      · refine Ev.step (fun k => by rw [hopperref16_Rows.l0]) ?_
        refine Ev.pos (by omega) ?_
        refine Ev.pos (by omega) ?_
        exact Ev.pos (by rw [rdL l i hlt]; exact c) h1'
      rw [drop_at l i hlt] at hr
      rcases List.mem_cons.1 hr with rfl | hr
      · exact ⟨c, (h2 hb).1⟩
      · exact (h2 hb).2 r hr
    · exact ⟨false, Ev.step (fun k => by rw [hopperref16_Rows.l0]) (Ev.pos (by omega) (Ev.pos (by omega) (Ev.neg (by rw [rdL l i hlt]; exact c) (Ev.val rfl)))), fun hb => by cases hb⟩
theorem rows_ev (l : List (List S36)) (a : Int) : ∃ b, Ev (fun k => hopperref16_Rows.f k l a) b ∧ (b = true → Small l a) := by
  have bad : Ev (fun k => hopperref16_Rows.j0 k l a true) false := Ev.step (fun k => by rw [hopperref16_Rows.j0]) (Ev.pos rfl (Ev.val rfl))
  unfold hopperref16_Rows.f
  by_cases c1 : a < 1
  · exact ⟨false, Ev.pos c1 bad, fun h => by cases h⟩
  by_cases c2 : a > 8
  · exact ⟨false, Ev.neg c1 (Ev.pos c2 bad), fun h => by cases h⟩
  by_cases c3 : (l.length : Int) > 100
  · exact ⟨false, Ev.neg c1 (Ev.neg c2 (by rw [decide_eq_true c3]; exact bad)), fun h => by cases h⟩
  obtain ⟨b, h1, h2⟩ := rows_l0 l a (by omega) (by omega) _ 0 rfl (Nat.zero_le _)
  refine ⟨b, Ev.neg c1 (Ev.neg c2 ?_), fun h => ⟨by omega, by omega, by omega, by simpa using h2 h⟩⟩
  rw [decide_eq_false c3]
  have h1' : Ev (fun k => hopperref16_Rows.l0 k l a 0) b := h1
  refine Ev.step (fun k => by rw [hopperref16_Rows.j0]) ?_
  exact Ev.neg (by simp) h1'
/-! ### what is the same -/
theorem same17_l0 (l : List S36) (hl : l.length ≤ 1000) : ∀ (n i : Nat), l.length - i = n → i ≤ l.length → Ev (fun k => hopperref17_Same.l0 k l l (i : Int)) true
  | 0, i, hi, hil => Ev.step (fun k => by rw [hopperref17_Same.l0]) (Ev.neg (by omega) (Ev.val rfl))
  | n + 1, i, hi, hil => by
    have hlt : i < l.length := by omega
    refine Ev.step (fun k => by rw [hopperref17_Same.l0]) (Ev.pos (by omega) (Ev.pos (by omega) (Ev.pos (by omega) (Ev.neg (by simp) ?_))))
    rw [w64s hlt (by omega)]
    exact same17_l0 l hl n (i + 1) (by omega) (by omega)
theorem same17_ev (l : List S36) (hl : l.length ≤ 1000) : Ev (fun k => hopperref17_Same.f k l l) true := by
  unfold hopperref17_Same.f
  exact Ev.pos rfl (same17_l0 l hl _ 0 rfl (Nat.zero_le _))
theorem same18_l0 (l : List (List S36)) (hl : l.length ≤ 1000) (hr : ∀ r ∈ l, r.length ≤ 1000) : ∀ (n i : Nat), l.length - i = n → i ≤ l.length → Ev (fun k => hopperref18_Same.l0 k l l (i : Int)) true
  | 0, i, hi, hil => Ev.step (fun k => by rw [hopperref18_Same.l0]) (Ev.neg (by omega) (Ev.val rfl))
  | n + 1, i, hi, hil => by
    have hlt : i < l.length := by omega
    refine Ev.step (fun k => by rw [hopperref18_Same.l0]) (Ev.pos (by omega) (Ev.pos (by omega) (Ev.pos (by omega) (Ev.bind (a := true) ?_ (Ev.pos rfl ?_)))))
    · rw [rdL l i hlt]
      exact same17_ev _ (hr _ (List.getElem_mem hlt))
    · rw [w64s hlt (by omega)]
      exact same18_l0 l hl hr n (i + 1) (by omega) (by omega)
theorem same18_ev (l : List (List S36)) (hl : l.length ≤ 1000) (hr : ∀ r ∈ l, r.length ≤ 1000) : Ev (fun k => hopperref18_Same.f k l l) true := by
  unfold hopperref18_Same.f
  exact Ev.pos rfl (same18_l0 l hl hr _ 0 rfl (Nat.zero_le _))
/-! ### what is copied -/
theorem copied_l0 (l : List (List S36)) (hl : l.length ≤ 1000) (hr : ∀ r ∈ l, r.length ≤ 1000) : ∀ (n i : Nat), l.length - i = n → i ≤ l.length → Ev (fun k => order_copied.l0 k (l.take i) l (l.length : Int) (i : Int)) l
  | 0, i, hi, hil => Ev.step (fun k => by rw [order_copied.l0]) (Ev.neg (by omega) (Ev.val (List.take_of_length_le (by omega))))
  | n + 1, i, hi, hil => by
    have hlt : i < l.length := by omega
    have h2 := hr _ (List.getElem_mem hlt)
    refine Ev.step (fun k => by rw [order_copied.l0]) ?_
    refine Ev.pos (by omega) ?_
    refine Ev.pos (by omega) ?_
    refine Ev.pos (by omega) ?_
    refine Ev.bind (a := l[i]) (Ev.c ?_) ?_
    · rw [rdL l i hlt]
      unfold api_Val.f
      rw [if_pos (by omega)]
    · refine Ev.pos (by rw [List.length_take]; omega) ?_
      rw [w64s hlt (by omega), ← List.take_succ_eq_append_getElem hlt]
      exact copied_l0 l hl hr n (i + 1) (by omega) (by omega)
theorem copied_ev (l : List (List S36)) (hl : l.length ≤ 1000) (hr : ∀ r ∈ l, r.length ≤ 1000) : Ev (fun k => order_copied.f k l) l := by
  unfold order_copied.f
  exact copied_l0 l hl hr _ 0 rfl (Nat.zero_le _)
/-! ### right keys -/
theorem right_l0 (l : List S39) (a : Int) (hl : l.length ≤ 9223372036854775807) : ∀ (n i : Nat), l.length - i = n → i ≤ l.length → Ev (fun k => hopperref24_Right.l0 k l a (i : Int)) (decide ((l.length : Int) ≤ 8) && !((l.drop i).any (keyWrong a)))
  | 0, i, hi, hil => Ev.step (fun k => by rw [hopperref24_Right.l0]) (Ev.neg (by omega) (Ev.val (by rw [List.drop_of_length_le (by omega)]; simp)))
  | n + 1, i, hi, hil => by
    have hlt : i < l.length := by omega
    have ih := right_l0 l a hl n (i + 1) (by omega) (by omega)
    have e := drop_at l i hlt
    have hw : (l.drop i).any (keyWrong a) = (keyWrong a l[i] || (l.drop (i + 1)).any (keyWrong a)) := by rw [e]; rfl
    rw [hw]
    refine Ev.step (fun k => by rw [hopperref24_Right.l0]) ?_
    refine Ev.pos (by omega) ?_
    refine Ev.pos (by omega) ?_
    rw [rd39 l i hlt]
    by_cases c0 : l[i].f0 < 0
    · exact Ev.pos c0 (Ev.val (by simp [keyWrong, c0]))
    refine Ev.neg c0 ?_
    by_cases c1 : l[i].f0 ≥ a
    · exact Ev.pos c1 (Ev.val (by simp [keyWrong, show a ≤ l[i].f0 from c1]))
    refine Ev.neg c1 ?_
    by_cases c2 : l[i].f1 < 0
    · exact Ev.pos c2 (Ev.val (by simp [keyWrong, c2]))
    refine Ev.neg c2 ?_
    by_cases c3 : l[i].f1 > 2
    · exact Ev.pos c3 (Ev.val (by simp [keyWrong, show 2 < l[i].f1 from c3]))
    refine Ev.neg c3 ?_
    rw [w64s hlt (by omega)]
    refine Ev.eq ih ?_
    have : keyWrong a l[i] = false := by
      unfold keyWrong
      rw [decide_eq_false c0, decide_eq_false (show ¬ a ≤ l[i].f0 from c1), decide_eq_false c2, decide_eq_false (show ¬ 2 < l[i].f1 from c3)]
      rfl
    rw [this, Bool.false_or]
end Go.Proofs.YtdojgfkcpaeacaaDoor.Pure
