/- Rows that are few and small: the reference's guard. -/
import Derived.Test.YtdccooaddoafnaaGreatDoorHEvBase
import Derived.Test.YtdccooaddoafnaaGreatDoorQx
set_option linter.unusedVariables false
set_option linter.unusedSimpArgs false
namespace Go.Proofs.YtdccooaddoafnaaGreatDoor.Pure
open Go.RowKit Go.Proofs.YtdccooaddoafnaaGreatDoor.Q Go.Proofs.YtdccooaddoafnaaGreatDoorW.PrintWords Go.Proofs.YtdccooaddoafnaaGreatDoorW.PrintLast Go.Proofs.YtdccooaddoafnaaGreatDoorW.PrintMore
theorem rdL (l : List (List S38)) (i : Nat) (h : i < l.length) : rd_L7 l (i : Int) = l[i] := by simp [rd_L7, List.getD, h]
theorem rd36 (l : List S38) (i : Nat) (h : i < l.length) : rd_T38 l (i : Int) = l[i] := by simp [rd_T38, List.getD, h]
def SmallV (v : S38) : Prop := v.f1.size ≤ 100 ∧ (v.f0 = true → v.f1.toList = [])
/-- What the guard says of rows. -/
structure Small (l : List (List S38)) (a : Int) : Prop where
  a1 : 1 ≤ a
  a8 : a ≤ 8
  len : l.length ≤ 100
  row : ∀ r ∈ l, (r.length : Int) = a ∧ ∀ v ∈ r, SmallV v
theorem rows_l1 (l : List (List S38)) (a : Int) (ha : a ≤ 8) (i : Nat) (hi : i < l.length) (hr : (l[i].length : Int) = a)
    (hn : ∃ b, Ev (fun k => hopperref16_Rows.l0 k l a (wrap64 ((i : Int) + 1))) b ∧ (b = true → ∀ r ∈ l.drop (i + 1), (r.length : Int) = a ∧ ∀ v ∈ r, SmallV v)) :
    ∀ (n j : Nat), l[i].length - j = n → j ≤ l[i].length → ∃ b, Ev (fun k => hopperref16_Rows.l1 k l a (i : Int) (j : Int)) b ∧ (b = true → (∀ v ∈ l[i].drop j, SmallV v) ∧ ∀ r ∈ l.drop (i + 1), (r.length : Int) = a ∧ ∀ v ∈ r, SmallV v)
  | 0, j, hj, hjl => by
    obtain ⟨b, h1, h2⟩ := hn
    refine ⟨b, Ev.step (fun k => by rw [hopperref16_Rows.l1]) (Ev.neg (by omega) h1), fun hb => ⟨fun v hv => ?_, h2 hb⟩⟩
    rw [List.drop_of_length_le (by omega)] at hv
    cases hv
  | n + 1, j, hj, hjl => by
    have hlt : j < l[i].length := by omega
    obtain ⟨b, h1, h2⟩ := rows_l1 l a ha i hi hr hn n (j + 1) (by omega) (by omega)
    have e := drop_at l[i] j hlt
    by_cases c1 : ((l[i][j]).f1.size : Int) > 100
    · refine ⟨false, Ev.step (fun k => by rw [hopperref16_Rows.l1]) (Ev.pos (by omega) (Ev.pos (by omega) (Ev.pos (by omega) (Ev.pos (by omega) (Ev.pos (by rw [rdL l i hi]; omega) (Ev.pos (by rw [rdL l i hi, rd36 _ j hlt]; exact c1) (Ev.val rfl))))))), fun hb => by cases hb⟩
    · have go : ∀ (_ : l[i][j].f0 = true → l[i][j].f1.toList = []), (∀ v ∈ l[i].drop (j + 1), SmallV v) → ∀ v ∈ l[i].drop j, SmallV v := fun h3 h4 v hv => by
        rw [e] at hv
        rcases List.mem_cons.1 hv with rfl | hv
        · exact ⟨by omega, h3⟩
        · exact h4 v hv
      have nx : wrap64 ((j : Int) + 1) = ((j + 1 : Nat) : Int) := w64s hlt (by omega)
      by_cases c2 : l[i][j].f0 = true
      · by_cases c3 : l[i][j].f1.toList = []
        · refine ⟨b, Ev.step (fun k => by rw [hopperref16_Rows.l1]) (Ev.pos (by omega) (Ev.pos (by omega) (Ev.pos (by omega) (Ev.pos (by omega) (Ev.pos (by rw [rdL l i hi]; omega) (Ev.neg (by rw [rdL l i hi, rd36 _ j hlt]; exact c1) (Ev.pos (by rw [rdL l i hi, rd36 _ j hlt]; exact c2) (Ev.pos (by rw [rdL l i hi, rd36 _ j hlt]; exact c3) (by rw [nx]; exact h1))))))))), fun hb => ⟨go (fun _ => c3) (h2 hb).1, (h2 hb).2⟩⟩
        · refine ⟨false, Ev.step (fun k => by rw [hopperref16_Rows.l1]) (Ev.pos (by omega) (Ev.pos (by omega) (Ev.pos (by omega) (Ev.pos (by omega) (Ev.pos (by rw [rdL l i hi]; omega) (Ev.neg (by rw [rdL l i hi, rd36 _ j hlt]; exact c1) (Ev.pos (by rw [rdL l i hi, rd36 _ j hlt]; exact c2) (Ev.neg (by rw [rdL l i hi, rd36 _ j hlt]; exact c3) (Ev.val rfl))))))))), fun hb => by cases hb⟩
      · refine ⟨b, Ev.step (fun k => by rw [hopperref16_Rows.l1]) (Ev.pos (by omega) (Ev.pos (by omega) (Ev.pos (by omega) (Ev.pos (by omega) (Ev.pos (by rw [rdL l i hi]; omega) (Ev.neg (by rw [rdL l i hi, rd36 _ j hlt]; exact c1) (Ev.neg (by rw [rdL l i hi, rd36 _ j hlt]; exact c2) (by rw [nx]; exact h1)))))))), fun hb => ⟨go (fun h => absurd h c2) (h2 hb).1, (h2 hb).2⟩⟩
theorem rows_l0 (l : List (List S38)) (a : Int) (ha : a ≤ 8) (hl : l.length ≤ 100) : ∀ (n i : Nat), l.length - i = n → i ≤ l.length → ∃ b, Ev (fun k => hopperref16_Rows.l0 k l a (i : Int)) b ∧ (b = true → ∀ r ∈ l.drop i, (r.length : Int) = a ∧ ∀ v ∈ r, SmallV v)
  | 0, i, hi, hil => by
    refine ⟨true, Ev.step (fun k => by rw [hopperref16_Rows.l0]) (Ev.neg (by omega) (Ev.val rfl)), fun _ r hr => ?_⟩
    rw [List.drop_of_length_le (by omega)] at hr
    cases hr
  | n + 1, i, hi, hil => by
    have hlt : i < l.length := by omega
    have ih := rows_l0 l a ha hl n (i + 1) (by omega) (by omega)
    have nx : wrap64 ((i : Int) + 1) = ((i + 1 : Nat) : Int) := w64s hlt (by omega)
    rw [← nx] at ih
    by_cases c : (l[i].length : Int) = a
    · obtain ⟨b, h1, h2⟩ := rows_l1 l a ha i hlt c ih _ 0 rfl (Nat.zero_le _)
      have h1' : Ev (fun k => hopperref16_Rows.l1 k l a (i : Int) 0) b := h1
      refine ⟨b, ?_, fun hb r hr => ?_⟩
      · refine Ev.step (fun k => by rw [hopperref16_Rows.l0]) ?_
        refine Ev.pos (by omega) ?_
        refine Ev.pos (by omega) ?_
        exact Ev.pos (by rw [rdL l i hlt]; exact c) h1'
      rw [drop_at l i hlt] at hr
      rcases List.mem_cons.1 hr with rfl | hr
      · exact ⟨c, (h2 hb).1⟩
      · exact (h2 hb).2 r hr
    · exact ⟨false, Ev.step (fun k => by rw [hopperref16_Rows.l0]) (Ev.pos (by omega) (Ev.pos (by omega) (Ev.neg (by rw [rdL l i hlt]; exact c) (Ev.val rfl)))), fun hb => by cases hb⟩
theorem rows_ev (l : List (List S38)) (a : Int) : ∃ b, Ev (fun k => hopperref16_Rows.f k l a) b ∧ (b = true → Small l a) := by
  have bad : Ev (fun k => hopperref16_Rows.j0 k l a true) false := Ev.step (fun k => by rw [hopperref16_Rows.j0]) (Ev.pos rfl (Ev.val rfl))
  unfold hopperref16_Rows.f
  by_cases c1 : a < 1
  · exact ⟨false, Ev.pos c1 bad, fun h => by cases h⟩
  by_cases c2 : a > 8
  · exact ⟨false, Ev.neg c1 (Ev.pos c2 bad), fun h => by cases h⟩
  by_cases c3 : (l.length : Int) > 100
  · exact ⟨false, Ev.neg c1 (Ev.neg c2 (by rw [decide_eq_true c3]; exact bad)), fun h => by cases h⟩
  obtain ⟨b, h1, h2⟩ := rows_l0 l a (by omega) (by omega) _ 0 rfl (Nat.zero_le _)
  refine ⟨b, Ev.neg c1 (Ev.neg c2 ?_), fun h => ⟨by omega, by omega, by omega, by simpa using h2 h⟩⟩
  rw [decide_eq_false c3]
  have h1' : Ev (fun k => hopperref16_Rows.l0 k l a 0) b := h1
  refine Ev.step (fun k => by rw [hopperref16_Rows.j0]) ?_
  exact Ev.neg (by simp) h1'
/-! ### what is the same -/
end Go.Proofs.YtdccooaddoafnaaGreatDoor.Pure
