/- plan.Cols answers as the reference does: the kinds' own rights, and the walk down. -/
import Derived.Test.YtomccmodlkdcbaaHRightEv
set_option linter.unusedVariables false
set_option linter.unusedSimpArgs false
namespace Go.Proofs.Ytomccmodlkdcbaa.Pure
open Go.RowKit Go.Proofs.Ytomccmodlkdcbaa.Q Go.Proofs.YtomccmodlkdcbaaW.PrintWords Go.Proofs.YtomccmodlkdcbaaW.PrintLast Go.Proofs.YtomccmodlkdcbaaW.PrintMore
theorem ff_ : ¬ (false = true) := by decide
theorem tf2_ : ¬ (true = false) := by decide
theorem any_some {α : Type} (g : α → Bool) : ∀ l : List α, anyE (fun c => some (g c)) l = some (l.any g)
  | [] => rfl
  | x :: xs => by
    simp only [anyE, Option.bind_some, List.any_cons]
    cases h : g x with
    | true => simp
    | false => simp [any_some g xs]
theorem rd72 (l : List S72) (i : Nat) (h : i < l.length) : rd_T72 l (i : Int) = l[i] := by simp [rd_T72, List.getD, h]
theorem rd52 (l : List S52) (i : Nat) (h : i < l.length) : rd_T52 l (i : Int) = l[i] := by simp [rd_T52, List.getD, h]
theorem aggBad_iff (n : Int) (a : S72) : aggBad n a = true ↔ (a.f0 < 1 ∨ 5 < a.f0 ∨ (a.f0 = 1 ∧ a.f1 ≠ 0) ∨ (a.f0 ≠ 1 ∧ ¬ (0 ≤ a.f1 ∧ a.f1 < n))) := by
  unfold aggBad colB
  simp only [Bool.or_eq_true, bne_iff_ne, ne_eq, Bool.not_eq_true', decide_eq_true_eq, Bool.and_eq_true, beq_iff_eq, Bool.and_eq_false_iff, decide_eq_false_iff_not]
  omega
theorem agg_l1 (l : List S72) (n : Int) (hl : l.length ≤ 1000) : ∀ (d i : Nat), l.length - i = d → Ev (fun k => hopperref22_Right.l1 k l n (i : Int)) (!((l.drop i).any (aggBad n))) := by
  intro d
  induction d with
  | zero =>
    intro i hd
    rw [List.drop_eq_nil_of_le (by omega), List.any_nil, Bool.not_false]
    exact Ev.step (fun k => by rw [hopperref22_Right.l1]) (Ev.neg (by omega) (Ev.val rfl))
  | succ d ih =>
    intro i hd
    have hi : i < l.length := by omega
    have next := ih (i + 1) (by omega)
    rw [← w64s hi (by omega)] at next
    refine Ev.step (fun k => by rw [hopperref22_Right.l1]) (Ev.pos (by omega) (Ev.pos (by omega) ?_))
    rw [rd72 l i hi, drop_at l i hi, List.any_cons]
    cases hb : aggBad n l[i] with
    | true =>
      simp only [Bool.true_or, Bool.not_true]
      by_cases c1 : l[i].f0 < 1
      · exact Ev.pos c1 (Ev.val rfl)
      refine Ev.neg c1 ?_
      by_cases c2 : l[i].f0 > 5
      · exact Ev.pos c2 (Ev.val rfl)
      refine Ev.neg c2 ?_
      have := (aggBad_iff n l[i]).1 hb
      by_cases c3 : l[i].f0 = 1
      · exact Ev.pos c3 (Ev.neg (by omega) (Ev.val rfl))
      · refine Ev.neg c3 (Ev.pos (by omega) ?_)
        by_cases c4 : l[i].f1 < 0
        · exact Ev.pos c4 (Ev.val rfl)
        · exact Ev.neg c4 (Ev.pos (by omega) (Ev.val rfl))
    | false =>
      simp only [Bool.false_or]
      have := mt (aggBad_iff n l[i]).2 (by rw [hb]; exact ff_)
      refine Ev.neg (by omega) (Ev.neg (by omega) ?_)
      by_cases c3 : l[i].f0 = 1
      · exact Ev.pos c3 (Ev.pos (by omega) (Ev.neg (by omega) next))
      · exact Ev.neg c3 (Ev.pos (by omega) (Ev.neg (by omega) (Ev.neg (by omega) next)))
theorem grp_l0 (l : List Int) (m : List S72) (n : Int) (hl : l.length ≤ 1000) (hm : m.length ≤ 1000) : ∀ (d i : Nat), l.length - i = d → Ev (fun k => hopperref22_Right.l0 k l m n (i : Int)) (if (l.drop i).any (fun c => !colB n c) = true then false else !(m.any (aggBad n))) := by
  intro d
  induction d with
  | zero =>
    intro i hd
    rw [List.drop_eq_nil_of_le (by omega), List.any_nil, if_neg ff_]
    have this : Ev (fun k => hopperref22_Right.l1 k m n 0) (!((m.drop 0).any (aggBad n))) := agg_l1 m n hm _ 0 rfl
    rw [List.drop_zero] at this
    exact Ev.step (fun k => by rw [hopperref22_Right.l0]) (Ev.neg (by omega) this)
  | succ d ih =>
    intro i hd
    have hi : i < l.length := by omega
    have next := ih (i + 1) (by omega)
    rw [← w64s hi (by omega)] at next
    refine Ev.step (fun k => by rw [hopperref22_Right.l0]) (Ev.pos (by omega) (Ev.pos (by omega) ?_))
    rw [rdn l i hi, drop_at l i hi, List.any_cons]
    by_cases c1 : l[i] < 0
    · rw [show colB n l[i] = false by unfold colB; simp; omega]
      exact Ev.pos c1 (Ev.val rfl)
    refine Ev.neg c1 ?_
    by_cases c2 : l[i] ≥ n
    · rw [show colB n l[i] = false by unfold colB; simp; omega]
      exact Ev.pos c2 (Ev.val rfl)
    refine Ev.neg c2 ?_
    rw [show colB n l[i] = true by unfold colB; simp; omega]
    exact next
theorem group2 (l : List Int) (m : List S72) (n : Int) : Ev2 (fun _ => group_Right.f l m n) (fun k => hopperref22_Right.f k l m n) := by
  have bad : Ev (fun k => hopperref22_Right.j0 k l m n true) false := Ev.step (fun k => by rw [hopperref22_Right.j0]) (Ev.pos rfl (Ev.val rfl))
  unfold group_Right.f hopperref22_Right.f
  by_cases c1 : 8 < l.length
  · exact ⟨false, Ev.pos c1 (Ev.val rfl), Ev.pos (by omega) bad⟩
  by_cases c2 : 8 < m.length
  · exact ⟨false, Ev.neg c1 (Ev.pos c2 (Ev.val rfl)), Ev.neg (by omega) (Ev.pos (by omega) bad)⟩
  have e : wrap64 ((l.length : Int) + (m.length : Int)) = ((l.length + m.length : Nat) : Int) := by rw [w64 (by omega) (by omega)]; omega
  rw [e]
  by_cases c3 : l.length + m.length < 1
  · rw [show (((l.length + m.length : Nat) : Int) == 0) = true from beq_iff_eq.2 (by omega)]
    exact ⟨false, Ev.neg c1 (Ev.neg c2 (Ev.pos c3 (Ev.val rfl))), Ev.neg (by omega) (Ev.neg (by omega) bad)⟩
  · rw [show (((l.length + m.length : Nat) : Int) == 0) = false from beq_eq_false_iff_ne.2 (by omega)]
    have h : Ev (fun k => hopperref22_Right.l0 k l m n 0) (if (l.drop 0).any (fun c => !colB n c) = true then false else !(m.any (aggBad n))) := grp_l0 l m n (by omega) (by omega) _ 0 rfl
    rw [List.drop_zero] at h
    refine ⟨_, Ev.neg c1 (Ev.neg c2 (Ev.neg c3 (Ev.c ?_))), Ev.neg (by omega) (Ev.neg (by omega) (Ev.step (fun k => by rw [hopperref22_Right.j0]) (Ev.neg (c := false = true) ff_ h)))⟩
    rw [any_some, any_some]
    simp only [Option.bind_some, Option.map_some]
    cases l.any fun c => !colB n c <;> rfl
theorem join_l0 (x1 x2 : List Int) (x3 x4 : Int) (he : x1.length = x2.length) (hl : x1.length ≤ 1000) : ∀ (d i : Nat), x1.length - i = d → Ev (fun k => hopperref23_Right.l0 k x1 x2 x3 x4 (i : Int)) (!((x1.drop i).any (colWrong x3)) && !((x2.drop i).any (colWrong x4))) := by
  intro d
  induction d with
  | zero =>
    intro i hd
    rw [List.drop_eq_nil_of_le (by omega), List.drop_eq_nil_of_le (by omega), List.any_nil, List.any_nil, Bool.not_false, Bool.and_true]
    exact Ev.step (fun k => by rw [hopperref23_Right.l0]) (Ev.neg (by omega) (Ev.val rfl))
  | succ d ih =>
    intro i hd
    have hi : i < x1.length := by omega
    have hi2 : i < x2.length := by omega
    have next := ih (i + 1) (by omega)
    rw [← w64s hi (by omega)] at next
    refine Ev.step (fun k => by rw [hopperref23_Right.l0]) (Ev.pos (by omega) (Ev.pos (by omega) ?_))
    rw [rdn x1 i hi, rdn x2 i hi2, drop_at x1 i hi, drop_at x2 i hi2, List.any_cons, List.any_cons]
    by_cases c1 : x1[i] < 0
    · rw [show colWrong x3 x1[i] = true by unfold colWrong; simp; omega]
      exact Ev.pos c1 (Ev.val rfl)
    refine Ev.neg c1 ?_
    by_cases c2 : x1[i] ≥ x3
    · rw [show colWrong x3 x1[i] = true by unfold colWrong; simp; omega]
      exact Ev.pos c2 (Ev.val rfl)
    refine Ev.neg c2 (Ev.pos (by omega) ?_)
    rw [show colWrong x3 x1[i] = false by unfold colWrong; simp; omega]
    by_cases c3 : x2[i] < 0
    · rw [show colWrong x4 x2[i] = true by unfold colWrong; simp; omega]
      exact Ev.pos c3 (Ev.val (by simp))
    refine Ev.neg c3 ?_
    by_cases c4 : x2[i] ≥ x4
    · rw [show colWrong x4 x2[i] = true by unfold colWrong; simp; omega]
      exact Ev.pos c4 (Ev.val (by simp))
    refine Ev.neg c4 ?_
    rw [show colWrong x4 x2[i] = false by unfold colWrong; simp; omega]
    exact next
theorem join2 (a : Int) (x1 x2 : List Int) (x3 x4 : Int) : Ev2 (fun _ => join_Right.f a x1 x2 x3 x4) (fun k => hopperref23_Right.f k a x1 x2 x3 x4) := by
  have bad : Ev (fun k => hopperref23_Right.j0 k x1 x2 x3 x4 true) false := Ev.step (fun k => by rw [hopperref23_Right.j0]) (Ev.pos rfl (Ev.val rfl))
  unfold join_Right.f hopperref23_Right.f
  by_cases c1 : a < 1
  · exact ⟨false, Ev.neg (by omega) (Ev.val rfl), Ev.pos c1 bad⟩
  by_cases c2 : a > 4
  · exact ⟨false, Ev.pos (by omega) (Ev.neg (by omega) (Ev.val rfl)), Ev.neg c1 (Ev.pos c2 bad)⟩
  by_cases c3 : (x1.length : Int) = (x2.length : Int)
  · by_cases c4 : (x1.length : Int) < 1
    · exact ⟨false, Ev.pos (by omega) (Ev.pos (by omega) (Ev.pos c3 (Ev.neg (by omega) (Ev.val rfl)))), Ev.neg c1 (Ev.neg c2 (Ev.pos c3 (Ev.pos c4 bad)))⟩
    by_cases c5 : (x1.length : Int) > 8
    · rw [decide_eq_true c5]
      exact ⟨false, Ev.pos (by omega) (Ev.pos (by omega) (Ev.pos c3 (Ev.pos (by omega) (Ev.neg (by omega) (Ev.val rfl))))), Ev.neg c1 (Ev.neg c2 (Ev.pos c3 (Ev.neg c4 bad)))⟩
    rw [decide_eq_false c5]
    have h : Ev (fun k => hopperref23_Right.l0 k x1 x2 x3 x4 0) (!((x1.drop 0).any (colWrong x3)) && !((x2.drop 0).any (colWrong x4))) := join_l0 x1 x2 x3 x4 (by omega) (by omega) _ 0 rfl
    rw [List.drop_zero, List.drop_zero] at h
    refine ⟨_, Ev.pos (by omega) (Ev.pos (by omega) (Ev.pos c3 (Ev.pos (by omega) (Ev.pos (by omega) (Ev.c ?_))))), Ev.neg c1 (Ev.neg c2 (Ev.pos c3 (Ev.neg c4 (Ev.step (fun k => by rw [hopperref23_Right.j0]) (Ev.neg (c := false = true) ff_ h)))))⟩
    unfold join_columns.f
    simp only [Option.bind_some]
    cases x1.any (colWrong x3) <;> simp
  · exact ⟨false, Ev.pos (by omega) (Ev.pos (by omega) (Ev.neg c3 (Ev.val rfl))), Ev.neg c1 (Ev.neg c2 (Ev.neg c3 bad))⟩
theorem key_l0 (l : List S52) (n : Int) (hl : l.length ≤ 1000000) : ∀ (d i : Nat), l.length - i = d → Ev (fun k => hopperref24_Right.l0 k l n (i : Int)) (!((l.drop i).any (keyWrong n)) && decide ((l.length : Int) ≤ 8)) := by
  intro d
  induction d with
  | zero =>
    intro i hd
    rw [List.drop_eq_nil_of_le (by omega), List.any_nil, Bool.not_false, Bool.true_and]
    exact Ev.step (fun k => by rw [hopperref24_Right.l0]) (Ev.neg (by omega) (Ev.val rfl))
  | succ d ih =>
    intro i hd
    have hi : i < l.length := by omega
    have next := ih (i + 1) (by omega)
    rw [← w64s hi (by omega)] at next
    refine Ev.step (fun k => by rw [hopperref24_Right.l0]) (Ev.pos (by omega) (Ev.pos (by omega) ?_))
    rw [rd52 l i hi, drop_at l i hi, List.any_cons]
    have kw : keyWrong n l[i] = true ↔ (l[i].f0 < 0 ∨ n ≤ l[i].f0 ∨ l[i].f1 < 0 ∨ 2 < l[i].f1) := by
      unfold keyWrong; simp only [Bool.or_eq_true, decide_eq_true_eq]
    cases hb : keyWrong n l[i] with
    | true =>
      simp only [Bool.true_or, Bool.not_true, Bool.false_and]
      have := kw.1 hb
      by_cases c1 : l[i].f0 < 0
      · exact Ev.pos c1 (Ev.val rfl)
      refine Ev.neg c1 ?_
      by_cases c2 : l[i].f0 ≥ n
      · exact Ev.pos c2 (Ev.val rfl)
      refine Ev.neg c2 ?_
      by_cases c3 : l[i].f1 < 0
      · exact Ev.pos c3 (Ev.val rfl)
      exact Ev.neg c3 (Ev.pos (by omega) (Ev.val rfl))
    | false =>
      simp only [Bool.false_or]
      have := mt kw.2 (by rw [hb]; exact ff_)
      exact Ev.neg (by omega) (Ev.neg (by omega) (Ev.neg (by omega) (Ev.neg (by omega) next)))
theorem order2 (l : List S52) (n : Int) (hl : l.length ≤ 1000000) : Ev2 (fun _ => order_Right.f l n) (fun k => hopperref24_Right.f k l n) := by
  have h : Ev (fun k => hopperref24_Right.l0 k l n 0) (!((l.drop 0).any (keyWrong n)) && decide ((l.length : Int) ≤ 8)) := key_l0 l n hl _ 0 rfl
  rw [List.drop_zero] at h
  refine ⟨_, Ev.c ?_, h⟩
  unfold order_Right.f
  rw [Bool.and_comm]
theorem when_eq (b : Bool) (n : Int) : plan_when.f b n = some (endP b n) := by
  unfold plan_when.f endP
  cases b with
  | true =>
    rw [if_pos rfl, if_neg tf2_]
    by_cases c : n > 8
    · rw [if_pos c, if_pos (by omega)]
    · rw [if_neg c, if_neg (by omega)]
  | false => rw [if_neg ff_, if_pos rfl]
theorem first_cons {α : Type} (p : α → Bool) (x : α) (xs : List α) : firstOf p (x :: xs) = if p x = true then 0 else if firstOf p xs < 0 then -1 else firstOf p xs + 1 := by
  unfold firstOf
  rw [List.findIdx?_cons]
  by_cases h : p x = true
  · simp [h]
  · simp only [h, if_false]
    cases xs.findIdx? p with
    | none => simp
    | some i => simp; omega
theorem scan_eq (nm : ByteArray) : ∀ l, plan_scan.f nm l = some (tabCols nm l)
  | [] => rfl
  | t :: ts => by
    have ih := scan_eq nm ts
    unfold plan_scan.f at ih ⊢
    rw [first_cons, tabCols]
    by_cases h : (t.f0.toList == nm.toList) = true
    · rw [if_pos (show scanIs nm t = true from h), if_pos h, if_neg (by omega)]
      rfl
    · rw [if_neg (show ¬ scanIs nm t = true from h), if_neg h, ← Option.some.inj ih]
      by_cases c : firstOf (scanIs nm) ts < 0
      · rw [if_pos c, if_pos c, if_pos (by omega)]
      · rw [if_neg c, if_neg c, if_neg (by omega)]
        have e : (firstOf (scanIs nm) ts + 1).toNat = (firstOf (scanIs nm) ts).toNat + 1 := by omega
        unfold rd_T46
        rw [e]
        rfl
end Go.Proofs.Ytomccmodlkdcbaa.Pure
