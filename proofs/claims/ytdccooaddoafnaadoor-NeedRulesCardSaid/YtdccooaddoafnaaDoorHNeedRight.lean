/- need.Right and scalar.Right answer as the references do: two walks, one answer. -/
import Derived.Test.YtdccooaddoafnaaDoorHEvBase
import Derived.Test.YtdccooaddoafnaaDoorQx
set_option linter.unusedVariables false
set_option linter.unusedSimpArgs false
namespace Go.Proofs.YtdccooaddoafnaaDoor.Pure
open Go.RowKit Go.Proofs.YtdccooaddoafnaaDoor.Q Go.Proofs.YtdccooaddoafnaaDoorW.PrintWords Go.Proofs.YtdccooaddoafnaaDoorW.PrintLast Go.Proofs.YtdccooaddoafnaaDoorW.PrintMore
theorem indP {P : S24 → Prop} (h : ∀ p, (∀ q, q ∈ p.f5 → P q) → P p) : ∀ p, P p := fun p => h p fun q hq => indP h q
termination_by p => SizeOf.sizeOf p
decreasing_by
  have h1 := List.sizeOf_lt_of_mem hq
  have h2 : SizeOf.sizeOf p.f5 < SizeOf.sizeOf p := by cases p; simp; omega
  omega
/-- Two functions, one answer. -/
def Ev2 {α : Type} (f g : Nat → Option α) : Prop := ∃ r, Ev f r ∧ Ev g r
theorem Ev2.mk {α : Type} {f g : Nat → Option α} (r : α) (h1 : Ev f r) (h2 : Ev g r) : Ev2 f g := ⟨r, h1, h2⟩
theorem Ev.map' {α β : Type} {g : Nat → Option α} {r : α} (f : α → β) (h : Ev g r) : Ev (fun k => (g k).map f) (f r) := by
  obtain ⟨K, h⟩ := h
  exact ⟨K, fun k hk => by show (g k).map f = _; rw [h k hk]; rfl⟩
/-- 'None is wrong' and 'all are right'. -/
theorem all2 {α : Type} (f g : Nat → α → Option Bool) : ∀ l : List α, (∀ q, q ∈ l → Ev2 (fun k => f k q) (fun k => g k q)) → Ev2 (fun k => (anyE (fun q => (f k q).map (!·)) l).map (!·)) (fun k => allE (fun q => g k q) l)
  | [], _ => ⟨true, Ev.val rfl, Ev.val rfl⟩
  | x :: xs, h => by
    obtain ⟨b, h1, h2⟩ := h x (List.mem_cons_self ..)
    obtain ⟨c, h3, h4⟩ := all2 f g xs fun q hq => h q (List.mem_cons_of_mem _ hq)
    obtain ⟨K1, h1⟩ := h1
    obtain ⟨K2, h2⟩ := h2
    obtain ⟨K3, h3⟩ := h3
    obtain ⟨K4, h4⟩ := h4
    cases b with
    | false => exact ⟨false, ⟨K1, fun k hk => by simp only [anyE, h1 k hk]; rfl⟩, ⟨K2, fun k hk => by simp only [allE, h2 k hk]; rfl⟩⟩
    | true =>
      refine ⟨c, ⟨K1 + K3, fun k hk => ?_⟩, ⟨K2 + K4, fun k hk => ?_⟩⟩
      · simp only [anyE, h1 k (by omega), Option.map_some, Bool.not_true, Option.bind_some, Bool.false_eq_true, if_false]
        exact h3 k (by omega)
      · simp only [allE, h2 k (by omega), Option.bind_some, if_true]
        exact h4 k (by omega)
theorem psign (x : Int) (h0 : 0 ≤ x) (h1 : x ≤ 255) : like_sign.f x = some (if wrap64 x = 37 then 257 else if wrap64 x = 95 then 256 else wrap64 x) := by
  unfold like_sign.f
  rw [w64 (x := x) (by omega) (by omega)]
  split
  · rfl
  · split <;> rfl
theorem parse2_l0 (s : ByteArray) (esc : Int) (hs : s.size ≤ 5000) : ∀ (n i : Nat) (acc : List Int), s.size - i ≤ n → acc.length ≤ i → i ≤ s.size → Ev2 (fun k => like_Parse.l0 k s esc acc (i : Int)) (fun k => hopperref09_Parse.l0 k s esc acc (i : Int)) := by
  intro n
  induction n with
  | zero =>
    intro i acc hn ha hi
    refine ⟨(acc, 0), Ev.step (fun k => by rw [like_Parse.l0]) (Ev.neg (by omega) (Ev.val rfl)), Ev.step (fun k => by rw [hopperref09_Parse.l0]) (Ev.neg (by omega) (Ev.val rfl))⟩
  | succ n ih =>
    intro i acc hn ha hi
    by_cases c : i < s.size
    · have hb := bt_range s (i : Int)
      by_cases c1 : wrap64 (bt s (i : Int)) = esc
      · by_cases c2 : i + 1 = s.size
        · exact ⟨([], 8), Ev.step (fun k => by rw [like_Parse.l0]) (Ev.pos (by omega) (Ev.pos (by omega) (Ev.pos c1 (Ev.pos (by rw [w64s c (by omega)]; omega) (Ev.val rfl))))), Ev.step (fun k => by rw [hopperref09_Parse.l0]) (Ev.pos (by omega) (Ev.pos (by omega) (Ev.pos c1 (Ev.pos (by rw [w64s c (by omega)]; omega) (Ev.val rfl)))))⟩
        · obtain ⟨r, h1, h2⟩ := ih (i + 2) (acc ++ [wrap64 (bt s ((i + 1 : Nat) : Int))]) (by omega) (by simp; omega) (by omega)
          have e1 : wrap64 ((i : Int) + 1) = ((i + 1 : Nat) : Int) := w64s c (by omega)
          have e2 : wrap64 (((i + 1 : Nat) : Int) + 1) = ((i + 2 : Nat) : Int) := w64s (n := s.size) (by omega) (by omega)
          refine ⟨r, Ev.step (fun k => by rw [like_Parse.l0]) (Ev.pos (by omega) (Ev.pos (by omega) (Ev.pos c1 ?_))), Ev.step (fun k => by rw [hopperref09_Parse.l0]) (Ev.pos (by omega) (Ev.pos (by omega) (Ev.pos c1 ?_)))⟩
          · rw [e1, e2]; exact Ev.neg (by omega) (Ev.pos (by omega) (Ev.pos (by omega) (Ev.pos (by omega) h1)))
          · rw [e1, e2]; exact Ev.neg (by omega) (Ev.pos (by omega) (Ev.pos (by omega) (Ev.pos (by omega) h2)))
      · have e1 : wrap64 ((i : Int) + 1) = ((i + 1 : Nat) : Int) := w64s c (by omega)
        obtain ⟨r, h1, h2⟩ := ih (i + 1) (acc ++ [if wrap64 (bt s (i : Int)) = 37 then 257 else if wrap64 (bt s (i : Int)) = 95 then 256 else wrap64 (bt s (i : Int))]) (by omega) (by simp; omega) (by omega)
        refine ⟨r, Ev.step (fun k => by rw [like_Parse.l0]) (Ev.pos (by omega) (Ev.pos (by omega) (Ev.neg c1 ?_))), Ev.step (fun k => by rw [hopperref09_Parse.l0]) (Ev.pos (by omega) (Ev.pos (by omega) (Ev.neg c1 ?_)))⟩
        · rw [e1]; exact Ev.bind (Ev.c (psign _ (by omega) (by omega))) (Ev.pos (by omega) h1)
        · rw [e1]
          by_cases d1 : wrap64 (bt s (i : Int)) = 37
          · rw [if_pos d1] at h2; exact Ev.pos d1 (Ev.pos (by omega) h2)
          · rw [if_neg d1] at h2
            by_cases d2 : wrap64 (bt s (i : Int)) = 95
            · rw [if_pos d2] at h2; exact Ev.neg d1 (Ev.pos d2 (Ev.pos (by omega) h2))
            · rw [if_neg d2] at h2; exact Ev.neg d1 (Ev.neg d2 (Ev.pos (by omega) h2))
    · refine ⟨(acc, 0), Ev.step (fun k => by rw [like_Parse.l0]) (Ev.neg (by omega) (Ev.val rfl)), Ev.step (fun k => by rw [hopperref09_Parse.l0]) (Ev.neg (by omega) (Ev.val rfl))⟩
theorem parse2 (s : ByteArray) (esc : Int) : Ev2 (fun k => like_Parse.f k s esc) (fun k => hopperref09_Parse.f k s esc) := by
  have bad : Ev2 (fun k => like_Parse.j0 k s esc true) (fun k => hopperref09_Parse.j0 k s esc true) := ⟨([], 8), Ev.step (fun k => by rw [like_Parse.j0]) (Ev.pos rfl (Ev.val rfl)), Ev.step (fun k => by rw [hopperref09_Parse.j0]) (Ev.pos rfl (Ev.val rfl))⟩
  unfold like_Parse.f hopperref09_Parse.f
  by_cases c1 : esc < -1
  · simp only [if_pos c1]; exact bad
  · simp only [if_neg c1]
    by_cases c2 : esc > 255
    · simp only [if_pos c2]; exact bad
    · simp only [if_neg c2]
      by_cases c3 : (s.size : Int) > 4096
      · rw [decide_eq_true c3]; exact bad
      · rw [decide_eq_false c3]
        obtain ⟨r, h1, h2⟩ := parse2_l0 s esc (by omega) s.size 0 [] (by omega) (by simp) (by omega)
        have h1' : Ev (fun k => like_Parse.l0 k s esc [] 0) r := h1
        have h2' : Ev (fun k => hopperref09_Parse.l0 k s esc [] 0) r := h2
        exact ⟨r, Ev.step (fun k => by rw [like_Parse.j0]) (Ev.neg (by decide) h1'), Ev.step (fun k => by rw [hopperref09_Parse.j0]) (Ev.neg (by decide) h2')⟩
theorem right_low (k : Nat) (p : S24) (cols deep : Int) (h : need_joins.f p.f0 = some true) (hd : deep ≤ 1) : rightP (k + 1) p cols deep = some false := by
  unfold rightP
  rw [h]
  simp only [Option.bind_some, Bool.true_eq_false, if_false]
  repeat' split
  all_goals first | rfl | exact absurd hd ‹_›
theorem joins_eq (x : Int) : need_joins.f x = some (decide (12 ≤ x ∧ x ≤ 14)) := by
  unfold need_joins.f
  by_cases a : x ≥ 12
  · rw [if_pos a]; congr 1; by_cases b : x ≤ 14 <;> simp [a, b] <;> omega
  · rw [if_neg a]; congr 1; simp; omega
theorem r16k_iff (p : S24) : r16k p = true ↔ (p.f1 ≠ 0 ∨ p.f3 ≠ 0 ∨ p.f4 ≠ 0 ∨ p.f2.toList ≠ [] ∨ p.f5.length < 1 ∨ 16 < p.f5.length ∨ (p.f0 = 14 ∧ p.f5.length ≠ 1)) := by
  unfold r16k
  simp only [Bool.or_eq_true, bne_iff_ne, ne_eq, Bool.not_eq_true', List.isEmpty_eq_false_iff, decide_eq_true_eq, Bool.and_eq_true, beq_iff_eq]
  refine or_congr Iff.rfl (or_congr Iff.rfl (or_congr Iff.rfl (or_congr Iff.rfl (or_congr Iff.rfl (or_congr Iff.rfl (and_congr Iff.rfl ?_))))))
  omega
theorem r16l_iff (p : S24) (cols : Int) : r16l p cols = true ↔ (0 < p.f5.length ∨ p.f1 < 0 ∨ cols ≤ p.f1 ∨ 4096 < p.f2.size ∨ p.f4 < 0 ∨ 2 < p.f4 ∨ (0 < p.f4 ∧ 6 < p.f0) ∨ (p.f0 = 11 ∧ p.f2.toList ≠ [])) := by
  unfold r16l
  simp only [Bool.or_eq_true, ne_eq, Bool.not_eq_true', List.isEmpty_eq_false_iff, decide_eq_true_eq, Bool.and_eq_true, beq_iff_eq]
theorem leaf_bad (p : S24) (cols : Int) (h : p.f0 < 1 ∨ 11 < p.f0 ∨ 0 < p.f5.length ∨ p.f1 < 0 ∨ cols ≤ p.f1 ∨ 4096 < p.f2.size) : Ev (fun k => leafP k p cols) false := by
  have bad : Ev (fun k => need_leaf.j0 k true p.f0 p.f1 p.f2 p.f3 p.f4 p.f5) false := Ev.step (fun k => by rw [need_leaf.j0]) (Ev.pos rfl (Ev.val rfl))
  unfold leafP need_leaf.f
  by_cases c1 : p.f0 < 1
  · exact Ev.pos c1 bad
  refine Ev.neg c1 ?_
  by_cases c2 : p.f0 > 11
  · exact Ev.pos c2 bad
  refine Ev.neg c2 ?_
  by_cases c3 : (p.f5.length : Int) > 0
  · exact Ev.pos c3 bad
  refine Ev.neg c3 ?_
  by_cases c4 : p.f1 < 0
  · exact Ev.pos c4 bad
  refine Ev.neg c4 ?_
  by_cases c5 : p.f1 ≥ cols
  · exact Ev.pos c5 bad
  refine Ev.neg c5 ?_
  rw [decide_eq_true (show (p.f2.size : Int) > 4096 by omega)]
  exact bad
theorem leaf2 (p : S24) (cols deep : Int) (hd : 0 < deep) (h1 : 1 ≤ p.f0) (h2 : p.f0 ≤ 11) : Ev2 (fun k => leafP k p cols) (fun k => refRightP k p cols deep) := by
  have ha : r16a p deep = false := by unfold r16a; simp; omega
  have go : ∀ {r}, Ev (fun k => if r16l p cols = true then some false else if p.f0 = 10 then (hopperref09_Parse.f k p.f2 p.f3).map (fun x => x.2 == 0) else some (p.f3 == 0)) r → Ev (fun k => refRightP k p cols deep) r := fun {r} h => Ev.step (fun k => by rw [refRightP]) (Ev.neg (by rw [ha]; decide) (Ev.neg (by omega) h))
  by_cases hb : 0 < p.f5.length ∨ p.f1 < 0 ∨ cols ≤ p.f1 ∨ 4096 < p.f2.size
  · refine ⟨false, leaf_bad p cols (.inr (.inr hb)), go (Ev.pos ((r16l_iff p cols).2 ?_) (Ev.val rfl))⟩
    rcases hb with z | z | z | z
    · exact .inl z
    · exact .inr (.inl z)
    · exact .inr (.inr (.inl z))
    · exact .inr (.inr (.inr (.inl z)))
  have hb1 : ¬ 0 < p.f5.length := fun z => hb (.inl z)
  have hb2 : ¬ p.f1 < 0 := fun z => hb (.inr (.inl z))
  have hb3 : ¬ cols ≤ p.f1 := fun z => hb (.inr (.inr (.inl z)))
  have hb4 : ¬ 4096 < p.f2.size := fun z => hb (.inr (.inr (.inr z)))
  have lf : ∀ {r}, Ev (fun k => need_leaf.j0 k false p.f0 p.f1 p.f2 p.f3 p.f4 p.f5) r → Ev (fun k => leafP k p cols) r := fun {r} h => by
    unfold leafP need_leaf.f
    refine Ev.neg (by omega) (Ev.neg (by omega) (Ev.neg (by omega) (Ev.neg (by omega) (Ev.neg (by omega) ?_))))
    rw [decide_eq_false (show ¬ (p.f2.size : Int) > 4096 by omega)]
    exact h
  by_cases k10 : p.f0 = 10
  · obtain ⟨r, p1, p2⟩ := parse2 p.f2 p.f3
    by_cases h4 : p.f4 = 0
    · refine ⟨r.2 == 0, lf (Ev.step (fun k => by rw [need_leaf.j0]) (Ev.neg (by decide) (Ev.pos k10 (Ev.bind p1 ?_)))), go (Ev.neg (fun z => ?_) (Ev.pos k10 (Ev.map' (fun x => x.2 == 0) p2)))⟩
      · by_cases e : r.2 = 0
        · exact Ev.pos e (Ev.val (by rw [h4, e]))
        · exact Ev.neg e (Ev.val (by simp [e]))
      · rcases (r16l_iff p cols).1 z with z | z | z | z | z | z | z | z
        · exact hb1 z
        · exact hb2 z
        · exact hb3 z
        · exact hb4 z
        · omega
        · omega
        · omega
        · omega
    · refine ⟨false, lf (Ev.step (fun k => by rw [need_leaf.j0]) (Ev.neg (by decide) (Ev.pos k10 (Ev.bind p1 ?_)))), go (Ev.pos ((r16l_iff p cols).2 ?_) (Ev.val rfl))⟩
      · by_cases e : r.2 = 0
        · exact Ev.pos e (Ev.val (by simp [h4]))
        · exact Ev.neg e (Ev.val rfl)
      · by_cases c : p.f4 < 0
        · exact .inr (.inr (.inr (.inr (.inl c))))
        · exact .inr (.inr (.inr (.inr (.inr (.inr (.inl ⟨by omega, by omega⟩))))))
  · have lf' : ∀ {b}, Ev (fun _ => (if p.f3 = 0 then (if p.f4 < 0 then (some false) else (if p.f4 > 2 then (some false) else (if p.f4 > 0 then ((need_compares.f p.f0).bind fun t113 => (if t113 = true then (if p.f0 = 11 then (some (p.f2.toList == ([] : List UInt8))) else (some true)) else (some false))) else (if p.f0 = 11 then (some (p.f2.toList == ([] : List UInt8))) else (some true))))) else (some false))) b → Ev (fun k => leafP k p cols) b := fun {b} h => lf (Ev.step (fun k => by rw [need_leaf.j0]) (Ev.neg (by decide) (Ev.neg k10 h)))
    cases hl : r16l p cols with
    | false =>
      have hn := fun z => Bool.false_ne_true (hl.symm.trans ((r16l_iff p cols).2 z))
      have n5 : ¬ p.f4 < 0 := fun z => hn (.inr (.inr (.inr (.inr (.inl z)))))
      have n6 : ¬ 2 < p.f4 := fun z => hn (.inr (.inr (.inr (.inr (.inr (.inl z))))))
      have n7 : ¬ (0 < p.f4 ∧ 6 < p.f0) := fun z => hn (.inr (.inr (.inr (.inr (.inr (.inr (.inl z)))))))
      have n8 : ¬ (p.f0 = 11 ∧ p.f2.toList ≠ []) := fun z => hn (.inr (.inr (.inr (.inr (.inr (.inr (.inr z)))))))
      refine ⟨p.f3 == 0, lf' (Ev.c ?_), go (Ev.neg (by rw [hl]; decide) (Ev.neg k10 (Ev.val rfl)))⟩
      have tail : (if p.f0 = 11 then (some (p.f2.toList == ([] : List UInt8))) else (some true)) = some true := by
        by_cases c : p.f0 = 11
        · rw [if_pos c]; congr 1; exact beq_iff_eq.2 (Classical.byContradiction fun z => n8 ⟨c, z⟩)
        · rw [if_neg c]
      by_cases c3 : p.f3 = 0
      · rw [if_pos c3, if_neg n5, if_neg n6, c3]
        by_cases c4 : p.f4 > 0
        · rw [if_pos c4]
          unfold need_compares.f
          rw [if_pos h1, decide_eq_true (show p.f0 ≤ 6 by omega), Option.bind_some, if_pos rfl]
          exact tail
        · rw [if_neg c4]; exact tail
      · rw [if_neg c3]; congr 1; exact (beq_eq_false_iff_ne.2 c3).symm
    | true =>
      refine ⟨false, lf' (Ev.c ?_), go (Ev.pos hl (Ev.val rfl))⟩
      by_cases c3 : p.f3 = 0
      · rw [if_pos c3]
        rcases (r16l_iff p cols).1 hl with z | z | z | z | z | z | z | z
        · exact absurd z hb1
        · exact absurd z hb2
        · exact absurd z hb3
        · exact absurd z hb4
        · rw [if_pos z]
        · rw [if_neg (by omega), if_pos z]
        · by_cases d : p.f4 > 2
          · rw [if_neg (by omega), if_pos d]
          · rw [if_neg (by omega), if_neg d, if_pos z.1]
            unfold need_compares.f
            rw [if_pos h1, decide_eq_false (show ¬ p.f0 ≤ 6 by omega), Option.bind_some, if_neg (by decide)]
        · have tail : (if p.f0 = 11 then (some (p.f2.toList == ([] : List UInt8))) else (some true)) = some false := by
            rw [if_pos z.1]; congr 1; exact beq_eq_false_iff_ne.2 z.2
          rw [tail]
          have q : need_compares.f p.f0 = some false := by unfold need_compares.f; rw [if_pos h1]; congr 1; exact decide_eq_false (by omega)
          rw [q, Option.bind_some, if_neg Bool.false_ne_true]
          repeat' split
          all_goals rfl
      · rw [if_neg c3]
theorem right2 : ∀ (p : S24) (cols deep : Int), 0 ≤ deep → deep ≤ 12 → Ev2 (fun k => rightP k p cols deep) (fun k => refRightP k p cols deep) := by
  refine indP fun p ih cols deep h0 h12 => ?_
  have hz : ∀ (q : S24) (d : Int), (d < 1 ∨ q.f0 < 1 ∨ 14 < q.f0) → Ev (fun k => refRightP k q cols d) false := fun q d h => Ev.step (fun k => by rw [refRightP]) (Ev.pos (by unfold r16a; simp only [Bool.or_eq_true, decide_eq_true_eq]; exact h) (Ev.val rfl))
  by_cases j : 12 ≤ p.f0 ∧ p.f0 ≤ 14
  · have hj : need_joins.f p.f0 = some true := by rw [joins_eq, decide_eq_true j]
    by_cases d1 : deep ≤ 1
    · refine ⟨false, Ev.step (fun k => right_low k p cols deep hj d1) (Ev.val rfl), ?_⟩
      by_cases d0 : deep < 1
      · exact hz p deep (.inl d0)
      have e : wrap64 (deep - 1) = 0 := by rw [w64 (by omega) (by omega)]; omega
      refine Ev.step (fun k => by rw [refRightP]) (Ev.neg (by unfold r16a; simp; omega) (Ev.pos j.1 ?_))
      cases hk : r16k p with
      | true => exact Ev.pos rfl (Ev.val rfl)
      | false =>
        refine Ev.neg (by decide) ?_
        have hl : ¬ p.f5.length < 1 := fun z => Bool.false_ne_true (hk.symm.trans ((r16k_iff p).2 (.inr (.inr (.inr (.inr (.inl z)))))))
        rw [e]
        cases hf : p.f5 with
        | nil => rw [hf] at hl; exact absurd (by simp) hl
        | cons q qs =>
          obtain ⟨K, hK⟩ := hz q 0 (.inl (by decide))
          exact ⟨K, fun k hk => by simp only [allE, hK k hk]; rfl⟩
    · have e : wrap64 (deep - 1) = deep - 1 := w64 (by omega) (by omega)
      have lf : ∀ {r}, Ev (fun k => if p.f1 ≠ 0 then some false else if p.f3 ≠ 0 then some false else if p.f4 ≠ 0 then some false else if p.f2.toList ≠ [] then some false else if p.f5.length < 1 then some false else if 16 < p.f5.length then some false else if p.f0 = 14 ∧ 1 < p.f5.length then some false else if deep ≤ 1 then some false else (anyE (fun q => (rightP k q cols (wrap64 (deep - 1))).map (!·)) p.f5).map (!·)) r → Ev (fun k => rightP k p cols deep) r := fun {r} h => Ev.step (fun k => by rw [rightP, hj, Option.bind_some, if_neg (by decide)]) h
      have go : ∀ {r}, Ev (fun k => if r16k p = true then some false else allE (fun q => refRightP k q cols (wrap64 (deep - 1))) p.f5) r → Ev (fun k => refRightP k p cols deep) r := fun {r} h => Ev.step (fun k => by rw [refRightP]) (Ev.neg (by unfold r16a; simp; omega) (Ev.pos j.1 h))
      cases hk : r16k p with
      | true =>
        refine ⟨false, lf ?_, go (Ev.pos hk (Ev.val rfl))⟩
        by_cases a1 : p.f1 ≠ 0
        · exact Ev.pos a1 (Ev.val rfl)
        refine Ev.neg a1 ?_
        by_cases a2 : p.f3 ≠ 0
        · exact Ev.pos a2 (Ev.val rfl)
        refine Ev.neg a2 ?_
        by_cases a3 : p.f4 ≠ 0
        · exact Ev.pos a3 (Ev.val rfl)
        refine Ev.neg a3 ?_
        by_cases a4 : p.f2.toList ≠ []
        · exact Ev.pos a4 (Ev.val rfl)
        refine Ev.neg a4 ?_
        by_cases a5 : p.f5.length < 1
        · exact Ev.pos a5 (Ev.val rfl)
        refine Ev.neg a5 ?_
        by_cases a6 : 16 < p.f5.length
        · exact Ev.pos a6 (Ev.val rfl)
        refine Ev.neg a6 (Ev.pos ?_ (Ev.val rfl))
        rcases (r16k_iff p).1 hk with z | z | z | z | z | z | z
        · exact absurd z a1
        · exact absurd z a2
        · exact absurd z a3
        · exact absurd z a4
        · exact absurd z a5
        · exact absurd z a6
        · exact ⟨z.1, by omega⟩
      | false =>
        have hn := fun z => Bool.false_ne_true (hk.symm.trans ((r16k_iff p).2 z))
        have a7 : ¬ (p.f0 = 14 ∧ 1 < p.f5.length) := fun z => hn (.inr (.inr (.inr (.inr (.inr (.inr ⟨z.1, by omega⟩))))))
        obtain ⟨r, h1, h2⟩ := all2 (fun k q => rightP k q cols (wrap64 (deep - 1))) (fun k q => refRightP k q cols (wrap64 (deep - 1))) p.f5 fun q hq => by
          rw [e]; exact ih q hq cols (deep - 1) (by omega) (by omega)
        refine ⟨r, lf ?_, go (Ev.neg (by rw [hk]; decide) h2)⟩
        refine Ev.neg (fun z => hn (.inl z)) (Ev.neg (fun z => hn (.inr (.inl z))) ?_)
        refine Ev.neg (fun z => hn (.inr (.inr (.inl z)))) (Ev.neg (fun z => hn (.inr (.inr (.inr (.inl z))))) ?_)
        refine Ev.neg (fun z => hn (.inr (.inr (.inr (.inr (.inl z)))))) (Ev.neg (fun z => hn (.inr (.inr (.inr (.inr (.inr (.inl z))))))) ?_)
        exact Ev.neg a7 (Ev.neg d1 h1)
  · have hj : need_joins.f p.f0 = some false := by rw [joins_eq, decide_eq_false j]
    have lf : ∀ {r}, Ev (fun k => if 0 < deep then leafP k p cols else some false) r → Ev (fun k => rightP k p cols deep) r := fun {r} h => Ev.step (fun k => by rw [rightP, hj, Option.bind_some, if_pos rfl]) h
    by_cases d0 : 0 < deep
    · by_cases c : p.f0 < 1 ∨ 14 < p.f0
      · exact ⟨false, lf (Ev.pos d0 (leaf_bad p cols (by omega))), hz p deep (.inr c)⟩
      · obtain ⟨r, h1, h2⟩ := leaf2 p cols deep d0 (by omega) (by omega)
        exact ⟨r, lf (Ev.pos d0 h1), h2⟩
    · exact ⟨false, lf (Ev.neg d0 (Ev.val rfl)), hz p deep (.inl (by omega))⟩
end Go.Proofs.YtdccooaddoafnaaDoor.Pure
