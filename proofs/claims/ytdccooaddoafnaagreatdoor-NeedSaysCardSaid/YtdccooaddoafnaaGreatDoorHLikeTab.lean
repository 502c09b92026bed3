/- The reference's table of signs and string. -/
import Derived.Test.YtdccooaddoafnaaGreatDoorHLikeCore
set_option linter.unusedVariables false
set_option linter.unusedSimpArgs false
namespace Go.Proofs.YtdccooaddoafnaaGreatDoor.Pure
open Go.RowKit Go.Proofs.YtdccooaddoafnaaGreatDoor.Q Go.Proofs.YtdccooaddoafnaaGreatDoorW.PrintWords Go.Proofs.YtdccooaddoafnaaGreatDoorW.PrintLast
theorem rdOf_nat (xs : List Bool) (i : Nat) (h : i < xs.length) : rdOf false xs (i : Int) = xs[i] := by simp [rdOf, List.getD, h]
/-- The table's row behind i signs. -/
def row (l : List Int) (s : ByteArray) (i k : Nat) : Bool := HopPure.lm (l.take i) (s.data.toList.take k)
theorem row_star (l : List Int) (s : ByteArray) (i k : Nat) (hi : i < l.length) (he : l[i] = 257) (hk : k ≤ s.size) : row l s (i + 1) k = (row l s i k || (if k = 0 then false else row l s (i + 1) (k - 1))) := by
  have hd := dsize s
  have e : l.take (i + 1) = l.take i ++ [257] := by rw [List.take_succ_eq_append_getElem hi, he]
  unfold row
  rw [e, Bool.eq_iff_iff, HopPure.lm_snoc_star]
  simp only [Bool.or_eq_true]
  rw [List.length_take]
  constructor
  · rintro ⟨j, hj, h⟩
    rw [List.take_take, Nat.min_eq_left (by omega)] at h
    by_cases ej : j = k
    · subst ej; exact .inl h
    · right
      rw [if_neg (by omega), HopPure.lm_snoc_star]
      exact ⟨j, by rw [List.length_take]; omega, by rw [List.take_take, Nat.min_eq_left (by omega)]; exact h⟩
  · rintro (h | h)
    · exact ⟨k, by omega, by rw [List.take_take, Nat.min_self]; exact h⟩
    · by_cases ek : k = 0
      · rw [if_pos ek] at h; cases h
      · rw [if_neg ek, HopPure.lm_snoc_star] at h
        obtain ⟨j, hj, h⟩ := h
        rw [List.length_take] at hj
        rw [List.take_take, Nat.min_eq_left (by omega)] at h
        exact ⟨j, by omega, by rw [List.take_take, Nat.min_eq_left (by omega)]; exact h⟩
theorem row_one (l : List Int) (s : ByteArray) (i k : Nat) (hi : i < l.length) (he : l[i] ≠ 257) (hk : k < s.data.toList.length) : row l s (i + 1) (k + 1) = (row l s i k && (decide (l[i] = 256) || decide (l[i] = ((s.data.toList[k]).toNat : Int)))) := by
  have e : l.take (i + 1) = l.take i ++ [l[i]] := List.take_succ_eq_append_getElem hi
  unfold row
  rw [e, Bool.eq_iff_iff, HopPure.lm_snoc_one _ _ he _ _ (by omega)]
  simp only [Bool.and_eq_true, Bool.or_eq_true, decide_eq_true_eq, Nat.add_sub_cancel]
  constructor
  · rintro ⟨_, h1, h2⟩; exact ⟨h1, h2⟩
  · rintro ⟨h1, h2⟩; exact ⟨by omega, h1, h2⟩
theorem row_one0 (l : List Int) (s : ByteArray) (i : Nat) (hi : i < l.length) (he : l[i] ≠ 257) : row l s (i + 1) 0 = false := by
  have e : l.take (i + 1) = l.take i ++ [l[i]] := List.take_succ_eq_append_getElem hi
  unfold row
  rw [e, Bool.eq_false_iff]
  intro h
  obtain ⟨h0, _⟩ := (HopPure.lm_snoc_one _ _ he _ _ (by omega)).1 h
  omega
/-- A row of the table, all of it, and up to k. -/
structure Full (l : List Int) (s : ByteArray) (i : Nat) (xs : List Bool) : Prop where
  len : xs.length = s.size + 1
  at_ : ∀ (k : Nat) (h : k < xs.length), xs[k] = row l s i k
structure Part (l : List Int) (s : ByteArray) (i k : Nat) (xs : List Bool) : Prop where
  len : xs.length = s.size + 1
  at_ : ∀ (j : Nat) (h : j < xs.length), j < k → xs[j] = row l s i j
  rest : ∀ (j : Nat) (h : j < xs.length), k ≤ j → xs[j] = false
theorem Part.set {l : List Int} {s : ByteArray} {i k : Nat} {xs : List Bool} (h : Part l s i k xs) (b : Bool) (hb : b = row l s i k) : Part l s i (k + 1) (xs.set k b) := by
  refine ⟨by rw [List.length_set]; exact h.len, fun j hj hjk => ?_, fun j hj hjk => ?_⟩
  · rw [List.getElem_set]
    split
    · rename_i e; subst e; exact hb
    · exact h.at_ j (by simpa using hj) (by omega)
  · rw [List.getElem_set, if_neg (by omega)]
    exact h.rest j (by simpa using hj) (by omega)
theorem Part.same {l : List Int} {s : ByteArray} {i k : Nat} {xs : List Bool} (h : Part l s i k xs) (hb : row l s i k = false) : Part l s i (k + 1) xs := by
  refine ⟨h.len, fun j hj hjk => ?_, fun j hj hjk => h.rest j hj (by omega)⟩
  by_cases e : j = k
  · subst e; rw [hb]; exact h.rest j hj (Nat.le_refl _)
  · exact h.at_ j hj (by omega)
theorem w64p_ {k : Nat} (h : 0 < k) (hk : k ≤ 1152921504606846976) : wrap64 ((k : Int) - 1) = ((k - 1 : Nat) : Int) := by rw [w64 (by omega) (by omega)]; omega

theorem rmatch_l1 (l : List Int) (s : ByteArray) (hs : s.size ≤ 1152921504606) (r : Bool) (i : Nat) (hi : i < l.length) (xs : List Bool) (hx : Full l s i xs)
    (next : ∀ ys, Full l s (i + 1) ys → Ev (fun k => hopperref09_Match.l0 k l s ys (wrap64 ((i : Int) + 1))) r) :
    ∀ (n k : Nat) (ys : List Bool), s.size + 1 - k = n → k ≤ s.size + 1 → Part l s (i + 1) k ys → Ev (fun q => hopperref09_Match.l1 q l s xs (i : Int) ys (k : Int)) r := by
  intro n
  induction n with
  | zero =>
    intro k ys hn hk hy
    refine Ev.step (fun q => by rw [hopperref09_Match.l1]) (Ev.neg (by omega) (next ys ⟨hy.len, fun j hj => hy.at_ j hj (by have := hy.len; omega)⟩))
  | succ n ih =>
    intro k ys hn hk hy
    have hkl : k < ys.length := by rw [hy.len]; omega
    have hxl : k < xs.length := by rw [hx.len]; omega
    have hd := dsize s
    have e1 : wrap64 ((k : Int) + 1) = ((k + 1 : Nat) : Int) := w64s (n := s.size + 1) (by omega) (by omega)
    have e2 : ((k : Int)).toNat = k := by omega
    refine Ev.step (fun q => by rw [hopperref09_Match.l1]) (Ev.pos (by omega) (Ev.pos (by omega) (Ev.pos (by omega) ?_)))
    rw [rdn l i hi, e1, e2]
    by_cases c : l[i] = 257
    · have hr := row_star l s i k hi c (by omega)
      refine Ev.pos c (Ev.pos (by omega) (Ev.pos (by omega) ?_))
      rw [rdOf_nat xs k hxl, hx.at_ k hxl]
      cases hb : row l s i k with
      | true =>
        rw [hb, Bool.true_or] at hr
        exact Ev.pos rfl (Ev.pos (by omega) (ih (k + 1) _ (by omega) (by omega) (hy.set true hr.symm)))
      | false =>
        rw [hb, Bool.false_or] at hr
        refine Ev.neg (by simp) ?_
        by_cases c0 : k = 0
        · subst c0
          rw [if_pos rfl] at hr
          exact Ev.neg (by omega) (Ev.pos (by omega) (ih 1 _ (by omega) (by omega) (hy.set false hr.symm)))
        · rw [if_neg c0] at hr
          have hk1 : k - 1 < ys.length := by omega
          rw [w64p_ (by omega) (by omega), rdOf_nat ys (k - 1) hk1]
          exact Ev.pos (by omega) (Ev.pos (by omega) (Ev.pos (by omega) (Ev.pos (by omega) (ih (k + 1) _ (by omega) (by omega) (hy.set _ (by rw [hr]; exact hy.at_ _ hk1 (by omega)))))))
    · refine Ev.neg c ?_
      by_cases c0 : k = 0
      · subst c0
        exact Ev.neg (by omega) (ih 1 _ (by omega) (by omega) (hy.same (row_one0 l s i hi c)))
      · obtain ⟨m, rfl⟩ : ∃ m, k = m + 1 := ⟨k - 1, by omega⟩
        have hm : m < s.data.toList.length := by omega
        have hxm : m < xs.length := by omega
        have hr := row_one l s i m hi c hm
        rw [w64p_ (by omega) (by omega), Nat.add_sub_cancel, rdOf_nat xs m hxm, hx.at_ m hxm, wbt, btn s m hm]
        refine Ev.pos (by omega) (Ev.pos (by omega) (Ev.pos (by omega) ?_))
        cases hb : row l s i m with
        | false =>
          rw [hb, Bool.false_and] at hr
          exact Ev.neg (by simp) (ih (m + 1 + 1) _ (by omega) (by omega) (hy.same hr))
        | true =>
          rw [hb, Bool.true_and] at hr
          refine Ev.pos rfl ?_
          by_cases c1 : l[i] = 256
          · rw [decide_eq_true c1, Bool.true_or] at hr
            exact Ev.pos c1 (Ev.pos (by omega) (Ev.pos (by omega) (ih (m + 1 + 1) _ (by omega) (by omega) (hy.set true hr.symm))))
          · rw [decide_eq_false c1, Bool.false_or] at hr
            refine Ev.neg c1 (Ev.pos (by omega) (Ev.pos (by omega) (Ev.pos (by omega) (ih (m + 1 + 1) _ (by omega) (by omega) (hy.set _ ?_)))))
            rw [hr, Bool.eq_iff_iff]; simp
theorem rmatch_l0 (l : List Int) (s : ByteArray) (hs : s.size ≤ 1152921504606) (hl : l.length ≤ 1152921504606) :
    ∀ (n i : Nat) (xs : List Bool), l.length - i = n → i ≤ l.length → Full l s i xs → Ev (fun k => hopperref09_Match.l0 k l s xs (i : Int)) (HopPure.lm l s.data.toList) := by
  have hd := dsize s
  have ew : wrap64 ((s.size : Int) + 1) = ((s.size + 1 : Nat) : Int) := w64s (n := s.size + 1) (by omega) (by omega)
  have et : (((s.size + 1 : Nat) : Int)).toNat = s.size + 1 := by omega
  intro n
  induction n with
  | zero =>
    intro i xs hn hi hx
    have ei : i = l.length := by omega
    subst ei
    have hxl : s.size < xs.length := by rw [hx.len]; omega
    refine Ev.step (fun k => by rw [hopperref09_Match.l0]) (Ev.neg (by omega) (Ev.pos (by omega) (Ev.pos (by omega) (Ev.val ?_))))
    rw [rdOf_nat xs s.size hxl, hx.at_ s.size hxl]
    unfold row
    rw [List.take_length, List.take_of_length_le (by omega)]
  | succ n ih =>
    intro i xs hn hi hx
    refine Ev.step (fun k => by rw [hopperref09_Match.l0]) ?_
    rw [ew, et]
    refine Ev.pos (by omega) (Ev.pos (by omega) (Ev.pos (by omega) ?_))
    refine rmatch_l1 l s hs _ i (by omega) xs hx (fun ys hy => ?_) _ 0 _ rfl (by omega) ⟨by simp, fun j hj hjk => by omega, fun j hj _ => by simp⟩
    rw [w64s (n := l.length) (by omega) (by omega)]
    exact ih (i + 1) ys (by omega) (by omega) hy
theorem rmatch_ev (l : List Int) (s : ByteArray) (hs : s.size ≤ 1152921504606) (hl : l.length ≤ 1152921504606) : Ev (fun k => hopperref09_Match.f k l s) (HopPure.lm l s.data.toList) := by
  have hd := dsize s
  have ew : wrap64 ((s.size : Int) + 1) = ((s.size + 1 : Nat) : Int) := w64s (n := s.size + 1) (by omega) (by omega)
  have et : (((s.size + 1 : Nat) : Int)).toNat = s.size + 1 := by omega
  unfold hopperref09_Match.f
  rw [ew, et]
  refine Ev.pos (by omega) (Ev.pos (by omega) (Ev.bind (Ev.now _) (Ev.pos (by simp) ?_)))
  refine rmatch_l0 l s hs hl _ 0 _ rfl (by omega) ⟨by simp, fun k hk => ?_⟩
  unfold row
  rw [List.take_zero, HopPure.lm_nil]
  have hk2 : k < s.size + 1 := by have h_ := hk; rw [List.length_set, List.length_replicate] at h_; exact h_
  rw [List.getElem_set]
  by_cases e : k = 0
  · subst e; simp
  · have hne : s.data.toList.take k ≠ [] := by
      intro h
      have h5 := congrArg List.length h
      rw [List.length_take, hd, List.length_nil] at h5
      clear hk
      omega
    rw [if_neg (by simp; omega), List.getElem_replicate]
    cases h : s.data.toList.take k with
    | nil => exact absurd h hne
    | cons => rfl
end Go.Proofs.YtdccooaddoafnaaGreatDoor.Pure
