/- The reference's longest symbol and order: what the printed functions come to. -/
import Derived.Test.YtjodnhlfodmpeaaHTrainCmp
set_option linter.unusedVariables false
set_option linter.unusedSimpArgs false
set_option maxHeartbeats 2000000
namespace Go.Proofs.Ytjodnhlfodmpeaa.Pure
open Go.RowKit Go.Proofs.Ytjodnhlfodmpeaa.Q Go.Proofs.YtjodnhlfodmpeaaW.PrintWords Go.Proofs.YtjodnhlfodmpeaaW.PrintLast Go.Proofs.YtjodnhlfodmpeaaW.PrintMore
open HopPure (bl cmpL Rising Table IsLongest Enc)

/-- The best one of the first i symbols. -/
def Best (t : List ByteArray) (s : List UInt8) (i : Nat) (c n : Int) : Prop :=
  (c = -1 ∧ n = 0 ∧ ∀ (j : Nat) (h : j < t.length), j < i → ¬ (t[j]).data.toList <+: s) ∨
  ∃ (p : Nat) (h : p < t.length), c = (p : Int) ∧ n = (((t[p]).data.toList.length : Nat) : Int) ∧ (t[p]).data.toList <+: s ∧ ∀ (j : Nat) (h : j < t.length), j < i → (t[j]).data.toList <+: s → (t[j]).data.toList.length ≤ (t[p]).data.toList.length
theorem Best.n_nonneg {t : List ByteArray} {s : List UInt8} {i : Nat} {c n : Int} (h : Best t s i c n) : 0 ≤ n := by
  rcases h with ⟨_, rfl, _⟩ | ⟨p, _, _, rfl, _⟩ <;> omega
theorem rlongest_l0 (t : List ByteArray) (s : ByteArray) (ht : Table (TL t)) : ∀ (n i : Nat) (c m : Int), t.length - i = n → i ≤ t.length → Best t s.data.toList i c m →
    ∃ c' m' : Int, Ev (fun k => hopperref10_Longest.l0 k t s c m (i : Int)) (c', m') ∧ Best t s.data.toList t.length c' m' := by
  have hfew := ht.few
  rw [TL_length] at hfew
  have hd := dsz s
  intro n
  induction n with
  | zero =>
    intro i c m hn hi hb
    have e : i = t.length := by omega
    subst e
    exact ⟨c, m, Ev.step (fun k => by rw [hopperref10_Longest.l0]) (Ev.neg (by omega) (Ev.val rfl)), hb⟩
  | succ n ih =>
    intro i c m hn hi hb
    have hit : i < t.length := by omega
    have hdi := dsz t[i]
    have keep : ((t[i]).data.toList <+: s.data.toList → (((t[i]).data.toList.length : Nat) : Int) ≤ m ∧ m ≠ 0) → Best t s.data.toList (i + 1) c m := by
      intro hk
      rcases hb with ⟨h1, h2, h3⟩ | ⟨p, hp, h1, h2, h3, h4⟩
      · refine .inl ⟨h1, h2, fun j hj hji hpre => ?_⟩
        by_cases e : j = i
        · subst e; exact (hk hpre).2 h2
        · exact h3 j hj (by omega) hpre
      · refine .inr ⟨p, hp, h1, h2, h3, fun j hj hji hpre => ?_⟩
        by_cases e : j = i
        · subst e; have := (hk hpre).1; omega
        · exact h4 j hj (by omega) hpre
    have hsz := (ht.sizes _ (List.getElem_mem (by rw [TL_length]; exact hit : i < (TL t).length))).1
    rw [TL_get t i hit] at hsz
    have hnn := hb.n_nonneg
    have go : ∀ c1 m1, Best t s.data.toList (i + 1) c1 m1 → ∃ c' m' : Int, Ev (fun k => hopperref10_Longest.l0 k t s c1 m1 (wrap64 ((i : Int) + 1))) (c', m') ∧ Best t s.data.toList t.length c' m' := by
      intro c1 m1 hb1
      rw [w64s (n := t.length) hit (by omega)]
      exact ih (i + 1) c1 m1 (by omega) (by omega) hb1
    have open_ : ∀ r, Ev (fun k => if ((t[i]).size : Int) > m then (if ((t[i]).size : Int) ≤ (s.size : Int) then (if 0 ≤ ((t[i]).size : Int) then (if (s.extract 0 ((t[i]).size)).toList = (t[i]).toList then (hopperref10_Longest.l0 k t s (i : Int) ((t[i]).size : Int) (wrap64 ((i : Int) + 1))) else (hopperref10_Longest.l0 k t s c m (wrap64 ((i : Int) + 1)))) else (none)) else (hopperref10_Longest.l0 k t s c m (wrap64 ((i : Int) + 1)))) else (hopperref10_Longest.l0 k t s c m (wrap64 ((i : Int) + 1)))) r → Ev (fun k => hopperref10_Longest.l0 k t s c m (i : Int)) r := by
      intro r hr
      refine Ev.step (fun k => by rw [hopperref10_Longest.l0]) (Ev.pos (by omega) (Ev.pos (by omega) ?_))
      rw [rdOfn _ t i hit]
      exact hr
    by_cases c1 : ((t[i]).size : Int) > m
    · by_cases c2 : ((t[i]).size : Int) ≤ (s.size : Int)
      · by_cases c3 : (s.extract 0 ((t[i]).size)).toList = (t[i]).toList
        · have c4 : (t[i]).data.toList <+: s.data.toList := by
            rw [tl, tl, cut_to] at c3
            rw [← c3]; exact List.take_prefix _ _
          obtain ⟨c', m', h1, h2⟩ := go (i : Int) ((t[i]).size : Int) (.inr ⟨i, hit, rfl, by rw [hdi], c4, fun j hj hji hpre => by
            by_cases e : j = i
            · subst e; exact Nat.le_refl _
            · rcases hb with ⟨h1, h2, h3⟩ | ⟨p, hp, h1, h2, h3, h4⟩
              · exact absurd hpre (h3 j hj (by omega))
              · have := h4 j hj (by omega) hpre; omega⟩)
          exact ⟨c', m', open_ _ (Ev.pos c1 (Ev.pos c2 (Ev.pos (by omega) (Ev.pos c3 h1)))), h2⟩
        · obtain ⟨c', m', h1, h2⟩ := go c m (keep fun hpre => by
            exfalso; apply c3
            rw [tl, tl, cut_to, ← hdi]; exact (HopPure.prefix_take hpre).symm)
          exact ⟨c', m', open_ _ (Ev.pos c1 (Ev.pos c2 (Ev.pos (by omega) (Ev.neg c3 h1)))), h2⟩
      · obtain ⟨c', m', h1, h2⟩ := go c m (keep fun hpre => by have := hpre.length_le; omega)
        exact ⟨c', m', open_ _ (Ev.pos c1 (Ev.neg c2 h1)), h2⟩
    · obtain ⟨c', m', h1, h2⟩ := go c m (keep fun hpre => by omega)
      exact ⟨c', m', open_ _ (Ev.neg c1 h1), h2⟩
theorem Best.done {t : List ByteArray} {s : List UInt8} {c n : Int} (h : Best t s t.length c n) : IsLongest (TL t) s c n := by
  rcases h with ⟨h1, h2, h3⟩ | ⟨p, hp, h1, h2, h3, h4⟩
  · refine .inl ⟨h1, h2, fun x hm hpre => ?_⟩
    obtain ⟨j, hj, e⟩ := List.getElem_of_mem hm
    have hj2 : j < t.length := by rw [TL_length] at hj; exact hj
    rw [TL_get t j hj2] at e
    exact h3 j hj2 hj2 (by rw [e]; exact hpre)
  · refine .inr ⟨p, by rw [TL_length]; exact hp, h1, by rw [TL_get t p hp]; exact h2, by rw [TL_get t p hp]; exact h3, fun x hm hpre => ?_⟩
    obtain ⟨j, hj, e⟩ := List.getElem_of_mem hm
    have hj2 : j < t.length := by rw [TL_length] at hj; exact hj
    rw [TL_get t j hj2] at e
    rw [TL_get t p hp, ← e]
    exact h4 j hj2 hj2 (by rw [e]; exact hpre)
theorem rlongest_ev (t : List ByteArray) (s : ByteArray) (ht : Table (TL t)) : ∃ c m : Int, Ev (fun k => hopperref10_Longest.f k t s) (c, m) ∧ IsLongest (TL t) s.data.toList c m := by
  obtain ⟨c, m, h1, h2⟩ := rlongest_l0 t s ht _ 0 (-1) 0 rfl (by omega) (.inl ⟨rfl, rfl, fun j _ h => by omega⟩)
  exact ⟨c, m, h1, h2.done⟩
/-- May a string be a symbol. -/
def may (s : ByteArray) : Prop := 1 ≤ s.size ∧ s.size ≤ 8
/-- A table made of strings, up to now. -/
structure Made (l out : List ByteArray) : Prop where
  rising : Rising (TL out)
  may : ∀ s ∈ out, may s
  from_ : ∀ s ∈ out, s ∈ l
  few : out.length ≤ 255
  all : ∀ s ∈ l, Pure.may s → s ∈ out ∨ ∀ x ∈ out, bl x.data.toList s.data.toList = true
theorem Made.table {l out : List ByteArray} (h : Made l out) : Table (TL out) := ⟨h.rising, fun s hs => by
  obtain ⟨x, hx, rfl⟩ := List.mem_map.1 hs
  have := h.may x hx
  unfold Pure.may at this
  rw [dsz]; exact this, by rw [TL_length]; exact h.few⟩
/-- May a string be next: it is greater than all up to now. -/
def Next (out : List ByteArray) (s : ByteArray) : Prop := may s ∧ ∀ x ∈ out, bl x.data.toList s.data.toList = true
/-- The least of the first i strings that may be next. -/
def Least (l out : List ByteArray) (i : Nat) (best : ByteArray) : Prop :=
  (best.data.toList = [] ∧ ∀ (j : Nat) (h : j < l.length), j < i → ¬ Next out l[j]) ∨
  (best ∈ l ∧ Next out best ∧ ∀ (j : Nat) (h : j < l.length), j < i → Next out l[j] → bl (l[j]).data.toList best.data.toList = false)
theorem last_next {l out : List ByteArray} (h : Made l out) (hne : 0 < out.length) (s : ByteArray) (hs : may s) : Next out s ↔ bl (out[out.length - 1]'(by omega)).data.toList s.data.toList = true := by
  constructor
  · intro hn; exact hn.2 _ (List.getElem_mem _)
  · intro hb
    refine ⟨hs, fun x hx => ?_⟩
    obtain ⟨j, hj, rfl⟩ := List.getElem_of_mem hx
    by_cases e : j = out.length - 1
    · subst e; exact hb
    · have := h.rising j (out.length - 1) (by rw [TL_length]; exact hj) (by rw [TL_length]; omega) (by omega)
      rw [TL_get out j hj, TL_get out _ (by omega)] at this
      exact HopPure.bl_trans this hb
theorem Least.step_no {l out : List ByteArray} {i : Nat} {best : ByteArray} (h : Least l out i best) (hi : i < l.length) (hn : ¬ Next out l[i]) : Least l out (i + 1) best := by
  rcases h with ⟨h1, h2⟩ | ⟨h1, h2, h3⟩
  · refine .inl ⟨h1, fun j hj hji => ?_⟩
    by_cases e : j = i
    · subst e; exact hn
    · exact h2 j hj (by omega)
  · refine .inr ⟨h1, h2, fun j hj hji hnj => ?_⟩
    by_cases e : j = i
    · subst e; exact absurd hnj hn
    · exact h3 j hj (by omega) hnj
theorem Least.step_keep {l out : List ByteArray} {i : Nat} {best : ByteArray} (h : Least l out i best) (hi : i < l.length) (hne : best.data.toList ≠ []) (hn : bl (l[i]).data.toList best.data.toList = false) : Least l out (i + 1) best := by
  rcases h with ⟨h1, _⟩ | ⟨h1, h2, h3⟩
  · exact absurd h1 hne
  · refine .inr ⟨h1, h2, fun j hj hji hnj => ?_⟩
    by_cases e : j = i
    · subst e; exact hn
    · exact h3 j hj (by omega) hnj
theorem Least.step_take {l out : List ByteArray} {i : Nat} {best : ByteArray} (h : Least l out i best) (hi : i < l.length) (hn : Next out l[i]) (hb : best.data.toList = [] ∨ bl (l[i]).data.toList best.data.toList = true) : Least l out (i + 1) l[i] := by
  refine .inr ⟨List.getElem_mem hi, hn, fun j hj hji hnj => ?_⟩
  by_cases e : j = i
  · subst e; exact HopPure.bl_irrefl _
  · rcases h with ⟨h1, h2⟩ | ⟨h1, h2, h3⟩
    · exact absurd hnj (h2 j hj (by omega))
    · rcases hb with hb | hb
      · have h4 := h2.1.1
        have h5 := dsz best
        rw [hb] at h5
        simp at h5
        omega
      · cases hc : bl (l[j]).data.toList (l[i]).data.toList with
        | false => rfl
        | true => have := h3 j hj (by omega) hnj; rw [HopPure.bl_trans hc hb] at this; cases this
theorem Made.push {l out : List ByteArray} (h : Made l out) (hf : out.length < 255) {best : ByteArray} (hb : Least l out l.length best) (hne : best.data.toList ≠ []) : Made l (out ++ [best]) := by
  rcases hb with ⟨h1, _⟩ | ⟨h1, h2, h3⟩
  · exact absurd h1 hne
  · refine ⟨?_, ?_, ?_, by simp; omega, ?_⟩
    · intro i j hi hj hij
      have hj2 : j < out.length + 1 := by rw [TL_length] at hj; simpa using hj
      rw [TL_get _ i (by simp; omega), TL_get _ j (by simp; omega)]
      by_cases e : j = out.length
      · subst e
        have : (out ++ [best])[out.length]'(by simp) = best := by simp
        rw [this, List.getElem_append_left (by omega)]
        exact h2.2 _ (List.getElem_mem _)
      · rw [List.getElem_append_left (by omega), List.getElem_append_left (by omega)]
        have := h.rising i j (by rw [TL_length]; omega) (by rw [TL_length]; omega) hij
        rwa [TL_get out i (by omega), TL_get out j (by omega)] at this
    · intro s hs
      rcases List.mem_append.1 hs with hs | hs
      · exact h.may s hs
      · rw [List.mem_singleton.1 hs]; exact h2.1
    · intro s hs
      rcases List.mem_append.1 hs with hs | hs
      · exact h.from_ s hs
      · rw [List.mem_singleton.1 hs]; exact h1
    · intro s hs hm
      rcases h.all s hs hm with ha | ha
      · exact .inl (List.mem_append_left _ ha)
      · obtain ⟨j, hj, rfl⟩ := List.getElem_of_mem hs
        have h4 := h3 j hj hj ⟨hm, ha⟩
        rcases HopPure.bl_tri (l[j]).data.toList best.data.toList with h5 | h5 | h5
        · rw [h5] at h4; cases h4
        · left; rw [ba_ext h5]; simp
        · right
          intro x hx
          rcases List.mem_append.1 hx with hx | hx
          · exact ha x hx
          · rw [List.mem_singleton.1 hx]; exact h5
theorem order_l1 (l : List ByteArray) (hl : l.length ≤ maxLen) (hw : ∀ s ∈ l, s.size ≤ maxLen) (out : List ByteArray) (ho : Made l out) (hf : out.length < 255) (r : List ByteArray)
    (stop : ∀ best, Least l out l.length best → best.data.toList = [] → out = r) (next : ∀ best, Least l out l.length best → best.data.toList ≠ [] → Ev (fun k => hopperref10_Order.l0 k l (out ++ [best])) r) :
    ∀ (n i : Nat) (best : ByteArray), l.length - i = n → i ≤ l.length → Least l out i best → Ev (fun k => hopperref10_Order.l1 k l out best (i : Int)) r := by
  unfold maxLen at hl
  intro n
  induction n with
  | zero =>
    intro i best hn hi hb
    have e : i = l.length := by omega
    subst e
    by_cases c : best.data.toList = []
    · refine Ev.step (fun k => by rw [hopperref10_Order.l1]) ?_
      refine Ev.neg (by omega) ?_
      refine Ev.pos (by rw [tl]; exact c) ?_
      exact Ev.val (stop best hb c)
    · refine Ev.step (fun k => by rw [hopperref10_Order.l1]) ?_
      refine Ev.neg (by omega) ?_
      refine Ev.neg (by rw [tl]; exact c) ?_
      exact Ev.pos (by omega) (next best hb c)
  | succ n ih =>
    intro i best hn hi hb
    have hil : i < l.length := by omega
    have hsm := hw _ (List.getElem_mem hil)
    have ei : wrap64 ((i : Int) + 1) = ((i + 1 : Nat) : Int) := w64s (n := l.length) hil (by omega)
    refine Ev.step (fun k => by rw [hopperref10_Order.l1]) ?_
    refine Ev.pos (by omega) ?_
    refine Ev.pos (by omega) ?_
    rw [rdOfn _ l i hil, ei]
    have no : ¬ Next out l[i] → Ev (fun k => hopperref10_Order.l1 k l out best ((i + 1 : Nat) : Int)) r := fun h => ih (i + 1) best (by omega) (by omega) (hb.step_no hil h)
    have take_ : Next out l[i] → (best.data.toList = [] ∨ bl (l[i]).data.toList best.data.toList = true) → Ev (fun k => hopperref10_Order.l1 k l out l[i] ((i + 1 : Nat) : Int)) r := fun h h2 => ih (i + 1) l[i] (by omega) (by omega) (hb.step_take hil h h2)
    have keep : best.data.toList ≠ [] → bl (l[i]).data.toList best.data.toList = false → Ev (fun k => hopperref10_Order.l1 k l out best ((i + 1 : Nat) : Int)) r := fun h h2 => ih (i + 1) best (by omega) (by omega) (hb.step_keep hil h h2)
    have rest : Next out l[i] → Ev (fun k => if best.toList = ([] : List UInt8) then (hopperref10_Order.l1 k l out l[i] ((i + 1 : Nat) : Int)) else ((hopperref07_Compare.f k l[i] best).bind fun t173 => (if t173 < 0 then (hopperref10_Order.l1 k l out l[i] ((i + 1 : Nat) : Int)) else (hopperref10_Order.l1 k l out best ((i + 1 : Nat) : Int))))) r := by
      intro h
      by_cases c4 : best.data.toList = []
      · exact Ev.pos (by rw [tl]; exact c4) (take_ h (.inl c4))
      · refine Ev.neg (by rw [tl]; exact c4) ?_
        refine Ev.bind (compare_ev _ _ hsm) ?_
        cases hb2 : bl (l[i]).data.toList best.data.toList with
        | true => exact Ev.pos (HopPure.cmpL_lt.2 hb2) (take_ h (.inr hb2))
        | false => exact Ev.neg (fun h3 => by rw [HopPure.cmpL_lt.1 h3] at hb2; cases hb2) (keep c4 hb2)
    by_cases c1 : ((l[i]).size : Int) ≥ 1
    · refine Ev.pos c1 ?_
      by_cases c2 : ((l[i]).size : Int) ≤ 8
      · refine Ev.pos c2 ?_
        have hm : may l[i] := ⟨by omega, by omega⟩
        by_cases c3 : out.length = 0
        · exact Ev.pos (by omega) (rest ⟨hm, fun x hx => by rw [List.eq_nil_of_length_eq_zero c3] at hx; cases hx⟩)
        · refine Ev.neg (by omega) ?_
          have hlast : out.length - 1 < out.length := by omega
          rw [w64p (k := out.length) (by omega) (by omega), rdOfn _ out _ hlast]
          refine Ev.pos (by omega) ?_
          refine Ev.pos (by omega) ?_
          refine Ev.bind (compare_ev _ _ hsm) ?_
          have hiff := last_next ho (by omega) l[i] hm
          cases hb2 : bl (out[out.length - 1]).data.toList (l[i]).data.toList with
          | true => exact Ev.pos (HopPure.cmpL_gt.2 hb2) (rest (hiff.2 hb2))
          | false => exact Ev.neg (fun h3 => by rw [HopPure.cmpL_gt.1 h3] at hb2; cases hb2) (no fun h => by rw [hiff.1 h] at hb2; cases hb2)
      · exact Ev.neg c2 (no fun h => by have := h.1.2; omega)
    · exact Ev.neg c1 (no fun h => by have := h.1.1; omega)
theorem order_l0 (l : List ByteArray) (hl : l.length ≤ maxLen) (hw : ∀ s ∈ l, s.size ≤ maxLen) : ∀ (n : Nat) (out : List ByteArray), 255 - out.length = n → Made l out →
    ∃ t, Ev (fun k => hopperref10_Order.l0 k l out) t ∧ Made l t ∧ (t.length < 255 → ∀ s ∈ l, may s → s ∈ t) := by
  intro n
  induction n with
  | zero =>
    intro out hn ho
    have := ho.few
    exact ⟨out, Ev.step (fun k => by rw [hopperref10_Order.l0]) (Ev.neg (by omega) (Ev.val rfl)), ho, fun h => by omega⟩
  | succ n ih =>
    intro out hn ho
    have hf : out.length < 255 := by omega
    have start : Least l out 0 (⟨#[]⟩ : ByteArray) := .inl ⟨rfl, fun j _ h => by omega⟩
    -- the least one of all is one thing, whatever the way
    have one : ∃ best, Least l out l.length best := by
      have : ∀ i, i ≤ l.length → ∃ best, Least l out i best := by
        intro i
        induction i with
        | zero => intro _; exact ⟨_, start⟩
        | succ i ih2 =>
          intro hi
          obtain ⟨best, hb⟩ := ih2 (by omega)
          by_cases h : Next out l[i]
          · by_cases h2 : best.data.toList = []
            · exact ⟨_, hb.step_take (by omega) h (.inl h2)⟩
            · cases h3 : bl (l[i]).data.toList best.data.toList with
              | true => exact ⟨_, hb.step_take (by omega) h (.inr h3)⟩
              | false => exact ⟨_, hb.step_keep (by omega) h2 h3⟩
          · exact ⟨_, hb.step_no (by omega) h⟩
      exact this _ (Nat.le_refl _)
    have uniq : ∀ b b', Least l out l.length b → Least l out l.length b' → b.data.toList = b'.data.toList := by
      intro b b' h h'
      rcases h with ⟨h1, h2⟩ | ⟨h1, h2, h3⟩ <;> rcases h' with ⟨h1', h2'⟩ | ⟨h1', h2', h3'⟩
      · rw [h1, h1']
      · obtain ⟨j, hj, rfl⟩ := List.getElem_of_mem h1'
        exact absurd h2' (h2 j hj hj)
      · obtain ⟨j, hj, rfl⟩ := List.getElem_of_mem h1
        exact absurd h2 (h2' j hj hj)
      · obtain ⟨j, hj, rfl⟩ := List.getElem_of_mem h1
        obtain ⟨j', hj', rfl⟩ := List.getElem_of_mem h1'
        have a1 := h3 j' hj' hj' h2'
        have a2 := h3' j hj hj h2
        rcases HopPure.bl_tri (l[j]).data.toList (l[j']).data.toList with h5 | h5 | h5
        · rw [h5] at a2; cases a2
        · exact h5
        · rw [h5] at a1; cases a1
    obtain ⟨best, hb⟩ := one
    by_cases c : best.data.toList = []
    · refine ⟨out, Ev.step (fun k => by rw [hopperref10_Order.l0]) (Ev.pos (by omega) ?_), ho, fun _ s hs hm => ?_⟩
      · exact order_l1 l hl hw out ho hf out (fun _ _ _ => rfl) (fun b hb' hne => absurd ((uniq b best hb' hb).trans c) hne) _ 0 _ rfl (by omega) start
      · rcases ho.all s hs hm with h | h
        · exact h
        · exfalso
          obtain ⟨j, hj, rfl⟩ := List.getElem_of_mem hs
          rcases hb with ⟨_, h2⟩ | ⟨_, h2, _⟩
          · exact h2 j hj hj ⟨hm, h⟩
          · have h4 := h2.1.1
            have h5 := dsz best
            rw [c] at h5; simp at h5; omega
    · obtain ⟨t, h1, h2, h3⟩ := ih (out ++ [best]) (by simp; omega) (ho.push hf hb c)
      refine ⟨t, Ev.step (fun k => by rw [hopperref10_Order.l0]) (Ev.pos (by omega) ?_), h2, h3⟩
      exact order_l1 l hl hw out ho hf t (fun b hb' he => absurd ((uniq best b hb hb').trans he) c) (fun b hb' _ => by rw [ba_ext (uniq b best hb' hb)]; exact h1) _ 0 _ rfl (by omega) start
theorem order_ev (l : List ByteArray) (hl : l.length ≤ maxLen) (hw : ∀ s ∈ l, s.size ≤ maxLen) : ∃ t, Ev (fun k => hopperref10_Order.f k l) t ∧ Made l t ∧ (t.length < 255 → ∀ s ∈ l, may s → s ∈ t) :=
  order_l0 l hl hw _ [] rfl ⟨fun i j hi => by simp [TL] at hi, by simp, by simp, by simp, fun s _ _ => .inr (by simp)⟩
end Go.Proofs.Ytjodnhlfodmpeaa.Pure
