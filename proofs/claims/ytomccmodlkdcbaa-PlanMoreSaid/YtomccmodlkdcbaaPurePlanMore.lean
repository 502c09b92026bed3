/- A right plan stays right with more tables behind; without one of its tables it isn't. No condition. -/
import Derived.Test.YtomccmodlkdcbaaHCapTot
import Derived.Test.YtomccmodlkdcbaaHPlanEv
set_option linter.unusedVariables false
set_option linter.unusedSimpArgs false
namespace Go.Proofs.Ytomccmodlkdcbaa.Pure
open Go.RowKit Go.Proofs.Ytomccmodlkdcbaa.Q Go.Proofs.YtomccmodlkdcbaaW.PrintWords Go.Proofs.YtomccmodlkdcbaaW.PrintLast Go.Proofs.YtomccmodlkdcbaaW.PrintMore
theorem rd46 (l : List S46) (i : Nat) (h : i < l.length) : rd_T46 l (i : Int) = l[i] := by simp [rd_T46, List.getD, h]
theorem named_ev (l : List S46) (hl : l.length ≤ 9223372036854775807) : ∃ b, Ev (fun k => hopperref25_Named.f k l) b ∧ (b = true → l.length ≤ 20) := by
  have loop : ∀ (d i : Nat), l.length - i = d → ∃ b, Ev (fun k => hopperref25_Named.l0 k l (i : Int)) b ∧ (b = true → l.length ≤ 20) := by
    intro d
    induction d with
    | zero => intro i hd; exact ⟨decide ((l.length : Int) ≤ 20), Ev.step (fun k => by rw [hopperref25_Named.l0]) (Ev.neg (by omega) (Ev.val rfl)), fun h => by have := of_decide_eq_true h; omega⟩
    | succ d ih =>
      intro i hd
      have hi : i < l.length := by omega
      obtain ⟨b, next, hb⟩ := ih (i + 1) (by omega)
      rw [← w64s hi (by omega)] at next
      have S : ∀ {b}, Ev (fun k => if ((l[i].f0).size : Int) > 100 then (some false) else (if l[i].f1 < 1 then (some false) else (if l[i].f1 > 8 then (some false) else (hopperref25_Named.l0 k l (wrap64 ((i : Int) + 1)))))) b → Ev (fun k => hopperref25_Named.l0 k l (i : Int)) b := fun {b} h => Ev.step (fun k => by rw [hopperref25_Named.l0, rd46 l i hi]) (Ev.pos (by omega) (Ev.pos (by omega) h))
      by_cases c1 : ((l[i].f0).size : Int) > 100
      · exact ⟨false, S (Ev.pos c1 (Ev.val rfl)), fun h => by cases h⟩
      by_cases c2 : l[i].f1 < 1
      · exact ⟨false, S (Ev.neg c1 (Ev.pos c2 (Ev.val rfl))), fun h => by cases h⟩
      by_cases c3 : l[i].f1 > 8
      · exact ⟨false, S (Ev.neg c1 (Ev.neg c2 (Ev.pos c3 (Ev.val rfl)))), fun h => by cases h⟩
      exact ⟨b, S (Ev.neg c1 (Ev.neg c2 (Ev.neg c3 next))), hb⟩
  exact loop _ 0 rfl
theorem few_of : ∀ (n : Nat) (p : S31), Sm31 n p → FewM p
  | 0, _, h => by cases h
  | n + 1, p, h => by
    cases h with
    | mk _ _ h1 h2 h3 h4 h5 h6 h7 h8 h9 h10 h11 h12 => exact ⟨p, by omega, fun q hq => few_of n q (h12 q hq)⟩
theorem tabsL_mem : ∀ (l : List S31), (∀ q, q ∈ l → ∃ x, Ev (fun k => tablesP k q) x ∧ x.length ≤ nodes31 q ∧ ∀ s, s ∈ x ↔ s ∈ names q) → ∀ out : List ByteArray, out.length + (l.map nodes31).sum ≤ 1000 →
    ∃ o, Ev (fun k => tabsL (fun q => tablesP k q) l out) o ∧ o.length ≤ out.length + (l.map nodes31).sum ∧ ∀ s, s ∈ o ↔ s ∈ out ∨ ∃ q, q ∈ l ∧ s ∈ names q
  | [], _, out, hb => ⟨out, Ev.congr (fun k => by rw [tabsL]) (Ev.val rfl), by simp, fun s => by simp⟩
  | q :: qs, h, out, hb => by
    obtain ⟨x, h1, hl, hx⟩ := h q (by simp)
    rw [List.map_cons, List.sum_cons] at hb ⊢
    obtain ⟨o, o1, o3, o4⟩ := tabsL_mem qs (fun q hq => h q (List.mem_cons_of_mem _ hq)) (out ++ x) (by rw [List.length_append]; omega)
    rw [List.length_append] at o3
    refine ⟨o, Ev.congr (fun k => by rw [tabsL]) (Ev.bind h1 ?_), by omega, fun s => ?_⟩
    · refine Ev.pos (by omega) ?_
      exact o1
    · rw [o4, List.mem_append, hx]
      constructor
      · rintro ((a | a) | ⟨r, a, b⟩)
        · exact .inl a
        · exact .inr ⟨q, List.mem_cons_self .., a⟩
        · exact .inr ⟨r, List.mem_cons_of_mem _ a, b⟩
      · rintro (a | ⟨r, a, b⟩)
        · exact .inl (.inl a)
        · rcases List.mem_cons.1 a with rfl | a
          · exact .inl (.inr b)
          · exact .inr ⟨r, a, b⟩
theorem tables_mem : ∀ (n : Nat) (p : S31), Sm31 n p → ∃ x, Ev (fun k => tablesP k p) x ∧ x.length ≤ nodes31 p ∧ ∀ s, s ∈ x ↔ s ∈ names p
  | 0, p, h => by cases h
  | n + 1, p, h => by
    obtain ⟨_, _, h40, h100, _, _, _, _, _, _, _, _, hk5, hk⟩ := h
    obtain ⟨o, o1, o3, o4⟩ := tabsL_mem p.f12 (fun q hq => tables_mem n q (hk q hq)) (if p.f0 = 1 then [p.f1] else []) (by rw [nodes31_eq] at h40; by_cases c : p.f0 = 1 <;> simp [c] <;> omega)
    have hol : o.length ≤ nodes31 p := by rw [nodes31_eq]; by_cases c : p.f0 = 1 <;> simp [c] at o3 <;> omega
    have hset := compact_sort_set o
    have hss : (sortS o).length = o.length := by unfold sortS; simp
    have hcl : (compS (sortS o)).length ≤ o.length := by
      have := slices_Compact_string_string.le ((sortS o).map toB)
      rw [List.length_map, hss] at this
      unfold compS
      rw [List.length_map]
      exact this
    refine ⟨compS (sortS o), Ev.step (fun k => by rw [tablesP]) (Ev.pos (by omega) (Ev.bind o1 (Ev.bind (Ev.c (?_ : _ = some (sortS o))) (Ev.c ?_)))), Nat.le_trans hcl hol, fun s => ?_⟩
    · unfold slices_Sort_string_string.f
      rw [if_pos (by omega)]
    · unfold slices_Compact_string_string.f
      rw [if_pos (by omega)]
    · rw [hset.2 s, o4, names_mem]
      by_cases c : p.f0 = 1
      · rw [if_pos c]; simp [c]
      · rw [if_neg c]; simp [c]
theorem tab_none (l : List S46) (nm : ByteArray) (h : ∀ t, t ∈ l → t.f0.toList ≠ nm.toList) : tab l nm = 0 := by
  unfold tab
  rw [if_pos]
  unfold firstOf
  have : l.findIdx? (scanIs nm) = none := by
    rw [List.findIdx?_eq_none_iff]
    intro t ht
    unfold scanIs
    exact beq_eq_false_iff_ne.2 (h t ht)
  rw [this]
  decide
theorem tab_app (l m : List S46) (nm : ByteArray) (h : tab l nm ≠ 0) : tab (l ++ m) nm = tab l nm := by
  cases hf : l.findIdx? (scanIs nm) with
  | none =>
    have e : firstOf (scanIs nm) l = -1 := by unfold firstOf; rw [hf]
    unfold tab at h
    rw [e, if_pos (by decide)] at h
    exact absurd rfl h
  | some i =>
    have hi : i < l.length := by
      rw [List.findIdx?_eq_some_iff_getElem] at hf
      exact hf.1
    have e : firstOf (scanIs nm) l = (i : Int) := by unfold firstOf; rw [hf]
    have e2 : firstOf (scanIs nm) (l ++ m) = (i : Int) := by unfold firstOf; rw [List.findIdx?_append, hf]; rfl
    unfold tab
    rw [e, e2, if_neg (by omega), if_neg (by omega), rd46 _ i (by simp; omega), rd46 _ i hi, List.getElem_append_left hi]
theorem moreL_ev (p : S31) (l1 : List S46) (hf : FewM p) : ∀ xs : List ByteArray, (∀ s, s ∈ xs → s ∈ names p) → Ev (fun k => moreL (fun l => colsP k p l 12) l1 xs) true
  | [], _ => Ev.congr (fun k => by rw [moreL]) (Ev.val rfl)
  | nm :: ns, hx => by
    obtain ⟨r, hr⟩ := cols_tot (lessL l1 nm) _ hf 12
    have hz : r = 0 := by
      refine Classical.byContradiction fun z => ?_
      obtain ⟨K, hK⟩ := hr
      refine (cols_names (lessL l1 nm) K _ 12 r (hK K (Nat.le_refl _)) z).1 nm (hx _ (List.mem_cons_self ..)) (tab_none _ nm fun t ht => ?_)
      have := (List.mem_filter.1 ht).2
      simpa using this
    exact Ev.congr (fun k => by rw [moreL]) (Ev.bind hr (Ev.pos hz (moreL_ev p l1 hf ns fun s hs => hx s (List.mem_cons_of_mem _ hs))))
theorem PlanMore : hopperlaw25_PlanMore.Pure := by
  intro a0_0 a0_1 a0_2 a0_3 a0_4 a0_5 a0_6 l0_7 l0_8 l0_9 l0_10 a0_11 l0_12 l0_13 l0_14 a0_15 a0_16 l0_17 l1 l2 _ _ _ _ _ _ _ _ _ _ _ _ _ _ _ _ _ _ hl1 hl2
  refine Ev.rounds ?_
  unfold hopperlaw25_PlanMore.f lawMoreP
  refine Ev.bind awake_ev (Ev.pos rfl ?_)
  obtain ⟨b, hb, hs⟩ := small_ev31 21 ⟨a0_0, a0_1, ⟨a0_2, a0_3, a0_4, a0_5, a0_6, l0_7⟩, l0_8, l0_9, l0_10, a0_11, l0_12, l0_13, l0_14, a0_15, a0_16, l0_17⟩ 20 (by omega) (by omega) (by omega)
  refine Ev.bind hb ?_
  cases b with
  | false => exact Ev.neg (by decide) (Ev.val rfl)
  | true =>
  refine Ev.pos rfl ?_
  have hS := hs rfl
  generalize (⟨a0_0, a0_1, ⟨a0_2, a0_3, a0_4, a0_5, a0_6, l0_7⟩, l0_8, l0_9, l0_10, a0_11, l0_12, l0_13, l0_14, a0_15, a0_16, l0_17⟩ : S31) = p at hS hb
  obtain ⟨c, hc, c20⟩ := named_ev l1 (Nat.le_trans hl1.1 (by decide))
  refine Ev.bind hc ?_
  cases c with
  | false => exact Ev.neg (by decide) (Ev.val rfl)
  | true =>
  refine Ev.pos rfl ?_
  obtain ⟨e, he, e20⟩ := named_ev l2 (Nat.le_trans hl2.1 (by decide))
  refine Ev.bind he ?_
  cases e with
  | false => exact Ev.neg (by decide) (Ev.val rfl)
  | true =>
  refine Ev.pos rfl ?_
  have h1 := c20 rfl
  have h2 := e20 rfl
  have hf := few_of _ _ hS
  obtain ⟨r, hr⟩ := cols_tot l1 _ hf 12
  refine Ev.bind hr ?_
  by_cases z : r = 0
  · exact Ev.pos z (Ev.val rfl)
  refine Ev.neg z (Ev.pos (by omega) ?_)
  have hn : (∀ s, s ∈ names p → tab l1 s ≠ 0) ∧ names p ≠ [] := by
    obtain ⟨K, hK⟩ := hr
    exact cols_names l1 K _ 12 r (hK K (Nat.le_refl _)) z
  have hr2 : Ev (fun k => colsP k p (l1 ++ l2) 12) r := by
    obtain ⟨K, hK⟩ := hr
    refine ⟨K, fun k hk => ?_⟩
    show colsP k p (l1 ++ l2) 12 = some r
    rw [cols_congr (l1 ++ l2) l1 k _ 12 (fun s hs => tab_app l1 l2 s (hn.1 s hs))]
    exact hK k hk
  obtain ⟨xs, hx, hxl, hxm⟩ := tables_mem _ _ hS
  have h0 : 0 < xs.length := by
    cases hnm : names p with
    | nil => exact absurd hnm hn.2
    | cons s _ => exact List.length_pos_of_mem ((hxm s).2 (by rw [hnm]; exact List.mem_cons_self ..))
  exact Ev.bind hr2 (Ev.bind hx (Ev.bind (moreL_ev p l1 hf xs fun s hs => (hxm s).1 hs) (Ev.pos ⟨rfl, h0⟩ (Ev.val rfl))))
end Go.Proofs.Ytomccmodlkdcbaa.Pure
