/- Predicates: what they say of a row. -/
import Derived.Test.YtdccooaddoafnaaGreatDoorHNeedLeaf
import Derived.Test.YtdccooaddoafnaaGreatDoorHLikeOrd
import Derived.Test.YtdccooaddoafnaaGreatDoorHCmpEv
set_option linter.unusedVariables false
set_option linter.unusedSimpArgs false
namespace Go.Proofs.YtdccooaddoafnaaGreatDoor.Pure
open Go.RowKit Go.Proofs.YtdccooaddoafnaaGreatDoor.Q Go.Proofs.YtdccooaddoafnaaGreatDoorW.PrintWords Go.Proofs.YtdccooaddoafnaaGreatDoorW.PrintLast Go.Proofs.YtdccooaddoafnaaGreatDoorW.PrintMore
open TextPure (nth nums cmpZ cmpZ_zero nums_inj)
/-! ### grams of a part -/
theorem gr_part {a r b : List UInt8} {x s : ByteArray} (hx : x.data.toList = r) (hs : s.data.toList = a ++ r ++ b) (i : Nat) (hi : i + 3 ≤ x.size) : gr x i = gr s (a.length + i) := by
  have key : ∀ j, j < r.length → bt x (j : Int) = bt s ((a.length + j : Nat) : Int) := by
    intro j hj
    rw [bt_nth, bt_nth, hx, hs]
    unfold nth
    rw [List.append_assoc, List.getD_eq_getElem?_getD, List.getD_eq_getElem?_getD, List.getElem?_append_right (by omega), Nat.add_sub_cancel_left, List.getElem?_append_left hj]
  have hl : r.length = x.size := by rw [← hx, dsz]
  unfold gr
  rw [key i (by omega), key (i + 1) (by omega), key (i + 2) (by omega)]
  rfl
theorem grams_part {x s : ByteArray} (h : x.data.toList <:+: s.data.toList) : ∀ g, g ∈ rawG x → g ∈ rawG s := by
  obtain ⟨a, b, e⟩ := h
  intro g hg
  obtain ⟨i, hi, rfl⟩ := mem_rawG.1 hg
  have hl : s.data.toList.length = s.size := dsz s
  have hlx : x.data.toList.length = x.size := dsz x
  rw [← e, List.length_append, List.length_append] at hl
  exact mem_rawG.2 ⟨a.length + i, by omega, gr_part rfl e.symm i hi⟩
/-! ### what holds -/
theorem ord_mem : ∀ {L : List (List UInt8)} {s : List UInt8}, Ord L s → ∀ x, x ∈ L → x <:+: s
  | y :: L, s, ⟨n, h1, h2, h3⟩, x, hx => by
    rcases List.mem_cons.1 hx with rfl | hx
    · exact h2.isInfix.trans (List.drop_suffix n s).isInfix
    · exact (ord_mem h3 x hx).trans (List.drop_suffix _ s).isInfix
  | [], s, _, x, hx => by cases hx
theorem order_ev (p : S24) (hp : p.f2.size ≤ 4096) (h0 : 0 ≤ p.f4) (h2 : p.f4 ≤ 2) (s : ByteArray) (hs : s.size ≤ 5000) : ∃ c, Ev (fun k => need_order.f k p.f0 p.f1 p.f2 p.f3 p.f4 p.f5 s) c ∧ (p.f4 = 0 → c = cmpZ (nums s.data.toList) (nums p.f2.data.toList)) := by
  unfold need_order.f
  by_cases c1 : p.f4 = 1
  · exact ⟨_, Ev.pos c1 (Ev.bind (Ev.c (byfold_f s p.f2 (by omega) (by omega))) (Ev.val rfl)), fun e => by omega⟩
  by_cases c2 : p.f4 = 2
  · obtain ⟨ps, h1⟩ := pts s
    obtain ⟨qs, h2⟩ := pts p.f2
    exact ⟨_, Ev.neg c1 (Ev.pos c2 (Ev.bind (bypoints_ev h1 h2 (by omega) (by omega)) (Ev.val rfl))), fun e => by omega⟩
  · exact ⟨_, Ev.neg c1 (Ev.neg c2 (Ev.bind (Ev.c (cmps_f s p.f2)) (Ev.val rfl))), fun _ => rfl⟩
theorem holds_ev (p : S24) (hk1 : 1 ≤ p.f0) (hk2 : p.f0 ≤ 10) (hp : p.f2.size ≤ 4096) (h0 : 0 ≤ p.f4) (h2 : p.f4 ≤ 2) (s : ByteArray) (hs : s.size ≤ 5000) : ∃ b, Ev (fun k => holdsP k p s) b ∧ (b = true → ∀ r, r ∈ needs p → r.data.toList <:+: s.data.toList) := by
  have hds := dsz s
  have hdp := dsz p.f2
  unfold holdsP need_holds.f
  by_cases c7 : p.f0 = 7
  · have hn : needs p = [p.f2] := by unfold needs; rw [if_neg (by omega), if_pos (.inl c7)]
    by_cases c : (s.size : Int) ≥ (p.f2.size : Int)
    · have hf : strings_HasPrefix.f s p.f2 = some ((s.extract 0 p.f2.size).toList == p.f2.toList) := by
        unfold strings_HasPrefix.f stringslite_HasPrefix.f
        rw [if_pos c, if_pos (by omega), if_pos (by omega)]
        rfl
      refine ⟨_, Ev.pos c7 (Ev.bind (Ev.c hf) (Ev.val rfl)), fun e r hr => ?_⟩
      rw [hn] at hr
      rw [List.mem_singleton.1 hr]
      have := beq_iff_eq.1 e
      rw [tl, tl, cut_to] at this
      rw [← this]
      exact (List.take_prefix _ _).isInfix
    · have hf : strings_HasPrefix.f s p.f2 = some false := by
        unfold strings_HasPrefix.f stringslite_HasPrefix.f
        rw [if_neg c]; rfl
      exact ⟨false, Ev.pos c7 (Ev.bind (Ev.c hf) (Ev.val rfl)), fun e => by cases e⟩
  by_cases c8 : p.f0 = 8
  · have hn : needs p = [p.f2] := by unfold needs; rw [if_neg (by omega), if_pos (.inr (.inl c8))]
    by_cases c : (s.size : Int) ≥ (p.f2.size : Int)
    · have hf : strings_HasSuffix.f s p.f2 = some ((s.extract ((s.size : Int) - (p.f2.size : Int)).toNat s.size).toList == p.f2.toList) := by
        unfold strings_HasSuffix.f stringslite_HasSuffix.f
        rw [if_pos c, w64 (x := (s.size : Int) - (p.f2.size : Int)) (by omega) (by omega), if_pos (by omega), if_pos (by omega)]
        rfl
      refine ⟨_, Ev.neg c7 (Ev.pos c8 (Ev.bind (Ev.c hf) (Ev.val rfl))), fun e r hr => ?_⟩
      rw [hn] at hr
      rw [List.mem_singleton.1 hr]
      have := beq_iff_eq.1 e
      rw [tl, tl, cut_from] at this
      rw [← this]
      exact (List.drop_suffix _ _).isInfix
    · have hf : strings_HasSuffix.f s p.f2 = some false := by
        unfold strings_HasSuffix.f stringslite_HasSuffix.f
        rw [if_neg c]; rfl
      exact ⟨false, Ev.neg c7 (Ev.pos c8 (Ev.bind (Ev.c hf) (Ev.val rfl))), fun e => by cases e⟩
  by_cases c9 : p.f0 = 9
  · have hn : needs p = [p.f2] := by unfold needs; rw [if_neg (by omega), if_pos (.inr (.inr c9))]
    have hf : strings_Contains.f s p.f2 = some (decide (Lib.index s.data.toList p.f2.data.toList ≥ 0)) := by
      unfold strings_Contains.f strings_Index.f
      rw [if_pos (by omega)]; rfl
    refine ⟨_, Ev.neg c7 (Ev.neg c8 (Ev.pos c9 (Ev.bind (Ev.c hf) (Ev.val rfl)))), fun e r hr => ?_⟩
    rw [hn] at hr
    rw [List.mem_singleton.1 hr]
    rcases Lib.index_spec s.data.toList p.f2.data.toList with ⟨h1, _⟩ | ⟨i, h1, h2, h3, _⟩
    · rw [h1] at e; exact absurd e (by decide)
    · unfold Lib.occAt at h3
      exact (List.isPrefixOf_iff_prefix.1 h3).isInfix.trans (List.drop_suffix _ _).isInfix
  by_cases c10 : p.f0 = 10
  · have hn : needs p = runsS (presAll p.f2 p.f3).1 := by unfold needs; rw [if_neg (by omega), if_neg (by omega), if_pos c10]
    obtain ⟨hl, hok⟩ := signs_len p.f2 p.f3
    refine ⟨HopPure.lm (presAll p.f2 p.f3).1 s.data.toList, Ev.neg c7 (Ev.neg c8 (Ev.neg c9 (Ev.pos c10 (Ev.bind (parse_ev p.f2 p.f3 (by omega)) (Ev.bind (Ev.c ?_) (Ev.val rfl)))))), fun e r hr => ?_⟩
    · unfold like_Match.f
      rw [if_pos (by omega), if_pos (by omega)]
    · rw [hn] at hr
      unfold runsS at hr
      obtain ⟨t, ht, rfl⟩ := List.mem_map.1 hr
      have := runs_ord _ [] s.data.toList hok e
      have h3 := ord_mem this (nb t) (List.mem_map_of_mem (f := nb) ht)
      rw [strOfNums_data]
      simpa [nb] using h3
  obtain ⟨c, hc, he⟩ := order_ev p hp h0 h2 s hs
  refine ⟨rdOf false [(c == 0), (c != 0), decide (c < 0), decide (c ≤ 0), decide (c > 0), decide (c ≥ 0)] (p.f0 - 1), Ev.neg c7 (Ev.neg c8 (Ev.neg c9 (Ev.neg c10 (Ev.bind hc (Ev.bind (Ev.now _) ?_))))), fun e r hr => ?_⟩
  · rw [w64 (x := p.f0 - 1) (by omega) (by omega)]
    exact Ev.pos (by omega) (Ev.pos (by simp; omega) (Ev.val rfl))
  · unfold needs at hr
    by_cases c1 : p.f0 = 1
    · rw [if_pos c1] at hr
      by_cases c4 : p.f4 = 0
      · rw [if_pos c4] at hr
        rw [List.mem_singleton.1 hr]
        rw [c1] at e
        have e2 : c = 0 := by simpa [rdOf] using e
        rw [he c4, cmpZ_zero] at e2
        rw [nums_inj e2]
        exact List.infix_refl _
      · rw [if_neg c4] at hr; cases hr
    · rw [if_neg c1, if_neg (by omega), if_neg c10] at hr; cases hr
/-! ### what is said -/
/-- The kids' answers put together: the one that settles it, Unknown, or the other one. -/
def bothV (st : Int) : List Int → Int → Int
  | [], out => out
  | x :: xs, out => if x = st then st else if x = 2 then bothV st xs 2 else bothV st xs out
theorem both_ev (f : Nat → S24 → Option Int) (v : S24 → Int) (st : Int) : ∀ l : List S24, (∀ q, q ∈ l → Ev (fun k => f k q) (v q)) → ∀ out, Ev (fun k => bothL (f k) st l out) (bothV st (l.map v) out)
  | [], _, out => Ev.congr (fun k => by rw [bothL]) (Ev.val (show out = _ from by simp [bothV]))
  | q :: qs, h, out => by
    have h1 := h q (List.mem_cons_self ..)
    have h2 := both_ev f v st qs fun y hy => h y (List.mem_cons_of_mem _ hy)
    refine Ev.congr (fun k => by rw [bothL]) (Ev.bind h1 ?_)
    rw [List.map_cons, bothV]
    by_cases c1 : v q = st
    · rw [if_pos c1]; exact Ev.pos c1 (Ev.val rfl)
    rw [if_neg c1]
    by_cases c2 : v q = 2
    · rw [if_pos c2]; exact Ev.neg c1 (Ev.pos c2 (h2 2))
    · rw [if_neg c2]; exact Ev.neg c1 (Ev.neg c2 (h2 out))
theorem bothV_eq (st : Int) (hst : st ≠ 2) : ∀ (xs : List Int) (out : Int), bothV st xs out = if st ∈ xs then st else if 2 ∈ xs then 2 else out
  | [], out => by simp [bothV]
  | x :: xs, out => by
    rw [bothV]
    by_cases c1 : x = st
    · rw [if_pos c1, if_pos (by simp [c1])]
    have m1 : st ∈ x :: xs ↔ st ∈ xs := by rw [List.mem_cons]; exact ⟨fun h => h.resolve_left (fun e => c1 e.symm), .inr⟩
    rw [if_neg c1]
    by_cases h1 : st ∈ xs
    · rw [if_pos (m1.2 h1)]
      by_cases c2 : x = 2
      · rw [if_pos c2, bothV_eq st hst xs 2, if_pos h1]
      · rw [if_neg c2, bothV_eq st hst xs out, if_pos h1]
    rw [if_neg (fun h => h1 (m1.1 h))]
    by_cases c2 : x = 2
    · rw [if_pos c2, bothV_eq st hst xs 2, if_neg h1, if_pos (by simp [c2] : (2 : Int) ∈ x :: xs)]
      split <;> rfl
    · have m2 : (2 : Int) ∈ x :: xs ↔ (2 : Int) ∈ xs := by rw [List.mem_cons]; exact ⟨fun h => h.resolve_left (fun e => c2 e.symm), .inr⟩
      rw [if_neg c2, bothV_eq st hst xs out, if_neg h1]
      by_cases h2 : (2 : Int) ∈ xs
      · rw [if_pos h2, if_pos (m2.2 h2)]
      · rw [if_neg h2, if_neg (fun h => h2 (m2.1 h))]
/-- One of the three answers. -/
def Tri (x : Int) : Prop := x = 0 ∨ x = 1 ∨ x = 2
/-- A row as predicates are asked of it. -/
def RowOk (cols : Int) (row : List S38) : Prop := (row.length : Int) = cols ∧ ∀ v, v ∈ row → v.f1.size ≤ 5000
theorem yes_f (b : Bool) : need_yes.f b = some (if b = true then 1 else 0) := by unfold need_yes.f; cases b <;> rfl
noncomputable def saysV (row : List S38) (p : S24) : Int := ans (fun k => saysP k p row)
noncomputable def holdsV (p : S24) (s : ByteArray) : Bool := ans (fun k => holdsP k p s)
/-- What a leaf says. -/
noncomputable def leafV (p : S24) (v : S38) : Int := if p.f0 = 11 then (if v.f0 = true then 1 else 0) else if v.f0 = true then 2 else if holdsV p v.f1 = true then 1 else 0
theorem leafV_tri (p : S24) (v : S38) : Tri (leafV p v) := by
  unfold leafV Tri
  split
  · split <;> simp
  · split
    · simp
    · split <;> simp
theorem saysLeaf_ev {cols : Int} (p : S24) (hk1 : 1 ≤ p.f0) (hk2 : p.f0 ≤ 11) (h1 : 0 ≤ p.f1) (h2 : p.f1 < cols) (hp : p.f2.size ≤ 4096) (h40 : 0 ≤ p.f4) (h42 : p.f4 ≤ 2) (row : List S38) (hr : RowOk cols row) :
    ∃ v, v ∈ row ∧ row[p.f1.toNat]? = some v ∧ Ev (fun k => saysP k p row) (leafV p v) := by
  obtain ⟨hl, hs⟩ := hr
  obtain ⟨j, ej⟩ : ∃ j : Nat, p.f1 = (j : Int) := ⟨p.f1.toNat, by omega⟩
  have hj : j < row.length := by omega
  refine ⟨row[j], List.getElem_mem hj, by rw [ej]; simp [hj], Ev.step (fun k => by rw [saysP]) (Ev.neg (by omega) (Ev.neg (by omega) (Ev.neg (by omega) (Ev.pos h1 (Ev.pos (by omega) ?_)))))⟩
  rw [ej, rdV row j hj]
  have hsz := hs _ (List.getElem_mem hj)
  generalize row[j] = v at hsz ⊢
  unfold saysLeaf leafV
  by_cases c11 : p.f0 = 11
  · rw [if_pos c11]
    exact Ev.pos c11 (Ev.c (yes_f _))
  rw [if_neg c11]
  refine Ev.neg c11 ?_
  by_cases cn : v.f0 = true
  · rw [if_pos cn]; exact Ev.pos cn (Ev.val rfl)
  rw [if_neg cn]
  refine Ev.neg cn ?_
  obtain ⟨b, hb, _⟩ := holds_ev p hk1 (by omega) hp h40 h42 v.f1 hsz
  have : holdsV p v.f1 = b := ans_eq hb
  rw [this]
  exact Ev.bind hb (Ev.c (yes_f b))
theorem bothV_tri {st out : Int} (hs : st = 0 ∨ st = 1) (ho : Tri out) (xs : List Int) : Tri (bothV st xs out) := by
  rw [bothV_eq st (by omega)]
  unfold Tri at ho ⊢
  split
  · omega
  · split <;> omega
theorem says_ev {cols : Int} {p : S24} (hR : Rt cols p) (row : List S38) (hr : RowOk cols row) : ∃ x, Ev (fun k => saysP k p row) x ∧ Tri x := by
  induction hR with
  | leaf p hk1 hk2 h5 h1 h2 hp h40 h42 h6 =>
    obtain ⟨v, _, _, h⟩ := saysLeaf_ev p hk1 hk2 h1 h2 hp h40 h42 row hr
    exact ⟨_, h, leafV_tri p v⟩
  | node p hk1 hk2 hn1 hn2 hn3 hq ih =>
    have hv : ∀ q, q ∈ p.f5 → Ev (fun k => saysP k q row) (saysV row q) ∧ Tri (saysV row q) := fun q h => by
      obtain ⟨x, hx, ht⟩ := ih q h
      have : saysV row q = x := ans_eq hx
      rw [this]; exact ⟨hx, ht⟩
    by_cases c12 : p.f0 = 12
    · exact ⟨bothV 0 (p.f5.map (saysV row)) 1, Ev.step (fun k => by rw [saysP]) (Ev.pos c12 (both_ev _ (saysV row) 0 p.f5 (fun q h => (hv q h).1) 1)), bothV_tri (.inl rfl) (.inr (.inl rfl)) _⟩
    by_cases c13 : p.f0 = 13
    · exact ⟨bothV 1 (p.f5.map (saysV row)) 0, Ev.step (fun k => by rw [saysP]) (Ev.neg c12 (Ev.pos c13 (both_ev _ (saysV row) 1 p.f5 (fun q h => (hv q h).1) 0))), bothV_tri (.inr rfl) (.inl rfl) _⟩
    have c14 : p.f0 = 14 := by omega
    have h0 : 0 < p.f5.length := by omega
    have hm : p.f5.getD 0 z24 ∈ p.f5 := getD_mem _ _ _ h0
    obtain ⟨h1, ht⟩ := hv _ hm
    generalize saysV row (p.f5.getD 0 z24) = x at h1 ht
    by_cases c2 : x = 2
    · exact ⟨2, Ev.step (fun k => by rw [saysP]) (Ev.neg c12 (Ev.neg c13 (Ev.pos c14 (Ev.pos h0 (Ev.bind h1 (Ev.pos c2 (Ev.val rfl))))))), .inr (.inr rfl)⟩
    · refine ⟨wrap64 (1 - x), Ev.step (fun k => by rw [saysP]) (Ev.neg c12 (Ev.neg c13 (Ev.pos c14 (Ev.pos h0 (Ev.bind h1 (Ev.neg c2 (Ev.val rfl))))))), ?_⟩
      unfold Tri at ht ⊢
      rw [w64 (by omega) (by omega)]
      omega
end Go.Proofs.YtdccooaddoafnaaGreatDoor.Pure
