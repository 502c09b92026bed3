/- What a predicate says of a row: the program and the reference alike. -/
import Derived.Test.YtdccooaddoafnaaGreatDoorHNeedEv
import Derived.Test.YtdccooaddoafnaaGreatDoorHRefCmp
import Derived.Test.YtdccooaddoafnaaGreatDoorHLikeRef
import Derived.Test.YtdccooaddoafnaaGreatDoorHLikeTab
set_option linter.unusedVariables false
set_option linter.unusedSimpArgs false
namespace Go.Proofs.YtdccooaddoafnaaGreatDoor.Pure
open Go.RowKit Go.Proofs.YtdccooaddoafnaaGreatDoor.Q Go.Proofs.YtdccooaddoafnaaGreatDoorW.PrintWords Go.Proofs.YtdccooaddoafnaaGreatDoorW.PrintLast Go.Proofs.YtdccooaddoafnaaGreatDoorW.PrintMore
open TextPure (nth nums cmpZ)
open Go.Lib (index occAt)
/-! ### has -/
theorem index_ex (s x : List UInt8) : index s x ≥ 0 ↔ ∃ i, i ≤ s.length ∧ x <+: s.drop i := by
  rcases Lib.index_spec s x with ⟨h1, h2⟩ | ⟨i, h1, h2, h3, _⟩
  · rw [h1]
    refine ⟨fun h => absurd h (by decide), fun ⟨i, hi, hp⟩ => ?_⟩
    have := h2 i hi
    unfold occAt at this
    rw [List.isPrefixOf_iff_prefix.2 hp] at this
    cases this
  · rw [h1]
    exact ⟨fun _ => ⟨i, h2, by unfold occAt at h3; exact List.isPrefixOf_iff_prefix.1 h3⟩, fun _ => by omega⟩
theorem part_eq (s x : ByteArray) (i : Nat) (h : i + x.size ≤ s.size) : ((s.extract i (i + x.size)).toList = x.toList) ↔ x.data.toList <+: s.data.toList.drop i := by
  rw [tl, tl, Lib.extract_data, List.prefix_iff_eq_take]
  have hx := dsz x
  rw [hx]
  have e : (s.data.extract i (i + x.size)).toList = (s.data.toList.drop i).take x.size := by
    rw [Array.toList_extract]
    simp [List.extract]
  constructor
  · intro hh; rw [← hh]; first | exact e.symm ▸ rfl | simp [e]
  · intro hh; rw [hh]; first | exact e | simp [e]
theorem has_l0 (s x : ByteArray) (hs : s.size ≤ 5000) (hx : x.size ≤ 5000) : ∀ (n i : Nat), s.size + 1 - i = n → i ≤ s.size + 1 → (∀ j, j < i → ¬ x.data.toList <+: s.data.toList.drop j) →
    Ev (fun k => hopperref16_has.l0 k s x (i : Int)) (decide (index s.data.toList x.data.toList ≥ 0)) := by
  have hds := dsz s
  have hdx := dsz x
  intro n
  induction n with
  | zero =>
    intro i hn hi hb
    refine Ev.step (fun k => by rw [hopperref16_has.l0]) (Ev.neg (by rw [w64 (by omega) (by omega)]; omega) (Ev.val ?_))
    rw [eq_comm, decide_eq_false_iff_not, index_ex]
    rintro ⟨j, hj, hp⟩
    exact hb j (by omega) hp
  | succ n ih =>
    intro i hn hi hb
    have e1 : wrap64 ((i : Int) + (x.size : Int)) = ((i + x.size : Nat) : Int) := by rw [w64 (by omega) (by omega)]; omega
    refine Ev.step (fun k => by rw [hopperref16_has.l0, e1]) ?_
    by_cases c : i + x.size ≤ s.size
    · refine Ev.pos (by omega) (Ev.pos (by omega) (Ev.pos (by omega) ?_))
      rw [Int.toNat_natCast, Int.toNat_natCast]
      by_cases c2 : x.data.toList <+: s.data.toList.drop i
      · refine Ev.pos ((part_eq s x i c).2 c2) (Ev.val ?_)
        rw [eq_comm, decide_eq_true_iff, index_ex]
        exact ⟨i, by omega, c2⟩
      · refine Ev.neg (fun h => c2 ((part_eq s x i c).1 h)) ?_
        rw [w64s (n := i + 1) (by omega) (by omega)]
        exact ih (i + 1) (by omega) (by omega) (fun j hj => by
          by_cases e : j = i
          · subst e; exact c2
          · exact hb j (by omega))
    · refine Ev.neg (by omega) (Ev.val ?_)
      rw [eq_comm, decide_eq_false_iff_not, index_ex]
      rintro ⟨j, hj, hp⟩
      have h1 := hp.length_le
      rw [List.length_drop] at h1
      by_cases cj : j < i
      · exact hb j cj hp
      · omega
theorem has_ev' (s x : ByteArray) (hs : s.size ≤ 5000) (hx : x.size ≤ 5000) : Ev (fun k => hopperref16_has.f k s x) (decide (index s.data.toList x.data.toList ≥ 0)) := by
  unfold hopperref16_has.f
  exact has_l0 s x hs hx _ 0 rfl (by omega) (fun j hj => by omega)
/-! ### the leaves -/
theorem order2_ev (p : S24) (hp : p.f2.size ≤ 4096) (h0 : 0 ≤ p.f4) (h2 : p.f4 ≤ 2) (s : ByteArray) (hs : s.size ≤ 5000) : ∃ c, Ev (fun k => need_order.f k p.f0 p.f1 p.f2 p.f3 p.f4 p.f5 s) c ∧ Ev (fun k => hopperref16_Compare.f k s p.f2 p.f4) c := by
  unfold need_order.f hopperref16_Compare.f
  by_cases c1 : p.f4 = 1
  · exact ⟨_, Ev.pos c1 (Ev.bind (Ev.c (byfold_f s p.f2 (by omega) (by omega))) (Ev.val rfl)), Ev.pos c1 (Ev.bind (rbyfold_ev s p.f2 (by omega) (by omega)) (Ev.val rfl))⟩
  by_cases c2 : p.f4 = 2
  · obtain ⟨ps, h1⟩ := pts s
    obtain ⟨qs, h2⟩ := pts p.f2
    exact ⟨_, Ev.neg c1 (Ev.pos c2 (Ev.bind (bypoints_ev h1 h2 (by omega) (by omega)) (Ev.val rfl))), Ev.neg c1 (Ev.pos c2 (Ev.bind (rbypoints_ev h1 h2 (by omega) (by omega)) (Ev.val rfl)))⟩
  · exact ⟨_, Ev.neg c1 (Ev.neg c2 (Ev.bind (Ev.c (cmps_f s p.f2)) (Ev.val rfl))), Ev.neg c1 (Ev.neg c2 (Ev.bind (rcompare_ev s p.f2 (by omega)) (Ev.val rfl)))⟩
theorem Ev.mapE {α β : Type} {g : Nat → Option α} {r : α} (f : α → β) (h : Ev g r) : Ev (fun k => (g k).map f) (f r) := Ev.map1 f h
theorem holds2_ev (p : S24) (hk1 : 1 ≤ p.f0) (hk2 : p.f0 ≤ 10) (hp : p.f2.size ≤ 4096) (h0 : 0 ≤ p.f4) (h2 : p.f4 ≤ 2) (s : ByteArray) (hs : s.size ≤ 5000) : ∃ b, Ev (fun k => holdsP k p s) b ∧ Ev (fun k => refLeaf k p ⟨false, s⟩) (bitS b) := by
  have hds := dsz s
  have hdp := dsz p.f2
  have c11 : ¬ p.f0 = 11 := by omega
  have nf : ¬ (false = true) := by decide
  unfold holdsP need_holds.f refLeaf
  by_cases c7 : p.f0 = 7
  · by_cases c : (s.size : Int) ≥ (p.f2.size : Int)
    · have hf : strings_HasPrefix.f s p.f2 = some ((s.extract 0 p.f2.size).toList == p.f2.toList) := by
        unfold strings_HasPrefix.f stringslite_HasPrefix.f
        rw [if_pos c, if_pos (by omega), if_pos (by omega)]
        rfl
      have hg : hopperref16_Begins.f s p.f2 = some ((s.extract 0 p.f2.size).toList == p.f2.toList) := by
        unfold hopperref16_Begins.f
        rw [if_pos (by omega), if_pos (by omega)]
      exact ⟨_, Ev.pos c7 (Ev.bind (Ev.c hf) (Ev.val rfl)), Ev.neg c11 (Ev.neg nf (Ev.pos c7 (Ev.mapE bitS (Ev.c hg))))⟩
    · have hf : strings_HasPrefix.f s p.f2 = some false := by
        unfold strings_HasPrefix.f stringslite_HasPrefix.f
        rw [if_neg c]; rfl
      have hg : hopperref16_Begins.f s p.f2 = some false := by
        unfold hopperref16_Begins.f
        rw [if_neg (by omega)]
      exact ⟨_, Ev.pos c7 (Ev.bind (Ev.c hf) (Ev.val rfl)), Ev.neg c11 (Ev.neg nf (Ev.pos c7 (Ev.mapE bitS (Ev.c hg))))⟩
  by_cases c8 : p.f0 = 8
  · by_cases c : (s.size : Int) ≥ (p.f2.size : Int)
    · have hf : strings_HasSuffix.f s p.f2 = some (endsS s p.f2) := by
        unfold strings_HasSuffix.f stringslite_HasSuffix.f endsS
        rw [if_pos c, w64 (x := (s.size : Int) - (p.f2.size : Int)) (by omega) (by omega), if_pos (by omega), if_pos (by omega), if_pos (by omega), show ((s.size : Int) - (p.f2.size : Int)).toNat = s.size - p.f2.size by omega]
        rfl
      exact ⟨_, Ev.neg c7 (Ev.pos c8 (Ev.bind (Ev.c hf) (Ev.val rfl))), Ev.neg c11 (Ev.neg nf (Ev.neg c7 (Ev.pos c8 (Ev.pos (show s.size ≤ _ by omega) (Ev.val rfl)))))⟩
    · have hf : strings_HasSuffix.f s p.f2 = some (endsS s p.f2) := by
        unfold strings_HasSuffix.f stringslite_HasSuffix.f endsS
        rw [if_neg c, if_neg (by omega)]; rfl
      exact ⟨_, Ev.neg c7 (Ev.pos c8 (Ev.bind (Ev.c hf) (Ev.val rfl))), Ev.neg c11 (Ev.neg nf (Ev.neg c7 (Ev.pos c8 (Ev.pos (show s.size ≤ _ by omega) (Ev.val rfl)))))⟩
  by_cases c9 : p.f0 = 9
  · have hf : strings_Contains.f s p.f2 = some (decide (index s.data.toList p.f2.data.toList ≥ 0)) := by
      unfold strings_Contains.f strings_Index.f
      rw [if_pos (by omega)]; rfl
    exact ⟨_, Ev.neg c7 (Ev.neg c8 (Ev.pos c9 (Ev.bind (Ev.c hf) (Ev.val rfl)))), Ev.neg c11 (Ev.neg nf (Ev.neg c7 (Ev.neg c8 (Ev.pos c9 (Ev.mapE bitS (has_ev' s p.f2 hs (by omega)))))))⟩
  by_cases c10 : p.f0 = 10
  · obtain ⟨hl, hok⟩ := signs_len p.f2 p.f3
    have hm : like_Match.f (presAll p.f2 p.f3).1 s = some (HopPure.lm (presAll p.f2 p.f3).1 s.data.toList) := by
      unfold like_Match.f
      rw [if_pos (by omega), if_pos (by omega)]
    exact ⟨_, Ev.neg c7 (Ev.neg c8 (Ev.neg c9 (Ev.pos c10 (Ev.bind (parse_ev p.f2 p.f3 (by omega)) (Ev.bind (Ev.c hm) (Ev.val rfl)))))), Ev.neg c11 (Ev.neg nf (Ev.neg c7 (Ev.neg c8 (Ev.neg c9 (Ev.pos c10 (Ev.bind (rparse_ev p.f2 p.f3 (by omega)) (Ev.mapE bitS (rmatch_ev _ s (by omega) (by omega)))))))))⟩
  obtain ⟨c, hc, hc2⟩ := order2_ev p hp h0 h2 s hs
  have ht : rdOf false [(c == 0), (c != 0), decide (c < 0), decide (c ≤ 0), decide (c > 0), decide (c ≥ 0)] (p.f0 - 1) = tst p.f0 c := by
    have : p.f0 = 1 ∨ p.f0 = 2 ∨ p.f0 = 3 ∨ p.f0 = 4 ∨ p.f0 = 5 ∨ p.f0 = 6 := by omega
    generalize p.f0 = kd at this
    rcases this with rfl | rfl | rfl | rfl | rfl | rfl <;> rfl
  refine ⟨tst p.f0 c, Ev.neg c7 (Ev.neg c8 (Ev.neg c9 (Ev.neg c10 (Ev.bind hc (Ev.bind (Ev.now _) ?_))))), Ev.neg c11 (Ev.neg nf (Ev.neg c7 (Ev.neg c8 (Ev.neg c9 (Ev.neg c10 (Ev.pos ⟨hk1, by omega⟩ (Ev.mapE (fun c => bitS (tst p.f0 c)) hc2)))))))⟩
  rw [w64 (x := p.f0 - 1) (by omega) (by omega)]
  exact Ev.pos (by omega) (Ev.pos (by simp; omega) (Ev.val ht))
/-! ### the kids counted -/
theorem cnt3_ev (f : Nat → S24 → Option Int) (v : S24 → Int) : ∀ l : List S24, (∀ q, q ∈ l → Ev (fun k => f k q) (v q) ∧ Tri (v q)) → ∀ a b c, Ev (fun k => cnt3 (f k) l a b c) (a + (l.map v).count 0, b + (l.map v).count 1, c + (l.map v).count 2)
  | [], _, a, b, c => Ev.congr (fun k => by rw [cnt3]) (Ev.val (show (a, b, c) = _ from by simp))
  | q :: qs, h, a, b, c => by
    obtain ⟨h1, ht⟩ := h q (List.mem_cons_self ..)
    have h2 := cnt3_ev f v qs fun y hy => h y (List.mem_cons_of_mem _ hy)
    refine Ev.congr (fun k => by rw [cnt3]) (Ev.bind h1 ?_)
    rw [List.map_cons]
    generalize v q = x at ht
    rcases ht with rfl | rfl | rfl
    · refine Ev.pos rfl (Ev.eq (h2 (a + 1) b c) ?_)
      rw [List.count_cons_self, List.count_cons_of_ne (by decide), List.count_cons_of_ne (by decide)]
      congr 1; omega
    · refine Ev.neg (by decide) (Ev.pos rfl (Ev.eq (h2 a (b + 1) c) ?_))
      rw [List.count_cons_self, List.count_cons_of_ne (by decide), List.count_cons_of_ne (by decide)]
      congr 2; omega
    · refine Ev.neg (by decide) (Ev.neg (by decide) (Ev.eq (h2 a b (c + 1)) ?_))
      rw [List.count_cons_self, List.count_cons_of_ne (by decide), List.count_cons_of_ne (by decide)]
      congr 2; omega
theorem cz (l : List Int) (x : Int) : 0 < l.count x ↔ x ∈ l := List.count_pos_iff
theorem says2_ev {cols : Int} {p : S24} (hR : Rt cols p) (row : List S38) (hr : RowOk cols row) : ∃ x, Ev (fun k => saysP k p row) x ∧ Ev (fun k => refSaysP k p row) x ∧ Tri x := by
  induction hR with
  | leaf p hk1 hk2 h5 h1 h2 hp h40 h42 h6 =>
    obtain ⟨hl, hs⟩ := hr
    obtain ⟨j, ej⟩ : ∃ j : Nat, p.f1 = (j : Int) := ⟨p.f1.toNat, by omega⟩
    have hj : j < row.length := by omega
    have hsz := hs _ (List.getElem_mem hj)
    have key : ∀ v : S38, v.f1.size ≤ 5000 → ∃ x, Ev (fun k => saysLeaf k p v) x ∧ Ev (fun k => refLeaf k p v) x ∧ Tri x := by
      intro v hv
      by_cases c11 : p.f0 = 11
      · refine ⟨bitS v.f0, ?_, ?_, ?_⟩
        · unfold saysLeaf; exact Ev.pos c11 (Ev.c (yes_f v.f0))
        · unfold refLeaf; exact Ev.pos c11 (Ev.val rfl)
        · unfold bitS Tri; cases v.f0 <;> simp
      by_cases cn : v.f0 = true
      · refine ⟨2, ?_, ?_, .inr (.inr rfl)⟩
        · unfold saysLeaf; exact Ev.neg c11 (Ev.pos cn (Ev.val rfl))
        · unfold refLeaf; exact Ev.neg c11 (Ev.pos cn (Ev.pos (by omega) (Ev.val rfl)))
      obtain ⟨vn, vs⟩ := v
      obtain rfl : vn = false := by simpa using cn
      obtain ⟨b, b1, b2⟩ := holds2_ev p hk1 (by omega) hp h40 h42 vs hv
      refine ⟨bitS b, ?_, b2, ?_⟩
      · unfold saysLeaf; exact Ev.neg c11 (Ev.neg (by simp) (Ev.bind b1 (Ev.c (yes_f b))))
      · unfold bitS Tri; cases b <;> simp
    obtain ⟨x, x1, x2, x3⟩ := key row[j] hsz
    refine ⟨x, Ev.step (fun k => by rw [saysP]) (Ev.neg (by omega) (Ev.neg (by omega) (Ev.neg (by omega) (Ev.pos h1 (Ev.pos (by omega) ?_))))), Ev.step (fun k => by rw [refSaysP]) (Ev.neg (by omega) (Ev.pos h1 (Ev.pos (by omega) ?_))), x3⟩
    · rw [ej, rdV row j hj]; exact x1
    · rw [ej, rdV row j hj]; exact x2
  | node p hk1 hk2 hn1 hn2 hn3 hq ih =>
    have hv : ∀ q, q ∈ p.f5 → Ev (fun k => saysP k q row) (saysV row q) ∧ Ev (fun k => refSaysP k q row) (saysV row q) ∧ Tri (saysV row q) := fun q h => by
      obtain ⟨x, hx, hx2, ht⟩ := ih q h
      have : saysV row q = x := ans_eq hx
      rw [this]; exact ⟨hx, hx2, ht⟩
    have href : ∀ x, fin3 p.f0 (0 + (p.f5.map (saysV row)).count 0) (0 + (p.f5.map (saysV row)).count 1) (0 + (p.f5.map (saysV row)).count 2) = x → Ev (fun k => refSaysP k p row) x := fun x e => by
      have := cnt3_ev (fun k q => refSaysP k q row) (saysV row) p.f5 (fun q h => ⟨(hv q h).2.1, (hv q h).2.2⟩) 0 0 0
      refine Ev.eq (Ev.step (fun k => by rw [refSaysP]) (Ev.pos (And.intro hk1 hk2) (Ev.map1 (fun x => fin3 p.f0 x.1 x.2.1 x.2.2) this))) e
    have c0 := cz (p.f5.map (saysV row)) 0
    have c1 := cz (p.f5.map (saysV row)) 1
    have c2 := cz (p.f5.map (saysV row)) 2
    by_cases c12 : p.f0 = 12
    · refine ⟨bothV 0 (p.f5.map (saysV row)) 1, Ev.step (fun k => by rw [saysP]) (Ev.pos c12 (both_ev _ (saysV row) 0 p.f5 (fun q h => (hv q h).1) 1)), href _ ?_, bothV_tri (.inl rfl) (.inr (.inl rfl)) _⟩
      rw [bothV_eq 0 (by decide)]
      unfold fin3
      rw [if_pos c12]
      generalize p.f5.map (saysV row) = xs at c0 c1 c2
      by_cases m0 : (0 : Int) ∈ xs
      · rw [if_pos m0, if_pos (by have := c0.2 m0; omega)]
      · rw [if_neg m0, if_neg (fun h => m0 (c0.1 (by omega)))]
        by_cases m2 : (2 : Int) ∈ xs
        · rw [if_pos m2, if_neg (by have := c2.2 m2; omega)]
        · rw [if_neg m2, if_pos (by have : ¬ 0 < xs.count 2 := fun h => m2 (c2.1 h); omega)]
    by_cases c13 : p.f0 = 13
    · refine ⟨bothV 1 (p.f5.map (saysV row)) 0, Ev.step (fun k => by rw [saysP]) (Ev.neg c12 (Ev.pos c13 (both_ev _ (saysV row) 1 p.f5 (fun q h => (hv q h).1) 0))), href _ ?_, bothV_tri (.inr rfl) (.inl rfl) _⟩
      rw [bothV_eq 1 (by decide)]
      unfold fin3
      rw [if_neg c12, if_pos c13]
      generalize p.f5.map (saysV row) = xs at c0 c1 c2
      by_cases m1 : (1 : Int) ∈ xs
      · have h1 := c1.2 m1
        rw [if_pos m1, if_neg (by omega), if_pos (by omega)]
      · have h1 : ¬ 0 < xs.count 1 := fun h => m1 (c1.1 h)
        rw [if_neg m1]
        by_cases m2 : (2 : Int) ∈ xs
        · have h2 := c2.2 m2
          rw [if_pos m2, if_neg (by omega), if_neg (by omega)]
        · have h2 : ¬ 0 < xs.count 2 := fun h => m2 (c2.1 h)
          rw [if_neg m2, if_pos ⟨by omega, by omega⟩]
    have c14 : p.f0 = 14 := by omega
    have h0 : 0 < p.f5.length := by omega
    obtain ⟨q, eq⟩ : ∃ q, p.f5 = [q] := by
      have := hn3 c14
      cases h : p.f5 with
      | nil => rw [h] at this; cases this
      | cons a t => cases t with
        | nil => exact ⟨a, rfl⟩
        | cons b t => rw [h] at this; simp at this
    have hm : p.f5.getD 0 z24 = q := by rw [eq]; rfl
    obtain ⟨h1, _, ht⟩ := hv q (by rw [eq]; simp)
    rw [eq, List.map_cons, List.map_nil] at href
    generalize saysV row q = x at h1 ht href
    have f14 : ∀ a b c, fin3 p.f0 a b c = (if 0 < b then 0 else if c = 0 then 1 else 2) := fun a b c => by unfold fin3; rw [if_neg c12, if_neg c13]
    by_cases e2 : x = 2
    · refine ⟨2, Ev.step (fun k => by rw [saysP, hm]) (Ev.neg c12 (Ev.neg c13 (Ev.pos c14 (Ev.pos h0 (Ev.bind h1 (Ev.pos e2 (Ev.val rfl))))))), href 2 ?_, .inr (.inr rfl)⟩
      rw [f14, e2]; decide
    · refine ⟨wrap64 (1 - x), Ev.step (fun k => by rw [saysP, hm]) (Ev.neg c12 (Ev.neg c13 (Ev.pos c14 (Ev.pos h0 (Ev.bind h1 (Ev.neg e2 (Ev.val rfl))))))), href _ ?_, ?_⟩
      · rw [f14, w64 (by unfold Tri at ht; omega) (by unfold Tri at ht; omega)]
        rcases ht with rfl | rfl | rfl
        · decide
        · decide
        · exact absurd rfl e2
      · unfold Tri at ht ⊢
        rw [w64 (by omega) (by omega)]
        omega
end Go.Proofs.YtdccooaddoafnaaGreatDoor.Pure
