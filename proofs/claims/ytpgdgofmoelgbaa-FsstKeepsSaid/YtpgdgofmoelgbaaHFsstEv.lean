/- The plain laws of tables and codes: what the printed functions come to. -/
import Derived.Test.YtpgdgofmoelgbaaQx
import Derived.Test.YtpgdgofmoelgbaaHEvBase
import Derived.Test.YtpgdgofmoelgbaaHFsstPure
set_option linter.unusedVariables false
set_option linter.unusedSimpArgs false
namespace Go.Proofs.Ytpgdgofmoelgbaa.Pure
open Go.RowKit Go.Proofs.Ytpgdgofmoelgbaa.Q Go.Proofs.YtpgdgofmoelgbaaW.PrintWords Go.Proofs.YtpgdgofmoelgbaaW.PrintLast Go.Proofs.YtpgdgofmoelgbaaW.PrintMore
open HopPure (bl cmpL Rising Table IsLongest Enc decL cntL)

/-- The strings of a table, as lists of bytes. -/
def TL (t : List ByteArray) : List (List UInt8) := t.map fun s => s.data.toList
theorem TL_length (t : List ByteArray) : (TL t).length = t.length := by simp [TL]
theorem TL_get (t : List ByteArray) (i : Nat) (h : i < t.length) (h2 : i < (TL t).length) : (TL t)[i] = (t[i]).data.toList := by simp [TL]
theorem TL_append (a b : List ByteArray) : TL (a ++ b) = TL a ++ TL b := by simp [TL]

/-! ### strings compared -/
theorem less_bl : ∀ x y : List UInt8, Op.bytesLess x y = bl x y
  | _, [] => by simp [Op.bytesLess, bl]
  | [], _ :: _ => by simp [Op.bytesLess, bl]
  | a :: x, b :: y => by
    rw [Op.bytesLess, bl, less_bl x y]
    congr 1
    congr 1
    rw [Bool.eq_iff_iff]
    simp only [beq_iff_eq, decide_eq_true_eq]
    exact ⟨fun h => by rw [h], fun h => UInt8.toNat.inj h⟩
theorem compare_l0 (a b : ByteArray) (ha : a.size ≤ maxLen) : ∀ (n i : Nat), a.size - i = n → i ≤ a.size → i ≤ b.size → Ev (fun k => hopperref07_Compare.l0 k a b (i : Int)) (cmpL (a.data.toList.drop i) (b.data.toList.drop i)) := by
  have hda := dsz a
  have hdb := dsz b
  unfold maxLen at ha
  have last : ∀ i : Nat, i ≤ a.size → i ≤ b.size → ¬ (i < a.size ∧ i < b.size) → Ev (fun k => hopperref07_Compare.j1 k a b (i : Int) false) (cmpL (a.data.toList.drop i) (b.data.toList.drop i)) := by
    intro i h1 h2 h3
    refine Ev.step (fun k => by rw [hopperref07_Compare.j1]) (Ev.neg (by simp) ?_)
    by_cases c1 : a.size < b.size
    · refine Ev.pos (by omega) (Ev.val ?_)
      rw [List.drop_eq_nil_of_le (by omega), drop_at _ i (by omega)]; rfl
    · refine Ev.neg (by omega) ?_
      by_cases c2 : a.size > b.size
      · refine Ev.pos (by omega) (Ev.val ?_)
        rw [show b.data.toList.drop i = [] from List.drop_eq_nil_of_le (by omega), drop_at _ i (by omega)]; rfl
      · refine Ev.neg (by omega) (Ev.val ?_)
        rw [List.drop_eq_nil_of_le (by omega), List.drop_eq_nil_of_le (by omega)]; rfl
  intro n
  induction n with
  | zero =>
    intro i hn h1 h2
    refine Ev.step (fun k => by rw [hopperref07_Compare.l0]) (Ev.neg (by omega) (last i h1 h2 (by omega)))
  | succ n ih =>
    intro i hn h1 h2
    refine Ev.step (fun k => by rw [hopperref07_Compare.l0]) (Ev.pos (by omega) ?_)
    by_cases c : i < b.size
    · rw [decide_eq_true (by omega)]
      refine Ev.step (fun k => by rw [hopperref07_Compare.j1]) (Ev.pos rfl (Ev.pos (by omega) (Ev.pos (by omega) (Ev.pos (by omega) ?_))))
      have hia : i < a.data.toList.length := by omega
      have hib : i < b.data.toList.length := by omega
      rw [btn a i hia, btn b i hib, w64s (n := a.size) (by omega) (by omega), drop_at _ i hia, drop_at _ i hib, HopPure.cmpL_cons]
      by_cases c1 : (a.data.toList[i]).toNat < (b.data.toList[i]).toNat
      · exact Ev.pos (by omega) (Ev.val (by rw [if_pos c1]))
      · rw [if_neg c1]
        refine Ev.neg (by omega) ?_
        by_cases c2 : (b.data.toList[i]).toNat < (a.data.toList[i]).toNat
        · exact Ev.pos (by omega) (Ev.val (by rw [if_pos c2]))
        · rw [if_neg c2]
          exact Ev.neg (by omega) (ih (i + 1) (by omega) (by omega) (by omega))
    · rw [decide_eq_false (by omega)]
      exact last i h1 h2 (by omega)
theorem compare_ev (a b : ByteArray) (ha : a.size ≤ maxLen) : Ev (fun k => hopperref07_Compare.f k a b) (cmpL a.data.toList b.data.toList) := by
  unfold hopperref07_Compare.f
  simpa using compare_l0 a b ha _ 0 rfl (by omega) (by omega)
theorem nan_f (a : ByteArray) : slices_isNaN_string.f a = some false := by simp [slices_isNaN_string.f]
theorem less_f (a b : ByteArray) : cmp_Less_string.f a b = some (bl a.data.toList b.data.toList) := by
  simp [cmp_Less_string.f, cmp_isNaN_string.f, less_bl, tl]

/-! ### the search in a table -/
theorem half {i j : Nat} (h : i + j ≤ 9223372036854775807) : wrap64 ((IntKind.u64.wrap (wrap64 ((i : Int) + (j : Int)))) / 2) = (((i + j) / 2 : Nat) : Int) := by
  rw [w64 (x := (i : Int) + j) (by omega) (by omega), IntWalk.u64_in _ (by omega), w64 (by omega) (by omega)]
  omega
theorem bsearch_l0 (t : List ByteArray) (x : ByteArray) (hr : Rising (TL t)) (hl : t.length ≤ 1000000) : ∀ (n i j : Nat), j - i = n → i ≤ j → j ≤ t.length →
    (∀ (k : Nat) (h : k < t.length), k < i → bl (t[k]).data.toList x.data.toList = true) → (∀ (k : Nat) (h : k < t.length), j ≤ k → bl (t[k]).data.toList x.data.toList = false) →
    ∃ (p : Nat) (ok : Bool), Ev (fun q => slices_BinarySearch_string_string.l0 q t x (t.length : Int) (i : Int) (j : Int)) ((p : Int), ok) ∧
      (ok = true → ∃ h : p < t.length, (t[p]).data.toList = x.data.toList) ∧ (ok = false → ∀ (k : Nat) (h : k < t.length), (t[k]).data.toList ≠ x.data.toList) := by
  intro n
  induction n using Nat.strongRecOn with
  | _ n ih =>
  intro i j hn hij hj hlo hhi
  by_cases c : i < j
  · have hm : (i + j) / 2 < t.length := by omega
    have e := half (i := i) (j := j) (by omega)
    cases hb : bl (t[(i + j) / 2]).data.toList x.data.toList with
    | true =>
      obtain ⟨p, ok, h1, h2, h3⟩ := ih (j - ((i + j) / 2 + 1)) (by omega) ((i + j) / 2 + 1) j rfl (by omega) hj (fun k hk hlt => by
        by_cases e2 : k = (i + j) / 2
        · subst e2; exact hb
        · have := hr k ((i + j) / 2) (by rw [TL_length]; exact hk) (by rw [TL_length]; exact hm) (by omega)
          rw [TL_get t k hk, TL_get t _ hm] at this
          exact HopPure.bl_trans this hb) hhi
      refine ⟨p, ok, Ev.step (fun k => by rw [slices_BinarySearch_string_string.l0]) (Ev.pos (by omega) ?_), h2, h3⟩
      rw [e, rdOfn _ t _ hm]
      refine Ev.pos (by omega) (Ev.pos (by omega) (Ev.bind (Ev.c (less_f _ _)) (Ev.pos hb ?_)))
      rw [w64s (n := t.length) (by omega) (by omega)]
      exact h1
    | false =>
      obtain ⟨p, ok, h1, h2, h3⟩ := ih ((i + j) / 2 - i) (by omega) i ((i + j) / 2) rfl (by omega) (by omega) hlo (fun k hk hle => by
        by_cases e2 : k = (i + j) / 2
        · subst e2; exact hb
        · have h4 := hr ((i + j) / 2) k (by rw [TL_length]; exact hm) (by rw [TL_length]; exact hk) (by omega)
          rw [TL_get t k hk, TL_get t _ hm] at h4
          cases h5 : bl (t[k]).data.toList x.data.toList with
          | false => rfl
          | true => have := HopPure.bl_trans h4 h5; rw [hb] at this; cases this)
      refine ⟨p, ok, Ev.step (fun k => by rw [slices_BinarySearch_string_string.l0]) (Ev.pos (by omega) ?_), h2, h3⟩
      rw [e, rdOfn _ t _ hm]
      exact Ev.pos (by omega) (Ev.pos (by omega) (Ev.bind (Ev.c (less_f _ _)) (Ev.neg (by rw [hb]; simp) h1)))
  · have e : i = j := by omega
    subst e
    by_cases ci : i < t.length
    · by_cases ce : (t[i]).data.toList = x.data.toList
      · refine ⟨i, true, Ev.step (fun k => by rw [slices_BinarySearch_string_string.l0]) (Ev.neg (by omega) (Ev.pos (by omega) (Ev.pos (by omega) (Ev.pos (by omega) (Ev.pos ?_ (Ev.val rfl)))))), fun _ => ⟨ci, ce⟩, (fun h => by cases h)⟩
        rw [rdOfn _ t _ ci, tl, tl]; exact ce
      · refine ⟨i, false, Ev.step (fun k => by rw [slices_BinarySearch_string_string.l0]) (Ev.neg (by omega) (Ev.pos (by omega) (Ev.pos (by omega) (Ev.pos (by omega) (Ev.neg ?_ (Ev.bind (Ev.c (nan_f _)) (Ev.neg Bool.false_ne_true (Ev.val rfl)))))))), (fun h => by cases h), fun _ k hk hc => ?_⟩
        · rw [rdOfn _ t _ ci, tl, tl]; exact ce
        · rcases Nat.lt_trichotomy k i with h | h | h
          · have := hlo k hk h; rw [hc, HopPure.bl_irrefl] at this; cases this
          · subst h; exact ce hc
          · have h4 := hr i k (by rw [TL_length]; exact ci) (by rw [TL_length]; exact hk) h
            rw [TL_get t k hk, TL_get t _ ci, hc] at h4
            rw [hhi i ci (Nat.le_refl _)] at h4; cases h4
    · refine ⟨i, false, Ev.step (fun k => by rw [slices_BinarySearch_string_string.l0]) (Ev.neg (by omega) (Ev.neg (by omega) (Ev.val rfl))), (fun h => by cases h), fun _ k hk hc => ?_⟩
      have := hlo k hk (by omega); rw [hc, HopPure.bl_irrefl] at this; cases this
theorem bsearch_ev (t : List ByteArray) (x : ByteArray) (hr : Rising (TL t)) (hl : t.length ≤ 1000000) :
    ∃ (p : Nat) (ok : Bool), Ev (fun q => slices_BinarySearch_string_string.f q t x) ((p : Int), ok) ∧
      (ok = true → ∃ h : p < t.length, (t[p]).data.toList = x.data.toList) ∧ (ok = false → ∀ (k : Nat) (h : k < t.length), (t[k]).data.toList ≠ x.data.toList) :=
  bsearch_l0 t x hr hl _ 0 t.length rfl (by omega) (by omega) (fun k _ h => by omega) (fun k h1 h2 => by omega)
theorem longest_l0 (t : List ByteArray) (s : ByteArray) (ht : Table (TL t)) : ∀ (n : Nat), n ≤ 8 → n ≤ s.size → (∀ x ∈ TL t, x <+: s.data.toList → x.length ≤ n) →
    ∃ c m : Int, Ev (fun k => symbol_Longest.l0 k t s (n : Int)) (c, m) ∧ IsLongest (TL t) s.data.toList c m := by
  have hfew := ht.few
  rw [TL_length] at hfew
  intro n
  induction n with
  | zero =>
    intro _ _ hx
    refine ⟨-1, 0, Ev.step (fun k => by rw [symbol_Longest.l0]) (Ev.neg (by omega) (Ev.val rfl)), .inl ⟨rfl, rfl, fun x hm hp => ?_⟩⟩
    have := hx x hm hp
    have := (ht.sizes x hm).1
    omega
  | succ n ih =>
    intro h8 hs hx
    have hd := dsz s
    have e1 : (((n + 1 : Nat) : Int)).toNat = n + 1 := by omega
    obtain ⟨p, ok, h1, h2, h3⟩ := bsearch_ev t (s.extract 0 (n + 1)) ht.rising (by omega)
    rw [cut_to] at h2 h3
    cases ok with
    | true =>
      obtain ⟨hp, he⟩ := h2 rfl
      have hlen : (t[p]).data.toList.length = n + 1 := by rw [he, List.length_take]; omega
      refine ⟨(p : Int), ((n + 1 : Nat) : Int), Ev.step (fun k => by rw [symbol_Longest.l0]) (Ev.pos (by omega) (Ev.pos (by omega) (Ev.pos (by omega) ?_))), .inr ⟨p, by rw [TL_length]; exact hp, rfl, ?_, ?_, fun x hm hpx => ?_⟩⟩
      · rw [e1]; exact Ev.bind h1 (Ev.pos rfl (Ev.val rfl))
      · rw [TL_get t p hp, hlen]
      · rw [TL_get t p hp, he]; exact List.take_prefix _ _
      · rw [TL_get t p hp, hlen]; exact hx x hm hpx
    | false =>
      obtain ⟨c, m, h4, h5⟩ := ih (by omega) (by omega) (fun x hm hpx => by
        have h6 := hx x hm hpx
        by_cases e : x.length = n + 1
        · exfalso
          obtain ⟨k, hk, hek⟩ := List.getElem_of_mem hm
          have hk2 : k < t.length := by rw [TL_length] at hk; exact hk
          rw [TL_get t k hk2] at hek
          refine h3 rfl k hk2 ?_
          rw [hek, HopPure.prefix_take hpx, e]
        · omega)
      refine ⟨c, m, Ev.step (fun k => by rw [symbol_Longest.l0]) (Ev.pos (by omega) (Ev.pos (by omega) (Ev.pos (by omega) ?_))), h5⟩
      rw [e1]
      refine Ev.bind h1 (Ev.neg (by simp) ?_)
      rw [w64p (k := n + 1) (by omega) (by omega)]
      exact h4
theorem longest_ev (t : List ByteArray) (s : ByteArray) (ht : Table (TL t)) : ∃ c m : Int, Ev (fun k => symbol_Longest.f k t s) (c, m) ∧ IsLongest (TL t) s.data.toList c m := by
  have hd := dsz s
  have e : mn 8 (s.size : Int) = ((min 8 s.size : Nat) : Int) := by unfold mn; split <;> omega
  unfold symbol_Longest.f
  rw [e]
  exact longest_l0 t s ht _ (by omega) (by omega) (fun x hm hp => by have := (ht.sizes x hm).2; have := hp.length_le; omega)
/-- The best one of the first i symbols. -/
def Best (t : List ByteArray) (s : List UInt8) (i : Nat) (c n : Int) : Prop :=
  (c = -1 ∧ n = 0 ∧ ∀ (j : Nat) (h : j < t.length), j < i → ¬ (t[j]).data.toList <+: s) ∨
  ∃ (p : Nat) (h : p < t.length), c = (p : Int) ∧ n = (((t[p]).data.toList.length : Nat) : Int) ∧ (t[p]).data.toList <+: s ∧ ∀ (j : Nat) (h : j < t.length), j < i → (t[j]).data.toList <+: s → (t[j]).data.toList.length ≤ (t[p]).data.toList.length
theorem Best.n_nonneg {t : List ByteArray} {s : List UInt8} {i : Nat} {c n : Int} (h : Best t s i c n) : 0 ≤ n := by
  rcases h with ⟨_, rfl, _⟩ | ⟨p, _, _, rfl, _⟩ <;> omega
theorem rlongest_l0 (t : List ByteArray) (s : ByteArray) (ht : Table (TL t)) : ∀ (n i : Nat) (c m : Int), t.length - i = n → i ≤ t.length → Best t s.data.toList i c m →
    ∃ c' m' : Int, Ev (fun k => hopperref10_Longest.l0 k t s c m (i : Int)) (c', m') ∧ Best t s.data.toList t.length c' m' := by
  have hfew := ht.few
  rw [TL_length] at hfew
  have hd := dsz s
  intro n
  induction n with
  | zero =>
    intro i c m hn hi hb
    have e : i = t.length := by omega
    subst e
    exact ⟨c, m, Ev.step (fun k => by rw [hopperref10_Longest.l0]) (Ev.neg (by omega) (Ev.val rfl)), hb⟩
  | succ n ih =>
    intro i c m hn hi hb
    have hit : i < t.length := by omega
    have hdi := dsz t[i]
    have keep : ((t[i]).data.toList <+: s.data.toList → (((t[i]).data.toList.length : Nat) : Int) ≤ m ∧ m ≠ 0) → Best t s.data.toList (i + 1) c m := by
      intro hk
      rcases hb with ⟨h1, h2, h3⟩ | ⟨p, hp, h1, h2, h3, h4⟩
      · refine .inl ⟨h1, h2, fun j hj hji hpre => ?_⟩
        by_cases e : j = i
        · subst e; exact (hk hpre).2 h2
        · exact h3 j hj (by omega) hpre
      · refine .inr ⟨p, hp, h1, h2, h3, fun j hj hji hpre => ?_⟩
        by_cases e : j = i
        · subst e; have := (hk hpre).1; omega
        · exact h4 j hj (by omega) hpre
    have hsz := (ht.sizes _ (List.getElem_mem (by rw [TL_length]; exact hit : i < (TL t).length))).1
    rw [TL_get t i hit] at hsz
    have hnn := hb.n_nonneg
    have go : ∀ c1 m1, Best t s.data.toList (i + 1) c1 m1 → ∃ c' m' : Int, Ev (fun k => hopperref10_Longest.l0 k t s c1 m1 (wrap64 ((i : Int) + 1))) (c', m') ∧ Best t s.data.toList t.length c' m' := by
      intro c1 m1 hb1
      rw [w64s (n := t.length) hit (by omega)]
      exact ih (i + 1) c1 m1 (by omega) (by omega) hb1
    have open_ : ∀ r, Ev (fun k => if ((t[i]).size : Int) > m then (if ((t[i]).size : Int) ≤ (s.size : Int) then (if 0 ≤ ((t[i]).size : Int) then (if (s.extract 0 ((t[i]).size)).toList = (t[i]).toList then (hopperref10_Longest.l0 k t s (i : Int) ((t[i]).size : Int) (wrap64 ((i : Int) + 1))) else (hopperref10_Longest.l0 k t s c m (wrap64 ((i : Int) + 1)))) else (none)) else (hopperref10_Longest.l0 k t s c m (wrap64 ((i : Int) + 1)))) else (hopperref10_Longest.l0 k t s c m (wrap64 ((i : Int) + 1)))) r → Ev (fun k => hopperref10_Longest.l0 k t s c m (i : Int)) r := by
      intro r hr
      refine Ev.step (fun k => by rw [hopperref10_Longest.l0]) (Ev.pos (by omega) (Ev.pos (by omega) ?_))
      rw [rdOfn _ t i hit]
      exact hr
    by_cases c1 : ((t[i]).size : Int) > m
    · by_cases c2 : ((t[i]).size : Int) ≤ (s.size : Int)
      · by_cases c3 : (s.extract 0 ((t[i]).size)).toList = (t[i]).toList
        · have c4 : (t[i]).data.toList <+: s.data.toList := by
            rw [tl, tl, cut_to] at c3
            rw [← c3]; exact List.take_prefix _ _
          obtain ⟨c', m', h1, h2⟩ := go (i : Int) ((t[i]).size : Int) (.inr ⟨i, hit, rfl, by rw [hdi], c4, fun j hj hji hpre => by
            by_cases e : j = i
            · subst e; exact Nat.le_refl _
            · rcases hb with ⟨h1, h2, h3⟩ | ⟨p, hp, h1, h2, h3, h4⟩
              · exact absurd hpre (h3 j hj (by omega))
              · have := h4 j hj (by omega) hpre; omega⟩)
          exact ⟨c', m', open_ _ (Ev.pos c1 (Ev.pos c2 (Ev.pos (by omega) (Ev.pos c3 h1)))), h2⟩
        · obtain ⟨c', m', h1, h2⟩ := go c m (keep fun hpre => by
            exfalso; apply c3
            rw [tl, tl, cut_to, ← hdi]; exact (HopPure.prefix_take hpre).symm)
          exact ⟨c', m', open_ _ (Ev.pos c1 (Ev.pos c2 (Ev.pos (by omega) (Ev.neg c3 h1)))), h2⟩
      · obtain ⟨c', m', h1, h2⟩ := go c m (keep fun hpre => by have := hpre.length_le; omega)
        exact ⟨c', m', open_ _ (Ev.pos c1 (Ev.neg c2 h1)), h2⟩
    · obtain ⟨c', m', h1, h2⟩ := go c m (keep fun hpre => by omega)
      exact ⟨c', m', open_ _ (Ev.neg c1 h1), h2⟩
theorem Best.done {t : List ByteArray} {s : List UInt8} {c n : Int} (h : Best t s t.length c n) : IsLongest (TL t) s c n := by
  rcases h with ⟨h1, h2, h3⟩ | ⟨p, hp, h1, h2, h3, h4⟩
  · refine .inl ⟨h1, h2, fun x hm hpre => ?_⟩
    obtain ⟨j, hj, e⟩ := List.getElem_of_mem hm
    have hj2 : j < t.length := by rw [TL_length] at hj; exact hj
    rw [TL_get t j hj2] at e
    exact h3 j hj2 hj2 (by rw [e]; exact hpre)
  · refine .inr ⟨p, by rw [TL_length]; exact hp, h1, by rw [TL_get t p hp]; exact h2, by rw [TL_get t p hp]; exact h3, fun x hm hpre => ?_⟩
    obtain ⟨j, hj, e⟩ := List.getElem_of_mem hm
    have hj2 : j < t.length := by rw [TL_length] at hj; exact hj
    rw [TL_get t j hj2] at e
    rw [TL_get t p hp, ← e]
    exact h4 j hj2 hj2 (by rw [e]; exact hpre)
theorem rlongest_ev (t : List ByteArray) (s : ByteArray) (ht : Table (TL t)) : ∃ c m : Int, Ev (fun k => hopperref10_Longest.f k t s) (c, m) ∧ IsLongest (TL t) s.data.toList c m := by
  obtain ⟨c, m, h1, h2⟩ := rlongest_l0 t s ht _ 0 (-1) 0 rfl (by omega) (.inl ⟨rfl, rfl, fun j _ h => by omega⟩)
  exact ⟨c, m, h1, h2.done⟩
end Go.Proofs.Ytpgdgofmoelgbaa.Pure
