/- Strings compared byte by byte: what hopperref07.Compare and hopperref07.Same come to; lists of strings that rise, each once. -/
import Derived.Test.YtomccmodlkdcbaaHEvBase
import Derived.Test.YtomccmodlkdcbaaQx
set_option linter.unusedVariables false
set_option linter.unusedSimpArgs false
namespace Go.Proofs.Ytomccmodlkdcbaa.Pure
open Go.RowKit Go.Proofs.Ytomccmodlkdcbaa.Q Go.Proofs.YtomccmodlkdcbaaW.PrintWords Go.Proofs.YtomccmodlkdcbaaW.PrintLast Go.Proofs.YtomccmodlkdcbaaW.PrintMore
def cmpS (a b : List UInt8) : Int := if a < b then -1 else if b < a then 1 else 0
theorem cmpS_nil : cmpS [] [] = 0 := by simp [cmpS]
theorem cmpS_lt0 (b : UInt8) (y : List UInt8) : cmpS [] (b :: y) = -1 := by simp [cmpS]
theorem cmpS_gt0 (b : UInt8) (y : List UInt8) : cmpS (b :: y) [] = 1 := by simp [cmpS]
theorem u8_eq {a b : UInt8} (h1 : ¬ a.toNat < b.toNat) (h2 : ¬ b.toNat < a.toNat) : a = b := UInt8.toNat.inj (by omega)
theorem cmpS_cons (a b : UInt8) (x y : List UInt8) : cmpS (a :: x) (b :: y) = if a.toNat < b.toNat then -1 else if b.toNat < a.toNat then 1 else cmpS x y := by
  unfold cmpS
  simp only [List.cons_lt_cons_iff, UInt8.lt_iff_toNat_lt]
  by_cases c1 : a.toNat < b.toNat
  · simp [c1]
  · by_cases c2 : b.toNat < a.toNat
    · have : ¬ a = b := fun h => by rw [h] at c2; omega
      simp [c1, c2, this]
    · have := u8_eq c1 c2
      subst this
      simp
theorem ls_irrefl (a : List UInt8) : ¬ a < a := List.lt_irrefl a
theorem ls_trans {a b c : List UInt8} (h1 : a < b) (h2 : b < c) : a < c := List.lt_trans h1 h2
theorem ls_tri (a b : List UInt8) : a < b ∨ a = b ∨ b < a := by
  by_cases h1 : a < b
  · exact .inl h1
  · by_cases h2 : b < a
    · exact .inr (.inr h2)
    · exact .inr (.inl (List.le_antisymm (List.not_lt.1 h2) (List.not_lt.1 h1)))
theorem cmpS_lt {a b : List UInt8} : cmpS a b < 0 ↔ a < b := by
  unfold cmpS
  by_cases h : a < b
  · simp [h]
  · by_cases h2 : b < a <;> simp [h, h2]
theorem cmpS_eq {a b : List UInt8} : cmpS a b = 0 ↔ a = b := by
  unfold cmpS
  rcases ls_tri a b with h | h | h
  · simp [h]; intro e; subst e; exact ls_irrefl _ h
  · subst h; simp [ls_irrefl]
  · have : ¬ a < b := fun z => ls_irrefl _ (ls_trans h z)
    simp [h, this]; intro e; subst e; exact ls_irrefl _ h
theorem compare_l0 (a b : ByteArray) (ha : a.size ≤ maxLen) : ∀ (n i : Nat), a.size - i = n → i ≤ a.size → i ≤ b.size → Ev (fun k => hopperref07_Compare.l0 k a b (i : Int)) (cmpS (a.data.toList.drop i) (b.data.toList.drop i)) := by
  have hda := dsz a
  have hdb := dsz b
  unfold maxLen at ha
  have last : ∀ i : Nat, i ≤ a.size → i ≤ b.size → ¬ (i < a.size ∧ i < b.size) → Ev (fun k => hopperref07_Compare.j1 k a b (i : Int) false) (cmpS (a.data.toList.drop i) (b.data.toList.drop i)) := by
    intro i h1 h2 h3
    refine Ev.step (fun k => by rw [hopperref07_Compare.j1]) (Ev.neg (by simp) ?_)
    by_cases c1 : a.size < b.size
    · refine Ev.pos (by omega) (Ev.val ?_)
      rw [List.drop_eq_nil_of_le (by omega), drop_at _ i (by omega), cmpS_lt0]
    · refine Ev.neg (by omega) ?_
      by_cases c2 : a.size > b.size
      · refine Ev.pos (by omega) (Ev.val ?_)
        rw [show b.data.toList.drop i = [] from List.drop_eq_nil_of_le (by omega), drop_at _ i (by omega), cmpS_gt0]
      · refine Ev.neg (by omega) (Ev.val ?_)
        rw [List.drop_eq_nil_of_le (by omega), List.drop_eq_nil_of_le (by omega), cmpS_nil]
  intro n
  induction n with
  | zero =>
    intro i hn h1 h2
    refine Ev.step (fun k => by rw [hopperref07_Compare.l0]) (Ev.neg (by omega) (last i h1 h2 (by omega)))
  | succ n ih =>
    intro i hn h1 h2
    refine Ev.step (fun k => by rw [hopperref07_Compare.l0]) (Ev.pos (by omega) ?_)
    by_cases c : i < b.size
    · rw [decide_eq_true (by omega)]
      refine Ev.step (fun k => by rw [hopperref07_Compare.j1]) (Ev.pos rfl (Ev.pos (by omega) (Ev.pos (by omega) (Ev.pos (by omega) ?_))))
      have hia : i < a.data.toList.length := by omega
      have hib : i < b.data.toList.length := by omega
      rw [btn a i hia, btn b i hib, w64s (n := a.size) (by omega) (by omega), drop_at _ i hia, drop_at _ i hib, cmpS_cons]
      by_cases c1 : (a.data.toList[i]).toNat < (b.data.toList[i]).toNat
      · exact Ev.pos (by omega) (Ev.val (by rw [if_pos c1]))
      · rw [if_neg c1]
        refine Ev.neg (by omega) ?_
        by_cases c2 : (b.data.toList[i]).toNat < (a.data.toList[i]).toNat
        · exact Ev.pos (by omega) (Ev.val (by rw [if_pos c2]))
        · rw [if_neg c2]
          exact Ev.neg (by omega) (ih (i + 1) (by omega) (by omega) (by omega))
    · rw [decide_eq_false (by omega)]
      exact last i h1 h2 (by omega)
theorem compare_ev (a b : ByteArray) (ha : a.size ≤ maxLen) : Ev (fun k => hopperref07_Compare.f k a b) (cmpS (toB a) (toB b)) := by
  unfold hopperref07_Compare.f
  simpa [toB] using compare_l0 a b ha _ 0 rfl (by omega) (by omega)
theorem same_l0 (l : List ByteArray) (hl : l.length ≤ 1152921504606846976) : ∀ (n i : Nat), l.length - i = n → Ev (fun k => hopperref07_Same.l0 k l l (i : Int)) true := by
  intro n
  induction n with
  | zero => intro i hn; exact Ev.step (fun k => by rw [hopperref07_Same.l0]) (Ev.neg (by omega) (Ev.val rfl))
  | succ n ih =>
    intro i hn
    refine Ev.step (fun k => by rw [hopperref07_Same.l0]) (Ev.pos (by omega) (Ev.pos (by omega) (Ev.pos (by omega) (Ev.pos rfl ?_))))
    rw [w64s (n := l.length) (by omega) (by omega)]
    exact ih (i + 1) (by omega)
theorem same_ev (l : List ByteArray) (hl : l.length ≤ 1152921504606846976) : Ev (fun k => hopperref07_Same.f k l l) true := by
  unfold hopperref07_Same.f
  exact Ev.pos rfl (by simpa using same_l0 l hl _ 0 rfl)
/-! ### lists that rise, each once -/
theorem toB_inj {a b : ByteArray} (h : toB a = toB b) : a = b := ba_ext h
/-- A list's strings, rising, each once. -/
def SetOf (r l : List ByteArray) : Prop := (r.Pairwise fun a b => toB a < toB b) ∧ ∀ x, x ∈ r ↔ x ∈ l
theorem rise_uniq : ∀ {r s : List ByteArray}, (r.Pairwise fun a b => toB a < toB b) → (s.Pairwise fun a b => toB a < toB b) → (∀ x, x ∈ r ↔ x ∈ s) → r = s
  | [], [], _, _, _ => rfl
  | [], y :: ys, _, _, h => absurd ((h y).2 (by simp)) (by simp)
  | x :: xs, [], _, _, h => absurd ((h x).1 (by simp)) (by simp)
  | x :: xs, y :: ys, h1, h2, h => by
    obtain ⟨a1, b1⟩ := List.pairwise_cons.1 h1
    obtain ⟨a2, b2⟩ := List.pairwise_cons.1 h2
    have e : x = y := by
      rcases List.mem_cons.1 ((h x).1 (by simp)) with e | e
      · exact e
      · rcases List.mem_cons.1 ((h y).2 (by simp)) with e2 | e2
        · exact e2.symm
        · exact absurd (ls_trans (a1 y e2) (a2 x e)) (ls_irrefl _)
    subst e
    rw [rise_uniq b1 b2 fun z => ?_]
    constructor
    · intro hz
      rcases List.mem_cons.1 ((h z).1 (List.mem_cons_of_mem _ hz)) with e | e
      · subst e; exact absurd (a1 z hz) (ls_irrefl _)
      · exact e
    · intro hz
      rcases List.mem_cons.1 ((h z).2 (List.mem_cons_of_mem _ hz)) with e | e
      · subst e; exact absurd (a2 z hz) (ls_irrefl _)
      · exact e
theorem SetOf.uniq {r s l m : List ByteArray} (h1 : SetOf r l) (h2 : SetOf s m) (h : ∀ x, x ∈ l ↔ x ∈ m) : r = s := rise_uniq h1.1 h2.1 fun x => (h1.2 x).trans ((h x).trans (h2.2 x).symm)
/-! ### sorted, each once -/
theorem compact_set (d : Array (List UInt8)) (hs : ∀ i j, i ≤ j → j < d.size → d[i]! ≤ d[j]!) : ∀ m, m ≤ d.size → (Lib.compactUpTo d m).Pairwise (· < ·) ∧ ∀ x, x ∈ Lib.compactUpTo d m ↔ ∃ j, j < m ∧ d[j]! = x
  | 0, _ => by simp [Lib.compactUpTo]
  | m + 1, hm => by
    obtain ⟨h1, h2⟩ := compact_set d hs m (by omega)
    rw [Lib.compactUpTo_succ]
    cases hk : Lib.keeps d m with
    | true =>
      rw [if_pos rfl]
      refine ⟨List.pairwise_append.2 ⟨h1, List.pairwise_singleton _ _, fun a ha b hb => ?_⟩, fun x => ?_⟩
      · obtain rfl : b = d[m]! := by simpa using hb
        obtain ⟨j, hj, rfl⟩ := (h2 a).1 ha
        have hne : d[m]! ≠ d[m - 1]! := by
          intro e
          rw [Lib.keeps_neg (by omega) e] at hk
          cases hk
        have l1 : d[j]! ≤ d[m - 1]! := hs j (m - 1) (by omega) (by omega)
        have l2 : d[m - 1]! ≤ d[m]! := hs (m - 1) m (by omega) (by omega)
        have l3 : d[m - 1]! < d[m]! := by
          rcases ls_tri d[m - 1]! d[m]! with e | e | e
          · exact e
          · exact absurd e.symm hne
          · exact absurd e (List.not_lt.2 l2)
        rcases ls_tri d[j]! d[m]! with e | e | e
        · exact e
        · exfalso
          rw [e] at l1
          exact List.not_lt.2 l1 l3
        · exact absurd e (List.not_lt.2 (hs j m (by omega) (by omega)))
      · rw [List.mem_append, h2 x]
        constructor
        · rintro (⟨j, hj, e⟩ | e)
          · exact ⟨j, by omega, e⟩
          · exact ⟨m, by omega, (List.mem_singleton.1 e).symm⟩
        · rintro ⟨j, hj, e⟩
          by_cases hjm : j = m
          · subst hjm; exact .inr (by simp [e])
          · exact .inl ⟨j, by omega, e⟩
    | false =>
      rw [if_neg (by decide), List.append_nil]
      refine ⟨h1, fun x => (h2 x).trans ?_⟩
      have hm0 : 0 < m := by
        rcases Nat.eq_zero_or_pos m with e | e
        · subst e
          rw [Lib.keeps_lt_one d 0 (by omega)] at hk; cases hk
        · exact e
      have e0 : d[m]! = d[m - 1]! := by
        by_cases e : d[m]! = d[m - 1]!
        · exact e
        · rw [Lib.keeps_pos e] at hk; cases hk
      constructor
      · rintro ⟨j, hj, e⟩; exact ⟨j, by omega, e⟩
      · rintro ⟨j, hj, e⟩
        by_cases hjm : j = m
        · subst hjm; exact ⟨j - 1, by omega, by rw [← e0]; exact e⟩
        · exact ⟨j, by omega, e⟩
theorem sort_mono (l : List (List UInt8)) : (l.mergeSort fun x y => decide (x ≤ y)).Pairwise (· ≤ ·) := by
  have h := List.pairwise_mergeSort (le := fun x y : List UInt8 => decide (x ≤ y)) (fun a b c h1 h2 => by simp only [decide_eq_true_eq] at h1 h2 ⊢; exact List.le_trans h1 h2) (fun a b => by simp only [Bool.or_eq_true, decide_eq_true_eq]; exact List.le_total a b) l
  exact h.imp fun h => by simpa using h
theorem compact_sort_set (l : List ByteArray) : SetOf (compS (sortS l)) l := by
  have e : compS (sortS l) = (Lib.compact ((l.map toB).mergeSort fun x y => decide (x ≤ y))).map ofB := by
    unfold compS sortS
    rw [List.map_map]
    congr 2
    conv => rhs; rw [← List.map_id ((l.map toB).mergeSort _)]
    exact List.map_congr_left fun x _ => by simp [toB, ofB]
  rw [e]
  have hs := sort_mono (l.map toB)
  have hp := List.mergeSort_perm (l.map toB) (fun x y => decide (x ≤ y))
  generalize ((l.map toB).mergeSort fun x y => decide (x ≤ y)) = s at hs hp
  have hget : ∀ i (h : i < s.length), s.toArray[i]! = s[i] := fun i h => by simp [h]
  have hsz : s.toArray.size = s.length := by simp
  obtain ⟨h1, h2⟩ := compact_set s.toArray (fun i j hij hj => by
    rw [hget i (by rw [hsz] at hj; omega), hget j (by rw [hsz] at hj; exact hj)]
    by_cases e : i = j
    · subst e; exact List.le_refl _
    · exact List.pairwise_iff_getElem.1 hs i j _ _ (by omega)) s.length (by rw [hsz]; exact Nat.le_refl _)
  unfold Lib.compact
  refine ⟨?_, fun x => ?_⟩
  · refine List.pairwise_map.2 (h1.imp fun h => ?_)
    simpa [toB, ofB] using h
  · constructor
    · intro hx
      obtain ⟨y, hy, rfl⟩ := List.mem_map.1 hx
      obtain ⟨j, hj, e2⟩ := (h2 y).1 hy
      rw [hget j hj] at e2
      have : y ∈ l.map toB := hp.mem_iff.1 (e2 ▸ List.getElem_mem hj)
      obtain ⟨z, hz, rfl⟩ := List.mem_map.1 this
      rw [ofB_toB]; exact hz
    · intro hx
      have : toB x ∈ s := hp.mem_iff.2 (List.mem_map.2 ⟨x, hx, rfl⟩)
      obtain ⟨j, hj, e2⟩ := List.getElem_of_mem this
      exact List.mem_map.2 ⟨toB x, (h2 _).2 ⟨j, hj, by rw [hget j hj]; exact e2⟩, ofB_toB x⟩
end Go.Proofs.Ytomccmodlkdcbaa.Pure
