/- Strings sorted, each once: sets. -/
import Derived.Test.YtjodnhlfodmpeaaQx
import Derived.Test.YtjodnhlfodmpeaaHEvBase
set_option linter.unusedVariables false
set_option linter.unusedSimpArgs false
set_option maxHeartbeats 2000000
namespace Go.Proofs.Ytjodnhlfodmpeaa.Pure
open Go.RowKit Go.Proofs.Ytjodnhlfodmpeaa.Q Go.Proofs.YtjodnhlfodmpeaaW.PrintWords Go.Proofs.YtjodnhlfodmpeaaW.PrintLast Go.Proofs.YtjodnhlfodmpeaaW.PrintMore

theorem ls_irrefl (a : List UInt8) : ¬ a < a := List.lt_irrefl a
theorem ls_trans {a b c : List UInt8} (h1 : a < b) (h2 : b < c) : a < c := List.lt_trans h1 h2
theorem ls_tri (a b : List UInt8) : a < b ∨ a = b ∨ b < a := by
  by_cases h1 : a < b
  · exact .inl h1
  · by_cases h2 : b < a
    · exact .inr (.inr h2)
    · exact .inr (.inl (List.le_antisymm (List.not_lt.1 h2) (List.not_lt.1 h1)))
/-- A list's strings, rising, each once. -/
def SetOf (r l : List ByteArray) : Prop := (r.Pairwise fun a b => toB a < toB b) ∧ ∀ x, x ∈ r ↔ x ∈ l
theorem rise_uniq : ∀ {r s : List ByteArray}, (r.Pairwise fun a b => toB a < toB b) → (s.Pairwise fun a b => toB a < toB b) → (∀ x, x ∈ r ↔ x ∈ s) → r = s
  | [], [], _, _, _ => rfl
  | [], y :: ys, _, _, h => absurd ((h y).2 (by simp)) (by simp)
  | x :: xs, [], _, _, h => absurd ((h x).1 (by simp)) (by simp)
  | x :: xs, y :: ys, h1, h2, h => by
    obtain ⟨a1, b1⟩ := List.pairwise_cons.1 h1
    obtain ⟨a2, b2⟩ := List.pairwise_cons.1 h2
    have e : x = y := by
      rcases List.mem_cons.1 ((h x).1 (by simp)) with e | e
      · exact e
      · rcases List.mem_cons.1 ((h y).2 (by simp)) with e2 | e2
        · exact e2.symm
        · exact absurd (ls_trans (a1 y e2) (a2 x e)) (ls_irrefl _)
    subst e
    rw [rise_uniq b1 b2 fun z => ?_]
    constructor
    · intro hz
      rcases List.mem_cons.1 ((h z).1 (List.mem_cons_of_mem _ hz)) with e | e
      · subst e; exact absurd (a1 z hz) (ls_irrefl _)
      · exact e
    · intro hz
      rcases List.mem_cons.1 ((h z).2 (List.mem_cons_of_mem _ hz)) with e | e
      · subst e; exact absurd (a2 z hz) (ls_irrefl _)
      · exact e
theorem SetOf.uniq {r s l m : List ByteArray} (h1 : SetOf r l) (h2 : SetOf s m) (h : ∀ x, x ∈ l ↔ x ∈ m) : r = s := rise_uniq h1.1 h2.1 fun x => (h1.2 x).trans ((h x).trans (h2.2 x).symm)
theorem compact_set (d : Array (List UInt8)) (hs : ∀ i j, i ≤ j → j < d.size → d[i]! ≤ d[j]!) : ∀ m, m ≤ d.size → (Lib.compactUpTo d m).Pairwise (· < ·) ∧ ∀ x, x ∈ Lib.compactUpTo d m ↔ ∃ j, j < m ∧ d[j]! = x
  | 0, _ => by simp [Lib.compactUpTo]
  | m + 1, hm => by
    obtain ⟨h1, h2⟩ := compact_set d hs m (by omega)
    rw [Lib.compactUpTo_succ]
    cases hk : Lib.keeps d m with
    | true =>
      rw [if_pos rfl]
      refine ⟨List.pairwise_append.2 ⟨h1, List.pairwise_singleton _ _, fun a ha b hb => ?_⟩, fun x => ?_⟩
      · obtain rfl : b = d[m]! := by simpa using hb
        obtain ⟨j, hj, rfl⟩ := (h2 a).1 ha
        have hne : d[m]! ≠ d[m - 1]! := by
          intro e
          rw [Lib.keeps_neg (by omega) e] at hk
          cases hk
        have l1 : d[j]! ≤ d[m - 1]! := hs j (m - 1) (by omega) (by omega)
        have l2 : d[m - 1]! ≤ d[m]! := hs (m - 1) m (by omega) (by omega)
        have l3 : d[m - 1]! < d[m]! := by
          rcases ls_tri d[m - 1]! d[m]! with e | e | e
          · exact e
          · exact absurd e.symm hne
          · exact absurd e (List.not_lt.2 l2)
        rcases ls_tri d[j]! d[m]! with e | e | e
        · exact e
        · exfalso
          rw [e] at l1
          exact List.not_lt.2 l1 l3
        · exact absurd e (List.not_lt.2 (hs j m (by omega) (by omega)))
      · rw [List.mem_append, h2 x]
        constructor
        · rintro (⟨j, hj, e⟩ | e)
          · exact ⟨j, by omega, e⟩
          · exact ⟨m, by omega, (List.mem_singleton.1 e).symm⟩
        · rintro ⟨j, hj, e⟩
          by_cases hjm : j = m
          · subst hjm; exact .inr (by simp [e])
          · exact .inl ⟨j, by omega, e⟩
    | false =>
      rw [if_neg (by decide), List.append_nil]
      refine ⟨h1, fun x => (h2 x).trans ?_⟩
      have hm0 : 0 < m := by
        rcases Nat.eq_zero_or_pos m with e | e
        · subst e
          rw [Lib.keeps_lt_one d 0 (by omega)] at hk; cases hk
        · exact e
      have e0 : d[m]! = d[m - 1]! := by
        by_cases e : d[m]! = d[m - 1]!
        · exact e
        · rw [Lib.keeps_pos e] at hk; cases hk
      constructor
      · rintro ⟨j, hj, e⟩; exact ⟨j, by omega, e⟩
      · rintro ⟨j, hj, e⟩
        by_cases hjm : j = m
        · subst hjm; exact ⟨j - 1, by omega, by rw [← e0]; exact e⟩
        · exact ⟨j, by omega, e⟩
theorem sort_mono (l : List (List UInt8)) : (l.mergeSort fun x y => decide (x ≤ y)).Pairwise (· ≤ ·) := by
  have h := List.pairwise_mergeSort (le := fun x y : List UInt8 => decide (x ≤ y)) (fun a b c h1 h2 => by simp only [decide_eq_true_eq] at h1 h2 ⊢; exact List.le_trans h1 h2) (fun a b => by simp only [Bool.or_eq_true, decide_eq_true_eq]; exact List.le_total a b) l
  exact h.imp fun h => by simpa using h
theorem compact_sort_set (l : List ByteArray) : SetOf (compS (sortS l)) l := by
  have e : compS (sortS l) = (Lib.compact ((l.map toB).mergeSort fun x y => decide (x ≤ y))).map ofB := by
    unfold compS sortS
    rw [List.map_map]
    congr 2
    conv => rhs; rw [← List.map_id ((l.map toB).mergeSort _)]
    exact List.map_congr_left fun x _ => by simp [toB, ofB]
  rw [e]
  have hs := sort_mono (l.map toB)
  have hp := List.mergeSort_perm (l.map toB) (fun x y => decide (x ≤ y))
  generalize ((l.map toB).mergeSort fun x y => decide (x ≤ y)) = s at hs hp
  have hget : ∀ i (h : i < s.length), s.toArray[i]! = s[i] := fun i h => by simp [h]
  have hsz : s.toArray.size = s.length := by simp
  obtain ⟨h1, h2⟩ := compact_set s.toArray (fun i j hij hj => by
    rw [hget i (by rw [hsz] at hj; omega), hget j (by rw [hsz] at hj; exact hj)]
    by_cases e : i = j
    · subst e; exact List.le_refl _
    · exact List.pairwise_iff_getElem.1 hs i j _ _ (by omega)) s.length (by rw [hsz]; exact Nat.le_refl _)
  unfold Lib.compact
  refine ⟨?_, fun x => ?_⟩
  · refine List.pairwise_map.2 (h1.imp fun h => ?_)
    simpa [toB, ofB] using h
  · constructor
    · intro hx
      obtain ⟨y, hy, rfl⟩ := List.mem_map.1 hx
      obtain ⟨j, hj, e2⟩ := (h2 y).1 hy
      rw [hget j hj] at e2
      have : y ∈ l.map toB := hp.mem_iff.1 (e2 ▸ List.getElem_mem hj)
      obtain ⟨z, hz, rfl⟩ := List.mem_map.1 this
      rw [ofB_toB]; exact hz
    · intro hx
      have : toB x ∈ s := hp.mem_iff.2 (List.mem_map.2 ⟨x, hx, rfl⟩)
      obtain ⟨j, hj, e2⟩ := List.getElem_of_mem this
      exact List.mem_map.2 ⟨toB x, (h2 _).2 ⟨j, hj, by rw [hget j hj]; exact e2⟩, ofB_toB x⟩
end Go.Proofs.Ytjodnhlfodmpeaa.Pure
