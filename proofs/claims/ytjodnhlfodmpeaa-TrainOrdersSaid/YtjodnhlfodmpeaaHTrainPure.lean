/- Strings cut in pieces, what is counted of them: without any program. -/
import Derived.Test.YtjodnhlfodmpeaaHFsstPure
set_option linter.unusedVariables false
set_option linter.unusedSimpArgs false
namespace HopPure
/-- The length of the longest symbol at a string's begin; 0: there is none. -/
def lon : List (List UInt8) → List UInt8 → Nat
  | [], _ => 0
  | x :: T, s => if x <+: s then max x.length (lon T s) else lon T s
theorem lon_ge : ∀ {T : List (List UInt8)} {s x : List UInt8}, x ∈ T → x <+: s → x.length ≤ lon T s
  | y :: T, s, x, h, hp => by
    unfold lon
    rcases List.mem_cons.1 h with rfl | h
    · rw [if_pos hp]; omega
    · have := lon_ge h hp
      split <;> omega
theorem lon_at : ∀ (T : List (List UInt8)) (s : List UInt8), lon T s = 0 ∨ ∃ x ∈ T, x <+: s ∧ x.length = lon T s
  | [], s => .inl rfl
  | y :: T, s => by
    unfold lon
    by_cases h : y <+: s
    · rw [if_pos h]
      by_cases h2 : lon T s ≤ y.length
      · exact .inr ⟨y, by simp, h, by omega⟩
      · rcases lon_at T s with h3 | ⟨x, hx, hp, he⟩
        · omega
        · exact .inr ⟨x, by simp [hx], hp, by omega⟩
    · rw [if_neg h]
      rcases lon_at T s with h3 | ⟨x, hx, hp, he⟩
      · exact .inl h3
      · exact .inr ⟨x, by simp [hx], hp, he⟩
theorem lon_of {T : List (List UInt8)} {s : List UInt8} {c n : Int} (h : IsLongest T s c n) : n = (lon T s : Nat) := by
  rcases h with ⟨_, rfl, h⟩ | ⟨i, hi, _, rfl, h1, h2⟩
  · rcases lon_at T s with h3 | ⟨x, hx, hp, he⟩
    · rw [h3]; rfl
    · exact absurd hp (h x hx)
  · have h3 := lon_ge (List.getElem_mem hi) h1
    rcases lon_at T s with h4 | ⟨x, hx, hp, he⟩
    · omega
    · have := h2 x hx hp; omega
theorem lon_le {T : List (List UInt8)} (s : List UInt8) : lon T s ≤ s.length := by
  rcases lon_at T s with h | ⟨x, _, hp, he⟩
  · omega
  · have := hp.length_le; omega
theorem lon_le8 {T : List (List UInt8)} (ht : ∀ x ∈ T, x.length ≤ 8) (s : List UInt8) : lon T s ≤ 8 := by
  rcases lon_at T s with h | ⟨x, hx, _, he⟩
  · omega
  · have := ht x hx; omega
/-- How many bytes a piece takes. -/
def stp (T : List (List UInt8)) (s : List UInt8) : Nat := max (lon T s) 1
theorem stp_pos (T : List (List UInt8)) (s : List UInt8) : 1 ≤ stp T s := by unfold stp; omega
theorem stp_le {T : List (List UInt8)} {s : List UInt8} (h : s ≠ []) : stp T s ≤ s.length := by
  have := lon_le (T := T) s
  have : s.length ≠ 0 := fun e => h (List.eq_nil_of_length_eq_zero e)
  unfold stp; omega
theorem stp_le8 {T : List (List UInt8)} (ht : ∀ x ∈ T, x.length ≤ 8) (s : List UInt8) : stp T s ≤ 8 := by
  have := lon_le8 ht s
  unfold stp; omega
/-- A string's pieces. -/
def cutL (T : List (List UInt8)) : Nat → List UInt8 → List (List UInt8)
  | 0, _ => []
  | f + 1, s => if s = [] then [] else s.take (stp T s) :: cutL T f (s.drop (stp T s))
theorem cutL_nil (T : List (List UInt8)) (f : Nat) : cutL T f [] = [] := by cases f <;> simp [cutL]
theorem cutL_fuel (T : List (List UInt8)) : ∀ (f g : Nat) (s : List UInt8), s.length ≤ f → s.length ≤ g → cutL T f s = cutL T g s
  | 0, g, s, h, _ => by
    obtain rfl := List.eq_nil_of_length_eq_zero (Nat.le_zero.1 h)
    rw [cutL_nil, cutL_nil]
  | f + 1, 0, s, _, h => by
    obtain rfl := List.eq_nil_of_length_eq_zero (Nat.le_zero.1 h)
    rw [cutL_nil, cutL_nil]
  | f + 1, g + 1, s, h, h2 => by
    unfold cutL
    have := stp_pos T s
    rw [cutL_fuel T f g _ (by rw [List.length_drop]; omega) (by rw [List.length_drop]; omega)]
def piecesL (T : List (List UInt8)) (s : List UInt8) : List (List UInt8) := cutL T s.length s
theorem piecesL_nil (T : List (List UInt8)) : piecesL T [] = [] := rfl
theorem piecesL_cons (T : List (List UInt8)) {s : List UInt8} (h : s ≠ []) : piecesL T s = s.take (stp T s) :: piecesL T (s.drop (stp T s)) := by
  unfold piecesL
  obtain ⟨a, s', rfl⟩ := List.exists_cons_of_ne_nil h
  have := stp_pos T (a :: s')
  conv => lhs; rw [List.length_cons]; unfold cutL
  rw [if_neg h, cutL_fuel T _ _ _ (by rw [List.length_drop, List.length_cons]; omega) (Nat.le_refl _)]
theorem cutL_len (T : List (List UInt8)) : ∀ (f : Nat) (s : List UInt8), (cutL T f s).length ≤ s.length
  | 0, s => by simp [cutL]
  | f + 1, s => by
    unfold cutL
    by_cases h : s = []
    · rw [if_pos h]; simp
    · rw [if_neg h]
      have h1 := cutL_len T f (s.drop (stp T s))
      have h2 := stp_pos T s
      have h3 : s.length ≠ 0 := fun e => h (List.eq_nil_of_length_eq_zero e)
      rw [List.length_drop] at h1
      rw [List.length_cons]; omega
theorem cutL_size {T : List (List UInt8)} (ht : ∀ x ∈ T, x.length ≤ 8) : ∀ (f : Nat) (s : List UInt8), ∀ p ∈ cutL T f s, 1 ≤ p.length ∧ p.length ≤ 8
  | 0, s, p, h => by simp [cutL] at h
  | f + 1, s, p, h => by
    unfold cutL at h
    by_cases h0 : s = []
    · rw [if_pos h0] at h; simp at h
    · rw [if_neg h0] at h
      rcases List.mem_cons.1 h with rfl | h
      · have h1 := stp_le (T := T) h0
        have h2 := stp_pos T s
        have h3 := stp_le8 ht s
        rw [List.length_take]; omega
      · exact cutL_size ht f _ p h
/-- What is counted of pieces: each, and each pair of neighbours that is not too long. -/
def spellP : List (List UInt8) → List UInt8 → Bool → List (List UInt8)
  | [], _, _ => []
  | p :: ps, last, b => p :: (if b = true ∧ last.length + p.length ≤ 8 then (last ++ p) :: spellP ps p true else spellP ps p true)
theorem spellP_len : ∀ (ps : List (List UInt8)) (last : List UInt8) (b : Bool), (spellP ps last b).length ≤ 2 * ps.length
  | [], _, _ => by simp [spellP]
  | p :: ps, last, b => by
    have := spellP_len ps p true
    unfold spellP
    split <;> simp only [List.length_cons] <;> omega
theorem spellP_size : ∀ (ps : List (List UInt8)) (last : List UInt8) (b : Bool), (∀ p ∈ ps, 1 ≤ p.length ∧ p.length ≤ 8) → ∀ x ∈ spellP ps last b, 1 ≤ x.length ∧ x.length ≤ 8
  | [], _, _, _, x, hx => by simp [spellP] at hx
  | p :: ps, last, b, h, x, hx => by
    have hp := h p (by simp)
    unfold spellP at hx
    rcases List.mem_cons.1 hx with rfl | hx
    · exact hp
    · split at hx
      · rename_i hc
        rcases List.mem_cons.1 hx with rfl | hx
        · rw [List.length_append]; omega
        · exact spellP_size ps p true (fun q hq => h q (by simp [hq])) x hx
      · exact spellP_size ps p true (fun q hq => h q (by simp [hq])) x hx
/-- What is counted of all strings. -/
def countL (T : List (List UInt8)) (ss : List (List UInt8)) : List (List UInt8) := ss.flatMap fun s => spellP (piecesL T s) [] false
theorem countL_cons (T : List (List UInt8)) (s : List UInt8) (ss : List (List UInt8)) : countL T (s :: ss) = spellP (piecesL T s) [] false ++ countL T ss := by simp [countL]
theorem countL_size {T : List (List UInt8)} (ht : ∀ x ∈ T, x.length ≤ 8) (ss : List (List UInt8)) : ∀ x ∈ countL T ss, 1 ≤ x.length ∧ x.length ≤ 8 := fun x hx => by
  obtain ⟨s, _, hs⟩ := List.mem_flatMap.1 hx
  exact spellP_size _ _ _ (cutL_size ht _ _) x hs
theorem countL_len (T : List (List UInt8)) : ∀ ss : List (List UInt8), (countL T ss).length ≤ 2 * (ss.map List.length).sum
  | [] => by simp [countL]
  | s :: ss => by
    have h1 := countL_len T ss
    have h2 := spellP_len (piecesL T s) [] false
    have h3 := cutL_len T s.length s
    rw [countL_cons, List.length_append, List.map_cons, List.sum_cons]
    unfold piecesL at *
    omega
theorem countL_append (T : List (List UInt8)) (a b : List (List UInt8)) : countL T (a ++ b) = countL T a ++ countL T b := by simp [countL]
end HopPure
