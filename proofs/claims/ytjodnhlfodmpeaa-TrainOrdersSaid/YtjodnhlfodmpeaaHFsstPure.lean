/-! Strings in order, tables of symbols, codes: without any program. -/
namespace HopPure
/-- Is a string less, byte by byte. -/
def bl : List UInt8 → List UInt8 → Bool
  | _, [] => false
  | [], _ :: _ => true
  | a :: x, b :: y => decide (a.toNat < b.toNat) || (decide (a.toNat = b.toNat) && bl x y)
theorem bl_irrefl : ∀ x : List UInt8, bl x x = false
  | [] => rfl
  | a :: x => by simp [bl, bl_irrefl x]
theorem bl_cons {a b : UInt8} {x y : List UInt8} : bl (a :: x) (b :: y) = true ↔ a.toNat < b.toNat ∨ a.toNat = b.toNat ∧ bl x y = true := by simp [bl]
theorem bl_trans : ∀ {x y z : List UInt8}, bl x y = true → bl y z = true → bl x z = true
  | _, [], _, h, _ => by simp [bl] at h
  | _, _ :: _, [], _, h => by simp [bl] at h
  | [], _ :: _, _ :: _, _, _ => rfl
  | a :: x, b :: y, c :: z, h1, h2 => by
    rw [bl_cons] at h1 h2 ⊢
    rcases h1 with h1 | ⟨h1, h1'⟩ <;> rcases h2 with h2 | ⟨h2, h2'⟩
    · left; omega
    · left; omega
    · left; omega
    · right; exact ⟨by omega, bl_trans h1' h2'⟩
/-- How strings compare: -1, 0, 1. -/
def cmpL (x y : List UInt8) : Int := if bl x y = true then -1 else if bl y x = true then 1 else 0
/-- Strictly rising. -/
def Rising (t : List (List UInt8)) : Prop := ∀ (i j : Nat) (hi : i < t.length) (hj : j < t.length), i < j → bl t[i] t[j] = true
theorem Rising.inj {t : List (List UInt8)} (h : Rising t) {i j : Nat} (hi : i < t.length) (hj : j < t.length) (e : t[i] = t[j]) : i = j := by
  rcases Nat.lt_trichotomy i j with h1 | h1 | h1
  · have := h i j hi hj h1; rw [e, bl_irrefl] at this; cases this
  · exact h1
  · have := h j i hj hi h1; rw [e, bl_irrefl] at this; cases this
/-- Symbols: of one to eight bytes, rising, at most 255. -/
structure Table (t : List (List UInt8)) : Prop where
  rising : Rising t
  sizes : ∀ s ∈ t, 1 ≤ s.length ∧ s.length ≤ 8
  few : t.length ≤ 255
/-- The longest symbol at a string's begin: its code, its length; -1, 0: there is none. -/
def IsLongest (t : List (List UInt8)) (s : List UInt8) (code n : Int) : Prop :=
  (code = -1 ∧ n = 0 ∧ ∀ x ∈ t, ¬ x <+: s) ∨
  ∃ (i : Nat) (h : i < t.length), code = (i : Int) ∧ n = ((t[i]).length : Int) ∧ t[i] <+: s ∧ ∀ x ∈ t, x <+: s → x.length ≤ (t[i]).length
theorem prefix_take {x s : List UInt8} (h : x <+: s) : x = s.take x.length := (List.prefix_iff_eq_take.1 h)
/-- A string's codes. -/
inductive Enc (t : List (List UInt8)) : List UInt8 → List Int → Prop
  | nil : Enc t [] []
  | esc {c : UInt8} {s : List UInt8} {b : List Int} : IsLongest t (c :: s) (-1) 0 → Enc t s b → Enc t (c :: s) (255 :: (c.toNat : Int) :: b)
  | sym {s : List UInt8} {b : List Int} {i : Nat} (hi : i < t.length) : IsLongest t s (i : Int) ((t[i]).length : Int) → Enc t (s.drop (t[i]).length) b → Enc t s ((i : Int) :: b)
theorem IsLongest.pos {t : List (List UInt8)} {s : List UInt8} {i : Nat} {n : Int} (h : IsLongest t s (i : Int) n) : ∃ (h : i < t.length), n = ((t[i]).length : Int) ∧ t[i] <+: s := by
  rcases h with ⟨h, _⟩ | ⟨j, hj, e, h1, h2, _⟩
  · omega
  · have : i = j := by omega
    subst this
    exact ⟨hj, h1, h2⟩
theorem Enc.length {t : List (List UInt8)} (ht : Table t) {s : List UInt8} {b : List Int} (h : Enc t s b) : b.length ≤ 2 * s.length := by
  induction h with
  | nil => simp
  | esc hl h1 ih => simp; omega
  | sym hi hl h1 ih =>
    obtain ⟨_, _, hp⟩ := hl.pos
    have h2 := (ht.sizes _ (List.getElem_mem hi)).1
    have h3 := hp.length_le
    rw [List.length_drop] at ih
    simp
    omega
theorem Enc.bytes {t : List (List UInt8)} (ht : Table t) {s : List UInt8} {b : List Int} (h : Enc t s b) : ∀ x ∈ b, 0 ≤ x ∧ x ≤ 255 := by
  induction h with
  | nil => simp
  | @esc c s b hl h1 ih =>
    intro x hx
    have := c.toNat_lt
    simp at hx
    rcases hx with rfl | rfl | hx
    · omega
    · omega
    · exact ih x hx
  | sym hi hl h1 ih =>
    intro x hx
    have := ht.few
    simp at hx
    rcases hx with rfl | hx
    · omega
    · exact ih x hx
end HopPure
