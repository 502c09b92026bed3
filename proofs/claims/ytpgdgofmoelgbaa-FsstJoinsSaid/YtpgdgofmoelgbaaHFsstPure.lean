/-! Strings in order, tables of symbols, codes: without any program. -/
namespace HopPure
/-- Is a string less, byte by byte. -/
def bl : List UInt8 → List UInt8 → Bool
  | _, [] => false
  | [], _ :: _ => true
  | a :: x, b :: y => decide (a.toNat < b.toNat) || (decide (a.toNat = b.toNat) && bl x y)
theorem bl_irrefl : ∀ x : List UInt8, bl x x = false
  | [] => rfl
  | a :: x => by simp [bl, bl_irrefl x]
theorem bl_cons {a b : UInt8} {x y : List UInt8} : bl (a :: x) (b :: y) = true ↔ a.toNat < b.toNat ∨ a.toNat = b.toNat ∧ bl x y = true := by simp [bl]
theorem bl_trans : ∀ {x y z : List UInt8}, bl x y = true → bl y z = true → bl x z = true
  | _, [], _, h, _ => by simp [bl] at h
  | _, _ :: _, [], _, h => by simp [bl] at h
  | [], _ :: _, _ :: _, _, _ => rfl
  | a :: x, b :: y, c :: z, h1, h2 => by
    rw [bl_cons] at h1 h2 ⊢
    rcases h1 with h1 | ⟨h1, h1'⟩ <;> rcases h2 with h2 | ⟨h2, h2'⟩
    · left; omega
    · left; omega
    · left; omega
    · right; exact ⟨by omega, bl_trans h1' h2'⟩
theorem bl_tri : ∀ x y : List UInt8, bl x y = true ∨ x = y ∨ bl y x = true
  | [], [] => .inr (.inl rfl)
  | [], _ :: _ => .inl rfl
  | _ :: _, [] => .inr (.inr rfl)
  | a :: x, b :: y => by
    rw [bl_cons, bl_cons]
    rcases Nat.lt_trichotomy a.toNat b.toNat with h | h | h
    · exact .inl (.inl h)
    · rcases bl_tri x y with h2 | h2 | h2
      · exact .inl (.inr ⟨h, h2⟩)
      · exact .inr (.inl (by rw [UInt8.toNat.inj h, h2]))
      · exact .inr (.inr (.inr ⟨h.symm, h2⟩))
    · exact .inr (.inr (.inl h))
theorem bl_asymm {x y : List UInt8} (h : bl x y = true) : bl y x = false := by
  cases h2 : bl y x with
  | false => rfl
  | true => have := bl_trans h h2; rw [bl_irrefl] at this; cases this
/-- How strings compare: -1, 0, 1. -/
def cmpL (x y : List UInt8) : Int := if bl x y = true then -1 else if bl y x = true then 1 else 0
theorem cmpL_lt {x y : List UInt8} : cmpL x y < 0 ↔ bl x y = true := by
  unfold cmpL; split
  · simp [*]
  · split <;> simp [*]
theorem cmpL_gt {x y : List UInt8} : cmpL x y > 0 ↔ bl y x = true := by
  unfold cmpL; split
  · rename_i h; simp [bl_asymm h]
  · split <;> simp [*]
theorem cmpL_eq {x y : List UInt8} : cmpL x y = 0 ↔ x = y := by
  unfold cmpL; split
  · rename_i h
    constructor
    · intro h2; omega
    · rintro rfl; rw [bl_irrefl] at h; cases h
  · rename_i h
    split
    · rename_i h2
      constructor
      · intro h3; omega
      · rintro rfl; rw [bl_irrefl] at h2; cases h2
    · rename_i h2
      rcases bl_tri x y with h3 | h3 | h3
      · exact absurd h3 h
      · simp [h3]
      · exact absurd h3 h2
theorem cmpL_cons (a b : UInt8) (x y : List UInt8) : cmpL (a :: x) (b :: y) = if a.toNat < b.toNat then -1 else if b.toNat < a.toNat then 1 else cmpL x y := by
  unfold cmpL
  by_cases h1 : a.toNat < b.toNat
  · rw [if_pos (bl_cons.2 (.inl h1)), if_pos h1]
  · by_cases h2 : b.toNat < a.toNat
    · have h3 : ¬ bl (a :: x) (b :: y) = true := by rw [bl_cons]; omega
      rw [if_neg h3, if_pos (bl_cons.2 (.inl h2)), if_neg h1, if_pos h2]
    · have e : a.toNat = b.toNat := by omega
      have h3 : bl (a :: x) (b :: y) = bl x y := by simp [bl, e]
      have h4 : bl (b :: y) (a :: x) = bl y x := by simp [bl, e]
      rw [h3, h4, if_neg h1, if_neg h2]
/-- Strictly rising. -/
def Rising (t : List (List UInt8)) : Prop := ∀ (i j : Nat) (hi : i < t.length) (hj : j < t.length), i < j → bl t[i] t[j] = true
theorem Rising.inj {t : List (List UInt8)} (h : Rising t) {i j : Nat} (hi : i < t.length) (hj : j < t.length) (e : t[i] = t[j]) : i = j := by
  rcases Nat.lt_trichotomy i j with h1 | h1 | h1
  · have := h i j hi hj h1; rw [e, bl_irrefl] at this; cases this
  · exact h1
  · have := h j i hj hi h1; rw [e, bl_irrefl] at this; cases this
/-- Symbols: of one to eight bytes, rising, at most 255. -/
structure Table (t : List (List UInt8)) : Prop where
  rising : Rising t
  sizes : ∀ s ∈ t, 1 ≤ s.length ∧ s.length ≤ 8
  few : t.length ≤ 255
/-- The longest symbol at a string's begin: its code, its length; -1, 0: there is none. -/
def IsLongest (t : List (List UInt8)) (s : List UInt8) (code n : Int) : Prop :=
  (code = -1 ∧ n = 0 ∧ ∀ x ∈ t, ¬ x <+: s) ∨
  ∃ (i : Nat) (h : i < t.length), code = (i : Int) ∧ n = ((t[i]).length : Int) ∧ t[i] <+: s ∧ ∀ x ∈ t, x <+: s → x.length ≤ (t[i]).length
theorem prefix_take {x s : List UInt8} (h : x <+: s) : x = s.take x.length := (List.prefix_iff_eq_take.1 h)
theorem IsLongest.unique {t : List (List UInt8)} (ht : Rising t) {s : List UInt8} {c n c' n' : Int} (h : IsLongest t s c n) (h' : IsLongest t s c' n') : c = c' ∧ n = n' := by
  rcases h with ⟨rfl, rfl, h⟩ | ⟨i, hi, rfl, rfl, h1, h2⟩ <;> rcases h' with ⟨rfl, rfl, h'⟩ | ⟨j, hj, rfl, rfl, h1', h2'⟩
  · exact ⟨rfl, rfl⟩
  · exact absurd h1' (h _ (List.getElem_mem hj))
  · exact absurd h1 (h' _ (List.getElem_mem hi))
  · have e1 := h2 _ (List.getElem_mem hj) h1'
    have e2 := h2' _ (List.getElem_mem hi) h1
    have e3 : t[i] = t[j] := by rw [prefix_take h1, prefix_take h1', show (t[i]).length = (t[j]).length by omega]
    have e4 := ht.inj hi hj e3
    subst e4
    exact ⟨rfl, rfl⟩
/-- A string's codes. -/
inductive Enc (t : List (List UInt8)) : List UInt8 → List Int → Prop
  | nil : Enc t [] []
  | esc {c : UInt8} {s : List UInt8} {b : List Int} : IsLongest t (c :: s) (-1) 0 → Enc t s b → Enc t (c :: s) (255 :: (c.toNat : Int) :: b)
  | sym {s : List UInt8} {b : List Int} {i : Nat} (hi : i < t.length) : IsLongest t s (i : Int) ((t[i]).length : Int) → Enc t (s.drop (t[i]).length) b → Enc t s ((i : Int) :: b)
theorem IsLongest.pos {t : List (List UInt8)} {s : List UInt8} {i : Nat} {n : Int} (h : IsLongest t s (i : Int) n) : ∃ (h : i < t.length), n = ((t[i]).length : Int) ∧ t[i] <+: s := by
  rcases h with ⟨h, _⟩ | ⟨j, hj, e, h1, h2, _⟩
  · omega
  · have : i = j := by omega
    subst this
    exact ⟨hj, h1, h2⟩
theorem Enc.unique {t : List (List UInt8)} (ht : Table t) {s : List UInt8} {b : List Int} (h : Enc t s b) : ∀ {b' : List Int}, Enc t s b' → b = b' := by
  induction h with
  | nil =>
    intro b' h'
    cases h' with
    | nil => rfl
    | sym hi hl _ =>
      obtain ⟨_, _, hp⟩ := hl.pos
      have := (ht.sizes _ (List.getElem_mem hi)).1
      rw [List.prefix_nil.1 hp] at this
      simp at this
  | esc hl h1 ih =>
    intro b' h'
    cases h' with
    | esc hl' h1' => rw [ih h1']
    | sym hi hl' _ => have := (hl.unique ht.rising hl').1; omega
  | sym hi hl h1 ih =>
    intro b' h'
    cases h' with
    | nil =>
      obtain ⟨_, _, hp⟩ := hl.pos
      have := (ht.sizes _ (List.getElem_mem hi)).1
      rw [List.prefix_nil.1 hp] at this
      simp at this
    | esc hl' _ => have := (hl.unique ht.rising hl').1; omega
    | sym hj hl' h1' =>
      have e := (hl.unique ht.rising hl').1
      have e2 := Int.ofNat.inj e
      subst e2
      rw [ih h1']
theorem Enc.length {t : List (List UInt8)} (ht : Table t) {s : List UInt8} {b : List Int} (h : Enc t s b) : b.length ≤ 2 * s.length := by
  induction h with
  | nil => simp
  | esc hl h1 ih => simp; omega
  | sym hi hl h1 ih =>
    obtain ⟨_, _, hp⟩ := hl.pos
    have h2 := (ht.sizes _ (List.getElem_mem hi)).1
    have h3 := hp.length_le
    rw [List.length_drop] at ih
    simp
    omega
theorem Enc.bytes {t : List (List UInt8)} (ht : Table t) {s : List UInt8} {b : List Int} (h : Enc t s b) : ∀ x ∈ b, 0 ≤ x ∧ x ≤ 255 := by
  induction h with
  | nil => simp
  | @esc c s b hl h1 ih =>
    intro x hx
    have := c.toNat_lt
    simp at hx
    rcases hx with rfl | rfl | hx
    · omega
    · omega
    · exact ih x hx
  | sym hi hl h1 ih =>
    intro x hx
    have := ht.few
    simp at hx
    rcases hx with rfl | hx
    · omega
    · exact ih x hx
theorem nat_byte (c : UInt8) : UInt8.ofNat ((c.toNat : Int)).toNat = c := by simp
/-- What codes say: the bytes, the error, how many codes were met. -/
def decL (t : List (List UInt8)) (most : Int) : List UInt8 → Int → List Int → List UInt8 × Int × Int
  | acc, n, [] => (acc, 0, n)
  | acc, n, [c] => if c = 255 then ([], 2, n) else if c ≥ (t.length : Int) then ([], 3, n) else if ((acc.length : Int) + ((t[c.toNat]?.getD []).length : Int)) > most then ([], 6, n + 1) else (acc ++ t[c.toNat]?.getD [], 0, n + 1)
  | acc, n, c :: x :: b =>
    if c = 255 then (if (acc.length : Int) + 1 > most then ([], 6, n + 1) else decL t most (acc ++ [UInt8.ofNat x.toNat]) (n + 1) b)
    else if c ≥ (t.length : Int) then ([], 3, n) else if ((acc.length : Int) + ((t[c.toNat]?.getD []).length : Int)) > most then ([], 6, n + 1) else decL t most (acc ++ t[c.toNat]?.getD []) (n + 1) (x :: b)
theorem decL_nil (t : List (List UInt8)) (most : Int) (acc : List UInt8) (n : Int) : decL t most acc n [] = (acc, 0, n) := by rw [decL]
theorem decL_cut (t : List (List UInt8)) (most : Int) (acc : List UInt8) (n : Int) : decL t most acc n [255] = ([], 2, n) := by rw [decL]; simp
theorem decL_esc (t : List (List UInt8)) (most : Int) (acc : List UInt8) (n x : Int) (b : List Int) : decL t most acc n (255 :: x :: b) = if (acc.length : Int) + 1 > most then ([], 6, n + 1) else decL t most (acc ++ [UInt8.ofNat x.toNat]) (n + 1) b := by rw [decL]; simp
theorem decL_form (t : List (List UInt8)) (most : Int) (acc : List UInt8) (n c : Int) (b : List Int) (h : c ≠ 255) (h2 : c ≥ (t.length : Int)) : decL t most acc n (c :: b) = ([], 3, n) := by
  cases b with
  | nil => rw [decL, if_neg h, if_pos h2]
  | cons x b => rw [decL, if_neg h, if_pos h2]
theorem decL_sym (t : List (List UInt8)) (most : Int) (acc : List UInt8) (n : Int) (i : Nat) (b : List Int) (hi : i < t.length) (h : i ≠ 255) : decL t most acc n ((i : Int) :: b) = if ((acc.length : Int) + ((t[i]).length : Int)) > most then ([], 6, n + 1) else decL t most (acc ++ t[i]) (n + 1) b := by
  have e : t[((i : Int)).toNat]?.getD [] = t[i] := by simp [hi]
  cases b with
  | nil => conv => lhs; rw [decL, if_neg (by omega), if_neg (by omega), e]
           rw [decL_nil]
  | cons x b => conv => lhs; rw [decL, if_neg (by omega), if_neg (by omega), e]
/-- What is encoded is decoded as it was, if there is room. -/
theorem decL_enc {t : List (List UInt8)} (ht : Table t) {s : List UInt8} {b : List Int} (h : Enc t s b) : ∀ (most : Int) (acc : List UInt8) (n : Int) (b' : List Int), (acc.length : Int) + s.length ≤ most → ∃ m : Int, decL t most acc n (b ++ b') = decL t most (acc ++ s) m b' := by
  induction h with
  | nil => intro most acc n b' _; exact ⟨n, by simp⟩
  | @esc c s b hl h1 ih =>
    intro most acc n b' hr
    simp only [List.length_cons] at hr
    obtain ⟨m, hm⟩ := ih most (acc ++ [c]) (n + 1) b' (by simp; omega)
    refine ⟨m, ?_⟩
    rw [List.cons_append, List.cons_append, decL_esc, if_neg (by omega), nat_byte, hm, List.append_assoc]; rfl
  | @sym s b i hi hl h1 ih =>
    intro most acc n b' hr
    obtain ⟨_, _, hp⟩ := hl.pos
    have h2 := hp.length_le
    have h3 := ht.few
    obtain ⟨m, hm⟩ := ih most (acc ++ t[i]) (n + 1) b' (by rw [List.length_append, List.length_drop]; omega)
    refine ⟨m, ?_⟩
    rw [List.cons_append, decL_sym t most acc n i _ hi (by omega), if_neg (by omega), hm, List.append_assoc]
    congr 2
    have := prefix_take hp
    rw [this, List.length_take, Nat.min_eq_left h2, List.take_append_drop]
/-- With too little room it is told so. -/
theorem decL_less {t : List (List UInt8)} (ht : Table t) {s : List UInt8} {b : List Int} (h : Enc t s b) : ∀ (most : Int) (acc : List UInt8) (n : Int), (acc.length : Int) + s.length > most → (acc.length : Int) ≤ most → ∃ m : Int, decL t most acc n b = ([], 6, m) := by
  induction h with
  | nil => intro most acc n h1 h2; simp at h1; omega
  | @esc c s b hl h1 ih =>
    intro most acc n hr ha
    simp only [List.length_cons] at hr
    rw [decL_esc]
    by_cases h3 : (acc.length : Int) + 1 > most
    · exact ⟨n + 1, by rw [if_pos h3]⟩
    · rw [if_neg h3]
      exact ih most _ _ (by simp; omega) (by simp; omega)
  | @sym s b i hi hl h1 ih =>
    intro most acc n hr ha
    obtain ⟨_, _, hp⟩ := hl.pos
    have h2 := hp.length_le
    have h3 := ht.few
    rw [decL_sym t most acc n i _ hi (by omega)]
    by_cases h4 : (acc.length : Int) + ((t[i]).length : Int) > most
    · exact ⟨n + 1, by rw [if_pos h4]⟩
    · rw [if_neg h4]
      exact ih most _ _ (by rw [List.length_append, List.length_drop]; omega) (by rw [List.length_append]; omega)
/-- How many codes there are, up to the first that is none. -/
def cntL (t : List (List UInt8)) : List Int → Int
  | [] => 0
  | [c] => if c = 255 then 0 else if c ≥ (t.length : Int) then 0 else 1
  | c :: x :: b => if c = 255 then 1 + cntL t b else if c ≥ (t.length : Int) then 0 else 1 + cntL t (x :: b)
theorem cntL_cut (t : List (List UInt8)) : cntL t [255] = 0 := by rw [cntL]; simp
theorem cntL_esc (t : List (List UInt8)) (x : Int) (b : List Int) : cntL t (255 :: x :: b) = 1 + cntL t b := by rw [cntL]; simp
theorem cntL_form (t : List (List UInt8)) (c : Int) (b : List Int) (h : c ≠ 255) (h2 : c ≥ (t.length : Int)) : cntL t (c :: b) = 0 := by
  cases b with
  | nil => rw [cntL, if_neg h, if_pos h2]
  | cons x b => rw [cntL, if_neg h, if_pos h2]
theorem cntL_sym (t : List (List UInt8)) (c : Int) (b : List Int) (h : c ≠ 255) (h2 : ¬ c ≥ (t.length : Int)) : cntL t (c :: b) = 1 + cntL t b := by
  cases b with
  | nil => conv => lhs; rw [cntL, if_neg h, if_neg h2]
           rw [cntL]; rfl
  | cons x b => conv => lhs; rw [cntL, if_neg h, if_neg h2]
theorem cntL_enc {t : List (List UInt8)} (ht : Table t) {s : List UInt8} {b : List Int} (h : Enc t s b) : ∀ b', cntL t (b ++ b') = cntL t b + cntL t b' := by
  induction h with
  | nil => intro b'; simp [cntL]
  | esc hl h1 ih => intro b'; rw [List.cons_append, List.cons_append, cntL_esc, cntL_esc, ih]; omega
  | sym hi hl h1 ih =>
    intro b'
    have := ht.few
    rw [List.cons_append, cntL_sym t _ _ (by omega) (by omega), cntL_sym t _ _ (by omega) (by omega), ih]; omega
end HopPure
