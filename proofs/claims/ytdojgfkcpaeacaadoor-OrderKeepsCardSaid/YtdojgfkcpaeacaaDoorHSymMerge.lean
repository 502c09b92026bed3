/- The stable sort of slices: what it makes of a row, in plain lists. -/
import Derived.Sort.LotA
set_option linter.unusedVariables false
namespace Go.Proofs.YtdojgfkcpaeacaaDoorW.PrintWords
open Go.Sort
section
variable {α : Type} [Inhabited α]
/-- Two ranges exchanged: k places more, from the i-th on. -/
def swpR (a b : Nat) : Nat → Nat → Array α → Array α
  | 0, _, d => d
  | k + 1, i, d => swpR a b k (i + 1) (swp d (a + i) (b + i))
theorem swpR_size (a b : Nat) : ∀ (k i : Nat) (d : Array α), (swpR a b k i d).size = d.size
  | 0, _, _ => rfl
  | k + 1, i, d => by rw [swpR, swpR_size a b k, size_swp]
theorem swpR_get (a b : Nat) : ∀ (k i : Nat) (d : Array α), a + i + k ≤ b + i → b + i + k ≤ d.size → ∀ x, (swpR a b k i d)[x]! = if a + i ≤ x ∧ x < a + i + k then d[x + (b - a)]! else if b + i ≤ x ∧ x < b + i + k then d[x - (b - a)]! else d[x]!
  | 0, i, d, h1, h2, x => by
    rw [swpR, if_neg (by omega), if_neg (by omega)]
  | k + 1, i, d, h1, h2, x => by
    rw [swpR, swpR_get a b k (i + 1) _ (by omega) (by rw [size_swp]; omega)]
    have g := swp_get d (i := a + i) (j := b + i) (by omega) (by omega)
    simp only [g]
    repeat' split
    all_goals first | rfl | omega | (congr 1; omega)
theorem swpR_perm (a b lo hi : Nat) : ∀ (k i : Nat) (d : Array α), lo ≤ a + i → a + i + k ≤ hi → lo ≤ b + i → b + i + k ≤ hi → hi ≤ d.size → PermIn lo hi d (swpR a b k i d)
  | 0, i, d, _, _, _, _, _ => permIn_refl _ _ _
  | k + 1, i, d, h1, h2, h3, h4, h5 => by
    rw [swpR]
    exact permIn_trans _ _ _ _ _ (swp_permIn d lo hi (a + i) (b + i) h1 (by omega) h3 (by omega) h5) (swpR_perm a b lo hi k (i + 1) _ (by omega) (by omega) (by omega) (by omega) (by rw [size_swp]; exact h5))
/-- The i elements ahead of m and the j from m on change places. -/
def rotP (m i j : Nat) (d : Array α) : Array α :=
  if h : 0 < i ∧ 0 < j then
    if i = j then swpR (m - i) m i 0 d
    else if j < i then rotP m (i - j) j (swpR (m - i) m j 0 d)
    else rotP m i (j - i) (swpR (m - i) (m + j - i) i 0 d)
  else d
termination_by i + j
theorem rotP_spec (m : Nat) : ∀ (n i j : Nat) (d : Array α), i + j ≤ n → 0 < i → 0 < j → i ≤ m → m + j ≤ d.size →
    PermIn (m - i) (m + j) d (rotP m i j d) ∧ ∀ x, (rotP m i j d)[x]! = if m - i ≤ x ∧ x < m - i + j then d[x + i]! else if m - i + j ≤ x ∧ x < m + j then d[x - j]! else d[x]!
  | 0, i, j, d, h0, h1, h2, h3, h4 => by omega
  | n + 1, i, j, d, h0, h1, h2, h3, h4 => by
    rw [rotP, dif_pos ⟨h1, h2⟩]
    by_cases e : i = j
    · rw [if_pos e]
      refine ⟨swpR_perm _ _ _ _ i 0 d (by omega) (by omega) (by omega) (by omega) h4, fun x => ?_⟩
      rw [swpR_get _ _ i 0 d (by omega) (by omega)]
      repeat' split
      all_goals first | rfl | omega | (congr 1; omega)
    rw [if_neg e]
    by_cases c : j < i
    · rw [if_pos c]
      have hs := swpR_size (m - i) m j 0 d
      obtain ⟨hp, hg⟩ := rotP_spec m n (i - j) j (swpR (m - i) m j 0 d) (by omega) (by omega) h2 (by omega) (by rw [hs]; exact h4)
      refine ⟨permIn_trans _ _ _ _ _ (swpR_perm _ _ _ _ j 0 d (by omega) (by omega) (by omega) (by omega) h4) (permIn_mono _ _ _ _ _ _ (by omega) (by omega) (by rw [hs]; exact h4) hp), fun x => ?_⟩
      rw [hg]
      simp only [swpR_get (m - i) m j 0 d (by omega) (by omega)]
      repeat' split
      all_goals first | rfl | omega | (congr 1; omega)
    · rw [if_neg c]
      have hs := swpR_size (m - i) (m + j - i) i 0 d
      obtain ⟨hp, hg⟩ := rotP_spec m n i (j - i) (swpR (m - i) (m + j - i) i 0 d) (by omega) h1 (by omega) h3 (by rw [hs]; omega)
      refine ⟨permIn_trans _ _ _ _ _ (swpR_perm _ _ _ _ i 0 d (by omega) (by omega) (by omega) (by omega) h4) (permIn_mono _ _ _ _ _ _ (by omega) (by omega) (by rw [hs]; exact h4) hp), fun x => ?_⟩
      rw [hg]
      simp only [swpR_get (m - i) (m + j - i) i 0 d (by omega) (by omega)]
      repeat' split
      all_goals first | rfl | omega | (congr 1; omega)
/-- The binary search. -/
def bsP (p : Nat → Bool) (i j : Nat) : Nat := if h : i < j then (if p ((i + j) / 2) then bsP p ((i + j) / 2 + 1) j else bsP p i ((i + j) / 2)) else i
termination_by j - i
theorem bsP_spec (p : Nat → Bool) (i0 j0 : Nat) : ∀ (n i j : Nat), j - i ≤ n → i0 ≤ i → i ≤ j → j ≤ j0 → (i0 < i → p (i - 1) = true) → (j < j0 → p j = false) →
    i0 ≤ bsP p i j ∧ bsP p i j ≤ j0 ∧ (i0 < bsP p i j → p (bsP p i j - 1) = true) ∧ (bsP p i j < j0 → p (bsP p i j) = false)
  | 0, i, j, h0, h1, h2, h3, h4, h5 => by
    obtain rfl : i = j := by omega
    rw [bsP, dif_neg (by omega)]
    exact ⟨h1, h3, h4, h5⟩
  | n + 1, i, j, h0, h1, h2, h3, h4, h5 => by
    rw [bsP]
    by_cases c : i < j
    · rw [dif_pos c]
      cases hp : p ((i + j) / 2) with
      | true =>
        rw [if_pos rfl]
        exact bsP_spec p i0 j0 n _ j (by omega) (by omega) (by omega) h3 (fun _ => by rw [Nat.add_sub_cancel]; exact hp) h5
      | false =>
        rw [if_neg (by decide)]
        exact bsP_spec p i0 j0 n i _ (by omega) h1 (by omega) (by omega) h4 (fun _ => hp)
    · rw [dif_neg c]
      obtain rfl : i = j := by omega
      exact ⟨h1, h3, h4, h5⟩
theorem bsP_at (p : Nat → Bool) (i j : Nat) (h : i ≤ j) : i ≤ bsP p i j ∧ bsP p i j ≤ j ∧ (i < bsP p i j → p (bsP p i j - 1) = true) ∧ (bsP p i j < j → p (bsP p i j) = false) :=
  bsP_spec p i j _ i j (Nat.le_refl _) (Nat.le_refl _) h (Nat.le_refl _) (fun h => by omega) (fun h => by omega)
/-- The element at k goes up by n places. -/
def mvU : Nat → Nat → Array α → Array α
  | 0, _, d => d
  | n + 1, k, d => mvU n (k + 1) (swp d k (k + 1))
theorem mvU_spec (lo hi : Nat) : ∀ (n k : Nat) (d : Array α), lo ≤ k → k + n < hi → hi ≤ d.size → PermIn lo hi d (mvU n k d) ∧ ∀ x, (mvU n k d)[x]! = if k ≤ x ∧ x < k + n then d[x + 1]! else if x = k + n then d[k]! else d[x]!
  | 0, k, d, h1, h2, h3 => by
    refine ⟨permIn_refl _ _ _, fun x => ?_⟩
    rw [mvU, if_neg (by omega)]
    split
    · next h => rw [h]; rfl
    · rfl
  | n + 1, k, d, h1, h2, h3 => by
    rw [mvU]
    obtain ⟨hp, hg⟩ := mvU_spec lo hi n (k + 1) (swp d k (k + 1)) (by omega) (by omega) (by rw [size_swp]; exact h3)
    refine ⟨permIn_trans _ _ _ _ _ (swp_permIn d lo hi k (k + 1) h1 (by omega) (by omega) (by omega) h3) hp, fun x => ?_⟩
    rw [hg]
    simp only [swp_get d (i := k) (j := k + 1) (by omega) (by omega)]
    by_cases e1 : k + 1 ≤ x ∧ x < k + 1 + n
    · simp only [if_pos e1]
      rw [if_pos (show k ≤ x ∧ x < k + (n + 1) by omega), if_neg (by omega), if_neg (by omega)]
    simp only [if_neg e1]
    by_cases e2 : x = k + 1 + n
    · simp only [if_pos e2]
      rw [if_neg (show ¬ (k ≤ x ∧ x < k + (n + 1)) by omega), if_pos (show x = k + (n + 1) by omega), if_pos trivial]
    simp only [if_neg e2]
    by_cases e3 : x = k
    · rw [if_neg (by omega), if_pos e3, if_pos (by omega), e3]
    · by_cases e4 : x = k + 1
      · omega
      · rw [if_neg e4, if_neg e3, if_neg (by omega), if_neg (by omega)]
/-- The element at k goes down by n places. -/
def mvD : Nat → Nat → Array α → Array α
  | 0, _, d => d
  | n + 1, k, d => mvD n (k - 1) (swp d k (k - 1))
theorem mvD_spec (lo hi : Nat) : ∀ (n k : Nat) (d : Array α), lo + n ≤ k → k < hi → hi ≤ d.size → PermIn lo hi d (mvD n k d) ∧ ∀ x, (mvD n k d)[x]! = if k - n < x ∧ x ≤ k then d[x - 1]! else if x = k - n then d[k]! else d[x]!
  | 0, k, d, h1, h2, h3 => by
    refine ⟨permIn_refl _ _ _, fun x => ?_⟩
    rw [mvD, if_neg (by omega)]
    split
    · next h => rw [h]; rfl
    · rfl
  | n + 1, k, d, h1, h2, h3 => by
    rw [mvD]
    obtain ⟨hp, hg⟩ := mvD_spec lo hi n (k - 1) (swp d k (k - 1)) (by omega) (by omega) (by rw [size_swp]; exact h3)
    refine ⟨permIn_trans _ _ _ _ _ (swp_permIn d lo hi k (k - 1) (by omega) (by omega) (by omega) (by omega) h3) hp, fun x => ?_⟩
    rw [hg]
    simp only [swp_get d (i := k) (j := k - 1) (by omega) (by omega)]
    by_cases e1 : k - 1 - n < x ∧ x ≤ k - 1
    · simp only [if_pos e1]
      rw [if_pos (show k - (n + 1) < x ∧ x ≤ k by omega), if_neg (by omega), if_neg (by omega)]
    simp only [if_neg e1]
    by_cases e2 : x = k - 1 - n
    · simp only [if_pos e2]
      rw [if_neg (show ¬ (k - (n + 1) < x ∧ x ≤ k) by omega), if_pos (show x = k - (n + 1) by omega), if_pos trivial]
    simp only [if_neg e2]
    by_cases e3 : x = k
    · rw [if_neg (by omega), if_pos e3, if_pos (by omega), e3]
    · rw [if_neg (by omega), if_neg e3, if_neg (by omega), if_neg (by omega)]
/-- The place at which the two runs are cut. -/
def cutP (lt : α → α → Bool) (a m b : Nat) (d : Array α) : Nat :=
  bsP (fun c => !lt d[(a + b) / 2 + m - 1 - c]! d[c]!) (if (a + b) / 2 < m then (a + b) / 2 + m - b else a) (if (a + b) / 2 < m then (a + b) / 2 else m)
/-- The two runs' middle parts have changed places. -/
def midP (lt : α → α → Bool) (a m b : Nat) (d : Array α) : Array α :=
  if cutP lt a m b d < m ∧ m < (a + b) / 2 + m - cutP lt a m b d then rotP m (m - cutP lt a m b d) ((a + b) / 2 - cutP lt a m b d) d else d
/-- Two runs, side by side, put into one. -/
def symP (lt : α → α → Bool) (a m b : Nat) (d : Array α) : Array α :=
  if m - a = 1 then mvU (bsP (fun h => lt d[h]! d[a]!) m b - 1 - a) a d
  else if b - m = 1 then mvD (m - bsP (fun h => !lt d[m]! d[h]!) a m) m d
  else
    let d1 := midP lt a m b d
    let d2 := if h : a < cutP lt a m b d ∧ cutP lt a m b d < (a + b) / 2 then symP lt a (cutP lt a m b d) ((a + b) / 2) d1 else d1
    if h : (a + b) / 2 < (a + b) / 2 + m - cutP lt a m b d ∧ (a + b) / 2 + m - cutP lt a m b d < b then symP lt ((a + b) / 2) ((a + b) / 2 + m - cutP lt a m b d) b d2 else d2
termination_by b - a
theorem sortedIn_sub {T : α → α → Bool} {a b a' b' : Nat} {d : Array α} (h : SortedIn T a b d) (h1 : a ≤ a') (h2 : b' ≤ b) : SortedIn T a' b' d := fun i j hi hij hj => h i j (by omega) hij (by omega)
theorem sortedIn_le {T : α → α → Bool} (hT : SWO T) {a b : Nat} {d : Array α} (h : SortedIn T a b d) (i j : Nat) (hi : a ≤ i) (hij : i ≤ j) (hj : j < b) : T d[j]! d[i]! = false := by
  by_cases e : i = j
  · subst e; exact hT.irrefl _
  · exact h i j hi (by omega) hj
/-- Where the runs are cut: nothing to the left is greater than what is to the right of the other run. -/
theorem cutP_spec {lt T : α → α → Bool} (hT : SWO T) (a m b : Nat) (d : Array α) (h1 : a < m) (h2 : m < b) (hl : SortedIn T a m d) (hr : SortedIn T m b d)
    (hx : ∀ i j, a ≤ i → i < m → m ≤ j → j < b → lt d[j]! d[i]! = T d[j]! d[i]!) :
    ∃ s, cutP lt a m b d = s ∧ a ≤ s ∧ s ≤ m ∧ s ≤ (a + b) / 2 ∧ (a + b) / 2 + m - s ≤ b ∧
      (∀ i j, a ≤ i → i < s → (a + b) / 2 + m - s ≤ j → j < b → T d[j]! d[i]! = false) ∧
      (∀ i j, s ≤ i → i < m → m ≤ j → j < (a + b) / 2 + m - s → T d[i]! d[j]! = false) := by
  refine ⟨_, rfl, ?_⟩
  unfold cutP
  generalize hmid : (a + b) / 2 = mid
  have hm1 : a ≤ mid := by omega
  have hm2 : mid < b := by omega
  generalize hs0 : (if mid < m then mid + m - b else a) = s0
  generalize hr0 : (if mid < m then mid else m) = r0
  have hs1 : s0 ≤ r0 ∧ a ≤ s0 ∧ r0 ≤ m ∧ r0 ≤ mid ∧ mid + m - s0 ≤ b ∧ (s0 = a ∨ mid + m - s0 = b) ∧ (r0 = m ∨ r0 = mid) := by
    by_cases c : mid < m
    · rw [if_pos c] at hs0 hr0; omega
    · rw [if_neg c] at hs0 hr0; omega
  obtain ⟨b1, b2, b3, b4⟩ := bsP_at (fun c => !lt d[mid + m - 1 - c]! d[c]!) s0 r0 hs1.1
  generalize bsP (fun c => !lt d[mid + m - 1 - c]! d[c]!) s0 r0 = s at b1 b2 b3 b4 ⊢
  obtain ⟨q1, q2, q3, q4, q5, q6, q7⟩ := hs1
  refine ⟨by omega, by omega, by omega, by omega, fun i j i1 i2 j1 j2 => ?_, fun i j i1 i2 j1 j2 => ?_⟩
  · have c : s0 < s := by omega
    have t := b3 c
    simp only [Bool.not_eq_true'] at t
    rw [hx (s - 1) (mid + m - 1 - (s - 1)) (by omega) (by omega) (by omega) (by omega)] at t
    have t1 := sortedIn_le hT hl i (s - 1) i1 (by omega) (by omega)
    have t2 := sortedIn_le hT hr (mid + m - 1 - (s - 1)) j (by omega) (by omega) j2
    exact hT.ntrans _ _ _ t2 (hT.ntrans _ _ _ t t1)
  · have c : s < r0 := by omega
    have t := b4 c
    simp only [Bool.not_eq_false'] at t
    rw [hx s (mid + m - 1 - s) (by omega) (by omega) (by omega) (by omega)] at t
    have t0 := hT.asymmA t
    have t1 := sortedIn_le hT hl s i (by omega) i1 i2
    have t2 := sortedIn_le hT hr j (mid + m - 1 - s) j1 (by omega) (by omega)
    exact hT.ntrans _ _ _ t1 (hT.ntrans _ _ _ t0 t2)
theorem midP_spec {lt : α → α → Bool} (a m b s : Nat) (d : Array α) (hs : cutP lt a m b d = s) (h1 : a < m) (h2 : m < b) (hb : b ≤ d.size) (s1 : a ≤ s) (s2 : s ≤ m) (s3 : s ≤ (a + b) / 2) (s4 : (a + b) / 2 + m - s ≤ b) :
    PermIn a b d (midP lt a m b d) ∧ ∀ x, (midP lt a m b d)[x]! = if s ≤ x ∧ x < (a + b) / 2 then d[x + (m - s)]! else if (a + b) / 2 ≤ x ∧ x < (a + b) / 2 + m - s then d[x - ((a + b) / 2 - s)]! else d[x]! := by
  unfold midP
  rw [hs]
  generalize (a + b) / 2 = mid at *
  by_cases c : s < m ∧ m < mid + m - s
  · rw [if_pos c]
    obtain ⟨hp, hg⟩ := rotP_spec m _ (m - s) (mid - s) d (Nat.le_refl _) (by omega) (by omega) (by omega) (by omega)
    refine ⟨permIn_mono _ _ _ _ _ _ (by omega) (by omega) hb hp, fun x => ?_⟩
    rw [hg]
    repeat' split
    all_goals first | rfl | omega | (congr 1; omega)
  · rw [if_neg c]
    refine ⟨permIn_refl _ _ _, fun x => ?_⟩
    repeat' split
    all_goals first | rfl | omega | (congr 1; omega)
theorem sortedIn_perm2 {T : α → α → Bool} {a c b : Nat} {d d' : Array α} (hb : b ≤ d.size) (hc : a ≤ c) (hcb : c ≤ b) (h : ∀ i j, a ≤ i → i < c → c ≤ j → j < b → T d[j]! d[i]! = false) (h1 : PermIn a c d d') : ∀ i j, a ≤ i → i < c → c ≤ j → j < b → T d'[j]! d'[i]! = false := by
  intro i j i1 i2 j1 j2
  rw [h1.2.1 j (.inr j1)]
  exact permIn_all d d' a c (fun x => T d[j]! x = false) (by omega) h1 (fun i i1 i2 => h i j i1 i2 j1 j2) i i1 i2
theorem sortedIn_perm3 {T : α → α → Bool} {a c b : Nat} {d d' : Array α} (hb : b ≤ d.size) (hc : a ≤ c) (hcb : c ≤ b) (h : ∀ i j, a ≤ i → i < c → c ≤ j → j < b → T d[j]! d[i]! = false) (h1 : PermIn c b d d') : ∀ i j, a ≤ i → i < c → c ≤ j → j < b → T d'[j]! d'[i]! = false := by
  intro i j i1 i2 j1 j2
  rw [h1.2.1 i (.inl i2)]
  exact permIn_all d d' c b (fun x => T x d[i]! = false) hb h1 (fun j j1 j2 => h i j i1 i2 j1 j2) j j1 j2
theorem sortedIn_join {T : α → α → Bool} {a c b : Nat} {d : Array α} (h1 : SortedIn T a c d) (h2 : SortedIn T c b d) (h : ∀ i j, a ≤ i → i < c → c ≤ j → j < b → T d[j]! d[i]! = false) : SortedIn T a b d := by
  intro i j i1 ij j1
  by_cases x : j < c
  · exact h1 i j i1 ij x
  by_cases y : c ≤ i
  · exact h2 i j y ij j1
  exact h i j i1 (by omega) (by omega) j1
theorem symP_spec {lt T : α → α → Bool} (hT : SWO T) : ∀ (n a m b : Nat) (d : Array α), b - a ≤ n → a < m → m < b → b ≤ d.size → SortedIn T a m d → SortedIn T m b d →
    (∀ i j, a ≤ i → i < m → m ≤ j → j < b → lt d[j]! d[i]! = T d[j]! d[i]!) → PermIn a b d (symP lt a m b d) ∧ SortedIn T a b (symP lt a m b d) := by
  intro n
  induction n with
  | zero => intro a m b d h0 h1 h2; omega
  | succ n ih =>
    intro a m b d h0 h1 h2 hb hl hr hx
    rw [symP]
    by_cases c1 : m - a = 1
    · rw [if_pos c1]
      obtain rfl : m = a + 1 := by omega
      obtain ⟨b1, b2, b3, b4⟩ := bsP_at (fun h => lt d[h]! d[a]!) (a + 1) b (by omega)
      generalize bsP (fun h => lt d[h]! d[a]!) (a + 1) b = i at b1 b2 b3 b4 ⊢
      obtain ⟨hp, hg⟩ := mvU_spec a b (i - 1 - a) a d (Nat.le_refl _) (by omega) hb
      refine ⟨hp, fun x y hax hxy hyb => ?_⟩
      have lo : ∀ k, a + 1 ≤ k → k < i → T d[a]! d[k]! = false := fun k k1 k2 => by
        have t := b3 (by omega)
        rw [hx a (i - 1) (by omega) (by omega) (by omega) (by omega)] at t
        exact hT.ntrans _ _ _ (hT.asymmA t) (sortedIn_le hT hr k (i - 1) k1 (by omega) (by omega))
      have up : ∀ k, i ≤ k → k < b → T d[k]! d[a]! = false := fun k k1 k2 => by
        have t := b4 (by omega)
        rw [hx a i (by omega) (by omega) (by omega) (by omega)] at t
        exact hT.ntrans _ _ _ (sortedIn_le hT hr i k (by omega) k1 k2) t
      have z : ∀ x, a ≤ x → (x < i - 1 ∧ (mvU (i - 1 - a) a d)[x]! = d[x + 1]!) ∨ (x = i - 1 ∧ (mvU (i - 1 - a) a d)[x]! = d[a]!) ∨ (i - 1 < x ∧ (mvU (i - 1 - a) a d)[x]! = d[x]!) := fun x h => by
        rw [hg]
        by_cases e1 : x < i - 1
        · exact .inl ⟨e1, by rw [if_pos ⟨h, by omega⟩]⟩
        by_cases e2 : x = i - 1
        · exact .inr (.inl ⟨e2, by rw [if_neg (by omega), if_pos (by omega)]⟩)
        · exact .inr (.inr ⟨by omega, by rw [if_neg (by omega), if_neg (by omega)]⟩)
      rcases z x hax with ⟨zx, ex⟩ | ⟨zx, ex⟩ | ⟨zx, ex⟩ <;> rcases z y (by omega) with ⟨zy, ey⟩ | ⟨zy, ey⟩ | ⟨zy, ey⟩ <;> rw [ex, ey] <;> first
        | omega
        | exact hr _ _ (by omega) (by omega) (by omega)
        | exact lo _ (by omega) (by omega)
        | exact up _ (by omega) (by omega)
    rw [if_neg c1]
    by_cases c2 : b - m = 1
    · rw [if_pos c2]
      obtain rfl : b = m + 1 := by omega
      obtain ⟨b1, b2, b3, b4⟩ := bsP_at (fun h => !lt d[m]! d[h]!) a m (by omega)
      generalize bsP (fun h => !lt d[m]! d[h]!) a m = i at b1 b2 b3 b4 ⊢
      obtain ⟨hp, hg⟩ := mvD_spec a (m + 1) (m - i) m d (by omega) (by omega) hb
      refine ⟨hp, fun x y hax hxy hyb => ?_⟩
      have lo : ∀ k, a ≤ k → k < i → T d[m]! d[k]! = false := fun k k1 k2 => by
        have t := b3 (by omega)
        simp only [Bool.not_eq_true'] at t
        rw [hx (i - 1) m (by omega) (by omega) (by omega) (by omega)] at t
        exact hT.ntrans _ _ _ t (sortedIn_le hT hl k (i - 1) k1 (by omega) (by omega))
      have up : ∀ k, i ≤ k → k < m → T d[k]! d[m]! = false := fun k k1 k2 => by
        have t := b4 (by omega)
        simp only [Bool.not_eq_false'] at t
        rw [hx i m (by omega) (by omega) (by omega) (by omega)] at t
        exact hT.ntrans _ _ _ (sortedIn_le hT hl i k (by omega) k1 k2) (hT.asymmA t)
      have z : ∀ x, x ≤ m → (x < i ∧ (mvD (m - i) m d)[x]! = d[x]!) ∨ (x = i ∧ (mvD (m - i) m d)[x]! = d[m]!) ∨ (i < x ∧ (mvD (m - i) m d)[x]! = d[x - 1]!) := fun x h => by
        rw [hg]
        by_cases e1 : x < i
        · exact .inl ⟨e1, by rw [if_neg (by omega), if_neg (by omega)]⟩
        by_cases e2 : x = i
        · exact .inr (.inl ⟨e2, by rw [if_neg (by omega), if_pos (by omega)]⟩)
        · exact .inr (.inr ⟨by omega, by rw [if_pos (by omega)]⟩)
      rcases z x (by omega) with ⟨zx, ex⟩ | ⟨zx, ex⟩ | ⟨zx, ex⟩ <;> rcases z y (by omega) with ⟨zy, ey⟩ | ⟨zy, ey⟩ | ⟨zy, ey⟩ <;> rw [ex, ey] <;> first
        | omega
        | exact hl _ _ (by omega) (by omega) (by omega)
        | exact lo _ (by omega) (by omega)
        | exact up _ (by omega) (by omega)
    rw [if_neg c2]
    obtain ⟨s, hs, s1, s2, s3, s4, lo, up⟩ := cutP_spec hT a m b d h1 h2 hl hr hx
    obtain ⟨hp, hg⟩ := midP_spec a m b s d hs h1 h2 hb s1 s2 s3 s4
    rw [hs]
    generalize hmid : (a + b) / 2 = mid at s3 s4 lo up hg ⊢
    have m1 : a < mid := by omega
    have m2 : mid < b := by omega
    clear hmid
    generalize midP lt a m b d = d1 at hp hg ⊢
    have hd1 : d1.size = d.size := hp.1
    have z : ∀ x, a ≤ x → x < b → (x < s ∧ d1[x]! = d[x]!) ∨ (s ≤ x ∧ x < mid ∧ d1[x]! = d[x + (m - s)]!) ∨ (mid ≤ x ∧ x < mid + m - s ∧ d1[x]! = d[x - (mid - s)]!) ∨ (mid + m - s ≤ x ∧ d1[x]! = d[x]!) := fun x i1 i2 => by
      rw [hg]
      by_cases e1 : x < s
      · exact .inl ⟨e1, by rw [if_neg (by omega), if_neg (by omega)]⟩
      by_cases e2 : x < mid
      · exact .inr (.inl ⟨by omega, e2, by rw [if_pos (by omega)]⟩)
      by_cases e3 : x < mid + m - s
      · exact .inr (.inr (.inl ⟨by omega, e3, by rw [if_neg (by omega), if_pos (by omega)]⟩))
      · exact .inr (.inr (.inr ⟨by omega, by rw [if_neg (by omega), if_neg (by omega)]⟩))
    have hcross : ∀ i j, a ≤ i → i < mid → mid ≤ j → j < b → T d1[j]! d1[i]! = false := fun i j i1 i2 j1 j2 => by
      rcases z i i1 (by omega) with ⟨zx, ex⟩ | ⟨zx, zx', ex⟩ | ⟨zx, zx', ex⟩ | ⟨zx, ex⟩ <;> rcases z j (by omega) j2 with ⟨zy, ey⟩ | ⟨zy, zy', ey⟩ | ⟨zy, zy', ey⟩ | ⟨zy, ey⟩ <;> rw [ex, ey] <;> first
        | omega
        | exact hl _ _ (by omega) (by omega) (by omega)
        | exact hr _ _ (by omega) (by omega) (by omega)
        | exact lo _ _ (by omega) (by omega) (by omega) (by omega)
        | exact up _ _ (by omega) (by omega) (by omega) (by omega)
    have q1 : SortedIn T a s d1 := fun i j i1 ij j1 => by
      rcases z i i1 (by omega) with ⟨zx, ex⟩ | ⟨zx, zx', ex⟩ | ⟨zx, zx', ex⟩ | ⟨zx, ex⟩ <;> rcases z j (by omega) (by omega) with ⟨zy, ey⟩ | ⟨zy, zy', ey⟩ | ⟨zy, zy', ey⟩ | ⟨zy, ey⟩ <;> rw [ex, ey] <;> first
        | omega
        | exact hl _ _ (by omega) (by omega) (by omega)
    have q2 : SortedIn T s mid d1 := fun i j i1 ij j1 => by
      rcases z i (by omega) (by omega) with ⟨zx, ex⟩ | ⟨zx, zx', ex⟩ | ⟨zx, zx', ex⟩ | ⟨zx, ex⟩ <;> rcases z j (by omega) (by omega) with ⟨zy, ey⟩ | ⟨zy, zy', ey⟩ | ⟨zy, zy', ey⟩ | ⟨zy, ey⟩ <;> rw [ex, ey] <;> first
        | omega
        | exact hr _ _ (by omega) (by omega) (by omega)
    have q3 : SortedIn T mid (mid + m - s) d1 := fun i j i1 ij j1 => by
      rcases z i (by omega) (by omega) with ⟨zx, ex⟩ | ⟨zx, zx', ex⟩ | ⟨zx, zx', ex⟩ | ⟨zx, ex⟩ <;> rcases z j (by omega) (by omega) with ⟨zy, ey⟩ | ⟨zy, zy', ey⟩ | ⟨zy, zy', ey⟩ | ⟨zy, ey⟩ <;> rw [ex, ey] <;> first
        | omega
        | exact hl _ _ (by omega) (by omega) (by omega)
    have q4 : SortedIn T (mid + m - s) b d1 := fun i j i1 ij j1 => by
      rcases z i (by omega) (by omega) with ⟨zx, ex⟩ | ⟨zx, zx', ex⟩ | ⟨zx, zx', ex⟩ | ⟨zx, ex⟩ <;> rcases z j (by omega) (by omega) with ⟨zy, ey⟩ | ⟨zy, zy', ey⟩ | ⟨zy, zy', ey⟩ | ⟨zy, ey⟩ <;> rw [ex, ey] <;> first
        | omega
        | exact hr _ _ (by omega) (by omega) (by omega)
    have x1 : ∀ i j, a ≤ i → i < s → s ≤ j → j < mid → lt d1[j]! d1[i]! = T d1[j]! d1[i]! := fun i j i1 i2 j1 j2 => by
      rcases z i (by omega) (by omega) with ⟨zx, ex⟩ | ⟨zx, zx', ex⟩ | ⟨zx, zx', ex⟩ | ⟨zx, ex⟩ <;> rcases z j (by omega) (by omega) with ⟨zy, ey⟩ | ⟨zy, zy', ey⟩ | ⟨zy, zy', ey⟩ | ⟨zy, ey⟩ <;> rw [ex, ey] <;> first
        | omega
        | exact hx _ _ (by omega) (by omega) (by omega) (by omega)
    have x2 : ∀ i j, mid ≤ i → i < mid + m - s → mid + m - s ≤ j → j < b → lt d1[j]! d1[i]! = T d1[j]! d1[i]! := fun i j i1 i2 j1 j2 => by
      rcases z i (by omega) (by omega) with ⟨zx, ex⟩ | ⟨zx, zx', ex⟩ | ⟨zx, zx', ex⟩ | ⟨zx, ex⟩ <;> rcases z j (by omega) (by omega) with ⟨zy, ey⟩ | ⟨zy, zy', ey⟩ | ⟨zy, zy', ey⟩ | ⟨zy, ey⟩ <;> rw [ex, ey] <;> first
        | omega
        | exact hx _ _ (by omega) (by omega) (by omega) (by omega)
    clear z hg lo up hx hl hr
    have A : ∃ d2, d2 = (if h : a < s ∧ s < mid then symP lt a s mid d1 else d1) ∧ PermIn a mid d1 d2 ∧ SortedIn T a mid d2 := by
      refine ⟨_, rfl, ?_⟩
      by_cases c : a < s ∧ s < mid
      · rw [dif_pos c]
        exact ih a s mid d1 (by omega) c.1 c.2 (by omega) q1 q2 x1
      · rw [dif_neg c]
        refine ⟨permIn_refl _ _ _, ?_⟩
        by_cases e : a < s
        · exact sortedIn_sub q1 (Nat.le_refl _) (by omega)
        · exact sortedIn_sub q2 (by omega) (Nat.le_refl _)
    obtain ⟨d2, e2, p2, o2⟩ := A
    simp only [← e2]
    clear e2 x1 q1 q2
    have hd2 : d2.size = d.size := p2.1.trans hd1
    have hc2 := sortedIn_perm2 (by omega) (by omega) (by omega) hcross p2
    have k3 : ∀ i, mid ≤ i → d2[i]! = d1[i]! := fun i h => p2.2.1 i (.inr h)
    have B : ∃ d3, d3 = (if h : mid < mid + m - s ∧ mid + m - s < b then symP lt mid (mid + m - s) b d2 else d2) ∧ PermIn mid b d2 d3 ∧ SortedIn T mid b d3 := by
      refine ⟨_, rfl, ?_⟩
      have q3' : SortedIn T mid (mid + m - s) d2 := fun i j i1 ij j1 => by rw [k3 i i1, k3 j (by omega)]; exact q3 i j i1 ij j1
      have q4' : SortedIn T (mid + m - s) b d2 := fun i j i1 ij j1 => by rw [k3 i (by omega), k3 j (by omega)]; exact q4 i j i1 ij j1
      by_cases c : mid < mid + m - s ∧ mid + m - s < b
      · rw [dif_pos c]
        exact ih mid (mid + m - s) b d2 (by omega) c.1 c.2 (by omega) q3' q4' (fun i j i1 i2 j1 j2 => by rw [k3 i i1, k3 j (by omega)]; exact x2 i j i1 i2 j1 j2)
      · rw [dif_neg c]
        refine ⟨permIn_refl _ _ _, ?_⟩
        by_cases e : mid < mid + m - s
        · exact sortedIn_sub q3' (Nat.le_refl _) (by omega)
        · exact sortedIn_sub q4' (by omega) (Nat.le_refl _)
    obtain ⟨d3, e3, p3, o3⟩ := B
    simp only [← e3]
    refine ⟨permIn_trans _ _ _ _ _ hp (permIn_trans _ _ _ _ _ (permIn_mono _ _ _ _ _ _ (Nat.le_refl _) (by omega) (by omega) p2) (permIn_mono _ _ _ _ _ _ (by omega) (Nat.le_refl _) (by omega) p3)), ?_⟩
    refine sortedIn_join (c := mid) ?_ o3 (sortedIn_perm3 (by omega) (by omega) (by omega) hc2 p3)
    intro i j i1 ij j1
    rw [p3.2.1 i (.inl (by omega)), p3.2.1 j (.inl j1)]
    exact o2 i j i1 ij j1
/-- The runs of twenty, each put into order. -/
def insBlocks (lt : α → α → Bool) (n a : Nat) (d : Array α) : Array α := if h : a + 20 ≤ n then insBlocks lt n (a + 20) (insertionSort lt d a (a + 20)) else insertionSort lt d a n
termination_by n - a
/-- Each two runs of s, side by side, put into one. -/
def symLevel (lt : α → α → Bool) (s n a : Nat) (d : Array α) : Array α :=
  if h : 0 < s ∧ a + 2 * s ≤ n then symLevel lt s n (a + 2 * s) (symP lt a (a + s) (a + 2 * s) d) else if a + s < n then symP lt a (a + s) n d else d
termination_by n - a
def symAll (lt : α → α → Bool) (n s : Nat) (d : Array α) : Array α := if h : 0 < s ∧ s < n then symAll lt n (2 * s) (symLevel lt s n 0 d) else d
termination_by n - s
def stableP (lt : α → α → Bool) (n : Nat) (d : Array α) : Array α := symAll lt n 20 (insBlocks lt n 0 d)
end
/-- The rows' places: which of two stands ahead, if what is asked does not tell. -/
def byPlace (lt : Nat → Nat → Bool) (n x y : Nat) : Bool := if x < n ∧ y < n then lt x y || (!lt y x && decide (x < y)) else decide (x < y)
structure WeakTo (lt : Nat → Nat → Bool) (n : Nat) : Prop where
  irrefl : ∀ x, x < n → lt x x = false
  trans : ∀ x y z, x < n → y < n → z < n → lt x y = true → lt y z = true → lt x z = true
  ntrans : ∀ x y z, x < n → y < n → z < n → lt x y = false → lt y z = false → lt x z = false
theorem byPlace_later {lt : Nat → Nat → Bool} {n x y : Nat} (hx : x < n) (hy : y < x) : byPlace lt n x y = lt x y := by
  unfold byPlace
  rw [if_pos ⟨hx, by omega⟩, decide_eq_false (by omega : ¬ x < y)]
  simp
theorem byPlace_anti {lt : Nat → Nat → Bool} {n : Nat} (x y : Nat) (h1 : byPlace lt n x y = false) (h2 : byPlace lt n y x = false) : x = y := by
  unfold byPlace at h1 h2
  by_cases c : x < n ∧ y < n
  · rw [if_pos c] at h1
    rw [if_pos ⟨c.2, c.1⟩] at h2
    simp only [Bool.or_eq_false_iff, Bool.and_eq_false_iff, Bool.not_eq_false', decide_eq_false_iff_not] at h1 h2
    rcases h1 with ⟨a1, b1 | b1⟩
    · rw [h2.1] at b1; cases b1
    · rcases h2 with ⟨a2, b2 | b2⟩
      · rw [a1] at b2; cases b2
      · omega
  · rw [if_neg c] at h1
    rw [if_neg (fun h => c ⟨h.2, h.1⟩)] at h2
    simp only [decide_eq_false_iff_not] at h1 h2
    omega
theorem byPlace_swo {lt : Nat → Nat → Bool} {n : Nat} (W : WeakTo lt n) : SWO (byPlace lt n) := by
  have asym : ∀ x y, x < n → y < n → lt x y = true → lt y x = false := fun x y hx hy h => by
    cases h2 : lt y x with
    | false => rfl
    | true => have := W.trans x y x hx hy hx h h2; rw [W.irrefl x hx] at this; cases this
  have tr : ∀ x y z, byPlace lt n x y = true → byPlace lt n y z = true → byPlace lt n x z = true := by
    intro x y z h1 h2
    unfold byPlace at h1 h2 ⊢
    by_cases cx : x < n
    · by_cases cy : y < n
      · by_cases cz : z < n
        · rw [if_pos ⟨cx, cy⟩] at h1
          rw [if_pos ⟨cy, cz⟩] at h2
          rw [if_pos ⟨cx, cz⟩]
          simp only [Bool.or_eq_true, Bool.and_eq_true, Bool.not_eq_true', decide_eq_true_eq] at h1 h2 ⊢
          rcases h1 with h1 | ⟨n1, l1⟩
          · rcases h2 with h2 | ⟨n2, l2⟩
            · exact .inl (W.trans x y z cx cy cz h1 h2)
            · left
              cases hxz : lt x z with
              | true => rfl
              | false => have := W.ntrans x z y cx cz cy hxz n2; rw [h1] at this; cases this
          · rcases h2 with h2 | ⟨n2, l2⟩
            · left
              cases hxz : lt x z with
              | true => rfl
              | false => have := W.ntrans y x z cy cx cz n1 hxz; rw [h2] at this; cases this
            · cases hxz : lt x z with
              | true => exact .inl rfl
              | false => exact .inr ⟨W.ntrans z y x cz cy cx n2 n1, by omega⟩
        · rw [if_neg (fun h => cz h.2)]; exact decide_eq_true (by omega)
      · rw [if_neg (fun h => cy h.2)] at h1
        rw [if_neg (fun h => cy h.1)] at h2
        simp only [decide_eq_true_eq] at h1 h2
        by_cases cz : z < n
        · omega
        · rw [if_neg (fun h => cz h.2)]; exact decide_eq_true (by omega)
    · rw [if_neg (fun h => cx h.1)] at h1
      simp only [decide_eq_true_eq] at h1
      rw [if_neg (fun h => by omega)] at h2
      simp only [decide_eq_true_eq] at h2
      rw [if_neg (fun h => cx h.1)]
      exact decide_eq_true (by omega)
  have ir : ∀ x, byPlace lt n x x = false := fun x => by
    unfold byPlace
    by_cases c : x < n
    · rw [if_pos ⟨c, c⟩, W.irrefl x c]; simp
    · rw [if_neg (fun h => c h.1)]; simp
  have tot : ∀ x y, byPlace lt n x y = false → x = y ∨ byPlace lt n y x = true := fun x y h => by
    cases h2 : byPlace lt n y x with
    | true => exact .inr rfl
    | false => exact .inl (byPlace_anti x y h h2)
  refine ⟨ir, tr, fun x y z h1 h2 => ?_⟩
  rcases tot x y h1 with e | h1'
  · subst e; exact h2
  rcases tot y z h2 with e | h2'
  · subst e; exact h1
  have h3 := tr z y x h2' h1'
  cases h4 : byPlace lt n x z with
  | false => rfl
  | true => have := tr x z x h4 h3; rw [ir] at this; cases this
section
variable {lt : Nat → Nat → Bool} {n : Nat}
/-- Each run of s from a on: in order; its rows stood in it. -/
structure Runs (T : Nat → Nat → Bool) (n s a : Nat) (d : Array Nat) : Prop where
  sorted : ∀ q i j, a + s * q ≤ i → i < j → j < a + s * q + s → j < n → T d[j]! d[i]! = false
  stood : ∀ q i, a + s * q ≤ i → i < a + s * q + s → i < n → a + s * q ≤ d[i]! ∧ d[i]! < a + s * q + s ∧ d[i]! < n
theorem insInner_same (T : Nat → Nat → Bool) (a : Nat) : ∀ (j : Nat) (d : Array Nat), j < d.size → (∀ k, a ≤ k → k < j → lt d[j]! d[k]! = T d[j]! d[k]!) → insInner lt a j d = insInner T a j d
  | 0, d, _, _ => by unfold insInner; rfl
  | j + 1, d, hj, h => by
    unfold insInner
    by_cases c : a < j + 1
    · rw [h j (by omega) (by omega)]
      cases hT : T d[j + 1]! d[j]! with
      | false => simp
      | true =>
        have g := swp_get d (i := j + 1) (j := j) (by omega) (by omega)
        have e := insInner_same T a j (swp d (j + 1) j) (by rw [size_swp]; omega) (fun k k1 k2 => by
          rw [g, g, if_pos rfl, if_neg (by omega), if_neg (by omega)]
          exact h k k1 (by omega))
        simp only [e]
    · simp [show ¬ a < j + 1 from c]
theorem insInner_permIn (T : Nat → Nat → Bool) (a b : Nat) : ∀ (j : Nat) (d : Array Nat), j < b → b ≤ d.size → PermIn a b d (insInner T a j d)
  | 0, d, _, _ => by unfold insInner; exact permIn_refl _ _ _
  | j + 1, d, hj, hb => by
    unfold insInner
    split
    · next h =>
      have ha : a < j + 1 := by
        by_cases c : a < j + 1
        · exact c
        · simp [c] at h
      exact permIn_trans _ _ _ _ _ (swp_permIn d a b (j + 1) j (by omega) hj (by omega) (by omega) hb) (insInner_permIn T a b j _ (by omega) (by rw [size_swp]; exact hb))
    · exact permIn_refl _ _ _
/-- Rows that come later in the row stood later: the insertion sort heeds the places. -/
theorem insOuter_same (a b : Nat) : ∀ (k i : Nat) (d : Array Nat), b - i ≤ k → a ≤ i → b ≤ d.size → (∀ p q, a ≤ p → p < q → i ≤ q → q < b → d[p]! < d[q]! ∧ d[q]! < n) → insOuter lt a b i d = insOuter (byPlace lt n) a b i d
  | 0, i, d, hk, _, _, _ => by rw [insOuter, if_neg (by omega), insOuter, if_neg (by omega)]
  | k + 1, i, d, hk, ha, hb, h => by
    by_cases c : i < b
    · have e : insInner lt a i d = insInner (byPlace lt n) a i d := insInner_same _ a i d (by omega) (fun k k1 k2 => by
        obtain ⟨h1, h2⟩ := h k i k1 k2 (Nat.le_refl _) c
        exact (byPlace_later h2 h1).symm)
      have hp := insInner_permIn (byPlace lt n) a (i + 1) i d (by omega) (by omega)
      rw [insOuter, if_pos c, e]
      conv => rhs; rw [insOuter, if_pos c]
      refine insOuter_same a b k (i + 1) _ (by omega) (by omega) (by rw [hp.1]; exact hb) (fun p q p1 p2 q1 q2 => ?_)
      rw [hp.2.1 q (.inr q1)]
      by_cases cp : p < i + 1
      · exact ⟨permIn_all d _ a (i + 1) (fun x => x < d[q]!) (by omega) hp (fun p p1 p2 => (h p q p1 (by omega) (by omega) q2).1) p p1 cp, (h i q ha (by omega) (by omega) q2).2⟩
      · rw [hp.2.1 p (.inr (by omega))]
        exact h p q p1 p2 (by omega) q2
    · rw [insOuter, if_neg c, insOuter, if_neg c]
theorem ins_same (a b : Nat) (d : Array Nat) (hb : b ≤ d.size) (h : ∀ p q, a ≤ p → p < q → q < b → d[p]! < d[q]! ∧ d[q]! < n) : insertionSort lt d a b = insertionSort (byPlace lt n) d a b :=
  insOuter_same a b _ (a + 1) d (Nat.le_refl _) (by omega) hb (fun p q p1 p2 q1 q2 => h p q p1 p2 q2)
theorem permIn_outer {a b lo hi : Nat} {d d' : Array Nat} (h : PermIn a b d d') (h1 : lo ≤ a) (h2 : b ≤ hi) (h3 : hi ≤ d.size) : PermIn lo hi d d' := permIn_mono _ _ _ _ _ _ h1 h2 h3 h
/-- The runs of twenty. -/
theorem insBlocks_spec (W : WeakTo lt n) : ∀ (k a : Nat) (d : Array Nat), n - a ≤ k → a ≤ n → n = d.size → (∀ i, a ≤ i → i < n → d[i]! = i) → PermIn a n d (insBlocks lt n a d) ∧ Runs (byPlace lt n) n 20 a (insBlocks lt n a d) := by
  intro k
  induction k with
  | zero =>
    intro a d hk ha hn h
    rw [insBlocks, dif_neg (by omega)]
    have e : insertionSort lt d a n = d := by unfold insertionSort; rw [insOuter, if_neg (by omega)]
    rw [e]
    exact ⟨permIn_refl _ _ _, ⟨fun q i j h1 h2 h3 h4 => by omega, fun q i h1 h2 h3 => by omega⟩⟩
  | succ k ih =>
    intro a d hk ha hn h
    have hS := byPlace_swo W
    rw [insBlocks]
    by_cases c : a + 20 ≤ n
    · rw [dif_pos c]
      obtain ⟨hp, ho⟩ := insertionSort_holds hS d a (a + 20) (by omega) (by omega)
      rw [← ins_same a (a + 20) d (by omega) (fun p q p1 p2 p3 => by rw [h p p1 (by omega), h q (by omega) (by omega)]; omega)] at hp ho
      generalize insertionSort lt d a (a + 20) = d1 at hp ho ⊢
      obtain ⟨hp2, hr⟩ := ih (a + 20) d1 (by omega) c (by rw [hp.1]; exact hn) (fun i i1 i2 => by rw [hp.2.1 i (.inr i1)]; exact h i (by omega) i2)
      have hf : ∀ i, i < a + 20 → (insBlocks lt n (a + 20) d1)[i]! = d1[i]! := fun i hi => hp2.2.1 i (.inl hi)
      refine ⟨permIn_trans _ _ _ _ _ (permIn_outer hp (Nat.le_refl _) c (by omega)) (permIn_outer hp2 (by omega) (Nat.le_refl _) (by rw [hp.1]; omega)), ⟨fun q i j h1 h2 h3 h4 => ?_, fun q i h1 h2 h3 => ?_⟩⟩
      · cases q with
        | zero =>
          rw [hf i (by omega), hf j (by omega)]
          exact ho i j (by omega) h2 (by omega)
        | succ q => exact hr.sorted q i j (by omega) h2 (by omega) h4
      · cases q with
        | zero =>
          rw [hf i (by omega)]
          have := permIn_all d d1 a (a + 20) (fun x => a ≤ x ∧ x < a + 20) (by omega) hp (fun i i1 i2 => by rw [h i i1 (by omega)]; omega) i (by omega) (by omega)
          omega
        | succ q => have := hr.stood q i (by omega) (by omega) h3; omega
    · rw [dif_neg c]
      obtain ⟨hp, ho⟩ := insertionSort_holds hS d a n ha (by omega)
      rw [← ins_same a n d (by omega) (fun p q p1 p2 p3 => by rw [h p p1 (by omega), h q (by omega) (by omega)]; omega)] at hp ho
      refine ⟨hp, ⟨fun q i j h1 h2 h3 h4 => ho i j (by omega) h2 h4, fun q i h1 h2 h3 => ?_⟩⟩
      cases q with
      | succ q => omega
      | zero =>
        have := permIn_all d _ a n (fun x => a ≤ x ∧ x < n) (by omega) hp (fun i i1 i2 => by rw [h i i1 (by omega)]; omega) i (by omega) h3
        omega
/-- One level. -/
theorem symLevel_spec (W : WeakTo lt n) (s : Nat) (hs : 0 < s) : ∀ (k a : Nat) (d : Array Nat), n - a ≤ k → n = d.size → Runs (byPlace lt n) n s a d → PermIn a n d (symLevel lt s n a d) ∧ Runs (byPlace lt n) n (2 * s) a (symLevel lt s n a d) := by
  have hT := byPlace_swo W
  have cross : ∀ a d, Runs (byPlace lt n) n s a d → ∀ i j, a ≤ i → i < a + s → a + s ≤ j → j < a + 2 * s → j < n → lt d[j]! d[i]! = byPlace lt n d[j]! d[i]! := fun a d h i j i1 i2 j1 j2 j3 => by
    have h1 := h.stood 0 i (by omega) (by omega) (by omega)
    have h2 := h.stood 1 j (by omega) (by omega) j3
    exact (byPlace_later (by omega) (by omega)).symm
  intro k
  induction k with
  | zero =>
    intro a d hk hn h
    rw [symLevel, dif_neg (by omega), if_neg (by omega)]
    exact ⟨permIn_refl _ _ _, ⟨fun q i j h1 h2 h3 h4 => by have : 0 ≤ 2 * s * q := Nat.zero_le _; omega, fun q i h1 h2 h3 => by have : 0 ≤ 2 * s * q := Nat.zero_le _; omega⟩⟩
  | succ k ih =>
    intro a d hk hn h
    rw [symLevel]
    have z0 : s * 0 = 0 := Nat.mul_zero s
    have z1 : s * 1 = s := Nat.mul_one s
    by_cases c : 0 < s ∧ a + 2 * s ≤ n
    · rw [dif_pos c]
      obtain ⟨hp, ho⟩ := symP_spec hT _ a (a + s) (a + 2 * s) d (Nat.le_refl _) (by omega) (by omega) (by omega) (fun i j i1 ij j1 => h.sorted 0 i j (by omega) ij (by omega) (by omega)) (fun i j i1 ij j1 => h.sorted 1 i j (by omega) ij (by omega) (by omega)) (fun i j i1 i2 j1 j2 => cross a d h i j i1 i2 j1 j2 (by omega))
      generalize symP lt a (a + s) (a + 2 * s) d = d1 at hp ho ⊢
      have hr1 : Runs (byPlace lt n) n s (a + 2 * s) d1 := ⟨fun q i j h1 h2 h3 h4 => by
          have e : s * (q + 2) = s * q + 2 * s := by rw [Nat.mul_add, Nat.mul_comm s 2]
          rw [hp.2.1 i (.inr (by have := Nat.zero_le (s * q); omega)), hp.2.1 j (.inr (by have := Nat.zero_le (s * q); omega))]
          exact h.sorted (q + 2) i j (by omega) h2 (by omega) h4, fun q i h1 h2 h3 => by
          have e : s * (q + 2) = s * q + 2 * s := by rw [Nat.mul_add, Nat.mul_comm s 2]
          rw [hp.2.1 i (.inr (by have := Nat.zero_le (s * q); omega))]
          have := h.stood (q + 2) i (by omega) (by omega) h3
          omega⟩
      obtain ⟨hp2, hr⟩ := ih (a + 2 * s) d1 (by omega) (by rw [hp.1]; exact hn) hr1
      have hf : ∀ i, i < a + 2 * s → (symLevel lt s n (a + 2 * s) d1)[i]! = d1[i]! := fun i hi => hp2.2.1 i (.inl hi)
      refine ⟨permIn_trans _ _ _ _ _ (permIn_outer hp (Nat.le_refl _) c.2 (by omega)) (permIn_outer hp2 (by omega) (Nat.le_refl _) (by rw [hp.1]; omega)), ⟨fun q i j h1 h2 h3 h4 => ?_, fun q i h1 h2 h3 => ?_⟩⟩
      · cases q with
        | zero =>
          rw [hf i (by omega), hf j (by omega)]
          exact ho i j (by omega) h2 (by omega)
        | succ q => exact hr.sorted q i j (by rw [Nat.mul_succ] at h1; omega) h2 (by rw [Nat.mul_succ] at h3; omega) h4
      · cases q with
        | zero =>
          rw [hf i (by omega)]
          have := permIn_all d d1 a (a + 2 * s) (fun x => a ≤ x ∧ x < a + 2 * s ∧ x < n) (by omega) hp (fun i i1 i2 => by
            by_cases ci : i < a + s
            · have := h.stood 0 i (by omega) (by omega) (by omega); omega
            · have := h.stood 1 i (by omega) (by omega) (by omega); omega) i (by omega) (by omega)
          omega
        | succ q =>
          have := hr.stood q i (by rw [Nat.mul_succ] at h1; omega) (by rw [Nat.mul_succ] at h2; omega) h3
          rw [Nat.mul_succ]; omega
    · rw [dif_neg c]
      have zq : ∀ q i, a + 2 * s * q ≤ i → i < n → q = 0 := fun q i h1 h2 => by
        cases q with
        | zero => rfl
        | succ q => rw [Nat.mul_succ] at h1; have := Nat.zero_le (2 * s * q); omega
      by_cases c2 : a + s < n
      · rw [if_pos c2]
        obtain ⟨hp, ho⟩ := symP_spec hT _ a (a + s) n d (Nat.le_refl _) (by omega) c2 (by omega) (fun i j i1 ij j1 => h.sorted 0 i j (by omega) ij (by omega) (by omega)) (fun i j i1 ij j1 => h.sorted 1 i j (by omega) ij (by omega) j1) (fun i j i1 i2 j1 j2 => cross a d h i j i1 i2 j1 (by omega) j2)
        refine ⟨hp, ⟨fun q i j h1 h2 h3 h4 => ?_, fun q i h1 h2 h3 => ?_⟩⟩
        · obtain rfl := zq q i h1 (by omega)
          exact ho i j (by omega) h2 h4
        · obtain rfl := zq q i h1 h3
          have := permIn_all d _ a n (fun x => a ≤ x ∧ x < a + 2 * s ∧ x < n) (by omega) hp (fun i i1 i2 => by
            by_cases ci : i < a + s
            · have := h.stood 0 i (by omega) (by omega) (by omega); omega
            · have := h.stood 1 i (by omega) (by omega) (by omega); omega) i (by omega) (by omega)
          omega
      · rw [if_neg c2]
        refine ⟨permIn_refl _ _ _, ⟨fun q i j h1 h2 h3 h4 => ?_, fun q i h1 h2 h3 => ?_⟩⟩
        · obtain rfl := zq q i h1 (by omega)
          exact h.sorted 0 i j (by omega) h2 (by omega) h4
        · obtain rfl := zq q i h1 h3
          have := h.stood 0 i (by omega) (by omega) h3
          omega
theorem symAll_spec (W : WeakTo lt n) : ∀ (k s : Nat) (d : Array Nat), n - s ≤ k → 0 < s → n = d.size → Runs (byPlace lt n) n s 0 d → PermIn 0 n d (symAll lt n s d) ∧ SortedIn (byPlace lt n) 0 n (symAll lt n s d) := by
  intro k
  induction k with
  | zero =>
    intro s d hk hs hn h
    rw [symAll, dif_neg (by omega)]
    exact ⟨permIn_refl _ _ _, fun i j i1 ij j1 => h.sorted 0 i j (by omega) ij (by omega) j1⟩
  | succ k ih =>
    intro s d hk hs hn h
    rw [symAll]
    by_cases c : 0 < s ∧ s < n
    · rw [dif_pos c]
      obtain ⟨hp, hr⟩ := symLevel_spec W s hs _ 0 d (Nat.le_refl _) hn h
      obtain ⟨hp2, ho⟩ := ih (2 * s) _ (by omega) (by omega) (by rw [hp.1]; exact hn) hr
      exact ⟨permIn_trans _ _ _ _ _ hp hp2, ho⟩
    · rw [dif_neg c]
      exact ⟨permIn_refl _ _ _, fun i j i1 ij j1 => h.sorted 0 i j (by omega) ij (by omega) j1⟩
/-- What the stable sort makes of rows, by their places: the only row of these places in order. -/
theorem stableP_eq (W : WeakTo lt n) : (stableP lt n (Array.range n)).toList = (List.range n).mergeSort (fun x y => !byPlace lt n y x) := by
  have hn : n = (Array.range n).size := by simp
  obtain ⟨hp, hr⟩ := insBlocks_spec W _ 0 (Array.range n) (Nat.le_refl _) (Nat.zero_le _) hn (fun i _ hi => by rw [getElem!_pos _ i (by simpa using hi)]; simp)
  obtain ⟨hp2, ho⟩ := symAll_spec W _ 20 _ (Nat.le_refl _) (by omega) (by rw [hp.1]; exact hn) hr
  have := sorted_unique_holds (lt := byPlace lt n) (byPlace_swo W) byPlace_anti (Array.range n) (stableP lt n (Array.range n)) (by
    rw [← hn]; exact permIn_trans _ _ _ _ _ hp hp2) (by rw [← hn]; exact ho)
  rw [this, Array.toList_range]
end
end Go.Proofs.YtdojgfkcpaeacaaDoorW.PrintWords
