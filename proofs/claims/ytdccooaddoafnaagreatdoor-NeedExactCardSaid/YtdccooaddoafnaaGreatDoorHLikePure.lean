/-! Patterns of signs, without any program: what it means that signs match bytes, and the steps of the search that goes back to the last sign of any bytes. -/
namespace HopPure

/-- Do signs match bytes: 257 any bytes, 256 one byte, else the byte itself. -/
def lm : List Int → List UInt8 → Bool
  | [], s => s.isEmpty
  | p :: ps, [] => if p = 257 then lm ps [] else false
  | p :: ps, c :: t => if p = 257 then lm ps (c :: t) || lm (p :: ps) t else (decide (p = 256) || decide (p = (c.toNat : Int))) && lm ps t
  termination_by l s => l.length + s.length

/-- Does a later begin match. -/
def alt (ps : List Int) : List UInt8 → Bool
  | [] => false
  | _ :: t => lm ps t || alt ps t

theorem lm_nil (s : List UInt8) : lm [] s = s.isEmpty := by rw [lm]
theorem lm_star (ps : List Int) (s : List UInt8) : lm (257 :: ps) s = (lm ps s || alt ps s) := by
  induction s with
  | nil => rw [lm]; simp [alt]
  | cons c t ih => rw [lm]; simp [alt, ih]
theorem lm_one {p : Int} (ps : List Int) (s : List UInt8) (h : p ≠ 257) : lm (p :: ps) s = match s with | [] => false | c :: t => (decide (p = 256) || decide (p = (c.toNat : Int))) && lm ps t := by
  cases s with
  | nil => rw [lm]; simp [h]
  | cons c t => rw [lm]; simp [h]
/-- Plain signs match bytes one by one. -/
def seg : List Int → List UInt8 → Prop
  | [], [] => True
  | p :: ps, c :: t => p ≠ 257 ∧ (p = 256 ∨ p = (c.toNat : Int)) ∧ seg ps t
  | _, _ => False
theorem seg_length : ∀ {ps : List Int} {s : List UInt8}, seg ps s → ps.length = s.length
  | [], [], _ => rfl
  | [], _ :: _, h => h.elim
  | _ :: _, [], h => h.elim
  | _ :: _, _ :: _, h => by simp [seg_length h.2.2]
theorem seg_snoc : ∀ {ps : List Int} {s : List UInt8} {p : Int} {c : UInt8}, seg ps s → p ≠ 257 → (p = 256 ∨ p = (c.toNat : Int)) → seg (ps ++ [p]) (s ++ [c])
  | [], [], _, _, _, h1, h2 => ⟨h1, h2, trivial⟩
  | [], _ :: _, _, _, h, _, _ => h.elim
  | _ :: _, [], _, _, h, _, _ => h.elim
  | _ :: _, _ :: _, _, _, h, h1, h2 => ⟨h.1, h.2.1, seg_snoc h.2.2 h1 h2⟩
/-- What plain signs ahead leave: as many bytes fewer. -/
theorem lm_seg : ∀ {ps : List Int} {s : List UInt8}, seg ps s → ∀ (qs : List Int) (t : List UInt8), lm (ps ++ qs) t = true → ps.length ≤ t.length ∧ lm qs (t.drop ps.length) = true
  | [], [], _, qs, t, h => ⟨Nat.zero_le _, by simpa using h⟩
  | [], _ :: _, h, _, _, _ => h.elim
  | _ :: _, [], h, _, _, _ => h.elim
  | p :: ps, c :: s, h, qs, t, hm => by
    rw [List.cons_append, lm_one _ _ h.1] at hm
    cases t with
    | nil => simp at hm
    | cons d t =>
      simp only [Bool.and_eq_true] at hm
      have := lm_seg h.2.2 qs t hm.2
      exact ⟨by simp; exact this.1, by simpa using this.2⟩
theorem alt_drop : ∀ (s : List UInt8) (ps : List Int) (n : Nat), 0 < n → n ≤ s.length → lm ps (s.drop n) = true → alt ps s = true
  | [], _, n, h0, h, _ => by simp at h; omega
  | c :: t, ps, n, h0, h, hm => by
    obtain ⟨m, rfl⟩ : ∃ m, n = m + 1 := ⟨n - 1, by omega⟩
    simp only [List.drop_succ_cons] at hm
    simp only [alt, Bool.or_eq_true]
    by_cases e : m = 0
    · subst e; left; simpa using hm
    · right; exact alt_drop t ps m (by omega) (by simpa using h) hm
theorem alt_get : ∀ (s : List UInt8) (ps : List Int), alt ps s = true → ∃ n, 0 < n ∧ n ≤ s.length ∧ lm ps (s.drop n) = true
  | [], _, h => by simp [alt] at h
  | c :: t, ps, h => by
    simp only [alt, Bool.or_eq_true] at h
    rcases h with h | h
    · exact ⟨1, by omega, by simp, by simpa using h⟩
    · obtain ⟨n, h0, h1, h2⟩ := alt_get t ps h
      exact ⟨n + 1, by omega, by simpa using h1, by simpa using h2⟩
/-- A sign of any bytes behind plain signs takes in all that an elder one could do. -/
theorem alt_star {ps : List Int} {s : List UInt8} (h : seg ps s) (qs : List Int) (t : List UInt8) (ha : alt (ps ++ 257 :: qs) (s ++ t) = true) : lm (257 :: qs) t = true := by
  obtain ⟨n, h0, h1, h2⟩ := alt_get _ _ ha
  obtain ⟨h3, h4⟩ := lm_seg h _ _ h2
  have hl := seg_length h
  rw [List.drop_drop, hl, Nat.add_comm, ← List.drop_drop, List.drop_left] at h4
  rw [lm_star] at h4 ⊢
  simp only [Bool.or_eq_true] at h4 ⊢
  rw [List.length_drop, List.length_append, hl] at h3
  rw [List.length_append] at h1
  rcases h4 with h4 | h4
  · right; exact alt_drop t qs n h0 (by omega) h4
  · right
    obtain ⟨m, m0, m1, m2⟩ := alt_get _ _ h4
    rw [List.drop_drop] at m2
    rw [List.length_drop] at m1
    exact alt_drop t qs (n + m) (by omega) (by omega) m2
/-- Where no bytes are left behind plain signs, nothing later can match. -/
theorem alt_none {ps : List Int} {s : List UInt8} (h : seg ps s) (qs : List Int) : alt (ps ++ qs) s = false := by
  cases hb : alt (ps ++ qs) s with
  | false => rfl
  | true =>
    obtain ⟨n, h0, h1, h2⟩ := alt_get _ _ hb
    obtain ⟨h3, _⟩ := lm_seg h _ _ h2
    have hl := seg_length h
    rw [List.length_drop] at h3
    omega

/-- What the search still has to tell: signs from 'i' on against bytes from 'at' on, or a later begin behind the last sign of any bytes. -/
def cur (l : List Int) (s : List UInt8) (at_ i : Nat) (back : Option Nat) (from_ : Nat) : Bool :=
  lm (l.drop i) (s.drop at_) || match back with | none => false | some b => alt (l.drop b) (s.drop from_)
/-- The search's state is sound. -/
structure Ok (l : List Int) (s : List UInt8) (at_ i : Nat) (back : Option Nat) (from_ : Nat) : Prop where
  at_le : at_ ≤ s.length
  i_le : i ≤ l.length
  fr : from_ ≤ at_
  bk : ∀ b, back = some b → b ≤ i ∧ seg ((l.drop b).take (i - b)) ((s.drop from_).take (at_ - from_))
theorem drop_part {α : Type} (l : List α) {a b : Nat} (h : a ≤ b) : l.drop a = (l.drop a).take (b - a) ++ l.drop b := by
  have h2 : b = a + (b - a) := by omega
  have := List.take_append_drop (b - a) (l.drop a)
  rw [List.drop_drop, ← h2] at this
  exact this.symm
theorem seg_split {l : List Int} {s : List UInt8} {at_ i b from_ : Nat} (hb : b ≤ i) (hf : from_ ≤ at_) : l.drop b = (l.drop b).take (i - b) ++ l.drop i ∧ s.drop from_ = (s.drop from_).take (at_ - from_) ++ s.drop at_ := ⟨drop_part l hb, drop_part s hf⟩
theorem Ok.start (l : List Int) (s : List UInt8) : Ok l s 0 0 none 0 := ⟨Nat.zero_le _, Nat.zero_le _, Nat.le_refl _, fun b h => by cases h⟩
theorem cur_start (l : List Int) (s : List UInt8) : cur l s 0 0 none 0 = lm l s := by simp [cur]
theorem drop_at {α : Type} (l : List α) (i : Nat) (h : i < l.length) : l.drop i = l[i] :: l.drop (i + 1) := List.drop_eq_getElem_cons h
theorem Ok.star {l : List Int} {s : List UInt8} {at_ i : Nat} {back : Option Nat} {from_ : Nat} (h : Ok l s at_ i back from_) (hi : i < l.length) (he : l[i] = 257) :
    Ok l s at_ (i + 1) (some (i + 1)) at_ ∧ cur l s at_ (i + 1) (some (i + 1)) at_ = cur l s at_ i back from_ := by
  refine ⟨⟨h.at_le, hi, Nat.le_refl _, fun b hb => ?_⟩, ?_⟩
  · injection hb with hb; subst hb
    simp [seg]
  · have e1 : cur l s at_ (i + 1) (some (i + 1)) at_ = lm (l.drop i) (s.drop at_) := by
      rw [drop_at l i hi, he, lm_star]; rfl
    rw [e1]
    cases back with
    | none => simp [cur]
    | some b =>
      obtain ⟨h1, h2⟩ := h.bk b rfl
      simp only [cur]
      cases ha : alt (l.drop b) (s.drop from_) with
      | false => simp
      | true =>
        have hs := seg_split (l := l) (s := s) h1 h.fr
        rw [hs.1, hs.2, drop_at l i hi, he] at ha
        have := alt_star h2 _ _ ha
        rw [drop_at l i hi, he, this]; rfl
theorem Ok.step {l : List Int} {s : List UInt8} {at_ i : Nat} {back : Option Nat} {from_ : Nat} (h : Ok l s at_ i back from_) (hi : i < l.length) (ha : at_ < s.length) (h1 : l[i] ≠ 257) (h2 : l[i] = 256 ∨ l[i] = (s[at_].toNat : Int)) :
    Ok l s (at_ + 1) (i + 1) back from_ ∧ cur l s (at_ + 1) (i + 1) back from_ = cur l s at_ i back from_ := by
  refine ⟨⟨ha, hi, by have := h.fr; omega, fun b hb => ?_⟩, ?_⟩
  · obtain ⟨h3, h4⟩ := h.bk b hb
    refine ⟨by omega, ?_⟩
    have hf := h.fr
    rw [show i + 1 - b = (i - b) + 1 by omega, show at_ + 1 - from_ = (at_ - from_) + 1 by omega]
    rw [List.take_succ_eq_append_getElem (by rw [List.length_drop]; omega), List.take_succ_eq_append_getElem (by rw [List.length_drop]; omega)]
    simp only [List.getElem_drop]
    have e1 : b + (i - b) = i := by omega
    have e2 : from_ + (at_ - from_) = at_ := by omega
    simp only [e1, e2]
    exact seg_snoc h4 h1 h2
  · have e1 : lm (l.drop i) (s.drop at_) = lm (l.drop (i + 1)) (s.drop (at_ + 1)) := by
      rw [drop_at l i hi, drop_at s at_ ha, lm_one _ _ h1]
      have : (decide (l[i] = 256) || decide (l[i] = (s[at_].toNat : Int))) = true := by simpa using h2
      simp only [this, Bool.true_and]
    simp only [cur, e1]
theorem Ok.back {l : List Int} {s : List UInt8} {at_ i b from_ : Nat} (h : Ok l s at_ i (some b) from_) (ha : at_ < s.length) (hm : lm (l.drop i) (s.drop at_) = false) :
    Ok l s (from_ + 1) b (some b) (from_ + 1) ∧ cur l s (from_ + 1) b (some b) (from_ + 1) = cur l s at_ i (some b) from_ := by
  obtain ⟨h1, h2⟩ := h.bk b rfl
  have hf := h.fr
  have hi := h.i_le
  refine ⟨⟨by omega, by omega, Nat.le_refl _, fun b' hb => ?_⟩, ?_⟩
  · injection hb with hb; subst hb
    simp [seg]
  · simp only [cur, hm, Bool.false_or]
    rw [drop_at s from_ (by omega)]
    rfl
theorem lm_no {l : List Int} {s : List UInt8} {at_ i : Nat} (ha : at_ < s.length) (h : ∀ hi : i < l.length, l[i] ≠ 257 ∧ ¬ (l[i] = 256 ∨ l[i] = (s[at_].toNat : Int))) : lm (l.drop i) (s.drop at_) = false := by
  rw [drop_at s at_ ha]
  by_cases hi : i < l.length
  · rw [drop_at l i hi, lm_one _ _ (h hi).1]
    have : (decide (l[i] = 256) || decide (l[i] = (s[at_].toNat : Int))) = false := by simpa using (h hi).2
    simp [this]
  · rw [List.drop_eq_nil_of_le (by omega), lm_nil]; rfl
theorem Ok.done {l : List Int} {s : List UInt8} {at_ i : Nat} {back : Option Nat} {from_ : Nat} (h : Ok l s at_ i back from_) (ha : at_ = s.length) (hn : ∀ hi : i < l.length, l[i] ≠ 257) :
    cur l s at_ i back from_ = decide (i = l.length) := by
  have hil := h.i_le
  by_cases hi : i < l.length
  · have e1 : lm (l.drop i) (s.drop at_) = false := by
      rw [drop_at l i hi, lm_one _ _ (hn hi), List.drop_eq_nil_of_le (by omega)]
    have e2 : decide (i = l.length) = false := by simp; omega
    rw [e2]
    cases back with
    | none => simp [cur, e1]
    | some b =>
      obtain ⟨h1, h2⟩ := h.bk b rfl
      have hs := seg_split (l := l) (s := s) h1 h.fr
      simp only [cur, e1, Bool.false_or]
      rw [hs.1, hs.2, List.drop_eq_nil_of_le (i := at_) (by omega), List.append_nil]
      exact alt_none h2 _
  · have e : i = l.length := by omega
    have e1 : lm (l.drop i) (s.drop at_) = true := by
      rw [List.drop_eq_nil_of_le (by omega), List.drop_eq_nil_of_le (by omega), lm_nil]; rfl
    unfold cur
    rw [e1, Bool.true_or, decide_eq_true e]
theorem Ok.fail {l : List Int} {s : List UInt8} {at_ i : Nat} {from_ : Nat} (hm : lm (l.drop i) (s.drop at_) = false) : cur l s at_ i none from_ = false := by simp [cur, hm]
/-- The measure of the search falls. -/
theorem lexm {a b a' b' M : Nat} (hb : b' ≤ M) (h : a' < a ∨ a' = a ∧ b' < b) : a' * (M + 1) + b' < a * (M + 1) + b := by
  rcases h with h | ⟨rfl, h⟩
  · have : a' * (M + 1) + (M + 1) ≤ a * (M + 1) := by rw [← Nat.succ_mul]; exact Nat.mul_le_mul_right _ h
    omega
  · omega
end HopPure
namespace HopPure
end HopPure
namespace HopPure
/-- What a byte is as a sign. -/
def sgn (c : UInt8) : Int := if c.toNat = 37 then 257 else if c.toNat = 95 then 256 else (c.toNat : Int)
/-- A pattern, read. -/
def parseL (esc : Int) : List UInt8 → Option (List Int)
  | [] => some []
  | [c] => if (c.toNat : Int) = esc then none else some [sgn c]
  | c :: d :: t => if (c.toNat : Int) = esc then (parseL esc t).map ((d.toNat : Int) :: ·) else (parseL esc (d :: t)).map (sgn c :: ·)
theorem parseL_plain (esc : Int) (c : UInt8) (t : List UInt8) (h : ¬ (c.toNat : Int) = esc) : parseL esc (c :: t) = (parseL esc t).map (sgn c :: ·) := by
  cases t with
  | nil => simp [parseL, h]
  | cons d t => simp [parseL, h]
theorem parseL_esc (esc : Int) (c d : UInt8) (t : List UInt8) (h : (c.toNat : Int) = esc) : parseL esc (c :: d :: t) = (parseL esc t).map ((d.toNat : Int) :: ·) := by simp [parseL, h]
theorem parseL_end (esc : Int) (c : UInt8) (h : (c.toNat : Int) = esc) : parseL esc [c] = none := by simp [parseL, h]
/-- The literals of signs. -/
def runsL : List Int → List Int → List (List Int)
  | run, [] => if run = [] then [] else [run]
  | run, x :: t => if x ≤ 255 then runsL (run ++ [x % 256]) t else if run = [] then runsL [] t else run :: runsL [] t
end HopPure
