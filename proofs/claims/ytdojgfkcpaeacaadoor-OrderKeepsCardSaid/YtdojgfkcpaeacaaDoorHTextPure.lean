/- Points of strings, in plain lists of bytes. No program in sight. -/
import Derived.Lib.DecodeN
import Derived.Lib.RuneBytes
set_option linter.unusedVariables false
set_option linter.unusedSimpArgs false
namespace Go.Proofs.YtdojgfkcpaeacaaDoor.TextPure
open Go.Lib (decodeN encodeRuneZ)
def nth (l : List UInt8) (k : Nat) : Nat := (l.getD k 0).toNat
theorem nth_lt (l : List UInt8) (k : Nat) : nth l k < 256 := UInt8.toNat_lt _
def dec (l : List UInt8) : Nat × Nat := decodeN l.length (nth l 0) (nth l 1) (nth l 2) (nth l 3)
/-- A string's first point, and how many bytes it has. -/
def point (l : List UInt8) : Int × Nat := if (dec l).1 = 65533 ∧ (dec l).2 ≤ 1 then (1114112 + (nth l 0 : Int), 1) else (((dec l).1 : Int), (dec l).2)
/-- A point's bytes. -/
def enc (p : Int) : List Int := if p ≥ 1114112 then [p % 256] else encodeRuneZ p
/-- Bytes as numbers. -/
def nums (l : List UInt8) : List Int := l.map fun b => (b.toNat : Int)
theorem nums_append (a b : List UInt8) : nums (a ++ b) = nums a ++ nums b := by simp [nums]
theorem nums_length (a : List UInt8) : (nums a).length = a.length := by simp [nums]
theorem nums_inj {a b : List UInt8} (h : nums a = nums b) : a = b := by
  induction a generalizing b with
  | nil => cases b with
    | nil => rfl
    | cons y b => simp [nums] at h
  | cons x a ih =>
    cases b with
    | nil => simp [nums] at h
    | cons y b =>
      simp only [nums, List.map_cons, List.cons.injEq] at h
      rw [ih (show nums a = nums b from h.2), UInt8.toNat_inj.1 (by omega : x.toNat = y.toNat)]
theorem take_nums (l : List UInt8) (k : Nat) (h : k ≤ l.length) : nums (l.take k) = (List.range k).map fun i => (nth l i : Int) := by
  apply List.ext_getElem
  · simp [nums]; omega
  · intro i h1 h2
    have h3 : i < l.length := by simp [nums] at h1; omega
    simp [nums, nth, List.getD, h3]
theorem dec_cases (l : List UInt8) (h : 0 < l.length) :
    (nth l 0 < 128 ∧ dec l = (nth l 0, 1)) ∨
    (nth l 0 / 32 = 6 ∧ 1 < l.length ∧ nth l 1 / 64 = 2 ∧ 128 ≤ nth l 0 % 32 * 64 + nth l 1 % 64 ∧ dec l = (nth l 0 % 32 * 64 + nth l 1 % 64, 2)) ∨
    (nth l 0 / 16 = 14 ∧ 2 < l.length ∧ nth l 1 / 64 = 2 ∧ nth l 2 / 64 = 2 ∧ 2048 ≤ nth l 0 % 16 * 4096 + nth l 1 % 64 * 64 + nth l 2 % 64 ∧ (nth l 0 % 16 * 4096 + nth l 1 % 64 * 64 + nth l 2 % 64 < 55296 ∨ 57344 ≤ nth l 0 % 16 * 4096 + nth l 1 % 64 * 64 + nth l 2 % 64) ∧ dec l = (nth l 0 % 16 * 4096 + nth l 1 % 64 * 64 + nth l 2 % 64, 3)) ∨
    (nth l 0 / 8 = 30 ∧ 3 < l.length ∧ nth l 1 / 64 = 2 ∧ nth l 2 / 64 = 2 ∧ nth l 3 / 64 = 2 ∧ 65536 ≤ nth l 0 % 8 * 262144 + nth l 1 % 64 * 4096 + nth l 2 % 64 * 64 + nth l 3 % 64 ∧ nth l 0 % 8 * 262144 + nth l 1 % 64 * 4096 + nth l 2 % 64 * 64 + nth l 3 % 64 ≤ 1114111 ∧ dec l = (nth l 0 % 8 * 262144 + nth l 1 % 64 * 4096 + nth l 2 % 64 * 64 + nth l 3 % 64, 4)) ∨
    (128 ≤ nth l 0 ∧ dec l = (65533, 1)) := by
  have h0 := nth_lt l 0
  unfold dec decodeN
  by_cases c1 : nth l 0 < 128
  · left; exact ⟨c1, by rw [if_pos c1]⟩
  rw [if_neg c1]
  by_cases c2 : nth l 0 / 32 = 6 ∧ (1 < l.length ∧ nth l 1 / 64 = 2)
  · rw [if_pos c2]
    by_cases d : nth l 0 % 32 * 64 + nth l 1 % 64 ≥ 128
    · right; left; exact ⟨c2.1, c2.2.1, c2.2.2, d, by rw [if_pos d]⟩
    · right; right; right; right; exact ⟨by omega, by rw [if_neg d]⟩
  rw [if_neg c2]
  by_cases c3 : nth l 0 / 16 = 14 ∧ (1 < l.length ∧ nth l 1 / 64 = 2) ∧ (2 < l.length ∧ nth l 2 / 64 = 2)
  · rw [if_pos c3]
    split
    · rename_i d
      right; right; left; exact ⟨c3.1, c3.2.2.1, c3.2.1.2, c3.2.2.2, d.1, by omega, rfl⟩
    · right; right; right; right; exact ⟨by omega, rfl⟩
  rw [if_neg c3]
  by_cases c4 : nth l 0 / 8 = 30 ∧ (1 < l.length ∧ nth l 1 / 64 = 2) ∧ (2 < l.length ∧ nth l 2 / 64 = 2) ∧ (3 < l.length ∧ nth l 3 / 64 = 2)
  · rw [if_pos c4]
    split
    · rename_i d
      right; right; right; left; exact ⟨c4.1, c4.2.2.2.1, c4.2.1.2, c4.2.2.1.2, c4.2.2.2.2, d.1, by omega, rfl⟩
    · right; right; right; right; exact ⟨by omega, rfl⟩
  rw [if_neg c4]
  right; right; right; right; exact ⟨by omega, rfl⟩
/-- The first point: what it is, by its bytes. -/
theorem point_cases (l : List UInt8) (h : 0 < l.length) :
    (nth l 0 < 128 ∧ point l = ((nth l 0 : Int), 1)) ∨
    (nth l 0 / 32 = 6 ∧ 1 < l.length ∧ nth l 1 / 64 = 2 ∧ 128 ≤ nth l 0 % 32 * 64 + nth l 1 % 64 ∧ point l = (((nth l 0 % 32 * 64 + nth l 1 % 64 : Nat) : Int), 2)) ∨
    (nth l 0 / 16 = 14 ∧ 2 < l.length ∧ nth l 1 / 64 = 2 ∧ nth l 2 / 64 = 2 ∧ 2048 ≤ nth l 0 % 16 * 4096 + nth l 1 % 64 * 64 + nth l 2 % 64 ∧ (nth l 0 % 16 * 4096 + nth l 1 % 64 * 64 + nth l 2 % 64 < 55296 ∨ 57344 ≤ nth l 0 % 16 * 4096 + nth l 1 % 64 * 64 + nth l 2 % 64) ∧ point l = (((nth l 0 % 16 * 4096 + nth l 1 % 64 * 64 + nth l 2 % 64 : Nat) : Int), 3)) ∨
    (nth l 0 / 8 = 30 ∧ 3 < l.length ∧ nth l 1 / 64 = 2 ∧ nth l 2 / 64 = 2 ∧ nth l 3 / 64 = 2 ∧ 65536 ≤ nth l 0 % 8 * 262144 + nth l 1 % 64 * 4096 + nth l 2 % 64 * 64 + nth l 3 % 64 ∧ nth l 0 % 8 * 262144 + nth l 1 % 64 * 4096 + nth l 2 % 64 * 64 + nth l 3 % 64 ≤ 1114111 ∧ point l = (((nth l 0 % 8 * 262144 + nth l 1 % 64 * 4096 + nth l 2 % 64 * 64 + nth l 3 % 64 : Nat) : Int), 4)) ∨
    (128 ≤ nth l 0 ∧ dec l = (65533, 1) ∧ point l = (1114112 + (nth l 0 : Int), 1)) := by
  unfold point
  rcases dec_cases l h with ⟨a, e⟩ | ⟨a, b, c, d, e⟩ | ⟨a, b, c, d, d2, d3, e⟩ | ⟨a, b, c, d, d2, d3, d4, e⟩ | ⟨a, e⟩
  · left; refine ⟨a, ?_⟩; rw [e, if_neg (by simp only; omega)]
  · right; left; refine ⟨a, b, c, d, ?_⟩; rw [e, if_neg (by simp only; omega)]
  · right; right; left; refine ⟨a, b, c, d, d2, d3, ?_⟩; rw [e, if_neg (by simp only; omega)]
  · right; right; right; left; refine ⟨a, b, c, d, d2, d3, d4, ?_⟩; rw [e, if_neg (by simp only; omega)]
  · right; right; right; right; refine ⟨a, e, ?_⟩; rw [e, if_pos ⟨rfl, Nat.le_refl _⟩]
theorem point_width (l : List UInt8) (h : 0 < l.length) : 1 ≤ (point l).2 ∧ (point l).2 ≤ l.length := by
  rcases point_cases l h with ⟨_, e⟩ | ⟨_, b, _, _, e⟩ | ⟨_, b, _, _, _, _, e⟩ | ⟨_, b, _, _, _, _, _, e⟩ | ⟨_, _, e⟩ <;> rw [e] <;> simp only <;> omega
theorem dN1 {n b0 b1 b2 b3 : Nat} (a : b0 < 128) : decodeN n b0 b1 b2 b3 = (b0, 1) := by unfold decodeN; rw [if_pos a]
theorem dN2 {n b0 b1 b2 b3 : Nat} (a : b0 / 32 = 6) (b : 1 < n) (c : b1 / 64 = 2) (d : 128 ≤ b0 % 32 * 64 + b1 % 64) : decodeN n b0 b1 b2 b3 = (b0 % 32 * 64 + b1 % 64, 2) := by
  unfold decodeN
  rw [if_neg (by omega), if_pos ⟨a, b, c⟩, if_pos d]
theorem dN3 {n b0 b1 b2 b3 : Nat} (a : b0 / 16 = 14) (b : 2 < n) (c : b1 / 64 = 2) (c2 : b2 / 64 = 2) (d : 2048 ≤ b0 % 16 * 4096 + b1 % 64 * 64 + b2 % 64) (d2 : b0 % 16 * 4096 + b1 % 64 * 64 + b2 % 64 < 55296 ∨ 57344 ≤ b0 % 16 * 4096 + b1 % 64 * 64 + b2 % 64) :
    decodeN n b0 b1 b2 b3 = (b0 % 16 * 4096 + b1 % 64 * 64 + b2 % 64, 3) := by
  unfold decodeN
  rw [if_neg (by omega), if_neg (by omega), if_pos ⟨a, ⟨by omega, c⟩, b, c2⟩, if_pos ⟨d, by omega⟩]
theorem dN4 {n b0 b1 b2 b3 : Nat} (a : b0 / 8 = 30) (b : 3 < n) (c : b1 / 64 = 2) (c2 : b2 / 64 = 2) (c3 : b3 / 64 = 2) (d : 65536 ≤ b0 % 8 * 262144 + b1 % 64 * 4096 + b2 % 64 * 64 + b3 % 64) (d2 : b0 % 8 * 262144 + b1 % 64 * 4096 + b2 % 64 * 64 + b3 % 64 ≤ 1114111) :
    decodeN n b0 b1 b2 b3 = (b0 % 8 * 262144 + b1 % 64 * 4096 + b2 % 64 * 64 + b3 % 64, 4) := by
  unfold decodeN
  rw [if_neg (by omega), if_neg (by omega), if_neg (by omega), if_pos ⟨a, ⟨by omega, c⟩, ⟨by omega, c2⟩, b, c3⟩, if_pos ⟨d, by omega⟩]
theorem point_range (l : List UInt8) (h : 0 < l.length) : 0 ≤ (point l).1 ∧ (point l).1 < 1114368 := by
  have := nth_lt l 0
  rcases point_cases l h with ⟨_, e⟩ | ⟨_, b, _, _, e⟩ | ⟨_, b, _, _, _, _, e⟩ | ⟨_, b, _, _, _, _, _, e⟩ | ⟨_, _, e⟩ <;> rw [e] <;> simp only <;> omega
theorem point_enc (l : List UInt8) (h : 0 < l.length) : enc (point l).1 = nums (l.take (point l).2) := by
  have h0 := nth_lt l 0
  have h1 := nth_lt l 1
  have h2 := nth_lt l 2
  have h3 := nth_lt l 3
  rw [take_nums l _ (point_width l h).2]
  unfold enc
  rcases point_cases l h with ⟨a, e⟩ | ⟨a, b, c, d, e⟩ | ⟨a, b, c, d, d2, d3, e⟩ | ⟨a, b, c, d, d2, d3, d4, e⟩ | ⟨a, _, e⟩ <;> rw [e]
  · rw [if_neg (by simp only; omega)]
    simp only
    rw [Go.Lib.encodeRuneZ_one (by omega) (by omega)]; rfl
  · rw [if_neg (by simp only; omega)]
    simp only
    rw [Go.Lib.encodeRuneZ_two (by omega) (by omega)]
    simp only [List.range, List.range.loop, List.map_cons, List.map_nil, List.cons.injEq, and_true]
    omega
  · rw [if_neg (by simp only; omega)]
    simp only
    rw [Go.Lib.encodeRuneZ_three (by omega)]
    simp only [List.range, List.range.loop, List.map_cons, List.map_nil, List.cons.injEq, and_true]
    omega
  · rw [if_neg (by simp only; omega)]
    simp only
    rw [Go.Lib.encodeRuneZ_four (by omega) (by omega)]
    simp only [List.range, List.range.loop, List.map_cons, List.map_nil, List.cons.injEq, and_true]
    omega
  · rw [if_pos (by simp only; omega)]
    simp only [List.range, List.range.loop, List.map_cons, List.map_nil, List.cons.injEq, and_true]
    omega
theorem nth_take (l : List UInt8) (m k : Nat) : nth (l.take m) k = if k < m then nth l k else 0 := by
  unfold nth
  by_cases h : k < m
  · rw [if_pos h, List.getD_eq_getElem?_getD, List.getD_eq_getElem?_getD, List.getElem?_take_of_lt h]
  · rw [if_neg h, List.getD_eq_getElem?_getD, List.getElem?_eq_none (by rw [List.length_take]; omega)]; rfl
/-- What is cut behind a point leaves it as it is. -/
theorem point_take (l : List UInt8) (m : Nat) (h : 0 < l.length) (hm : (point l).2 ≤ m) (hl : m ≤ l.length) : point (l.take m) = point l := by
  have hw := point_width l h
  have hlen : (l.take m).length = m := by rw [List.length_take]; omega
  have e0 : nth (l.take m) 0 = nth l 0 := by rw [nth_take, if_pos (by omega)]
  have e1 : nth (l.take m) 1 = if 1 < m then nth l 1 else 0 := nth_take l m 1
  have e2 : nth (l.take m) 2 = if 2 < m then nth l 2 else 0 := nth_take l m 2
  have e3 : nth (l.take m) 3 = if 3 < m then nth l 3 else 0 := nth_take l m 3
  have h2 : 0 < (l.take m).length := by omega
  have k1 : 1 < m → nth (l.take m) 1 = nth l 1 := fun z => by rw [e1, if_pos z]
  have k2 : 2 < m → nth (l.take m) 2 = nth l 2 := fun z => by rw [e2, if_pos z]
  have k3 : 3 < m → nth (l.take m) 3 = nth l 3 := fun z => by rw [e3, if_pos z]
  have key : dec (l.take m) = dec l := by
    unfold dec
    rw [hlen, e0]
    rcases point_cases l h with ⟨a, e⟩ | ⟨a, b, c, d, e⟩ | ⟨a, b, c, d, d2, d3, e⟩ | ⟨a, b, c, d, d2, d3, d4, e⟩ | ⟨a, e', e⟩ <;> rw [e] at hm <;> simp only at hm
    · rw [dN1 a, dN1 a]
    · rw [k1 (by omega), dN2 a (by omega) c d, dN2 a b c d]
    · rw [k1 (by omega), k2 (by omega), dN3 a (by omega) c d d2 d3, dN3 a b c d d2 d3]
    · rw [k1 (by omega), k2 (by omega), k3 (by omega), dN4 a (by omega) c d d2 d3 d4, dN4 a b c d d2 d3 d4]
    · have e4 : decodeN l.length (nth l 0) (nth l 1) (nth l 2) (nth l 3) = (65533, 1) := e'
      rw [e4]
      rcases dec_cases (l.take m) h2 with ⟨a2, e⟩ | ⟨a, b, c, d, e⟩ | ⟨a, b, c, d, d2, d3, e⟩ | ⟨a, b, c, d, d2, d3, d4, e⟩ | ⟨a, e⟩
      · rw [e0] at a2; omega
      · exfalso
        rw [hlen] at b
        rw [e0] at a d
        rw [k1 b] at c d
        rw [dN2 a (by omega) c d] at e4
        simp at e4
      · exfalso
        rw [hlen] at b
        rw [e0] at a d2 d3
        rw [k1 (by omega)] at c d2 d3
        rw [k2 b] at d d2 d3
        rw [dN3 a (by omega) c d d2 d3] at e4
        simp at e4
      · exfalso
        rw [hlen] at b
        rw [e0] at a d3 d4
        rw [k1 (by omega)] at c d3 d4
        rw [k2 (by omega)] at d d3 d4
        rw [k3 b] at d2 d3 d4
        rw [dN4 a (by omega) c d d2 d3 d4] at e4
        simp at e4
      · have e5 : decodeN (l.take m).length (nth (l.take m) 0) (nth (l.take m) 1) (nth (l.take m) 2) (nth (l.take m) 3) = (65533, 1) := e
        rw [hlen, e0] at e5
        exact e5
  unfold point
  rw [key, e0]
/-- A string's points. -/
inductive Pts : List UInt8 → List Int → Prop
  | nil : Pts [] []
  | cons {l : List UInt8} {ps : List Int} (h : 0 < l.length) : Pts (l.drop (point l).2) ps → Pts l ((point l).1 :: ps)
theorem pts_exists : ∀ (n : Nat) (l : List UInt8), l.length = n → ∃ ps, Pts l ps := by
  intro n
  induction n using Nat.strongRecOn with
  | _ n ih =>
  intro l hn
  by_cases h : 0 < l.length
  · have hw := point_width l h
    obtain ⟨ps, hp⟩ := ih (l.drop (point l).2).length (by rw [List.length_drop]; omega) _ rfl
    exact ⟨_, Pts.cons h hp⟩
  · rw [List.eq_nil_of_length_eq_zero (by omega : l.length = 0)]
    exact ⟨[], Pts.nil⟩
theorem Pts.bytes {l : List UInt8} {ps : List Int} (h : Pts l ps) : ps.flatMap enc = nums l := by
  induction h with
  | nil => rfl
  | @cons l ps h hp ih =>
    rw [List.flatMap_cons, ih, point_enc l h, ← nums_append, List.take_append_drop]
theorem Pts.inj {l l' : List UInt8} {ps : List Int} (h : Pts l ps) (h' : Pts l' ps) : l = l' := nums_inj (by rw [← h.bytes, ← h'.bytes])
theorem Pts.length_le {l : List UInt8} {ps : List Int} (h : Pts l ps) : ps.length ≤ l.length := by
  induction h with
  | nil => simp
  | @cons l ps h hp ih => have := point_width l h; simp only [List.length_cons, List.length_drop] at *; omega
theorem Pts.range {l : List UInt8} {ps : List Int} (h : Pts l ps) : ∀ p ∈ ps, 0 ≤ p ∧ p < 1114368 := by
  induction h with
  | nil => simp
  | @cons l ps h hp ih =>
    intro p hp2
    rcases List.mem_cons.1 hp2 with rfl | hp2
    · exact point_range l h
    · exact ih p hp2
/-- How many bytes so many points have. -/
def cut (ps : List Int) (k : Nat) : Nat := ((ps.take k).flatMap enc).length
theorem cut_zero (ps : List Int) : cut ps 0 = 0 := by simp [cut]
theorem cut_cons (p : Int) (ps : List Int) (k : Nat) : cut (p :: ps) (k + 1) = (enc p).length + cut ps k := by simp [cut]
theorem cut_add (ps : List Int) (a n : Nat) : cut ps (a + n) = cut ps a + cut (ps.drop a) n := by
  unfold cut
  rw [List.take_add, List.flatMap_append, List.length_append]
theorem Pts.cut_le {l : List UInt8} {ps : List Int} (h : Pts l ps) (k : Nat) : cut ps k ≤ l.length := by
  have h1 := congrArg List.length h.bytes
  rw [nums_length, ← List.take_append_drop k ps, List.flatMap_append, List.length_append] at h1
  unfold cut
  omega
theorem point_enc_length (l : List UInt8) (h : 0 < l.length) : (enc (point l).1).length = (point l).2 := by
  rw [point_enc l h, nums_length, List.length_take]
  have := point_width l h
  omega
theorem Pts.drop {l : List UInt8} {ps : List Int} (h : Pts l ps) : ∀ k, Pts (l.drop (cut ps k)) (ps.drop k) := by
  induction h with
  | nil => intro k; simpa using Pts.nil
  | @cons l ps h hp ih =>
    intro k
    cases k with
    | zero => rw [cut_zero]; exact Pts.cons h hp
    | succ k =>
      rw [cut_cons, point_enc_length l h, List.drop_succ_cons, ← List.drop_drop]
      exact ih k
theorem Pts.take {l : List UInt8} {ps : List Int} (h : Pts l ps) : ∀ k, Pts (l.take (cut ps k)) (ps.take k) := by
  induction h with
  | nil => intro k; simpa using Pts.nil
  | @cons l ps h hp ih =>
    intro k
    cases k with
    | zero => rw [cut_zero]; simpa using Pts.nil
    | succ k =>
      have hw := point_width l h
      have h1 := hp.cut_le k
      rw [List.length_drop] at h1
      rw [cut_cons, point_enc_length l h, List.take_succ_cons]
      have e := point_take l ((point l).2 + cut ps k) h (by omega) (by omega)
      have h2 : Pts ((l.take ((point l).2 + cut ps k)).drop (point (l.take ((point l).2 + cut ps k))).2) (ps.take k) := by
        rw [e, List.drop_take, Nat.add_sub_cancel_left]
        exact ih k
      have h3 := Pts.cons (by rw [List.length_take]; omega) h2
      rw [e] at h3
      exact h3
/-- A part of a string, by its points. -/
theorem Pts.part {l : List UInt8} {ps : List Int} (h : Pts l ps) (a n : Nat) : Pts ((l.drop (cut ps a)).take (cut ps (a + n) - cut ps a)) ((ps.drop a).take n) := by
  rw [cut_add, Nat.add_sub_cancel_left]
  exact (h.drop a).take n
/-! ### lists of numbers, compared -/
def cmpZ : List Int → List Int → Int
  | [], [] => 0
  | [], _ :: _ => -1
  | _ :: _, [] => 1
  | x :: a, y :: b => if x < y then -1 else if x > y then 1 else cmpZ a b
theorem cmpZ_turn : ∀ a b, cmpZ b a = - cmpZ a b
  | [], [] => rfl
  | [], _ :: _ => rfl
  | _ :: _, [] => rfl
  | x :: a, y :: b => by
    unfold cmpZ
    have := cmpZ_turn a b
    by_cases h1 : x < y
    · rw [if_neg (by omega), if_pos (by omega), if_pos h1]; rfl
    · by_cases h2 : x > y
      · rw [if_pos (by omega), if_neg h1, if_pos h2]
      · rw [if_neg (by omega), if_neg (by omega), if_neg h1, if_neg h2, this]
theorem cmpZ_zero : ∀ a b, cmpZ a b = 0 ↔ a = b
  | [], [] => by simp [cmpZ]
  | [], _ :: _ => by simp [cmpZ]
  | _ :: _, [] => by simp [cmpZ]
  | x :: a, y :: b => by
    unfold cmpZ
    have := cmpZ_zero a b
    by_cases h1 : x < y
    · rw [if_pos h1]; simp; omega
    · by_cases h2 : x > y
      · rw [if_neg h1, if_pos h2]; simp; omega
      · rw [if_neg h1, if_neg h2, this]
        have : x = y := by omega
        simp [this]
theorem cmpZ_trans : ∀ a b c, cmpZ a b ≤ 0 → cmpZ b c ≤ 0 → cmpZ a c ≤ 0
  | [], [], c, _, h => h
  | [], _ :: _, [], _, h => by simp [cmpZ]
  | [], _ :: _, _ :: _, _, _ => by simp [cmpZ]
  | _ :: _, [], _, h, _ => by simp [cmpZ] at h
  | _ :: _, _ :: _, [], _, h => by simp [cmpZ] at h
  | x :: a, y :: b, z :: c, h1, h2 => by
    have ih := cmpZ_trans a b c
    unfold cmpZ at h1 h2 ⊢
    by_cases c1 : x < y
    · by_cases c2 : y < z
      · rw [if_pos (by omega)]; omega
      · by_cases c3 : y > z
        · rw [if_neg c2, if_pos c3] at h2; omega
        · rw [if_pos (by omega)]; omega
    · by_cases c4 : x > y
      · rw [if_neg c1, if_pos c4] at h1; omega
      · by_cases c2 : y < z
        · rw [if_pos (by omega)]; omega
        · by_cases c3 : y > z
          · rw [if_neg c2, if_pos c3] at h2; omega
          · rw [if_neg c1, if_neg c4] at h1
            rw [if_neg c2, if_neg c3] at h2
            rw [if_neg (by omega), if_neg (by omega)]
            exact ih h1 h2
end Go.Proofs.YtdojgfkcpaeacaaDoor.TextPure
