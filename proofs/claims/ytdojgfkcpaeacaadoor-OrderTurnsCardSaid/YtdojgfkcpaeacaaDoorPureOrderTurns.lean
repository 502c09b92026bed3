/- Compared the other way round it is the contrary; with Desc of all keys turned, too. No condition. -/
import Derived.Test.YtdojgfkcpaeacaaDoorQx0
import Derived.Lib.IndexBytes
import Derived.Lib.DecodeN
import Derived.Lib.RuneBytes
import Derived.Test.YtdojgfkcpaeacaaDoorHOpens
import Derived.Test.YtdojgfkcpaeacaaDoorQx
set_option linter.unusedVariables false
set_option linter.unusedSimpArgs false
namespace Go.Proofs.YtdojgfkcpaeacaaDoor.Pure
open Go.RowKit Go.Proofs.YtdojgfkcpaeacaaDoorW.PrintWords Go.Proofs.YtdojgfkcpaeacaaDoorW.PrintLast Go.Proofs.YtdojgfkcpaeacaaDoorW.PrintMore

theorem w64 {x : Int} (h0 : -9223372036854775808 ≤ x) (h1 : x ≤ 9223372036854775807) : wrap64 x = x := by unfold wrap64; omega
theorem w64s {i n : Nat} (h : i < n) (hn : n ≤ 9223372036854775807) : wrap64 ((i : Int) + 1) = ((i + 1 : Nat) : Int) := by rw [w64 (by omega) (by omega)]; omega
theorem w64p {k : Nat} (h : 0 < k) (hk : k ≤ 9223372036854775807) : wrap64 ((k : Int) - 1) = ((k - 1 : Nat) : Int) := by rw [w64 (by omega) (by omega)]; omega
theorem wbt (s : ByteArray) (i : Int) : wrap64 (bt s i) = bt s i := by have := bt_range s i; exact w64 (by omega) (by omega)
theorem Ev.pos {α : Type} {c : Prop} [Decidable c] {g f : Nat → Option α} {r : α} (h : c) (k : Ev g r) : Ev (fun n => if c then g n else f n) r := by simpa only [if_pos h] using k
theorem Ev.neg {α : Type} {c : Prop} [Decidable c] {g f : Nat → Option α} {r : α} (h : ¬ c) (k : Ev f r) : Ev (fun n => if c then g n else f n) r := by simpa only [if_neg h] using k
theorem Ev.c {α : Type} {x : Option α} {r : α} (h : x = some r) : Ev (fun _ => x) r := ⟨0, fun _ _ => h⟩
theorem Ev.val {α : Type} {x r : α} (h : x = r) : Ev (fun _ => some x) r := ⟨0, fun _ _ => by rw [h]⟩
theorem Ev.eq {α : Type} {g : Nat → Option α} {x r : α} (h : Ev g x) (e : x = r) : Ev g r := e ▸ h
theorem dsz (s : ByteArray) : s.data.toList.length = s.size := by simp
theorem btn (s : ByteArray) (i : Nat) (h : i < s.data.toList.length) : bt s (i : Int) = ((s.data.toList[i]).toNat : Int) := by
  have h2 : (i : Int).toNat < s.size := by rw [dsz] at h; omega
  unfold bt
  rw [dif_pos h2]
  rfl
theorem rdn (l : List Int) (i : Nat) (h : i < l.length) : rd l (i : Int) = l[i] := by simp [rd, List.getD, h]
theorem rdOfn {α : Type} (d : α) (l : List α) (i : Nat) (h : i < l.length) : rdOf d l (i : Int) = l[i] := by simp [rdOf, List.getD, h]
theorem tl (s : ByteArray) : s.toList = s.data.toList := ByteArray.toList_eq s
theorem ba_ext {a b : ByteArray} (h : a.data.toList = b.data.toList) : a = b := by
  cases a; cases b; simp only at h; congr 1; exact Array.toList_inj.1 h
theorem cut_from (s : ByteArray) (a : Nat) : (s.extract a s.size).data.toList = s.data.toList.drop a := Lib.extract_to_end s a
theorem cut_to (s : ByteArray) (a : Nat) : (s.extract 0 a).data.toList = s.data.toList.take a := by rw [Lib.extract_data]; simp
theorem strOf_list (l : List Int) : (strOfNums l).data.toList = l.map fun x => UInt8.ofNat x.toNat := strOfNums_data l
theorem ba_size_append (a b : ByteArray) : (a ++ b).size = a.size + b.size := ByteArray.size_append ..
theorem ba_append_list (a b : ByteArray) : (a ++ b).data.toList = a.data.toList ++ b.data.toList := by simp
theorem drop_at {α : Type} (l : List α) (i : Nat) (h : i < l.length) : l.drop i = l[i] :: l.drop (i + 1) := List.drop_eq_getElem_cons h
end Go.Proofs.YtdojgfkcpaeacaaDoor.Pure

set_option linter.unusedVariables false
set_option linter.unusedSimpArgs false
namespace Go.Proofs.YtdojgfkcpaeacaaDoor.TextPure
open Go.Lib (decodeN encodeRuneZ)
def nth (l : List UInt8) (k : Nat) : Nat := (l.getD k 0).toNat
theorem nth_lt (l : List UInt8) (k : Nat) : nth l k < 256 := UInt8.toNat_lt _
def dec (l : List UInt8) : Nat × Nat := decodeN l.length (nth l 0) (nth l 1) (nth l 2) (nth l 3)
/-- A string's first point, and how many bytes it has. -/
def point (l : List UInt8) : Int × Nat := if (dec l).1 = 65533 ∧ (dec l).2 ≤ 1 then (1114112 + (nth l 0 : Int), 1) else (((dec l).1 : Int), (dec l).2)
/-- A point's bytes. -/
def enc (p : Int) : List Int := if p ≥ 1114112 then [p % 256] else encodeRuneZ p
/-- Bytes as numbers. -/
def nums (l : List UInt8) : List Int := l.map fun b => (b.toNat : Int)
theorem nums_append (a b : List UInt8) : nums (a ++ b) = nums a ++ nums b := by simp [nums]
theorem nums_length (a : List UInt8) : (nums a).length = a.length := by simp [nums]
theorem nums_inj {a b : List UInt8} (h : nums a = nums b) : a = b := by
  induction a generalizing b with
  | nil => cases b with
    | nil => rfl
    | cons y b => simp [nums] at h
  | cons x a ih =>
    cases b with
    | nil => simp [nums] at h
    | cons y b =>
      simp only [nums, List.map_cons, List.cons.injEq] at h
      rw [ih (show nums a = nums b from h.2), UInt8.toNat_inj.1 (by omega : x.toNat = y.toNat)]
theorem take_nums (l : List UInt8) (k : Nat) (h : k ≤ l.length) : nums (l.take k) = (List.range k).map fun i => (nth l i : Int) := by
  apply List.ext_getElem
  · simp [nums]; omega
  · intro i h1 h2
    have h3 : i < l.length := by simp [nums] at h1; omega
    simp [nums, nth, List.getD, h3]
theorem dec_cases (l : List UInt8) (h : 0 < l.length) :
    (nth l 0 < 128 ∧ dec l = (nth l 0, 1)) ∨
    (nth l 0 / 32 = 6 ∧ 1 < l.length ∧ nth l 1 / 64 = 2 ∧ 128 ≤ nth l 0 % 32 * 64 + nth l 1 % 64 ∧ dec l = (nth l 0 % 32 * 64 + nth l 1 % 64, 2)) ∨
    (nth l 0 / 16 = 14 ∧ 2 < l.length ∧ nth l 1 / 64 = 2 ∧ nth l 2 / 64 = 2 ∧ 2048 ≤ nth l 0 % 16 * 4096 + nth l 1 % 64 * 64 + nth l 2 % 64 ∧ (nth l 0 % 16 * 4096 + nth l 1 % 64 * 64 + nth l 2 % 64 < 55296 ∨ 57344 ≤ nth l 0 % 16 * 4096 + nth l 1 % 64 * 64 + nth l 2 % 64) ∧ dec l = (nth l 0 % 16 * 4096 + nth l 1 % 64 * 64 + nth l 2 % 64, 3)) ∨
    (nth l 0 / 8 = 30 ∧ 3 < l.length ∧ nth l 1 / 64 = 2 ∧ nth l 2 / 64 = 2 ∧ nth l 3 / 64 = 2 ∧ 65536 ≤ nth l 0 % 8 * 262144 + nth l 1 % 64 * 4096 + nth l 2 % 64 * 64 + nth l 3 % 64 ∧ nth l 0 % 8 * 262144 + nth l 1 % 64 * 4096 + nth l 2 % 64 * 64 + nth l 3 % 64 ≤ 1114111 ∧ dec l = (nth l 0 % 8 * 262144 + nth l 1 % 64 * 4096 + nth l 2 % 64 * 64 + nth l 3 % 64, 4)) ∨
    (128 ≤ nth l 0 ∧ dec l = (65533, 1)) := by
  have h0 := nth_lt l 0
  unfold dec decodeN
  by_cases c1 : nth l 0 < 128
  · left; exact ⟨c1, by rw [if_pos c1]⟩
  rw [if_neg c1]
  by_cases c2 : nth l 0 / 32 = 6 ∧ (1 < l.length ∧ nth l 1 / 64 = 2)
  · rw [if_pos c2]
    by_cases d : nth l 0 % 32 * 64 + nth l 1 % 64 ≥ 128
    · right; left; exact ⟨c2.1, c2.2.1, c2.2.2, d, by rw [if_pos d]⟩
    · right; right; right; right; exact ⟨by omega, by rw [if_neg d]⟩
  rw [if_neg c2]
  by_cases c3 : nth l 0 / 16 = 14 ∧ (1 < l.length ∧ nth l 1 / 64 = 2) ∧ (2 < l.length ∧ nth l 2 / 64 = 2)
  · rw [if_pos c3]
    split
    · rename_i d
      right; right; left; exact ⟨c3.1, c3.2.2.1, c3.2.1.2, c3.2.2.2, d.1, by omega, rfl⟩
    · right; right; right; right; exact ⟨by omega, rfl⟩
  rw [if_neg c3]
  by_cases c4 : nth l 0 / 8 = 30 ∧ (1 < l.length ∧ nth l 1 / 64 = 2) ∧ (2 < l.length ∧ nth l 2 / 64 = 2) ∧ (3 < l.length ∧ nth l 3 / 64 = 2)
  · rw [if_pos c4]
    split
    · rename_i d
      right; right; right; left; exact ⟨c4.1, c4.2.2.2.1, c4.2.1.2, c4.2.2.1.2, c4.2.2.2.2, d.1, by omega, rfl⟩
    · right; right; right; right; exact ⟨by omega, rfl⟩
  rw [if_neg c4]
  right; right; right; right; exact ⟨by omega, rfl⟩
/-- The first point: what it is, by its bytes. -/
theorem point_cases (l : List UInt8) (h : 0 < l.length) :
    (nth l 0 < 128 ∧ point l = ((nth l 0 : Int), 1)) ∨
    (nth l 0 / 32 = 6 ∧ 1 < l.length ∧ nth l 1 / 64 = 2 ∧ 128 ≤ nth l 0 % 32 * 64 + nth l 1 % 64 ∧ point l = (((nth l 0 % 32 * 64 + nth l 1 % 64 : Nat) : Int), 2)) ∨
    (nth l 0 / 16 = 14 ∧ 2 < l.length ∧ nth l 1 / 64 = 2 ∧ nth l 2 / 64 = 2 ∧ 2048 ≤ nth l 0 % 16 * 4096 + nth l 1 % 64 * 64 + nth l 2 % 64 ∧ (nth l 0 % 16 * 4096 + nth l 1 % 64 * 64 + nth l 2 % 64 < 55296 ∨ 57344 ≤ nth l 0 % 16 * 4096 + nth l 1 % 64 * 64 + nth l 2 % 64) ∧ point l = (((nth l 0 % 16 * 4096 + nth l 1 % 64 * 64 + nth l 2 % 64 : Nat) : Int), 3)) ∨
    (nth l 0 / 8 = 30 ∧ 3 < l.length ∧ nth l 1 / 64 = 2 ∧ nth l 2 / 64 = 2 ∧ nth l 3 / 64 = 2 ∧ 65536 ≤ nth l 0 % 8 * 262144 + nth l 1 % 64 * 4096 + nth l 2 % 64 * 64 + nth l 3 % 64 ∧ nth l 0 % 8 * 262144 + nth l 1 % 64 * 4096 + nth l 2 % 64 * 64 + nth l 3 % 64 ≤ 1114111 ∧ point l = (((nth l 0 % 8 * 262144 + nth l 1 % 64 * 4096 + nth l 2 % 64 * 64 + nth l 3 % 64 : Nat) : Int), 4)) ∨
    (128 ≤ nth l 0 ∧ dec l = (65533, 1) ∧ point l = (1114112 + (nth l 0 : Int), 1)) := by
  unfold point
  rcases dec_cases l h with ⟨a, e⟩ | ⟨a, b, c, d, e⟩ | ⟨a, b, c, d, d2, d3, e⟩ | ⟨a, b, c, d, d2, d3, d4, e⟩ | ⟨a, e⟩
  · left; refine ⟨a, ?_⟩; rw [e, if_neg (by simp only; omega)]
  · right; left; refine ⟨a, b, c, d, ?_⟩; rw [e, if_neg (by simp only; omega)]
  · right; right; left; refine ⟨a, b, c, d, d2, d3, ?_⟩; rw [e, if_neg (by simp only; omega)]
  · right; right; right; left; refine ⟨a, b, c, d, d2, d3, d4, ?_⟩; rw [e, if_neg (by simp only; omega)]
  · right; right; right; right; refine ⟨a, e, ?_⟩; rw [e, if_pos ⟨rfl, Nat.le_refl _⟩]
theorem point_width (l : List UInt8) (h : 0 < l.length) : 1 ≤ (point l).2 ∧ (point l).2 ≤ l.length := by
  rcases point_cases l h with ⟨_, e⟩ | ⟨_, b, _, _, e⟩ | ⟨_, b, _, _, _, _, e⟩ | ⟨_, b, _, _, _, _, _, e⟩ | ⟨_, _, e⟩ <;> rw [e] <;> simp only <;> omega
theorem dec_width (l : List UInt8) (h : 0 < l.length) : (dec l).2 = (point l).2 := by
  unfold point
  split
  · rename_i d
    have d2 := d.2
    rcases dec_cases l h with ⟨a, e⟩ | ⟨a, b, c, d, e⟩ | ⟨a, b, c, d, d2, d3, e⟩ | ⟨a, b, c, d, d2, d3, d4, e⟩ | ⟨a, e⟩ <;> have e2 := congrArg Prod.snd e <;> simp only at e2 ⊢ <;> omega
  · rfl
theorem dN1 {n b0 b1 b2 b3 : Nat} (a : b0 < 128) : decodeN n b0 b1 b2 b3 = (b0, 1) := by unfold decodeN; rw [if_pos a]
theorem dN2 {n b0 b1 b2 b3 : Nat} (a : b0 / 32 = 6) (b : 1 < n) (c : b1 / 64 = 2) (d : 128 ≤ b0 % 32 * 64 + b1 % 64) : decodeN n b0 b1 b2 b3 = (b0 % 32 * 64 + b1 % 64, 2) := by
  unfold decodeN
  rw [if_neg (by omega), if_pos ⟨a, b, c⟩, if_pos d]
theorem dN3 {n b0 b1 b2 b3 : Nat} (a : b0 / 16 = 14) (b : 2 < n) (c : b1 / 64 = 2) (c2 : b2 / 64 = 2) (d : 2048 ≤ b0 % 16 * 4096 + b1 % 64 * 64 + b2 % 64) (d2 : b0 % 16 * 4096 + b1 % 64 * 64 + b2 % 64 < 55296 ∨ 57344 ≤ b0 % 16 * 4096 + b1 % 64 * 64 + b2 % 64) :
    decodeN n b0 b1 b2 b3 = (b0 % 16 * 4096 + b1 % 64 * 64 + b2 % 64, 3) := by
  unfold decodeN
  rw [if_neg (by omega), if_neg (by omega), if_pos ⟨a, ⟨by omega, c⟩, b, c2⟩, if_pos ⟨d, by omega⟩]
theorem dN4 {n b0 b1 b2 b3 : Nat} (a : b0 / 8 = 30) (b : 3 < n) (c : b1 / 64 = 2) (c2 : b2 / 64 = 2) (c3 : b3 / 64 = 2) (d : 65536 ≤ b0 % 8 * 262144 + b1 % 64 * 4096 + b2 % 64 * 64 + b3 % 64) (d2 : b0 % 8 * 262144 + b1 % 64 * 4096 + b2 % 64 * 64 + b3 % 64 ≤ 1114111) :
    decodeN n b0 b1 b2 b3 = (b0 % 8 * 262144 + b1 % 64 * 4096 + b2 % 64 * 64 + b3 % 64, 4) := by
  unfold decodeN
  rw [if_neg (by omega), if_neg (by omega), if_neg (by omega), if_pos ⟨a, ⟨by omega, c⟩, ⟨by omega, c2⟩, b, c3⟩, if_pos ⟨d, by omega⟩]
theorem point_range (l : List UInt8) (h : 0 < l.length) : 0 ≤ (point l).1 ∧ (point l).1 < 1114368 := by
  have := nth_lt l 0
  rcases point_cases l h with ⟨_, e⟩ | ⟨_, b, _, _, e⟩ | ⟨_, b, _, _, _, _, e⟩ | ⟨_, b, _, _, _, _, _, e⟩ | ⟨_, _, e⟩ <;> rw [e] <;> simp only <;> omega
theorem point_enc (l : List UInt8) (h : 0 < l.length) : enc (point l).1 = nums (l.take (point l).2) := by
  have h0 := nth_lt l 0
  have h1 := nth_lt l 1
  have h2 := nth_lt l 2
  have h3 := nth_lt l 3
  rw [take_nums l _ (point_width l h).2]
  unfold enc
  rcases point_cases l h with ⟨a, e⟩ | ⟨a, b, c, d, e⟩ | ⟨a, b, c, d, d2, d3, e⟩ | ⟨a, b, c, d, d2, d3, d4, e⟩ | ⟨a, _, e⟩ <;> rw [e]
  · rw [if_neg (by simp only; omega)]
    simp only
    rw [Go.Lib.encodeRuneZ_one (by omega) (by omega)]; rfl
  · rw [if_neg (by simp only; omega)]
    simp only
    rw [Go.Lib.encodeRuneZ_two (by omega) (by omega)]
    simp only [List.range, List.range.loop, List.map_cons, List.map_nil, List.cons.injEq, and_true]
    omega
  · rw [if_neg (by simp only; omega)]
    simp only
    rw [Go.Lib.encodeRuneZ_three (by omega)]
    simp only [List.range, List.range.loop, List.map_cons, List.map_nil, List.cons.injEq, and_true]
    omega
  · rw [if_neg (by simp only; omega)]
    simp only
    rw [Go.Lib.encodeRuneZ_four (by omega) (by omega)]
    simp only [List.range, List.range.loop, List.map_cons, List.map_nil, List.cons.injEq, and_true]
    omega
  · rw [if_pos (by simp only; omega)]
    simp only [List.range, List.range.loop, List.map_cons, List.map_nil, List.cons.injEq, and_true]
    omega
theorem nth_take (l : List UInt8) (m k : Nat) : nth (l.take m) k = if k < m then nth l k else 0 := by
  unfold nth
  by_cases h : k < m
  · rw [if_pos h, List.getD_eq_getElem?_getD, List.getD_eq_getElem?_getD, List.getElem?_take_of_lt h]
  · rw [if_neg h, List.getD_eq_getElem?_getD, List.getElem?_eq_none (by rw [List.length_take]; omega)]; rfl
/-- What is cut behind a point leaves it as it is. -/
theorem point_take (l : List UInt8) (m : Nat) (h : 0 < l.length) (hm : (point l).2 ≤ m) (hl : m ≤ l.length) : point (l.take m) = point l := by
  have hw := point_width l h
  have hlen : (l.take m).length = m := by rw [List.length_take]; omega
  have e0 : nth (l.take m) 0 = nth l 0 := by rw [nth_take, if_pos (by omega)]
  have e1 : nth (l.take m) 1 = if 1 < m then nth l 1 else 0 := nth_take l m 1
  have e2 : nth (l.take m) 2 = if 2 < m then nth l 2 else 0 := nth_take l m 2
  have e3 : nth (l.take m) 3 = if 3 < m then nth l 3 else 0 := nth_take l m 3
  have h2 : 0 < (l.take m).length := by omega
  have k1 : 1 < m → nth (l.take m) 1 = nth l 1 := fun z => by rw [e1, if_pos z]
  have k2 : 2 < m → nth (l.take m) 2 = nth l 2 := fun z => by rw [e2, if_pos z]
  have k3 : 3 < m → nth (l.take m) 3 = nth l 3 := fun z => by rw [e3, if_pos z]
  have key : dec (l.take m) = dec l := by
    unfold dec
    rw [hlen, e0]
    rcases point_cases l h with ⟨a, e⟩ | ⟨a, b, c, d, e⟩ | ⟨a, b, c, d, d2, d3, e⟩ | ⟨a, b, c, d, d2, d3, d4, e⟩ | ⟨a, e', e⟩ <;> rw [e] at hm <;> simp only at hm
    · rw [dN1 a, dN1 a]
    · rw [k1 (by omega), dN2 a (by omega) c d, dN2 a b c d]
    · rw [k1 (by omega), k2 (by omega), dN3 a (by omega) c d d2 d3, dN3 a b c d d2 d3]
    · rw [k1 (by omega), k2 (by omega), k3 (by omega), dN4 a (by omega) c d d2 d3 d4, dN4 a b c d d2 d3 d4]
    · have e4 : decodeN l.length (nth l 0) (nth l 1) (nth l 2) (nth l 3) = (65533, 1) := e'
      rw [e4]
      rcases dec_cases (l.take m) h2 with ⟨a2, e⟩ | ⟨a, b, c, d, e⟩ | ⟨a, b, c, d, d2, d3, e⟩ | ⟨a, b, c, d, d2, d3, d4, e⟩ | ⟨a, e⟩
      · rw [e0] at a2; omega
      · exfalso
        rw [hlen] at b
        rw [e0] at a d
        rw [k1 b] at c d
        rw [dN2 a (by omega) c d] at e4
        simp at e4
      · exfalso
        rw [hlen] at b
        rw [e0] at a d2 d3
        rw [k1 (by omega)] at c d2 d3
        rw [k2 b] at d d2 d3
        rw [dN3 a (by omega) c d d2 d3] at e4
        simp at e4
      · exfalso
        rw [hlen] at b
        rw [e0] at a d3 d4
        rw [k1 (by omega)] at c d3 d4
        rw [k2 (by omega)] at d d3 d4
        rw [k3 b] at d2 d3 d4
        rw [dN4 a (by omega) c d d2 d3 d4] at e4
        simp at e4
      · have e5 : decodeN (l.take m).length (nth (l.take m) 0) (nth (l.take m) 1) (nth (l.take m) 2) (nth (l.take m) 3) = (65533, 1) := e
        rw [hlen, e0] at e5
        exact e5
  unfold point
  rw [key, e0]
/-- A string's points. -/
inductive Pts : List UInt8 → List Int → Prop
  | nil : Pts [] []
  | cons {l : List UInt8} {ps : List Int} (h : 0 < l.length) : Pts (l.drop (point l).2) ps → Pts l ((point l).1 :: ps)
theorem pts_exists : ∀ (n : Nat) (l : List UInt8), l.length = n → ∃ ps, Pts l ps := by
  intro n
  induction n using Nat.strongRecOn with
  | _ n ih =>
  intro l hn
  by_cases h : 0 < l.length
  · have hw := point_width l h
    obtain ⟨ps, hp⟩ := ih (l.drop (point l).2).length (by rw [List.length_drop]; omega) _ rfl
    exact ⟨_, Pts.cons h hp⟩
  · rw [List.eq_nil_of_length_eq_zero (by omega : l.length = 0)]
    exact ⟨[], Pts.nil⟩
theorem Pts.bytes {l : List UInt8} {ps : List Int} (h : Pts l ps) : ps.flatMap enc = nums l := by
  induction h with
  | nil => rfl
  | @cons l ps h hp ih =>
    rw [List.flatMap_cons, ih, point_enc l h, ← nums_append, List.take_append_drop]
theorem Pts.unique {l : List UInt8} {ps : List Int} (h : Pts l ps) : ∀ {ps' : List Int}, Pts l ps' → ps = ps' := by
  induction h with
  | nil =>
    intro ps' h'
    cases h' with
    | nil => rfl
    | cons h _ => simp at h
  | @cons l ps h hp ih =>
    intro ps' h'
    cases h' with
    | nil => simp at h
    | cons _ h2 => rw [ih h2]
theorem Pts.inj {l l' : List UInt8} {ps : List Int} (h : Pts l ps) (h' : Pts l' ps) : l = l' := nums_inj (by rw [← h.bytes, ← h'.bytes])
theorem Pts.length_le {l : List UInt8} {ps : List Int} (h : Pts l ps) : ps.length ≤ l.length := by
  induction h with
  | nil => simp
  | @cons l ps h hp ih => have := point_width l h; simp only [List.length_cons, List.length_drop] at *; omega
theorem Pts.range {l : List UInt8} {ps : List Int} (h : Pts l ps) : ∀ p ∈ ps, 0 ≤ p ∧ p < 1114368 := by
  induction h with
  | nil => simp
  | @cons l ps h hp ih =>
    intro p hp2
    rcases List.mem_cons.1 hp2 with rfl | hp2
    · exact point_range l h
    · exact ih p hp2
/-- How many bytes so many points have. -/
def cut (ps : List Int) (k : Nat) : Nat := ((ps.take k).flatMap enc).length
theorem cut_zero (ps : List Int) : cut ps 0 = 0 := by simp [cut]
theorem cut_cons (p : Int) (ps : List Int) (k : Nat) : cut (p :: ps) (k + 1) = (enc p).length + cut ps k := by simp [cut]
theorem cut_add (ps : List Int) (a n : Nat) : cut ps (a + n) = cut ps a + cut (ps.drop a) n := by
  unfold cut
  rw [List.take_add, List.flatMap_append, List.length_append]
theorem Pts.cut_le {l : List UInt8} {ps : List Int} (h : Pts l ps) (k : Nat) : cut ps k ≤ l.length := by
  have h1 := congrArg List.length h.bytes
  rw [nums_length, ← List.take_append_drop k ps, List.flatMap_append, List.length_append] at h1
  unfold cut
  omega
theorem Pts.cut_all {l : List UInt8} {ps : List Int} (h : Pts l ps) (k : Nat) (hk : ps.length ≤ k) : cut ps k = l.length := by
  unfold cut
  rw [List.take_of_length_le hk, h.bytes, nums_length]
theorem point_enc_length (l : List UInt8) (h : 0 < l.length) : (enc (point l).1).length = (point l).2 := by
  rw [point_enc l h, nums_length, List.length_take]
  have := point_width l h
  omega
theorem Pts.drop {l : List UInt8} {ps : List Int} (h : Pts l ps) : ∀ k, Pts (l.drop (cut ps k)) (ps.drop k) := by
  induction h with
  | nil => intro k; simpa using Pts.nil
  | @cons l ps h hp ih =>
    intro k
    cases k with
    | zero => rw [cut_zero]; exact Pts.cons h hp
    | succ k =>
      rw [cut_cons, point_enc_length l h, List.drop_succ_cons, ← List.drop_drop]
      exact ih k
theorem Pts.take {l : List UInt8} {ps : List Int} (h : Pts l ps) : ∀ k, Pts (l.take (cut ps k)) (ps.take k) := by
  induction h with
  | nil => intro k; simpa using Pts.nil
  | @cons l ps h hp ih =>
    intro k
    cases k with
    | zero => rw [cut_zero]; simpa using Pts.nil
    | succ k =>
      have hw := point_width l h
      have h1 := hp.cut_le k
      rw [List.length_drop] at h1
      rw [cut_cons, point_enc_length l h, List.take_succ_cons]
      have e := point_take l ((point l).2 + cut ps k) h (by omega) (by omega)
      have h2 : Pts ((l.take ((point l).2 + cut ps k)).drop (point (l.take ((point l).2 + cut ps k))).2) (ps.take k) := by
        rw [e, List.drop_take, Nat.add_sub_cancel_left]
        exact ih k
      have h3 := Pts.cons (by rw [List.length_take]; omega) h2
      rw [e] at h3
      exact h3
/-- A part of a string, by its points. -/
theorem Pts.part {l : List UInt8} {ps : List Int} (h : Pts l ps) (a n : Nat) : Pts ((l.drop (cut ps a)).take (cut ps (a + n) - cut ps a)) ((ps.drop a).take n) := by
  rw [cut_add, Nat.add_sub_cancel_left]
  exact (h.drop a).take n
/-! ### lists of numbers, compared -/
def cmpZ : List Int → List Int → Int
  | [], [] => 0
  | [], _ :: _ => -1
  | _ :: _, [] => 1
  | x :: a, y :: b => if x < y then -1 else if x > y then 1 else cmpZ a b
theorem cmpZ_turn : ∀ a b, cmpZ b a = - cmpZ a b
  | [], [] => rfl
  | [], _ :: _ => rfl
  | _ :: _, [] => rfl
  | x :: a, y :: b => by
    unfold cmpZ
    have := cmpZ_turn a b
    by_cases h1 : x < y
    · rw [if_neg (by omega), if_pos (by omega), if_pos h1]; rfl
    · by_cases h2 : x > y
      · rw [if_pos (by omega), if_neg h1, if_pos h2]
      · rw [if_neg (by omega), if_neg (by omega), if_neg h1, if_neg h2, this]
theorem cmpZ_zero : ∀ a b, cmpZ a b = 0 ↔ a = b
  | [], [] => by simp [cmpZ]
  | [], _ :: _ => by simp [cmpZ]
  | _ :: _, [] => by simp [cmpZ]
  | x :: a, y :: b => by
    unfold cmpZ
    have := cmpZ_zero a b
    by_cases h1 : x < y
    · rw [if_pos h1]; simp; omega
    · by_cases h2 : x > y
      · rw [if_neg h1, if_pos h2]; simp; omega
      · rw [if_neg h1, if_neg h2, this]
        have : x = y := by omega
        simp [this]
theorem cmpZ_trans : ∀ a b c, cmpZ a b ≤ 0 → cmpZ b c ≤ 0 → cmpZ a c ≤ 0
  | [], [], c, _, h => h
  | [], _ :: _, [], _, h => by simp [cmpZ]
  | [], _ :: _, _ :: _, _, _ => by simp [cmpZ]
  | _ :: _, [], _, h, _ => by simp [cmpZ] at h
  | _ :: _, _ :: _, [], _, h => by simp [cmpZ] at h
  | x :: a, y :: b, z :: c, h1, h2 => by
    have ih := cmpZ_trans a b c
    unfold cmpZ at h1 h2 ⊢
    by_cases c1 : x < y
    · by_cases c2 : y < z
      · rw [if_pos (by omega)]; omega
      · by_cases c3 : y > z
        · rw [if_neg c2, if_pos c3] at h2; omega
        · rw [if_pos (by omega)]; omega
    · by_cases c4 : x > y
      · rw [if_neg c1, if_pos c4] at h1; omega
      · by_cases c2 : y < z
        · rw [if_pos (by omega)]; omega
        · by_cases c3 : y > z
          · rw [if_neg c2, if_pos c3] at h2; omega
          · rw [if_neg c1, if_neg c4] at h1
            rw [if_neg c2, if_neg c3] at h2
            rw [if_neg (by omega), if_neg (by omega)]
            exact ih h1 h2
end Go.Proofs.YtdojgfkcpaeacaaDoor.TextPure

set_option linter.unusedVariables false
set_option linter.unusedSimpArgs false
namespace Go.Proofs.YtdojgfkcpaeacaaDoor.Pure
open Go.RowKit Go.Proofs.YtdojgfkcpaeacaaDoor.Q Go.Proofs.YtdojgfkcpaeacaaDoorW.PrintWords Go.Proofs.YtdojgfkcpaeacaaDoorW.PrintLast Go.Proofs.YtdojgfkcpaeacaaDoorW.PrintMore
def aw0 : List (List S36) := [[⟨false, ⟨#[98]⟩⟩], [⟨true, ⟨#[]⟩⟩], [⟨false, ⟨#[97]⟩⟩]]
theorem aw_idx : (order_Rows.idx 20 aw0 [⟨0, 0, false⟩]).toList = [1, 2, 0] := by
  unfold order_Rows.idx Sort.insertionSort
  rw [Sort.insOuter, if_pos (by decide), Sort.insOuter, if_pos (by decide), Sort.insOuter, if_neg (by decide)]
  kernel_rfl
theorem aw_rows : order_Rows.f 20 aw0 [⟨0, 0, false⟩] = some [[⟨true, ⟨#[]⟩⟩], [⟨false, ⟨#[97]⟩⟩], [⟨false, ⟨#[98]⟩⟩]] := by
  unfold order_Rows.f
  rw [show order_copied.f 20 aw0 = some aw0 by kernel_rfl]
  simp only [Option.bind_some]
  rw [if_pos (show order_Rows.ok 20 aw0 [⟨0, 0, false⟩] = true by kernel_rfl), aw_idx]
  rfl
theorem awake_ev : Ev (fun k => hopperlaw24_awake.f k) true := by
  refine Ev.of (fun k => hopperlaw24_awake.mono k) (k := 20) ?_
  unfold hopperlaw24_awake.f
  simp only [Option.bind_some]
  have h := aw_rows
  unfold aw0 at h
  rw [h]
  simp only [Option.bind_some]
  decide +kernel
/-! ### rows -/
theorem rdL (l : List (List S36)) (i : Nat) (h : i < l.length) : rd_L6 l (i : Int) = l[i] := by simp [rd_L6, List.getD, h]
theorem rd36 (l : List S36) (i : Nat) (h : i < l.length) : rd_T36 l (i : Int) = l[i] := by simp [rd_T36, List.getD, h]
theorem rd39 (l : List S39) (i : Nat) (h : i < l.length) : rd_T39 l (i : Int) = l[i] := by simp [rd_T39, List.getD, h]
def SmallV (v : S36) : Prop := v.f1.size ≤ 100 ∧ (v.f0 = true → v.f1.toList = [])
/-- What the guard says of rows. -/
structure Small (l : List (List S36)) (a : Int) : Prop where
  a1 : 1 ≤ a
  a8 : a ≤ 8
  len : l.length ≤ 100
  row : ∀ r ∈ l, (r.length : Int) = a ∧ ∀ v ∈ r, SmallV v
theorem rows_l1 (l : List (List S36)) (a : Int) (ha : a ≤ 8) (i : Nat) (hi : i < l.length) (hr : (l[i].length : Int) = a)
    (hn : ∃ b, Ev (fun k => hopperref16_Rows.l0 k l a (wrap64 ((i : Int) + 1))) b ∧ (b = true → ∀ r ∈ l.drop (i + 1), (r.length : Int) = a ∧ ∀ v ∈ r, SmallV v)) :
    ∀ (n j : Nat), l[i].length - j = n → j ≤ l[i].length → ∃ b, Ev (fun k => hopperref16_Rows.l1 k l a (i : Int) (j : Int)) b ∧ (b = true → (∀ v ∈ l[i].drop j, SmallV v) ∧ ∀ r ∈ l.drop (i + 1), (r.length : Int) = a ∧ ∀ v ∈ r, SmallV v)
  | 0, j, hj, hjl => by
    obtain ⟨b, h1, h2⟩ := hn
    refine ⟨b, Ev.step (fun k => by rw [hopperref16_Rows.l1]) (Ev.neg (by omega) h1), fun hb => ⟨fun v hv => ?_, h2 hb⟩⟩
    rw [List.drop_of_length_le (by omega)] at hv
    cases hv
  | n + 1, j, hj, hjl => by
    have hlt : j < l[i].length := by omega
    obtain ⟨b, h1, h2⟩ := rows_l1 l a ha i hi hr hn n (j + 1) (by omega) (by omega)
    have e := drop_at l[i] j hlt
    by_cases c1 : ((l[i][j]).f1.size : Int) > 100
    · refine ⟨false, Ev.step (fun k => by rw [hopperref16_Rows.l1]) (Ev.pos (by omega) (Ev.pos (by omega) (Ev.pos (by omega) (Ev.pos (by omega) (Ev.pos (by rw [rdL l i hi]; omega) (Ev.pos (by rw [rdL l i hi, rd36 _ j hlt]; exact c1) (Ev.val rfl))))))), fun hb => by cases hb⟩
    · have go : ∀ (_ : l[i][j].f0 = true → l[i][j].f1.toList = []), (∀ v ∈ l[i].drop (j + 1), SmallV v) → ∀ v ∈ l[i].drop j, SmallV v := fun h3 h4 v hv => by
        rw [e] at hv
        rcases List.mem_cons.1 hv with rfl | hv
        · exact ⟨by omega, h3⟩
        · exact h4 v hv
      have nx : wrap64 ((j : Int) + 1) = ((j + 1 : Nat) : Int) := w64s hlt (by omega)
      by_cases c2 : l[i][j].f0 = true
      · by_cases c3 : l[i][j].f1.toList = []
        · refine ⟨b, Ev.step (fun k => by rw [hopperref16_Rows.l1]) (Ev.pos (by omega) (Ev.pos (by omega) (Ev.pos (by omega) (Ev.pos (by omega) (Ev.pos (by rw [rdL l i hi]; omega) (Ev.neg (by rw [rdL l i hi, rd36 _ j hlt]; exact c1) (Ev.pos (by rw [rdL l i hi, rd36 _ j hlt]; exact c2) (Ev.pos (by rw [rdL l i hi, rd36 _ j hlt]; exact c3) (by rw [nx]; exact h1))))))))), fun hb => ⟨go (fun _ => c3) (h2 hb).1, (h2 hb).2⟩⟩
        · refine ⟨false, Ev.step (fun k => by rw [hopperref16_Rows.l1]) (Ev.pos (by omega) (Ev.pos (by omega) (Ev.pos (by omega) (Ev.pos (by omega) (Ev.pos (by rw [rdL l i hi]; omega) (Ev.neg (by rw [rdL l i hi, rd36 _ j hlt]; exact c1) (Ev.pos (by rw [rdL l i hi, rd36 _ j hlt]; exact c2) (Ev.neg (by rw [rdL l i hi, rd36 _ j hlt]; exact c3) (Ev.val rfl))))))))), fun hb => by cases hb⟩
      · refine ⟨b, Ev.step (fun k => by rw [hopperref16_Rows.l1]) (Ev.pos (by omega) (Ev.pos (by omega) (Ev.pos (by omega) (Ev.pos (by omega) (Ev.pos (by rw [rdL l i hi]; omega) (Ev.neg (by rw [rdL l i hi, rd36 _ j hlt]; exact c1) (Ev.neg (by rw [rdL l i hi, rd36 _ j hlt]; exact c2) (by rw [nx]; exact h1)))))))), fun hb => ⟨go (fun h => absurd h c2) (h2 hb).1, (h2 hb).2⟩⟩
theorem rows_l0 (l : List (List S36)) (a : Int) (ha : a ≤ 8) (hl : l.length ≤ 100) : ∀ (n i : Nat), l.length - i = n → i ≤ l.length → ∃ b, Ev (fun k => hopperref16_Rows.l0 k l a (i : Int)) b ∧ (b = true → ∀ r ∈ l.drop i, (r.length : Int) = a ∧ ∀ v ∈ r, SmallV v)
  | 0, i, hi, hil => by
    refine ⟨true, Ev.step (fun k => by rw [hopperref16_Rows.l0]) (Ev.neg (by omega) (Ev.val rfl)), fun _ r hr => ?_⟩
    rw [List.drop_of_length_le (by omega)] at hr
    cases hr
  | n + 1, i, hi, hil => by
    have hlt : i < l.length := by omega
    have ih := rows_l0 l a ha hl n (i + 1) (by omega) (by omega)
    have nx : wrap64 ((i : Int) + 1) = ((i + 1 : Nat) : Int) := w64s hlt (by omega)
    rw [← nx] at ih
    by_cases c : (l[i].length : Int) = a
    · obtain ⟨b, h1, h2⟩ := rows_l1 l a ha i hlt c ih _ 0 rfl (Nat.zero_le _)
      have h1' : Ev (fun k => hopperref16_Rows.l1 k l a (i : Int) 0) b := h1
      refine ⟨b, ?_, fun hb r hr => ?_⟩
      · refine Ev.step (fun k => by rw [hopperref16_Rows.l0]) ?_
        refine Ev.pos (by omega) ?_
        refine Ev.pos (by omega) ?_
        exact Ev.pos (by rw [rdL l i hlt]; exact c) h1'
      rw [drop_at l i hlt] at hr
      rcases List.mem_cons.1 hr with rfl | hr
      · exact ⟨c, (h2 hb).1⟩
      · exact (h2 hb).2 r hr
    · exact ⟨false, Ev.step (fun k => by rw [hopperref16_Rows.l0]) (Ev.pos (by omega) (Ev.pos (by omega) (Ev.neg (by rw [rdL l i hlt]; exact c) (Ev.val rfl)))), fun hb => by cases hb⟩
theorem rows_ev (l : List (List S36)) (a : Int) : ∃ b, Ev (fun k => hopperref16_Rows.f k l a) b ∧ (b = true → Small l a) := by
  have bad : Ev (fun k => hopperref16_Rows.j0 k l a true) false := Ev.step (fun k => by rw [hopperref16_Rows.j0]) (Ev.pos rfl (Ev.val rfl))
  unfold hopperref16_Rows.f
  by_cases c1 : a < 1
  · exact ⟨false, Ev.pos c1 bad, fun h => by cases h⟩
  by_cases c2 : a > 8
  · exact ⟨false, Ev.neg c1 (Ev.pos c2 bad), fun h => by cases h⟩
  by_cases c3 : (l.length : Int) > 100
  · exact ⟨false, Ev.neg c1 (Ev.neg c2 (by rw [decide_eq_true c3]; exact bad)), fun h => by cases h⟩
  obtain ⟨b, h1, h2⟩ := rows_l0 l a (by omega) (by omega) _ 0 rfl (Nat.zero_le _)
  refine ⟨b, Ev.neg c1 (Ev.neg c2 ?_), fun h => ⟨by omega, by omega, by omega, by simpa using h2 h⟩⟩
  rw [decide_eq_false c3]
  have h1' : Ev (fun k => hopperref16_Rows.l0 k l a 0) b := h1
  refine Ev.step (fun k => by rw [hopperref16_Rows.j0]) ?_
  exact Ev.neg (by simp) h1'
/-! ### what is the same -/
theorem same17_l0 (l : List S36) (hl : l.length ≤ 1000) : ∀ (n i : Nat), l.length - i = n → i ≤ l.length → Ev (fun k => hopperref17_Same.l0 k l l (i : Int)) true
  | 0, i, hi, hil => Ev.step (fun k => by rw [hopperref17_Same.l0]) (Ev.neg (by omega) (Ev.val rfl))
  | n + 1, i, hi, hil => by
    have hlt : i < l.length := by omega
    refine Ev.step (fun k => by rw [hopperref17_Same.l0]) (Ev.pos (by omega) (Ev.pos (by omega) (Ev.pos (by omega) (Ev.neg (by simp) ?_))))
    rw [w64s hlt (by omega)]
    exact same17_l0 l hl n (i + 1) (by omega) (by omega)
theorem same17_ev (l : List S36) (hl : l.length ≤ 1000) : Ev (fun k => hopperref17_Same.f k l l) true := by
  unfold hopperref17_Same.f
  exact Ev.pos rfl (same17_l0 l hl _ 0 rfl (Nat.zero_le _))
theorem same18_l0 (l : List (List S36)) (hl : l.length ≤ 1000) (hr : ∀ r ∈ l, r.length ≤ 1000) : ∀ (n i : Nat), l.length - i = n → i ≤ l.length → Ev (fun k => hopperref18_Same.l0 k l l (i : Int)) true
  | 0, i, hi, hil => Ev.step (fun k => by rw [hopperref18_Same.l0]) (Ev.neg (by omega) (Ev.val rfl))
  | n + 1, i, hi, hil => by
    have hlt : i < l.length := by omega
    refine Ev.step (fun k => by rw [hopperref18_Same.l0]) (Ev.pos (by omega) (Ev.pos (by omega) (Ev.pos (by omega) (Ev.bind (a := true) ?_ (Ev.pos rfl ?_)))))
    · rw [rdL l i hlt]
      exact same17_ev _ (hr _ (List.getElem_mem hlt))
    · rw [w64s hlt (by omega)]
      exact same18_l0 l hl hr n (i + 1) (by omega) (by omega)
theorem same18_ev (l : List (List S36)) (hl : l.length ≤ 1000) (hr : ∀ r ∈ l, r.length ≤ 1000) : Ev (fun k => hopperref18_Same.f k l l) true := by
  unfold hopperref18_Same.f
  exact Ev.pos rfl (same18_l0 l hl hr _ 0 rfl (Nat.zero_le _))
/-! ### what is copied -/
theorem copied_l0 (l : List (List S36)) (hl : l.length ≤ 1000) (hr : ∀ r ∈ l, r.length ≤ 1000) : ∀ (n i : Nat), l.length - i = n → i ≤ l.length → Ev (fun k => order_copied.l0 k (l.take i) l (l.length : Int) (i : Int)) l
  | 0, i, hi, hil => Ev.step (fun k => by rw [order_copied.l0]) (Ev.neg (by omega) (Ev.val (List.take_of_length_le (by omega))))
  | n + 1, i, hi, hil => by
    have hlt : i < l.length := by omega
    have h2 := hr _ (List.getElem_mem hlt)
    refine Ev.step (fun k => by rw [order_copied.l0]) ?_
    refine Ev.pos (by omega) ?_
    refine Ev.pos (by omega) ?_
    refine Ev.pos (by omega) ?_
    refine Ev.bind (a := l[i]) (Ev.c ?_) ?_
    · rw [rdL l i hlt]
      unfold api_Val.f
      rw [if_pos (by omega)]
    · refine Ev.pos (by rw [List.length_take]; omega) ?_
      rw [w64s hlt (by omega), ← List.take_succ_eq_append_getElem hlt]
      exact copied_l0 l hl hr n (i + 1) (by omega) (by omega)
theorem copied_ev (l : List (List S36)) (hl : l.length ≤ 1000) (hr : ∀ r ∈ l, r.length ≤ 1000) : Ev (fun k => order_copied.f k l) l := by
  unfold order_copied.f
  exact copied_l0 l hl hr _ 0 rfl (Nat.zero_le _)
/-! ### right keys -/
theorem right_l0 (l : List S39) (a : Int) (hl : l.length ≤ 9223372036854775807) : ∀ (n i : Nat), l.length - i = n → i ≤ l.length → Ev (fun k => hopperref24_Right.l0 k l a (i : Int)) (decide ((l.length : Int) ≤ 8) && !((l.drop i).any (keyWrong a)))
  | 0, i, hi, hil => Ev.step (fun k => by rw [hopperref24_Right.l0]) (Ev.neg (by omega) (Ev.val (by rw [List.drop_of_length_le (by omega)]; simp)))
  | n + 1, i, hi, hil => by
    have hlt : i < l.length := by omega
    have ih := right_l0 l a hl n (i + 1) (by omega) (by omega)
    have e := drop_at l i hlt
    have hw : (l.drop i).any (keyWrong a) = (keyWrong a l[i] || (l.drop (i + 1)).any (keyWrong a)) := by rw [e]; rfl
    rw [hw]
    refine Ev.step (fun k => by rw [hopperref24_Right.l0]) ?_
    refine Ev.pos (by omega) ?_
    refine Ev.pos (by omega) ?_
    rw [rd39 l i hlt]
    by_cases c0 : l[i].f0 < 0
    · exact Ev.pos c0 (Ev.val (by simp [keyWrong, c0]))
    refine Ev.neg c0 ?_
    by_cases c1 : l[i].f0 ≥ a
    · exact Ev.pos c1 (Ev.val (by simp [keyWrong, show a ≤ l[i].f0 from c1]))
    refine Ev.neg c1 ?_
    by_cases c2 : l[i].f1 < 0
    · exact Ev.pos c2 (Ev.val (by simp [keyWrong, c2]))
    refine Ev.neg c2 ?_
    by_cases c3 : l[i].f1 > 2
    · exact Ev.pos c3 (Ev.val (by simp [keyWrong, show 2 < l[i].f1 from c3]))
    refine Ev.neg c3 ?_
    rw [w64s hlt (by omega)]
    refine Ev.eq ih ?_
    have : keyWrong a l[i] = false := by
      unfold keyWrong
      rw [decide_eq_false c0, decide_eq_false (show ¬ a ≤ l[i].f0 from c1), decide_eq_false c2, decide_eq_false (show ¬ 2 < l[i].f1 from c3)]
      rfl
    rw [this, Bool.false_or]
end Go.Proofs.YtdojgfkcpaeacaaDoor.Pure

set_option linter.unusedVariables false
set_option linter.unusedSimpArgs false
namespace Go.Proofs.YtdojgfkcpaeacaaDoor.Pure
open Go.RowKit Go.Proofs.YtdojgfkcpaeacaaDoor.Q Go.Proofs.YtdojgfkcpaeacaaDoorW.PrintWords Go.Proofs.YtdojgfkcpaeacaaDoorW.PrintLast Go.Proofs.YtdojgfkcpaeacaaDoorW.PrintMore
open TextPure (nth nth_lt dec point enc nums Pts cut cmpZ)
theorem get_nth (s : ByteArray) (k : Nat) : (s.get! k).toNat = nth s.data.toList k := by
  unfold nth
  congr 1
  rw [List.getD_eq_getElem?_getD, Array.getElem?_toList]
  by_cases h : k < s.data.size
  · rw [Array.getElem?_eq_getElem h]
    exact getElem!_pos s.data k h
  · rw [Array.getElem?_eq_none (by omega)]
    exact getElem!_neg s.data k h
theorem nth_drop (l : List UInt8) (i k : Nat) : nth (l.drop i) k = nth l (i + k) := by simp [nth, List.getD]
theorem decode_drop (s : ByteArray) (i : Nat) : Utf8.decode s i = dec (s.data.toList.drop i) := by
  rw [Lib.decode_at]
  unfold dec
  rw [List.length_drop, dsz, nth_drop, nth_drop, nth_drop, nth_drop, get_nth, get_nth, get_nth, get_nth]
  rfl
theorem decodeGo_dec (s : ByteArray) (h : 0 < s.size) : Lib.decodeGo s = dec s.data.toList := by
  unfold Lib.decodeGo
  rw [if_neg (by omega), decode_drop]; rfl
theorem bt_nth (s : ByteArray) (k : Nat) : bt s (k : Int) = (nth s.data.toList k : Int) := by
  by_cases h : k < s.data.toList.length
  · rw [btn s k h]
    unfold nth
    rw [List.getD_eq_getElem?_getD, List.getElem?_eq_getElem h]; rfl
  · have h2 : ¬ (k : Int).toNat < s.size := by rw [dsz] at h; omega
    unfold bt nth
    rw [dif_neg h2]
    simp only [List.getD_eq_getElem?_getD]
    rw [List.getElem?_eq_none (by omega)]
    rfl
theorem bt0 (s : ByteArray) : bt s 0 = (nth s.data.toList 0 : Int) := bt_nth s 0
theorem bt1 (s : ByteArray) : bt s 1 = (nth s.data.toList 1 : Int) := bt_nth s 1
theorem bt2 (s : ByteArray) : bt s 2 = (nth s.data.toList 2 : Int) := bt_nth s 2
theorem bt3 (s : ByteArray) : bt s 3 = (nth s.data.toList 3 : Int) := bt_nth s 3
theorem dec_range (l : List UInt8) (h : 0 < l.length) : (dec l).1 ≤ 1114111 := by
  have := nth_lt l 0
  rcases TextPure.dec_cases l h with ⟨_, e⟩ | ⟨_, b, _, _, e⟩ | ⟨_, b, _, _, _, _, e⟩ | ⟨_, b, _, _, _, _, _, e⟩ | ⟨_, e⟩ <;> rw [e] <;> simp only <;> omega
theorem point_f (s : ByteArray) (h : 0 < s.size) : text_point.f s = some ((point s.data.toList).1, ((point s.data.toList).2 : Int)) := by
  have hl : 0 < s.data.toList.length := by rw [dsz]; exact h
  have hr := dec_range s.data.toList hl
  have hn := nth_lt s.data.toList 0
  unfold text_point.f utf8_DecodeRuneInString.f
  rw [decodeGo_dec s h, bt0]
  simp only [Option.bind_some]
  unfold point
  by_cases c : (dec s.data.toList).1 = 65533
  · by_cases c2 : (dec s.data.toList).2 ≤ 1
    · rw [if_pos (by omega), if_pos (by omega), if_pos (by omega), if_pos ⟨c, c2⟩, w64 (x := (nth s.data.toList 0 : Int)) (by omega) (by omega), w64 (by omega) (by omega)]; rfl
    · rw [if_pos (by omega), if_neg (by omega), if_neg (fun z => c2 z.2), w64 (by omega) (by omega)]
  · rw [if_neg (by omega), if_neg (fun z => c z.1), w64 (by omega) (by omega)]
theorem points_l0 {l : List UInt8} {ps : List Int} (h : Pts l ps) : ∀ (s : ByteArray) (acc : List Int), s.data.toList = l → acc.length + l.length ≤ 1000000000 → Ev (fun k => text_Points.l0 k s acc) (acc ++ ps) := by
  induction h with
  | nil =>
    intro s acc hs ha
    have hd := dsz s
    rw [hs] at hd
    refine Ev.step (fun k => by rw [text_Points.l0]) ?_
    refine Ev.neg (by simp at hd; omega) ?_
    exact Ev.val (by simp)
  | @cons l ps h hp ih =>
    intro s acc hs ha
    have hd := dsz s
    rw [hs] at hd
    have hw := TextPure.point_width l h
    refine Ev.step (fun k => by rw [text_Points.l0]) ?_
    refine Ev.pos (by omega) ?_
    refine Ev.bind (Ev.c (point_f s (by omega))) ?_
    rw [hs]
    dsimp only
    refine Ev.pos (by omega) ?_
    refine Ev.pos (by omega) ?_
    refine Ev.pos (by omega) ?_
    have h2 := ih (s.extract (point l).2 s.size) (acc ++ [(point l).1]) (by rw [cut_from, hs]) (by rw [List.length_append, List.length_drop]; simp only [List.length_singleton]; omega)
    rw [List.append_assoc] at h2
    rw [show (((point l).2 : Int)).toNat = (point l).2 by omega]
    exact h2
theorem points_ev {s : ByteArray} {ps : List Int} (h : Pts s.data.toList ps) (hs : s.size ≤ 1000000) : Ev (fun k => text_Points.f k s) ps := points_l0 h s [] rfl (by rw [dsz]; simp; omega)
theorem pts (s : ByteArray) : ∃ ps, Pts s.data.toList ps := TextPure.pts_exists _ _ rfl
theorem bytesOf_nums (s : ByteArray) : bytesOf s = nums s.data.toList := rfl
def fold (s : ByteArray) : ByteArray := strOfNums ((bytesOf s).map low)
theorem fold_f (s : ByteArray) (hs : s.size ≤ 1000000) : text_Fold.f s = some (fold s) := by
  unfold text_Fold.f
  rw [if_pos (by omega)]; rfl
theorem low_byte {x : Int} (h0 : 0 ≤ x) (h1 : x ≤ 255) : 0 ≤ low x ∧ low x ≤ 255 := by
  unfold low
  split
  · split <;> omega
  · omega
theorem nums_range (l : List UInt8) : ∀ x ∈ nums l, 0 ≤ x ∧ x ≤ 255 := by
  intro x hx
  obtain ⟨b, _, rfl⟩ := List.mem_map.1 hx
  have := b.toNat_lt
  omega
theorem bytesOf_strOf (xs : List Int) (h : ∀ x ∈ xs, 0 ≤ x ∧ x ≤ 255) : bytesOf (strOfNums xs) = xs := by
  rw [bytesOf_nums, strOf_list]
  unfold TextPure.nums
  rw [List.map_map]
  refine (List.map_congr_left fun x hx => ?_).trans (List.map_id _)
  have := h x hx
  simp only [Function.comp, UInt8.toNat_ofNat', id]
  omega
theorem low_range (l : List UInt8) : ∀ x ∈ (nums l).map low, 0 ≤ x ∧ x ≤ 255 := by
  intro x hx
  obtain ⟨y, hy, rfl⟩ := List.mem_map.1 hx
  have := nums_range l y hy
  exact low_byte this.1 this.2
theorem fold_size (s : ByteArray) : (fold s).size = s.size := by
  unfold fold
  rw [← dsz, strOf_list, List.length_map, List.length_map, bytesOf_length]
theorem cmpZ_vals : ∀ a b, cmpZ a b = -1 ∨ cmpZ a b = 0 ∨ cmpZ a b = 1
  | [], [] => by simp [cmpZ]
  | [], _ :: _ => by simp [cmpZ]
  | _ :: _, [] => by simp [cmpZ]
  | x :: a, y :: b => by
    have ih := cmpZ_vals a b
    unfold cmpZ
    split
    · simp
    · split
      · simp
      · exact ih
theorem less_cmp : ∀ x y : List UInt8, Op.bytesLess x y = decide (cmpZ (nums x) (nums y) = -1)
  | [], [] => by simp [Op.bytesLess, cmpZ, TextPure.nums]
  | [], _ :: _ => by simp [Op.bytesLess, cmpZ, TextPure.nums]
  | _ :: _, [] => by simp [Op.bytesLess, cmpZ, TextPure.nums]
  | a :: x, b :: y => by
    have ih := less_cmp x y
    have e1 : nums (a :: x) = (a.toNat : Int) :: nums x := rfl
    have e2 : nums (b :: y) = (b.toNat : Int) :: nums y := rfl
    rw [Op.bytesLess, e1, e2, cmpZ, ih]
    rcases Nat.lt_trichotomy a.toNat b.toNat with h | h | h
    · have h1 : a < b := h
      rw [if_pos (by omega)]; simp [h1]
    · obtain rfl : a = b := UInt8.toNat_inj.1 h
      have h1 : ¬ a < a := fun z => Nat.lt_irrefl _ z
      rw [if_neg (by omega), if_neg (by omega)]; simp [h1]
    · have h1 : ¬ a < b := fun z => Nat.lt_asymm h z
      have h3 : ¬ a = b := fun z => by subst z; exact Nat.lt_irrefl _ h
      rw [if_neg (by omega), if_pos (by omega)]; simp [h1, h3]
theorem nan_f (a : ByteArray) : cmp_isNaN_string.f a = some false := by simp [cmp_isNaN_string.f]
theorem cmps_f (a b : ByteArray) : cmp_Compare_string.f a b = some (cmpZ (nums a.data.toList) (nums b.data.toList)) := by
  unfold cmp_Compare_string.f
  rw [nan_f, nan_f]
  simp only [Option.bind_some]
  rw [if_neg (by simp), if_neg (by simp), tl, tl, less_cmp, less_cmp, TextPure.cmpZ_turn (nums a.data.toList)]
  rcases cmpZ_vals (nums a.data.toList) (nums b.data.toList) with h | h | h <;> rw [h] <;> simp
theorem byfold_f (a b : ByteArray) (ha : a.size ≤ 1000000) (hb : b.size ≤ 1000000) : text_ByFold.f a b = some (cmpZ (nums (fold a).data.toList) (nums (fold b).data.toList)) := by
  unfold text_ByFold.f
  rw [fold_f a ha, fold_f b hb]
  simp only [Option.bind_some]
  rw [cmps_f]; rfl
theorem nani_f (a : Int) : cmp_isNaN_int.f a = some false := by simp [cmp_isNaN_int.f]
theorem cmpi_f (a b : Int) : cmp_Compare_int.f a b = some (if a < b then -1 else if a > b then 1 else 0) := by
  unfold cmp_Compare_int.f
  rw [nani_f, nani_f]
  simp only [Option.bind_some]
  rw [if_neg (by simp), if_neg (by simp)]
  split
  · rfl
  · split <;> rfl
theorem scmp_l0 (a b : List Int) (ha : a.length ≤ 1000000) : ∀ (n i : Nat), a.length - i = n → i ≤ a.length → i ≤ b.length → Ev (fun k => slices_Compare_int_int.l0 k a b a (a.length : Int) (i : Int)) (cmpZ (a.drop i) (b.drop i)) := by
  intro n
  induction n with
  | zero =>
    intro i hn h1 h2
    refine Ev.step (fun k => by rw [slices_Compare_int_int.l0]) ?_
    refine Ev.neg (by omega) ?_
    rw [List.drop_eq_nil_of_le (by omega : a.length ≤ i)]
    by_cases c2 : b.length = i
    · rw [List.drop_eq_nil_of_le (by omega : b.length ≤ i)]
      refine Ev.neg (by omega) ?_
      exact Ev.val rfl
    · rw [drop_at b i (by omega)]
      refine Ev.pos (by omega) ?_
      exact Ev.val rfl
  | succ n ih =>
    intro i hn h1 h2
    have l1 : i < a.length := by omega
    refine Ev.step (fun k => by rw [slices_Compare_int_int.l0]) ?_
    refine Ev.pos (by omega) ?_
    refine Ev.pos (by omega) ?_
    refine Ev.pos (by omega) ?_
    by_cases c : (i : Int) ≥ (b.length : Int)
    · rw [List.drop_eq_nil_of_le (by omega : b.length ≤ i), drop_at a i l1]
      refine Ev.pos c ?_
      exact Ev.val rfl
    · have l2 : i < b.length := by omega
      refine Ev.neg c ?_
      refine Ev.pos (by omega) ?_
      rw [rdn a i l1, rdn b i l2, w64s (n := a.length) (by omega) (by omega), drop_at a i l1, drop_at b i l2, cmpZ]
      refine Ev.bind (Ev.c (cmpi_f _ _)) ?_
      by_cases d1 : a[i] < b[i]
      · rw [if_pos d1, if_pos d1]
        refine Ev.neg (by omega) ?_
        exact Ev.val rfl
      · rw [if_neg d1, if_neg d1]
        by_cases d2 : a[i] > b[i]
        · rw [if_pos d2, if_pos d2]
          refine Ev.neg (by omega) ?_
          exact Ev.val rfl
        · rw [if_neg d2, if_neg d2]
          refine Ev.pos rfl ?_
          exact ih (i + 1) (by omega) (by omega) (by omega)
theorem bypoints_ev {a b : ByteArray} {ps qs : List Int} (h : Pts a.data.toList ps) (h2 : Pts b.data.toList qs) (ha : a.size ≤ 100000) (hb : b.size ≤ 100000) : Ev (fun k => text_ByPoints.f k a b) (cmpZ ps qs) := by
  have hl := h.length_le
  rw [dsz] at hl
  unfold text_ByPoints.f
  refine Ev.bind (points_ev h (by omega)) ?_
  refine Ev.bind (points_ev h2 (by omega)) ?_
  have e := scmp_l0 ps qs (by omega) ps.length 0 rfl (by omega) (by omega)
  refine Ev.bind (a := cmpZ ps qs) (by unfold slices_Compare_int_int.f; exact e) ?_
  exact Ev.val rfl
end Go.Proofs.YtdojgfkcpaeacaaDoor.Pure

set_option linter.unusedVariables false
set_option linter.unusedSimpArgs false
namespace Go.Proofs.YtdojgfkcpaeacaaDoor.Pure
open Go.RowKit Go.Proofs.YtdojgfkcpaeacaaDoor.Q Go.Proofs.YtdojgfkcpaeacaaDoorW.PrintWords Go.Proofs.YtdojgfkcpaeacaaDoorW.PrintLast Go.Proofs.YtdojgfkcpaeacaaDoorW.PrintMore
open TextPure (nth nth_lt dec point enc nums Pts cut cmpZ)
theorem Ev.same {α : Type} {g : Nat → Option α} {a b : α} (h : Ev g a) (h2 : Ev g b) : a = b := by
  obtain ⟨K, h⟩ := h
  obtain ⟨K2, h2⟩ := h2
  have e1 := h (max K K2) (Nat.le_max_left _ _)
  have e2 := h2 (max K K2) (Nat.le_max_right _ _)
  exact Option.some.inj (e1.symm.trans e2)
def Tri (r : Int) : Prop := r = -1 ∨ r = 0 ∨ r = 1
theorem Tri.neg {r : Int} (h : Tri r) : Tri (-r) := by unfold Tri at h ⊢; omega
theorem Tri.w {r : Int} (h : Tri r) : wrap64 (-r) = -r := by unfold Tri at h; exact w64 (by omega) (by omega)
theorem rank_f (b : Bool) (s : ByteArray) : order_rank.f b s = some (if b = true then 0 else 1) := by unfold order_rank.f; split <;> rfl
theorem j0_null (c : Int) (x y : S36) : Ev (fun k => order_values.j0 k c true x.f0 x.f1 y.f0 y.f1) (if (if x.f0 = true then (0 : Int) else 1) < (if y.f0 = true then (0 : Int) else 1) then -1 else if (if x.f0 = true then (0 : Int) else 1) > (if y.f0 = true then (0 : Int) else 1) then 1 else 0) := by
  refine Ev.step (fun k => by rw [order_values.j0]) ?_
  refine Ev.pos rfl ?_
  refine Ev.bind (Ev.c (rank_f _ _)) ?_
  refine Ev.bind (Ev.c (rank_f _ _)) ?_
  refine Ev.bind (Ev.c (cmpi_f _ _)) ?_
  exact Ev.val rfl
theorem values_ev (x y : S36) (c : Int) (hx : x.f1.size ≤ 1000) (hy : y.f1.size ≤ 1000) : ∃ r, Tri r ∧ Ev (fun k => order_values.f k x.f0 x.f1 y.f0 y.f1 c) r ∧ Ev (fun k => order_values.f k y.f0 y.f1 x.f0 x.f1 c) (-r) := by
  by_cases hn : x.f0 = true ∨ y.f0 = true
  · refine ⟨if (if x.f0 = true then (0 : Int) else 1) < (if y.f0 = true then (0 : Int) else 1) then -1 else if (if x.f0 = true then (0 : Int) else 1) > (if y.f0 = true then (0 : Int) else 1) then 1 else 0, ?_, ?_, ?_⟩
    · unfold Tri; cases x.f0 <;> cases y.f0 <;> simp
    · unfold order_values.f
      by_cases h : x.f0 = true
      · exact Ev.pos h (j0_null c x y)
      · refine Ev.neg h ?_
        have h2 : y.f0 = true := hn.resolve_left h
        have := j0_null c x y
        rw [h2] at this ⊢
        exact this
    · have := j0_null c y x
      unfold order_values.f
      have e : (if (if y.f0 = true then (0 : Int) else 1) < (if x.f0 = true then (0 : Int) else 1) then (-1 : Int) else if (if y.f0 = true then (0 : Int) else 1) > (if x.f0 = true then (0 : Int) else 1) then 1 else 0) =
          -(if (if x.f0 = true then (0 : Int) else 1) < (if y.f0 = true then (0 : Int) else 1) then (-1 : Int) else if (if x.f0 = true then (0 : Int) else 1) > (if y.f0 = true then (0 : Int) else 1) then 1 else 0) := by cases x.f0 <;> cases y.f0 <;> simp
      rw [e] at this
      by_cases h : y.f0 = true
      · exact Ev.pos h this
      · refine Ev.neg h ?_
        have h2 : x.f0 = true := hn.resolve_right h
        rw [h2] at this ⊢
        exact this
  · have h1 : ¬ x.f0 = true := fun h => hn (.inl h)
    have h2 : ¬ y.f0 = true := fun h => hn (.inr h)
    have e1 : x.f0 = false := by simpa using h1
    have e2 : y.f0 = false := by simpa using h2
    obtain ⟨ps, hp⟩ := pts x.f1
    obtain ⟨qs, hq⟩ := pts y.f1
    have go : ∀ (u v : S36), u.f0 = false → v.f0 = false → ∀ r, (c = 1 → text_ByFold.f u.f1 v.f1 = some r) → (c ≠ 1 → c = 2 → Ev (fun k => text_ByPoints.f k u.f1 v.f1) r) → (c ≠ 1 → c ≠ 2 → cmp_Compare_string.f u.f1 v.f1 = some r) → Ev (fun k => order_values.f k u.f0 u.f1 v.f0 v.f1 c) r := fun u v hu hv r k1 k2 k3 => by
      unfold order_values.f
      refine Ev.neg (by simp [hu]) ?_
      rw [hv]
      refine Ev.step (fun k => by rw [order_values.j0]) ?_
      refine Ev.neg (by simp) ?_
      by_cases c1 : c = 1
      · exact Ev.pos c1 (Ev.bind (Ev.c (k1 c1)) (Ev.val rfl))
      refine Ev.neg c1 ?_
      by_cases c2 : c = 2
      · exact Ev.pos c2 (Ev.bind (k2 c1 c2) (Ev.val rfl))
      · exact Ev.neg c2 (Ev.bind (Ev.c (k3 c1 c2)) (Ev.val rfl))
    by_cases c1 : c = 1
    · refine ⟨cmpZ (nums (fold x.f1).data.toList) (nums (fold y.f1).data.toList), cmpZ_vals _ _, go x y e1 e2 _ (fun _ => byfold_f _ _ (by omega) (by omega)) (fun h => absurd c1 h) (fun h => absurd c1 h), ?_⟩
      rw [← TextPure.cmpZ_turn]
      exact go y x e2 e1 _ (fun _ => byfold_f _ _ (by omega) (by omega)) (fun h => absurd c1 h) (fun h => absurd c1 h)
    by_cases c2 : c = 2
    · refine ⟨cmpZ ps qs, cmpZ_vals _ _, go x y e1 e2 _ (fun h => absurd h c1) (fun _ _ => bypoints_ev hp hq (by omega) (by omega)) (fun _ h => absurd c2 h), ?_⟩
      rw [← TextPure.cmpZ_turn]
      exact go y x e2 e1 _ (fun h => absurd h c1) (fun _ _ => bypoints_ev hq hp (by omega) (by omega)) (fun _ h => absurd c2 h)
    · refine ⟨cmpZ (nums x.f1.data.toList) (nums y.f1.data.toList), cmpZ_vals _ _, go x y e1 e2 _ (fun h => absurd h c1) (fun _ h => absurd h c2) (fun _ _ => cmps_f _ _), ?_⟩
      rw [← TextPure.cmpZ_turn]
      exact go y x e2 e1 _ (fun h => absurd h c1) (fun _ h => absurd h c2) (fun _ _ => cmps_f _ _)
def turn (x : S39) : S39 := ⟨x.f0, x.f1, !x.f2⟩
theorem compare_l0 (a b : List S36) (keys : List S39) (hk : keys.length ≤ 8) (he : a.length = b.length) (ha : ∀ v ∈ a, v.f1.size ≤ 1000) (hb : ∀ v ∈ b, v.f1.size ≤ 1000) (hc : ∀ x ∈ keys, 0 ≤ x.f0 ∧ x.f0 < (a.length : Int)) :
    ∀ (n i : Nat), keys.length - i = n → i ≤ keys.length → ∃ r, Tri r ∧ Ev (fun k => order_Compare.l0 k a b keys (keys.length : Int) (i : Int)) r ∧ Ev (fun k => order_Compare.l0 k b a keys (keys.length : Int) (i : Int)) (-r) ∧ Ev (fun k => order_Compare.l0 k a b (keys.map turn) (keys.length : Int) (i : Int)) (-r)
  | 0, i, hi, hil => by
    have stop : ∀ (u v : List S36) (ks : List S39), Ev (fun k => order_Compare.l0 k u v ks (keys.length : Int) (i : Int)) 0 := fun u v ks => by
      refine Ev.step (fun k => by rw [order_Compare.l0]) ?_
      refine Ev.neg (by omega) ?_
      exact Ev.val rfl
    exact ⟨0, .inr (.inl rfl), stop _ _ _, by rw [Int.neg_zero]; exact stop _ _ _, by rw [Int.neg_zero]; exact stop _ _ _⟩
  | n + 1, i, hi, hil => by
    have hlt : i < keys.length := by omega
    obtain ⟨q, hq, q1, q2, q3⟩ := compare_l0 a b keys hk he ha hb hc n (i + 1) (by omega) (by omega)
    have hr1 := rd39 keys i hlt
    have hr2 : rd_T39 (keys.map turn) (i : Int) = turn keys[i] := by rw [rd39 _ i (by simpa using hlt)]; simp
    obtain ⟨c0, c1⟩ := hc _ (List.getElem_mem hlt)
    generalize keys[i] = key at hr1 hr2 c0 c1
    obtain ⟨m, hm⟩ : ∃ m : Nat, key.f0 = (m : Int) := ⟨key.f0.toNat, by omega⟩
    have hma : m < a.length := by omega
    have hmb : m < b.length := by omega
    have hA := rd36 a m hma
    have hB := rd36 b m hmb
    obtain ⟨r, hr, r1, r2⟩ := values_ev a[m] b[m] key.f1 (ha _ (List.getElem_mem hma)) (hb _ (List.getElem_mem hmb))
    generalize a[m] = xa at hA r1 r2
    generalize b[m] = xb at hB r1 r2
    have nx := w64s hlt (by omega)
    rw [← nx] at q1 q2 q3
    have hw := hr.w
    have hw2 := hr.neg.w
    have one : ∀ (u v : List S36) (ks : List S39) (kx : S39) (s t : Int) (yu yv : S36), rd_T39 ks (i : Int) = kx → kx.f0 = (m : Int) → kx.f1 = key.f1 → ks.length = keys.length → m < u.length → m < v.length → rd_T36 u (m : Int) = yu → rd_T36 v (m : Int) = yv →
        Ev (fun k => order_values.f k yu.f0 yu.f1 yv.f0 yv.f1 key.f1) s → Tri s → Ev (fun k => order_Compare.l0 k u v ks (keys.length : Int) (wrap64 ((i : Int) + 1))) t →
        Ev (fun k => order_Compare.l0 k u v ks (keys.length : Int) (i : Int)) (if s = 0 then t else if kx.f2 = true then -s else s) := fun u v ks kx s t yu yv h1 h2 h3 h4 h5 h6 h7 h8 hs hT ht => by
      refine Ev.step (fun k => by rw [order_Compare.l0]) ?_
      rw [h1, h2, h3, h7, h8, h4]
      refine Ev.pos (by omega) ?_
      refine Ev.pos (by omega) ?_
      refine Ev.pos (by omega) ?_
      refine Ev.pos (by omega) ?_
      refine Ev.pos (by omega) ?_
      refine Ev.pos (by omega) ?_
      refine Ev.bind hs ?_
      have hsw := hT.w
      by_cases cd : kx.f2 = true
      · refine Ev.pos cd ?_
        rw [hsw]
        by_cases cz : s = 0
        · rw [if_pos cz]; exact Ev.pos (by omega) ht
        · rw [if_neg cz, if_pos cd]; exact Ev.neg (by omega) (Ev.val rfl)
      · refine Ev.neg cd ?_
        by_cases cz : s = 0
        · rw [if_pos cz]; exact Ev.pos cz ht
        · rw [if_neg cz, if_neg cd]; exact Ev.neg cz (Ev.val rfl)
    have o1 := one a b keys key r q xa xb hr1 hm rfl rfl hma hmb hA hB r1 hr q1
    have o2 := one b a keys key (-r) (-q) xb xa hr1 hm rfl rfl hmb hma hB hA r2 hr.neg q2
    have o3 := one a b (keys.map turn) (turn key) r (-q) xa xb hr2 hm rfl (by simp) hma hmb hA hB r1 hr q3
    refine ⟨_, ?_, o1, Ev.eq o2 ?_, Ev.eq o3 ?_⟩
    · unfold Tri at hq hr ⊢
      by_cases cz : r = 0
      · rw [if_pos cz]; exact hq
      · rw [if_neg cz]
        cases key.f2 <;> simp <;> omega
    · by_cases cz : r = 0
      · rw [if_pos cz, if_pos (by omega)]
      · rw [if_neg cz, if_neg (by omega)]
        cases key.f2 <;> simp
    · unfold turn
      by_cases cz : r = 0
      · rw [if_pos cz, if_pos cz]
      · rw [if_neg cz, if_neg cz]
        cases key.f2 <;> simp
theorem turned_l0 (a b : List S36) (keys : List S39) (hk : keys.length ≤ 8) (r : Bool) (h : Ev (fun k => hopperlaw24_OrderTurns.l0 k a b keys (keys.map turn) (keys.length : Int)) r) :
    ∀ (n i : Nat), keys.length - i = n → i ≤ keys.length → Ev (fun k => hopperlaw24_OrderTurns.l0 k a b keys ((keys.take i).map turn) (i : Int)) r
  | 0, i, hi, hil => by
    rw [List.take_of_length_le (by omega), show i = keys.length by omega]
    exact h
  | n + 1, i, hi, hil => by
    have hlt : i < keys.length := by omega
    have ih := turned_l0 a b keys hk r h n (i + 1) (by omega) (by omega)
    refine Ev.step (fun k => by rw [hopperlaw24_OrderTurns.l0]) ?_
    refine Ev.pos (by omega) ?_
    refine Ev.pos (by omega) ?_
    refine Ev.pos (by rw [List.length_map, List.length_take]; omega) ?_
    rw [w64s hlt (by omega), rd39 keys i hlt]
    rw [List.take_succ_eq_append_getElem hlt, List.map_append] at ih
    exact ih
theorem OrderTurns : hopperlaw24_OrderTurns.Pure := by
  intro a b keys ha hb hks
  refine Ev.rounds ?_
  unfold hopperlaw24_OrderTurns.f
  have bad : Ev (fun k => hopperlaw24_OrderTurns.j0 k a b keys true) true := Ev.step (fun k => by rw [hopperlaw24_OrderTurns.j0]) (Ev.pos rfl (Ev.bind awake_ev (Ev.val rfl)))
  refine Ev.bind awake_ev ?_
  refine Ev.pos rfl ?_
  by_cases c1 : (a.length : Int) < 1
  · exact Ev.pos c1 bad
  refine Ev.neg c1 ?_
  by_cases c2 : (a.length : Int) > 8
  · exact Ev.pos c2 bad
  refine Ev.neg c2 ?_
  by_cases c3 : (a.length : Int) = (b.length : Int)
  case neg => exact Ev.neg c3 bad
  refine Ev.pos c3 ?_
  obtain ⟨g, hg, hs⟩ := rows_ev [a, b] (a.length : Int)
  refine Ev.bind hg ?_
  cases g with
  | false => exact Ev.neg (by simp) bad
  | true =>
    have S := hs rfl
    refine Ev.pos rfl ?_
    have hmx : keys.length ≤ 9223372036854775807 := by have := hks.1; unfold maxLen at this; omega
    have hright := right_l0 keys (a.length : Int) hmx _ 0 rfl (Nat.zero_le _)
    rw [List.drop_zero] at hright
    refine Ev.bind (a := decide ((keys.length : Int) ≤ 8) && !(keys.any (keyWrong (a.length : Int)))) ?_ ?_
    · unfold hopperref24_Right.f
      exact hright
    by_cases hok : (decide ((keys.length : Int) ≤ 8) && !(keys.any (keyWrong (a.length : Int)))) = true
    case neg =>
      rw [Bool.eq_false_iff.mpr hok]
      exact bad
    rw [hok]
    rw [Bool.and_eq_true, Bool.not_eq_true', List.any_eq_false] at hok
    obtain ⟨h8, hw⟩ := hok
    have h8 := of_decide_eq_true h8
    have hc : ∀ x ∈ keys, 0 ≤ x.f0 ∧ x.f0 < (a.length : Int) := fun x hx => by
      have := hw x hx
      unfold keyWrong at this
      simp only [Bool.or_eq_true, decide_eq_true_eq, not_or] at this
      omega
    have hsa : ∀ v ∈ a, v.f1.size ≤ 1000 := fun v hv => by have := ((S.row a (by simp)).2 v hv).1; omega
    have hsb : ∀ v ∈ b, v.f1.size ≤ 1000 := fun v hv => by have := ((S.row b (by simp)).2 v hv).1; omega
    obtain ⟨r, hr, r1, r2, r3⟩ := compare_l0 a b keys (by omega) (by omega) hsa hsb hc _ 0 rfl (Nat.zero_le _)
    obtain ⟨s, hs', s1, s2, _⟩ := compare_l0 a a keys (by omega) rfl hsa hsa hc _ 0 rfl (Nat.zero_le _)
    have hz : s = 0 := by have := Ev.same s1 s2; omega
    refine Ev.step (fun k => by rw [hopperlaw24_OrderTurns.j0]) ?_
    refine Ev.neg (by simp) ?_
    have := turned_l0 a b keys (by omega) true ?_ _ 0 rfl (Nat.zero_le _)
    · exact this
    refine Ev.step (fun k => by rw [hopperlaw24_OrderTurns.l0]) ?_
    refine Ev.neg (by omega) ?_
    refine Ev.bind (a := r) r1 ?_
    refine Ev.bind (a := -r) r2 ?_
    rw [hr.w]
    refine Ev.pos rfl ?_
    refine Ev.bind (a := -r) ?_ ?_
    · unfold order_Compare.f
      rw [List.length_map]
      exact r3
    refine Ev.pos rfl ?_
    refine Ev.bind (a := s) s1 ?_
    exact Ev.val (by simp [hz])
end Go.Proofs.YtdojgfkcpaeacaaDoor.Pure
