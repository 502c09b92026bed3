/- What the references compute that compare strings: points, folds, orders. -/
import Derived.Test.YtdccooaddoafnaaGreatDoorHCmpEv
set_option linter.unusedVariables false
set_option linter.unusedSimpArgs false
namespace Go.Proofs.YtdccooaddoafnaaGreatDoor.Pure
open Go.RowKit Go.Proofs.YtdccooaddoafnaaGreatDoor.Q Go.Proofs.YtdccooaddoafnaaGreatDoorW.PrintWords Go.Proofs.YtdccooaddoafnaaGreatDoorW.PrintLast Go.Proofs.YtdccooaddoafnaaGreatDoorW.PrintMore
open TextPure (nth nth_lt dec point enc nums Pts cut cmpZ)
def T (x : Int) : Prop := 128 ≤ x ∧ x < 192
instance T_dec (x : Int) : Decidable (T x) := by unfold T; infer_instance
theorem tail_f (x : Int) : hopperref08_tail.f x = some (decide (T x)) := by
  unfold hopperref08_tail.f
  by_cases h : x ≥ 128
  · rw [if_pos h]
    by_cases h2 : x < 192
    · rw [decide_eq_true h2, decide_eq_true (show T x from ⟨h, h2⟩)]
    · rw [decide_eq_false h2, decide_eq_false (fun z : T x => h2 z.2)]
  · rw [if_neg h, decide_eq_false (fun z : T x => h z.1)]
theorem v2 (c a : Int) (h0 : 0 ≤ c ∧ c ≤ 255) (h1 : 0 ≤ a ∧ a ≤ 255) : wrap64 ((wrap64 ((wrap64 ((wrap64 (c - 192)) * 64)) + (wrap64 a))) - 128) = (c - 192) * 64 + a - 128 := by
  rw [w64 (x := c - 192) (by omega) (by omega), w64 (x := (c - 192) * 64) (by omega) (by omega), w64 (x := a) (by omega) (by omega), w64 (x := (c - 192) * 64 + a) (by omega) (by omega), w64 (by omega) (by omega)]
theorem v3 (c a b : Int) (h0 : 0 ≤ c ∧ c ≤ 255) (h1 : 0 ≤ a ∧ a ≤ 255) (h2 : 0 ≤ b ∧ b ≤ 255) : wrap64 ((wrap64 ((wrap64 ((wrap64 ((wrap64 (c - 224)) * 4096)) + (wrap64 ((wrap64 ((wrap64 a) - 128)) * 64)))) + (wrap64 b))) - 128) = (c - 224) * 4096 + (a - 128) * 64 + b - 128 := by
  rw [w64 (x := c - 224) (by omega) (by omega), w64 (x := (c - 224) * 4096) (by omega) (by omega), w64 (x := a) (by omega) (by omega), w64 (x := a - 128) (by omega) (by omega), w64 (x := (a - 128) * 64) (by omega) (by omega), w64 (x := (c - 224) * 4096 + (a - 128) * 64) (by omega) (by omega), w64 (x := b) (by omega) (by omega), w64 (x := (c - 224) * 4096 + (a - 128) * 64 + b) (by omega) (by omega), w64 (by omega) (by omega)]
theorem v4 (c a b d : Int) (h0 : 0 ≤ c ∧ c ≤ 255) (h1 : 0 ≤ a ∧ a ≤ 255) (h2 : 0 ≤ b ∧ b ≤ 255) (h3 : 0 ≤ d ∧ d ≤ 255) :
    wrap64 ((wrap64 ((wrap64 ((wrap64 ((wrap64 ((wrap64 (c - 240)) * 262144)) + (wrap64 ((wrap64 ((wrap64 a) - 128)) * 4096)))) + (wrap64 ((wrap64 ((wrap64 b) - 128)) * 64)))) + (wrap64 d))) - 128) = (c - 240) * 262144 + (a - 128) * 4096 + (b - 128) * 64 + d - 128 := by
  rw [w64 (x := c - 240) (by omega) (by omega), w64 (x := (c - 240) * 262144) (by omega) (by omega), w64 (x := a) (by omega) (by omega), w64 (x := a - 128) (by omega) (by omega), w64 (x := (a - 128) * 4096) (by omega) (by omega), w64 (x := (c - 240) * 262144 + (a - 128) * 4096) (by omega) (by omega), w64 (x := b) (by omega) (by omega), w64 (x := b - 128) (by omega) (by omega), w64 (x := (b - 128) * 64) (by omega) (by omega), w64 (x := (c - 240) * 262144 + (a - 128) * 4096 + (b - 128) * 64) (by omega) (by omega), w64 (x := d) (by omega) (by omega), w64 (x := (c - 240) * 262144 + (a - 128) * 4096 + (b - 128) * 64 + d) (by omega) (by omega), w64 (by omega) (by omega)]
/-- The reference's first point, by its bytes. -/
def R4 (n c a b d : Int) : Int × Int := if (240 ≤ c ∧ c < 245) ∧ 3 < n ∧ T a ∧ T b ∧ T d ∧ 65536 ≤ (c - 240) * 262144 + (a - 128) * 4096 + (b - 128) * 64 + d - 128 ∧ (c - 240) * 262144 + (a - 128) * 4096 + (b - 128) * 64 + d - 128 ≤ 1114111 then ((c - 240) * 262144 + (a - 128) * 4096 + (b - 128) * 64 + d - 128, 4) else (1114112 + c, 1)
def R3 (n c a b d : Int) : Int × Int := if (224 ≤ c ∧ c < 240) ∧ 2 < n ∧ T a ∧ T b ∧ 2048 ≤ (c - 224) * 4096 + (a - 128) * 64 + b - 128 ∧ ((c - 224) * 4096 + (a - 128) * 64 + b - 128 < 55296 ∨ (c - 224) * 4096 + (a - 128) * 64 + b - 128 > 57343) then ((c - 224) * 4096 + (a - 128) * 64 + b - 128, 3) else R4 n c a b d
def R2 (n c a b d : Int) : Int × Int := if (194 ≤ c ∧ c < 224) ∧ 1 < n ∧ T a then ((c - 192) * 64 + a - 128, 2) else R3 n c a b d
theorem R_point (l : List UInt8) (h : 0 < l.length) : (if (nth l 0 : Int) < 128 then ((nth l 0 : Int), 1) else R2 l.length (nth l 0) (nth l 1) (nth l 2) (nth l 3)) = ((point l).1, ((point l).2 : Int)) := by
  have n0 := nth_lt l 0
  have n1 := nth_lt l 1
  have n2 := nth_lt l 2
  have n3 := nth_lt l 3
  rcases TextPure.point_cases l h with ⟨a, e⟩ | ⟨a, b, c, d, e⟩ | ⟨a, b, c, d, d2, d3, e⟩ | ⟨a, b, c, d, d2, d3, d4, e⟩ | ⟨a, e', e⟩ <;> rw [e]
  · rw [if_pos (by omega)]; rfl
  · rw [if_neg (by omega)]
    unfold R2
    rw [if_pos (by unfold T; omega)]
    refine Prod.ext ?_ rfl
    simp only; omega
  · rw [if_neg (by omega)]
    unfold R2
    rw [if_neg (by omega)]
    unfold R3
    rw [if_pos (by unfold T; omega)]
    refine Prod.ext ?_ rfl
    simp only; omega
  · rw [if_neg (by omega)]
    unfold R2
    rw [if_neg (by omega)]
    unfold R3
    rw [if_neg (by omega)]
    unfold R4
    rw [if_pos (by unfold T; omega)]
    refine Prod.ext ?_ rfl
    simp only; omega
  · have e4 : Lib.decodeN l.length (nth l 0) (nth l 1) (nth l 2) (nth l 3) = (65533, 1) := e'
    rw [if_neg (by omega)]
    unfold R2
    rw [if_neg (fun z => by
      unfold T at z
      rw [TextPure.dN2 (by omega) (by omega) (by omega) (by omega)] at e4
      simp at e4)]
    unfold R3
    rw [if_neg (fun z => by
      unfold T at z
      rw [TextPure.dN3 (by omega) (by omega) (by omega) (by omega) (by omega) (by omega)] at e4
      simp at e4)]
    unfold R4
    rw [if_neg (fun z => by
      unfold T at z
      rw [TextPure.dN4 (by omega) (by omega) (by omega) (by omega) (by omega) (by omega) (by omega)] at e4
      simp at e4)]
    rfl
theorem j3_ev (s : ByteArray) (c : Int) (h0 : 240 ≤ c ∧ c < 245) (hn : 3 < s.size) (ha : T (bt s 1)) (hb : T (bt s 2)) : Ev (fun k => hopperref08_Point.j3 k s c (decide (T (bt s 3)))) (R4 s.size c (bt s 1) (bt s 2) (bt s 3)) := by
  have b1 := bt_range s 1
  have b2 := bt_range s 2
  have b3 := bt_range s 3
  refine Ev.step (fun k => by rw [hopperref08_Point.j3]) ?_
  rw [v4 c (bt s 1) (bt s 2) (bt s 3) (by omega) (by omega) (by omega) (by omega), w64 (x := 1114112 + c) (by omega) (by omega)]
  unfold R4
  by_cases hd : T (bt s 3)
  · rw [decide_eq_true hd]
    refine Ev.pos rfl ?_
    refine Ev.pos (by omega) ?_
    refine Ev.pos (by omega) ?_
    refine Ev.pos (by omega) ?_
    by_cases h4 : (c - 240) * 262144 + (bt s 1 - 128) * 4096 + (bt s 2 - 128) * 64 + bt s 3 - 128 ≥ 65536
    · refine Ev.pos h4 ?_
      by_cases h5 : (c - 240) * 262144 + (bt s 1 - 128) * 4096 + (bt s 2 - 128) * 64 + bt s 3 - 128 ≤ 1114111
      · refine Ev.pos h5 ?_
        exact Ev.val (by rw [if_pos ⟨h0, by omega, ha, hb, hd, h4, h5⟩])
      · refine Ev.neg h5 ?_
        exact Ev.val (by rw [if_neg (fun z => h5 z.2.2.2.2.2.2)])
    · refine Ev.neg h4 ?_
      exact Ev.val (by rw [if_neg (fun z => h4 z.2.2.2.2.2.1)])
  · rw [decide_eq_false hd]
    refine Ev.neg (by simp) ?_
    exact Ev.val (by rw [if_neg (fun z => hd z.2.2.2.2.1)])
theorem j3_no (s : ByteArray) (c : Int) (h0 : 0 ≤ c ∧ c ≤ 255) : Ev (fun k => hopperref08_Point.j3 k s c false) (1114112 + c, 1) := by
  refine Ev.step (fun k => by rw [hopperref08_Point.j3]) ?_
  refine Ev.neg (by simp) ?_
  exact Ev.val (by rw [w64 (by omega) (by omega)])
theorem j2_ev (s : ByteArray) (c : Int) (h0 : 0 ≤ c ∧ c ≤ 255) : Ev (fun k => hopperref08_Point.j2 k s c) (R4 s.size c (bt s 1) (bt s 2) (bt s 3)) := by
  have no : ¬ ((240 ≤ c ∧ c < 245) ∧ 3 < (s.size : Int) ∧ T (bt s 1) ∧ T (bt s 2)) → Ev (fun k => hopperref08_Point.j3 k s c false) (R4 s.size c (bt s 1) (bt s 2) (bt s 3)) := fun h => by
    unfold R4
    rw [if_neg (fun z => h ⟨z.1, z.2.1, z.2.2.1, z.2.2.2.1⟩)]
    exact j3_no s c h0
  refine Ev.step (fun k => by rw [hopperref08_Point.j2]) ?_
  by_cases c1 : c ≥ 240
  · refine Ev.pos c1 ?_
    by_cases c2 : c < 245
    · refine Ev.pos c2 ?_
      by_cases c3 : (s.size : Int) > 3
      · refine Ev.pos c3 ?_
        refine Ev.pos (by omega) ?_
        refine Ev.bind (Ev.c (tail_f _)) ?_
        by_cases ha : T (bt s 1)
        · rw [decide_eq_true ha]
          refine Ev.pos rfl ?_
          refine Ev.pos (by omega) ?_
          refine Ev.bind (Ev.c (tail_f _)) ?_
          by_cases hb : T (bt s 2)
          · rw [decide_eq_true hb]
            refine Ev.pos rfl ?_
            refine Ev.pos (by omega) ?_
            refine Ev.bind (Ev.c (tail_f _)) ?_
            exact j3_ev s c ⟨c1, c2⟩ (by omega) ha hb
          · rw [decide_eq_false hb]
            refine Ev.neg (by simp) ?_
            exact no (fun z => hb z.2.2.2)
        · rw [decide_eq_false ha]
          refine Ev.neg (by simp) ?_
          exact no (fun z => ha z.2.2.1)
      · exact Ev.neg c3 (no (fun z => c3 z.2.1))
    · exact Ev.neg c2 (no (fun z => c2 z.1.2))
  · exact Ev.neg c1 (no (fun z => c1 z.1.1))
theorem j1_no (s : ByteArray) (c : Int) (h0 : 0 ≤ c ∧ c ≤ 255) : Ev (fun k => hopperref08_Point.j1 k s c false) (R4 s.size c (bt s 1) (bt s 2) (bt s 3)) := by
  refine Ev.step (fun k => by rw [hopperref08_Point.j1]) ?_
  exact Ev.neg (by simp) (j2_ev s c h0)
theorem j1_ev (s : ByteArray) (c : Int) (h0 : 224 ≤ c ∧ c < 240) (hn : 2 < s.size) (ha : T (bt s 1)) : Ev (fun k => hopperref08_Point.j1 k s c (decide (T (bt s 2)))) (R3 s.size c (bt s 1) (bt s 2) (bt s 3)) := by
  have b1 := bt_range s 1
  have b2 := bt_range s 2
  by_cases hb : T (bt s 2)
  · rw [decide_eq_true hb]
    refine Ev.step (fun k => by rw [hopperref08_Point.j1]) ?_
    rw [v3 c (bt s 1) (bt s 2) (by omega) (by omega) (by omega)]
    unfold R3
    refine Ev.pos rfl ?_
    refine Ev.pos (by omega) ?_
    refine Ev.pos (by omega) ?_
    by_cases h4 : (c - 224) * 4096 + (bt s 1 - 128) * 64 + bt s 2 - 128 ≥ 2048
    · refine Ev.pos h4 ?_
      by_cases h5 : (c - 224) * 4096 + (bt s 1 - 128) * 64 + bt s 2 - 128 < 55296
      · refine Ev.pos h5 ?_
        exact Ev.val (by rw [if_pos ⟨h0, by omega, ha, hb, h4, .inl h5⟩])
      · refine Ev.neg h5 ?_
        by_cases h6 : (c - 224) * 4096 + (bt s 1 - 128) * 64 + bt s 2 - 128 > 57343
        · refine Ev.pos h6 ?_
          exact Ev.val (by rw [if_pos ⟨h0, by omega, ha, hb, h4, .inr h6⟩])
        · refine Ev.neg h6 ?_
          rw [if_neg (fun z => z.2.2.2.2.2.elim h5 h6)]
          exact j2_ev s c (by omega)
    · refine Ev.neg h4 ?_
      rw [if_neg (fun z => h4 z.2.2.2.2.1)]
      exact j2_ev s c (by omega)
  · rw [decide_eq_false hb]
    unfold R3
    rw [if_neg (fun z => hb z.2.2.2.1)]
    exact j1_no s c (by omega)
theorem j0_no (s : ByteArray) (c : Int) (h0 : 0 ≤ c ∧ c ≤ 255) : Ev (fun k => hopperref08_Point.j0 k s c false) (R3 s.size c (bt s 1) (bt s 2) (bt s 3)) := by
  have no : ¬ ((224 ≤ c ∧ c < 240) ∧ 2 < (s.size : Int) ∧ T (bt s 1)) → Ev (fun k => hopperref08_Point.j1 k s c false) (R3 s.size c (bt s 1) (bt s 2) (bt s 3)) := fun h => by
    unfold R3
    rw [if_neg (fun z => h ⟨z.1, z.2.1, z.2.2.1⟩)]
    exact j1_no s c h0
  refine Ev.step (fun k => by rw [hopperref08_Point.j0]) ?_
  refine Ev.neg (by simp) ?_
  by_cases c1 : c ≥ 224
  · refine Ev.pos c1 ?_
    by_cases c2 : c < 240
    · refine Ev.pos c2 ?_
      by_cases c3 : (s.size : Int) > 2
      · refine Ev.pos c3 ?_
        refine Ev.pos (by omega) ?_
        refine Ev.bind (Ev.c (tail_f _)) ?_
        by_cases ha : T (bt s 1)
        · rw [decide_eq_true ha]
          refine Ev.pos rfl ?_
          refine Ev.pos (by omega) ?_
          refine Ev.bind (Ev.c (tail_f _)) ?_
          exact j1_ev s c ⟨c1, c2⟩ (by omega) ha
        · rw [decide_eq_false ha]
          refine Ev.neg (by simp) ?_
          exact no (fun z => ha z.2.2)
      · exact Ev.neg c3 (no (fun z => c3 z.2.1))
    · exact Ev.neg c2 (no (fun z => c2 z.1.2))
  · exact Ev.neg c1 (no (fun z => c1 z.1.1))
theorem rpoint_ev (s : ByteArray) (h : 0 < s.size) : Ev (fun k => hopperref08_Point.f k s) ((point s.data.toList).1, ((point s.data.toList).2 : Int)) := by
  have hl : 0 < s.data.toList.length := by rw [dsz]; exact h
  rw [← R_point s.data.toList hl, dsz, ← bt0, ← bt1, ← bt2, ← bt3]
  have b0 := bt_range s 0
  have b1 := bt_range s 1
  unfold hopperref08_Point.f
  rw [wbt s 0]
  refine Ev.pos (by omega) ?_
  by_cases c0 : bt s 0 < 128
  · exact Ev.pos c0 (Ev.val (by rw [if_pos c0]))
  refine Ev.neg c0 ?_
  rw [if_neg c0]
  have no : ¬ ((194 ≤ bt s 0 ∧ bt s 0 < 224) ∧ 1 < (s.size : Int) ∧ T (bt s 1)) → Ev (fun k => hopperref08_Point.j0 k s (bt s 0) false) (R2 s.size (bt s 0) (bt s 1) (bt s 2) (bt s 3)) := fun h => by
    unfold R2
    rw [if_neg h]
    exact j0_no s _ (by omega)
  by_cases c1 : bt s 0 ≥ 194
  · refine Ev.pos c1 ?_
    by_cases c2 : bt s 0 < 224
    · refine Ev.pos c2 ?_
      by_cases c3 : (s.size : Int) > 1
      · refine Ev.pos c3 ?_
        refine Ev.pos (by omega) ?_
        refine Ev.bind (Ev.c (tail_f _)) ?_
        by_cases ha : T (bt s 1)
        · rw [decide_eq_true ha]
          refine Ev.step (fun k => by rw [hopperref08_Point.j0]) ?_
          rw [v2 (bt s 0) (bt s 1) (by omega) (by omega)]
          refine Ev.pos rfl ?_
          refine Ev.pos (by omega) ?_
          unfold R2
          exact Ev.val (by rw [if_pos ⟨⟨c1, c2⟩, by omega, ha⟩])
        · rw [decide_eq_false ha]
          exact no (fun z => ha z.2.2)
      · exact Ev.neg c3 (no (fun z => c3 z.2.1))
    · exact Ev.neg c2 (no (fun z => c2 z.1.2))
  · exact Ev.neg c1 (no (fun z => c1 z.1.1))
theorem rpoints_l0 {l : List UInt8} {ps : List Int} (h : Pts l ps) : ∀ (s : ByteArray) (acc : List Int), s.data.toList = l → acc.length + l.length ≤ 1000000000 → Ev (fun k => hopperref08_Points.l0 k s acc) (acc ++ ps) := by
  induction h with
  | nil =>
    intro s acc hs ha
    have hd := dsz s
    rw [hs] at hd
    refine Ev.step (fun k => by rw [hopperref08_Points.l0]) ?_
    refine Ev.neg (by simp at hd; omega) ?_
    exact Ev.val (by simp)
  | @cons l ps h hp ih =>
    intro s acc hs ha
    have hd := dsz s
    rw [hs] at hd
    have hw := TextPure.point_width l h
    refine Ev.step (fun k => by rw [hopperref08_Points.l0]) ?_
    refine Ev.pos (by omega) ?_
    refine Ev.bind (rpoint_ev s (by omega)) ?_
    rw [hs]
    dsimp only
    refine Ev.pos (by omega) ?_
    refine Ev.pos (by omega) ?_
    refine Ev.pos (by omega) ?_
    have h2 := ih (s.extract (point l).2 s.size) (acc ++ [(point l).1]) (by rw [cut_from, hs]) (by rw [List.length_append, List.length_drop]; simp only [List.length_singleton]; omega)
    rw [List.append_assoc] at h2
    rw [show (((point l).2 : Int)).toNat = (point l).2 by omega]
    exact h2
theorem rpoints_ev {s : ByteArray} {ps : List Int} (h : Pts s.data.toList ps) (hs : s.size ≤ 1000000) : Ev (fun k => hopperref08_Points.f k s) ps := rpoints_l0 h s [] rfl (by rw [dsz]; simp; omega)
theorem rfold_l0 (s : ByteArray) (hs : s.size ≤ 1000000) : ∀ (n i : Nat), s.size - i = n → i ≤ s.size → Ev (fun k => hopperref08_Fold.l0 k s (((bytesOf s).take i).map low) (i : Int)) (fold s) := by
  have hd := dsz s
  have hlen := bytesOf_length s
  intro n
  induction n with
  | zero =>
    intro i hn hi
    refine Ev.step (fun k => by rw [hopperref08_Fold.l0]) ?_
    refine Ev.neg (by omega) ?_
    refine Ev.val ?_
    rw [List.take_of_length_le (by omega)]; rfl
  | succ n ih =>
    intro i hn hi
    have h1 : i < (bytesOf s).length := by omega
    have hl : ((((bytesOf s).take i).map low).length : Nat) ≤ 1000000 := by rw [List.length_map, List.length_take]; omega
    have hb := bt_range s (i : Int)
    have eb : bt s (i : Int) = (bytesOf s)[i] := by rw [← rd_bytesOf, rdn _ i h1]
    have next := ih (i + 1) (by omega) (by omega)
    rw [List.take_succ_eq_append_getElem h1, List.map_append, ← eb] at next
    refine Ev.step (fun k => by rw [hopperref08_Fold.l0]) ?_
    refine Ev.pos (by omega) ?_
    refine Ev.pos (by omega) ?_
    rw [w64s (n := s.size) (by omega) (by omega)]
    by_cases c : bt s (i : Int) ≥ 65
    · refine Ev.pos c ?_
      by_cases c2 : bt s (i : Int) ≤ 90
      · refine Ev.pos c2 ?_
        refine Ev.pos (by omega) ?_
        rw [show ((bt s (i : Int)) + 32) % 256 = low (bt s (i : Int)) by unfold low; rw [if_pos c, if_pos c2]; omega]
        exact next
      · refine Ev.neg c2 ?_
        refine Ev.pos (by omega) ?_
        have e : low (bt s (i : Int)) = bt s (i : Int) := by unfold low; rw [if_pos c, if_neg c2]
        rw [List.map_cons, List.map_nil, e] at next
        exact next
    · refine Ev.neg c ?_
      refine Ev.pos (by omega) ?_
      have e : low (bt s (i : Int)) = bt s (i : Int) := by unfold low; rw [if_neg c]
      rw [List.map_cons, List.map_nil, e] at next
      exact next
theorem rfold_ev (s : ByteArray) (hs : s.size ≤ 1000000) : Ev (fun k => hopperref08_Fold.f k s) (fold s) := rfold_l0 s hs s.size 0 rfl (by omega)
theorem bt_nums (s : ByteArray) (i : Nat) (h : i < (nums s.data.toList).length) : bt s (i : Int) = (nums s.data.toList)[i] := by
  have h1 : i < s.data.toList.length := by rw [TextPure.nums_length] at h; exact h
  rw [btn s i h1]
  simp [TextPure.nums]
theorem rcompare_l0 (a b : ByteArray) (ha : a.size ≤ 1000000) : ∀ (n i : Nat), a.size - i = n → i ≤ a.size → i ≤ b.size →
    Ev (fun k => hopperref07_Compare.l0 k a b (i : Int)) (cmpZ ((nums a.data.toList).drop i) ((nums b.data.toList).drop i)) := by
  have la : (nums a.data.toList).length = a.size := by rw [TextPure.nums_length, dsz]
  have lb : (nums b.data.toList).length = b.size := by rw [TextPure.nums_length, dsz]
  have last : ∀ i : Nat, (i = a.size ∨ i = b.size) → i ≤ a.size → i ≤ b.size → Ev (fun k => hopperref07_Compare.j1 k a b (i : Int) false) (cmpZ ((nums a.data.toList).drop i) ((nums b.data.toList).drop i)) := by
    intro i h h1 h2
    refine Ev.step (fun k => by rw [hopperref07_Compare.j1]) ?_
    refine Ev.neg (by simp) ?_
    by_cases c : a.size = i
    · rw [List.drop_eq_nil_of_le (by omega : (nums a.data.toList).length ≤ i)]
      by_cases c2 : b.size = i
      · rw [List.drop_eq_nil_of_le (by omega : (nums b.data.toList).length ≤ i)]
        refine Ev.neg (by omega) ?_
        refine Ev.neg (by omega) ?_
        exact Ev.val rfl
      · rw [drop_at _ i (by omega : i < (nums b.data.toList).length)]
        refine Ev.pos (by omega) ?_
        exact Ev.val rfl
    · rw [List.drop_eq_nil_of_le (by omega : (nums b.data.toList).length ≤ i), drop_at _ i (by omega : i < (nums a.data.toList).length)]
      refine Ev.neg (by omega) ?_
      refine Ev.pos (by omega) ?_
      exact Ev.val rfl
  intro n
  induction n with
  | zero =>
    intro i hn h1 h2
    refine Ev.step (fun k => by rw [hopperref07_Compare.l0]) ?_
    refine Ev.neg (by omega) ?_
    exact last i (.inl (by omega)) h1 h2
  | succ n ih =>
    intro i hn h1 h2
    refine Ev.step (fun k => by rw [hopperref07_Compare.l0]) ?_
    refine Ev.pos (by omega) ?_
    by_cases c : (i : Int) < (b.size : Int)
    · rw [decide_eq_true c]
      have l1 : i < (nums a.data.toList).length := by omega
      have l2 : i < (nums b.data.toList).length := by omega
      refine Ev.step (fun k => by rw [hopperref07_Compare.j1]) ?_
      refine Ev.pos rfl ?_
      refine Ev.pos (by omega) ?_
      refine Ev.pos (by omega) ?_
      refine Ev.pos (by omega) ?_
      rw [bt_nums a i l1, bt_nums b i l2, w64s (n := a.size) (by omega) (by omega), drop_at _ i l1, drop_at _ i l2, cmpZ]
      by_cases d1 : (nums a.data.toList)[i] < (nums b.data.toList)[i]
      · rw [if_pos d1]
        refine Ev.pos d1 ?_
        exact Ev.val rfl
      · rw [if_neg d1]
        refine Ev.neg d1 ?_
        by_cases d2 : (nums a.data.toList)[i] > (nums b.data.toList)[i]
        · rw [if_pos d2]
          refine Ev.pos d2 ?_
          exact Ev.val rfl
        · rw [if_neg d2]
          refine Ev.neg d2 ?_
          exact ih (i + 1) (by omega) (by omega) (by omega)
    · rw [decide_eq_false c]
      exact last i (.inr (by omega)) h1 h2
theorem rcompare_ev (a b : ByteArray) (ha : a.size ≤ 1000000) : Ev (fun k => hopperref07_Compare.f k a b) (cmpZ (nums a.data.toList) (nums b.data.toList)) := rcompare_l0 a b ha a.size 0 rfl (by omega) (by omega)
theorem rbyfold_ev (a b : ByteArray) (ha : a.size ≤ 1000000) (hb : b.size ≤ 1000000) : Ev (fun k => hopperref08_ByFold.f k a b) (cmpZ (nums (fold a).data.toList) (nums (fold b).data.toList)) := by
  unfold hopperref08_ByFold.f
  refine Ev.bind (rfold_ev a ha) ?_
  refine Ev.bind (rfold_ev b hb) ?_
  refine Ev.bind (rcompare_ev _ _ (by rw [fold_size]; exact ha)) ?_
  exact Ev.val rfl
theorem rpcmp_l0 (a b : List Int) (ha : a.length ≤ 1000000) : ∀ (n i : Nat), a.length - i = n → i ≤ a.length → i ≤ b.length → Ev (fun k => hopperref08_ByPoints.l0 k a b (i : Int)) (cmpZ (a.drop i) (b.drop i)) := by
  have last : ∀ i : Nat, (i = a.length ∨ i = b.length) → i ≤ a.length → i ≤ b.length → Ev (fun k => hopperref08_ByPoints.j1 k a b (i : Int) false) (cmpZ (a.drop i) (b.drop i)) := by
    intro i h h1 h2
    refine Ev.step (fun k => by rw [hopperref08_ByPoints.j1]) ?_
    refine Ev.neg (by simp) ?_
    by_cases c : a.length = i
    · rw [List.drop_eq_nil_of_le (by omega : a.length ≤ i)]
      by_cases c2 : b.length = i
      · rw [List.drop_eq_nil_of_le (by omega : b.length ≤ i)]
        refine Ev.neg (by omega) ?_
        refine Ev.neg (by omega) ?_
        exact Ev.val rfl
      · rw [drop_at b i (by omega)]
        refine Ev.pos (by omega) ?_
        exact Ev.val rfl
    · rw [List.drop_eq_nil_of_le (by omega : b.length ≤ i), drop_at a i (by omega)]
      refine Ev.neg (by omega) ?_
      refine Ev.pos (by omega) ?_
      exact Ev.val rfl
  intro n
  induction n with
  | zero =>
    intro i hn h1 h2
    refine Ev.step (fun k => by rw [hopperref08_ByPoints.l0]) ?_
    refine Ev.neg (by omega) ?_
    exact last i (.inl (by omega)) h1 h2
  | succ n ih =>
    intro i hn h1 h2
    refine Ev.step (fun k => by rw [hopperref08_ByPoints.l0]) ?_
    refine Ev.pos (by omega) ?_
    by_cases c : (i : Int) < (b.length : Int)
    · rw [decide_eq_true c]
      have l1 : i < a.length := by omega
      have l2 : i < b.length := by omega
      refine Ev.step (fun k => by rw [hopperref08_ByPoints.j1]) ?_
      refine Ev.pos rfl ?_
      refine Ev.pos (by omega) ?_
      refine Ev.pos (by omega) ?_
      refine Ev.pos (by omega) ?_
      rw [rdn a i l1, rdn b i l2, w64s (n := a.length) (by omega) (by omega), drop_at a i l1, drop_at b i l2, cmpZ]
      by_cases d1 : a[i] < b[i]
      · rw [if_pos d1]
        refine Ev.pos d1 ?_
        exact Ev.val rfl
      · rw [if_neg d1]
        refine Ev.neg d1 ?_
        by_cases d2 : a[i] > b[i]
        · rw [if_pos d2]
          refine Ev.pos d2 ?_
          exact Ev.val rfl
        · rw [if_neg d2]
          refine Ev.neg d2 ?_
          exact ih (i + 1) (by omega) (by omega) (by omega)
    · rw [decide_eq_false c]
      exact last i (.inr (by omega)) h1 h2
theorem rbypoints_ev {a b : ByteArray} {ps qs : List Int} (h : Pts a.data.toList ps) (h2 : Pts b.data.toList qs) (ha : a.size ≤ 100000) (hb : b.size ≤ 100000) : Ev (fun k => hopperref08_ByPoints.f k a b) (cmpZ ps qs) := by
  have hl := h.length_le
  rw [dsz] at hl
  unfold hopperref08_ByPoints.f
  refine Ev.bind (rpoints_ev h (by omega)) ?_
  refine Ev.bind (rpoints_ev h2 (by omega)) ?_
  exact rpcmp_l0 ps qs (by omega) ps.length 0 rfl (by omega) (by omega)
end Go.Proofs.YtdccooaddoafnaaGreatDoor.Pure
