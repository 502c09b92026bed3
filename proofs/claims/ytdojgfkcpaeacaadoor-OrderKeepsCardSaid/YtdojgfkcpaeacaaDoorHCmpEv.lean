/- What the printed functions that compare strings compute. -/
import Derived.Test.YtdojgfkcpaeacaaDoorHEvBase
import Derived.Test.YtdojgfkcpaeacaaDoorHTextPure
import Derived.Test.YtdojgfkcpaeacaaDoorQx
set_option linter.unusedVariables false
set_option linter.unusedSimpArgs false
namespace Go.Proofs.YtdojgfkcpaeacaaDoor.Pure
open Go.RowKit Go.Proofs.YtdojgfkcpaeacaaDoor.Q Go.Proofs.YtdojgfkcpaeacaaDoorW.PrintWords Go.Proofs.YtdojgfkcpaeacaaDoorW.PrintLast Go.Proofs.YtdojgfkcpaeacaaDoorW.PrintMore
open TextPure (nth nth_lt dec point enc nums Pts cut cmpZ)
theorem get_nth (s : ByteArray) (k : Nat) : (s.get! k).toNat = nth s.data.toList k := by
  unfold nth
  congr 1
  rw [List.getD_eq_getElem?_getD, Array.getElem?_toList]
  by_cases h : k < s.data.size
  · rw [Array.getElem?_eq_getElem h]
    exact getElem!_pos s.data k h
  · rw [Array.getElem?_eq_none (by omega)]
    exact getElem!_neg s.data k h
theorem nth_drop (l : List UInt8) (i k : Nat) : nth (l.drop i) k = nth l (i + k) := by simp [nth, List.getD]
theorem decode_drop (s : ByteArray) (i : Nat) : Utf8.decode s i = dec (s.data.toList.drop i) := by
  rw [Lib.decode_at]
  unfold dec
  rw [List.length_drop, dsz, nth_drop, nth_drop, nth_drop, nth_drop, get_nth, get_nth, get_nth, get_nth]
  rfl
theorem decodeGo_dec (s : ByteArray) (h : 0 < s.size) : Lib.decodeGo s = dec s.data.toList := by
  unfold Lib.decodeGo
  rw [if_neg (by omega), decode_drop]; rfl
theorem bt_nth (s : ByteArray) (k : Nat) : bt s (k : Int) = (nth s.data.toList k : Int) := by
  by_cases h : k < s.data.toList.length
  · rw [btn s k h]
    unfold nth
    rw [List.getD_eq_getElem?_getD, List.getElem?_eq_getElem h]; rfl
  · have h2 : ¬ (k : Int).toNat < s.size := by rw [dsz] at h; omega
    unfold bt nth
    rw [dif_neg h2]
    simp only [List.getD_eq_getElem?_getD]
    rw [List.getElem?_eq_none (by omega)]
    rfl
theorem bt0 (s : ByteArray) : bt s 0 = (nth s.data.toList 0 : Int) := bt_nth s 0
theorem dec_range (l : List UInt8) (h : 0 < l.length) : (dec l).1 ≤ 1114111 := by
  have := nth_lt l 0
  rcases TextPure.dec_cases l h with ⟨_, e⟩ | ⟨_, b, _, _, e⟩ | ⟨_, b, _, _, _, _, e⟩ | ⟨_, b, _, _, _, _, _, e⟩ | ⟨_, e⟩ <;> rw [e] <;> simp only <;> omega
theorem point_f (s : ByteArray) (h : 0 < s.size) : text_point.f s = some ((point s.data.toList).1, ((point s.data.toList).2 : Int)) := by
  have hl : 0 < s.data.toList.length := by rw [dsz]; exact h
  have hr := dec_range s.data.toList hl
  have hn := nth_lt s.data.toList 0
  unfold text_point.f utf8_DecodeRuneInString.f
  rw [decodeGo_dec s h, bt0]
  simp only [Option.bind_some]
  unfold point
  by_cases c : (dec s.data.toList).1 = 65533
  · by_cases c2 : (dec s.data.toList).2 ≤ 1
    · rw [if_pos (by omega), if_pos (by omega), if_pos (by omega), if_pos ⟨c, c2⟩, w64 (x := (nth s.data.toList 0 : Int)) (by omega) (by omega), w64 (by omega) (by omega)]; rfl
    · rw [if_pos (by omega), if_neg (by omega), if_neg (fun z => c2 z.2), w64 (by omega) (by omega)]
  · rw [if_neg (by omega), if_neg (fun z => c z.1), w64 (by omega) (by omega)]
theorem points_l0 {l : List UInt8} {ps : List Int} (h : Pts l ps) : ∀ (s : ByteArray) (acc : List Int), s.data.toList = l → acc.length + l.length ≤ 1000000000 → Ev (fun k => text_Points.l0 k s acc) (acc ++ ps) := by
  induction h with
  | nil =>
    intro s acc hs ha
    have hd := dsz s
    rw [hs] at hd
    refine Ev.step (fun k => by rw [text_Points.l0]) ?_
    refine Ev.neg (by simp at hd; omega) ?_
    exact Ev.val (by simp)
  | @cons l ps h hp ih =>
    intro s acc hs ha
    have hd := dsz s
    rw [hs] at hd
    have hw := TextPure.point_width l h
    refine Ev.step (fun k => by rw [text_Points.l0]) ?_
    refine Ev.pos (by omega) ?_
    refine Ev.bind (Ev.c (point_f s (by omega))) ?_
    rw [hs]
    dsimp only
    refine Ev.pos (by omega) ?_
    refine Ev.pos (by omega) ?_
    refine Ev.pos (by omega) ?_
    have h2 := ih (s.extract (point l).2 s.size) (acc ++ [(point l).1]) (by rw [cut_from, hs]) (by rw [List.length_append, List.length_drop]; simp only [List.length_singleton]; omega)
    rw [List.append_assoc] at h2
    rw [show (((point l).2 : Int)).toNat = (point l).2 by omega]
    exact h2
theorem points_ev {s : ByteArray} {ps : List Int} (h : Pts s.data.toList ps) (hs : s.size ≤ 1000000) : Ev (fun k => text_Points.f k s) ps := points_l0 h s [] rfl (by rw [dsz]; simp; omega)
theorem pts (s : ByteArray) : ∃ ps, Pts s.data.toList ps := TextPure.pts_exists _ _ rfl
def fold (s : ByteArray) : ByteArray := strOfNums ((bytesOf s).map low)
theorem fold_f (s : ByteArray) (hs : s.size ≤ 1000000) : text_Fold.f s = some (fold s) := by
  unfold text_Fold.f
  rw [if_pos (by omega)]; rfl
theorem cmpZ_vals : ∀ a b, cmpZ a b = -1 ∨ cmpZ a b = 0 ∨ cmpZ a b = 1
  | [], [] => by simp [cmpZ]
  | [], _ :: _ => by simp [cmpZ]
  | _ :: _, [] => by simp [cmpZ]
  | x :: a, y :: b => by
    have ih := cmpZ_vals a b
    unfold cmpZ
    split
    · simp
    · split
      · simp
      · exact ih
theorem less_cmp : ∀ x y : List UInt8, Op.bytesLess x y = decide (cmpZ (nums x) (nums y) = -1)
  | [], [] => by simp [Op.bytesLess, cmpZ, TextPure.nums]
  | [], _ :: _ => by simp [Op.bytesLess, cmpZ, TextPure.nums]
  | _ :: _, [] => by simp [Op.bytesLess, cmpZ, TextPure.nums]
  | a :: x, b :: y => by
    have ih := less_cmp x y
    have e1 : nums (a :: x) = (a.toNat : Int) :: nums x := rfl
    have e2 : nums (b :: y) = (b.toNat : Int) :: nums y := rfl
    rw [Op.bytesLess, e1, e2, cmpZ, ih]
    rcases Nat.lt_trichotomy a.toNat b.toNat with h | h | h
    · have h1 : a < b := h
      rw [if_pos (by omega)]; simp [h1]
    · obtain rfl : a = b := UInt8.toNat_inj.1 h
      have h1 : ¬ a < a := fun z => Nat.lt_irrefl _ z
      rw [if_neg (by omega), if_neg (by omega)]; simp [h1]
    · have h1 : ¬ a < b := fun z => Nat.lt_asymm h z
      have h3 : ¬ a = b := fun z => by subst z; exact Nat.lt_irrefl _ h
      rw [if_neg (by omega), if_pos (by omega)]; simp [h1, h3]
theorem nan_f (a : ByteArray) : cmp_isNaN_string.f a = some false := by simp [cmp_isNaN_string.f]
theorem cmps_f (a b : ByteArray) : cmp_Compare_string.f a b = some (cmpZ (nums a.data.toList) (nums b.data.toList)) := by
  unfold cmp_Compare_string.f
  rw [nan_f, nan_f]
  simp only [Option.bind_some]
  rw [if_neg (by simp), if_neg (by simp), tl, tl, less_cmp, less_cmp, TextPure.cmpZ_turn (nums a.data.toList)]
  rcases cmpZ_vals (nums a.data.toList) (nums b.data.toList) with h | h | h <;> rw [h] <;> simp
theorem byfold_f (a b : ByteArray) (ha : a.size ≤ 1000000) (hb : b.size ≤ 1000000) : text_ByFold.f a b = some (cmpZ (nums (fold a).data.toList) (nums (fold b).data.toList)) := by
  unfold text_ByFold.f
  rw [fold_f a ha, fold_f b hb]
  simp only [Option.bind_some]
  rw [cmps_f]; rfl
theorem nani_f (a : Int) : cmp_isNaN_int.f a = some false := by simp [cmp_isNaN_int.f]
theorem cmpi_f (a b : Int) : cmp_Compare_int.f a b = some (if a < b then -1 else if a > b then 1 else 0) := by
  unfold cmp_Compare_int.f
  rw [nani_f, nani_f]
  simp only [Option.bind_some]
  rw [if_neg (by simp), if_neg (by simp)]
  split
  · rfl
  · split <;> rfl
theorem scmp_l0 (a b : List Int) (ha : a.length ≤ 1000000) : ∀ (n i : Nat), a.length - i = n → i ≤ a.length → i ≤ b.length → Ev (fun k => slices_Compare_int_int.l0 k a b a (a.length : Int) (i : Int)) (cmpZ (a.drop i) (b.drop i)) := by
  intro n
  induction n with
  | zero =>
    intro i hn h1 h2
    refine Ev.step (fun k => by rw [slices_Compare_int_int.l0]) ?_
    refine Ev.neg (by omega) ?_
    rw [List.drop_eq_nil_of_le (by omega : a.length ≤ i)]
    by_cases c2 : b.length = i
    · rw [List.drop_eq_nil_of_le (by omega : b.length ≤ i)]
      refine Ev.neg (by omega) ?_
      exact Ev.val rfl
    · rw [drop_at b i (by omega)]
      refine Ev.pos (by omega) ?_
      exact Ev.val rfl
  | succ n ih =>
    intro i hn h1 h2
    have l1 : i < a.length := by omega
    refine Ev.step (fun k => by rw [slices_Compare_int_int.l0]) ?_
    refine Ev.pos (by omega) ?_
    refine Ev.pos (by omega) ?_
    refine Ev.pos (by omega) ?_
    by_cases c : (i : Int) ≥ (b.length : Int)
    · rw [List.drop_eq_nil_of_le (by omega : b.length ≤ i), drop_at a i l1]
      refine Ev.pos c ?_
      exact Ev.val rfl
    · have l2 : i < b.length := by omega
      refine Ev.neg c ?_
      refine Ev.pos (by omega) ?_
      rw [rdn a i l1, rdn b i l2, w64s (n := a.length) (by omega) (by omega), drop_at a i l1, drop_at b i l2, cmpZ]
      refine Ev.bind (Ev.c (cmpi_f _ _)) ?_
      by_cases d1 : a[i] < b[i]
      · rw [if_pos d1, if_pos d1]
        refine Ev.neg (by omega) ?_
        exact Ev.val rfl
      · rw [if_neg d1, if_neg d1]
        by_cases d2 : a[i] > b[i]
        · rw [if_pos d2, if_pos d2]
          refine Ev.neg (by omega) ?_
          exact Ev.val rfl
        · rw [if_neg d2, if_neg d2]
          refine Ev.pos rfl ?_
          exact ih (i + 1) (by omega) (by omega) (by omega)
theorem bypoints_ev {a b : ByteArray} {ps qs : List Int} (h : Pts a.data.toList ps) (h2 : Pts b.data.toList qs) (ha : a.size ≤ 100000) (hb : b.size ≤ 100000) : Ev (fun k => text_ByPoints.f k a b) (cmpZ ps qs) := by
  have hl := h.length_le
  rw [dsz] at hl
  unfold text_ByPoints.f
  refine Ev.bind (points_ev h (by omega)) ?_
  refine Ev.bind (points_ev h2 (by omega)) ?_
  have e := scmp_l0 ps qs (by omega) ps.length 0 rfl (by omega) (by omega)
  refine Ev.bind (a := cmpZ ps qs) (by unfold slices_Compare_int_int.f; exact e) ?_
  exact Ev.val rfl
end Go.Proofs.YtdojgfkcpaeacaaDoor.Pure
