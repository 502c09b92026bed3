/- What the printed functions on strings compute: bytes of points, folds, orders. -/
import Derived.Test.YtbgilalhjeodaaaDoorHTextEv2
set_option linter.unusedVariables false
set_option linter.unusedSimpArgs false
namespace Go.Proofs.YtbgilalhjeodaaaDoor.Pure
open Go.RowKit Go.Proofs.YtbgilalhjeodaaaDoor.Q Go.Proofs.YtbgilalhjeodaaaDoorW.PrintWords Go.Proofs.YtbgilalhjeodaaaDoorW.PrintLast Go.Proofs.YtbgilalhjeodaaaDoorW.PrintMore
open TextPure (nth nth_lt dec point enc nums Pts cut cmpZ)
theorem byte_wf {x : Int} (h : (Lit.int .u8 x).wf = true) : 0 ≤ x ∧ x ≤ 255 := by
  unfold Lit.wf at h
  simp only [Bool.and_eq_true, decide_eq_true_eq] at h
  exact h
theorem i64_wf {x : Int} (h : (Lit.int .i64 x).wf = true) : -9223372036854775808 ≤ x ∧ x ≤ 9223372036854775807 := by
  unfold Lit.wf at h
  simp only [Bool.and_eq_true, decide_eq_true_eq] at h
  exact h
/-! ### bytes of points -/
theorem two_bytes (r : Int) (h0 : 128 ≤ r) (h1 : r ≤ 2047) : ([Go.bits .or .u8 192 ((r / 64) % 256), Go.bits .or .u8 128 (Go.bits .and .u8 ((r) % 256) 63)] : List Int) = Lib.encodeRuneZ r := by
  rw [Lib.encodeRuneZ_two h0 h1, Go.u8_and63 _ (by omega) (by omega), Go.u8_or128 _ (by omega) (by omega), Go.u8_or192 _ (by omega) (by omega), m64]
  simp only [List.cons.injEq, and_true]
  omega
theorem three_bytes (r : Int) (h : (2048 ≤ r ∧ r < 55296) ∨ (57343 < r ∧ r ≤ 65535)) : ([Go.bits .or .u8 224 ((r / 4096) % 256), Go.bits .or .u8 128 (Go.bits .and .u8 ((r / 64) % 256) 63), Go.bits .or .u8 128 (Go.bits .and .u8 ((r) % 256) 63)] : List Int) = Lib.encodeRuneZ r := by
  rw [Lib.encodeRuneZ_three h, Go.u8_and63 _ (by omega) (by omega), Go.u8_and63 _ (by omega) (by omega), Go.u8_or128 _ (by omega) (by omega), Go.u8_or128 _ (by omega) (by omega), Go.u8_or224 _ (by omega) (by omega), m64, m64]
  simp only [List.cons.injEq, and_true]
  omega
theorem four_bytes (r : Int) (h0 : 65536 ≤ r) (h1 : r ≤ 1114111) : ([Go.bits .or .u8 240 ((r / 262144) % 256), Go.bits .or .u8 128 (Go.bits .and .u8 ((r / 4096) % 256) 63), Go.bits .or .u8 128 (Go.bits .and .u8 ((r / 64) % 256) 63), Go.bits .or .u8 128 (Go.bits .and .u8 ((r) % 256) 63)] : List Int) = Lib.encodeRuneZ r := by
  rw [Lib.encodeRuneZ_four h0 h1, Go.u8_and63 _ (by omega) (by omega), Go.u8_and63 _ (by omega) (by omega), Go.u8_and63 _ (by omega) (by omega), Go.u8_or128 _ (by omega) (by omega), Go.u8_or128 _ (by omega) (by omega), Go.u8_or128 _ (by omega) (by omega), Go.u8_or240 _ (by omega) (by omega), m64, m64, m64]
  simp only [List.cons.injEq, and_true]
  omega
theorem rune_j0_yes (acc : List Int) (r : Int) (ha : acc.length ≤ 1000000000) (h : (2048 ≤ r ∧ r < 55296) ∨ (57343 < r ∧ r ≤ 65535)) : Ev (fun k => utf8_appendRuneNonASCII.j0 k acc r r true) (acc ++ Lib.encodeRuneZ r) := by
  have hl := Lib.encodeRuneZ_length r
  refine Ev.step (fun k => by rw [utf8_appendRuneNonASCII.j0]) ?_
  refine Ev.pos rfl ?_
  refine Ev.bind (Ev.now _) ?_
  try dsimp only
  rw [three_bytes r h]
  refine Ev.pos (by omega) ?_
  exact Ev.val rfl
theorem rune_j0_no (acc : List Int) (r : Int) (ha : acc.length ≤ 1000000000) (h : (55296 ≤ r ∧ r ≤ 57343) ∨ (65536 ≤ r ∧ r ≤ 1114111)) : Ev (fun k => utf8_appendRuneNonASCII.j0 k acc r r false) (acc ++ Lib.encodeRuneZ r) := by
  have hl := Lib.encodeRuneZ_length r
  refine Ev.step (fun k => by rw [utf8_appendRuneNonASCII.j0]) ?_
  refine Ev.neg (by simp) ?_
  by_cases c : r > 65535
  · refine Ev.pos c ?_
    refine Ev.pos (by omega) ?_
    refine Ev.bind (Ev.now _) ?_
    try dsimp only
    rw [four_bytes r (by omega) (by omega)]
    refine Ev.pos (by omega) ?_
    exact Ev.val rfl
  · refine Ev.neg c ?_
    refine Ev.bind (Ev.now _) ?_
    try dsimp only
    rw [← Lib.encodeRuneZ_bad (r := r) (by omega)]
    refine Ev.pos (by omega) ?_
    exact Ev.val rfl
theorem rune_ev (acc : List Int) (r : Int) (ha : acc.length ≤ 1000000000) (h0 : 0 ≤ r) (h1 : r ≤ 1114111) : Ev (fun k => utf8_AppendRune.f k acc r) (acc ++ Lib.encodeRuneZ r) := by
  have hl := Lib.encodeRuneZ_length r
  have em : r % 4294967296 = r := by omega
  unfold utf8_AppendRune.f
  rw [em]
  by_cases c : r ≤ 127
  · refine Ev.pos c ?_
    refine Ev.pos (by omega) ?_
    refine Ev.val ?_
    rw [Lib.encodeRuneZ_one h0 c, show r % 256 = r by omega]
  · refine Ev.neg c ?_
    have inner : Ev (fun k => utf8_appendRuneNonASCII.f k acc r) (acc ++ Lib.encodeRuneZ r) := by
      unfold utf8_appendRuneNonASCII.f
      rw [em]
      by_cases c2 : r ≤ 2047
      · refine Ev.pos c2 ?_
        refine Ev.bind (Ev.now _) ?_
        try dsimp only
        rw [two_bytes r (by omega) c2]
        refine Ev.pos (by omega) ?_
        exact Ev.val rfl
      · refine Ev.neg c2 ?_
        by_cases c3 : r < 55296
        · refine Ev.pos c3 ?_
          rw [decide_eq_true c3]
          exact rune_j0_yes acc r ha (.inl ⟨by omega, c3⟩)
        · refine Ev.neg c3 ?_
          by_cases c4 : 57343 < r
          · refine Ev.pos c4 ?_
            by_cases c5 : r ≤ 65535
            · rw [decide_eq_true c5]
              exact rune_j0_yes acc r ha (.inr ⟨c4, c5⟩)
            · rw [decide_eq_false c5]
              exact rune_j0_no acc r ha (.inr ⟨by omega, h1⟩)
          · refine Ev.neg c4 ?_
            exact rune_j0_no acc r ha (.inl ⟨by omega, by omega⟩)
    refine Ev.bind inner ?_
    exact Ev.val rfl
theorem enc_length (p : Int) : (enc p).length ≤ 4 := by
  unfold enc
  split
  · simp
  · exact (Lib.encodeRuneZ_length p).2
theorem w32 {x : Int} (h0 : -2147483648 ≤ x) (h1 : x ≤ 2147483647) : wrap32 x = x := by unfold wrap32; omega
theorem bytes_l0 (ps : List Int) (hr : ∀ p ∈ ps, 0 ≤ p ∧ p < 1114368) (hl : ps.length ≤ 1000000) : ∀ (n i : Nat) (acc : List Int), ps.length - i = n → i ≤ ps.length → acc.length + 4 * n ≤ 1000000000 →
    Ev (fun k => text_Bytes.l0 k acc ps (ps.length : Int) (i : Int)) (strOfNums (acc ++ (ps.drop i).flatMap enc)) := by
  intro n
  induction n with
  | zero =>
    intro i acc hn hi ha
    refine Ev.step (fun k => by rw [text_Bytes.l0]) ?_
    refine Ev.neg (by omega) ?_
    refine Ev.val ?_
    rw [List.drop_eq_nil_of_le (by omega)]; simp
  | succ n ih =>
    intro i acc hn hi ha
    have h1 : i < ps.length := by omega
    have hp := hr ps[i] (List.getElem_mem h1)
    have he := enc_length ps[i]
    refine Ev.step (fun k => by rw [text_Bytes.l0]) ?_
    refine Ev.pos (by omega) ?_
    refine Ev.pos (by omega) ?_
    refine Ev.pos (by omega) ?_
    rw [rdn ps i h1, w64s (n := ps.length) h1 (by omega), drop_at ps i h1, List.flatMap_cons, ← List.append_assoc]
    have next := ih (i + 1) (acc ++ enc ps[i]) (by omega) (by omega) (by rw [List.length_append]; omega)
    by_cases c : ps[i] ≥ 1114112
    · refine Ev.pos c ?_
      refine Ev.pos (by omega) ?_
      rw [show enc ps[i] = [ps[i] % 256] by unfold enc; rw [if_pos c]] at next ⊢
      exact next
    · refine Ev.neg c ?_
      rw [w32 (by omega) (by omega)]
      rw [show enc ps[i] = Lib.encodeRuneZ ps[i] by unfold enc; rw [if_neg c]] at next ⊢
      exact Ev.bind (rune_ev acc ps[i] (by omega) hp.1 (by omega)) next
theorem strOf_nums (s : ByteArray) : strOfNums (nums s.data.toList) = s := by
  refine ba_ext ?_
  rw [strOf_list]
  unfold TextPure.nums
  rw [List.map_map]
  refine (List.map_congr_left fun x _ => ?_).trans (List.map_id _)
  simp
theorem bytes_ev {s : ByteArray} {ps : List Int} (h : Pts s.data.toList ps) (hs : s.size ≤ 100000) : Ev (fun k => text_Bytes.f k ps) s := by
  have hl := h.length_le
  rw [dsz] at hl
  have e := bytes_l0 ps h.range (by omega) ps.length 0 [] rfl (by omega) (by simp; omega)
  rw [List.nil_append, List.drop_zero, h.bytes, strOf_nums] at e
  exact e
/-! ### folded -/
theorem bytesOf_nums (s : ByteArray) : bytesOf s = nums s.data.toList := rfl
def fold (s : ByteArray) : ByteArray := strOfNums ((bytesOf s).map low)
theorem fold_f (s : ByteArray) (hs : s.size ≤ 1000000) : text_Fold.f s = some (fold s) := by
  unfold text_Fold.f
  rw [if_pos (by omega)]; rfl
theorem low_byte {x : Int} (h0 : 0 ≤ x) (h1 : x ≤ 255) : 0 ≤ low x ∧ low x ≤ 255 := by
  unfold low
  split
  · split <;> omega
  · omega
theorem low_low {x : Int} (h0 : 0 ≤ x) (h1 : x ≤ 255) : low (low x) = low x := by
  unfold low
  by_cases c : x ≥ 65
  · by_cases c2 : x ≤ 90
    · simp only [if_pos c, if_pos c2]
      rw [if_pos (by omega), if_neg (by omega)]
    · simp only [if_pos c, if_neg c2]
  · simp only [if_neg c]
theorem nums_range (l : List UInt8) : ∀ x ∈ nums l, 0 ≤ x ∧ x ≤ 255 := by
  intro x hx
  obtain ⟨b, _, rfl⟩ := List.mem_map.1 hx
  have := b.toNat_lt
  omega
theorem bytesOf_strOf (xs : List Int) (h : ∀ x ∈ xs, 0 ≤ x ∧ x ≤ 255) : bytesOf (strOfNums xs) = xs := by
  rw [bytesOf_nums, strOf_list]
  unfold TextPure.nums
  rw [List.map_map]
  refine (List.map_congr_left fun x hx => ?_).trans (List.map_id _)
  have := h x hx
  simp only [Function.comp, UInt8.toNat_ofNat', id]
  omega
theorem low_range (l : List UInt8) : ∀ x ∈ (nums l).map low, 0 ≤ x ∧ x ≤ 255 := by
  intro x hx
  obtain ⟨y, hy, rfl⟩ := List.mem_map.1 hx
  have := nums_range l y hy
  exact low_byte this.1 this.2
theorem fold_fold (s : ByteArray) : fold (fold s) = fold s := by
  unfold fold
  rw [bytesOf_strOf _ (by rw [bytesOf_nums]; exact low_range _), List.map_map]
  congr 1
  refine List.map_congr_left fun x hx => ?_
  rw [bytesOf_nums] at hx
  have := nums_range _ x hx
  exact low_low this.1 this.2
theorem fold_size (s : ByteArray) : (fold s).size = s.size := by
  unfold fold
  rw [← dsz, strOf_list, List.length_map, List.length_map, bytesOf_length]
theorem rfold_l0 (s : ByteArray) (hs : s.size ≤ 1000000) : ∀ (n i : Nat), s.size - i = n → i ≤ s.size → Ev (fun k => hopperref08_Fold.l0 k s (((bytesOf s).take i).map low) (i : Int)) (fold s) := by
  have hd := dsz s
  have hlen := bytesOf_length s
  intro n
  induction n with
  | zero =>
    intro i hn hi
    refine Ev.step (fun k => by rw [hopperref08_Fold.l0]) ?_
    refine Ev.neg (by omega) ?_
    refine Ev.val ?_
    rw [List.take_of_length_le (by omega)]; rfl
  | succ n ih =>
    intro i hn hi
    have h1 : i < (bytesOf s).length := by omega
    have hl : ((((bytesOf s).take i).map low).length : Nat) ≤ 1000000 := by rw [List.length_map, List.length_take]; omega
    have hb := bt_range s (i : Int)
    have eb : bt s (i : Int) = (bytesOf s)[i] := by rw [← rd_bytesOf, rdn _ i h1]
    have next := ih (i + 1) (by omega) (by omega)
    rw [List.take_succ_eq_append_getElem h1, List.map_append, ← eb] at next
    refine Ev.step (fun k => by rw [hopperref08_Fold.l0]) ?_
    refine Ev.pos (by omega) ?_
    refine Ev.pos (by omega) ?_
    rw [w64s (n := s.size) (by omega) (by omega)]
    by_cases c : bt s (i : Int) ≥ 65
    · refine Ev.pos c ?_
      by_cases c2 : bt s (i : Int) ≤ 90
      · refine Ev.pos c2 ?_
        refine Ev.pos (by omega) ?_
        rw [show ((bt s (i : Int)) + 32) % 256 = low (bt s (i : Int)) by unfold low; rw [if_pos c, if_pos c2]; omega]
        exact next
      · refine Ev.neg c2 ?_
        refine Ev.pos (by omega) ?_
        have e : low (bt s (i : Int)) = bt s (i : Int) := by unfold low; rw [if_pos c, if_neg c2]
        rw [List.map_cons, List.map_nil, e] at next
        exact next
    · refine Ev.neg c ?_
      refine Ev.pos (by omega) ?_
      have e : low (bt s (i : Int)) = bt s (i : Int) := by unfold low; rw [if_neg c]
      rw [List.map_cons, List.map_nil, e] at next
      exact next
theorem rfold_ev (s : ByteArray) (hs : s.size ≤ 1000000) : Ev (fun k => hopperref08_Fold.f k s) (fold s) := rfold_l0 s hs s.size 0 rfl (by omega)
/-! ### orders -/
theorem cmpZ_vals : ∀ a b, cmpZ a b = -1 ∨ cmpZ a b = 0 ∨ cmpZ a b = 1
  | [], [] => by simp [cmpZ]
  | [], _ :: _ => by simp [cmpZ]
  | _ :: _, [] => by simp [cmpZ]
  | x :: a, y :: b => by
    have ih := cmpZ_vals a b
    unfold cmpZ
    split
    · simp
    · split
      · simp
      · exact ih
theorem less_cmp : ∀ x y : List UInt8, Op.bytesLess x y = decide (cmpZ (nums x) (nums y) = -1)
  | [], [] => by simp [Op.bytesLess, cmpZ, TextPure.nums]
  | [], _ :: _ => by simp [Op.bytesLess, cmpZ, TextPure.nums]
  | _ :: _, [] => by simp [Op.bytesLess, cmpZ, TextPure.nums]
  | a :: x, b :: y => by
    have ih := less_cmp x y
    have e1 : nums (a :: x) = (a.toNat : Int) :: nums x := rfl
    have e2 : nums (b :: y) = (b.toNat : Int) :: nums y := rfl
    rw [Op.bytesLess, e1, e2, cmpZ, ih]
    rcases Nat.lt_trichotomy a.toNat b.toNat with h | h | h
    · have h1 : a < b := h
      rw [if_pos (by omega)]; simp [h1]
    · obtain rfl : a = b := UInt8.toNat_inj.1 h
      have h1 : ¬ a < a := fun z => Nat.lt_irrefl _ z
      rw [if_neg (by omega), if_neg (by omega)]; simp [h1]
    · have h1 : ¬ a < b := fun z => Nat.lt_asymm h z
      have h3 : ¬ a = b := fun z => by subst z; exact Nat.lt_irrefl _ h
      rw [if_neg (by omega), if_pos (by omega)]; simp [h1, h3]
theorem nan_f (a : ByteArray) : cmp_isNaN_string.f a = some false := by simp [cmp_isNaN_string.f]
theorem cmps_f (a b : ByteArray) : cmp_Compare_string.f a b = some (cmpZ (nums a.data.toList) (nums b.data.toList)) := by
  unfold cmp_Compare_string.f
  rw [nan_f, nan_f]
  simp only [Option.bind_some]
  rw [if_neg (by simp), if_neg (by simp), tl, tl, less_cmp, less_cmp, TextPure.cmpZ_turn (nums a.data.toList)]
  rcases cmpZ_vals (nums a.data.toList) (nums b.data.toList) with h | h | h <;> rw [h] <;> simp
theorem byfold_f (a b : ByteArray) (ha : a.size ≤ 1000000) (hb : b.size ≤ 1000000) : text_ByFold.f a b = some (cmpZ (nums (fold a).data.toList) (nums (fold b).data.toList)) := by
  unfold text_ByFold.f
  rw [fold_f a ha, fold_f b hb]
  simp only [Option.bind_some]
  rw [cmps_f]; rfl
theorem bt_nums (s : ByteArray) (i : Nat) (h : i < (nums s.data.toList).length) : bt s (i : Int) = (nums s.data.toList)[i] := by
  have h1 : i < s.data.toList.length := by rw [TextPure.nums_length] at h; exact h
  rw [btn s i h1]
  simp [TextPure.nums]
theorem rcompare_l0 (a b : ByteArray) (ha : a.size ≤ 1000000) : ∀ (n i : Nat), a.size - i = n → i ≤ a.size → i ≤ b.size →
    Ev (fun k => hopperref07_Compare.l0 k a b (i : Int)) (cmpZ ((nums a.data.toList).drop i) ((nums b.data.toList).drop i)) := by
  have la : (nums a.data.toList).length = a.size := by rw [TextPure.nums_length, dsz]
  have lb : (nums b.data.toList).length = b.size := by rw [TextPure.nums_length, dsz]
  have last : ∀ i : Nat, (i = a.size ∨ i = b.size) → i ≤ a.size → i ≤ b.size → Ev (fun k => hopperref07_Compare.j1 k a b (i : Int) false) (cmpZ ((nums a.data.toList).drop i) ((nums b.data.toList).drop i)) := by
    intro i h h1 h2
    refine Ev.step (fun k => by rw [hopperref07_Compare.j1]) ?_
    refine Ev.neg (by simp) ?_
    by_cases c : a.size = i
    · rw [List.drop_eq_nil_of_le (by omega : (nums a.data.toList).length ≤ i)]
      by_cases c2 : b.size = i
      · rw [List.drop_eq_nil_of_le (by omega : (nums b.data.toList).length ≤ i)]
        refine Ev.neg (by omega) ?_
        refine Ev.neg (by omega) ?_
        exact Ev.val rfl
      · rw [drop_at _ i (by omega : i < (nums b.data.toList).length)]
        refine Ev.pos (by omega) ?_
        exact Ev.val rfl
    · rw [List.drop_eq_nil_of_le (by omega : (nums b.data.toList).length ≤ i), drop_at _ i (by omega : i < (nums a.data.toList).length)]
      refine Ev.neg (by omega) ?_
      refine Ev.pos (by omega) ?_
      exact Ev.val rfl
  intro n
  induction n with
  | zero =>
    intro i hn h1 h2
    refine Ev.step (fun k => by rw [hopperref07_Compare.l0]) ?_
    refine Ev.neg (by omega) ?_
    exact last i (.inl (by omega)) h1 h2
  | succ n ih =>
    intro i hn h1 h2
    refine Ev.step (fun k => by rw [hopperref07_Compare.l0]) ?_
    refine Ev.pos (by omega) ?_
    by_cases c : (i : Int) < (b.size : Int)
    · rw [decide_eq_true c]
      have l1 : i < (nums a.data.toList).length := by omega
      have l2 : i < (nums b.data.toList).length := by omega
      refine Ev.step (fun k => by rw [hopperref07_Compare.j1]) ?_
      refine Ev.pos rfl ?_
      refine Ev.pos (by omega) ?_
      refine Ev.pos (by omega) ?_
      refine Ev.pos (by omega) ?_
      rw [bt_nums a i l1, bt_nums b i l2, w64s (n := a.size) (by omega) (by omega), drop_at _ i l1, drop_at _ i l2, cmpZ]
      by_cases d1 : (nums a.data.toList)[i] < (nums b.data.toList)[i]
      · rw [if_pos d1]
        refine Ev.pos d1 ?_
        exact Ev.val rfl
      · rw [if_neg d1]
        refine Ev.neg d1 ?_
        by_cases d2 : (nums a.data.toList)[i] > (nums b.data.toList)[i]
        · rw [if_pos d2]
          refine Ev.pos d2 ?_
          exact Ev.val rfl
        · rw [if_neg d2]
          refine Ev.neg d2 ?_
          exact ih (i + 1) (by omega) (by omega) (by omega)
    · rw [decide_eq_false c]
      exact last i (.inr (by omega)) h1 h2
theorem rcompare_ev (a b : ByteArray) (ha : a.size ≤ 1000000) : Ev (fun k => hopperref07_Compare.f k a b) (cmpZ (nums a.data.toList) (nums b.data.toList)) := rcompare_l0 a b ha a.size 0 rfl (by omega) (by omega)
theorem rbyfold_ev (a b : ByteArray) (ha : a.size ≤ 1000000) (hb : b.size ≤ 1000000) : Ev (fun k => hopperref08_ByFold.f k a b) (cmpZ (nums (fold a).data.toList) (nums (fold b).data.toList)) := by
  unfold hopperref08_ByFold.f
  refine Ev.bind (rfold_ev a ha) ?_
  refine Ev.bind (rfold_ev b hb) ?_
  refine Ev.bind (rcompare_ev _ _ (by rw [fold_size]; exact ha)) ?_
  exact Ev.val rfl
theorem rpcmp_l0 (a b : List Int) (ha : a.length ≤ 1000000) : ∀ (n i : Nat), a.length - i = n → i ≤ a.length → i ≤ b.length → Ev (fun k => hopperref08_ByPoints.l0 k a b (i : Int)) (cmpZ (a.drop i) (b.drop i)) := by
  have last : ∀ i : Nat, (i = a.length ∨ i = b.length) → i ≤ a.length → i ≤ b.length → Ev (fun k => hopperref08_ByPoints.j1 k a b (i : Int) false) (cmpZ (a.drop i) (b.drop i)) := by
    intro i h h1 h2
    refine Ev.step (fun k => by rw [hopperref08_ByPoints.j1]) ?_
    refine Ev.neg (by simp) ?_
    by_cases c : a.length = i
    · rw [List.drop_eq_nil_of_le (by omega : a.length ≤ i)]
      by_cases c2 : b.length = i
      · rw [List.drop_eq_nil_of_le (by omega : b.length ≤ i)]
        refine Ev.neg (by omega) ?_
        refine Ev.neg (by omega) ?_
        exact Ev.val rfl
      · rw [drop_at b i (by omega)]
        refine Ev.pos (by omega) ?_
        exact Ev.val rfl
    · rw [List.drop_eq_nil_of_le (by omega : b.length ≤ i), drop_at a i (by omega)]
      refine Ev.neg (by omega) ?_
      refine Ev.pos (by omega) ?_
      exact Ev.val rfl
  intro n
  induction n with
  | zero =>
    intro i hn h1 h2
    refine Ev.step (fun k => by rw [hopperref08_ByPoints.l0]) ?_
    refine Ev.neg (by omega) ?_
    exact last i (.inl (by omega)) h1 h2
  | succ n ih =>
    intro i hn h1 h2
    refine Ev.step (fun k => by rw [hopperref08_ByPoints.l0]) ?_
    refine Ev.pos (by omega) ?_
    by_cases c : (i : Int) < (b.length : Int)
    · rw [decide_eq_true c]
      have l1 : i < a.length := by omega
      have l2 : i < b.length := by omega
      refine Ev.step (fun k => by rw [hopperref08_ByPoints.j1]) ?_
      refine Ev.pos rfl ?_
      refine Ev.pos (by omega) ?_
      refine Ev.pos (by omega) ?_
      refine Ev.pos (by omega) ?_
      rw [rdn a i l1, rdn b i l2, w64s (n := a.length) (by omega) (by omega), drop_at a i l1, drop_at b i l2, cmpZ]
      by_cases d1 : a[i] < b[i]
      · rw [if_pos d1]
        refine Ev.pos d1 ?_
        exact Ev.val rfl
      · rw [if_neg d1]
        refine Ev.neg d1 ?_
        by_cases d2 : a[i] > b[i]
        · rw [if_pos d2]
          refine Ev.pos d2 ?_
          exact Ev.val rfl
        · rw [if_neg d2]
          refine Ev.neg d2 ?_
          exact ih (i + 1) (by omega) (by omega) (by omega)
    · rw [decide_eq_false c]
      exact last i (.inr (by omega)) h1 h2
theorem rbypoints_ev {a b : ByteArray} {ps qs : List Int} (h : Pts a.data.toList ps) (h2 : Pts b.data.toList qs) (ha : a.size ≤ 100000) (hb : b.size ≤ 100000) : Ev (fun k => hopperref08_ByPoints.f k a b) (cmpZ ps qs) := by
  have hl := h.length_le
  rw [dsz] at hl
  unfold hopperref08_ByPoints.f
  refine Ev.bind (rpoints_ev h (by omega)) ?_
  refine Ev.bind (rpoints_ev h2 (by omega)) ?_
  exact rpcmp_l0 ps qs (by omega) ps.length 0 rfl (by omega) (by omega)
theorem nani_f (a : Int) : cmp_isNaN_int.f a = some false := by simp [cmp_isNaN_int.f]
theorem cmpi_f (a b : Int) : cmp_Compare_int.f a b = some (if a < b then -1 else if a > b then 1 else 0) := by
  unfold cmp_Compare_int.f
  rw [nani_f, nani_f]
  simp only [Option.bind_some]
  rw [if_neg (by simp), if_neg (by simp)]
  split
  · rfl
  · split <;> rfl
theorem scmp_l0 (a b : List Int) (ha : a.length ≤ 1000000) : ∀ (n i : Nat), a.length - i = n → i ≤ a.length → i ≤ b.length → Ev (fun k => slices_Compare_int_int.l0 k a b a (a.length : Int) (i : Int)) (cmpZ (a.drop i) (b.drop i)) := by
  intro n
  induction n with
  | zero =>
    intro i hn h1 h2
    refine Ev.step (fun k => by rw [slices_Compare_int_int.l0]) ?_
    refine Ev.neg (by omega) ?_
    rw [List.drop_eq_nil_of_le (by omega : a.length ≤ i)]
    by_cases c2 : b.length = i
    · rw [List.drop_eq_nil_of_le (by omega : b.length ≤ i)]
      refine Ev.neg (by omega) ?_
      exact Ev.val rfl
    · rw [drop_at b i (by omega)]
      refine Ev.pos (by omega) ?_
      exact Ev.val rfl
  | succ n ih =>
    intro i hn h1 h2
    have l1 : i < a.length := by omega
    refine Ev.step (fun k => by rw [slices_Compare_int_int.l0]) ?_
    refine Ev.pos (by omega) ?_
    refine Ev.pos (by omega) ?_
    refine Ev.pos (by omega) ?_
    by_cases c : (i : Int) ≥ (b.length : Int)
    · rw [List.drop_eq_nil_of_le (by omega : b.length ≤ i), drop_at a i l1]
      refine Ev.pos c ?_
      exact Ev.val rfl
    · have l2 : i < b.length := by omega
      refine Ev.neg c ?_
      refine Ev.pos (by omega) ?_
      rw [rdn a i l1, rdn b i l2, w64s (n := a.length) (by omega) (by omega), drop_at a i l1, drop_at b i l2, cmpZ]
      refine Ev.bind (Ev.c (cmpi_f _ _)) ?_
      by_cases d1 : a[i] < b[i]
      · rw [if_pos d1, if_pos d1]
        refine Ev.neg (by omega) ?_
        exact Ev.val rfl
      · rw [if_neg d1, if_neg d1]
        by_cases d2 : a[i] > b[i]
        · rw [if_pos d2, if_pos d2]
          refine Ev.neg (by omega) ?_
          exact Ev.val rfl
        · rw [if_neg d2, if_neg d2]
          refine Ev.pos rfl ?_
          exact ih (i + 1) (by omega) (by omega) (by omega)
theorem bypoints_ev {a b : ByteArray} {ps qs : List Int} (h : Pts a.data.toList ps) (h2 : Pts b.data.toList qs) (ha : a.size ≤ 100000) (hb : b.size ≤ 100000) : Ev (fun k => text_ByPoints.f k a b) (cmpZ ps qs) := by
  have hl := h.length_le
  rw [dsz] at hl
  unfold text_ByPoints.f
  refine Ev.bind (points_ev h (by omega)) ?_
  refine Ev.bind (points_ev h2 (by omega)) ?_
  have e := scmp_l0 ps qs (by omega) ps.length 0 rfl (by omega) (by omega)
  refine Ev.bind (a := cmpZ ps qs) (by unfold slices_Compare_int_int.f; exact e) ?_
  exact Ev.val rfl
end Go.Proofs.YtbgilalhjeodaaaDoor.Pure
