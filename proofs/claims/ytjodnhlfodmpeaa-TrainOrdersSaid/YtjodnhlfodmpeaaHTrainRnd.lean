/- train.Round as one plain function: what is counted, the best of it, in order. -/
import Derived.Test.YtjodnhlfodmpeaaHTrainBase
import Derived.Test.YtjodnhlfodmpeaaHSetOf
set_option linter.unusedVariables false
set_option linter.unusedSimpArgs false
set_option maxHeartbeats 2000000
namespace Go.Proofs.Ytjodnhlfodmpeaa.Pure
open Go.RowKit Go.Proofs.Ytjodnhlfodmpeaa.Q Go.Proofs.YtjodnhlfodmpeaaW.PrintWords Go.Proofs.YtjodnhlfodmpeaaW.PrintLast Go.Proofs.YtjodnhlfodmpeaaW.PrintMore
open HopPure (bl cmpL Rising Table IsLongest lon lon_of stp stp_pos stp_le piecesL piecesL_nil piecesL_cons cutL_size cutL_len spellP countL countL_cons countL_size countL_len)

theorem ofB_list (l : List UInt8) : (ofB l).data.toList = l := by simp [ofB]
theorem ofB_size (l : List UInt8) : (ofB l).size = l.length := by rw [← dsz, ofB_list]
theorem bl_lt (x y : List UInt8) : bl x y = true ↔ x < y := by rw [← less_bl, Go.Proofs.bytesLess_eq]; simp
theorem bsOf_eq (s : ByteArray) : bsOf s = s.data.toList := rfl
/-! ### pieces -/
theorem mx1 (n : Nat) : mx (n : Int) 1 = ((max n 1 : Nat) : Int) := by unfold mx; split <;> omega
theorem pieces_l0 (t : List ByteArray) (ht : Table (TL t)) : ∀ (n : Nat) (s : ByteArray) (acc : List ByteArray), s.size = n → acc.length + n ≤ 1000000 →
    Ev (fun k => train_pieces.l0 k t s acc) (acc ++ (piecesL (TL t) s.data.toList).map ofB) := by
  intro n
  induction n using Nat.strongRecOn with
  | _ n ih =>
  intro s acc hn ha
  have hd := dsz s
  by_cases c : s.size = 0
  · refine Ev.step (fun k => by rw [train_pieces.l0]) (Ev.neg (by omega) (Ev.val ?_))
    rw [List.eq_nil_of_length_eq_zero (hd.trans c), piecesL_nil]; simp
  · have hne : s.data.toList ≠ [] := fun e => c (by rw [← hd, e]; rfl)
    obtain ⟨cd, m, h1, h2⟩ := longest_ev t s ht
    obtain rfl := lon_of h2
    have e1 : mx ((lon (TL t) s.data.toList : Nat) : Int) 1 = ((stp (TL t) s.data.toList : Nat) : Int) := mx1 _
    have h3 := stp_le (T := TL t) hne
    have h4 := stp_pos (TL t) s.data.toList
    rw [hd] at h3
    have hs : (s.extract (stp (TL t) s.data.toList) s.size).size = s.size - stp (TL t) s.data.toList := by rw [← dsz, cut_from, List.length_drop, hd]
    have h5 := ih (s.size - stp (TL t) s.data.toList) (by omega) (s.extract (stp (TL t) s.data.toList) s.size) (acc ++ [s.extract 0 (stp (TL t) s.data.toList)]) hs (by simp; omega)
    refine Ev.step (fun k => by rw [train_pieces.l0]) (Ev.pos (by omega) (Ev.bind h1 ?_))
    dsimp only
    rw [e1]
    refine Ev.pos (by omega) (Ev.pos (by omega) (Ev.pos (by omega) ?_))
    rw [Int.toNat_natCast]
    refine Ev.eq h5 ?_
    rw [cut_from, piecesL_cons _ hne, List.append_assoc]
    congr 1
    rw [List.map_cons, List.singleton_append]
    congr 1
    exact ba_ext (by rw [cut_to, ofB_list])
theorem pieces_ev (t : List ByteArray) (ht : Table (TL t)) (s : ByteArray) (hs : s.size ≤ 1000000) : Ev (fun k => train_pieces.f k t s) ((piecesL (TL t) s.data.toList).map ofB) := by
  unfold train_pieces.f
  exact Ev.eq (pieces_l0 t ht s.size s [] rfl (by simp; omega)) (by simp)
/-! ### what is counted -/
theorem spell_eq : ∀ (ps : List (List UInt8)) (last : ByteArray) (b : Bool), spellL (ps.map ofB) last b = spellP ps last.data.toList b
  | [], _, _ => rfl
  | p :: ps, last, b => by
    have h := spell_eq ps (ofB p) true
    rw [ofB_list] at h
    rw [List.map_cons, spellL, spellP, h, bsOf_eq, bsOf_eq, ofB_list, ba_append_list, ofB_list, ofB_size, dsz]
/-- The bytes of strings. -/
def bytesN (ss : List ByteArray) : Nat := ((TL ss).map List.length).sum
theorem bytesN_cons (s : ByteArray) (ss : List ByteArray) : bytesN (s :: ss) = s.size + bytesN ss := by simp [bytesN, TL]
theorem bytesN_append (a b : List ByteArray) : bytesN (a ++ b) = bytesN a + bytesN b := by simp [bytesN, TL]
theorem table8 {t : List ByteArray} (ht : Table (TL t)) : ∀ x ∈ TL t, x.length ≤ 8 := fun x hx => (ht.sizes x hx).2
theorem spelled_ev (t : List ByteArray) (ht : Table (TL t)) : ∀ ss : List ByteArray, bytesN ss ≤ 100000 → Ev (fun k => spelled (fun s => train_pieces.f k t s) ss) (countL (TL t) (TL ss))
  | [], _ => Ev.val rfl
  | s :: ss, h => by
    rw [bytesN_cons] at h
    have h1 := spelled_ev t ht ss (by omega)
    have h2 := pieces_ev t ht s (by omega)
    have h3 : (((piecesL (TL t) s.data.toList).map ofB).all fun p => decide (p.size ≤ 1000)) = true := by
      rw [List.all_eq_true]
      intro p hp
      obtain ⟨q, hq, rfl⟩ := List.mem_map.1 hp
      have := (cutL_size (table8 ht) _ _ q hq).2
      rw [ofB_size]
      exact decide_eq_true (by omega)
    refine Ev.congr (fun k => by rw [spelled]) ?_
    refine Ev.bind h2 (Ev.pos h3 (Ev.bind h1 (Ev.val ?_)))
    rw [spell_eq]
    exact (countL_cons (TL t) s.data.toList (TL ss)).symm
theorem counted_ev (t : List ByteArray) (ht : Table (TL t)) (ss : List ByteArray) (h : bytesN ss ≤ 100000) : Ev (fun k => countedP k t ss) (countL (TL t) (TL ss)) := by
  have h2 := countL_len (TL t) (TL ss)
  unfold countedP
  exact Ev.bind (spelled_ev t ht ss h) (Ev.pos (by unfold bytesN at h; omega) (Ev.val rfl))
/-! ### in order -/
def mayB (s : ByteArray) : Bool := decide (1 ≤ s.size) && decide (s.size ≤ 8)
theorem may_f (s : ByteArray) : symbol_may.f s = some (mayB s) := by
  unfold symbol_may.f mayB
  by_cases h : 1 ≤ s.size
  · rw [if_pos (by omega), decide_eq_true h, Bool.true_and]
    congr 1
    exact decide_eq_decide.2 (by omega)
  · rw [if_neg (by omega), decide_eq_false h, Bool.false_and]
/-- Symbols out of strings: in order, each once. -/
def ordS (l : List ByteArray) : List ByteArray := (compS (sortS (l.filter mayB))).take 255
theorem sorder_end (l acc : List ByteArray) (n : Int) (i : Int) (h : ¬ i < n) (hl : acc.length ≤ 1000000) : Ev (fun k => symbol_Order.l0 k acc l n i) ((compS (sortS acc)).take 255) := by
  have h1 : slices_Sort_string_string.f acc = some (sortS acc) := by unfold slices_Sort_string_string.f; rw [if_pos (by omega)]
  have h2 : slices_Compact_string_string.f (sortS acc) = some (compS (sortS acc)) := by
    unfold slices_Compact_string_string.f
    rw [if_pos (by unfold sortS; simp; omega)]
  have e : mn ((compS (sortS acc)).length : Int) 255 = ((min (compS (sortS acc)).length 255 : Nat) : Int) := by unfold mn; split <;> omega
  refine Ev.step (fun k => by rw [symbol_Order.l0]) (Ev.neg h (Ev.bind (Ev.c h1) (Ev.bind (Ev.c h2) ?_)))
  rw [e]
  refine Ev.pos (by omega) (Ev.pos (by omega) (Ev.val ?_))
  rw [Int.toNat_natCast]
  by_cases h3 : (compS (sortS acc)).length ≤ 255
  · rw [Nat.min_eq_left h3, List.take_of_length_le (Nat.le_refl _), List.take_of_length_le h3]
  · rw [Nat.min_eq_right (by omega)]
theorem sorder_l0 (l : List ByteArray) (hl : l.length ≤ 1000000) : ∀ (n i : Nat) (acc : List ByteArray), l.length - i = n → i ≤ l.length → acc.length ≤ i →
    Ev (fun k => symbol_Order.l0 k acc l (l.length : Int) (i : Int)) ((compS (sortS (acc ++ (l.drop i).filter mayB))).take 255) := by
  intro n
  induction n with
  | zero =>
    intro i acc hn hi ha
    rw [List.drop_eq_nil_of_le (by omega), List.filter_nil, List.append_nil]
    exact sorder_end l acc _ _ (by omega) (by omega)
  | succ n ih =>
    intro i acc hn hi ha
    have hil : i < l.length := by omega
    refine Ev.step (fun k => by rw [symbol_Order.l0]) (Ev.pos (by omega) (Ev.pos (by omega) (Ev.pos (by omega) ?_)))
    rw [rdOfn _ l i hil, drop_at l i hil, w64s (n := l.length) hil (by omega)]
    refine Ev.bind (Ev.c (may_f _)) ?_
    cases hm : mayB l[i] with
    | true =>
      rw [List.filter_cons_of_pos hm]
      refine Ev.pos rfl (Ev.pos (by omega) ?_)
      exact Ev.eq (ih (i + 1) (acc ++ [l[i]]) (by omega) (by omega) (by simp; omega)) (by rw [List.append_assoc]; rfl)
    | false =>
      rw [List.filter_cons_of_neg (by rw [hm]; simp)]
      exact Ev.neg (by simp) (ih (i + 1) acc (by omega) (by omega) (by omega))
theorem sorder_ev (l : List ByteArray) (hl : l.length ≤ 1000000) : Ev (fun k => symbol_Order.f k l) (ordS l) := by
  unfold symbol_Order.f ordS
  exact sorder_l0 l hl _ 0 [] rfl (by omega) (by simp)
theorem SetOf.rising {r l : List ByteArray} (h : SetOf r l) : Rising (TL r) := fun i j hi hj hij => by
  have hi2 : i < r.length := by rw [TL_length] at hi; exact hi
  have hj2 : j < r.length := by rw [TL_length] at hj; exact hj
  rw [TL_get r i hi2, TL_get r j hj2]
  exact (bl_lt _ _).2 (List.pairwise_iff_getElem.1 h.1 i j hi2 hj2 hij)
theorem mayB_iff (s : ByteArray) : mayB s = true ↔ 1 ≤ s.size ∧ s.size ≤ 8 := by simp [mayB]
theorem TL_take (l : List ByteArray) (n : Nat) : TL (l.take n) = (TL l).take n := by unfold TL; rw [List.map_take]
theorem rising_take {t : List (List UInt8)} (h : Rising t) (n : Nat) : Rising (t.take n) := fun i j hi hj hij => by
  rw [List.length_take] at hi hj
  rw [List.getElem_take, List.getElem_take]
  exact h i j (by omega) (by omega) hij
theorem ordS_table (l : List ByteArray) : Table (TL (ordS l)) := by
  have h := compact_sort_set (l.filter mayB)
  refine ⟨?_, fun x hx => ?_, ?_⟩
  · unfold ordS
    rw [TL_take]
    exact rising_take h.rising _
  · obtain ⟨s, hs, rfl⟩ := List.mem_map.1 hx
    have h2 := (h.2 s).1 (List.mem_of_mem_take hs)
    have h3 := (mayB_iff s).1 (List.mem_filter.1 h2).2
    rw [dsz]; exact h3
  · rw [TL_length]; unfold ordS; rw [List.length_take]; omega
theorem ordS_set (l : List ByteArray) (hl : l.length ≤ 255) : SetOf (ordS l) (l.filter mayB) := by
  have h := compact_sort_set (l.filter mayB)
  have h1 : (compS (sortS (l.filter mayB))).length ≤ 255 := by
    have h2 := slices_Compact_string_string.le ((sortS (l.filter mayB)).map toB)
    have h3 := List.length_filter_le mayB l
    have h4 : ((sortS (l.filter mayB)).map toB).length = (l.filter mayB).length := by unfold sortS; simp
    unfold compS
    rw [List.length_map]; omega
  unfold ordS
  rw [List.take_of_length_le h1]
  exact h
/-! ### a round -/
def bestB (M : List (List UInt8)) : List ByteArray := ((topL M).take 255).map ofB
theorem bestB_len (M : List (List UInt8)) : (bestB M).length ≤ 255 := by unfold bestB; rw [List.length_map, List.length_take]; omega
/-- A better table. -/
def roundB (t ss : List ByteArray) : List ByteArray := ordS (bestB (countL (TL t) (TL ss)))
theorem round_ev (t : List ByteArray) (ht : Table (TL t)) (ss : List ByteArray) (h : bytesN ss ≤ 100000) : Ev (fun k => train_Round.f k t ss) (roundB t ss) := by
  unfold train_Round.f
  refine Ev.bind (counted_ev t ht ss h) (Ev.pos ?_ (sorder_ev _ (by have := bestB_len (countL (TL t) (TL ss)); unfold bestB at this; omega)))
  rw [List.all_eq_true]
  intro x hx
  have := (countL_size (table8 ht) _ x hx).2
  exact decide_eq_true (by omega)
theorem table_nil : Table (TL []) := ⟨fun i j hi => by simp [TL] at hi, by simp [TL], by simp [TL]⟩
theorem roundB_table (t ss : List ByteArray) : Table (TL (roundB t ss)) := ordS_table _
/-- A table after so many rounds. -/
def trainB (ss : List ByteArray) : Nat → List ByteArray
  | 0 => []
  | n + 1 => roundB (trainB ss n) ss
theorem trainB_table (ss : List ByteArray) : ∀ n, Table (TL (trainB ss n))
  | 0 => table_nil
  | n + 1 => roundB_table _ _
end Go.Proofs.Ytjodnhlfodmpeaa.Pure
