-- PRINTED by print.py (a twelfth state) out of the translation. Not trusted: Lean checks it.
import Derived.Test.YtdojgfkcpaeacaaDoorQx0
import Derived.Test.YtdojgfkcpaeacaaDoorQx2
namespace Go.Proofs.YtdojgfkcpaeacaaDoor.Q
open Go.RowKit Go.Proofs.YtdojgfkcpaeacaaDoorW.PrintWords Go.Proofs.YtdojgfkcpaeacaaDoorW.PrintLast Go.Proofs.YtdojgfkcpaeacaaDoorW.PrintMore
attribute [local go_sem] str_gtr str_geq str_leq max2_int min2_int max_two min_two max_three min_three max_four min_four
set_option linter.unusedVariables false
set_option maxHeartbeats 4000000
set_option maxRecDepth 1000000
set_option linter.unusedSimpArgs false

/-! ### text_Fold: function 40 -/
-- told by hand
/-- A letter's small one. -/
def low (x : Int) : Int := if x ≥ 65 then (if x ≤ 90 then (((x + 97) % 256) - 65) % 256 else x) else x
theorem small_low (x : Int) : text_small.f x = some (low x) := by
 unfold text_small.f low
 split
 ·split <;> rfl
 ·rfl
def text_Fold.f (a0 : ByteArray) : Option ByteArray := if a0.size ≤ 9223372036854775807 then some (strOfNums ((bytesOf a0).map low)) else none
/-- The row behind so many rounds. -/
def foldRow (l : List Int) (n : Nat) : Array Int := ((l.take n).map low ++ l.drop n).toArray
theorem foldRow_size (l : List Int) (n : Nat) : (foldRow l n).size = l.length := by simp [foldRow]; omega
theorem foldRow_zero (l : List Int) : foldRow l 0 = l.toArray := by simp [foldRow]
theorem foldRow_all (l : List Int) (n : Nat) (h : l.length ≤ n) : foldRow l n = (l.map low).toArray := by simp [foldRow, List.take_of_length_le h, List.drop_eq_nil_of_le h]
theorem foldRow_at (l : List Int) (n : Nat) (h : n < l.length) : (foldRow l n)[n]! = l[n] := by
 rw [getElem!_pos _ _ (by rw [foldRow_size]; exact h)]
 simp only [foldRow, List.getElem_toArray]
 rw [List.getElem_append_right (by simp; omega)]
 simp [Nat.min_eq_left (Nat.le_of_lt h)]
theorem foldRow_set (l : List Int) (n : Nat) (h : n < l.length) : (foldRow l n).setIfInBounds n (low l[n]) = foldRow l (n + 1) := by
 apply Array.ext'
 simp only [foldRow, List.setIfInBounds_toArray]
 rw [List.set_append_right _ _ (by simp; omega)]
 simp only [List.length_map, List.length_take, Nat.min_eq_left (Nat.le_of_lt h), Nat.sub_self]
 rw [List.drop_eq_getElem_cons h, List.set_cons_zero, List.take_succ_eq_append_getElem h, List.map_append, List.append_assoc]
 rfl
theorem text_Fold.calls (a0 : ByteArray) (r : ByteArray) (w : World) (h : text_Fold.f a0 = some r) :
  Calls Tryd.prog 40 #[.string a0] w fun e w' => e = .returned (.string r) ∧ Below w.heap.size w w' := by
 unfold text_Fold.f at h
 by_cases hs : a0.size ≤ 9223372036854775807
 case neg => rw [if_neg hs] at h; cases h
 rw [if_pos hs] at h; have H0 := Aside0.mk (Option.some.inj h)
 clear h; obtain ⟨W1, cap, kc, hH, hB1, hlt1⟩ := conv_row 9 34 5 Tryd.underlying9 Tryd.underlying34 Tryd.underlying5 a0 w
 have HH := Aside0.mk hH; have HB := Aside0.mk hB1; clear hH hB1 hlt1; go_enter Tryd.func40, Tryd.ntmps40
 go_wp2
 clear kc; go_loopg [4, 5, 10] a0.size (fun kq v4 v5 v10 w' => ∃ (n : Nat), v10 = .int .i64 n ∧ n ≤ a0.size ∧ kq + n = a0.size ∧ Aside0 (Sort.Holds (Value.int .u8) w' w.heap.size 0 (foldRow (bytesOf a0) n)) ∧ Aside0 (Below w.heap.size w w'))
 case atStart => exact ⟨0, rfl, by omega, by omega, ⟨by rw [foldRow_zero]; exact HH.out⟩, HB⟩
 case round =>
  obtain ⟨n, rfl, h0, h1, HH, HB⟩ := hrel; by_cases hlt : n < a0.size
  ·have hlt2 : (n : Int) < (a0.size : Int) := by omega
   have hl : n < (bytesOf a0).length := by rw [bytesOf_length]; exact hlt
   have hsz : n < (foldRow (bytesOf a0) n).size := by rw [foldRow_size]; exact hl
   obtain ⟨x, hx⟩ : ∃ x, (bytesOf a0)[n] = x := ⟨_, rfl⟩
   have hc : wr.cell? ⟨w.heap.size, n, none⟩ = some (.int .u8 x) := by have := (HH.out n hsz).1; rw [foldRow_at _ _ hl, hx, Nat.zero_add] at this; exact this
   have hf : wr.frozen? ⟨w.heap.size, n, none⟩ = false := by have := (HH.out n hsz).2; rw [Nat.zero_add] at this; exact this
   have HS := Aside0.mk (small_low x)
   have HST : Aside0 (∀ W2 : World, Sort.Holds (Value.int .u8) W2 w.heap.size 0 (foldRow (bytesOf a0) n) → Sort.Holds (Value.int .u8) (W2.setCell ⟨w.heap.size, n, none⟩ (.int .u8 (low x))) w.heap.size 0 (foldRow (bytesOf a0) (n + 1))) := ⟨fun W2 h2 => by
    have := holds_set (Value.int .u8) h2 n hsz (low x)
    rw [Nat.zero_add, ← hx, foldRow_set _ _ hl, hx] at this
    exact this⟩
   clear hx hsz hl; go_wp2_with (first | ((with_reducible refine gate_callee (f := 48) rfl ?_); refine goesL_ (some 18) rfl rfl Tryd.func48 (by kernel_rfl) rfl #[.int .u8 x] rfl (by (try simp only [List.map_toArray, List.map_cons, List.map_nil]); first | done | rfl) ?_; (with_reducible refine (text_small.calls x _ _ HS.out).mono ?_); rintro e w' ⟨rfl, ⟨nd, rfl⟩⟩; refine ⟨_, rfl, ?_⟩))
   go_roundg (a0.size - (n + 1))
   case measure => omega
   case rel =>
    refine ⟨n + 1, by first | rfl | go_num, by omega, by omega, ⟨?_⟩, ⟨?_⟩⟩
    ·exact HST.out _ HH.out
    ·exact below_setc (by first | exact HB.out | exact pw_below_drewN HB.out _) (Nat.le_refl _) _ _
  ·have e : n = a0.size := by omega
   subst e; have hl2 : (bytesOf a0).length = a0.size := bytesOf_length a0; have hH2 := HH.out; rw [foldRow_all _ _ (Nat.le_of_eq hl2)] at hH2
   have hlen : ((bytesOf a0).map low).length = a0.size := by rw [List.length_map]; exact hl2
   have hcs := fun wx => Kd.C_string (w := wx) (src := 34) (dst := 9) (c := cap) Tryd.underlying34 Tryd.underlying5 Tryd.underlying9 (A := some ⟨w.heap.size, 0, none⟩) (n := a0.size) (xs := (bytesOf a0).map low)
   have hc1 := hcs _ (C_of_holds hH2 hlen hs)
   clear hcs hH2 hlen hl2; go_wp2
   go_ret
   exact ⟨by rw [← H0.out] <;> rfl, HB.out⟩

end Go.Proofs.YtdojgfkcpaeacaaDoor.Q
