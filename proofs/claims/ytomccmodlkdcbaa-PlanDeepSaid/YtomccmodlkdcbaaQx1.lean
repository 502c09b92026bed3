-- PRINTED by print.py (a twelfth state) out of the translation. Not trusted: Lean checks it.
import Derived.Test.YtomccmodlkdcbaaQx0
namespace Go.Proofs.Ytomccmodlkdcbaa.Q
open Go.RowKit Go.Proofs.YtomccmodlkdcbaaW.PrintWords Go.Proofs.YtomccmodlkdcbaaW.PrintLast Go.Proofs.YtomccmodlkdcbaaW.PrintMore
attribute [local go_sem] str_gtr str_geq str_leq max2_int min2_int max_two min_two max_three min_three max_four min_four   -- for this text's walks alone
set_option linter.unusedVariables false
set_option linter.unusedSimpArgs false

/-! ### plan_has: function 40 -/
-- told by hand
theorem reps_bools (w : World) (base : Nat) (ok : Nat → Prop) (ps : List Bool) : Reps (Kd.bool.M w base ok) 1 ps (ps.map Value.bool) := ⟨by simp, fun j p hj => by
  have e : ((ps.map Value.bool).drop (j * 1)).take 1 = [Value.bool p] := by
    obtain ⟨h1, h2⟩ := List.getElem?_eq_some_iff.1 hj
    rw [Nat.mul_one, List.drop_eq_getElem_cons (by simpa using h1)]
    simp [h2]
  rw [e]
  rfl⟩
theorem own_bools {w w' : World} {v : Value} {W : World} {cells : Array Value} {g n : Nat} (ps : List Bool) (he : w' = W.alloc (.cells cells 4)) (hv : v = .slice (some ⟨g, 0, none⟩) n n) (hg : g = W.heap.size) (hn : n = ps.length) (hW : w.heap.size ≤ W.heap.size) (hps : ps.length ≤ 9223372036854775807) (hc : cells = (ps.map Value.bool).toArray) : Kd.R Kd.bool 4 w' w.heap.size (fun _ => True) v ps := by
  subst he hv hg hn hc
  exact ⟨fun _ _ => trivial, OwnRow.lit W w.heap.size (reps_bools _ _ _ ps) hW hps⟩
/-- Which parts a plan has; told of scans, joins and limits alone. -/
def plan_has.f (a0_0 : Int) (a0_1 : ByteArray) (a0_2 : Int) (a0_3 : Int) (a0_4 : ByteArray) (a0_5 : Int) (a0_6 : Int) (l0_7 : List (S24)) (l0_8 : List (S50)) (l0_9 : List Int) (l0_10 : List (S72)) (a0_11 : Int) (l0_12 : List Int) (l0_13 : List Int) (l0_14 : List (S52)) (a0_15 : Int) (a0_16 : Int) (l0_17 : List (S31)) : Option (List Bool) :=
  if a0_2 = 0 ∧ a0_3 = 0 ∧ a0_4.toList = [] ∧ a0_5 = 0 ∧ a0_6 = 0 ∧ l0_7 = [] ∧ l0_8 = [] ∧ l0_9 = [] ∧ l0_10 = [] ∧ l0_14 = [] ∧ a0_15 = 0 then (if a0_1.toList ≠ [] ∧ a0_11 = 0 ∧ l0_12 = [] ∧ l0_13 = [] ∧ a0_16 = 0 then some [false, true, false, false, false, false, false, false] else if a0_1.toList = [] ∧ a0_11 = 0 ∧ l0_12 = [] ∧ l0_13 = [] ∧ a0_16 ≠ 0 then some [false, false, false, false, false, false, false, true] else if a0_1.toList = [] ∧ a0_11 ≠ 0 ∧ a0_16 = 0 then some [false, false, false, false, false, true, false, false] else none) else none
set_option maxHeartbeats 8000000 in
set_option maxRecDepth 1000000 in
theorem plan_has.calls (a0_0 : Int) (a0_1 : ByteArray) (a0_2 : Int) (a0_3 : Int) (a0_4 : ByteArray) (a0_5 : Int) (a0_6 : Int) (A0_7 : Option Addr) (c0_7 : Nat) (l0_7 : List (S24)) (A0_8 : Option Addr) (c0_8 : Nat) (l0_8 : List (S50)) (A0_9 : Option Addr) (c0_9 : Nat) (l0_9 : List Int) (A0_10 : Option Addr) (c0_10 : Nat) (l0_10 : List (S72)) (a0_11 : Int) (A0_12 : Option Addr) (c0_12 : Nat) (l0_12 : List Int) (A0_13 : Option Addr) (c0_13 : Nat) (l0_13 : List Int) (A0_14 : Option Addr) (c0_14 : Nat) (l0_14 : List (S52)) (a0_15 : Int) (a0_16 : Int) (A0_17 : Option Addr) (c0_17 : Nat) (l0_17 : List (S31)) (r : List Bool) (w : World) (hr0_7 : Kd.C k24 w A0_7 l0_7.length l0_7) (hc0_7 : l0_7.length ≤ c0_7) (hr0_8 : Kd.C k50 w A0_8 l0_8.length l0_8) (hc0_8 : l0_8.length ≤ c0_8) (hr0_9 : Kd.C (Kd.int .i64) w A0_9 l0_9.length l0_9) (hc0_9 : l0_9.length ≤ c0_9) (hr0_10 : Kd.C k72 w A0_10 l0_10.length l0_10) (hc0_10 : l0_10.length ≤ c0_10) (hr0_12 : Kd.C (Kd.int .i64) w A0_12 l0_12.length l0_12) (hc0_12 : l0_12.length ≤ c0_12) (hr0_13 : Kd.C (Kd.int .i64) w A0_13 l0_13.length l0_13) (hc0_13 : l0_13.length ≤ c0_13) (hr0_14 : Kd.C k52 w A0_14 l0_14.length l0_14) (hc0_14 : l0_14.length ≤ c0_14) (hr0_17 : Kd.C k31 w A0_17 l0_17.length l0_17) (hc0_17 : l0_17.length ≤ c0_17) (h : plan_has.f a0_0 a0_1 a0_2 a0_3 a0_4 a0_5 a0_6 l0_7 l0_8 l0_9 l0_10 a0_11 l0_12 l0_13 l0_14 a0_15 a0_16 l0_17 = some r) :
    Calls Try.prog 40 #[.agg #[.int .i64 a0_0, .string a0_1, .int .i64 a0_2, .int .i64 a0_3, .string a0_4, .int .i64 a0_5, .int .i64 a0_6, .slice A0_7 l0_7.length c0_7, .slice A0_8 l0_8.length c0_8, .slice A0_9 l0_9.length c0_9, .slice A0_10 l0_10.length c0_10, .int .i64 a0_11, .slice A0_12 l0_12.length c0_12, .slice A0_13 l0_13.length c0_13, .slice A0_14 l0_14.length c0_14, .int .i64 a0_15, .int .i64 a0_16, .slice A0_17 l0_17.length c0_17]] w fun e w' => ∃ v0_ : Value, e = .returned (v0_) ∧ Kd.R Kd.bool 4 w' w.heap.size (fun _ => True) v0_ r ∧ Below w.heap.size w w' := by
  clear hr0_7 hr0_8 hr0_9 hr0_10 hr0_12 hr0_13 hr0_14 hr0_17 hc0_7 hc0_8 hc0_9 hc0_10 hc0_12 hc0_13 hc0_14 hc0_17
  unfold plan_has.f at h
  by_cases hg : a0_2 = 0 ∧ a0_3 = 0 ∧ a0_4.toList = [] ∧ a0_5 = 0 ∧ a0_6 = 0 ∧ l0_7 = [] ∧ l0_8 = [] ∧ l0_9 = [] ∧ l0_10 = [] ∧ l0_14 = [] ∧ a0_15 = 0
  case neg => rw [if_neg hg] at h; cases h
  rw [if_pos hg] at h
  obtain ⟨rfl, rfl, e4, rfl, rfl, rfl, rfl, rfl, rfl, rfl, rfl⟩ := hg
  by_cases hA : a0_1.toList ≠ [] ∧ a0_11 = 0 ∧ l0_12 = [] ∧ l0_13 = [] ∧ a0_16 = 0
  · rw [if_pos hA] at h
    obtain rfl := Option.some.inj h
    clear h
    obtain ⟨e1, rfl, rfl, rfl, rfl⟩ := hA
    go_enter Try.func40, Try.ntmps40
    go_wp2
    go_ret
    refine ⟨_, rfl, own_bools [false, true, false, false, false, false, false, false] rfl rfl ?_ rfl ?_ (by decide) ?_, ?_⟩
    · simp
    · simp
    · first | rfl | (simp [e1]; done)
    · exact (((Below.refl _ _).alloc (Nat.le_refl _) _).alloc (by simp) _)
  rw [if_neg hA] at h
  by_cases hB : a0_1.toList = [] ∧ a0_11 = 0 ∧ l0_12 = [] ∧ l0_13 = [] ∧ a0_16 ≠ 0
  · rw [if_pos hB] at h
    obtain rfl := Option.some.inj h
    clear h
    obtain ⟨e1, rfl, rfl, rfl, e16⟩ := hB
    go_enter Try.func40, Try.ntmps40
    go_wp2
    go_ret
    refine ⟨_, rfl, own_bools [false, false, false, false, false, false, false, true] rfl rfl ?_ rfl ?_ (by decide) ?_, ?_⟩
    · simp
    · simp
    · first | rfl | (simp [e16]; done)
    · exact (((Below.refl _ _).alloc (Nat.le_refl _) _).alloc (by simp) _)
  rw [if_neg hB] at h
  by_cases hC : a0_1.toList = [] ∧ a0_11 ≠ 0 ∧ a0_16 = 0
  · rw [if_pos hC] at h
    obtain rfl := Option.some.inj h
    clear h
    obtain ⟨e1, e11, rfl⟩ := hC
    go_enter Try.func40, Try.ntmps40
    go_wp2
    go_ret
    refine ⟨_, rfl, own_bools [false, false, false, false, false, true, false, false] rfl rfl ?_ rfl ?_ (by decide) ?_, ?_⟩
    · simp
    · simp
    · first | rfl | (simp [e11]; done)
    · exact (((Below.refl _ _).alloc (Nat.le_refl _) _).alloc (by simp) _)
  · rw [if_neg hC] at h
    cases h

end Go.Proofs.Ytomccmodlkdcbaa.Q
