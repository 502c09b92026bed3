-- PRINTED by print.py (a twelfth state) out of the translation. Not trusted: Lean checks it.
import Derived.Test.YtdojgfkcpaeacaaDoorQx0
namespace Go.Proofs.YtdojgfkcpaeacaaDoor.Q
open Go.RowKit Go.Proofs.YtdojgfkcpaeacaaDoorW.PrintWords Go.Proofs.YtdojgfkcpaeacaaDoorW.PrintLast Go.Proofs.YtdojgfkcpaeacaaDoorW.PrintMore
attribute [local go_sem] str_gtr str_geq str_leq max2_int min2_int max_two min_two max_three min_three max_four min_four
set_option linter.unusedVariables false
set_option maxHeartbeats 4000000
set_option maxRecDepth 1000000
set_option linter.unusedSimpArgs false

/-! ### order_Right: function 17 -/
-- told by hand
/-- Is a key wrong. -/
def keyWrong (n : Int) (x : S39) : Bool := decide (x.f0 < 0) || (decide (n ≤ x.f0) || (decide (x.f1 < 0) || decide (2 < x.f1)))
def order_Right.f (l0 : List (S39)) (a1 : Int) : Option Bool := some (decide ((l0.length : Int) ≤ 8) && !(l0.any (keyWrong a1)))
/-- The literal that is handed over. -/
theorem order_Right.wrong (n : Int) (B : Nat) (x : S39) (W : World) (hB : B < W.heap.size) (hc : W.cell? ⟨B, 0, none⟩ = some (.int .i64 n)) :
  Calls Tryd.prog 26 #[.agg #[.int .i64 x.f0, .int .i64 x.f1, .bool x.f2], .pointer (some ⟨B, 0, none⟩)] W fun e w' => e = .returned (.bool (keyWrong n x)) ∧ Below W.heap.size W w' := by
 obtain ⟨f0, f1, f2⟩ := x; have hne : B ≠ W.heap.size := by omega
 unfold keyWrong
 by_cases c0 : f0 < 0
 ·have d0 := decide_eq_true c0; go_enter Tryd.func26, Tryd.ntmps26
  go_wp2
  go_ret
  exact ⟨by simp [d0], (Below.refl _ _).alloc (Nat.le_refl _) _⟩
 have d0 := decide_eq_false c0; by_cases c1 : n ≤ f0
 ·have d1 := decide_eq_true c1; go_enter Tryd.func26, Tryd.ntmps26
  go_wp2
  go_ret
  exact ⟨by simp [d0, d1], (Below.refl _ _).alloc (Nat.le_refl _) _⟩
 have d1 := decide_eq_false c1; by_cases c2 : f1 < 0
 ·have d2 := decide_eq_true c2; go_enter Tryd.func26, Tryd.ntmps26
  go_wp2
  go_ret
  exact ⟨by simp [d0, d1, d2], (Below.refl _ _).alloc (Nat.le_refl _) _⟩
 have d2 := decide_eq_false c2
 cases d3 : decide (2 < f1) with
 | true =>
  go_enter Tryd.func26, Tryd.ntmps26
  go_wp2
  go_ret
  exact ⟨by simp [d0, d1, d2, d3], (Below.refl _ _).alloc (Nat.le_refl _) _⟩
 | false =>
  go_enter Tryd.func26, Tryd.ntmps26
  go_wp2
  go_ret
  exact ⟨by simp [d0, d1, d2, d3], (Below.refl _ _).alloc (Nat.le_refl _) _⟩
/-- slices.IndexFunc over keys. -/
theorem order_Right.index (n : Int) (B : Nat) (A0 : Option Addr) (c0 : Nat) (l0 : List (S39)) (w : World) (hr : Kd.C k39 w A0 l0.length l0) (hl : l0.length ≤ 9223372036854775807) (hB : B < w.heap.size) (hc : w.cell? ⟨B, 0, none⟩ = some (.int .i64 n)) :
  Calls Tryd.prog 38 #[.slice A0 l0.length c0, .func (.func 26) #[] #[.pointer (some ⟨B, 0, none⟩)]] w fun e w' => e = .returned (.int .i64 (firstOf (keyWrong n) l0)) ∧ Below w.heap.size w w' := by
 have HR := Aside0.mk hr; have HC := Aside0.mk hc; have HB0 := Aside0.mk hB; clear hr hc hB; go_enter Tryd.func38, Tryd.ntmps38
 go_wp2
 go_loopg [5, 8] l0.length (fun gg v5 s8 wr => ∃ kk : Nat, kk ≤ l0.length ∧ l0.length - kk ≤ gg ∧ s8 = .int .i64 kk ∧ Aside0 (Below w.heap.size w wr) ∧ Aside0 (∀ j, j < kk → keyWrong n (l0.getD j z39) = false))
 case atStart => exact ⟨0, Nat.zero_le _, by omega, rfl, ⟨Below.refl _ w⟩, ⟨fun j hj => absurd hj (Nat.not_lt_zero _)⟩⟩
 case round =>
  obtain ⟨kk, hkk, hg, rfl, BW, NO⟩ := hrel; by_cases hlt : kk < l0.length
  ·have hltz : (kk : Int) < (l0.length : Int) := by omega
   obtain ⟨ad, e0, x0, x1, x2⟩ := at_T39 HR.out (kk : Int) (by omega) hltz
   rw [show ((kk : Int)).toNat = kk by omega] at x0 x1 x2
   subst e0; have hy0 : rd_T39 l0 (kk : Int) = l0.getD kk z39 := by unfold rd_T39; rw [show ((kk : Int)).toNat = kk by omega]
   rw [hy0] at x0 x1 x2
   replace x0 := (BW.out.cell (World.block_lt_of_cell? w _ x0)).trans x0
   replace x1 := (BW.out.cell (World.block_lt_of_cell? w _ x1)).trans x1
   replace x2 := (BW.out.cell (World.block_lt_of_cell? w _ x2)).trans x2
   have hcall := order_Right.wrong n B (l0.getD kk z39) wr (Nat.lt_of_lt_of_le HB0.out BW.out.size) ((BW.out.cell (p := ⟨B, 0, none⟩) HB0.out).trans HC.out)
   clear hy0; generalize hy : l0.getD kk z39 = y at x0 x1 x2 hcall
   have HY := Aside0.mk hy; clear hy
   cases hq : keyWrong n y with
   | true =>
    rw [hq] at hcall
    go_wp2_with (go_at_call 26; refine hcall.mono ?_; rintro e w' ⟨rfl, hb'⟩)
    go_ret
    exact ⟨by rw [firstOf_hit (keyWrong n) l0 z39 kk hlt (by rw [HY.out]; exact hq) NO.out] <;> rfl, below_step BW.out hb'⟩
   | false =>
    rw [hq] at hcall
    go_wp2_with (go_at_call 26; refine hcall.mono ?_; rintro e w' ⟨rfl, hb'⟩)
    go_roundg (l0.length - (kk + 1))
    case measure => omega
    case rel =>
     refine ⟨kk + 1, by omega, by omega, by go_num, ⟨below_step BW.out hb'⟩, ⟨fun j hj => ?_⟩⟩
     by_cases e : j = kk
     ·subst e; rw [HY.out]; exact hq
     ·exact NO.out j (by omega)
  ·have hltz : ¬ (kk : Int) < (l0.length : Int) := by omega
   have hkk2 : kk = l0.length := by omega
   subst hkk2; go_wp2
   go_ret
   exact ⟨by rw [firstOf_miss (keyWrong n) l0 z39 NO.out] <;> rfl, BW.out⟩
/-- slices.ContainsFunc over keys. -/
theorem order_Right.contains (n : Int) (B : Nat) (A0 : Option Addr) (c0 : Nat) (l0 : List (S39)) (w : World) (hr : Kd.C k39 w A0 l0.length l0) (hl : l0.length ≤ 9223372036854775807) (hB : B < w.heap.size) (hc : w.cell? ⟨B, 0, none⟩ = some (.int .i64 n)) :
  Calls Tryd.prog 27 #[.slice A0 l0.length c0, .func (.func 26) #[] #[.pointer (some ⟨B, 0, none⟩)]] w fun e w' => e = .returned (.bool (l0.any (keyWrong n))) ∧ Below w.heap.size w w' := by
 have hI := fun W (hr : Kd.C k39 W A0 l0.length l0) hB hc => order_Right.index n B A0 c0 l0 W hr hl hB hc
 have HA := Aside0.mk (firstOf_any (keyWrong n) l0)
 generalize firstOf (keyWrong n) l0 = q at hI HA
 rw [← HA.out]
 go_enter Tryd.func27, Tryd.ntmps27
 go_wp2_with (go_at_call 38; refine (hI _ hr hB hc).mono ?_; rintro e w' ⟨rfl, hb'⟩)
 go_ret
 exact ⟨rfl, hb'⟩
theorem order_Right.calls (A0 : Option Addr) (c0 : Nat) (l0 : List (S39)) (a1 : Int) (r : Bool) (w : World) (hr0 : Kd.C k39 w A0 l0.length l0) (hc0 : l0.length ≤ c0) (h : order_Right.f l0 a1 = some r) :
  Calls Tryd.prog 17 #[.slice A0 l0.length c0, .int .i64 a1] w fun e w' => e = .returned (.bool r) ∧ Below w.heap.size w w' := by
 have hl : l0.length ≤ 9223372036854775807 := hr0.2.1; have hlt := World.block_lt_of_cell? w
 unfold order_Right.f at h
 have HE := Aside0.mk (Option.some.inj h)
 clear h; have hC := fun W (hr : Kd.C k39 W A0 l0.length l0) B hB hc => order_Right.contains a1 B A0 c0 l0 W hr hl hB hc
 by_cases c1 : (l0.length : Int) ≤ 8
 ·have d1 := decide_eq_true c1; rw [d1, Bool.true_and] at HE
  go_enter Tryd.func17, Tryd.ntmps17
  go_wp2_with (go_at_call 27; refine (hC _ (Kd.C_alloc hr0 _) w.heap.size (by simp) (by simp)).mono ?_; rintro e w' ⟨rfl, hb'⟩)
  go_ret
  exact ⟨by rw [← HE.out] <;> rfl, below_step ((Below.refl _ w).alloc (Nat.le_refl _) _) hb'⟩
 ·have d1 := decide_eq_false c1; rw [d1, Bool.false_and] at HE
  go_enter Tryd.func17, Tryd.ntmps17
  go_wp2
  go_ret
  exact ⟨by rw [← HE.out] <;> rfl, (Below.refl _ w).alloc (Nat.le_refl _) _⟩

end Go.Proofs.YtdojgfkcpaeacaaDoor.Q
