-- PRINTED by print.py (a twelfth state) out of the translation. Not trusted: Lean checks it.
import Derived.Test.YtomccmodlkdcbaaQx0
import Derived.Test.YtomccmodlkdcbaaQx5
namespace Go.Proofs.Ytomccmodlkdcbaa.Q
open Go.RowKit Go.Proofs.YtomccmodlkdcbaaW.PrintWords Go.Proofs.YtomccmodlkdcbaaW.PrintLast Go.Proofs.YtomccmodlkdcbaaW.PrintMore
attribute [local go_sem] str_gtr str_geq str_leq max2_int min2_int max_two min_two max_three min_three max_four min_four
set_option linter.unusedVariables false
set_option maxHeartbeats 8000000
set_option maxRecDepth 1000000
set_option linter.unusedSimpArgs false

/-! ### join_Right: function 46 -/
def join_Right.f (a0 : Int) (l1 : List Int) (l2 : List Int) (a3 : Int) (a4 : Int) : Option (Bool) := if a0 ≥ 1 then (if a0 ≤ 4 then (if (l1.length : Int) = (l2.length : Int) then (if (l1.length : Int) ≥ 1 then (if (l1.length : Int) ≤ 8 then ((join_columns.f l1 a3).bind fun t119 => (if t119 = true then ((join_columns.f l2 a4).bind fun t120 => (some t120)) else (some false))) else (some false)) else (some false)) else (some false)) else (some false)) else (some false)
theorem join_Right.calls (a0 : Int) (A1 : Option Addr) (c1 : Nat) (l1 : List Int) (A2 : Option Addr) (c2 : Nat) (l2 : List Int) (a3 : Int) (a4 : Int) (r : Bool) (w : World) (hr1 : Kd.C (Kd.int .i64) w A1 l1.length l1) (hc1 : l1.length ≤ c1) (hr2 : Kd.C (Kd.int .i64) w A2 l2.length l2) (hc2 : l2.length ≤ c2) (h : join_Right.f a0 l1 l2 a3 a4 = some r) :
  Calls Try.prog 46 #[.int .i64 a0, .slice A1 l1.length c1, .slice A2 l2.length c2, .int .i64 a3, .int .i64 a4] w fun e w' => e = .returned (.bool r) ∧ Below w.heap.size w w' := by
 have HR1 := Aside0.mk hr1; have HC1 := Aside0.mk hc1; clear hr1 hc1; have HR2 := Aside0.mk hr2; have HC2 := Aside0.mk hc2; clear hr2 hc2; have HB := Aside0.mk (Below.refl w.heap.size w)
 have H : (if a0 ≥ 1 then (if a0 ≤ 4 then (if (l1.length : Int) = (l2.length : Int) then (if (l1.length : Int) ≥ 1 then (if (l1.length : Int) ≤ 8 then ((join_columns.f l1 a3).bind fun t119 => (if t119 = true then ((join_columns.f l2 a4).bind fun t120 => (some t120)) else (some false))) else (some false)) else (some false)) else (some false)) else (some false)) else (some false)) = some r := h; clear h; by_cases c6 : a0 ≥ 1
 ·rw [if_pos c6] at H; have c6b0 : decide (1 ≤ a0) = true := decide_eq_true c6; clear c6; by_cases c7 : a0 ≤ 4
  ·rw [if_pos c7] at H; have c7b0 : decide (a0 ≤ 4) = true := decide_eq_true c7; clear c7; by_cases c8 : (l1.length : Int) = (l2.length : Int)
   ·rw [if_pos c8] at H; have c8b0 : ((l1.length : Int) == (l2.length : Int)) = true := beq_iff_eq.mpr c8; have c8b1 : ((l1.length : Int) != (l2.length : Int)) = false := bne_eq_false_iff_eq.mpr c8; have c8b2 : (l1.length == l2.length) = true := by first | simpa using c8 | (simp at c8 ⊢; omega)
    clear c8; by_cases c9 : (l1.length : Int) ≥ 1
    ·rw [if_pos c9] at H; have c9b0 : decide (1 ≤ (l1.length : Int)) = true := decide_eq_true c9; have c9b1 : decide (1 ≤ l1.length) = true := decide_eq_true (by omega)
     clear c9; by_cases c10 : (l1.length : Int) ≤ 8
     ·rw [if_pos c10] at H; have c10b0 : decide ((l1.length : Int) ≤ 8) = true := decide_eq_true c10; have c10b1 : decide (l1.length ≤ 8) = true := decide_eq_true (by omega)
      clear c10; replace H := Option.bind_eq_some_iff.mp H; obtain ⟨t119, A110, H⟩ := H; replace H : (if t119 = true then ((join_columns.f l2 a4).bind fun t120 => (some t120)) else (some false)) = some r := H
      have A11 := Aside0.mk A110; clear A110; by_cases c12 : t119 = true
      ·subst c12; have H1 : ((join_columns.f l2 a4).bind fun t120 => (some t120)) = some r := by rw [if_pos rfl] at H; exact H
       clear H; have H := H1; clear H1; replace H := Option.bind_eq_some_iff.mp H; obtain ⟨t120, A130, H⟩ := H; replace H : (some t120) = some r := H
       have A13 := Aside0.mk A130; clear A130; obtain rfl := Option.some.inj H
       go_enter Try.func46, Try.ntmps46
       go_wp2_with (first | (go_at_call 70; (with_reducible refine (join_columns.calls _ _ l1 a3 true _ ?side1 ?side2 A11.out).mono ?_); (case side1 => repeat (first | exact HR1.out | (with_reducible refine Kd.C_alloc ?_ _) | (with_reducible refine Kd.C_drewN ?_ _) | (with_reducible refine Kd.C_drew ?_))); (case side2 => exact HC1.out); rintro e w14 ⟨rfl, hb⟩; have n0_ := Aside0.mk (below_step (mvB HB.out) hb); clear HB; have HB := n0_; clear n0_; (try clear hb); (try clear hb2); (try clear hk); (try clear hi)) | (go_at_call 70; (with_reducible refine (join_columns.calls _ _ l2 a4 t120 _ ?side1 ?side2 A13.out).mono ?_); (case side1 => repeat (first | exact (Kd.C_below HR2.out HB.out) | (with_reducible refine Kd.C_alloc ?_ _) | (with_reducible refine Kd.C_drewN ?_ _) | (with_reducible refine Kd.C_drew ?_))); (case side2 => exact HC2.out); rintro e w15 ⟨rfl, hb⟩; have n0_ := Aside0.mk (below_step (mvB HB.out) hb); clear HB; have HB := n0_; clear n0_; (try clear hb); (try clear hb2); (try clear hk); (try clear hi)))
       go_ret
       exact exB (mvB HB.out)
      ·replace c12 := Bool.eq_false_iff.mpr c12; subst c12; have H1 : (some false) = some r := by rw [if_neg (show ¬ (false = true) by decide)] at H; exact H
       clear H; have H := H1; clear H1; obtain rfl := Option.some.inj H
       go_enter Try.func46, Try.ntmps46
       go_wp2_with (first | (go_at_call 70; (with_reducible refine (join_columns.calls _ _ l1 a3 false _ ?side1 ?side2 A11.out).mono ?_); (case side1 => repeat (first | exact HR1.out | (with_reducible refine Kd.C_alloc ?_ _) | (with_reducible refine Kd.C_drewN ?_ _) | (with_reducible refine Kd.C_drew ?_))); (case side2 => exact HC1.out); rintro e w16 ⟨rfl, hb⟩; have n0_ := Aside0.mk (below_step (mvB HB.out) hb); clear HB; have HB := n0_; clear n0_; (try clear hb); (try clear hb2); (try clear hk); (try clear hi)))
       go_ret
       exact exB (mvB HB.out)
     ·rw [if_neg c10] at H; have c10b0 : decide ((l1.length : Int) ≤ 8) = false := decide_eq_false c10; have c10b1 : decide (l1.length ≤ 8) = false := decide_eq_false (by omega)
      clear c10; obtain rfl := Option.some.inj H
      go_enter Try.func46, Try.ntmps46
      go_wp2
      go_ret
      exact exB (mvB HB.out)
    ·rw [if_neg c9] at H; have c9b0 : decide (1 ≤ (l1.length : Int)) = false := decide_eq_false c9; have c9b1 : decide (1 ≤ l1.length) = false := decide_eq_false (by omega)
     clear c9; obtain rfl := Option.some.inj H
     go_enter Try.func46, Try.ntmps46
     go_wp2
     go_ret
     exact exB (mvB HB.out)
   ·rw [if_neg c8] at H; have c8b0 : ((l1.length : Int) == (l2.length : Int)) = false := beq_eq_false_iff_ne.mpr c8; have c8b1 : ((l1.length : Int) != (l2.length : Int)) = true := bne_iff_ne.mpr c8; have c8b2 : (l1.length == l2.length) = false := by first | simpa using c8 | (simp at c8 ⊢; omega)
    obtain rfl := Option.some.inj H
    go_enter Try.func46, Try.ntmps46
    go_wp2
    go_ret
    exact exB (mvB HB.out)
  ·rw [if_neg c7] at H; have c7b0 : decide (a0 ≤ 4) = false := decide_eq_false c7; clear c7; obtain rfl := Option.some.inj H
   go_enter Try.func46, Try.ntmps46
   go_wp2
   go_ret
   exact exB (mvB HB.out)
 ·rw [if_neg c6] at H; have c6b0 : decide (1 ≤ a0) = false := decide_eq_false c6; clear c6; obtain rfl := Option.some.inj H
  go_enter Try.func46, Try.ntmps46
  go_wp2
  go_ret
  exact exB (mvB HB.out)

/-! ### order_Right: function 47 -/
-- told by hand
/-- Is a key wrong. -/
def keyWrong (n : Int) (x : S52) : Bool := decide (x.f0 < 0) || (decide (n ≤ x.f0) || (decide (x.f1 < 0) || decide (2 < x.f1)))
def order_Right.f (l0 : List (S52)) (a1 : Int) : Option Bool := some (decide ((l0.length : Int) ≤ 8) && !(l0.any (keyWrong a1)))
/-- The literal that is handed over. -/
theorem order_Right.wrong (n : Int) (B : Nat) (x : S52) (W : World) (hB : B < W.heap.size) (hc : W.cell? ⟨B, 0, none⟩ = some (.int .i64 n)) :
  Calls Try.prog 71 #[.agg #[.int .i64 x.f0, .int .i64 x.f1, .bool x.f2], .pointer (some ⟨B, 0, none⟩)] W fun e w' => e = .returned (.bool (keyWrong n x)) ∧ Below W.heap.size W w' := by
 obtain ⟨f0, f1, f2⟩ := x; have hne : B ≠ W.heap.size := by omega
 unfold keyWrong
 by_cases c0 : f0 < 0
 ·have d0 := decide_eq_true c0; go_enter Try.func71, Try.ntmps71
  go_wp2
  go_ret
  exact ⟨by simp [d0], (Below.refl _ _).alloc (Nat.le_refl _) _⟩
 have d0 := decide_eq_false c0; by_cases c1 : n ≤ f0
 ·have d1 := decide_eq_true c1; go_enter Try.func71, Try.ntmps71
  go_wp2
  go_ret
  exact ⟨by simp [d0, d1], (Below.refl _ _).alloc (Nat.le_refl _) _⟩
 have d1 := decide_eq_false c1; by_cases c2 : f1 < 0
 ·have d2 := decide_eq_true c2; go_enter Try.func71, Try.ntmps71
  go_wp2
  go_ret
  exact ⟨by simp [d0, d1, d2], (Below.refl _ _).alloc (Nat.le_refl _) _⟩
 have d2 := decide_eq_false c2
 cases d3 : decide (2 < f1) with
 | true =>
  go_enter Try.func71, Try.ntmps71
  go_wp2
  go_ret
  exact ⟨by simp [d0, d1, d2, d3], (Below.refl _ _).alloc (Nat.le_refl _) _⟩
 | false =>
  go_enter Try.func71, Try.ntmps71
  go_wp2
  go_ret
  exact ⟨by simp [d0, d1, d2, d3], (Below.refl _ _).alloc (Nat.le_refl _) _⟩
/-- slices.IndexFunc over keys. -/
theorem order_Right.index (n : Int) (B : Nat) (A0 : Option Addr) (c0 : Nat) (l0 : List (S52)) (w : World) (hr : Kd.C k52 w A0 l0.length l0) (hl : l0.length ≤ 9223372036854775807) (hB : B < w.heap.size) (hc : w.cell? ⟨B, 0, none⟩ = some (.int .i64 n)) :
  Calls Try.prog 88 #[.slice A0 l0.length c0, .func (.func 71) #[] #[.pointer (some ⟨B, 0, none⟩)]] w fun e w' => e = .returned (.int .i64 (firstOf (keyWrong n) l0)) ∧ Below w.heap.size w w' := by
 have HR := Aside0.mk hr; have HC := Aside0.mk hc; have HB0 := Aside0.mk hB; clear hr hc hB; go_enter Try.func88, Try.ntmps88
 go_wp2
 go_loopg [5, 8] l0.length (fun gg v5 s8 wr => ∃ kk : Nat, kk ≤ l0.length ∧ l0.length - kk ≤ gg ∧ s8 = .int .i64 kk ∧ Aside0 (Below w.heap.size w wr) ∧ Aside0 (∀ j, j < kk → keyWrong n (l0.getD j z52) = false))
 case atStart => exact ⟨0, Nat.zero_le _, by omega, rfl, ⟨Below.refl _ w⟩, ⟨fun j hj => absurd hj (Nat.not_lt_zero _)⟩⟩
 case round =>
  obtain ⟨kk, hkk, hg, rfl, BW, NO⟩ := hrel; by_cases hlt : kk < l0.length
  ·have hltz : (kk : Int) < (l0.length : Int) := by omega
   obtain ⟨ad, e0, x0, x1, x2⟩ := at_T52 HR.out (kk : Int) (by omega) hltz
   rw [show ((kk : Int)).toNat = kk by omega] at x0 x1 x2
   subst e0; have hy0 : rd_T52 l0 (kk : Int) = l0.getD kk z52 := by unfold rd_T52; rw [show ((kk : Int)).toNat = kk by omega]
   rw [hy0] at x0 x1 x2
   replace x0 := (BW.out.cell (World.block_lt_of_cell? w _ x0)).trans x0
   replace x1 := (BW.out.cell (World.block_lt_of_cell? w _ x1)).trans x1
   replace x2 := (BW.out.cell (World.block_lt_of_cell? w _ x2)).trans x2
   have hcall := order_Right.wrong n B (l0.getD kk z52) wr (Nat.lt_of_lt_of_le HB0.out BW.out.size) ((BW.out.cell (p := ⟨B, 0, none⟩) HB0.out).trans HC.out)
   clear hy0; generalize hy : l0.getD kk z52 = y at x0 x1 x2 hcall
   have HY := Aside0.mk hy; clear hy
   cases hq : keyWrong n y with
   | true =>
    rw [hq] at hcall
    go_wp2_with (go_at_call 71; refine hcall.mono ?_; rintro e w' ⟨rfl, hb'⟩)
    go_ret
    exact ⟨by rw [firstOf_hit (keyWrong n) l0 z52 kk hlt (by rw [HY.out]; exact hq) NO.out] <;> rfl, below_step BW.out hb'⟩
   | false =>
    rw [hq] at hcall
    go_wp2_with (go_at_call 71; refine hcall.mono ?_; rintro e w' ⟨rfl, hb'⟩)
    go_roundg (l0.length - (kk + 1))
    case measure => omega
    case rel =>
     refine ⟨kk + 1, by omega, by omega, by go_num, ⟨below_step BW.out hb'⟩, ⟨fun j hj => ?_⟩⟩
     by_cases e : j = kk
     ·subst e; rw [HY.out]; exact hq
     ·exact NO.out j (by omega)
  ·have hltz : ¬ (kk : Int) < (l0.length : Int) := by omega
   have hkk2 : kk = l0.length := by omega
   subst hkk2; go_wp2
   go_ret
   exact ⟨by rw [firstOf_miss (keyWrong n) l0 z52 NO.out] <;> rfl, BW.out⟩
/-- slices.ContainsFunc over keys. -/
theorem order_Right.contains (n : Int) (B : Nat) (A0 : Option Addr) (c0 : Nat) (l0 : List (S52)) (w : World) (hr : Kd.C k52 w A0 l0.length l0) (hl : l0.length ≤ 9223372036854775807) (hB : B < w.heap.size) (hc : w.cell? ⟨B, 0, none⟩ = some (.int .i64 n)) :
  Calls Try.prog 72 #[.slice A0 l0.length c0, .func (.func 71) #[] #[.pointer (some ⟨B, 0, none⟩)]] w fun e w' => e = .returned (.bool (l0.any (keyWrong n))) ∧ Below w.heap.size w w' := by
 have hI := fun W (hr : Kd.C k52 W A0 l0.length l0) hB hc => order_Right.index n B A0 c0 l0 W hr hl hB hc
 have HA := Aside0.mk (firstOf_any (keyWrong n) l0)
 generalize firstOf (keyWrong n) l0 = q at hI HA
 rw [← HA.out]
 go_enter Try.func72, Try.ntmps72
 go_wp2_with (go_at_call 88; refine (hI _ hr hB hc).mono ?_; rintro e w' ⟨rfl, hb'⟩)
 go_ret
 exact ⟨rfl, hb'⟩
theorem order_Right.calls (A0 : Option Addr) (c0 : Nat) (l0 : List (S52)) (a1 : Int) (r : Bool) (w : World) (hr0 : Kd.C k52 w A0 l0.length l0) (hc0 : l0.length ≤ c0) (h : order_Right.f l0 a1 = some r) :
  Calls Try.prog 47 #[.slice A0 l0.length c0, .int .i64 a1] w fun e w' => e = .returned (.bool r) ∧ Below w.heap.size w w' := by
 have hl : l0.length ≤ 9223372036854775807 := hr0.2.1; have hlt := World.block_lt_of_cell? w
 unfold order_Right.f at h
 have HE := Aside0.mk (Option.some.inj h)
 clear h; have hC := fun W (hr : Kd.C k52 W A0 l0.length l0) B hB hc => order_Right.contains a1 B A0 c0 l0 W hr hl hB hc
 by_cases c1 : (l0.length : Int) ≤ 8
 ·have d1 := decide_eq_true c1; rw [d1, Bool.true_and] at HE
  go_enter Try.func47, Try.ntmps47
  go_wp2_with (go_at_call 72; refine (hC _ (Kd.C_alloc hr0 _) w.heap.size (by simp) (by simp)).mono ?_; rintro e w' ⟨rfl, hb'⟩)
  go_ret
  exact ⟨by rw [← HE.out] <;> rfl, below_step ((Below.refl _ w).alloc (Nat.le_refl _) _) hb'⟩
 ·have d1 := decide_eq_false c1; rw [d1, Bool.false_and] at HE
  go_enter Try.func47, Try.ntmps47
  go_wp2
  go_ret
  exact ⟨by rw [← HE.out] <;> rfl, (Below.refl _ w).alloc (Nat.le_refl _) _⟩

end Go.Proofs.Ytomccmodlkdcbaa.Q
