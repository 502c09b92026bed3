-- PRINTED by print.py (a twelfth state) out of the translation. Not trusted: Lean checks it.
import Derived.Test.YtomccmodlkdcbaaQx0
namespace Go.Proofs.Ytomccmodlkdcbaa.Q
open Go.RowKit Go.Proofs.YtomccmodlkdcbaaW.PrintWords Go.Proofs.YtomccmodlkdcbaaW.PrintLast Go.Proofs.YtomccmodlkdcbaaW.PrintMore
attribute [local go_sem] str_gtr str_geq str_leq max2_int min2_int max_two min_two max_three min_three max_four min_four   -- for this text's walks alone
set_option linter.unusedVariables false
set_option linter.unusedSimpArgs false

/-! ### join_columns: function 70 -/
-- told by hand
/-- Is a column wrong. -/
def colWrong (n : Int) (x : Int) : Bool := decide (x < 0) || decide (n ≤ x)
def join_columns.f (l0 : List Int) (a1 : Int) : Option Bool := some (!(l0.any (colWrong a1)))
set_option maxHeartbeats 4000000 in
set_option maxRecDepth 1000000 in
/-- The literal that is handed over. -/
theorem join_columns.wrong (n : Int) (B : Nat) (x : Int) (W : World) (hB : B < W.heap.size) (hc : W.cell? ⟨B, 0, none⟩ = some (.int .i64 n)) :
    Calls Try.prog 87 #[.int .i64 x, .pointer (some ⟨B, 0, none⟩)] W fun e w' => e = .returned (.bool (colWrong n x)) ∧ Below W.heap.size W w' := by
  have hne : B ≠ W.heap.size := by omega
  unfold colWrong
  by_cases c0 : x < 0
  · have d0 := decide_eq_true c0
    go_enter Try.func87, Try.ntmps87
    go_wp2
    go_ret
    exact ⟨by simp [d0], by first | exact Below.refl _ _ | exact (Below.refl _ _).alloc (Nat.le_refl _) _⟩
  have d0 := decide_eq_false c0
  cases d3 : decide (n ≤ x) with
  | true =>
    go_enter Try.func87, Try.ntmps87
    go_wp2
    go_ret
    exact ⟨by simp [d0, d3], by first | exact Below.refl _ _ | exact (Below.refl _ _).alloc (Nat.le_refl _) _⟩
  | false =>
    go_enter Try.func87, Try.ntmps87
    go_wp2
    go_ret
    exact ⟨by simp [d0, d3], by first | exact Below.refl _ _ | exact (Below.refl _ _).alloc (Nat.le_refl _) _⟩
set_option maxHeartbeats 4000000 in
set_option maxRecDepth 1000000 in
/-- slices.IndexFunc over numbers. -/
theorem join_columns.index (n : Int) (B : Nat) (A0 : Option Addr) (c0 : Nat) (l0 : List Int) (w : World) (hr : Kd.C (Kd.int .i64) w A0 l0.length l0) (hl : l0.length ≤ 9223372036854775807) (hB : B < w.heap.size) (hc : w.cell? ⟨B, 0, none⟩ = some (.int .i64 n)) :
    Calls Try.prog 85 #[.slice A0 l0.length c0, .func (.func 87) #[] #[.pointer (some ⟨B, 0, none⟩)]] w fun e w' => e = .returned (.int .i64 (firstOf (colWrong n) l0)) ∧ Below w.heap.size w w' := by
  have HR := Aside0.mk hr
  have HC := Aside0.mk hc
  have HB0 := Aside0.mk hB
  clear hr hc hB
  go_enter Try.func85, Try.ntmps85
  go_wp2
  go_loopg [5, 8] l0.length (fun gg v5 s8 wr => ∃ kk : Nat, kk ≤ l0.length ∧ l0.length - kk ≤ gg ∧ s8 = .int .i64 kk ∧ Aside0 (Below w.heap.size w wr) ∧ Aside0 (∀ j, j < kk → colWrong n (l0.getD j 0) = false))
  case atStart => exact ⟨0, Nat.zero_le _, by omega, rfl, ⟨Below.refl _ w⟩, ⟨fun j hj => absurd hj (Nat.not_lt_zero _)⟩⟩
  case round =>
    obtain ⟨kk, hkk, hg, rfl, BW, NO⟩ := hrel
    by_cases hlt : kk < l0.length
    · have hltz : (kk : Int) < (l0.length : Int) := by omega
      obtain ⟨ad, c, e0, hcl, hK, hcell⟩ := Kd.C_get HR.out (0 : Int) (kk : Int) (by omega) hltz
      have hK2 : c = [.int .i64 (rdOf 0 l0 (kk : Int))] := hK
      have x0 := hcell 0 _ (by rw [hK2]; rfl)
      rw [show ((kk : Int)).toNat = kk by omega, show (Kd.int .i64).sz = 1 from rfl, Nat.mul_one, Nat.add_zero] at x0
      subst e0
      have hy0 : rdOf 0 l0 (kk : Int) = l0.getD kk 0 := by unfold rdOf; rw [show ((kk : Int)).toNat = kk by omega]
      rw [hy0] at x0
      replace x0 := (BW.out.cell (World.block_lt_of_cell? w _ x0)).trans x0
      have hcall := join_columns.wrong n B (l0.getD kk 0) wr (Nat.lt_of_lt_of_le HB0.out BW.out.size) ((BW.out.cell (p := ⟨B, 0, none⟩) HB0.out).trans HC.out)
      clear hy0 hK hK2 hcell hcl
      generalize hy : l0.getD kk 0 = y at x0 hcall
      have HY := Aside0.mk hy
      clear hy
      cases hq : colWrong n y with
      | true =>
        rw [hq] at hcall
        go_wp2_with (go_at_call 87; refine hcall.mono ?_; rintro e w' ⟨rfl, hb'⟩)
        go_ret
        exact ⟨by rw [firstOf_hit (colWrong n) l0 0 kk hlt (by rw [HY.out]; exact hq) NO.out] <;> rfl, below_step BW.out hb'⟩
      | false =>
        rw [hq] at hcall
        go_wp2_with (go_at_call 87; refine hcall.mono ?_; rintro e w' ⟨rfl, hb'⟩)
        go_roundg (l0.length - (kk + 1))
        case measure => omega
        case rel =>
          refine ⟨kk + 1, by omega, by omega, by go_num, ⟨below_step BW.out hb'⟩, ⟨fun j hj => ?_⟩⟩
          by_cases e : j = kk
          · subst e
            rw [HY.out]; exact hq
          · exact NO.out j (by omega)
    · have hltz : ¬ (kk : Int) < (l0.length : Int) := by omega
      have hkk2 : kk = l0.length := by omega
      subst hkk2
      go_wp2
      go_ret
      exact ⟨by rw [firstOf_miss (colWrong n) l0 0 NO.out] <;> rfl, BW.out⟩
set_option maxHeartbeats 4000000 in
set_option maxRecDepth 1000000 in
/-- slices.ContainsFunc over numbers. -/
theorem join_columns.contains (n : Int) (B : Nat) (A0 : Option Addr) (c0 : Nat) (l0 : List Int) (w : World) (hr : Kd.C (Kd.int .i64) w A0 l0.length l0) (hl : l0.length ≤ 9223372036854775807) (hB : B < w.heap.size) (hc : w.cell? ⟨B, 0, none⟩ = some (.int .i64 n)) :
    Calls Try.prog 67 #[.slice A0 l0.length c0, .func (.func 87) #[] #[.pointer (some ⟨B, 0, none⟩)]] w fun e w' => e = .returned (.bool (l0.any (colWrong n))) ∧ Below w.heap.size w w' := by
  have hI := fun W (hr : Kd.C (Kd.int .i64) W A0 l0.length l0) hB hc => join_columns.index n B A0 c0 l0 W hr hl hB hc
  have HA := Aside0.mk (firstOf_any (colWrong n) l0)
  generalize firstOf (colWrong n) l0 = q at hI HA
  rw [← HA.out]
  go_enter Try.func67, Try.ntmps67
  go_wp2_with (go_at_call 85; refine (hI _ hr hB hc).mono ?_; rintro e w' ⟨rfl, hb'⟩)
  go_ret
  exact ⟨rfl, hb'⟩
set_option maxHeartbeats 4000000 in
set_option maxRecDepth 1000000 in
theorem join_columns.calls (A0 : Option Addr) (c0 : Nat) (l0 : List Int) (a1 : Int) (r : Bool) (w : World) (hr0 : Kd.C (Kd.int .i64) w A0 l0.length l0) (hc0 : l0.length ≤ c0) (h : join_columns.f l0 a1 = some r) :
    Calls Try.prog 70 #[.slice A0 l0.length c0, .int .i64 a1] w fun e w' => e = .returned (.bool r) ∧ Below w.heap.size w w' := by
  have hl : l0.length ≤ 9223372036854775807 := hr0.2.1
  unfold join_columns.f at h
  have HE := Aside0.mk (Option.some.inj h)
  clear h
  have hC := fun W (hr : Kd.C (Kd.int .i64) W A0 l0.length l0) B hB hc => join_columns.contains a1 B A0 c0 l0 W hr hl hB hc
  go_enter Try.func70, Try.ntmps70
  go_wp2_with (go_at_call 67; refine (hC _ (Kd.C_alloc hr0 _) w.heap.size (by simp) (by simp)).mono ?_; rintro e w' ⟨rfl, hb'⟩)
  go_ret
  exact ⟨by rw [← HE.out] <;> rfl, below_step ((Below.refl _ w).alloc (Nat.le_refl _) _) hb'⟩

end Go.Proofs.Ytomccmodlkdcbaa.Q
