-- PRINTED by print.py (a twelfth state) out of the translation. Not trusted: Lean checks it.
import Derived.Test.YtomccmodlkdcbaaQx0
namespace Go.Proofs.Ytomccmodlkdcbaa.Q
open Go.RowKit Go.Proofs.YtomccmodlkdcbaaW.PrintWords Go.Proofs.YtomccmodlkdcbaaW.PrintLast Go.Proofs.YtomccmodlkdcbaaW.PrintMore
attribute [local go_sem] str_gtr str_geq str_leq max2_int min2_int max_two min_two max_three min_three max_four min_four   -- for this text's walks alone
set_option linter.unusedVariables false
set_option linter.unusedSimpArgs false

/-! ### plan_scan: function 41 -/
-- told by hand
/-- Has a table this name. -/
def scanIs (a : ByteArray) (x : S46) : Bool := x.f0.toList == a.toList
def plan_scan.f (a0 : ByteArray) (l1 : List (S46)) : Option Int := some (if firstOf (scanIs a0) l1 < 0 then 0 else (rd_T46 l1 (firstOf (scanIs a0) l1)).f1)
theorem firstOf_lt {α : Type} (p : α → Bool) (l : List α) : firstOf p l < (l.length : Int) ∧ -1 ≤ firstOf p l := by
  unfold firstOf
  cases h : l.findIdx? p with
  | none => constructor <;> simp <;> omega
  | some i =>
    obtain ⟨hi, _⟩ := List.findIdx?_eq_some_iff_getElem.1 h
    constructor <;> simp <;> omega
set_option maxHeartbeats 4000000 in
set_option maxRecDepth 1000000 in
/-- The literal that is handed over. -/
theorem plan_scan.lit (a : ByteArray) (B : Nat) (x : S46) (W : World) (hB : B < W.heap.size) (hc : W.cell? ⟨B, 0, none⟩ = some (.string a)) :
    Calls Try.prog 60 #[.agg #[.string x.f0, .int .i64 x.f1], .pointer (some ⟨B, 0, none⟩)] W fun e w' => e = .returned (.bool (scanIs a x)) ∧ Below W.heap.size W w' := by
  obtain ⟨f0, f1⟩ := x
  have hne : B ≠ W.heap.size := by omega
  unfold scanIs
  go_enter Try.func60, Try.ntmps60
  go_wp2
  go_ret
  exact ⟨by first | rfl | (simp; done) | (trace_state; simp), (Below.refl _ _).alloc (Nat.le_refl _) _⟩
set_option maxHeartbeats 4000000 in
set_option maxRecDepth 1000000 in
/-- slices.IndexFunc over tables. -/
theorem plan_scan.index (n : ByteArray) (B : Nat) (A0 : Option Addr) (c0 : Nat) (l0 : List (S46)) (w : World) (hr : Kd.C k46 w A0 l0.length l0) (hl : l0.length ≤ 9223372036854775807) (hB : B < w.heap.size) (hc : w.cell? ⟨B, 0, none⟩ = some (.string n)) :
    Calls Try.prog 59 #[.slice A0 l0.length c0, .func (.func 60) #[] #[.pointer (some ⟨B, 0, none⟩)]] w fun e w' => e = .returned (.int .i64 (firstOf (scanIs n) l0)) ∧ Below w.heap.size w w' := by
  have HR := Aside0.mk hr
  have HC := Aside0.mk hc
  have HB0 := Aside0.mk hB
  clear hr hc hB
  go_enter Try.func59, Try.ntmps59
  go_wp2
  go_loopg [5, 8] l0.length (fun gg v5 s8 wr => ∃ kk : Nat, kk ≤ l0.length ∧ l0.length - kk ≤ gg ∧ s8 = .int .i64 kk ∧ Aside0 (Below w.heap.size w wr) ∧ Aside0 (∀ j, j < kk → scanIs n (l0.getD j z46) = false))
  case atStart => exact ⟨0, Nat.zero_le _, by omega, rfl, ⟨Below.refl _ w⟩, ⟨fun j hj => absurd hj (Nat.not_lt_zero _)⟩⟩
  case round =>
    obtain ⟨kk, hkk, hg, rfl, BW, NO⟩ := hrel
    by_cases hlt : kk < l0.length
    · have hltz : (kk : Int) < (l0.length : Int) := by omega
      obtain ⟨ad, e0, x0, x1⟩ := at_T46 HR.out (kk : Int) (by omega) hltz
      rw [show ((kk : Int)).toNat = kk by omega] at x0 x1
      subst e0
      have hy0 : rd_T46 l0 (kk : Int) = l0.getD kk z46 := by unfold rd_T46; rw [show ((kk : Int)).toNat = kk by omega]
      rw [hy0] at x0 x1
      replace x0 := (BW.out.cell (World.block_lt_of_cell? w _ x0)).trans x0
      replace x1 := (BW.out.cell (World.block_lt_of_cell? w _ x1)).trans x1
      have hcall := plan_scan.lit n B (l0.getD kk z46) wr (Nat.lt_of_lt_of_le HB0.out BW.out.size) ((BW.out.cell (p := ⟨B, 0, none⟩) HB0.out).trans HC.out)
      clear hy0
      generalize hy : l0.getD kk z46 = y at x0 x1 hcall
      have HY := Aside0.mk hy
      clear hy
      cases hq : scanIs n y with
      | true =>
        rw [hq] at hcall
        go_wp2_with (go_at_call 60; refine hcall.mono ?_; rintro e w' ⟨rfl, hb'⟩)
        go_ret
        exact ⟨by rw [firstOf_hit (scanIs n) l0 z46 kk hlt (by rw [HY.out]; exact hq) NO.out] <;> rfl, below_step BW.out hb'⟩
      | false =>
        rw [hq] at hcall
        go_wp2_with (go_at_call 60; refine hcall.mono ?_; rintro e w' ⟨rfl, hb'⟩)
        go_roundg (l0.length - (kk + 1))
        case measure => omega
        case rel =>
          refine ⟨kk + 1, by omega, by omega, by go_num, ⟨below_step BW.out hb'⟩, ⟨fun j hj => ?_⟩⟩
          by_cases e : j = kk
          · subst e
            rw [HY.out]; exact hq
          · exact NO.out j (by omega)
    · have hltz : ¬ (kk : Int) < (l0.length : Int) := by omega
      have hkk2 : kk = l0.length := by omega
      subst hkk2
      go_wp2
      go_ret
      exact ⟨by rw [firstOf_miss (scanIs n) l0 z46 NO.out] <;> rfl, BW.out⟩
set_option maxHeartbeats 4000000 in
set_option maxRecDepth 1000000 in
theorem plan_scan.calls (a0 : ByteArray) (A1 : Option Addr) (c1 : Nat) (l1 : List (S46)) (r : Int) (w : World) (hr1 : Kd.C k46 w A1 l1.length l1) (hc1 : l1.length ≤ c1) (h : plan_scan.f a0 l1 = some r) :
    Calls Try.prog 41 #[.string a0, .slice A1 l1.length c1] w fun e w' => e = .returned (.int .i64 r) ∧ Below w.heap.size w w' := by
  have hl : l1.length ≤ 9223372036854775807 := hr1.2.1
  unfold plan_scan.f at h
  have HE := Option.some.inj h
  clear h
  have hI := fun W (hr : Kd.C k46 W A1 l1.length l1) B hB hc => plan_scan.index a0 B A1 c1 l1 W hr hl hB hc
  obtain ⟨hq1, hq0⟩ := firstOf_lt (scanIs a0) l1
  generalize firstOf (scanIs a0) l1 = q at hI hq1 hq0 HE
  have HR1 := Aside0.mk hr1
  by_cases cq : q < 0
  · rw [if_pos cq] at HE
    go_enter Try.func41, Try.ntmps41
    go_wp2_with (go_at_call 59; refine (hI _ (Kd.C_alloc hr1 _) w.heap.size (by simp) (by simp)).mono ?_; rintro e w' ⟨rfl, hb'⟩)
    go_ret
    exact ⟨by rw [← HE] <;> rfl, below_step ((Below.refl _ w).alloc (Nat.le_refl _) _) hb'⟩
  · rw [if_neg cq] at HE
    have c0 : 0 ≤ q := by omega
    obtain ⟨ad, e0, x0, x1⟩ := at_T46 HR1.out q c0 hq1
    subst e0
    rw [HE] at x1
    clear x0
    have X1 := Aside0.mk x1
    clear x1
    go_enter Try.func41, Try.ntmps41
    go_wp2_with (go_at_call 59; refine (hI _ (Kd.C_alloc hr1 _) w.heap.size (by simp) (by simp)).mono ?_; rintro e w' ⟨rfl, hb'⟩; have hbw := below_step ((Below.refl _ w).alloc (Nat.le_refl _) _) hb'; have x1 := (hbw.cell (World.block_lt_of_cell? w _ X1.out)).trans X1.out; have HBW := Aside0.mk hbw; clear hbw hb')
    go_ret
    exact ⟨rfl, HBW.out⟩

end Go.Proofs.Ytomccmodlkdcbaa.Q
