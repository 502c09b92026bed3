-- PRINTED by print.py (a twelfth state) out of the translation. Not trusted: Lean checks it.
import Derived.Test.YtdojgfkcpaeacaaDoorQx0
import Derived.Test.YtdojgfkcpaeacaaDoorQx10
namespace Go.Proofs.YtdojgfkcpaeacaaDoor.Q
open Go.RowKit Go.Proofs.YtdojgfkcpaeacaaDoorW.PrintWords Go.Proofs.YtdojgfkcpaeacaaDoorW.PrintLast Go.Proofs.YtdojgfkcpaeacaaDoorW.PrintMore
attribute [local go_sem] str_gtr str_geq str_leq max2_int min2_int max_two min_two max_three min_three max_four min_four
set_option linter.unusedVariables false
set_option maxHeartbeats 8000000
set_option maxRecDepth 100000
set_option linter.unusedSimpArgs false

/-! ### order_Cut: function 18 -/
def order_Cut.f (k : Nat) (l0 : List (List (S36))) (a1 : Int) (a2 : Int) : Option ((List (List (S36)))) := if 0 ≤ (mn (mx a1 0) (l0.length : Int)) then (if (mn (mx a1 0) (l0.length : Int)) ≤ (wrap64 ((mn (mx a1 0) (l0.length : Int)) + (mn (mx a2 0) (wrap64 ((l0.length : Int) - (mn (mx a1 0) (l0.length : Int))))))) then (if (wrap64 ((mn (mx a1 0) (l0.length : Int)) + (mn (mx a2 0) (wrap64 ((l0.length : Int) - (mn (mx a1 0) (l0.length : Int))))))) ≤ (l0.length : Int) then ((order_copied.f k ((l0.take ((wrap64 ((mn (mx a1 0) (l0.length : Int)) + (mn (mx a2 0) (wrap64 ((l0.length : Int) - (mn (mx a1 0) (l0.length : Int))))))) : Int).toNat).drop ((mn (mx a1 0) (l0.length : Int)) : Int).toNat)).bind fun t155 => (some t155)) else (none)) else (none)) else (none)
theorem order_Cut.mono : ∀ a0 a1 a2 k, LeO (order_Cut.f k a0 a1 a2) (order_Cut.f (k + 1) a0 a1 a2) := by
 intro a0 a1 a2 k
 unfold order_Cut.f
 repeat' first
   | (with_reducible exact order_copied.mono _ _)
   | (with_reducible exact LeO.refl _)
   | (with_reducible exact LeO.none _)
   | (with_reducible refine LeO.ite ?_ ?_)
   | (with_reducible refine LeO.bind ?_ (fun _ => ?_))
   | exact order_copied.mono _ _
   | exact LeO.none _
   | refine LeO.ite ?_ ?_
   | refine LeO.bind ?_ (fun _ => ?_)
theorem order_Cut.calls (k : Nat) (A0 : Option Addr) (c0 : Nat) (l0 : List (List (S36))) (a1 : Int) (a2 : Int) (r : List (List (S36))) (w : World) (hr0 : Kd.C (Kd.slice 36 k36) w A0 l0.length l0) (hc0 : l0.length ≤ c0) (h : order_Cut.f k l0 a1 a2 = some r) :
  Calls Tryd.prog 18 #[.slice A0 l0.length c0, .int .i64 a1, .int .i64 a2] w fun e w' => ∃ v0_ : Value, e = .returned (v0_) ∧ Kd.S (Kd.slice 36 k36) 28 w' w.heap.size (fun _ => True) v0_ r ∧ Below w.heap.size w w' := by
 have HR0 := Aside0.mk hr0; have HC0 := Aside0.mk hc0; clear hr0 hc0; have HB := Aside0.mk (Below.refl w.heap.size w)
 have H : (if 0 ≤ (mn (mx a1 0) (l0.length : Int)) then (if (mn (mx a1 0) (l0.length : Int)) ≤ (wrap64 ((mn (mx a1 0) (l0.length : Int)) + (mn (mx a2 0) (wrap64 ((l0.length : Int) - (mn (mx a1 0) (l0.length : Int))))))) then (if (wrap64 ((mn (mx a1 0) (l0.length : Int)) + (mn (mx a2 0) (wrap64 ((l0.length : Int) - (mn (mx a1 0) (l0.length : Int))))))) ≤ (l0.length : Int) then ((order_copied.f k ((l0.take ((wrap64 ((mn (mx a1 0) (l0.length : Int)) + (mn (mx a2 0) (wrap64 ((l0.length : Int) - (mn (mx a1 0) (l0.length : Int))))))) : Int).toNat).drop ((mn (mx a1 0) (l0.length : Int)) : Int).toNat)).bind fun t155 => (some t155)) else (none)) else (none)) else (none)) = some r := h; clear h; obtain ⟨ji4, hji4⟩ : ∃ j_ : Int, (mx a1 0) = j_ := ⟨_, rfl⟩
 replace H : (if 0 ≤ (mn (ji4) (l0.length : Int)) then (if (mn (ji4) (l0.length : Int)) ≤ (wrap64 ((mn (ji4) (l0.length : Int)) + (mn (mx a2 0) (wrap64 ((l0.length : Int) - (mn (ji4) (l0.length : Int))))))) then (if (wrap64 ((mn (ji4) (l0.length : Int)) + (mn (mx a2 0) (wrap64 ((l0.length : Int) - (mn (ji4) (l0.length : Int))))))) ≤ (l0.length : Int) then ((order_copied.f k ((l0.take ((wrap64 ((mn (ji4) (l0.length : Int)) + (mn (mx a2 0) (wrap64 ((l0.length : Int) - (mn (ji4) (l0.length : Int))))))) : Int).toNat).drop ((mn (ji4) (l0.length : Int)) : Int).toNat)).bind fun t155 => (some t155)) else (none)) else (none)) else (none)) = some r := by first | (rw [hji4] at H; exact H) | (simp only [hji4] at H ⊢; exact H)
 (try (have hji4l : 0 ≤ ji4 := by (rw [← hji4]; unfold mx; (repeat' split) <;> omega)))
 (try (have hji4m : 0 ≤ ji4 := by omega))
 have hji4_ : (if a1 < 0 then 0 else a1) = ji4 := hji4; obtain ⟨ji5, hji5⟩ : ∃ j_ : Int, (mn (ji4) (l0.length : Int)) = j_ := ⟨_, rfl⟩
 replace H : (if 0 ≤ (ji5) then (if (ji5) ≤ (wrap64 ((ji5) + (mn (mx a2 0) (wrap64 ((l0.length : Int) - (ji5)))))) then (if (wrap64 ((ji5) + (mn (mx a2 0) (wrap64 ((l0.length : Int) - (ji5)))))) ≤ (l0.length : Int) then ((order_copied.f k ((l0.take ((wrap64 ((ji5) + (mn (mx a2 0) (wrap64 ((l0.length : Int) - (ji5)))))) : Int).toNat).drop ((ji5) : Int).toNat)).bind fun t155 => (some t155)) else (none)) else (none)) else (none)) = some r := by first | (rw [hji5] at H; exact H) | (simp only [hji5] at H ⊢; exact H)
 have hji5_ : (if (l0.length : Int) < (ji4) then (l0.length : Int) else (ji4)) = ji5 := hji5; obtain ⟨ji6, hji6⟩ : ∃ j_ : Int, (mx a2 0) = j_ := ⟨_, rfl⟩
 replace H : (if 0 ≤ (ji5) then (if (ji5) ≤ (wrap64 ((ji5) + (mn (ji6) (wrap64 ((l0.length : Int) - (ji5)))))) then (if (wrap64 ((ji5) + (mn (ji6) (wrap64 ((l0.length : Int) - (ji5)))))) ≤ (l0.length : Int) then ((order_copied.f k ((l0.take ((wrap64 ((ji5) + (mn (ji6) (wrap64 ((l0.length : Int) - (ji5)))))) : Int).toNat).drop ((ji5) : Int).toNat)).bind fun t155 => (some t155)) else (none)) else (none)) else (none)) = some r := by first | (rw [hji6] at H; exact H) | (simp only [hji6] at H ⊢; exact H)
 (try (have hji6l : 0 ≤ ji6 := by (rw [← hji6]; unfold mx; (repeat' split) <;> omega)))
 (try (have hji6m : 0 ≤ ji6 := by omega))
 have hji6_ : (if a2 < 0 then 0 else a2) = ji6 := hji6; obtain ⟨ji7, hji7⟩ : ∃ j_ : Int, (mn (ji6) (wrap64 ((l0.length : Int) - (ji5)))) = j_ := ⟨_, rfl⟩
 replace H : (if 0 ≤ (ji5) then (if (ji5) ≤ (wrap64 ((ji5) + (ji7))) then (if (wrap64 ((ji5) + (ji7))) ≤ (l0.length : Int) then ((order_copied.f k ((l0.take ((wrap64 ((ji5) + (ji7))) : Int).toNat).drop ((ji5) : Int).toNat)).bind fun t155 => (some t155)) else (none)) else (none)) else (none)) = some r := by first | (rw [hji7] at H; exact H) | (simp only [hji7] at H ⊢; exact H)
 have hji7_ : (if (wrap64 ((l0.length : Int) - (ji5))) < (ji6) then (wrap64 ((l0.length : Int) - (ji5))) else (ji6)) = ji7 := hji7; by_cases c8 : 0 ≤ (ji5)
 case neg => rw [if_neg c8] at H; exact absurd H (by simp)
 rw [if_pos c8] at H; have c8b0 := eq_true c8; have c8b1 : decide (0 ≤ (ji5)) = true := decide_eq_true c8; clear c8; by_cases c9 : (ji5) ≤ (wrap64 ((ji5) + (ji7)))
 case neg => rw [if_neg c9] at H; exact absurd H (by simp)
 rw [if_pos c9] at H; have c9b0 := eq_true c9; have c9b1 : decide ((ji5) ≤ (wrap64 ((ji5) + (ji7)))) = true := decide_eq_true c9; by_cases c10 : (wrap64 ((ji5) + (ji7))) ≤ (l0.length : Int)
 case neg => rw [if_neg c10] at H; exact absurd H (by simp)
 rw [if_pos c10] at H; have c10b0 := eq_true c10; have c10b1 : decide ((wrap64 ((ji5) + (ji7))) ≤ (l0.length : Int)) = true := decide_eq_true c10; obtain ⟨y151, hy151⟩ : ∃ y_ : List (List (S36)), y_ = ((l0.take ((wrap64 ((ji5) + (ji7))) : Int).toNat).drop ((ji5) : Int).toNat) := ⟨_, rfl⟩
 replace H : ((order_copied.f k y151).bind fun t155 => (some t155)) = some r := by first | (rw [hy151]; with_reducible exact H) | (have H2_ := (Option.bind_some _ _).symm.trans H; rw [hy151]; with_reducible exact H2_) | (have H2_ := (Option.bind_some _ _).symm.trans H; with_reducible exact H2_) | with_reducible exact H | (rw [hy151]; exact H) | exact H
 have Ny151 := Aside0.mk hy151; clear hy151; replace H := Option.bind_eq_some_iff.mp H; obtain ⟨t155, A110, H⟩ := H; replace H : (some t155) = some r := H
 have A11 := Aside0.mk A110; clear A110; obtain rfl := Option.some.inj H
 have q12 : ((wrap64 ((ji5) + (ji7))) : Int) ≤ ((l0.length : Int) : Int) := dtA; obtain ⟨i012, hi012, _, hsz12, _⟩ := info_parts info28
 have hroom12 : l0.length ≤ c0 := HC0.out; have hC12 : Kd.C (Kd.slice 36 k36) _ A0 l0.length l0 := HR0.out; have ql12 : ((ji5) : Int) ≤ ((wrap64 ((ji5) + (ji7))) : Int) := dtA; have q012 : (0 : Int) ≤ ((ji5) : Int) := dtA; have hcut12 := cut_mid (P := Tryd.prog) 22 28 .i64 .i64 Tryd.underlying22 hi012 1 hsz12 A0 l0.length c0 (ji5) (wrap64 ((ji5) + (ji7))) q012 ql12 q12 hroom12
 have hr12 := Kd.C_mid (lo := ((ji5) : Int).toNat) (hi := ((wrap64 ((ji5) + (ji7))) : Int).toNat) (c := c0) hC12 (by omega) (by omega) hroom12
 obtain ⟨A12, hA12⟩ : ∃ A1, A1 = (if c0 = ((ji5) : Int).toNat then A0 else (A0 : Option Addr).map (·.add (((ji5) : Int).toNat * 1))) := ⟨_, rfl⟩
 obtain ⟨c12, hc12⟩ : ∃ c1, c1 = c0 - ((ji5) : Int).toNat := ⟨_, rfl⟩
 have hy12 : y151.length = ((wrap64 ((ji5) + (ji7))) : Int).toNat - ((ji5) : Int).toNat := (by rw [Ny151.out, List.length_drop, List.length_take] <;> omega)
 rw [show ((l0).take ((wrap64 ((ji5) + (ji7))) : Int).toNat).drop ((ji5) : Int).toNat = y151 from Ny151.out.symm] at hr12
 replace hr12 : Kd.C (Kd.slice 36 k36) _ A12 y151.length y151 := (by rw [hA12]; exact hr12)
 rw [← hy12, ← hA12, ← hc12] at hcut12
 have HR154 := Aside0.mk hr12; have HC154 := Aside0.mk (show y151.length ≤ c12 from by rw [hy12, hc12]; exact Nat.sub_le_sub_right (Nat.le_trans (by omega) hroom12) _)
 clear hr12 hC12 hroom12 hi012 hsz12 hc12; have KY12 := Aside0.mk hy12; have KA12 := Aside0.mk hA12; clear hy12 hA12; replace q12 := eq_true q12; go_enter Tryd.func18, Tryd.ntmps18
 go_wp2_with (first | ((with_reducible refine gate_callee (f := 23) rfl ?_); refine goesL_ (some 25) rfl rfl Tryd.func23 (by kernel_rfl) rfl #[.slice A12 y151.length c12] rfl (by (try simp only [List.map_toArray, List.map_cons, List.map_nil]); first | done | rfl | (simp only [List.length_drop, List.length_take]; rfl)) ?_; (with_reducible refine (order_copied.calls k _ _ y151 t155 _ ?side1 ?side2 A11.out).mono ?_); (case side1 => repeat (first | exact HR154.out | (with_reducible refine Kd.C_alloc ?_ _) | (with_reducible refine Kd.C_drewN ?_ _) | (with_reducible refine Kd.C_drew ?_))); (case side2 => exact HC154.out); rintro e w13 ⟨v156, rfl, ho0, hb⟩; refine ⟨_, rfl, ?_⟩; have n0_ := Aside0.mk (Kd.S_lower ho0 (below_size (mvB HB.out))); have n1_ := Aside0.mk (below_step (mvB HB.out) hb); clear HB; have HO157 := n0_; have HB := n1_; clear n0_ n1_; (try clear hb); (try clear hb2); (try clear hk); (try clear hi); (try clear ho0)))
 go_ret
 exact ⟨_, by first | rfl | (simp [errW_none, errW_some] <;> rfl) | (simp only [← hji4, ← hji5, ← hji6, ← hji7]; first | rfl | (simp [errW_none, errW_some] <;> rfl)) | (simp [*, errW_none, errW_some] <;> rfl) | exact congrArg (fun b_ => Ending.returned (.bool b_)) (decide_eq_decide.2 (by unfold wrap64; omega)), by (with_reducible repeat (first | apply Kd.S_alloc | apply Kd.S_drewN | apply Kd.S_drew)); exact HO157.out, mvB HB.out⟩

end Go.Proofs.YtdojgfkcpaeacaaDoor.Q
