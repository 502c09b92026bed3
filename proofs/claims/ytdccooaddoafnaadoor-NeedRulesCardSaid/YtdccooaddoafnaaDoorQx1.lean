-- PRINTED by print.py (a twelfth state) out of the translation. Not trusted: Lean checks it.
import Derived.Test.YtdccooaddoafnaaDoorQx0
namespace Go.Proofs.YtdccooaddoafnaaDoor.Q
open Go.RowKit Go.Proofs.YtdccooaddoafnaaDoorW.PrintWords Go.Proofs.YtdccooaddoafnaaDoorW.PrintLast Go.Proofs.YtdccooaddoafnaaDoorW.PrintMore
attribute [local go_sem] str_gtr str_geq str_leq max2_int min2_int max_two min_two max_three min_three max_four min_four
set_option linter.unusedVariables false
set_option maxHeartbeats 8000000
set_option maxRecDepth 100000
set_option linter.unusedSimpArgs false

/-! ### need_joins: function 34 -/
def need_joins.f (a0 : Int) : Option (Bool) := if a0 ≥ 12 then (some (decide (a0 ≤ 14))) else (some false)
theorem need_joins.calls (a0 : Int) (r : Bool) (w : World) (h : need_joins.f a0 = some r) :
  Calls Tryd.prog 34 #[.int .i64 a0] w fun e w' => e = .returned (.bool r) ∧ Drawn0 w w' := by
 have H : (if a0 ≥ 12 then (some (decide (a0 ≤ 14))) else (some false)) = some r := h; clear h; by_cases c2 : a0 ≥ 12
 ·rw [if_pos c2] at H; have c2b0 : decide (12 ≤ a0) = true := decide_eq_true c2; clear c2; obtain rfl := Option.some.inj H
  go_enter Tryd.func34, Tryd.ntmps34
  go_wp2
  go_ret
  exact exD
 ·rw [if_neg c2] at H; have c2b0 : decide (12 ≤ a0) = false := decide_eq_false c2; clear c2; obtain rfl := Option.some.inj H
  go_enter Tryd.func34, Tryd.ntmps34
  go_wp2
  go_ret
  exact exD

/-! ### like_sign: function 54 -/
def like_sign.f (a0 : Int) : Option (Int) := if a0 = 37 then (some 257) else (if a0 = 95 then (some 256) else (some (wrap64 (a0))))
theorem like_sign.calls (a0 : Int) (r : Int) (w : World) (h : like_sign.f a0 = some r) :
  Calls Tryd.prog 54 #[.int .u8 a0] w fun e w' => e = .returned (.int .i64 r) ∧ Drawn0 w w' := by
 have H : (if a0 = 37 then (some 257) else (if a0 = 95 then (some 256) else (some (wrap64 (a0))))) = some r := h; clear h; by_cases c2 : a0 = 37
 ·rw [if_pos c2] at H; have c2b0 : (a0 == 37) = true := beq_iff_eq.mpr c2; have c2b1 : (a0 != 37) = false := bne_eq_false_iff_eq.mpr c2; clear c2; obtain rfl := Option.some.inj H
  go_enter Tryd.func54, Tryd.ntmps54
  go_wp2
  go_ret
  exact exD
 ·rw [if_neg c2] at H; have c2b0 : (a0 == 37) = false := beq_eq_false_iff_ne.mpr c2; have c2b1 : (a0 != 37) = true := bne_iff_ne.mpr c2; by_cases c3 : a0 = 95
  ·rw [if_pos c3] at H; have c3b0 : (a0 == 95) = true := beq_iff_eq.mpr c3; have c3b1 : (a0 != 95) = false := bne_eq_false_iff_eq.mpr c3; clear c3; obtain rfl := Option.some.inj H
   go_enter Tryd.func54, Tryd.ntmps54
   go_wp2
   go_ret
   exact exD
  ·rw [if_neg c3] at H; have c3b0 : (a0 == 95) = false := beq_eq_false_iff_ne.mpr c3; have c3b1 : (a0 != 95) = true := bne_iff_ne.mpr c3; obtain rfl := Option.some.inj H
   go_enter Tryd.func54, Tryd.ntmps54
   go_wp2
   go_ret
   exact exD

/-! ### like_Parse: function 40 -/
mutual
def like_Parse.j0 : Nat → ByteArray → Int → Bool → Option (List Int × Int)
 | 0, _, _, _ => none
 | k + 1, x0, x1, x18 => if x18 = true then (some (([] : List Int), 8)) else (like_Parse.l0 k x0 x1 ([] : List Int) 0)
def like_Parse.l0 : Nat → ByteArray → Int → List Int → Int → Option (List Int × Int)
 | 0, _, _, _, _ => none
 | k + 1, x0, x1, x6, x7 => if x7 < (x0.size : Int) then (if 0 ≤ x7 then (if (wrap64 (bt x0 x7)) = x1 then (if (wrap64 (x7 + 1)) = (x0.size : Int) then (some (([] : List Int), 8)) else (if 0 ≤ (wrap64 (x7 + 1)) then (if (wrap64 (x7 + 1)) < (x0.size : Int) then (if x6.length < 17592186044416 then (like_Parse.l0 k x0 x1 (x6 ++ [wrap64 (bt x0 (wrap64 (x7 + 1)))]) (wrap64 ((wrap64 (x7 + 1)) + 1))) else (none)) else (none)) else (none))) else ((like_sign.f (bt x0 x7)).bind fun t104 => (if x6.length < 17592186044416 then (like_Parse.l0 k x0 x1 (x6 ++ [t104]) (wrap64 (x7 + 1))) else (none)))) else (none)) else (some (x6, 0))
end
def like_Parse.f (k : Nat) (a0 : ByteArray) (a1 : Int) : Option (List Int × Int) := if a1 < (-1) then (like_Parse.j0 k a0 a1 true) else (if a1 > 255 then (like_Parse.j0 k a0 a1 true) else (like_Parse.j0 k a0 a1 (decide ((a0.size : Int) > 4096))))
theorem like_Parse.mono_l : ∀ k, (∀ y0 y1 y2, LeO (like_Parse.j0 k y0 y1 y2) (like_Parse.j0 (k + 1) y0 y1 y2)) ∧ (∀ y0 y1 y2 y3, LeO (like_Parse.l0 k y0 y1 y2 y3) (like_Parse.l0 (k + 1) y0 y1 y2 y3))
 | 0 => ⟨fun _ _ _ r h => by simp [like_Parse.j0] at h, fun _ _ _ _ r h => by simp [like_Parse.l0] at h⟩
 | k + 1 => by
  obtain ⟨ih0, ih1⟩ := like_Parse.mono_l k
  refine ⟨?_, ?_⟩
  ·intro y0 y1 y2
   unfold like_Parse.j0
   repeat' first
   | (with_reducible exact ih0 _ _ _)
   | (with_reducible exact ih1 _ _ _ _)
   | (with_reducible exact LeO.refl _)
   | (with_reducible exact LeO.none _)
   | (with_reducible refine LeO.ite ?_ ?_)
   | (with_reducible refine LeO.bind ?_ (fun _ => ?_))
   | exact ih0 _ _ _
   | exact ih1 _ _ _ _
   | exact LeO.none _
   | refine LeO.ite ?_ ?_
   | refine LeO.bind ?_ (fun _ => ?_)
  ·intro y0 y1 y2 y3
   unfold like_Parse.l0
   repeat' first
   | (with_reducible exact ih0 _ _ _)
   | (with_reducible exact ih1 _ _ _ _)
   | (with_reducible exact LeO.refl _)
   | (with_reducible exact LeO.none _)
   | (with_reducible refine LeO.ite ?_ ?_)
   | (with_reducible refine LeO.bind ?_ (fun _ => ?_))
   | exact ih0 _ _ _
   | exact ih1 _ _ _ _
   | exact LeO.none _
   | refine LeO.ite ?_ ?_
   | refine LeO.bind ?_ (fun _ => ?_)
theorem like_Parse.mono : ∀ a0 a1 k, LeO (like_Parse.f k a0 a1) (like_Parse.f (k + 1) a0 a1) := by
 intro a0 a1 k
 obtain ⟨ih0, ih1⟩ := like_Parse.mono_l k
 unfold like_Parse.f
 repeat' first
   | (with_reducible exact ih0 _ _ _)
   | (with_reducible exact ih1 _ _ _ _)
   | (with_reducible exact LeO.refl _)
   | (with_reducible exact LeO.none _)
   | (with_reducible refine LeO.ite ?_ ?_)
   | (with_reducible refine LeO.bind ?_ (fun _ => ?_))
   | exact ih0 _ _ _
   | exact ih1 _ _ _ _
   | exact LeO.none _
   | refine LeO.ite ?_ ?_
   | refine LeO.bind ?_ (fun _ => ?_)
theorem like_Parse.calls (k : Nat) (a0 : ByteArray) (a1 : Int) (r1 : List Int) (r2 : Int) (w : World) (h : like_Parse.f k a0 a1 = some (r1, r2)) :
  Calls Tryd.prog 40 #[.string a0, .int .i64 a1] w fun e w' => ∃ v0_ : Value, e = .returned (.tuple #[v0_, .int .i64 r2]) ∧ Kd.R (Kd.int .i64) 3 w' w.heap.size (fun _ => True) v0_ r1 ∧ Below w.heap.size w w' := by
 have HB := Aside0.mk (Below.refl w.heap.size w)
 have H : (if a1 < (-1) then (like_Parse.j0 k a0 a1 true) else (if a1 > 255 then (like_Parse.j0 k a0 a1 true) else (like_Parse.j0 k a0 a1 (decide ((a0.size : Int) > 4096))))) = some (r1, r2) := h; clear h; have HC3 := Aside0.mk H; clear H; go_enter Tryd.func40, Tryd.ntmps40
 go_upto_region 1 with (fail)
 go_cut [18] (fun v18 wc => ∃ (kq : Nat) (x18_2 : Bool), v18 = .bool x18_2 ∧ Aside0 (like_Parse.j0 kq a0 a1 x18_2 = some (r1, r2)) ∧ Aside0 (kq ≤ k) ∧ Aside0 (Below w.heap.size w wc))
 case first =>
  have H := HC3.out; clear HC3; by_cases c4 : a1 < (-1)
  ·rw [if_pos c4] at H; have c4b0 : decide (a1 < (-1)) = true := decide_eq_true c4; clear c4; (first | rw [c4b0] | (simp only [i64_w, i32_w]; rw [c4b0]) | skip)
   have H' := Aside0.mk H
   clear H; go_wp2
   go_meet
   case rel => exact ⟨_, (true), (by first | rfl | (simp; done) | (simp [*]; done)), H', ⟨by first | omega | exact Nat.le_refl _⟩, ⟨mvB HB.out⟩⟩
  ·rw [if_neg c4] at H; have c4b0 : decide (a1 < (-1)) = false := decide_eq_false c4; clear c4; (first | rw [c4b0] | (simp only [i64_w, i32_w]; rw [c4b0]) | skip)
   by_cases c5 : a1 > 255
   ·rw [if_pos c5] at H; have c5b0 : decide (255 < a1) = true := decide_eq_true c5; clear c5; have H' := Aside0.mk H
    clear H; go_wp2
    go_meet
    case rel => exact ⟨_, (true), (by first | rfl | (simp; done) | (simp [*]; done)), H', ⟨by first | omega | exact Nat.le_refl _⟩, ⟨mvB HB.out⟩⟩
   ·rw [if_neg c5] at H; have c5b0 : decide (255 < a1) = false := decide_eq_false c5; clear c5; have H' := Aside0.mk H
    clear H; go_wp2
    go_meet
    case rel => exact ⟨_, (decide ((a0.size : Int) > 4096)), (by first | rfl | (simp; done) | (simp [*]; done)), H', ⟨by first | omega | exact Nat.le_refl _⟩, ⟨mvB HB.out⟩⟩
 case rest =>
  clear HC3; try clear p2
  try clear c4
  try clear c4b0
  try clear c5
  try clear c5b0
  obtain ⟨kq, x18_2, rfl, HA, HJ2, HB⟩ := hcut
  cases kq with
  | zero => exact absurd HA.out (by simp [like_Parse.j0])
  | succ kj2 =>
   have H := HA.out; clear HA; simp only [like_Parse.j0] at H
   by_cases c6 : x18_2 = true
   ·subst c6; have H1 : (some (([] : List Int), 8)) = some (r1, r2) := by rw [if_pos rfl] at H; exact H
    clear H; have H := H1; clear H1; simp only [Option.some.injEq, Prod.mk.injEq] at H
    obtain ⟨rfl, rfl⟩ := H; go_wp2
    go_ret2
    exact ⟨_, by first | rfl | (simp [errW_none, errW_some] <;> rfl) | (simp [*, errW_none, errW_some] <;> rfl) | exact congrArg (fun b_ => Ending.returned (.bool b_)) (decide_eq_decide.2 (by unfold wrap64; omega)), by first | exact Kd.R_nil _ _ _ _ _ | exact Kd.N_nil _ _ _ _ _ | exact Kd.V_nil _ _ _ _ _ | exact Kd.Q_nil _ _ _ _ _ | exact Kd.S_nil _ _ _ _ _, mvB HB.out⟩
   ·replace c6 := Bool.eq_false_iff.mpr c6; subst c6; have H1 : (like_Parse.l0 kj2 a0 a1 ([] : List Int) 0) = some (r1, r2) := by rw [if_neg (show ¬ (false = true) by decide)] at H; exact H
    clear H; have H := H1; clear H1; have H' := Aside0.mk H
    clear H; go_wp2
    go_loopg [6, 7] kj2 (fun kq v6 v7 w' => ∃ (x6_2 : List Int) (x7_2 : Int), v7 = .int .i64 x7_2 ∧ Aside0 (like_Parse.l0 kq a0 a1 x6_2 x7_2 = some (r1, r2)) ∧ Aside0 (kq ≤ kj2) ∧ Aside0 (Kd.R (Kd.int .i64) 3 w' w.heap.size (fun _ => True) v6 x6_2) ∧ Aside0 (Below w.heap.size w w'))
    case atStart => exact ⟨(([] : List Int)), (0), (by first | rfl | (simp; done) | (simp [*]; done)), H', ⟨Nat.le_refl _⟩, ⟨by first | exact Kd.R_nil _ _ _ _ _ | exact Kd.N_nil _ _ _ _ _ | exact Kd.V_nil _ _ _ _ _ | exact Kd.Q_nil _ _ _ _ _ | exact Kd.S_nil _ _ _ _ _⟩, ⟨mvB HB.out⟩⟩
    case round =>
     clear H'; (try clear p2); (try clear c4); (try clear c4b0); (try clear c5); (try clear c5b0); (try clear c6); (try clear p6); (try clear p2); obtain ⟨x6_2, x7_2, rfl, HA, HK2, HO_6, HB⟩ := hrel
     cases gk with
     | zero => exact absurd HA.out (by simp [like_Parse.l0])
     | succ k2 =>
      have H := HA.out; clear HA; simp only [like_Parse.l0] at H
      by_cases c7 : x7_2 < (a0.size : Int)
      ·rw [if_pos c7] at H; have c7b0 : decide (x7_2 < (a0.size : Int)) = true := decide_eq_true c7; clear c7; by_cases c8 : 0 ≤ x7_2
       case neg => rw [if_neg c8] at H; exact absurd H (by simp)
       rw [if_pos c8] at H; have c8b0 : decide (0 ≤ x7_2) = true := decide_eq_true c8; clear c8; by_cases c10 : (wrap64 (bt a0 x7_2)) = a1
       ·rw [if_pos c10] at H; have c10b0 : ((wrap64 (bt a0 x7_2)) == a1) = true := beq_iff_eq.mpr c10; have c10b1 : ((wrap64 (bt a0 x7_2)) != a1) = false := bne_eq_false_iff_eq.mpr c10; clear c10; by_cases c11 : (wrap64 (x7_2 + 1)) = (a0.size : Int)
        ·rw [if_pos c11] at H; have c11b0 : ((wrap64 (x7_2 + 1)) == (a0.size : Int)) = true := beq_iff_eq.mpr c11; have c11b1 : ((wrap64 (x7_2 + 1)) != (a0.size : Int)) = false := bne_eq_false_iff_eq.mpr c11; clear c11; simp only [Option.some.injEq, Prod.mk.injEq] at H
         obtain ⟨rfl, rfl⟩ := H; have p9 : 0 ≤ (x7_2 : Int) := dtA; have q9 : x7_2 < (a0.size : Int) := dtA; have hx9 := bt_at a0 x7_2; replace p9 := eq_true p9; replace q9 := eq_true q9; go_wp2
         go_ret2
         exact ⟨_, by first | rfl | (simp [errW_none, errW_some] <;> rfl) | (simp [*, errW_none, errW_some] <;> rfl) | exact congrArg (fun b_ => Ending.returned (.bool b_)) (decide_eq_decide.2 (by unfold wrap64; omega)), by first | exact Kd.R_nil _ _ _ _ _ | exact Kd.N_nil _ _ _ _ _ | exact Kd.V_nil _ _ _ _ _ | exact Kd.Q_nil _ _ _ _ _ | exact Kd.S_nil _ _ _ _ _, mvB HB.out⟩
        ·rw [if_neg c11] at H; have c11b0 : ((wrap64 (x7_2 + 1)) == (a0.size : Int)) = false := beq_eq_false_iff_ne.mpr c11; have c11b1 : ((wrap64 (x7_2 + 1)) != (a0.size : Int)) = true := bne_iff_ne.mpr c11; obtain ⟨ji12, hji12⟩ : ∃ j_ : Int, (wrap64 (x7_2 + 1)) = j_ := ⟨_, rfl⟩
         replace H : (if 0 ≤ (ji12) then (if (ji12) < (a0.size : Int) then (if x6_2.length < 17592186044416 then (like_Parse.l0 k2 a0 a1 (x6_2 ++ [wrap64 (bt a0 (ji12))]) (wrap64 ((ji12) + 1))) else (none)) else (none)) else (none)) = some (r1, r2) := by first | (rw [hji12] at H; exact H) | (simp only [hji12] at H ⊢; exact H)
         (try rw [hji12] at c11b0)
         (try rw [hji12] at c11b1)
         have hji12w : (IntKind.i64.wrap (x7_2 + 1)) = ji12 := (i64_w _).trans hji12
         by_cases c13 : 0 ≤ (ji12)
         case neg => rw [if_neg c13] at H; exact absurd H (by simp)
         rw [if_pos c13] at H; have c13b0 : decide (0 ≤ (ji12)) = true := decide_eq_true c13; clear c13; by_cases c14 : (ji12) < (a0.size : Int)
         case neg => rw [if_neg c14] at H; exact absurd H (by simp)
         rw [if_pos c14] at H; have c14b0 : decide ((ji12) < (a0.size : Int)) = true := decide_eq_true c14; clear c14; by_cases c16 : x6_2.length < 17592186044416
         case neg => rw [if_neg c16] at H; exact absurd H (by simp)
         rw [if_pos c16] at H; have LMc16 := Aside0.mk c16; clear c16; obtain ⟨y101, hy101⟩ : ∃ y_ : List Int, y_ = (x6_2 ++ [wrap64 (bt a0 (ji12))]) := ⟨_, rfl⟩
         replace H : (like_Parse.l0 k2 a0 a1 y101 (wrap64 ((ji12) + 1))) = some (r1, r2) := by first | (rw [hy101]; with_reducible exact H) | (have H2_ := (Option.bind_some _ _).symm.trans H; rw [hy101]; with_reducible exact H2_) | (have H2_ := (Option.bind_some _ _).symm.trans H; with_reducible exact H2_) | with_reducible exact H | (rw [hy101]; exact H) | exact H
         have Ny101 := Aside0.mk hy101; clear hy101; have H' := Aside0.mk H
         clear H; have p9 : 0 ≤ (x7_2 : Int) := dtA; have q9 : x7_2 < (a0.size : Int) := dtA; have hx9 := bt_at a0 x7_2; replace p9 := eq_true p9; replace q9 := eq_true q9; have p15 : 0 ≤ ((ji12) : Int) := dtA; have q15 : (ji12) < (a0.size : Int) := dtA; have hx15 := bt_at a0 (ji12)
         replace p15 := eq_true p15; replace q15 := eq_true q15; go_wp2_with (first | ((with_reducible refine gate_builtin (b := .append) (xs := #[.tmp 44, .tmp 49]) rfl ?_); (try (refine gate_guard (by rfl) ?_; dsimp only)); at_builtin; refine Kd.R_append (Kd.int .i64) (w0 := w) w.heap.size rfl (.tmp 44) (.tmp 49) 43 3 (.int .i64 0) 8 rfl Tryd.underlying43 info3 rfl (by decide) (by omega) u6 x6_2 (wrap64 (bt a0 (ji12))) [.int .i64 (wrap64 (bt a0 (ji12)))] (fun _ => True) (fun _ => False) rfl rfl ?aP (fun _ hk => hk.elim) ?aF ?aO ?aB ?aS ?aL ?_; (case aP => exact rfl); (case aB => exact (mvB HB.out)); (case aF => exact (fun _ _ => trivial)); (case aO => exact (mvR HO_6.out)); (case aS => exact (below_size (mvB HB.out))); (case aL => have := LMc16.out; omega); intro v102 w17 ho hb hg hat; rw [← Ny101.out] at ho; have n0_ := Aside0.mk (hb); have n1_ := Aside0.mk (ho); clear HB; clear HO_6; have HB := n0_; have HO103 := n1_; clear n0_ n1_; clear ho hb hg hat))
         go_roundg k2
         case measure => have := HJ2.out; have := HK2.out; omega
         case rel => exact ⟨(y101), (wrap64 ((ji12) + 1)), (by first | rfl | (simp; done) | (simp only [← hji12] <;> (first | rfl | simp)) | (simp [*]; done)), H', ⟨by have := HJ2.out; have := HK2.out; omega⟩, ⟨by (with_reducible repeat (first | apply Kd.R_alloc | apply Kd.R_drewN | apply Kd.R_drew)); exact HO103.out⟩, ⟨mvB HB.out⟩⟩
       ·rw [if_neg c10] at H; have c10b0 : ((wrap64 (bt a0 x7_2)) == a1) = false := beq_eq_false_iff_ne.mpr c10; have c10b1 : ((wrap64 (bt a0 x7_2)) != a1) = true := bne_iff_ne.mpr c10; replace H := Option.bind_eq_some_iff.mp H; obtain ⟨t104, A190, H⟩ := H; replace H : (if x6_2.length < 17592186044416 then (like_Parse.l0 k2 a0 a1 (x6_2 ++ [t104]) (wrap64 (x7_2 + 1))) else (none)) = some (r1, r2) := H
        have A19 := Aside0.mk A190; clear A190; by_cases c20 : x6_2.length < 17592186044416
        case neg => rw [if_neg c20] at H; exact absurd H (by simp)
        rw [if_pos c20] at H; have LMc20 := Aside0.mk c20; clear c20; obtain ⟨y105, hy105⟩ : ∃ y_ : List Int, y_ = (x6_2 ++ [t104]) := ⟨_, rfl⟩
        replace H : (like_Parse.l0 k2 a0 a1 y105 (wrap64 (x7_2 + 1))) = some (r1, r2) := by first | (rw [hy105]; with_reducible exact H) | (have H2_ := (Option.bind_some _ _).symm.trans H; rw [hy105]; with_reducible exact H2_) | (have H2_ := (Option.bind_some _ _).symm.trans H; with_reducible exact H2_) | with_reducible exact H | (rw [hy105]; exact H) | exact H
        have Ny105 := Aside0.mk hy105; clear hy105; have H' := Aside0.mk H
        clear H; have p9 : 0 ≤ (x7_2 : Int) := dtA; have q9 : x7_2 < (a0.size : Int) := dtA; have hx9 := bt_at a0 x7_2; replace p9 := eq_true p9; replace q9 := eq_true q9; have p18 : 0 ≤ (x7_2 : Int) := dtA; have q18 : x7_2 < (a0.size : Int) := dtA; have hx18 := bt_at a0 x7_2; replace p18 := eq_true p18; replace q18 := eq_true q18; go_wp2_with (first | ((with_reducible refine gate_callee (f := 54) rfl ?_); refine goesL_ (some 35) rfl rfl Tryd.func54 (by kernel_rfl) rfl #[.int .u8 (bt a0 x7_2)] rfl (by (try simp only [List.map_toArray, List.map_cons, List.map_nil]); first | done | rfl | (simp only [List.length_drop, List.length_take]; rfl)) ?_; (with_reducible refine (like_sign.calls (bt a0 x7_2) t104 _ A19.out).mono ?_); rintro e w' ⟨rfl, ⟨nd, rfl⟩⟩; refine ⟨_, rfl, ?_⟩) | ((with_reducible refine gate_builtin (b := .append) (xs := #[.tmp 31, .tmp 36]) rfl ?_); (try (refine gate_guard (by rfl) ?_; dsimp only)); at_builtin; refine Kd.R_append (Kd.int .i64) (w0 := w) w.heap.size rfl (.tmp 31) (.tmp 36) 43 3 (.int .i64 0) 8 rfl Tryd.underlying43 info3 rfl (by decide) (by omega) u6 x6_2 t104 [.int .i64 t104] (fun _ => True) (fun _ => False) rfl rfl ?aP (fun _ hk => hk.elim) ?aF ?aO ?aB ?aS ?aL ?_; (case aP => exact rfl); (case aB => exact (mvB HB.out)); (case aF => exact (fun _ _ => trivial)); (case aO => exact (mvR HO_6.out)); (case aS => exact (below_size (mvB HB.out))); (case aL => have := LMc20.out; omega); intro v106 w21 ho hb hg hat; rw [← Ny105.out] at ho; have n0_ := Aside0.mk (hb); have n1_ := Aside0.mk (ho); clear HB; clear HO_6; have HB := n0_; have HO107 := n1_; clear n0_ n1_; clear ho hb hg hat))
        go_roundg k2
        case measure => have := HJ2.out; have := HK2.out; omega
        case rel => exact ⟨(y105), (wrap64 (x7_2 + 1)), (by first | rfl | (simp; done) | (simp [*]; done)), H', ⟨by have := HJ2.out; have := HK2.out; omega⟩, ⟨by (with_reducible repeat (first | apply Kd.R_alloc | apply Kd.R_drewN | apply Kd.R_drew)); exact HO107.out⟩, ⟨mvB HB.out⟩⟩
      ·rw [if_neg c7] at H; have c7b0 : decide (x7_2 < (a0.size : Int)) = false := decide_eq_false c7; clear c7; simp only [Option.some.injEq, Prod.mk.injEq] at H
       obtain ⟨rfl, rfl⟩ := H; go_wp2
       go_ret2
       exact ⟨_, by first | rfl | (simp [errW_none, errW_some] <;> rfl) | (simp [*, errW_none, errW_some] <;> rfl) | exact congrArg (fun b_ => Ending.returned (.bool b_)) (decide_eq_decide.2 (by unfold wrap64; omega)), by (with_reducible repeat (first | apply Kd.R_alloc | apply Kd.R_drewN | apply Kd.R_drew)); exact HO_6.out, mvB HB.out⟩

/-! ### need_compares: function 52 -/
def need_compares.f (a0 : Int) : Option (Bool) := if a0 ≥ 1 then (some (decide (a0 ≤ 6))) else (some false)
theorem need_compares.calls (a0 : Int) (r : Bool) (w : World) (h : need_compares.f a0 = some r) :
  Calls Tryd.prog 52 #[.int .i64 a0] w fun e w' => e = .returned (.bool r) ∧ Drawn0 w w' := by
 have H : (if a0 ≥ 1 then (some (decide (a0 ≤ 6))) else (some false)) = some r := h; clear h; by_cases c2 : a0 ≥ 1
 ·rw [if_pos c2] at H; have c2b0 : decide (1 ≤ a0) = true := decide_eq_true c2; clear c2; obtain rfl := Option.some.inj H
  go_enter Tryd.func52, Tryd.ntmps52
  go_wp2
  go_ret
  exact exD
 ·rw [if_neg c2] at H; have c2b0 : decide (1 ≤ a0) = false := decide_eq_false c2; clear c2; obtain rfl := Option.some.inj H
  go_enter Tryd.func52, Tryd.ntmps52
  go_wp2
  go_ret
  exact exD

end Go.Proofs.YtdccooaddoafnaaDoor.Q
