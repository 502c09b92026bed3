-- PRINTED by print.py (a twelfth state) out of the translation. Not trusted: Lean checks it.
import Derived.Test.YtdccooaddoafnaaGreatDoorQx0
import Derived.Test.YtdccooaddoafnaaGreatDoorQx1
import Derived.Test.YtdccooaddoafnaaGreatDoorQx5
namespace Go.Proofs.YtdccooaddoafnaaGreatDoor.Q
open Go.RowKit Go.Proofs.YtdccooaddoafnaaGreatDoorW.PrintWords Go.Proofs.YtdccooaddoafnaaGreatDoorW.PrintLast Go.Proofs.YtdccooaddoafnaaGreatDoorW.PrintMore
attribute [local go_sem] str_gtr str_geq str_leq max2_int min2_int max_two min_two max_three min_three max_four min_four
set_option linter.unusedVariables false
set_option maxHeartbeats 8000000
set_option maxRecDepth 100000
set_option linter.unusedSimpArgs false

/-! ### hopperref16_Filters: function 11 -/
mutual
def hopperref16_Filters.l0 : Nat → List (List (S38)) → Int → Int → List (S53) → Int → Option ((List (S53)))
 | 0, _, _, _, _, _ => none
 | k + 1, x0, x1, x2, x7, x8 => if x8 < x1 then (hopperref16_Filters.l1 k x0 x1 x2 x7 x8 ([] : List ByteArray) 0) else (some x7)
def hopperref16_Filters.l1 : Nat → List (List (S38)) → Int → Int → List (S53) → Int → List ByteArray → Int → Option ((List (S53)))
 | 0, _, _, _, _, _, _, _ => none
 | k + 1, x0, x1, x2, x7, x8, x9, x10 => if x10 < (x0.length : Int) then (if 0 ≤ x10 then (if 0 ≤ x8 then (if x8 < ((rd_L7 x0 x10).length : Int) then (if ((rd_T38 (rd_L7 x0 x10) x8).f0 = true) then (hopperref16_Filters.l1 k x0 x1 x2 x7 x8 x9 (wrap64 (x10 + 1))) else (if x9.length < 8796093022208 then (hopperref16_Filters.l1 k x0 x1 x2 x7 x8 (x9 ++ [(rd_T38 (rd_L7 x0 x10) x8).f1]) (wrap64 (x10 + 1))) else (none))) else (none)) else (none)) else (none)) else ((hopperref15_Make.f k x9 x2).bind fun bt177 => (if x7.length < 2513169434916 then (hopperref16_Filters.l0 k x0 x1 x2 (x7 ++ [(⟨bt177.1, bt177.2.1, bt177.2.2⟩ : S53)]) (wrap64 (x8 + 1))) else (none)))
end
def hopperref16_Filters.f (k : Nat) (l0 : List (List (S38))) (a1 : Int) (a2 : Int) : Option ((List (S53))) := hopperref16_Filters.l0 k l0 a1 a2 ([] : List (S53)) 0
theorem hopperref16_Filters.mono_l : ∀ k, (∀ y0 y1 y2 y3 y4, LeO (hopperref16_Filters.l0 k y0 y1 y2 y3 y4) (hopperref16_Filters.l0 (k + 1) y0 y1 y2 y3 y4)) ∧ (∀ y0 y1 y2 y3 y4 y5 y6, LeO (hopperref16_Filters.l1 k y0 y1 y2 y3 y4 y5 y6) (hopperref16_Filters.l1 (k + 1) y0 y1 y2 y3 y4 y5 y6))
 | 0 => ⟨fun _ _ _ _ _ r h => by simp [hopperref16_Filters.l0] at h, fun _ _ _ _ _ _ _ r h => by simp [hopperref16_Filters.l1] at h⟩
 | k + 1 => by
  obtain ⟨ih0, ih1⟩ := hopperref16_Filters.mono_l k
  refine ⟨?_, ?_⟩
  ·intro y0 y1 y2 y3 y4
   unfold hopperref16_Filters.l0
   repeat' first
   | (with_reducible exact ih0 _ _ _ _ _)
   | (with_reducible exact ih1 _ _ _ _ _ _ _)
   | (with_reducible exact hopperref15_Make.mono _ _ _)
   | (with_reducible exact LeO.refl _)
   | (with_reducible exact LeO.none _)
   | (with_reducible refine LeO.ite ?_ ?_)
   | (with_reducible refine LeO.bind ?_ (fun _ => ?_))
   | exact ih0 _ _ _ _ _
   | exact ih1 _ _ _ _ _ _ _
   | exact hopperref15_Make.mono _ _ _
   | exact LeO.none _
   | refine LeO.ite ?_ ?_
   | refine LeO.bind ?_ (fun _ => ?_)
  ·intro y0 y1 y2 y3 y4 y5 y6
   unfold hopperref16_Filters.l1
   repeat' first
   | (with_reducible exact ih0 _ _ _ _ _)
   | (with_reducible exact ih1 _ _ _ _ _ _ _)
   | (with_reducible exact hopperref15_Make.mono _ _ _)
   | (with_reducible exact LeO.refl _)
   | (with_reducible exact LeO.none _)
   | (with_reducible refine LeO.ite ?_ ?_)
   | (with_reducible refine LeO.bind ?_ (fun _ => ?_))
   | exact ih0 _ _ _ _ _
   | exact ih1 _ _ _ _ _ _ _
   | exact hopperref15_Make.mono _ _ _
   | exact LeO.none _
   | refine LeO.ite ?_ ?_
   | refine LeO.bind ?_ (fun _ => ?_)
theorem hopperref16_Filters.mono : ∀ a0 a1 a2 k, LeO (hopperref16_Filters.f k a0 a1 a2) (hopperref16_Filters.f (k + 1) a0 a1 a2) := by
 intro a0 a1 a2 k
 obtain ⟨ih0, ih1⟩ := hopperref16_Filters.mono_l k
 unfold hopperref16_Filters.f
 repeat' first
   | (with_reducible exact ih0 _ _ _ _ _)
   | (with_reducible exact ih1 _ _ _ _ _ _ _)
   | (with_reducible exact hopperref15_Make.mono _ _ _)
   | (with_reducible exact LeO.refl _)
   | (with_reducible exact LeO.none _)
   | (with_reducible refine LeO.ite ?_ ?_)
   | (with_reducible refine LeO.bind ?_ (fun _ => ?_))
   | exact ih0 _ _ _ _ _
   | exact ih1 _ _ _ _ _ _ _
   | exact hopperref15_Make.mono _ _ _
   | exact LeO.none _
   | refine LeO.ite ?_ ?_
   | refine LeO.bind ?_ (fun _ => ?_)
theorem hopperref16_Filters.calls (k : Nat) (A0 : Option Addr) (c0 : Nat) (l0 : List (List (S38))) (a1 : Int) (a2 : Int) (r : List (S53)) (w : World) (hr0 : Kd.C (Kd.slice 38 k38) w A0 l0.length l0) (hc0 : l0.length ≤ c0) (h : hopperref16_Filters.f k l0 a1 a2 = some r) :
  Calls Tryz.prog 11 #[.slice A0 l0.length c0, .int .i64 a1, .int .i64 a2] w fun e w' => ∃ v0_ : Value, e = .returned (v0_) ∧ Kd.S k53 53 w' w.heap.size (fun _ => True) v0_ r ∧ Below w.heap.size w w' := by
 have HR0 := Aside0.mk hr0; have HC0 := Aside0.mk hc0; clear hr0 hc0; have HB := Aside0.mk (Below.refl w.heap.size w)
 have H : (hopperref16_Filters.l0 k l0 a1 a2 ([] : List (S53)) 0) = some r := h; clear h; have H' := Aside0.mk H
 clear H; go_enter Tryz.func11, Tryz.ntmps11
 go_wp2
 go_loopg [7, 8] k (fun kq v7 v8 w' => ∃ (x7_1 : List (S53)) (x8_1 : Int), v8 = .int .i64 x8_1 ∧ Aside0 (hopperref16_Filters.l0 kq l0 a1 a2 x7_1 x8_1 = some r) ∧ Aside0 (kq ≤ k) ∧ Aside0 (Kd.S k53 53 w' w.heap.size (fun _ => True) v7 x7_1) ∧ Aside0 (Below w.heap.size w w'))
 case atStart => exact ⟨(([] : List (S53))), (0), (by first | rfl | (simp; done) | (simp [*]; done)), H', ⟨Nat.le_refl _⟩, ⟨by first | exact Kd.S_nil _ _ _ _ _ | exact Kd.N_nil _ _ _ _ _ | exact Kd.V_nil _ _ _ _ _ | exact Kd.Q_nil _ _ _ _ _ | exact Kd.R_nil _ _ _ _ _⟩, ⟨mvB HB.out⟩⟩
 case round =>
  clear H'; try clear c1
  try clear p2
  obtain ⟨x7_1, x8_1, rfl, HA, HK1, HO_7, HB⟩ := hrel
  cases gk with
  | zero => exact absurd HA.out (by simp [hopperref16_Filters.l0])
  | succ k1 =>
   have H := HA.out; clear HA; simp only [hopperref16_Filters.l0] at H
   by_cases c4 : x8_1 < a1
   ·rw [if_pos c4] at H; have c4b0 : decide (x8_1 < a1) = true := decide_eq_true c4; clear c4; have H' := Aside0.mk H
    clear H; go_wp2
    go_loopg [9, 10] k1 (fun kq v9 v10 w' => ∃ (x9_2 : List ByteArray) (x10_2 : Int), v10 = .int .i64 x10_2 ∧ Aside0 (hopperref16_Filters.l1 kq l0 a1 a2 x7_1 x8_1 x9_2 x10_2 = some r) ∧ Aside0 (kq ≤ k1) ∧ Aside0 (Kd.S k53 53 w' w.heap.size (fun _ => True) u7 x7_1) ∧ Aside0 (Kd.R Kd.string 9 w' w.heap.size (fun _ => True) v9 x9_2) ∧ Aside0 (Below w.heap.size w w'))
    case atStart => exact ⟨(([] : List ByteArray)), (0), (by first | rfl | (simp; done) | (simp [*]; done)), H', ⟨Nat.le_refl _⟩, ⟨by (with_reducible repeat (first | apply Kd.S_alloc | apply Kd.S_drewN | apply Kd.S_drew)); exact HO_7.out⟩, ⟨by first | exact Kd.R_nil _ _ _ _ _ | exact Kd.N_nil _ _ _ _ _ | exact Kd.V_nil _ _ _ _ _ | exact Kd.Q_nil _ _ _ _ _ | exact Kd.S_nil _ _ _ _ _⟩, ⟨mvB HB.out⟩⟩
    case round =>
     clear H'; (try clear c1); (try clear p2); (try clear c4); (try clear c4b0); (try clear p2); obtain ⟨x9_2, x10_2, rfl, HA, HK2, HO_7, HO_9, HB⟩ := hrel
     cases gk with
     | zero => exact absurd HA.out (by simp [hopperref16_Filters.l1])
     | succ k2 =>
      have H := HA.out; clear HA; simp only [hopperref16_Filters.l1] at H
      by_cases c5 : x10_2 < (l0.length : Int)
      ·rw [if_pos c5] at H; have c5b0 : decide (x10_2 < (l0.length : Int)) = true := decide_eq_true c5; clear c5; by_cases c6 : 0 ≤ x10_2
       case neg => rw [if_neg c6] at H; exact absurd H (by simp)
       rw [if_pos c6] at H; have c6b0 : decide (0 ≤ x10_2) = true := decide_eq_true c6; clear c6; by_cases c7 : 0 ≤ x8_1
       case neg => rw [if_neg c7] at H; exact absurd H (by simp)
       rw [if_pos c7] at H; have c7b0 : decide (0 ≤ x8_1) = true := decide_eq_true c7; clear c7; by_cases c8 : x8_1 < ((rd_L7 l0 x10_2).length : Int)
       case neg => rw [if_neg c8] at H; exact absurd H (by simp)
       rw [if_pos c8] at H; have c8b0 : decide (x8_1 < ((rd_L7 l0 x10_2).length : Int)) = true := decide_eq_true c8; clear c8; obtain ⟨bq9, hbq9⟩ : ∃ b_ : Bool, b_ = ((rd_T38 (rd_L7 l0 x10_2) x8_1).f0) := ⟨_, rfl⟩
       replace H : (if (bq9 = true) then (hopperref16_Filters.l1 k2 l0 a1 a2 x7_1 x8_1 x9_2 (wrap64 (x10_2 + 1))) else (if x9_2.length < 8796093022208 then (hopperref16_Filters.l1 k2 l0 a1 a2 x7_1 x8_1 (x9_2 ++ [(rd_T38 (rd_L7 l0 x10_2) x8_1).f1]) (wrap64 (x10_2 + 1))) else (none))) = some r := by rw [← hbq9] at H; exact H
       have Nbq9 := Aside0.mk hbq9; clear hbq9; by_cases c10 : (bq9 = true)
       ·subst c10; have H1 : (hopperref16_Filters.l1 k2 l0 a1 a2 x7_1 x8_1 x9_2 (wrap64 (x10_2 + 1))) = some r := by rw [if_pos rfl] at H; exact H
        clear H; have H := H1; clear H1; have H' := Aside0.mk H
        clear H; have p170 : 0 ≤ (x10_2 : Int) := dtA; have q170 : x10_2 < (l0.length : Int) := dtA; obtain ⟨ad170, A170_0, c170_0, e170, hx170_0, hl170_0, hi170_0⟩ := at_L7 HR0.out x10_2 p170 q170
        cases e170
        replace hx170_0 := (HB.out.cell (World.block_lt_of_cell? w _ hx170_0)).trans hx170_0
        have HR170_0 := Aside0.mk hi170_0; have HC170_0 := Aside0.mk hl170_0; clear hi170_0 hl170_0; replace p170 := eq_true p170; replace q170 := eq_true q170; have p171 : 0 ≤ (x8_1 : Int) := dtA; have q171 : x8_1 < ((rd_L7 l0 x10_2).length : Int) := dtA; obtain ⟨ad171, e171, hx171_0, hx171_1⟩ := at_T38 HR170_0.out x8_1 p171 q171
        (try rw [← Nbq9.out] at hx171_0)
        cases e171
        replace hx171_0 := (HB.out.cell (World.block_lt_of_cell? w _ hx171_0)).trans hx171_0
        replace hx171_1 := (HB.out.cell (World.block_lt_of_cell? w _ hx171_1)).trans hx171_1
        replace p171 := eq_true p171; replace q171 := eq_true q171; go_wp2
        go_roundg k2
        case measure => have := HK1.out; have := HK2.out; omega
        case rel => exact ⟨(x9_2), (wrap64 (x10_2 + 1)), (by first | rfl | (simp; done) | (simp [*]; done)), (by first | exact H' | (rw [← Nbq9.out]; exact H')), ⟨by have := HK1.out; have := HK2.out; omega⟩, ⟨by (with_reducible repeat (first | apply Kd.S_alloc | apply Kd.S_drewN | apply Kd.S_drew)); exact HO_7.out⟩, ⟨by (with_reducible repeat (first | apply Kd.R_alloc | apply Kd.R_drewN | apply Kd.R_drew)); exact HO_9.out⟩, ⟨mvB HB.out⟩⟩
       ·replace c10 := Bool.eq_false_iff.mpr c10; subst c10; have H1 : (if x9_2.length < 8796093022208 then (hopperref16_Filters.l1 k2 l0 a1 a2 x7_1 x8_1 (x9_2 ++ [(rd_T38 (rd_L7 l0 x10_2) x8_1).f1]) (wrap64 (x10_2 + 1))) else (none)) = some r := by rw [if_neg (show ¬ (false = true) by decide)] at H; exact H
        clear H; have H := H1; clear H1; by_cases c11 : x9_2.length < 8796093022208
        case neg => rw [if_neg c11] at H; exact absurd H (by simp)
        rw [if_pos c11] at H; have LMc11 := Aside0.mk c11; clear c11; obtain ⟨y174, hy174⟩ : ∃ y_ : List ByteArray, y_ = (x9_2 ++ [(rd_T38 (rd_L7 l0 x10_2) x8_1).f1]) := ⟨_, rfl⟩
        replace H : (hopperref16_Filters.l1 k2 l0 a1 a2 x7_1 x8_1 y174 (wrap64 (x10_2 + 1))) = some r := by first | (rw [hy174]; with_reducible exact H) | (have H2_ := (Option.bind_some _ _).symm.trans H; rw [hy174]; with_reducible exact H2_) | (have H2_ := (Option.bind_some _ _).symm.trans H; with_reducible exact H2_) | with_reducible exact H | (rw [hy174]; exact H) | exact H
        have Ny174 := Aside0.mk hy174; clear hy174; have H' := Aside0.mk H
        clear H; have p170 : 0 ≤ (x10_2 : Int) := dtA; have q170 : x10_2 < (l0.length : Int) := dtA; obtain ⟨ad170, A170_0, c170_0, e170, hx170_0, hl170_0, hi170_0⟩ := at_L7 HR0.out x10_2 p170 q170
        cases e170
        replace hx170_0 := (HB.out.cell (World.block_lt_of_cell? w _ hx170_0)).trans hx170_0
        have HR170_0 := Aside0.mk hi170_0; have HC170_0 := Aside0.mk hl170_0; clear hi170_0 hl170_0; replace p170 := eq_true p170; replace q170 := eq_true q170; have p171 : 0 ≤ (x8_1 : Int) := dtA; have q171 : x8_1 < ((rd_L7 l0 x10_2).length : Int) := dtA; obtain ⟨ad171, e171, hx171_0, hx171_1⟩ := at_T38 HR170_0.out x8_1 p171 q171
        (try rw [← Nbq9.out] at hx171_0)
        cases e171
        replace hx171_0 := (HB.out.cell (World.block_lt_of_cell? w _ hx171_0)).trans hx171_0
        replace hx171_1 := (HB.out.cell (World.block_lt_of_cell? w _ hx171_1)).trans hx171_1
        replace p171 := eq_true p171; replace q171 := eq_true q171; have p172 : 0 ≤ (x10_2 : Int) := dtA; have q172 : x10_2 < (l0.length : Int) := dtA; obtain ⟨ad172, A172_0, c172_0, e172, hx172_0, hl172_0, hi172_0⟩ := at_L7 HR0.out x10_2 p172 q172
        obtain rfl : ad170 = ad172 := (by injection e172)
        replace hx172_0 := (HB.out.cell (World.block_lt_of_cell? w _ hx172_0)).trans hx172_0
        have HR172_0 := Aside0.mk hi172_0; have HC172_0 := Aside0.mk hl172_0; clear hi172_0 hl172_0; replace p172 := eq_true p172; replace q172 := eq_true q172; have ea_ := Option.some.inj (hx170_0.symm.trans hx172_0)
        injection ea_ with ea_ en_ ec_
        subst ea_; subst ec_; clear en_; have p173 : 0 ≤ (x8_1 : Int) := dtA; have q173 : x8_1 < ((rd_L7 l0 x10_2).length : Int) := dtA; obtain ⟨ad173, e173, hx173_0, hx173_1⟩ := at_T38 HR172_0.out x8_1 p173 q173
        (try rw [← Nbq9.out] at hx173_0)
        cases e173
        replace hx173_0 := (HB.out.cell (World.block_lt_of_cell? w _ hx173_0)).trans hx173_0
        replace hx173_1 := (HB.out.cell (World.block_lt_of_cell? w _ hx173_1)).trans hx173_1
        replace p173 := eq_true p173; replace q173 := eq_true q173; go_wp2_with (first | ((with_reducible refine gate_builtin (b := .append) (xs := #[.tmp 31, .tmp 40]) rfl ?_); at_builtin; refine Kd.R_append Kd.string (w0 := w) w.heap.size rfl (.tmp 31) (.tmp 40) 50 9 (.string ⟨#[]⟩) 16 rfl Tryz.underlying50 info9 rfl (by decide) (by omega) u9 x9_2 ((rd_T38 (rd_L7 l0 x10_2) x8_1).f1) [.string ((rd_T38 (rd_L7 l0 x10_2) x8_1).f1)] (fun _ => True) (fun _ => False) rfl rfl ?aP (fun _ hk => hk.elim) ?aF ?aO ?aB ?aS ?aL ?_; (case aP => exact rfl); (case aB => exact (mvB HB.out)); (case aF => exact (fun _ _ => trivial)); (case aO => exact (mvR HO_9.out)); (case aS => exact (below_size (mvB HB.out))); (case aL => have := LMc11.out; omega); intro v175 w12 ho hb hg hat; rw [← Ny174.out] at ho; have n0_ := Aside0.mk (Kd.S_over' (by (with_reducible repeat (first | apply Kd.S_alloc | apply Kd.S_drewN | apply Kd.S_drew)); exact HO_7.out) (Kd.R_typed (mvR HO_9.out)) (by decide) hg); have n1_ := Aside0.mk (hb); have n2_ := Aside0.mk (ho); clear HO_7; clear HB; clear HO_9; have HO_7 := n0_; have HB := n1_; have HO176 := n2_; clear n0_ n1_ n2_; clear ho hb hg hat))
        go_roundg k2
        case measure => have := HK1.out; have := HK2.out; omega
        case rel => exact ⟨(y174), (wrap64 (x10_2 + 1)), (by first | rfl | (simp; done) | (simp [*]; done)), (by first | exact H' | (rw [← Nbq9.out]; exact H')), ⟨by have := HK1.out; have := HK2.out; omega⟩, ⟨by (with_reducible repeat (first | apply Kd.S_alloc | apply Kd.S_drewN | apply Kd.S_drew)); exact HO_7.out⟩, ⟨by (with_reducible repeat (first | apply Kd.R_alloc | apply Kd.R_drewN | apply Kd.R_drew)); exact HO176.out⟩, ⟨mvB HB.out⟩⟩
      ·rw [if_neg c5] at H; have c5b0 : decide (x10_2 < (l0.length : Int)) = false := decide_eq_false c5; clear c5; replace H := Option.bind_eq_some_iff.mp H; obtain ⟨⟨t177, t178, t181⟩, A130, H⟩ := H; replace H : (if x7_1.length < 2513169434916 then (hopperref16_Filters.l0 k2 l0 a1 a2 (x7_1 ++ [(⟨t177, t178, t181⟩ : S53)]) (wrap64 (x8_1 + 1))) else (none)) = some r := H
       have A13 := Aside0.mk A130; clear A130; by_cases c14 : x7_1.length < 2513169434916
       case neg => rw [if_neg c14] at H; exact absurd H (by simp)
       rw [if_pos c14] at H; have LMc14 := Aside0.mk c14; clear c14; obtain ⟨y184, hy184⟩ : ∃ y_ : List (S53), y_ = (x7_1 ++ [(⟨t177, t178, t181⟩ : S53)]) := ⟨_, rfl⟩
       replace H : (hopperref16_Filters.l0 k2 l0 a1 a2 y184 (wrap64 (x8_1 + 1))) = some r := by first | (rw [hy184]; with_reducible exact H) | (have H2_ := (Option.bind_some _ _).symm.trans H; rw [hy184]; with_reducible exact H2_) | (have H2_ := (Option.bind_some _ _).symm.trans H; with_reducible exact H2_) | with_reducible exact H | (rw [hy184]; exact H) | exact H
       have Ny184 := Aside0.mk hy184; clear hy184; have H' := Aside0.mk H
       clear H; obtain ⟨Ao15, co15, eo15⟩ := Kd.R_slice HO_9.out
       subst eo15; go_wp2_with (first | ((with_reducible refine gate_callee (f := 24) rfl ?_); refine goesL_ (some 45) rfl rfl Tryz.func24 (by kernel_rfl) rfl #[.slice Ao15 x9_2.length co15, .int .i64 a2] rfl (by (try simp only [List.map_toArray, List.map_cons, List.map_nil]); first | done | rfl | (simp only [List.length_drop, List.length_take]; rfl)) ?_; (with_reducible refine (hopperref15_Make.calls k2 _ _ x9_2 a2 t177 t178 t181 _ ?side1 ?side2 A13.out).mono ?_); (case side1 => repeat (first | exact (Kd.R_reads' HO_9.out).2.2 | (with_reducible refine Kd.C_alloc ?_ _) | (with_reducible refine Kd.C_drewN ?_ _) | (with_reducible refine Kd.C_drew ?_))); (case side2 => exact (Kd.R_reads' HO_9.out).2.1); rintro e w16 ⟨v179, v182, rfl, ho0, ho1, hb⟩; refine ⟨_, rfl, ?_⟩; have n0_ := Aside0.mk (Kd.S_mono (Kd.S_told (Kd.S_told (Kd.S_old (by (with_reducible repeat (first | apply Kd.S_alloc | apply Kd.S_drewN | apply Kd.S_drew)); exact HO_7.out) hb) (Kd.R_base ho0)) (Kd.R_base ho1)) (fun _ h_ => h_.1)); have n1_ := Aside0.mk (Kd.R_below (mvR HO_9.out) hb); have n2_ := Aside0.mk (Kd.R_lower ho0 (below_size (mvB HB.out))); have n3_ := Aside0.mk (Kd.R_lower ho1 (below_size (mvB HB.out))); have n4_ := Aside0.mk (below_step (mvB HB.out) hb); clear HO_7; clear HO_9; clear HB; have HO_7 := n0_; have HO_9 := n1_; have HO180 := n2_; have HO183 := n3_; have HB := n4_; clear n0_ n1_ n2_ n3_ n4_; (try clear hb); (try clear hb2); (try clear hk); (try clear hi); (try clear ho0); (try clear ho1); obtain ⟨Ao18, co18, eo18⟩ := Kd.R_slice HO180.out; subst eo18; obtain ⟨Ao19, co19, eo19⟩ := Kd.R_slice HO183.out; subst eo19) | ((with_reducible refine gate_builtin (b := .append) (xs := #[.tmp 42, .tmp 46]) rfl ?_); at_builtin; refine Kd.S_append k53 (w0 := w) w.heap.size rfl (.tmp 42) (.tmp 46) 33 53 (.agg #[(.int .i64 0), (.slice none 0 0), (.slice none 0 0)]) 56 rfl Tryz.underlying33 info53 rfl (by decide) (by omega) u7 x7_1 (⟨t177, t178, t181⟩ : S53) [.int .i64 t177, .slice Ao18 t178.length co18, .slice Ao19 t181.length co19] (fun _ => True) (fun k_ => some k_ = (.slice Ao18 t178.length co18 : Value).ownBlock ∨ some k_ = (.slice Ao19 t181.length co19 : Value).ownBlock) rfl rfl ?aP (fun k_ hk_ => hk_.elim (fun h_ => ((Kd.R_mono (ok' := fun k_ => ((fun _ => True)) k_ ∧ some k_ ≠ (u7 : Value).ownBlock) (Kd.R_apart' (HO180.out) (Kd.S_typed HO_7.out) (by decide)) (fun k_ hk => ⟨trivial, hk.2⟩))).1 k_ h_.symm) (fun h_ => ((Kd.R_mono (ok' := fun k_ => ((fun _ => True)) k_ ∧ some k_ ≠ (u7 : Value).ownBlock) (Kd.R_apart' (HO183.out) (Kd.S_typed HO_7.out) (by decide)) (fun k_ hk => ⟨trivial, hk.2⟩))).1 k_ h_.symm)) ?aF ?aO ?aB ?aS ?aL ?_; (case aP => exact k53_mkM _ _ _ (⟨t177, t178, t181⟩ : S53) (Kd.R_mono (Kd.R_tight rfl (Kd.R_mono (ok' := fun k_ => ((fun _ => True)) k_ ∧ some k_ ≠ (u7 : Value).ownBlock) (Kd.R_apart' (HO180.out) (Kd.S_typed HO_7.out) (by decide)) (fun k_ hk => ⟨trivial, hk.2⟩))) (fun _ h_ => Or.inl h_)) (Kd.R_mono (Kd.R_tight rfl (Kd.R_mono (ok' := fun k_ => ((fun _ => True)) k_ ∧ some k_ ≠ (u7 : Value).ownBlock) (Kd.R_apart' (HO183.out) (Kd.S_typed HO_7.out) (by decide)) (fun k_ hk => ⟨trivial, hk.2⟩))) (fun _ h_ => Or.inr (h_)))); (case aB => exact (mvB HB.out)); (case aF => exact (fun _ _ => trivial)); (case aO => exact (by (with_reducible repeat (first | apply Kd.S_alloc | apply Kd.S_drewN | apply Kd.S_drew)); exact Kd.S_mono HO_7.out (fun k_ hk => ⟨trivial, fun e_ => e_.elim (fun h_ => hk.1.2 h_) (fun h_ => hk.2 h_)⟩))); (case aS => exact (below_size (mvB HB.out))); (case aL => have := LMc14.out; omega); intro v185 w17 ho hb hg hat; rw [← Ny184.out] at ho; have n0_ := Aside0.mk (Kd.R_over' (mvR HO_9.out) (Kd.S_typed (by (with_reducible repeat (first | apply Kd.S_alloc | apply Kd.S_drewN | apply Kd.S_drew)); exact HO_7.out)) (by decide) hg); have n1_ := Aside0.mk (hb); have n2_ := Aside0.mk (ho); clear HO_9; clear HB; clear HO_7; clear HO180; clear HO183; have HO_9 := n0_; have HB := n1_; have HO186 := n2_; clear n0_ n1_ n2_; clear ho hb hg hat))
       go_roundg k2
       case measure => have := HK1.out; have := HK2.out; omega
       case rel => exact ⟨(y184), (wrap64 (x8_1 + 1)), (by first | rfl | (simp; done) | (simp [*]; done)), (by first | exact H' | (rw [← Nbq9.out]; exact H')), ⟨by have := HK1.out; have := HK2.out; omega⟩, ⟨by (with_reducible repeat (first | apply Kd.S_alloc | apply Kd.S_drewN | apply Kd.S_drew)); exact HO186.out⟩, ⟨mvB HB.out⟩⟩
   ·rw [if_neg c4] at H; have c4b0 : decide (x8_1 < a1) = false := decide_eq_false c4; clear c4; obtain rfl := Option.some.inj H
    go_wp2
    go_ret
    exact ⟨_, by first | rfl | (simp [errW_none, errW_some] <;> rfl) | (simp [*, errW_none, errW_some] <;> rfl) | exact congrArg (fun b_ => Ending.returned (.bool b_)) (decide_eq_decide.2 (by unfold wrap64; omega)), by (with_reducible repeat (first | apply Kd.S_alloc | apply Kd.S_drewN | apply Kd.S_drew)); exact HO_7.out, mvB HB.out⟩

/-! ### like_Runs: function 45 -/
def like_Runs.l0 : Nat → List ByteArray → List Int → List Int → Int → Int → Option (List ByteArray)
 | 0, _, _, _, _, _ => none
 | k + 1, x3, x4, x11, x12, x13 => if x13 < x12 then (if 0 ≤ x13 then (if x13 < (x11.length : Int) then (if (rd x11 x13) ≤ 255 then (if x4.length < 140737488355328 then (like_Runs.l0 k x3 (x4 ++ [(rd x11 x13) % 256]) x11 x12 (wrap64 (x13 + 1))) else (none)) else (if (x4.length : Int) > 0 then (if x3.length < 8796093022208 then (like_Runs.l0 k (x3 ++ [strOfNums x4]) ([] : List Int) x11 x12 (wrap64 (x13 + 1))) else (none)) else (like_Runs.l0 k x3 ([] : List Int) x11 x12 (wrap64 (x13 + 1))))) else (none)) else (none)) else (some x3)
def like_Runs.f (k : Nat) (l0 : List Int) : Option (List ByteArray) := (some (([] : List Int) : List Int)).bind fun y187 => (if y187.length + l0.length < 17592186044416 then ((some (y187 ++ l0 : List Int)).bind fun y190 => (if y190.length < 17592186044416 then ((some (y190 ++ [257] : List Int)).bind fun y193 => (like_Runs.l0 k ([] : List ByteArray) ([] : List Int) y193 (y193.length : Int) 0)) else (none))) else (none))
theorem like_Runs.calls (k : Nat) (A0 : Option Addr) (c0 : Nat) (l0 : List Int) (r : List ByteArray) (w : World) (hr0 : Kd.C (Kd.int .i64) w A0 l0.length l0) (hc0 : l0.length ≤ c0) (h : like_Runs.f k l0 = some r) :
  Calls Tryz.prog 45 #[.slice A0 l0.length c0] w fun e w' => ∃ v0_ : Value, e = .returned (v0_) ∧ Kd.R Kd.string 9 w' w.heap.size (fun _ => True) v0_ r ∧ Below w.heap.size w w' := by
 have HR0 := Aside0.mk hr0; have HC0 := Aside0.mk hc0; clear hr0 hc0; have HB := Aside0.mk (Below.refl w.heap.size w)
 have H : ((some (([] : List Int) : List Int)).bind fun y187 => (if y187.length + l0.length < 17592186044416 then ((some (y187 ++ l0 : List Int)).bind fun y190 => (if y190.length < 17592186044416 then ((some (y190 ++ [257] : List Int)).bind fun y193 => (like_Runs.l0 k ([] : List ByteArray) ([] : List Int) y193 (y193.length : Int) 0)) else (none))) else (none))) = some r := h; clear h; obtain ⟨y187, hy187⟩ : ∃ y_ : List Int, y_ = (([] : List Int)) := ⟨_, rfl⟩
 replace H : (if y187.length + l0.length < 17592186044416 then ((some (y187 ++ l0 : List Int)).bind fun y190 => (if y190.length < 17592186044416 then ((some (y190 ++ [257] : List Int)).bind fun y193 => (like_Runs.l0 k ([] : List ByteArray) ([] : List Int) y193 (y193.length : Int) 0)) else (none))) else (none)) = some r := by first | (rw [hy187]; with_reducible exact H) | (have H2_ := (Option.bind_some _ _).symm.trans H; rw [hy187]; with_reducible exact H2_) | (have H2_ := (Option.bind_some _ _).symm.trans H; with_reducible exact H2_) | with_reducible exact H | (rw [hy187]; exact H) | exact H
 have Ny187 := Aside0.mk hy187; clear hy187; by_cases c2 : y187.length + l0.length < 17592186044416
 case neg => rw [if_neg c2] at H; exact absurd H (by simp)
 rw [if_pos c2] at H; have LMc2 := Aside0.mk c2; clear c2; obtain ⟨y190, hy190⟩ : ∃ y_ : List Int, y_ = (y187 ++ l0) := ⟨_, rfl⟩
 replace H : (if y190.length < 17592186044416 then ((some (y190 ++ [257] : List Int)).bind fun y193 => (like_Runs.l0 k ([] : List ByteArray) ([] : List Int) y193 (y193.length : Int) 0)) else (none)) = some r := by first | (rw [hy190]; with_reducible exact H) | (have H2_ := (Option.bind_some _ _).symm.trans H; rw [hy190]; with_reducible exact H2_) | (have H2_ := (Option.bind_some _ _).symm.trans H; with_reducible exact H2_) | with_reducible exact H | (rw [hy190]; exact H) | exact H
 have Ny190 := Aside0.mk hy190; clear hy190; by_cases c3 : y190.length < 17592186044416
 case neg => rw [if_neg c3] at H; exact absurd H (by simp)
 rw [if_pos c3] at H; have LMc3 := Aside0.mk c3; clear c3; obtain ⟨y193, hy193⟩ : ∃ y_ : List Int, y_ = (y190 ++ [257]) := ⟨_, rfl⟩
 replace H : (like_Runs.l0 k ([] : List ByteArray) ([] : List Int) y193 (y193.length : Int) 0) = some r := by first | (rw [hy193]; with_reducible exact H) | (have H2_ := (Option.bind_some _ _).symm.trans H; rw [hy193]; with_reducible exact H2_) | (have H2_ := (Option.bind_some _ _).symm.trans H; with_reducible exact H2_) | with_reducible exact H | (rw [hy193]; exact H) | exact H
 have Ny193 := Aside0.mk hy193; clear hy193; have H' := Aside0.mk H
 clear H; go_enter Tryz.func45, Tryz.ntmps45
 go_wp2_with (first | ((with_reducible refine gate_dst (N := 7) rfl ?_); refine Kd.R_lit (Kd.int .i64) _ 3 ?hg (N := 7) ?hd (xs := ([] : List Int)) (inner := []) (ok := fun _ => True) (okp := fun _ => True) ?hr ?hp (fun _ hk => hk) trivial (Below.refl _ _) (Nat.le_refl _) (by simp) ?_; (case hd => rfl); (case hg => rfl); (case hr => first | (go_simp; done) | (go_simp; rfl) | (go_simp; simp (disch := omega) only [Go.u8_and63, Go.u8_and31, Go.u8_and15, Go.u8_and7, Go.u8_or128, Go.u8_or192, Go.u8_or224, Go.u8_or240, m64]; done)); (case hp => exact (Reps.none _ _)); intro v188 w4 ho5 hb hg_ hnew_; clear hg_ hnew_; (first | rw [← Ny187.out] at ho5 | (simp only [Int.reduceToNat] at ho5; rw [← Ny187.out] at ho5)); have n0_ := Aside0.mk (Kd.R_lower ho5 (below_size (mvB HB.out))); have n1_ := Aside0.mk (below_step (mvB HB.out) hb); clear HB; have HO189 := n0_; have HB := n1_; clear n0_ n1_; clear hb ho5) | ((with_reducible refine gate_builtin (b := .append) (xs := #[.tmp 7, .tmp 8]) rfl ?_); at_builtin; refine Kd.R_append_rows (Kd.int .i64) (w0 := w) w.heap.size rfl (.tmp 7) (.tmp 8) 40 3 (.int .i64 0) 8 rfl Tryz.underlying40 info3 rfl (by decide) (by omega) v188 y187 l0 _ _ _ (fun _ => True) (fun _ => False) rfl rfl ?aO ?aR (fun _ _ h => h) (fun _ h => h.elim) ?aF ?aB ?aS ?aL ?_; (case aR => repeat (first | exact (Kd.C_below HR0.out HB.out) | (with_reducible refine Kd.C_alloc ?_ _) | (with_reducible refine Kd.C_drewN ?_ _) | (with_reducible refine Kd.C_drew ?_))); (case aB => exact (mvB HB.out)); (case aF => exact (fun _ _ => trivial)); (case aO => exact (mvR HO189.out)); (case aS => exact (below_size (mvB HB.out))); (case aL => have := LMc2.out; omega); intro v191 w6 ho hb hg hat; rw [← Ny190.out] at ho; have n0_ := Aside0.mk (hb); have n1_ := Aside0.mk (ho); clear HB; clear HO189; have HB := n0_; have HO192 := n1_; clear n0_ n1_; clear ho hb hg hat) | ((with_reducible refine gate_builtin (b := .append) (xs := #[.tmp 9, .tmp 10]) rfl ?_); at_builtin; refine Kd.R_append (Kd.int .i64) (w0 := w) w.heap.size rfl (.tmp 9) (.tmp 10) 40 3 (.int .i64 0) 8 rfl Tryz.underlying40 info3 rfl (by decide) (by omega) v191 y190 257 [.int .i64 257] (fun _ => True) (fun _ => False) rfl rfl ?aP (fun _ hk => hk.elim) ?aF ?aO ?aB ?aS ?aL ?_; (case aP => exact rfl); (case aB => exact (mvB HB.out)); (case aF => exact (fun _ _ => trivial)); (case aO => exact (mvR HO192.out)); (case aS => exact (below_size (mvB HB.out))); (case aL => have := LMc3.out; omega); intro v194 w7 ho hb hg hat; rw [← Ny193.out] at ho; have n0_ := Aside0.mk (hb); have n1_ := Aside0.mk (ho); clear HB; clear HO192; have HB := n0_; have HO195 := n1_; clear n0_ n1_; clear ho hb hg hat; obtain ⟨Ao8, co8, eo8⟩ := Kd.R_slice HO195.out; subst eo8))
 go_loopg [3, 4, 13] k (fun kq v3 v4 v13 w' => ∃ (x3_1 : List ByteArray) (x4_1 : List Int) (x13_1 : Int), v13 = .int .i64 x13_1 ∧ Aside0 (like_Runs.l0 kq x3_1 x4_1 y193 (y193.length : Int) x13_1 = some r) ∧ Aside0 (kq ≤ k) ∧ Aside0 (Kd.R Kd.string 9 w' w.heap.size (fun _ => True) v3 x3_1) ∧ Aside0 (Kd.R (Kd.int .u8) 5 w' w.heap.size (fun _ => True) v4 x4_1) ∧ Aside0 (Kd.R (Kd.int .i64) 3 w' w.heap.size (fun _ => True) (.slice Ao8 y193.length co8) y193) ∧ Aside0 (Below w.heap.size w w'))
 case atStart => exact ⟨(([] : List ByteArray)), (([] : List Int)), (0), (by first | rfl | (simp; done) | (simp [*]; done)), H', ⟨Nat.le_refl _⟩, ⟨by first | exact Kd.R_nil _ _ _ _ _ | exact Kd.N_nil _ _ _ _ _ | exact Kd.V_nil _ _ _ _ _ | exact Kd.Q_nil _ _ _ _ _ | exact Kd.S_nil _ _ _ _ _⟩, ⟨by first | exact Kd.R_nil _ _ _ _ _ | exact Kd.N_nil _ _ _ _ _ | exact Kd.V_nil _ _ _ _ _ | exact Kd.Q_nil _ _ _ _ _ | exact Kd.S_nil _ _ _ _ _⟩, ⟨by (with_reducible repeat (first | apply Kd.R_alloc | apply Kd.R_drewN | apply Kd.R_drew)); exact HO195.out⟩, ⟨mvB HB.out⟩⟩
 case round =>
  clear H'; try clear c2
  try clear p2
  try clear c3
  try clear c4
  obtain ⟨x3_1, x4_1, x13_1, rfl, HA, HK1, HO_3, HO_4, HO_11, HB⟩ := hrel
  cases gk with
  | zero => exact absurd HA.out (by simp [like_Runs.l0])
  | succ k1 =>
   have H := HA.out; clear HA; simp only [like_Runs.l0] at H
   by_cases c9 : x13_1 < (y193.length : Int)
   ·rw [if_pos c9] at H; have c9b0 : decide (x13_1 < (y193.length : Int)) = true := decide_eq_true c9; clear c9; by_cases c10 : 0 ≤ x13_1
    case neg => rw [if_neg c10] at H; exact absurd H (by simp)
    rw [if_pos c10] at H; have c10b0 : decide (0 ≤ x13_1) = true := decide_eq_true c10; clear c10; by_cases c11 : x13_1 < (y193.length : Int)
    case neg => rw [if_neg c11] at H; exact absurd H (by simp)
    rw [if_pos c11] at H; have c11b0 : decide (x13_1 < (y193.length : Int)) = true := decide_eq_true c11; clear c11; by_cases c12 : (rd y193 x13_1) ≤ 255
    ·rw [if_pos c12] at H; have c12b0 : decide ((rd y193 x13_1) ≤ 255) = true := decide_eq_true c12; clear c12; by_cases c13 : x4_1.length < 140737488355328
     case neg => rw [if_neg c13] at H; exact absurd H (by simp)
     rw [if_pos c13] at H; have LMc13 := Aside0.mk c13; clear c13; obtain ⟨y197, hy197⟩ : ∃ y_ : List Int, y_ = (x4_1 ++ [(rd y193 x13_1) % 256]) := ⟨_, rfl⟩
     replace H : (like_Runs.l0 k1 x3_1 y197 y193 (y193.length : Int) (wrap64 (x13_1 + 1))) = some r := by first | (rw [hy197]; with_reducible exact H) | (have H2_ := (Option.bind_some _ _).symm.trans H; rw [hy197]; with_reducible exact H2_) | (have H2_ := (Option.bind_some _ _).symm.trans H; with_reducible exact H2_) | with_reducible exact H | (rw [hy197]; exact H) | exact H
     have Ny197 := Aside0.mk hy197; clear hy197; have H' := Aside0.mk H
     clear H; have p196 : 0 ≤ (x13_1 : Int) := dtA; have q196 : x13_1 < (y193.length : Int) := dtA; obtain ⟨ad196, e196, hx196_0⟩ := Kd.at_int (Kd.R_reads' HO_11.out).2.2 x13_1 p196 q196
     cases e196
     replace p196 := eq_true p196; replace q196 := eq_true q196; go_wp2_with (first | ((with_reducible refine gate_builtin (b := .append) (xs := #[.tmp 19, .tmp 22]) rfl ?_); at_builtin; refine Kd.R_append (Kd.int .u8) (w0 := w) w.heap.size rfl (.tmp 19) (.tmp 22) 74 5 (.int .u8 0) 1 rfl Tryz.underlying74 info5 rfl (by decide) (by omega) u4 x4_1 ((rd y193 x13_1) % 256) [.int .u8 ((rd y193 x13_1) % 256)] (fun _ => True) (fun _ => False) rfl rfl ?aP (fun _ hk => hk.elim) ?aF ?aO ?aB ?aS ?aL ?_; (case aP => exact rfl); (case aB => exact (mvB HB.out)); (case aF => exact (fun _ _ => trivial)); (case aO => exact (mvR HO_4.out)); (case aS => exact (below_size (mvB HB.out))); (case aL => have := LMc13.out; omega); intro v198 w14 ho hb hg hat; rw [← Ny197.out] at ho; have n0_ := Aside0.mk (Kd.R_over' (mvR HO_3.out) (Kd.R_typed (mvR HO_4.out)) (by decide) hg); have n1_ := Aside0.mk (Kd.R_over' (mvR HO_11.out) (Kd.R_typed (mvR HO_4.out)) (by decide) hg); have n2_ := Aside0.mk (hb); have n3_ := Aside0.mk (ho); clear HO_3; clear HO_11; clear HB; clear HO_4; have HO_3 := n0_; have HO_11 := n1_; have HB := n2_; have HO199 := n3_; clear n0_ n1_ n2_ n3_; clear ho hb hg hat))
     go_roundg k1
     case measure => have := HK1.out; omega
     case rel => exact ⟨(x3_1), (y197), (wrap64 (x13_1 + 1)), (by first | rfl | (simp; done) | (simp [*]; done)), H', ⟨by have := HK1.out; omega⟩, ⟨by (with_reducible repeat (first | apply Kd.R_alloc | apply Kd.R_drewN | apply Kd.R_drew)); exact HO_3.out⟩, ⟨by (with_reducible repeat (first | apply Kd.R_alloc | apply Kd.R_drewN | apply Kd.R_drew)); exact HO199.out⟩, ⟨by (with_reducible repeat (first | apply Kd.R_alloc | apply Kd.R_drewN | apply Kd.R_drew)); exact HO_11.out⟩, ⟨mvB HB.out⟩⟩
    ·rw [if_neg c12] at H; have c12b0 : decide ((rd y193 x13_1) ≤ 255) = false := decide_eq_false c12; clear c12; by_cases c15 : (x4_1.length : Int) > 0
     ·rw [if_pos c15] at H; have c15b0 : decide (0 < (x4_1.length : Int)) = true := decide_eq_true c15; have c15b1 : decide (0 < x4_1.length) = true := decide_eq_true (by omega)
      clear c15; by_cases c16 : x3_1.length < 8796093022208
      case neg => rw [if_neg c16] at H; exact absurd H (by simp)
      rw [if_pos c16] at H; have LMc16 := Aside0.mk c16; clear c16; obtain ⟨y200, hy200⟩ : ∃ y_ : List ByteArray, y_ = (x3_1 ++ [strOfNums x4_1]) := ⟨_, rfl⟩
      replace H : (like_Runs.l0 k1 y200 ([] : List Int) y193 (y193.length : Int) (wrap64 (x13_1 + 1))) = some r := by first | (rw [hy200]; with_reducible exact H) | (have H2_ := (Option.bind_some _ _).symm.trans H; rw [hy200]; with_reducible exact H2_) | (have H2_ := (Option.bind_some _ _).symm.trans H; with_reducible exact H2_) | with_reducible exact H | (rw [hy200]; exact H) | exact H
      have Ny200 := Aside0.mk hy200; clear hy200; have H' := Aside0.mk H
      clear H; have p196 : 0 ≤ (x13_1 : Int) := dtA; have q196 : x13_1 < (y193.length : Int) := dtA; obtain ⟨ad196, e196, hx196_0⟩ := Kd.at_int (Kd.R_reads' HO_11.out).2.2 x13_1 p196 q196
      cases e196
      replace p196 := eq_true p196; replace q196 := eq_true q196; obtain ⟨Ao17, co17, eo17⟩ := Kd.R_slice HO_4.out
      subst eo17; have hcv18 := own_string (P := Tryz.prog) Tryz.underlying74 Tryz.underlying5 Tryz.underlying9 (Kd.own_of_R HO_4.out)
      go_wp2_with (first | ((with_reducible refine gate_builtin (b := .append) (xs := #[.tmp 27, .tmp 30]) rfl ?_); at_builtin; refine Kd.R_append Kd.string (w0 := w) w.heap.size rfl (.tmp 27) (.tmp 30) 50 9 (.string ⟨#[]⟩) 16 rfl Tryz.underlying50 info9 rfl (by decide) (by omega) u3 x3_1 (strOfNums x4_1) [.string (strOfNums x4_1)] (fun _ => True) (fun _ => False) rfl rfl ?aP (fun _ hk => hk.elim) ?aF ?aO ?aB ?aS ?aL ?_; (case aP => exact rfl); (case aB => exact (mvB HB.out)); (case aF => exact (fun _ _ => trivial)); (case aO => exact (mvR HO_3.out)); (case aS => exact (below_size (mvB HB.out))); (case aL => have := LMc16.out; omega); intro v201 w19 ho hb hg hat; rw [← Ny200.out] at ho; have n0_ := Aside0.mk (Kd.R_over' (mvR HO_4.out) (Kd.R_typed (mvR HO_3.out)) (by decide) hg); have n1_ := Aside0.mk (Kd.R_over' (mvR HO_11.out) (Kd.R_typed (mvR HO_3.out)) (by decide) hg); have n2_ := Aside0.mk (hb); have n3_ := Aside0.mk (ho); clear HO_4; clear HO_11; clear HB; clear HO_3; have HO_4 := n0_; have HO_11 := n1_; have HB := n2_; have HO202 := n3_; clear n0_ n1_ n2_ n3_; clear ho hb hg hat))
      go_roundg k1
      case measure => have := HK1.out; omega
      case rel => exact ⟨(y200), (([] : List Int)), (wrap64 (x13_1 + 1)), (by first | rfl | (simp; done) | (simp [*]; done)), H', ⟨by have := HK1.out; omega⟩, ⟨by (with_reducible repeat (first | apply Kd.R_alloc | apply Kd.R_drewN | apply Kd.R_drew)); exact HO202.out⟩, ⟨by first | exact Kd.R_nil _ _ _ _ _ | exact Kd.N_nil _ _ _ _ _ | exact Kd.V_nil _ _ _ _ _ | exact Kd.Q_nil _ _ _ _ _ | exact Kd.S_nil _ _ _ _ _⟩, ⟨by (with_reducible repeat (first | apply Kd.R_alloc | apply Kd.R_drewN | apply Kd.R_drew)); exact HO_11.out⟩, ⟨mvB HB.out⟩⟩
     ·rw [if_neg c15] at H; have c15b0 : decide (0 < (x4_1.length : Int)) = false := decide_eq_false c15; have c15b1 : decide (0 < x4_1.length) = false := decide_eq_false (by omega)
      clear c15; have H' := Aside0.mk H
      clear H; have p196 : 0 ≤ (x13_1 : Int) := dtA; have q196 : x13_1 < (y193.length : Int) := dtA; obtain ⟨ad196, e196, hx196_0⟩ := Kd.at_int (Kd.R_reads' HO_11.out).2.2 x13_1 p196 q196
      cases e196
      replace p196 := eq_true p196; replace q196 := eq_true q196; obtain ⟨Ao20, co20, eo20⟩ := Kd.R_slice HO_4.out
      subst eo20; go_wp2
      go_roundg k1
      case measure => have := HK1.out; omega
      case rel => exact ⟨(x3_1), (([] : List Int)), (wrap64 (x13_1 + 1)), (by first | rfl | (simp; done) | (simp [*]; done)), H', ⟨by have := HK1.out; omega⟩, ⟨by (with_reducible repeat (first | apply Kd.R_alloc | apply Kd.R_drewN | apply Kd.R_drew)); exact HO_3.out⟩, ⟨by first | exact Kd.R_nil _ _ _ _ _ | exact Kd.N_nil _ _ _ _ _ | exact Kd.V_nil _ _ _ _ _ | exact Kd.Q_nil _ _ _ _ _ | exact Kd.S_nil _ _ _ _ _⟩, ⟨by (with_reducible repeat (first | apply Kd.R_alloc | apply Kd.R_drewN | apply Kd.R_drew)); exact HO_11.out⟩, ⟨mvB HB.out⟩⟩
   ·rw [if_neg c9] at H; have c9b0 : decide (x13_1 < (y193.length : Int)) = false := decide_eq_false c9; clear c9; obtain rfl := Option.some.inj H
    go_wp2
    go_ret
    exact ⟨_, by first | rfl | (simp [errW_none, errW_some] <;> rfl) | (simp [*, errW_none, errW_some] <;> rfl) | exact congrArg (fun b_ => Ending.returned (.bool b_)) (decide_eq_decide.2 (by unfold wrap64; omega)), by (with_reducible repeat (first | apply Kd.R_alloc | apply Kd.R_drewN | apply Kd.R_drew)); exact HO_3.out, mvB HB.out⟩

/-! ### need_runs: function 29 -/
def need_runs.j0 : Nat → Int → Bool → Int → Int → ByteArray → Int → Int → List (S24) → Option (List ByteArray)
 | 0, _, _, _, _, _, _, _, _ => none
 | k + 1, x6, x15, x204000, x204001, x204002, x204003, x204004, x204005 => if x15 = true then (some (([x204002] : List ByteArray))) else (if x6 = 10 then ((like_Parse.f k x204002 x204003).bind fun bt210 => ((like_Runs.f k bt210.1).bind fun t214 => (some t214))) else (some ([] : List ByteArray)))
def need_runs.f (k : Nat) (a0_0 : Int) (a0_1 : Int) (a0_2 : ByteArray) (a0_3 : Int) (a0_4 : Int) (l0_5 : List (S24)) : Option (List ByteArray) := if a0_0 = 1 then (if a0_4 = 0 then (some (([a0_2] : List ByteArray))) else (some ([] : List ByteArray))) else (if a0_0 = 7 then (need_runs.j0 k a0_0 (a0_0 == 7) a0_0 a0_1 a0_2 a0_3 a0_4 l0_5) else (if a0_0 = 8 then (need_runs.j0 k a0_0 (a0_0 == 8) a0_0 a0_1 a0_2 a0_3 a0_4 l0_5) else (need_runs.j0 k a0_0 (a0_0 == 9) a0_0 a0_1 a0_2 a0_3 a0_4 l0_5)))
theorem need_runs.calls (k : Nat) (a0_0 : Int) (a0_1 : Int) (a0_2 : ByteArray) (a0_3 : Int) (a0_4 : Int) (A0_5 : Option Addr) (c0_5 : Nat) (l0_5 : List (S24)) (r : List ByteArray) (w : World) (hr0_5 : Kd.C k24 w A0_5 l0_5.length l0_5) (hc0_5 : l0_5.length ≤ c0_5) (h : need_runs.f k a0_0 a0_1 a0_2 a0_3 a0_4 l0_5 = some r) :
  Calls Tryz.prog 29 #[.agg #[.int .i64 a0_0, .int .i64 a0_1, .string a0_2, .int .i64 a0_3, .int .i64 a0_4, .slice A0_5 l0_5.length c0_5]] w fun e w' => ∃ v0_ : Value, e = .returned (v0_) ∧ Kd.R Kd.string 9 w' w.heap.size (fun _ => True) v0_ r ∧ Below w.heap.size w w' := by
 have hu24 := Tryz.underlying24; have HR0_5 := Aside0.mk hr0_5; have HC0_5 := Aside0.mk hc0_5; clear hr0_5 hc0_5; have HB := Aside0.mk (Below.refl w.heap.size w)
 have H : (if a0_0 = 1 then (if a0_4 = 0 then (some (([a0_2] : List ByteArray))) else (some ([] : List ByteArray))) else (if a0_0 = 7 then (need_runs.j0 k a0_0 (a0_0 == 7) a0_0 a0_1 a0_2 a0_3 a0_4 l0_5) else (if a0_0 = 8 then (need_runs.j0 k a0_0 (a0_0 == 8) a0_0 a0_1 a0_2 a0_3 a0_4 l0_5) else (need_runs.j0 k a0_0 (a0_0 == 9) a0_0 a0_1 a0_2 a0_3 a0_4 l0_5)))) = some r := h; clear h; by_cases c2 : a0_0 = 1
 ·rw [if_pos c2] at H; have c2b0 : (a0_0 == 1) = true := beq_iff_eq.mpr c2; have c2b1 : (a0_0 != 1) = false := bne_eq_false_iff_eq.mpr c2; clear c2; by_cases c3 : a0_4 = 0
  ·rw [if_pos c3] at H; have c3b0 : (a0_4 == 0) = true := beq_iff_eq.mpr c3; have c3b1 : (a0_4 != 0) = false := bne_eq_false_iff_eq.mpr c3; clear c3; obtain ⟨y204, hy204⟩ : ∃ y_ : List ByteArray, y_ = (([a0_2] : List ByteArray)) := ⟨_, rfl⟩
   replace H : (some y204) = some r := by first | (rw [hy204]; with_reducible exact H) | (have H2_ := (Option.bind_some _ _).symm.trans H; rw [hy204]; with_reducible exact H2_) | (have H2_ := (Option.bind_some _ _).symm.trans H; with_reducible exact H2_) | with_reducible exact H | (rw [hy204]; exact H) | exact H
   have Ny204 := Aside0.mk hy204; clear hy204; obtain rfl := Option.some.inj H
   go_enter Tryz.func29, Tryz.ntmps29
   go_wp2_with (first | ((with_reducible refine gate_dst (N := 1) rfl ?_); refine box_event ?hg (N := 1) ?hd (cs := #[.int .i64 a0_0, .int .i64 a0_1, .string a0_2, .int .i64 a0_3, .int .i64 a0_4, .slice A0_5 l0_5.length c0_5]) (t := 24) ?hr ?_; (case hd => rfl); (case hg => rfl); (case hr => first | (go_simp; done) | (go_simp; rfl) | (go_simp; simp (disch := omega) only [Go.u8_and63, Go.u8_and31, Go.u8_and15, Go.u8_and7, Go.u8_or128, Go.u8_or192, Go.u8_or224, Go.u8_or240, m64]; done)); intro gb203 hg w4 hbox hb; have n0_ := Aside0.mk (below_step (mvB HB.out) hb); have n1_ := Aside0.mk (hbox); have n2_ := Aside0.mk ((by rw [hg]; exact (below_size (mvB HB.out)) : w.heap.size ≤ gb203)); have n3_ := Aside0.mk ((by rw [hg]; exact (below_size (mvB HB.out)) : w.heap.size ≤ gb203)); clear HB; have HB := n0_; have BK203 := n1_; have GW203 := n2_; have GE203 := n3_; clear n0_ n1_ n2_ n3_; clear hb hbox hg; have hcz5_0 : w4.cell? ⟨gb203, 0, none⟩ = some (.int .i64 a0_0) := (blk_cell BK203.out 0).trans rfl; have hcz5_1 : w4.cell? ⟨gb203, 1, none⟩ = some (.int .i64 a0_1) := (blk_cell BK203.out 1).trans rfl; have hcz5_2 : w4.cell? ⟨gb203, 2, none⟩ = some (.string a0_2) := (blk_cell BK203.out 2).trans rfl; have hcz5_3 : w4.cell? ⟨gb203, 3, none⟩ = some (.int .i64 a0_3) := (blk_cell BK203.out 3).trans rfl; have hcz5_4 : w4.cell? ⟨gb203, 4, none⟩ = some (.int .i64 a0_4) := (blk_cell BK203.out 4).trans rfl; have hcz5_5 : w4.cell? ⟨gb203, 5, none⟩ = some (.slice A0_5 l0_5.length c0_5) := (blk_cell BK203.out 5).trans rfl; have hfz5_0 := blk_frozen BK203.out 0; have hfz5_1 := blk_frozen BK203.out 1; have hfz5_2 := blk_frozen BK203.out 2; have hfz5_3 := blk_frozen BK203.out 3; have hfz5_4 := blk_frozen BK203.out 4; have hfz5_5 := blk_frozen BK203.out 5) | ((with_reducible refine gate_dst (N := 14) rfl ?_); refine Kd.R_lit Kd.string _ 9 ?hg (N := 14) ?hd (xs := ([a0_2] : List ByteArray)) (inner := [.string a0_2]) (ok := fun _ => True) (okp := fun _ => True) ?hr ?hp (fun _ hk => hk) trivial (Below.refl _ _) (Nat.le_refl _) (by simp) ?_; (case hd => rfl); (case hg => rfl); (case hr => first | (go_simp; done) | (go_simp; rfl) | (go_simp; simp (disch := omega) only [Go.u8_and63, Go.u8_and31, Go.u8_and15, Go.u8_and7, Go.u8_or128, Go.u8_or192, Go.u8_or224, Go.u8_or240, m64]; done)); (case hp => exact (Reps.one (show Kd.M Kd.string _ _ _ a0_2 [.string a0_2] from rfl) (Reps.none _ _))); intro v205 w6 ho7 hb hg_ hnew_; clear hg_ hnew_; (first | rw [← Ny204.out] at ho7 | (simp only [Int.reduceToNat] at ho7; rw [← Ny204.out] at ho7)); have n0_ := Aside0.mk (Kd.R_lower ho7 (below_size (mvG HB.out GE203.out))); have n1_ := Aside0.mk (blk_below (g := gb203) (o := .cells #[.int .i64 a0_0, .int .i64 a0_1, .string a0_2, .int .i64 a0_3, .int .i64 a0_4, .slice A0_5 l0_5.length c0_5] 24 (0, 0)) (mvK BK203.out) hb); have n2_ := Aside0.mk (below_step (mvG HB.out GE203.out) hb); clear BK203; clear HB; have HO206 := n0_; have BK203 := n1_; have HB := n2_; clear n0_ n1_ n2_; clear hb ho7))
   go_ret
   exact ⟨_, by first | rfl | (simp [errW_none, errW_some] <;> rfl) | (simp [*, errW_none, errW_some] <;> rfl) | exact congrArg (fun b_ => Ending.returned (.bool b_)) (decide_eq_decide.2 (by unfold wrap64; omega)), by (with_reducible repeat (first | apply Kd.R_alloc | apply Kd.R_drewN | apply Kd.R_drew)); exact HO206.out, mvG HB.out GE203.out⟩
  ·rw [if_neg c3] at H; have c3b0 : (a0_4 == 0) = false := beq_eq_false_iff_ne.mpr c3; have c3b1 : (a0_4 != 0) = true := bne_iff_ne.mpr c3; obtain rfl := Option.some.inj H
   go_enter Tryz.func29, Tryz.ntmps29
   go_wp2_with (first | ((with_reducible refine gate_dst (N := 1) rfl ?_); refine box_event ?hg (N := 1) ?hd (cs := #[.int .i64 a0_0, .int .i64 a0_1, .string a0_2, .int .i64 a0_3, .int .i64 a0_4, .slice A0_5 l0_5.length c0_5]) (t := 24) ?hr ?_; (case hd => rfl); (case hg => rfl); (case hr => first | (go_simp; done) | (go_simp; rfl) | (go_simp; simp (disch := omega) only [Go.u8_and63, Go.u8_and31, Go.u8_and15, Go.u8_and7, Go.u8_or128, Go.u8_or192, Go.u8_or224, Go.u8_or240, m64]; done)); intro gb203 hg w8 hbox hb; have n0_ := Aside0.mk (below_step (mvB HB.out) hb); have n1_ := Aside0.mk (hbox); have n2_ := Aside0.mk ((by rw [hg]; exact (below_size (mvB HB.out)) : w.heap.size ≤ gb203)); have n3_ := Aside0.mk ((by rw [hg]; exact (below_size (mvB HB.out)) : w.heap.size ≤ gb203)); clear HB; have HB := n0_; have BK203 := n1_; have GW203 := n2_; have GE203 := n3_; clear n0_ n1_ n2_ n3_; clear hb hbox hg; have hcz9_0 : w8.cell? ⟨gb203, 0, none⟩ = some (.int .i64 a0_0) := (blk_cell BK203.out 0).trans rfl; have hcz9_1 : w8.cell? ⟨gb203, 1, none⟩ = some (.int .i64 a0_1) := (blk_cell BK203.out 1).trans rfl; have hcz9_2 : w8.cell? ⟨gb203, 2, none⟩ = some (.string a0_2) := (blk_cell BK203.out 2).trans rfl; have hcz9_3 : w8.cell? ⟨gb203, 3, none⟩ = some (.int .i64 a0_3) := (blk_cell BK203.out 3).trans rfl; have hcz9_4 : w8.cell? ⟨gb203, 4, none⟩ = some (.int .i64 a0_4) := (blk_cell BK203.out 4).trans rfl; have hcz9_5 : w8.cell? ⟨gb203, 5, none⟩ = some (.slice A0_5 l0_5.length c0_5) := (blk_cell BK203.out 5).trans rfl; have hfz9_0 := blk_frozen BK203.out 0; have hfz9_1 := blk_frozen BK203.out 1; have hfz9_2 := blk_frozen BK203.out 2; have hfz9_3 := blk_frozen BK203.out 3; have hfz9_4 := blk_frozen BK203.out 4; have hfz9_5 := blk_frozen BK203.out 5))
   go_ret
   exact ⟨_, by first | rfl | (simp [errW_none, errW_some] <;> rfl) | (simp [*, errW_none, errW_some] <;> rfl) | exact congrArg (fun b_ => Ending.returned (.bool b_)) (decide_eq_decide.2 (by unfold wrap64; omega)), by first | exact Kd.R_nil _ _ _ _ _ | exact Kd.N_nil _ _ _ _ _ | exact Kd.V_nil _ _ _ _ _ | exact Kd.Q_nil _ _ _ _ _ | exact Kd.S_nil _ _ _ _ _, mvG HB.out GE203.out⟩
 ·rw [if_neg c2] at H; have c2b0 : (a0_0 == 1) = false := beq_eq_false_iff_ne.mpr c2; have c2b1 : (a0_0 != 1) = true := bne_iff_ne.mpr c2; have HC10 := Aside0.mk H; clear H; go_enter Tryz.func29, Tryz.ntmps29
  go_upto_if 15 with (first | ((with_reducible refine gate_dst (N := 1) rfl ?_); refine box_event ?hg (N := 1) ?hd (cs := #[.int .i64 a0_0, .int .i64 a0_1, .string a0_2, .int .i64 a0_3, .int .i64 a0_4, .slice A0_5 l0_5.length c0_5]) (t := 24) ?hr ?_; (case hd => rfl); (case hg => rfl); (case hr => first | (go_simp; done) | (go_simp; rfl) | (go_simp; simp (disch := omega) only [Go.u8_and63, Go.u8_and31, Go.u8_and15, Go.u8_and7, Go.u8_or128, Go.u8_or192, Go.u8_or224, Go.u8_or240, m64]; done)); intro gb203 hg w11 hbox hb; have n0_ := Aside0.mk (below_step (mvB HB.out) hb); have n1_ := Aside0.mk (hbox); have n2_ := Aside0.mk ((by rw [hg]; exact (below_size (mvB HB.out)) : w.heap.size ≤ gb203)); have n3_ := Aside0.mk ((by rw [hg]; exact (below_size (mvB HB.out)) : w.heap.size ≤ gb203)); clear HB; have HB := n0_; have BK203 := n1_; have GW203 := n2_; have GE203 := n3_; clear n0_ n1_ n2_ n3_; clear hb hbox hg; have hcz12_0 : w11.cell? ⟨gb203, 0, none⟩ = some (.int .i64 a0_0) := (blk_cell BK203.out 0).trans rfl; have hcz12_1 : w11.cell? ⟨gb203, 1, none⟩ = some (.int .i64 a0_1) := (blk_cell BK203.out 1).trans rfl; have hcz12_2 : w11.cell? ⟨gb203, 2, none⟩ = some (.string a0_2) := (blk_cell BK203.out 2).trans rfl; have hcz12_3 : w11.cell? ⟨gb203, 3, none⟩ = some (.int .i64 a0_3) := (blk_cell BK203.out 3).trans rfl; have hcz12_4 : w11.cell? ⟨gb203, 4, none⟩ = some (.int .i64 a0_4) := (blk_cell BK203.out 4).trans rfl; have hcz12_5 : w11.cell? ⟨gb203, 5, none⟩ = some (.slice A0_5 l0_5.length c0_5) := (blk_cell BK203.out 5).trans rfl; have hfz12_0 := blk_frozen BK203.out 0; have hfz12_1 := blk_frozen BK203.out 1; have hfz12_2 := blk_frozen BK203.out 2; have hfz12_3 := blk_frozen BK203.out 3; have hfz12_4 := blk_frozen BK203.out 4; have hfz12_5 := blk_frozen BK203.out 5))
  (try simp only [Act.put, List.setIfInBounds_toArray, List.set_cons_zero, List.set_cons_succ])
  go_cut [15] (fun v15 wc => ∃ (kq : Nat) (x15_9 : Bool), v15 = .bool x15_9 ∧ Aside0 (need_runs.j0 kq a0_0 x15_9 a0_0 a0_1 a0_2 a0_3 a0_4 l0_5 = some r) ∧ Aside0 (kq ≤ k) ∧ Aside0 (wc.heap[gb203]? = some (.cells #[.int .i64 a0_0, .int .i64 a0_1, .string a0_2, .int .i64 a0_3, .int .i64 a0_4, (.slice A0_5 l0_5.length c0_5)] 24 (0, 0))) ∧ Aside0 (Below w.heap.size w wc))
  case first =>
   have H := HC10.out; clear HC10; by_cases c13 : a0_0 = 7
   ·rw [if_pos c13] at H; have c13b0 : (a0_0 == 7) = true := beq_iff_eq.mpr c13; have c13b1 : (a0_0 != 7) = false := bne_eq_false_iff_eq.mpr c13; clear c13; (first | rw [c13b0] | (simp only [i64_w, i32_w]; rw [c13b0]) | skip)
    have H' := Aside0.mk H
    clear H; go_wp2
    go_meet
    case rel => exact ⟨_, ((a0_0 == 7)), (by first | rfl | (simp; done) | (simp [*]; done)), H', ⟨by first | omega | exact Nat.le_refl _⟩, ⟨mvK BK203.out⟩, ⟨mvG HB.out GE203.out⟩⟩
   ·rw [if_neg c13] at H; have c13b0 : (a0_0 == 7) = false := beq_eq_false_iff_ne.mpr c13; have c13b1 : (a0_0 != 7) = true := bne_iff_ne.mpr c13; (first | rw [c13b0] | (simp only [i64_w, i32_w]; rw [c13b0]) | skip)
    by_cases c14 : a0_0 = 8
    ·rw [if_pos c14] at H; have c14b0 : (a0_0 == 8) = true := beq_iff_eq.mpr c14; have c14b1 : (a0_0 != 8) = false := bne_eq_false_iff_eq.mpr c14; clear c14; have H' := Aside0.mk H
     clear H; go_wp2
     go_meet
     case rel => exact ⟨_, ((a0_0 == 8)), (by first | rfl | (simp; done) | (simp [*]; done)), H', ⟨by first | omega | exact Nat.le_refl _⟩, ⟨mvK BK203.out⟩, ⟨mvG HB.out GE203.out⟩⟩
    ·rw [if_neg c14] at H; have c14b0 : (a0_0 == 8) = false := beq_eq_false_iff_ne.mpr c14; have c14b1 : (a0_0 != 8) = true := bne_iff_ne.mpr c14; have H' := Aside0.mk H
     clear H; go_wp2
     go_meet
     case rel => exact ⟨_, ((a0_0 == 9)), (by first | rfl | (simp; done) | (simp [*]; done)), H', ⟨by first | omega | exact Nat.le_refl _⟩, ⟨mvK BK203.out⟩, ⟨mvG HB.out GE203.out⟩⟩
  case rest =>
   clear HC10; try clear c1
   try clear c2
   try clear c2b0
   try clear c2b1
   try clear p2
   try clear c3
   try clear c3b0
   try clear c3b1
   try clear p6
   try clear c13
   try clear c13b0
   try clear c13b1
   try clear c14
   try clear c14b0
   try clear c14b1
   try clear hcz12_0
   try clear hcz12_1
   try clear hcz12_2
   try clear hcz12_3
   try clear hcz12_4
   try clear hcz12_5
   try clear hcz5_0
   try clear hcz5_1
   try clear hcz5_2
   try clear hcz5_3
   try clear hcz5_4
   try clear hcz5_5
   try clear hcz9_0
   try clear hcz9_1
   try clear hcz9_2
   try clear hcz9_3
   try clear hcz9_4
   try clear hcz9_5
   try clear hfz12_0
   try clear hfz12_1
   try clear hfz12_2
   try clear hfz12_3
   try clear hfz12_4
   try clear hfz12_5
   try clear hfz5_0
   try clear hfz5_1
   try clear hfz5_2
   try clear hfz5_3
   try clear hfz5_4
   try clear hfz5_5
   try clear hfz9_0
   try clear hfz9_1
   try clear hfz9_2
   try clear hfz9_3
   try clear hfz9_4
   try clear hfz9_5
   obtain ⟨kq, x15_9, rfl, HA, HJ9, BK203, HB⟩ := hcut
   cases kq with
   | zero => exact absurd HA.out (by simp [need_runs.j0])
   | succ kj9 =>
    have H := HA.out; clear HA; simp only [need_runs.j0] at H
    by_cases c15 : x15_9 = true
    ·subst c15; have H1 : (some (([a0_2] : List ByteArray))) = some r := by rw [if_pos rfl] at H; exact H
     clear H; have H := H1; clear H1; obtain ⟨y207, hy207⟩ : ∃ y_ : List ByteArray, y_ = (([a0_2] : List ByteArray)) := ⟨_, rfl⟩
     replace H : (some y207) = some r := by first | (rw [hy207]; with_reducible exact H) | (have H2_ := (Option.bind_some _ _).symm.trans H; rw [hy207]; with_reducible exact H2_) | (have H2_ := (Option.bind_some _ _).symm.trans H; with_reducible exact H2_) | with_reducible exact H | (rw [hy207]; exact H) | exact H
     have Ny207 := Aside0.mk hy207; clear hy207; obtain rfl := Option.some.inj H
     have hcz16_0 : wc.cell? ⟨gb203, 0, none⟩ = some (.int .i64 a0_0) := (blk_cell BK203.out 0).trans rfl; have hcz16_1 : wc.cell? ⟨gb203, 1, none⟩ = some (.int .i64 a0_1) := (blk_cell BK203.out 1).trans rfl; have hcz16_2 : wc.cell? ⟨gb203, 2, none⟩ = some (.string a0_2) := (blk_cell BK203.out 2).trans rfl; have hcz16_3 : wc.cell? ⟨gb203, 3, none⟩ = some (.int .i64 a0_3) := (blk_cell BK203.out 3).trans rfl; have hcz16_4 : wc.cell? ⟨gb203, 4, none⟩ = some (.int .i64 a0_4) := (blk_cell BK203.out 4).trans rfl; have hcz16_5 : wc.cell? ⟨gb203, 5, none⟩ = some (.slice A0_5 l0_5.length c0_5) := (blk_cell BK203.out 5).trans rfl; have hfz16_0 := blk_frozen BK203.out 0; have hfz16_1 := blk_frozen BK203.out 1; have hfz16_2 := blk_frozen BK203.out 2; have hfz16_3 := blk_frozen BK203.out 3; have hfz16_4 := blk_frozen BK203.out 4; have hfz16_5 := blk_frozen BK203.out 5; go_wp2_with (first | ((with_reducible refine gate_dst (N := 21) rfl ?_); refine Kd.R_lit Kd.string _ 9 ?hg (N := 21) ?hd (xs := ([a0_2] : List ByteArray)) (inner := [.string a0_2]) (ok := fun _ => True) (okp := fun _ => True) ?hr ?hp (fun _ hk => hk) trivial (Below.refl _ _) (Nat.le_refl _) (by simp) ?_; (case hd => rfl); (case hg => rfl); (case hr => first | (go_simp; done) | (go_simp; rfl) | (go_simp; simp (disch := omega) only [Go.u8_and63, Go.u8_and31, Go.u8_and15, Go.u8_and7, Go.u8_or128, Go.u8_or192, Go.u8_or224, Go.u8_or240, m64]; done)); (case hp => exact (Reps.one (show Kd.M Kd.string _ _ _ a0_2 [.string a0_2] from rfl) (Reps.none _ _))); intro v208 w17 ho18 hb hg_ hnew_; clear hg_ hnew_; (first | rw [← Ny207.out] at ho18 | (simp only [Int.reduceToNat] at ho18; rw [← Ny207.out] at ho18)); have n0_ := Aside0.mk (Kd.R_lower ho18 (below_size (mvG HB.out GE203.out))); have n1_ := Aside0.mk (blk_below (g := gb203) (o := .cells #[.int .i64 a0_0, .int .i64 a0_1, .string a0_2, .int .i64 a0_3, .int .i64 a0_4, .slice A0_5 l0_5.length c0_5] 24 (0, 0)) (mvK BK203.out) hb); have n2_ := Aside0.mk (below_step (mvG HB.out GE203.out) hb); clear BK203; clear HB; have HO209 := n0_; have BK203 := n1_; have HB := n2_; clear n0_ n1_ n2_; clear hb ho18))
     go_ret
     exact ⟨_, by first | rfl | (simp [errW_none, errW_some] <;> rfl) | (simp [*, errW_none, errW_some] <;> rfl) | exact congrArg (fun b_ => Ending.returned (.bool b_)) (decide_eq_decide.2 (by unfold wrap64; omega)), by (with_reducible repeat (first | apply Kd.R_alloc | apply Kd.R_drewN | apply Kd.R_drew)); exact HO209.out, mvG HB.out GE203.out⟩
    ·replace c15 := Bool.eq_false_iff.mpr c15; subst c15; have H1 : (if a0_0 = 10 then ((like_Parse.f kj9 a0_2 a0_3).bind fun bt210 => ((like_Runs.f kj9 bt210.1).bind fun t214 => (some t214))) else (some ([] : List ByteArray))) = some r := by rw [if_neg (show ¬ (false = true) by decide)] at H; exact H
     clear H; have H := H1; clear H1; by_cases c19 : a0_0 = 10
     ·rw [if_pos c19] at H; have c19b0 : (a0_0 == 10) = true := beq_iff_eq.mpr c19; have c19b1 : (a0_0 != 10) = false := bne_eq_false_iff_eq.mpr c19; clear c19; replace H := Option.bind_eq_some_iff.mp H; obtain ⟨⟨t210, t211⟩, A200, H⟩ := H; replace H : ((like_Runs.f kj9 t210).bind fun t214 => (some t214)) = some r := H
      have A20 := Aside0.mk A200; clear A200; replace H := Option.bind_eq_some_iff.mp H; obtain ⟨t214, A210, H⟩ := H; replace H : (some t214) = some r := H
      have A21 := Aside0.mk A210; clear A210; obtain rfl := Option.some.inj H
      have hcz22_0 : wc.cell? ⟨gb203, 0, none⟩ = some (.int .i64 a0_0) := (blk_cell BK203.out 0).trans rfl; have hcz22_1 : wc.cell? ⟨gb203, 1, none⟩ = some (.int .i64 a0_1) := (blk_cell BK203.out 1).trans rfl; have hcz22_2 : wc.cell? ⟨gb203, 2, none⟩ = some (.string a0_2) := (blk_cell BK203.out 2).trans rfl; have hcz22_3 : wc.cell? ⟨gb203, 3, none⟩ = some (.int .i64 a0_3) := (blk_cell BK203.out 3).trans rfl; have hcz22_4 : wc.cell? ⟨gb203, 4, none⟩ = some (.int .i64 a0_4) := (blk_cell BK203.out 4).trans rfl; have hcz22_5 : wc.cell? ⟨gb203, 5, none⟩ = some (.slice A0_5 l0_5.length c0_5) := (blk_cell BK203.out 5).trans rfl; have hfz22_0 := blk_frozen BK203.out 0; have hfz22_1 := blk_frozen BK203.out 1; have hfz22_2 := blk_frozen BK203.out 2; have hfz22_3 := blk_frozen BK203.out 3; have hfz22_4 := blk_frozen BK203.out 4; have hfz22_5 := blk_frozen BK203.out 5; go_wp2_with (first | ((with_reducible refine gate_callee (f := 36) rfl ?_); refine goesL_ (some 29) rfl rfl Tryz.func36 (by kernel_rfl) rfl #[.string a0_2, .int .i64 a0_3] rfl (by (try simp only [List.map_toArray, List.map_cons, List.map_nil]); first | done | rfl | (simp only [List.length_drop, List.length_take]; rfl)) ?_; (with_reducible refine (like_Parse.calls kj9 a0_2 a0_3 t210 t211 _ A20.out).mono ?_); rintro e w23 ⟨v212, rfl, ho0, hb⟩; refine ⟨_, rfl, ?_⟩; have n0_ := Aside0.mk (Kd.R_lower ho0 (below_size (mvG HB.out GE203.out))); have n1_ := Aside0.mk (blk_below (g := gb203) (o := .cells #[.int .i64 a0_0, .int .i64 a0_1, .string a0_2, .int .i64 a0_3, .int .i64 a0_4, .slice A0_5 l0_5.length c0_5] 24 (0, 0)) (mvK BK203.out) hb); have n2_ := Aside0.mk (below_step (mvG HB.out GE203.out) hb); clear BK203; clear HB; have HO213 := n0_; have BK203 := n1_; have HB := n2_; clear n0_ n1_ n2_; (try clear hb); (try clear hb2); (try clear hk); (try clear hi); (try clear ho0); obtain ⟨Ao24, co24, eo24⟩ := Kd.R_slice HO213.out; subst eo24) | ((with_reducible refine gate_callee (f := 45) rfl ?_); refine goesL_ (some 33) rfl rfl Tryz.func45 (by kernel_rfl) rfl #[.slice Ao24 t210.length co24] rfl (by (try simp only [List.map_toArray, List.map_cons, List.map_nil]); first | done | rfl | (simp only [List.length_drop, List.length_take]; rfl)) ?_; (with_reducible refine (like_Runs.calls kj9 _ _ t210 t214 _ ?side1 ?side2 A21.out).mono ?_); (case side1 => repeat (first | exact (Kd.R_reads' HO213.out).2.2 | (with_reducible refine Kd.C_alloc ?_ _) | (with_reducible refine Kd.C_drewN ?_ _) | (with_reducible refine Kd.C_drew ?_))); (case side2 => exact (Kd.R_reads' HO213.out).2.1); rintro e w25 ⟨v215, rfl, ho0, hb⟩; refine ⟨_, rfl, ?_⟩; have n0_ := Aside0.mk (Kd.R_below (mvR HO213.out) hb); have n1_ := Aside0.mk (Kd.R_lower ho0 (below_size (mvG HB.out GE203.out))); have n2_ := Aside0.mk (blk_below (g := gb203) (o := .cells #[.int .i64 a0_0, .int .i64 a0_1, .string a0_2, .int .i64 a0_3, .int .i64 a0_4, .slice A0_5 l0_5.length c0_5] 24 (0, 0)) (mvK BK203.out) hb); have n3_ := Aside0.mk (below_step (mvG HB.out GE203.out) hb); clear HO213; clear BK203; clear HB; have HO213 := n0_; have HO216 := n1_; have BK203 := n2_; have HB := n3_; clear n0_ n1_ n2_ n3_; (try clear hb); (try clear hb2); (try clear hk); (try clear hi); (try clear ho0)))
      go_ret
      exact ⟨_, by first | rfl | (simp [errW_none, errW_some] <;> rfl) | (simp [*, errW_none, errW_some] <;> rfl) | exact congrArg (fun b_ => Ending.returned (.bool b_)) (decide_eq_decide.2 (by unfold wrap64; omega)), by (with_reducible repeat (first | apply Kd.R_alloc | apply Kd.R_drewN | apply Kd.R_drew)); exact HO216.out, mvG HB.out GE203.out⟩
     ·rw [if_neg c19] at H; have c19b0 : (a0_0 == 10) = false := beq_eq_false_iff_ne.mpr c19; have c19b1 : (a0_0 != 10) = true := bne_iff_ne.mpr c19; obtain rfl := Option.some.inj H
      go_wp2
      go_ret
      exact ⟨_, by first | rfl | (simp [errW_none, errW_some] <;> rfl) | (simp [*, errW_none, errW_some] <;> rfl) | exact congrArg (fun b_ => Ending.returned (.bool b_)) (decide_eq_decide.2 (by unfold wrap64; omega)), by first | exact Kd.R_nil _ _ _ _ _ | exact Kd.N_nil _ _ _ _ _ | exact Kd.V_nil _ _ _ _ _ | exact Kd.Q_nil _ _ _ _ _ | exact Kd.S_nil _ _ _ _ _, mvG HB.out GE203.out⟩

/-! ### slices_Sort_int_int: function 64 -/
-- told by hand
/-- Numbers in their order. -/
def sortI (l : List Int) : List Int := l.mergeSort fun x y => decide (x ≤ y)
def slices_Sort_int_int.f (l0 : List Int) : Option (List Int) := if l0.length < 4611686018427387904 then some (sortI l0) else none
theorem slices_Sort_int_int.heap (w : World) (n g : Nat) (d : Array Int) (os : Array Obj) (i : Nat) (hi : i < w.heap.size) : (Sort.grow (Sort.putRow (Value.int .i64) (Sort.ahead w n) g 0 d) os).heap[i]? = (Sort.putRow (Value.int .i64) w g 0 d).heap[i]? := by
 have hs : (Sort.putRow (Value.int .i64) (Sort.ahead w n) g 0 d).heap.size = w.heap.size := by simp [Sort.putRow, Sort.mapBlock, Sort.ahead]
 unfold Sort.grow
 simp only
 rw [Array.getElem?_append_left (by rw [hs]; exact hi)]
 rfl
theorem slices_Sort_int_int.heap_ne (w : World) (g : Nat) (d : Array Int) (i : Nat) (hi : i ≠ g) : (Sort.putRow (Value.int .i64) w g 0 d).heap[i]? = w.heap[i]? := by
 simp only [Sort.putRow, Sort.mapBlock, Array.getElem?_modify]
 rw [if_neg (fun z => hi z.symm)]
theorem slices_Sort_int_int.calls (P0_ : Nat → Prop) (u9000_ : Value) (l0 : List Int) (r : List Int) (w0 w : World) (hB : Below w0.heap.size w0 w) (ho0 : Kd.R (Kd.int .i64) 3 w w0.heap.size P0_ u9000_ l0) (h : slices_Sort_int_int.f l0 = some r) :
  Calls Tryz.prog 64 #[u9000_] w fun e w' => e = .returned (.tuple #[]) ∧ Kd.R (Kd.int .i64) 3 w' w0.heap.size (fun k_ => (P0_ k_ ∨ w.heap.size ≤ k_)) u9000_ r ∧ Below w0.heap.size w0 w' ∧ Kept w w' (fun k_ => P0_ k_) := by
 unfold slices_Sort_int_int.f at h
 by_cases hlen : l0.length < 4611686018427387904
 case neg => rw [if_neg hlen] at h; cases h
 rw [if_pos hlen] at h; obtain rfl := Option.some.inj h
 clear h; obtain ⟨A, cp, rfl⟩ := Kd.R_slice ho0
 by_cases hn : l0 = []
 ·subst hn; refine (Tryz.slices_Sort_int_none A cp w).mono ?_
  rintro e w' ⟨rfl, rfl⟩
  exact ⟨rfl, by rw [show sortI [] = [] by simp [sortI]]; exact Kd.R_mono ho0 (fun _ hk => .inl hk), hB, Kept.refl _ _⟩
 ·have hpos : 0 < l0.length := by cases l0 with | nil => exact absurd rfl hn | cons _ _ => simp
  obtain ⟨g, rfl⟩ : ∃ g, A = some ⟨g, 0, none⟩ := by
   obtain ⟨_, inner, hown, _⟩ := ho0; rcases hown.2 with ⟨_, h⟩ | ⟨g, _, _, h, _⟩
   ·omega
   ·injection h with h _ _
    exact ⟨g, h⟩
  have hg : g < w.heap.size := Kd.R_lt ho0 g rfl; have hgb : w0.heap.size ≤ g := Kd.R_base ho0 g rfl; have hP : P0_ g := ho0.1 g rfl; have hc := Tryz.slices_Sort_int g 0 cp l0 w (holds_ints rfl ho0) hg hlen
  refine hc.mono ?_
  rintro e w' ⟨rfl, n, os, rfl⟩
  have hl : (l0.mergeSort fun x y => decide (x ≤ y)).length = l0.length := by rw [List.length_mergeSort]
  have hR := R_putInt (ok' := fun k_ => (P0_ k_ ∨ w.heap.size ≤ k_)) rfl ho0 (.inl hP) (l0.mergeSort fun x y => decide (x ≤ y)) hl l0.length (Nat.le_refl _) (slices_Sort_int_int.heap w n g _ os g hg)
  rw [List.take_of_length_le (by omega)] at hR
  have hsz : w.heap.size ≤ (Sort.grow (Sort.putRow (Value.int .i64) (Sort.ahead w n) g 0 (l0.mergeSort fun x y => decide (x ≤ y)).toArray) os).heap.size := by
   simp [Sort.grow, Sort.putRow, Sort.mapBlock, Sort.ahead]
  refine ⟨rfl, hR, ⟨hB.os, hB.tape, hB.output, Nat.le_trans hB.size hsz, fun k hk => ?_⟩, hsz, fun i hi hni => ?_⟩
  ·rw [slices_Sort_int_int.heap w n g _ os k (Nat.lt_of_lt_of_le hk hB.size), slices_Sort_int_int.heap_ne w g _ k (by omega)]
   exact hB.block k hk
  ·rw [slices_Sort_int_int.heap w n g _ os i hi]
   exact slices_Sort_int_int.heap_ne w g _ i (fun e => hni (by rw [e]; exact hP))

/-! ### slices_Compact_int_int: function 65 -/
-- told by hand
/-- Neighbours that are alike stand once. -/
def compI (l : List Int) : List Int := Lib.compact l
def slices_Compact_int_int.f (l0 : List Int) : Option (List Int) := if l0.length ≤ 9223372036854775807 then some (compI l0) else none
theorem slices_Compact_int_int.le (zs : List Int) : (Lib.compact zs).length ≤ zs.length := by
 unfold Lib.compact Lib.compactUpTo
 rw [List.length_map]
 exact Nat.le_trans (List.length_filter_le _ _) (by simp)
theorem slices_Compact_int_int.heap (w : World) (n g : Nat) (d : Array Int) (i : Nat) : (Sort.putRow (Value.int .i64) (Sort.ahead w n) g 0 d).heap[i]? = (Sort.putRow (Value.int .i64) w g 0 d).heap[i]? := rfl
theorem slices_Compact_int_int.heap_ne (w : World) (g : Nat) (d : Array Int) (i : Nat) (hi : i ≠ g) : (Sort.putRow (Value.int .i64) w g 0 d).heap[i]? = w.heap[i]? := by
 simp only [Sort.putRow, Sort.mapBlock, Array.getElem?_modify]
 rw [if_neg (fun z => hi z.symm)]
theorem slices_Compact_int_int.calls (P0_ : Nat → Prop) (u9000_ : Value) (l0 : List Int) (r : List Int) (w0 w : World) (hB : Below w0.heap.size w0 w) (ho0 : Kd.R (Kd.int .i64) 3 w w0.heap.size P0_ u9000_ l0) (h : slices_Compact_int_int.f l0 = some r) :
  Calls Tryz.prog 65 #[u9000_] w fun e w' => ∃ v0_ : Value, e = .returned (v0_) ∧ Kd.R (Kd.int .i64) 3 w' w0.heap.size (fun k_ => (P0_ k_ ∨ w.heap.size ≤ k_)) v0_ r ∧ Below w0.heap.size w0 w' ∧ Kept w w' (fun k_ => P0_ k_) := by
 unfold slices_Compact_int_int.f at h
 by_cases hlen : l0.length ≤ 9223372036854775807
 case neg => rw [if_neg hlen] at h; cases h
 rw [if_pos hlen] at h; obtain rfl := Option.some.inj h
 clear h; obtain ⟨A, cp, rfl⟩ := Kd.R_slice ho0
 by_cases hn : l0 = []
 ·subst hn; refine (Tryz.slices_Compact_int_empty A cp w).mono ?_
  rintro e w' ⟨rfl, rfl⟩
  exact ⟨_, rfl, Kd.R_mono ho0 (fun _ hk => .inl hk), hB, Kept.refl _ _⟩
 ·have hpos : 0 < l0.length := by cases l0 with | nil => exact absurd rfl hn | cons _ _ => simp
  have hcap : l0.length ≤ cp := by
   obtain ⟨A', c', e, hl, _⟩ := Kd.R_reads ho0
   injection e with _ _ e
   rw [e]; exact hl
  obtain ⟨g, rfl⟩ : ∃ g, A = some ⟨g, 0, none⟩ := by
   obtain ⟨_, inner, hown, _⟩ := ho0; rcases hown.2 with ⟨_, h⟩ | ⟨g, _, _, h, _⟩
   ·omega
   ·injection h with h _ _
    exact ⟨g, h⟩
  have hg : g < w.heap.size := Kd.R_lt ho0 g rfl; have hgb : w0.heap.size ≤ g := Kd.R_base ho0 g rfl; have hP : P0_ g := ho0.1 g rfl; have hc := Tryz.slices_Compact_int g 0 cp l0 w (holds_ints rfl ho0) hlen hcap
  refine hc.mono ?_
  rintro e w' ⟨rfl, n, rfl⟩
  have hle := slices_Compact_int_int.le l0; have hR := R_putInt (ok' := fun k_ => (P0_ k_ ∨ w.heap.size ≤ k_)) rfl ho0 (.inl hP) (Lib.compact l0 ++ List.replicate (l0.length - (Lib.compact l0).length) 0) (by simp; omega) (Lib.compact l0).length hle (slices_Compact_int_int.heap w n g _ g)
  rw [List.take_append_of_le_length (Nat.le_refl _), List.take_length] at hR
  have hsz : w.heap.size ≤ (Sort.putRow (Value.int .i64) (Sort.ahead w n) g 0 (Lib.compact l0 ++ List.replicate (l0.length - (Lib.compact l0).length) 0).toArray).heap.size := by
   simp [Sort.putRow, Sort.mapBlock, Sort.ahead]
  refine ⟨_, rfl, hR, ⟨hB.os, hB.tape, hB.output, Nat.le_trans hB.size hsz, fun k hk => ?_⟩, hsz, fun i hi hni => ?_⟩
  ·rw [slices_Compact_int_int.heap w n g _ k, slices_Compact_int_int.heap_ne w g _ k (by omega)]
   exact hB.block k hk
  ·rw [slices_Compact_int_int.heap w n g _ i]
   exact slices_Compact_int_int.heap_ne w g _ i (fun e => hni (by rw [e]; exact hP))

end Go.Proofs.YtdccooaddoafnaaGreatDoor.Q
