-- PRINTED by print.py (a twelfth state) out of the translation. Not trusted: Lean checks it.
import Derived.Test.YtdojgfkcpaeacaaDoorQx0
import Derived.Test.YtdojgfkcpaeacaaDoorQx7
import Derived.Test.YtdojgfkcpaeacaaDoorQx8
import Derived.Test.YtdojgfkcpaeacaaDoorQx11
import Derived.Test.YtdojgfkcpaeacaaDoorQx12
import Derived.Test.YtdojgfkcpaeacaaDoorQx13
namespace Go.Proofs.YtdojgfkcpaeacaaDoor.Q
open Go.RowKit Go.Proofs.YtdojgfkcpaeacaaDoorW.PrintWords Go.Proofs.YtdojgfkcpaeacaaDoorW.PrintLast Go.Proofs.YtdojgfkcpaeacaaDoorW.PrintMore
attribute [local go_sem] str_gtr str_geq str_leq max2_int min2_int max_two min_two max_three min_three max_four min_four
set_option linter.unusedVariables false
set_option maxHeartbeats 8000000
set_option maxRecDepth 100000
set_option linter.unusedSimpArgs false

/-! ### hopperlaw24_awake: function 9 -/
def hopperlaw24_awake.f (k : Nat)  : Option (Bool) := (some (([(([(⟨false, (⟨#[98]⟩ : ByteArray)⟩ : S36)] : List (S36))), (([(⟨true, (⟨#[]⟩ : ByteArray)⟩ : S36)] : List (S36))), (([(⟨false, (⟨#[97]⟩ : ByteArray)⟩ : S36)] : List (S36)))] : List (List (S36))) : List (List (S36)))).bind fun y167 => ((some (([(⟨0, 0, false⟩ : S39)] : List (S39)) : List (S39))).bind fun y170 => ((order_Rows.f k y167 y170).bind fun t173 => (if 1 < (y167.length : Int) then (if 2 < (y167.length : Int) then (if 0 < (y167.length : Int) then ((hopperref18_Same.f k t173 (([rd_L6 y167 1, rd_L6 y167 2, rd_L6 y167 0] : List (List (S36))))).bind fun t182 => (if t182 = true then ((order_Right.f y170 1).bind fun t183 => (if t183 = true then ((order_Right.f y170 0).bind fun t184 => (if t184 = true then (none) else ((order_Compare.f k (rd_L6 y167 0) (rd_L6 y167 2) y170).bind fun t187 => (if t187 = 1 then ((order_Cut.f k y167 1 1).bind fun t188 => (if 1 ≤ 2 then (if 2 ≤ (y167.length : Int) then ((hopperref18_Same.f k t188 ((y167.take 2).drop 1)).bind fun t196 => (some t196)) else (none)) else (none))) else (none))))) else (none))) else (none))) else (none)) else (none)) else (none))))
theorem hopperlaw24_awake.mono : ∀ k, LeO (hopperlaw24_awake.f k ) (hopperlaw24_awake.f (k + 1) ) := by
 intro  k
 unfold hopperlaw24_awake.f
 repeat' first
   | (with_reducible exact hopperref18_Same.mono _ _ _)
   | (with_reducible exact order_Compare.mono _ _ _ _)
   | (with_reducible exact order_Cut.mono _ _ _ _)
   | (with_reducible exact order_Rows.mono _ _ _)
   | (with_reducible exact LeO.refl _)
   | (with_reducible exact LeO.none _)
   | (with_reducible refine LeO.ite ?_ ?_)
   | (with_reducible refine LeO.bind ?_ (fun _ => ?_))
   | exact hopperref18_Same.mono _ _ _
   | exact order_Compare.mono _ _ _ _
   | exact order_Cut.mono _ _ _ _
   | exact order_Rows.mono _ _ _
   | exact LeO.none _
   | refine LeO.ite ?_ ?_
   | refine LeO.bind ?_ (fun _ => ?_)
def hopperlaw24_awake.T4 : Bool × List (List Nat × List Nat) := (true, [([], []), ([], []), ([1], [1]), ([2], [2]), ([], []), ([4], [4]), ([5], [5]), ([], []), ([7], [7]), ([8], [8]), ([3, 6, 9], [3, 6, 9]), ([0, 10], [0, 10]), ([11, 11], [11]), ([12], [12]), ([13, 12, 12], [12, 13]), ([12, 14], [12, 14]), ([15, 14], [15]), ([16], [16]), ([17, 16, 16], [16, 17]), ([18, 16], [16, 18]), ([16, 19], [16, 19]), ([20, 18], [20]), ([21], [21]), ([22, 21], [21, 22]), ([23, 21], [21, 23]), ([21], [21]), ([25, 21], [21, 25]), ([26, 21], [21, 26]), ([21], [21]), ([24, 27, 28, 21, 21], [21, 24, 27, 28]), ([29, 21], [21, 29]), ([21, 30], [21, 30]), ([31, 29], [31]), ([32], [32]), ([33, 32, 32], [32, 33]), ([32], [32]), ([35, 32], [32, 35]), ([34, 36, 34, 32], [32, 34, 36]), ([32, 37], [32, 37]), ([38, 37, 0, 1, 2, 3, 4, 5, 6, 7, 8, 9, 10, 11, 12, 13, 14, 15, 16, 17, 18, 19, 20, 21, 22, 23, 24, 25, 26, 27, 28, 29, 30, 31, 32, 33, 34, 35, 36, 37, 38], [38])])
def hopperlaw24_awake.B4 : List Nat := [0, 0, 2, 6, 0, 16, 48, 0, 128, 384, 1022, 2047, 4095, 8191, 16383, 32767, 65535, 131071, 262143, 524287, 1048575, 2097151, 4194303, 8388607, 16777215, 4194303, 37748735, 104857599, 4194303, 536870911, 1073741823, 2147483647, 4294967295, 8589934591, 17179869183, 8589934591, 42949672959, 137438953471, 274877906943, 549755813887]
theorem hopperlaw24_awake.tab4 : rtab .any (opsOf Tryd.f9 4) = hopperlaw24_awake.T4 := by kernel_rfl
theorem hopperlaw24_awake.bits4 : waitsOk hopperlaw24_awake.T4.2 hopperlaw24_awake.B4 = true := by kernel_rfl
theorem hopperlaw24_awake.calls (k : Nat)  (r : Bool) (w : World) (hT : Facts w) (h : hopperlaw24_awake.f k  = some r) :
  Calls Tryd.prog 9 #[] w fun e w' => e = .returned (.bool r) ∧ Below w.heap.size w w' := by
 have hu36 := Tryd.underlying36; have hu39 := Tryd.underlying39; have HT := Aside0.mk hT; clear hT; have HB := Aside0.mk (Below.refl w.heap.size w)
 have H : ((some (([(([(⟨false, (⟨#[98]⟩ : ByteArray)⟩ : S36)] : List (S36))), (([(⟨true, (⟨#[]⟩ : ByteArray)⟩ : S36)] : List (S36))), (([(⟨false, (⟨#[97]⟩ : ByteArray)⟩ : S36)] : List (S36)))] : List (List (S36))) : List (List (S36)))).bind fun y167 => ((some (([(⟨0, 0, false⟩ : S39)] : List (S39)) : List (S39))).bind fun y170 => ((order_Rows.f k y167 y170).bind fun t173 => (if 1 < (y167.length : Int) then (if 2 < (y167.length : Int) then (if 0 < (y167.length : Int) then ((hopperref18_Same.f k t173 (([rd_L6 y167 1, rd_L6 y167 2, rd_L6 y167 0] : List (List (S36))))).bind fun t182 => (if t182 = true then ((order_Right.f y170 1).bind fun t183 => (if t183 = true then ((order_Right.f y170 0).bind fun t184 => (if t184 = true then (none) else ((order_Compare.f k (rd_L6 y167 0) (rd_L6 y167 2) y170).bind fun t187 => (if t187 = 1 then ((order_Cut.f k y167 1 1).bind fun t188 => (if 1 ≤ 2 then (if 2 ≤ (y167.length : Int) then ((hopperref18_Same.f k t188 ((y167.take 2).drop 1)).bind fun t196 => (some t196)) else (none)) else (none))) else (none))))) else (none))) else (none))) else (none)) else (none)) else (none))))) = some r := h; clear h; obtain ⟨y158, hy158⟩ : ∃ y_ : List (S36), y_ = (([(⟨false, (⟨#[98]⟩ : ByteArray)⟩ : S36)] : List (S36))) := ⟨_, rfl⟩
 replace H : ((some (([y158, (([(⟨true, (⟨#[]⟩ : ByteArray)⟩ : S36)] : List (S36))), (([(⟨false, (⟨#[97]⟩ : ByteArray)⟩ : S36)] : List (S36)))] : List (List (S36))) : List (List (S36)))).bind fun y167 => ((some (([(⟨0, 0, false⟩ : S39)] : List (S39)) : List (S39))).bind fun y170 => ((order_Rows.f k y167 y170).bind fun t173 => (if 1 < (y167.length : Int) then (if 2 < (y167.length : Int) then (if 0 < (y167.length : Int) then ((hopperref18_Same.f k t173 (([rd_L6 y167 1, rd_L6 y167 2, rd_L6 y167 0] : List (List (S36))))).bind fun t182 => (if t182 = true then ((order_Right.f y170 1).bind fun t183 => (if t183 = true then ((order_Right.f y170 0).bind fun t184 => (if t184 = true then (none) else ((order_Compare.f k (rd_L6 y167 0) (rd_L6 y167 2) y170).bind fun t187 => (if t187 = 1 then ((order_Cut.f k y167 1 1).bind fun t188 => (if 1 ≤ 2 then (if 2 ≤ (y167.length : Int) then ((hopperref18_Same.f k t188 ((y167.take 2).drop 1)).bind fun t196 => (some t196)) else (none)) else (none))) else (none))))) else (none))) else (none))) else (none)) else (none)) else (none))))) = some r := by first | (rw [hy158]; with_reducible exact H) | (have H2_ := (Option.bind_some _ _).symm.trans H; rw [hy158]; with_reducible exact H2_) | (have H2_ := (Option.bind_some _ _).symm.trans H; with_reducible exact H2_) | with_reducible exact H | (rw [hy158]; exact H) | exact H
 have Ny158 := Aside0.mk hy158; clear hy158; obtain ⟨y161, hy161⟩ : ∃ y_ : List (S36), y_ = (([(⟨true, (⟨#[]⟩ : ByteArray)⟩ : S36)] : List (S36))) := ⟨_, rfl⟩
 replace H : ((some (([y158, y161, (([(⟨false, (⟨#[97]⟩ : ByteArray)⟩ : S36)] : List (S36)))] : List (List (S36))) : List (List (S36)))).bind fun y167 => ((some (([(⟨0, 0, false⟩ : S39)] : List (S39)) : List (S39))).bind fun y170 => ((order_Rows.f k y167 y170).bind fun t173 => (if 1 < (y167.length : Int) then (if 2 < (y167.length : Int) then (if 0 < (y167.length : Int) then ((hopperref18_Same.f k t173 (([rd_L6 y167 1, rd_L6 y167 2, rd_L6 y167 0] : List (List (S36))))).bind fun t182 => (if t182 = true then ((order_Right.f y170 1).bind fun t183 => (if t183 = true then ((order_Right.f y170 0).bind fun t184 => (if t184 = true then (none) else ((order_Compare.f k (rd_L6 y167 0) (rd_L6 y167 2) y170).bind fun t187 => (if t187 = 1 then ((order_Cut.f k y167 1 1).bind fun t188 => (if 1 ≤ 2 then (if 2 ≤ (y167.length : Int) then ((hopperref18_Same.f k t188 ((y167.take 2).drop 1)).bind fun t196 => (some t196)) else (none)) else (none))) else (none))))) else (none))) else (none))) else (none)) else (none)) else (none))))) = some r := by first | (rw [hy161]; with_reducible exact H) | (have H2_ := (Option.bind_some _ _).symm.trans H; rw [hy161]; with_reducible exact H2_) | (have H2_ := (Option.bind_some _ _).symm.trans H; with_reducible exact H2_) | with_reducible exact H | (rw [hy161]; exact H) | exact H
 have Ny161 := Aside0.mk hy161; clear hy161; obtain ⟨y164, hy164⟩ : ∃ y_ : List (S36), y_ = (([(⟨false, (⟨#[97]⟩ : ByteArray)⟩ : S36)] : List (S36))) := ⟨_, rfl⟩
 replace H : ((some (([y158, y161, y164] : List (List (S36))) : List (List (S36)))).bind fun y167 => ((some (([(⟨0, 0, false⟩ : S39)] : List (S39)) : List (S39))).bind fun y170 => ((order_Rows.f k y167 y170).bind fun t173 => (if 1 < (y167.length : Int) then (if 2 < (y167.length : Int) then (if 0 < (y167.length : Int) then ((hopperref18_Same.f k t173 (([rd_L6 y167 1, rd_L6 y167 2, rd_L6 y167 0] : List (List (S36))))).bind fun t182 => (if t182 = true then ((order_Right.f y170 1).bind fun t183 => (if t183 = true then ((order_Right.f y170 0).bind fun t184 => (if t184 = true then (none) else ((order_Compare.f k (rd_L6 y167 0) (rd_L6 y167 2) y170).bind fun t187 => (if t187 = 1 then ((order_Cut.f k y167 1 1).bind fun t188 => (if 1 ≤ 2 then (if 2 ≤ (y167.length : Int) then ((hopperref18_Same.f k t188 ((y167.take 2).drop 1)).bind fun t196 => (some t196)) else (none)) else (none))) else (none))))) else (none))) else (none))) else (none)) else (none)) else (none))))) = some r := by first | (rw [hy164]; with_reducible exact H) | (have H2_ := (Option.bind_some _ _).symm.trans H; rw [hy164]; with_reducible exact H2_) | (have H2_ := (Option.bind_some _ _).symm.trans H; with_reducible exact H2_) | with_reducible exact H | (rw [hy164]; exact H) | exact H
 have Ny164 := Aside0.mk hy164; clear hy164; obtain ⟨y167, hy167⟩ : ∃ y_ : List (List (S36)), y_ = (([y158, y161, y164] : List (List (S36)))) := ⟨_, rfl⟩
 replace H : ((some (([(⟨0, 0, false⟩ : S39)] : List (S39)) : List (S39))).bind fun y170 => ((order_Rows.f k y167 y170).bind fun t173 => (if 1 < (y167.length : Int) then (if 2 < (y167.length : Int) then (if 0 < (y167.length : Int) then ((hopperref18_Same.f k t173 (([rd_L6 y167 1, rd_L6 y167 2, rd_L6 y167 0] : List (List (S36))))).bind fun t182 => (if t182 = true then ((order_Right.f y170 1).bind fun t183 => (if t183 = true then ((order_Right.f y170 0).bind fun t184 => (if t184 = true then (none) else ((order_Compare.f k (rd_L6 y167 0) (rd_L6 y167 2) y170).bind fun t187 => (if t187 = 1 then ((order_Cut.f k y167 1 1).bind fun t188 => (if 1 ≤ 2 then (if 2 ≤ (y167.length : Int) then ((hopperref18_Same.f k t188 ((y167.take 2).drop 1)).bind fun t196 => (some t196)) else (none)) else (none))) else (none))))) else (none))) else (none))) else (none)) else (none)) else (none)))) = some r := by first | (rw [hy167]; with_reducible exact H) | (have H2_ := (Option.bind_some _ _).symm.trans H; rw [hy167]; with_reducible exact H2_) | (have H2_ := (Option.bind_some _ _).symm.trans H; with_reducible exact H2_) | with_reducible exact H | (rw [hy167]; exact H) | exact H
 have Ny167 := Aside0.mk hy167; clear hy167; obtain ⟨y170, hy170⟩ : ∃ y_ : List (S39), y_ = (([(⟨0, 0, false⟩ : S39)] : List (S39))) := ⟨_, rfl⟩
 replace H : ((order_Rows.f k y167 y170).bind fun t173 => (if 1 < (y167.length : Int) then (if 2 < (y167.length : Int) then (if 0 < (y167.length : Int) then ((hopperref18_Same.f k t173 (([rd_L6 y167 1, rd_L6 y167 2, rd_L6 y167 0] : List (List (S36))))).bind fun t182 => (if t182 = true then ((order_Right.f y170 1).bind fun t183 => (if t183 = true then ((order_Right.f y170 0).bind fun t184 => (if t184 = true then (none) else ((order_Compare.f k (rd_L6 y167 0) (rd_L6 y167 2) y170).bind fun t187 => (if t187 = 1 then ((order_Cut.f k y167 1 1).bind fun t188 => (if 1 ≤ 2 then (if 2 ≤ (y167.length : Int) then ((hopperref18_Same.f k t188 ((y167.take 2).drop 1)).bind fun t196 => (some t196)) else (none)) else (none))) else (none))))) else (none))) else (none))) else (none)) else (none)) else (none))) = some r := by first | (rw [hy170]; with_reducible exact H) | (have H2_ := (Option.bind_some _ _).symm.trans H; rw [hy170]; with_reducible exact H2_) | (have H2_ := (Option.bind_some _ _).symm.trans H; with_reducible exact H2_) | with_reducible exact H | (rw [hy170]; exact H) | exact H
 have Ny170 := Aside0.mk hy170; clear hy170; replace H := Option.bind_eq_some_iff.mp H; obtain ⟨t173, A10, H⟩ := H; replace H : (if 1 < (y167.length : Int) then (if 2 < (y167.length : Int) then (if 0 < (y167.length : Int) then ((hopperref18_Same.f k t173 (([rd_L6 y167 1, rd_L6 y167 2, rd_L6 y167 0] : List (List (S36))))).bind fun t182 => (if t182 = true then ((order_Right.f y170 1).bind fun t183 => (if t183 = true then ((order_Right.f y170 0).bind fun t184 => (if t184 = true then (none) else ((order_Compare.f k (rd_L6 y167 0) (rd_L6 y167 2) y170).bind fun t187 => (if t187 = 1 then ((order_Cut.f k y167 1 1).bind fun t188 => (if 1 ≤ 2 then (if 2 ≤ (y167.length : Int) then ((hopperref18_Same.f k t188 ((y167.take 2).drop 1)).bind fun t196 => (some t196)) else (none)) else (none))) else (none))))) else (none))) else (none))) else (none)) else (none)) else (none)) = some r := H
 have A1 := Aside0.mk A10; clear A10; by_cases c2 : 1 < (y167.length : Int)
 case neg => rw [if_neg c2] at H; exact absurd H (by simp)
 rw [if_pos c2] at H; have c2b0 : decide (1 < (y167.length : Int)) = true := decide_eq_true c2; have c2b1 : decide (1 < y167.length) = true := decide_eq_true (by omega)
 clear c2; by_cases c3 : 2 < (y167.length : Int)
 case neg => rw [if_neg c3] at H; exact absurd H (by simp)
 rw [if_pos c3] at H; have c3b0 : decide (2 < (y167.length : Int)) = true := decide_eq_true c3; have c3b1 : decide (2 < y167.length) = true := decide_eq_true (by omega)
 clear c3; by_cases c4 : 0 < (y167.length : Int)
 case neg => rw [if_neg c4] at H; exact absurd H (by simp)
 rw [if_pos c4] at H; have c4b0 : decide (0 < (y167.length : Int)) = true := decide_eq_true c4; have c4b1 : decide (0 < y167.length) = true := decide_eq_true (by omega)
 clear c4; obtain ⟨y179, hy179⟩ : ∃ y_ : List (List (S36)), y_ = (([rd_L6 y167 1, rd_L6 y167 2, rd_L6 y167 0] : List (List (S36)))) := ⟨_, rfl⟩
 replace H : ((hopperref18_Same.f k t173 y179).bind fun t182 => (if t182 = true then ((order_Right.f y170 1).bind fun t183 => (if t183 = true then ((order_Right.f y170 0).bind fun t184 => (if t184 = true then (none) else ((order_Compare.f k (rd_L6 y167 0) (rd_L6 y167 2) y170).bind fun t187 => (if t187 = 1 then ((order_Cut.f k y167 1 1).bind fun t188 => (if 1 ≤ 2 then (if 2 ≤ (y167.length : Int) then ((hopperref18_Same.f k t188 ((y167.take 2).drop 1)).bind fun t196 => (some t196)) else (none)) else (none))) else (none))))) else (none))) else (none))) = some r := by first | (rw [hy179]; with_reducible exact H) | (have H2_ := (Option.bind_some _ _).symm.trans H; rw [hy179]; with_reducible exact H2_) | (have H2_ := (Option.bind_some _ _).symm.trans H; with_reducible exact H2_) | with_reducible exact H | (rw [hy179]; exact H) | exact H
 have Ny179 := Aside0.mk hy179; clear hy179; replace H := Option.bind_eq_some_iff.mp H; obtain ⟨t182, A50, H⟩ := H; replace H : (if t182 = true then ((order_Right.f y170 1).bind fun t183 => (if t183 = true then ((order_Right.f y170 0).bind fun t184 => (if t184 = true then (none) else ((order_Compare.f k (rd_L6 y167 0) (rd_L6 y167 2) y170).bind fun t187 => (if t187 = 1 then ((order_Cut.f k y167 1 1).bind fun t188 => (if 1 ≤ 2 then (if 2 ≤ (y167.length : Int) then ((hopperref18_Same.f k t188 ((y167.take 2).drop 1)).bind fun t196 => (some t196)) else (none)) else (none))) else (none))))) else (none))) else (none)) = some r := H
 have A5 := Aside0.mk A50; clear A50; by_cases c6 : t182 = true
 ·subst c6; have H1 : ((order_Right.f y170 1).bind fun t183 => (if t183 = true then ((order_Right.f y170 0).bind fun t184 => (if t184 = true then (none) else ((order_Compare.f k (rd_L6 y167 0) (rd_L6 y167 2) y170).bind fun t187 => (if t187 = 1 then ((order_Cut.f k y167 1 1).bind fun t188 => (if 1 ≤ 2 then (if 2 ≤ (y167.length : Int) then ((hopperref18_Same.f k t188 ((y167.take 2).drop 1)).bind fun t196 => (some t196)) else (none)) else (none))) else (none))))) else (none))) = some r := by rw [if_pos rfl] at H; exact H
  clear H; have H := H1; clear H1; replace H := Option.bind_eq_some_iff.mp H; obtain ⟨t183, A70, H⟩ := H; replace H : (if t183 = true then ((order_Right.f y170 0).bind fun t184 => (if t184 = true then (none) else ((order_Compare.f k (rd_L6 y167 0) (rd_L6 y167 2) y170).bind fun t187 => (if t187 = 1 then ((order_Cut.f k y167 1 1).bind fun t188 => (if 1 ≤ 2 then (if 2 ≤ (y167.length : Int) then ((hopperref18_Same.f k t188 ((y167.take 2).drop 1)).bind fun t196 => (some t196)) else (none)) else (none))) else (none))))) else (none)) = some r := H
  have A7 := Aside0.mk A70; clear A70; by_cases c8 : t183 = true
  ·subst c8; have H1 : ((order_Right.f y170 0).bind fun t184 => (if t184 = true then (none) else ((order_Compare.f k (rd_L6 y167 0) (rd_L6 y167 2) y170).bind fun t187 => (if t187 = 1 then ((order_Cut.f k y167 1 1).bind fun t188 => (if 1 ≤ 2 then (if 2 ≤ (y167.length : Int) then ((hopperref18_Same.f k t188 ((y167.take 2).drop 1)).bind fun t196 => (some t196)) else (none)) else (none))) else (none))))) = some r := by rw [if_pos rfl] at H; exact H
   clear H; have H := H1; clear H1; replace H := Option.bind_eq_some_iff.mp H; obtain ⟨t184, A90, H⟩ := H; replace H : (if t184 = true then (none) else ((order_Compare.f k (rd_L6 y167 0) (rd_L6 y167 2) y170).bind fun t187 => (if t187 = 1 then ((order_Cut.f k y167 1 1).bind fun t188 => (if 1 ≤ 2 then (if 2 ≤ (y167.length : Int) then ((hopperref18_Same.f k t188 ((y167.take 2).drop 1)).bind fun t196 => (some t196)) else (none)) else (none))) else (none)))) = some r := H
   have A9 := Aside0.mk A90; clear A90; by_cases c10 : t184 = true
   ·subst c10; have H1 : (none) = some r := by rw [if_pos rfl] at H; exact H
    clear H; have H := H1; clear H1; cases H
   ·replace c10 := Bool.eq_false_iff.mpr c10; subst c10; have H1 : ((order_Compare.f k (rd_L6 y167 0) (rd_L6 y167 2) y170).bind fun t187 => (if t187 = 1 then ((order_Cut.f k y167 1 1).bind fun t188 => (if 1 ≤ 2 then (if 2 ≤ (y167.length : Int) then ((hopperref18_Same.f k t188 ((y167.take 2).drop 1)).bind fun t196 => (some t196)) else (none)) else (none))) else (none))) = some r := by rw [if_neg (show ¬ (false = true) by decide)] at H; exact H
    clear H; have H := H1; clear H1; replace H := Option.bind_eq_some_iff.mp H; obtain ⟨t187, A340, H⟩ := H; replace H : (if t187 = 1 then ((order_Cut.f k y167 1 1).bind fun t188 => (if 1 ≤ 2 then (if 2 ≤ (y167.length : Int) then ((hopperref18_Same.f k t188 ((y167.take 2).drop 1)).bind fun t196 => (some t196)) else (none)) else (none))) else (none)) = some r := H
    have A34 := Aside0.mk A340; clear A340; by_cases c35 : t187 = 1
    ·rw [if_pos c35] at H; have c35b0 : (t187 == 1) = true := beq_iff_eq.mpr c35; have c35b1 : (t187 != 1) = false := bne_eq_false_iff_eq.mpr c35; clear c35; replace H := Option.bind_eq_some_iff.mp H; obtain ⟨t188, A360, H⟩ := H; replace H : (if 1 ≤ 2 then (if 2 ≤ (y167.length : Int) then ((hopperref18_Same.f k t188 ((y167.take 2).drop 1)).bind fun t196 => (some t196)) else (none)) else (none)) = some r := H
     have A36 := Aside0.mk A360; clear A360; by_cases c37 : 1 ≤ 2
     case neg => rw [if_neg c37] at H; exact absurd H (by simp)
     rw [if_pos c37] at H; have c37b0 := eq_true c37; have c37b1 : decide (1 ≤ 2) = true := decide_eq_true c37; clear c37; by_cases c38 : 2 ≤ (y167.length : Int)
     case neg => rw [if_neg c38] at H; exact absurd H (by simp)
     rw [if_pos c38] at H; have c38b0 := eq_true c38; have c38b1 : decide (2 ≤ (y167.length : Int)) = true := decide_eq_true c38; clear c38; obtain ⟨y191, hy191⟩ : ∃ y_ : List (List (S36)), y_ = ((y167.take 2).drop 1) := ⟨_, rfl⟩
     replace H : ((hopperref18_Same.f k t188 y191).bind fun t196 => (some t196)) = some r := by first | (rw [hy191]; with_reducible exact H) | (have H2_ := (Option.bind_some _ _).symm.trans H; rw [hy191]; with_reducible exact H2_) | (have H2_ := (Option.bind_some _ _).symm.trans H; with_reducible exact H2_) | with_reducible exact H | (rw [hy191]; exact H) | exact H
     have Ny191 := Aside0.mk hy191; clear hy191; replace H := Option.bind_eq_some_iff.mp H; obtain ⟨t196, A390, H⟩ := H; replace H : (some t196) = some r := H
     have A39 := Aside0.mk A390; clear A390; obtain rfl := Option.some.inj H
     go_enter Tryd.func9, Tryd.ntmps9
     try go_wp2_with (first | ((with_reducible refine gate_dst (N := 5) rfl ?_); refine Kd.R_lit k36 _ 36 ?hg (N := 5) ?hd (xs := ([(⟨false, (⟨#[98]⟩ : ByteArray)⟩ : S36)] : List (S36))) (inner := [.bool false, .string (⟨#[98]⟩ : ByteArray)]) (ok := fun _ => True) (okp := fun _ => True) ?hr ?hp (fun _ hk => hk) trivial (Below.refl _ _) (Nat.le_refl _) (by simp) ?_; (case hd => rfl); (case hg => rfl); (case hr => first | (go_simp; done) | (go_simp; rfl) | (go_simp; simp (disch := omega) only [Go.u8_and63, Go.u8_and31, Go.u8_and15, Go.u8_and7, Go.u8_or128, Go.u8_or192, Go.u8_or224, Go.u8_or240, m64]; done)); (case hp => exact (Reps.c2 (show Kd.M k36 _ _ _ (⟨false, (⟨#[98]⟩ : ByteArray)⟩ : S36) [.bool false, .string (⟨#[98]⟩ : ByteArray)] from (k36_mkM _ _ _ (⟨false, (⟨#[98]⟩ : ByteArray)⟩ : S36) )) (Reps.none _ _))); intro v159 w40 ho41 hb hg_ hnew_; clear hg_ hnew_; (first | rw [← Ny158.out] at ho41 | (simp only [Int.reduceToNat] at ho41; rw [← Ny158.out] at ho41)); have n0_ := Aside0.mk (Kd.R_lower ho41 (below_size (mvB HB.out))); have n1_ := Aside0.mk (below_step (mvB HB.out) hb); clear HB; have HO160 := n0_; have HB := n1_; clear n0_ n1_; clear hb ho41) | ((with_reducible refine gate_dst (N := 7) rfl ?_); refine Kd.R_lit k36 _ 36 ?hg (N := 7) ?hd (xs := ([(⟨true, (⟨#[]⟩ : ByteArray)⟩ : S36)] : List (S36))) (inner := [.bool true, .string (⟨#[]⟩ : ByteArray)]) (ok := fun _ => True) (okp := fun _ => True) ?hr ?hp (fun _ hk => hk) trivial (Below.refl _ _) (Nat.le_refl _) (by simp) ?_; (case hd => rfl); (case hg => rfl); (case hr => first | (go_simp; done) | (go_simp; rfl) | (go_simp; simp (disch := omega) only [Go.u8_and63, Go.u8_and31, Go.u8_and15, Go.u8_and7, Go.u8_or128, Go.u8_or192, Go.u8_or224, Go.u8_or240, m64]; done)); (case hp => exact (Reps.c2 (show Kd.M k36 _ _ _ (⟨true, (⟨#[]⟩ : ByteArray)⟩ : S36) [.bool true, .string (⟨#[]⟩ : ByteArray)] from (k36_mkM _ _ _ (⟨true, (⟨#[]⟩ : ByteArray)⟩ : S36) )) (Reps.none _ _))); intro v162 w42 ho43 hb hg_ hnew_; clear hg_ hnew_; (first | rw [← Ny161.out] at ho43 | (simp only [Int.reduceToNat] at ho43; rw [← Ny161.out] at ho43)); have n0_ := Aside0.mk (Kd.R_elder' (mvR HO160.out) (Kd.R_base ho43) hb); have n1_ := Aside0.mk (Kd.R_lower (Kd.R_new' ho43 (Kd.R_lt (mvR HO160.out))) (below_size (mvB HB.out))); have n2_ := Aside0.mk (below_step (mvB HB.out) hb); clear HO160; clear HB; have HO160 := n0_; have HO163 := n1_; have HB := n2_; clear n0_ n1_ n2_; clear hb ho43) | ((with_reducible refine gate_dst (N := 9) rfl ?_); refine Kd.R_lit k36 _ 36 ?hg (N := 9) ?hd (xs := ([(⟨false, (⟨#[97]⟩ : ByteArray)⟩ : S36)] : List (S36))) (inner := [.bool false, .string (⟨#[97]⟩ : ByteArray)]) (ok := fun _ => True) (okp := fun _ => True) ?hr ?hp (fun _ hk => hk) trivial (Below.refl _ _) (Nat.le_refl _) (by simp) ?_; (case hd => rfl); (case hg => rfl); (case hr => first | (go_simp; done) | (go_simp; rfl) | (go_simp; simp (disch := omega) only [Go.u8_and63, Go.u8_and31, Go.u8_and15, Go.u8_and7, Go.u8_or128, Go.u8_or192, Go.u8_or224, Go.u8_or240, m64]; done)); (case hp => exact (Reps.c2 (show Kd.M k36 _ _ _ (⟨false, (⟨#[97]⟩ : ByteArray)⟩ : S36) [.bool false, .string (⟨#[97]⟩ : ByteArray)] from (k36_mkM _ _ _ (⟨false, (⟨#[97]⟩ : ByteArray)⟩ : S36) )) (Reps.none _ _))); intro v165 w44 ho45 hb hg_ hnew_; clear hg_ hnew_; (first | rw [← Ny164.out] at ho45 | (simp only [Int.reduceToNat] at ho45; rw [← Ny164.out] at ho45)); have n0_ := Aside0.mk (Kd.R_elder' (mvR HO160.out) (Kd.R_base ho45) hb); have n1_ := Aside0.mk (Kd.R_elder' (mvR HO163.out) (Kd.R_base ho45) hb); have n2_ := Aside0.mk (Kd.R_lower (Kd.R_new' (Kd.R_new' ho45 (Kd.R_lt (mvR HO160.out))) (Kd.R_lt (mvR HO163.out))) (below_size (mvB HB.out))); have n3_ := Aside0.mk (below_step (mvB HB.out) hb); clear HO160; clear HO163; clear HB; have HO160 := n0_; have HO163 := n1_; have HO166 := n2_; have HB := n3_; clear n0_ n1_ n2_ n3_; clear hb ho45; obtain ⟨Ao46, co46, eo46⟩ := Kd.R_slice HO160.out; subst eo46; obtain ⟨Ao47, co47, eo47⟩ := Kd.R_slice HO163.out; subst eo47; obtain ⟨Ao48, co48, eo48⟩ := Kd.R_slice HO166.out; subst eo48) | ((with_reducible refine gate_dst (N := 10) rfl ?_); refine Kd.N_lit (Kd.slice 36 k36) _ 28 ?hg (N' := 10) ?hd (xs := ([y158, y161, y164] : List (List (S36)))) (inner := [.slice Ao46 y158.length co46, .slice Ao47 y161.length co47, .slice Ao48 y164.length co48]) (ok := (fun _ => True)) (okp := (fun _ => True)) ?hr ?hp (fun _ hk => hk) ((show ∀ k_, w44.heap.size ≤ k_ → (fun _ => True) k_ from fun k_ hk => trivial) _ (Nat.le_refl _)) (Below.refl _ _) (Nat.le_refl _) (by simp) ?_; (case hd => rfl); (case hg => rfl); (case hr => first | (go_simp; done) | (go_simp; rfl) | (go_simp; simp (disch := omega) only [Go.u8_and63, Go.u8_and31, Go.u8_and15, Go.u8_and7, Go.u8_or128, Go.u8_or192, Go.u8_or224, Go.u8_or240, m64]; done)); (case hp => exact (Reps.one (show Kd.FK (Kd.slice 36 k36) _ _ y158 [.slice Ao46 y158.length co46] from (Kd.FK_slice_mk (Kd.R_reads' (Kd.R_mono (ok' := (fun _ => True)) (HO160.out) (fun k_ hk => trivial))).2.1 (Kd.R_F (Kd.R_mono (ok' := (fun _ => True)) (HO160.out) (fun k_ hk => trivial))))) (Reps.one (show Kd.FK (Kd.slice 36 k36) _ _ y161 [.slice Ao47 y161.length co47] from (Kd.FK_slice_mk (Kd.R_reads' (Kd.R_mono (ok' := (fun _ => True)) (HO163.out) (fun k_ hk => trivial))).2.1 (Kd.R_F (Kd.R_mono (ok' := (fun _ => True)) (HO163.out) (fun k_ hk => trivial))))) (Reps.one (show Kd.FK (Kd.slice 36 k36) _ _ y164 [.slice Ao48 y164.length co48] from (Kd.FK_slice_mk (Kd.R_reads' (Kd.R_mono (ok' := (fun _ => True)) (HO166.out) (fun k_ hk => trivial))).2.1 (Kd.R_F (Kd.R_mono (ok' := (fun _ => True)) (HO166.out) (fun k_ hk => trivial))))) (Reps.none _ _))))); intro v168 w49 ho50 hb hg_ hnew_; clear hg_ hnew_; (first | rw [← Ny167.out] at ho50 | (simp only [Int.reduceToNat] at ho50; rw [← Ny167.out] at ho50)); have n0_ := Aside0.mk (Kd.N_lower ho50 (below_size (mvB HB.out))); have n1_ := Aside0.mk (below_step (mvB HB.out) hb); clear HB; clear HO160; clear HO163; clear HO166; have HO169 := n0_; have HB := n1_; clear n0_ n1_; clear hb ho50) | ((with_reducible refine gate_dst (N := 12) rfl ?_); refine Kd.R_lit k39 _ 39 ?hg (N := 12) ?hd (xs := ([(⟨0, 0, false⟩ : S39)] : List (S39))) (inner := [.int .i64 0, .int .i64 0, .bool false]) (ok := fun _ => True) (okp := fun _ => True) ?hr ?hp (fun _ hk => hk) trivial (Below.refl _ _) (Nat.le_refl _) (by simp) ?_; (case hd => rfl); (case hg => rfl); (case hr => first | (go_simp; done) | (go_simp; rfl) | (go_simp; simp (disch := omega) only [Go.u8_and63, Go.u8_and31, Go.u8_and15, Go.u8_and7, Go.u8_or128, Go.u8_or192, Go.u8_or224, Go.u8_or240, m64]; done)); (case hp => exact (Reps.c3 (show Kd.M k39 _ _ _ (⟨0, 0, false⟩ : S39) [.int .i64 0, .int .i64 0, .bool false] from (k39_mkM _ _ _ (⟨0, 0, false⟩ : S39) )) (Reps.none _ _))); intro v171 w51 ho52 hb hg_ hnew_; clear hg_ hnew_; (first | rw [← Ny170.out] at ho52 | (simp only [Int.reduceToNat] at ho52; rw [← Ny170.out] at ho52)); have n0_ := Aside0.mk (Kd.N_elder' (mvN HO169.out) (Kd.R_base ho52) hb); have n1_ := Aside0.mk (Kd.R_lower ho52 (below_size (mvB HB.out))); have n2_ := Aside0.mk (below_step (mvB HB.out) hb); clear HO169; clear HB; have HO169 := n0_; have HO172 := n1_; have HB := n2_; clear n0_ n1_ n2_; clear hb ho52; obtain ⟨Ao53, co53, eo53⟩ := Kd.N_slice HO169.out; subst eo53; obtain ⟨Ao54, co54, eo54⟩ := Kd.R_slice HO172.out; subst eo54) | ((with_reducible refine gate_callee (f := 15) rfl ?_); refine goesL_ (some 15) rfl rfl Tryd.func15 (by kernel_rfl) rfl #[.slice Ao53 y167.length co53, .slice Ao54 y170.length co54] rfl (by (try simp only [List.map_toArray, List.map_cons, List.map_nil]); first | done | rfl | (simp only [List.length_drop, List.length_take]; rfl)) ?_; (with_reducible refine (order_Rows.calls k _ _ y167 _ _ y170 t173 _ ?side1 ?side2 ?side3 ?side4 ?side5 A1.out).mono ?_); (case side1 => repeat (first | exact (Kd.N_reads' HO169.out).2.2 | (with_reducible refine Kd.C_alloc ?_ _) | (with_reducible refine Kd.C_drewN ?_ _) | (with_reducible refine Kd.C_drew ?_))); (case side2 => exact (Kd.N_reads' HO169.out).2.1); (case side3 => repeat (first | exact (Kd.R_reads' HO172.out).2.2 | (with_reducible refine Kd.C_alloc ?_ _) | (with_reducible refine Kd.C_drewN ?_ _) | (with_reducible refine Kd.C_drew ?_))); (case side4 => exact (Kd.R_reads' HO172.out).2.1); (case side5 => first | exact HT.out | exact Facts.below HT.out (mvB HB.out) | exact Facts.below HT.out HB.out | (repeat (first | exact HT.out | refine Facts.drewN ?_ _ | refine Facts.drew ?_ | refine Facts.alloc ?_ _))); rintro e w55 ⟨v174, rfl, ho0, hb⟩; refine ⟨_, rfl, ?_⟩; have n0_ := Aside0.mk (Kd.N_elder' (mvN HO169.out) (by first | exact Kd.N_base ho0 | exact Kd.S_base ho0 | exact Kd.R_base ho0) hb); have n1_ := Aside0.mk (Kd.R_below (mvR HO172.out) hb); have n2_ := Aside0.mk (Kd.N_lower (Kd.N_mono (ok' := fun k_ => some k_ ≠ (.slice Ao53 y167.length co53 : Value).ownBlock ∧ some k_ ≠ (.slice Ao54 y170.length co54 : Value).ownBlock) (Kd.S_N (Kd.S_bound ho0)) (fun k_ hk_ => ⟨(Kd.fresh' (Kd.N_lt (mvN HO169.out)) k_ hk_.2.1), (Kd.fresh' (Kd.R_lt (mvR HO172.out)) k_ hk_.2.1)⟩)) (below_size (mvB HB.out))); have n3_ := Aside0.mk (below_step (mvB HB.out) hb); clear HO169; clear HO172; clear HB; have HO169 := n0_; have HO172 := n1_; have HO175 := n2_; have HB := n3_; clear n0_ n1_ n2_ n3_; (try clear hb); (try clear hb2); (try clear hk); (try clear hi); (try clear ho0)))
     have n0_ := Aside0.mk (Kd.N_drew HO169.out)
     have n1_ := Aside0.mk (Kd.R_drew HO172.out)
     have n2_ := Aside0.mk (Kd.N_drew HO175.out)
     have n3_ := Aside0.mk (below_drew1 HB.out)
     clear HO169; clear HO172; clear HO175; clear HB; have HO169 := n0_; have HO172 := n1_; have HO175 := n2_; have HB := n3_; clear n0_ n1_ n2_ n3_; have p176 : 0 ≤ (1 : Int) := (by omega)
     have q176 : 1 < (y167.length : Int) := dtA; obtain ⟨ad176, A176_0, c176_0, e176, hx176_0, hl176_0, hi176_0⟩ := at_L6 (Kd.N_reads' HO169.out).2.2 1 p176 q176
     cases e176
     obtain ⟨ce176, hce176, hMe176, hcc176⟩ := Kd.N_get HO169.out [] 1 p176 (by first | exact q176 | exact dtA | (have e_ := (Kd.N_reads' HO169.out).1; omega))
     obtain ⟨ua176_0, uc176_0, rfl, ul176_0, ge176_0⟩ := Kd.FK_slice_open hMe176
     have hv176_0 := hcc176 0 _ rfl; rw [Nat.add_zero, show ((Kd.slice 36 k36)).sz = 1 from rfl, Nat.mul_one] at hv176_0
     replace hv176_0 := Option.some.inj (hv176_0.symm.trans hx176_0)
     injection hv176_0 with hva_ hvn_ hvc_
     rw [hva_] at ge176_0
     rw [hvc_] at ul176_0
     have HL176_0 := Aside0.mk (show Kd.V k36 36 _ w.heap.size _ _ (rd_L6 y167 1) from Kd.V_mk ul176_0 ge176_0)
     clear hva_ hvn_ hvc_ ge176_0 ul176_0; clear hcc176 hce176; (try simp only [show (1 : Int).toNat = 1 from rfl, Nat.reduceMul, Nat.reduceEqDiff, Go.Addr.add, ↓reduceIte] at hx176_0)
     have qi176 : (1 < y167.length) = True := eq_true (by omega)
     (try rw [show ((1 : Int)).toNat = 1 from rfl] at hx176_0)
     have HR176_0 := Aside0.mk hi176_0; have HC176_0 := Aside0.mk hl176_0; clear hi176_0 hl176_0; replace p176 := eq_true p176; replace q176 := eq_true q176; have p177 : 0 ≤ (2 : Int) := (by omega)
     have q177 : 2 < (y167.length : Int) := dtA; obtain ⟨ad177, A177_0, c177_0, e177, hx177_0, hl177_0, hi177_0⟩ := at_L6 (Kd.N_reads' HO169.out).2.2 2 p177 q177
     obtain rfl : ad176 = ad177 := (by injection e177)
     obtain ⟨ce177, hce177, hMe177, hcc177⟩ := Kd.N_get HO169.out [] 2 p177 (by first | exact q177 | exact dtA | (have e_ := (Kd.N_reads' HO169.out).1; omega))
     obtain ⟨ua177_0, uc177_0, rfl, ul177_0, ge177_0⟩ := Kd.FK_slice_open hMe177
     have hv177_0 := hcc177 0 _ rfl; rw [Nat.add_zero, show ((Kd.slice 36 k36)).sz = 1 from rfl, Nat.mul_one] at hv177_0
     replace hv177_0 := Option.some.inj (hv177_0.symm.trans hx177_0)
     injection hv177_0 with hva_ hvn_ hvc_
     rw [hva_] at ge177_0
     rw [hvc_] at ul177_0
     have HL177_0 := Aside0.mk (show Kd.V k36 36 _ w.heap.size _ _ (rd_L6 y167 2) from Kd.V_mk ul177_0 ge177_0)
     clear hva_ hvn_ hvc_ ge177_0 ul177_0; clear hcc177 hce177; (try simp only [show (2 : Int).toNat = 2 from rfl, Nat.reduceMul, Nat.reduceEqDiff, Go.Addr.add, ↓reduceIte] at hx177_0)
     have qi177 : (2 < y167.length) = True := eq_true (by omega)
     (try rw [show ((2 : Int)).toNat = 2 from rfl] at hx177_0)
     have HR177_0 := Aside0.mk hi177_0; have HC177_0 := Aside0.mk hl177_0; clear hi177_0 hl177_0; replace p177 := eq_true p177; replace q177 := eq_true q177; have p178 : 0 ≤ (0 : Int) := (by omega)
     have q178 : 0 < (y167.length : Int) := dtA; obtain ⟨ad178, A178_0, c178_0, e178, hx178_0, hl178_0, hi178_0⟩ := at_L6 (Kd.N_reads' HO169.out).2.2 0 p178 q178
     obtain rfl : ad176 = ad178 := (by injection e178)
     obtain ⟨ce178, hce178, hMe178, hcc178⟩ := Kd.N_get HO169.out [] 0 p178 (by first | exact q178 | exact dtA | (have e_ := (Kd.N_reads' HO169.out).1; omega))
     obtain ⟨ua178_0, uc178_0, rfl, ul178_0, ge178_0⟩ := Kd.FK_slice_open hMe178
     have hv178_0 := hcc178 0 _ rfl; rw [Nat.add_zero, show ((Kd.slice 36 k36)).sz = 1 from rfl, Nat.mul_one] at hv178_0
     replace hv178_0 := Option.some.inj (hv178_0.symm.trans hx178_0)
     injection hv178_0 with hva_ hvn_ hvc_
     rw [hva_] at ge178_0
     rw [hvc_] at ul178_0
     have HL178_0 := Aside0.mk (show Kd.V k36 36 _ w.heap.size _ _ (rd_L6 y167 0) from Kd.V_mk ul178_0 ge178_0)
     clear hva_ hvn_ hvc_ ge178_0 ul178_0; clear hcc178 hce178; have qi178 : (0 < y167.length) = True := eq_true (by omega)
     (try rw [show ((0 : Int)).toNat = 0 from rfl] at hx178_0)
     (try rw [Addr.add_zero'] at hx178_0)
     have HR178_0 := Aside0.mk hi178_0; have HC178_0 := Aside0.mk hl178_0; clear hi178_0 hl178_0; replace p178 := eq_true p178; replace q178 := eq_true q178; have p185 : 0 ≤ (0 : Int) := (by omega)
     have q185 : 0 < (y167.length : Int) := dtA; obtain ⟨ad185, A185_0, c185_0, e185, hx185_0, hl185_0, hi185_0⟩ := at_L6 (Kd.N_reads' HO169.out).2.2 0 p185 q185
     obtain rfl : ad176 = ad185 := (by injection e185)
     obtain ⟨ce185, hce185, hMe185, hcc185⟩ := Kd.N_get HO169.out [] 0 p185 (by first | exact q185 | exact dtA | (have e_ := (Kd.N_reads' HO169.out).1; omega))
     obtain ⟨ua185_0, uc185_0, rfl, ul185_0, ge185_0⟩ := Kd.FK_slice_open hMe185
     have hv185_0 := hcc185 0 _ rfl; rw [Nat.add_zero, show ((Kd.slice 36 k36)).sz = 1 from rfl, Nat.mul_one] at hv185_0
     replace hv185_0 := Option.some.inj (hv185_0.symm.trans hx185_0)
     injection hv185_0 with hva_ hvn_ hvc_
     rw [hva_] at ge185_0
     rw [hvc_] at ul185_0
     have HL185_0 := Aside0.mk (show Kd.V k36 36 _ w.heap.size _ _ (rd_L6 y167 0) from Kd.V_mk ul185_0 ge185_0)
     clear hva_ hvn_ hvc_ ge185_0 ul185_0; clear hcc185 hce185; have qi185 : (0 < y167.length) = True := eq_true (by omega)
     (try rw [show ((0 : Int)).toNat = 0 from rfl] at hx185_0)
     (try rw [Addr.add_zero'] at hx185_0)
     have HR185_0 := Aside0.mk hi185_0; have HC185_0 := Aside0.mk hl185_0; clear hi185_0 hl185_0; have eqA185_0 : A185_0 = A178_0 := by have e_ := Option.some.inj (hx178_0.symm.trans hx185_0); injection e_ with a_ _ b_; exact a_.symm
     have eqc185_0 : c185_0 = c178_0 := by have e_ := Option.some.inj (hx178_0.symm.trans hx185_0); injection e_ with a_ _ b_; exact b_.symm
     have EQ185_0 := Aside0.mk (And.intro eqA185_0 eqc185_0)
     clear eqA185_0 eqc185_0; replace p185 := eq_true p185; replace q185 := eq_true q185; have p186 : 0 ≤ (2 : Int) := (by omega)
     have q186 : 2 < (y167.length : Int) := dtA; obtain ⟨ad186, A186_0, c186_0, e186, hx186_0, hl186_0, hi186_0⟩ := at_L6 (Kd.N_reads' HO169.out).2.2 2 p186 q186
     obtain rfl : ad176 = ad186 := (by injection e186)
     obtain ⟨ce186, hce186, hMe186, hcc186⟩ := Kd.N_get HO169.out [] 2 p186 (by first | exact q186 | exact dtA | (have e_ := (Kd.N_reads' HO169.out).1; omega))
     obtain ⟨ua186_0, uc186_0, rfl, ul186_0, ge186_0⟩ := Kd.FK_slice_open hMe186
     have hv186_0 := hcc186 0 _ rfl; rw [Nat.add_zero, show ((Kd.slice 36 k36)).sz = 1 from rfl, Nat.mul_one] at hv186_0
     replace hv186_0 := Option.some.inj (hv186_0.symm.trans hx186_0)
     injection hv186_0 with hva_ hvn_ hvc_
     rw [hva_] at ge186_0
     rw [hvc_] at ul186_0
     have HL186_0 := Aside0.mk (show Kd.V k36 36 _ w.heap.size _ _ (rd_L6 y167 2) from Kd.V_mk ul186_0 ge186_0)
     clear hva_ hvn_ hvc_ ge186_0 ul186_0; clear hcc186 hce186; (try simp only [show (2 : Int).toNat = 2 from rfl, Nat.reduceMul, Nat.reduceEqDiff, Go.Addr.add, ↓reduceIte] at hx186_0)
     have qi186 : (2 < y167.length) = True := eq_true (by omega)
     (try rw [show ((2 : Int)).toNat = 2 from rfl] at hx186_0)
     have HR186_0 := Aside0.mk hi186_0; have HC186_0 := Aside0.mk hl186_0; clear hi186_0 hl186_0; have eqA186_0 : A186_0 = A177_0 := by have e_ := Option.some.inj (hx177_0.symm.trans hx186_0); injection e_ with a_ _ b_; exact a_.symm
     have eqc186_0 : c186_0 = c177_0 := by have e_ := Option.some.inj (hx177_0.symm.trans hx186_0); injection e_ with a_ _ b_; exact b_.symm
     have EQ186_0 := Aside0.mk (And.intro eqA186_0 eqc186_0)
     clear eqA186_0 eqc186_0; replace p186 := eq_true p186; replace q186 := eq_true q186; refine start_ (n := 40) (S := fun w' => w'.cell? ⟨ad176.block, ad176.off + 1, none⟩ = some (.slice A176_0 (rd_L6 y167 1).length c176_0) ∧ w'.cell? ⟨ad176.block, ad176.off + 2, none⟩ = some (.slice A177_0 (rd_L6 y167 2).length c177_0) ∧ w'.cell? ad176 = some (.slice A178_0 (rd_L6 y167 0).length c178_0) ∧ w'.cell? ad176 = some (.slice A185_0 (rd_L6 y167 0).length c185_0) ∧ w'.cell? ⟨ad176.block, ad176.off + 2, none⟩ = some (.slice A186_0 (rd_L6 y167 2).length c186_0)) (ds := []) #[false, false, false, false, false, false, false, false, false, false, false, false, false, false, false, false, false, false, false, false, false, false, false, false, false, false, false, false, false, false, false, false, false, false, false, false, false, false, false, false] (by kernel_rfl) rfl rfl ⟨hx176_0, hx177_0, hx178_0, hx185_0, hx186_0⟩ (fun hHeld => ?_); refine with_tabW hopperlaw24_awake.tab4 hopperlaw24_awake.bits4 (fun HT_ HW_ => ?_)
     generalize w55.drew = w56 at HO169 HO172 HO175 HB HL176_0 HL177_0 HL178_0 HL185_0 HL186_0 HR176_0 HR177_0 HR178_0 HR185_0 HR186_0 hx176_0 hx177_0 hx178_0 hx185_0 hx186_0 hHeld ⊢
     refine pure_ (i := 0) (N := some 16) (v := ?_) (a' := ?_) #[true, false, false, false, false, false, false, false, false, false, false, false, false, false, false, false, false, false, false, false, false, false, false, false, false, false, false, false, false, false, false, false, false, false, false, false, false, false, false, false] rfl rfl (any_of HT_.out (by kernel_rfl)) (fun _ _ _ h => h) (Or.inl ⟨by rfl, ?_⟩) ?_ ?_
     rotate_left
     ·intro w'
      go_simp
      with_reducible rfl
     rotate_left
     ·simp only [Act.put, List.setIfInBounds_toArray, List.set_cons_zero, List.set_cons_succ, i64_w, i32_w]
      rfl
     refine pure_ (i := 1) (N := some 17) (v := ?_) (a' := ?_) #[true, true, false, false, false, false, false, false, false, false, false, false, false, false, false, false, false, false, false, false, false, false, false, false, false, false, false, false, false, false, false, false, false, false, false, false, false, false, false, false] rfl rfl (any_of HT_.out (by kernel_rfl)) (fun _ _ _ h => h) (Or.inl ⟨by rfl, ?_⟩) ?_ ?_
     rotate_left
     ·intro w'
      go_simp
      with_reducible rfl
     rotate_left
     ·simp only [Act.put, List.setIfInBounds_toArray, List.set_cons_zero, List.set_cons_succ, i64_w, i32_w]
      rfl
     refine pure_ (i := 2) (N := some 18) (v := ?_) (a' := ?_) #[true, true, true, false, false, false, false, false, false, false, false, false, false, false, false, false, false, false, false, false, false, false, false, false, false, false, false, false, false, false, false, false, false, false, false, false, false, false, false, false] rfl rfl (any_of HT_.out (by kernel_rfl)) (fun _ _ _ h => h) (Or.inl ⟨by rfl, ?_⟩) ?_ ?_
     rotate_left
     ·intro w'
      go_simp
      with_reducible rfl
     rotate_left
     ·simp only [Act.put, List.setIfInBounds_toArray, List.set_cons_zero, List.set_cons_succ, i64_w, i32_w]
      rfl
     refine pure_ (i := 4) (N := some 20) (v := ?_) (a' := ?_) #[true, true, true, false, true, false, false, false, false, false, false, false, false, false, false, false, false, false, false, false, false, false, false, false, false, false, false, false, false, false, false, false, false, false, false, false, false, false, false, false] rfl rfl (any_of HT_.out (by kernel_rfl)) (fun _ _ _ h => h) (Or.inl ⟨by rfl, ?_⟩) ?_ ?_
     rotate_left
     ·intro w'
      go_simp
      with_reducible rfl
     rotate_left
     ·simp only [Act.put, List.setIfInBounds_toArray, List.set_cons_zero, List.set_cons_succ, i64_w, i32_w]
      rfl
     refine pure_ (i := 5) (N := some 21) (v := ?_) (a' := ?_) #[true, true, true, false, true, true, false, false, false, false, false, false, false, false, false, false, false, false, false, false, false, false, false, false, false, false, false, false, false, false, false, false, false, false, false, false, false, false, false, false] rfl rfl (any_of HT_.out (by kernel_rfl)) (fun _ _ _ h => h) (Or.inl ⟨by rfl, ?_⟩) ?_ ?_
     rotate_left
     ·intro w'
      go_simp
      with_reducible rfl
     rotate_left
     ·simp only [Act.put, List.setIfInBounds_toArray, List.set_cons_zero, List.set_cons_succ, i64_w, i32_w]
      rfl
     refine pure_ (i := 7) (N := some 23) (v := ?_) (a' := ?_) #[true, true, true, false, true, true, false, true, false, false, false, false, false, false, false, false, false, false, false, false, false, false, false, false, false, false, false, false, false, false, false, false, false, false, false, false, false, false, false, false] rfl rfl (any_of HT_.out (by kernel_rfl)) (fun _ _ _ h => h) (Or.inl ⟨by rfl, ?_⟩) ?_ ?_
     rotate_left
     ·intro w'
      go_simp
      with_reducible rfl
     rotate_left
     ·simp only [Act.put, List.setIfInBounds_toArray, List.set_cons_zero, List.set_cons_succ, i64_w, i32_w]
      rfl
     refine pure_ (i := 8) (N := some 24) (v := ?_) (a' := ?_) #[true, true, true, false, true, true, false, true, true, false, false, false, false, false, false, false, false, false, false, false, false, false, false, false, false, false, false, false, false, false, false, false, false, false, false, false, false, false, false, false] rfl rfl (any_of HT_.out (by kernel_rfl)) (fun _ _ _ h => h) (Or.inl ⟨by rfl, ?_⟩) ?_ ?_
     rotate_left
     ·intro w'
      go_simp
      with_reducible rfl
     rotate_left
     ·simp only [Act.put, List.setIfInBounds_toArray, List.set_cons_zero, List.set_cons_succ, i64_w, i32_w]
      rfl
     refine take_ (i := 3) (N := some 19) (v := ?_) (a' := ?_) #[true, true, true, true, true, true, false, true, true, false, false, false, false, false, false, false, false, false, false, false, false, false, false, false, false, false, false, false, false, false, false, false, false, false, false, false, false, false, false, false] rfl rfl (take_ofW HT_.out HW_.out (by kernel_rfl)) (fun _ _ _ h => h) (Or.inl ⟨by rfl, ?_⟩) hHeld ?_ ?_
     rotate_left
     ·rintro w' ⟨s0, s1, s2, s3, s4⟩
      go_simp
      with_reducible rfl
     rotate_left
     ·simp only [Act.put, List.setIfInBounds_toArray, List.set_cons_zero, List.set_cons_succ, i64_w, i32_w]
      rfl
     refine take_ (i := 6) (N := some 22) (v := ?_) (a' := ?_) #[true, true, true, true, true, true, true, true, true, false, false, false, false, false, false, false, false, false, false, false, false, false, false, false, false, false, false, false, false, false, false, false, false, false, false, false, false, false, false, false] rfl rfl (take_ofW HT_.out HW_.out (by kernel_rfl)) (fun _ _ _ h => h) (Or.inl ⟨by rfl, ?_⟩) hHeld ?_ ?_
     rotate_left
     ·rintro w' ⟨s0, s1, s2, s3, s4⟩
      go_simp
      with_reducible rfl
     rotate_left
     ·simp only [Act.put, List.setIfInBounds_toArray, List.set_cons_zero, List.set_cons_succ, i64_w, i32_w]
      rfl
     refine take_ (i := 9) (N := some 25) (v := ?_) (a' := ?_) #[true, true, true, true, true, true, true, true, true, true, false, false, false, false, false, false, false, false, false, false, false, false, false, false, false, false, false, false, false, false, false, false, false, false, false, false, false, false, false, false] rfl rfl (take_ofW HT_.out HW_.out (by kernel_rfl)) (fun _ _ _ h => h) (Or.inl ⟨by rfl, ?_⟩) hHeld ?_ ?_
     rotate_left
     ·rintro w' ⟨s0, s1, s2, s3, s4⟩
      go_simp
      with_reducible rfl
     rotate_left
     ·simp only [Act.put, List.setIfInBounds_toArray, List.set_cons_zero, List.set_cons_succ, i64_w, i32_w]
      rfl
     refine one_ (i := 10) (N := some 26) #[true, true, true, true, true, true, true, true, true, true, true, false, false, false, false, false, false, false, false, false, false, false, false, false, false, false, false, false, false, false, false, false, false, false, false, false, false, false, false, false] rfl rfl (one_of HT_.out (by kernel_rfl)) (by decide) (fun K hK => ?_)
     refine Kd.N_lit_step (Kd.slice 36 k36) _ 28 ?hg (N' := 26) ?hd (xs := ([rd_L6 y167 1, rd_L6 y167 2, rd_L6 y167 0] : List (List (S36)))) (inner := [.slice A176_0 (rd_L6 y167 1).length c176_0, .slice A177_0 (rd_L6 y167 2).length c177_0, .slice A178_0 (rd_L6 y167 0).length c178_0]) (ok := (fun k_ => some k_ ≠ (.slice (some ad176) y167.length co53 : Value).ownBlock ∧ some k_ ≠ (.slice Ao54 y170.length co54 : Value).ownBlock ∧ some k_ ≠ (v174 : Value).ownBlock)) (okp := (fun k_ => some k_ ≠ (.slice (some ad176) y167.length co53 : Value).ownBlock ∧ some k_ ≠ (.slice Ao54 y170.length co54 : Value).ownBlock ∧ some k_ ≠ (v174 : Value).ownBlock)) ?hr ?hp (fun _ hk => hk) ((show ∀ k_, w56.heap.size ≤ k_ → (fun k_ => some k_ ≠ (.slice (some ad176) y167.length co53 : Value).ownBlock ∧ some k_ ≠ (.slice Ao54 y170.length co54 : Value).ownBlock ∧ some k_ ≠ (v174 : Value).ownBlock) k_ from fun k_ hk => ⟨Kd.fresh' (Kd.N_lt (mvN HO169.out)) k_ hk, Kd.fresh' (Kd.R_lt (mvR HO172.out)) k_ hk, Kd.fresh' (Kd.N_lt (mvN HO175.out)) k_ hk⟩) _ (Nat.le_refl _)) (Below.refl _ _) (Nat.le_refl _) (by simp) ?_; (case hd => rfl); (case hg => rfl); (case hr => first | (go_simp; done) | (go_simp; rfl) | (go_simp; simp (disch := omega) only [Go.u8_and63, Go.u8_and31, Go.u8_and15, Go.u8_and7, Go.u8_or128, Go.u8_or192, Go.u8_or224, Go.u8_or240, m64]; done)); (case hp => exact (Reps.one (show Kd.FK (Kd.slice 36 k36) _ _ (rd_L6 y167 1) [.slice A176_0 (rd_L6 y167 1).length c176_0] from (Kd.FK_slice_mk (Kd.V_reads' (Kd.V_mono (ok' := (fun k_ => some k_ ≠ (.slice (some ad176) y167.length co53 : Value).ownBlock ∧ some k_ ≠ (.slice Ao54 y170.length co54 : Value).ownBlock ∧ some k_ ≠ (v174 : Value).ownBlock)) (HL176_0.out) (fun k_ hk => ⟨hk.2, ⟨hk.1.1.2, hk.1.2⟩⟩))).2.1 (Kd.V_F (Kd.V_mono (ok' := (fun k_ => some k_ ≠ (.slice (some ad176) y167.length co53 : Value).ownBlock ∧ some k_ ≠ (.slice Ao54 y170.length co54 : Value).ownBlock ∧ some k_ ≠ (v174 : Value).ownBlock)) (HL176_0.out) (fun k_ hk => ⟨hk.2, ⟨hk.1.1.2, hk.1.2⟩⟩))))) (Reps.one (show Kd.FK (Kd.slice 36 k36) _ _ (rd_L6 y167 2) [.slice A177_0 (rd_L6 y167 2).length c177_0] from (Kd.FK_slice_mk (Kd.V_reads' (Kd.V_mono (ok' := (fun k_ => some k_ ≠ (.slice (some ad176) y167.length co53 : Value).ownBlock ∧ some k_ ≠ (.slice Ao54 y170.length co54 : Value).ownBlock ∧ some k_ ≠ (v174 : Value).ownBlock)) (HL177_0.out) (fun k_ hk => ⟨hk.2, ⟨hk.1.1.2, hk.1.2⟩⟩))).2.1 (Kd.V_F (Kd.V_mono (ok' := (fun k_ => some k_ ≠ (.slice (some ad176) y167.length co53 : Value).ownBlock ∧ some k_ ≠ (.slice Ao54 y170.length co54 : Value).ownBlock ∧ some k_ ≠ (v174 : Value).ownBlock)) (HL177_0.out) (fun k_ hk => ⟨hk.2, ⟨hk.1.1.2, hk.1.2⟩⟩))))) (Reps.one (show Kd.FK (Kd.slice 36 k36) _ _ (rd_L6 y167 0) [.slice A178_0 (rd_L6 y167 0).length c178_0] from (Kd.FK_slice_mk (Kd.V_reads' (Kd.V_mono (ok' := (fun k_ => some k_ ≠ (.slice (some ad176) y167.length co53 : Value).ownBlock ∧ some k_ ≠ (.slice Ao54 y170.length co54 : Value).ownBlock ∧ some k_ ≠ (v174 : Value).ownBlock)) (HL178_0.out) (fun k_ hk => ⟨hk.2, ⟨hk.1.1.2, hk.1.2⟩⟩))).2.1 (Kd.V_F (Kd.V_mono (ok' := (fun k_ => some k_ ≠ (.slice (some ad176) y167.length co53 : Value).ownBlock ∧ some k_ ≠ (.slice Ao54 y170.length co54 : Value).ownBlock ∧ some k_ ≠ (v174 : Value).ownBlock)) (HL178_0.out) (fun k_ hk => ⟨hk.2, ⟨hk.1.1.2, hk.1.2⟩⟩))))) (Reps.none _ _)))))
     intro v180 w57 ho58 hb hg_ hnew_
     have HS0_ := (hb.cell (World.block_lt_of_cell? _ _ (hHeld.1))).trans (hHeld.1)
     have HS1_ := (hb.cell (World.block_lt_of_cell? _ _ (hHeld.2.1))).trans (hHeld.2.1)
     have HS2_ := (hb.cell (World.block_lt_of_cell? _ _ (hHeld.2.2.1))).trans (hHeld.2.2.1)
     have HS3_ := (hb.cell (World.block_lt_of_cell? _ _ (hHeld.2.2.2.1))).trans (hHeld.2.2.2.1)
     have HS4_ := (hb.cell (World.block_lt_of_cell? _ _ (hHeld.2.2.2.2))).trans (hHeld.2.2.2.2)
     clear hg_ hnew_; (first | rw [← Ny179.out] at ho58 | (simp only [Int.reduceToNat] at ho58; rw [← Ny179.out] at ho58))
     replace HL185_0 := Aside0.mk (Kd.V_below (by (with_reducible repeat (first | apply Kd.V_alloc | apply Kd.V_drewN | apply Kd.V_drew)); exact HL185_0.out) hb)
     replace HR185_0 := Aside0.mk (Kd.C_below (by repeat (first | (with_reducible exact HR185_0.out) | (with_reducible refine Kd.C_alloc ?_ _) | (with_reducible refine Kd.C_drewN ?_ _) | (with_reducible refine Kd.C_drew ?_) | exact HR185_0.out)) hb)
     replace HL186_0 := Aside0.mk (Kd.V_below (by (with_reducible repeat (first | apply Kd.V_alloc | apply Kd.V_drewN | apply Kd.V_drew)); exact HL186_0.out) hb)
     replace HR186_0 := Aside0.mk (Kd.C_below (by repeat (first | (with_reducible exact HR186_0.out) | (with_reducible refine Kd.C_alloc ?_ _) | (with_reducible refine Kd.C_drewN ?_ _) | (with_reducible refine Kd.C_drew ?_) | exact HR186_0.out)) hb)
     have n0_ := Aside0.mk (Kd.N_elder' (mvN HO169.out) (by first | exact Kd.N_base ho58 | exact Kd.S_base ho58 | exact Kd.R_base ho58) hb)
     have n1_ := Aside0.mk (Kd.R_below (mvR HO172.out) hb)
     have n2_ := Aside0.mk (Kd.N_elder' (mvN HO175.out) (by first | exact Kd.N_base ho58 | exact Kd.S_base ho58 | exact Kd.R_base ho58) hb)
     have n3_ := Aside0.mk (Kd.V_elder' (by (with_reducible repeat (first | apply Kd.V_alloc | apply Kd.V_drewN | apply Kd.V_drew)); exact HL176_0.out) (by first | exact Kd.N_base ho58 | exact Kd.S_base ho58 | exact Kd.R_base ho58) hb)
     have n4_ := Aside0.mk (Kd.V_elder' (by (with_reducible repeat (first | apply Kd.V_alloc | apply Kd.V_drewN | apply Kd.V_drew)); exact HL177_0.out) (by first | exact Kd.N_base ho58 | exact Kd.S_base ho58 | exact Kd.R_base ho58) hb)
     have n5_ := Aside0.mk (Kd.V_elder' (by (with_reducible repeat (first | apply Kd.V_alloc | apply Kd.V_drewN | apply Kd.V_drew)); exact HL178_0.out) (by first | exact Kd.N_base ho58 | exact Kd.S_base ho58 | exact Kd.R_base ho58) hb)
     have n6_ := Aside0.mk (Kd.N_lower ho58 (below_size (mvB HB.out)))
     have n7_ := Aside0.mk (Kd.C_below (by repeat (first | (with_reducible exact HR176_0.out) | (with_reducible refine Kd.C_alloc ?_ _) | (with_reducible refine Kd.C_drewN ?_ _) | (with_reducible refine Kd.C_drew ?_) | exact HR176_0.out)) hb)
     have n8_ := Aside0.mk (Kd.C_below (by repeat (first | (with_reducible exact HR177_0.out) | (with_reducible refine Kd.C_alloc ?_ _) | (with_reducible refine Kd.C_drewN ?_ _) | (with_reducible refine Kd.C_drew ?_) | exact HR177_0.out)) hb)
     have n9_ := Aside0.mk (Kd.C_below (by repeat (first | (with_reducible exact HR178_0.out) | (with_reducible refine Kd.C_alloc ?_ _) | (with_reducible refine Kd.C_drewN ?_ _) | (with_reducible refine Kd.C_drew ?_) | exact HR178_0.out)) hb)
     have n10_ := Aside0.mk (below_step (mvB HB.out) hb)
     clear HO169; clear HO172; clear HO175; clear HL176_0; clear HL177_0; clear HL178_0; clear HR176_0; clear HR177_0; clear HR178_0; clear HB; have HO169 := n0_; have HO172 := n1_; have HO175 := n2_; have HL176_0 := n3_; have HL177_0 := n4_; have HL178_0 := n5_; have HO181 := n6_; have HR176_0 := n7_; have HR177_0 := n8_; have HR178_0 := n9_; have HB := n10_; clear n0_ n1_ n2_ n3_ n4_ n5_ n6_ n7_ n8_ n9_ n10_; clear hb ho58; obtain ⟨Ao59, co59, eo59⟩ := Kd.N_slice HO175.out
     (first | subst eo59 | (injection eo59 with f1_ f2_ f3_; have f4_ := f1_.symm; have f5_ := f3_.symm; clear f1_ f2_ f3_; subst f4_; subst f5_))
     obtain ⟨Ao60, co60, eo60⟩ := Kd.N_slice HO181.out
     (first | subst eo60 | (injection eo60 with f1_ f2_ f3_; have f4_ := f1_.symm; have f5_ := f3_.symm; clear f1_ f2_ f3_; subst f4_; subst f5_))
     refine hK.out _ _ ⟨HS0_, HS1_, HS2_, HS3_, HS4_⟩ (fun hHeld => ?_)
     clear hK K; refine norm_ (a' := ?_) ?_ ?_
     rotate_left
     ·show Act.put _ (some 26) _ = _
      simp only [Act.put, List.setIfInBounds_toArray, List.set_cons_zero, List.set_cons_succ, i64_w, i32_w]
      rfl
     refine one_ (i := 11) (N := some 27) #[true, true, true, true, true, true, true, true, true, true, true, true, false, false, false, false, false, false, false, false, false, false, false, false, false, false, false, false, false, false, false, false, false, false, false, false, false, false, false, false] rfl rfl (one_of HT_.out (by kernel_rfl)) (by decide) (fun K hK => ?_)
     refine goes_ Tryd.func14 (by kernel_rfl) rfl #[.slice Ao59 t173.length co59, .slice Ao60 y179.length co60] (by rfl) rfl rfl (by (try simp only [List.map_toArray, List.map_cons, List.map_nil]); first | done | rfl | (simp only [List.length_drop, List.length_take]; rfl)) ?_
     with_reducible refine (hopperref18_Same.calls k _ _ t173 _ _ y179 true _ ?side1 ?side2 ?side3 ?side4 A5.out).mono ?_
     (case side1 => repeat (first | exact (Kd.N_reads' HO175.out).2.2 | (with_reducible refine Kd.C_alloc ?_ _) | (with_reducible refine Kd.C_drewN ?_ _) | (with_reducible refine Kd.C_drew ?_)))
     (case side2 => exact (Kd.N_reads' HO175.out).2.1)
     (case side3 => repeat (first | exact (Kd.N_reads' HO181.out).2.2 | (with_reducible refine Kd.C_alloc ?_ _) | (with_reducible refine Kd.C_drewN ?_ _) | (with_reducible refine Kd.C_drew ?_)))
     (case side4 => exact (Kd.N_reads' HO181.out).2.1)
     rintro e w' ⟨rfl, ⟨nd, rfl⟩⟩
     refine ⟨_, rfl, ?_⟩
     refine hK.out _ _ ⟨hHeld.1, hHeld.2.1, hHeld.2.2.1, hHeld.2.2.2.1, hHeld.2.2.2.2⟩ (fun hHeld => ?_)
     clear hK K; refine norm_ (a' := ?_) ?_ ?_
     rotate_left
     ·show Act.put _ (some 27) _ = _
      simp only [Act.put, List.setIfInBounds_toArray, List.set_cons_zero, List.set_cons_succ, i64_w, i32_w]
      rfl
     refine pure_ (i := 12) (N := some 28) (v := ?_) (a' := ?_) #[true, true, true, true, true, true, true, true, true, true, true, true, true, false, false, false, false, false, false, false, false, false, false, false, false, false, false, false, false, false, false, false, false, false, false, false, false, false, false, false] rfl rfl (any_of HT_.out (by kernel_rfl)) (fun _ _ _ h => h) (Or.inl ⟨by rfl, ?_⟩) ?_ ?_
     rotate_left
     ·intro w'
      go_simp
      with_reducible rfl
     rotate_left
     ·simp only [Act.put, List.setIfInBounds_toArray, List.set_cons_zero, List.set_cons_succ, i64_w, i32_w]
      rfl
     refine pure_ (i := 13) (N := some 29) (v := ?_) (a' := ?_) #[true, true, true, true, true, true, true, true, true, true, true, true, true, true, false, false, false, false, false, false, false, false, false, false, false, false, false, false, false, false, false, false, false, false, false, false, false, false, false, false] rfl rfl (any_of HT_.out (by kernel_rfl)) (fun _ _ _ h => h) (Or.inl ⟨by rfl, ?_⟩) ?_ ?_
     rotate_left
     ·intro w'
      go_simp
      with_reducible rfl
     rotate_left
     ·simp only [Act.put, List.setIfInBounds_toArray, List.set_cons_zero, List.set_cons_succ, i64_w, i32_w]
      rfl
     refine one_ (i := 14) (N := some 30) #[true, true, true, true, true, true, true, true, true, true, true, true, true, true, true, false, false, false, false, false, false, false, false, false, false, false, false, false, false, false, false, false, false, false, false, false, false, false, false, false] rfl rfl (one_of HT_.out (by kernel_rfl)) (by decide) (fun K hK => ?_)
     refine goes_ Tryd.func17 (by kernel_rfl) rfl #[.slice Ao54 y170.length co54, .int .i64 1] (by rfl) rfl rfl (by (try simp only [List.map_toArray, List.map_cons, List.map_nil]); first | done | rfl | (simp only [List.length_drop, List.length_take]; rfl)) ?_
     with_reducible refine (order_Right.calls _ _ y170 1 true _ ?side1 ?side2 A7.out).mono ?_
     (case side1 => repeat (first | exact (Kd.R_reads' HO172.out).2.2 | (with_reducible refine Kd.C_alloc ?_ _) | (with_reducible refine Kd.C_drewN ?_ _) | (with_reducible refine Kd.C_drew ?_)))
     (case side2 => exact (Kd.R_reads' HO172.out).2.1)
     rintro e w61 ⟨rfl, hb⟩
     have HS0_ := (hb.cell (World.block_lt_of_cell? _ _ (hHeld.1))).trans (hHeld.1)
     have HS1_ := (hb.cell (World.block_lt_of_cell? _ _ (hHeld.2.1))).trans (hHeld.2.1)
     have HS2_ := (hb.cell (World.block_lt_of_cell? _ _ (hHeld.2.2.1))).trans (hHeld.2.2.1)
     have HS3_ := (hb.cell (World.block_lt_of_cell? _ _ (hHeld.2.2.2.1))).trans (hHeld.2.2.2.1)
     have HS4_ := (hb.cell (World.block_lt_of_cell? _ _ (hHeld.2.2.2.2))).trans (hHeld.2.2.2.2)
     refine ⟨_, rfl, ?_⟩
     replace HL185_0 := Aside0.mk (Kd.V_below (by (with_reducible repeat (first | apply Kd.V_alloc | apply Kd.V_drewN | apply Kd.V_drew)); exact HL185_0.out) hb)
     replace HR185_0 := Aside0.mk (Kd.C_below (by repeat (first | (with_reducible exact HR185_0.out) | (with_reducible refine Kd.C_alloc ?_ _) | (with_reducible refine Kd.C_drewN ?_ _) | (with_reducible refine Kd.C_drew ?_) | exact HR185_0.out)) hb)
     replace HL186_0 := Aside0.mk (Kd.V_below (by (with_reducible repeat (first | apply Kd.V_alloc | apply Kd.V_drewN | apply Kd.V_drew)); exact HL186_0.out) hb)
     replace HR186_0 := Aside0.mk (Kd.C_below (by repeat (first | (with_reducible exact HR186_0.out) | (with_reducible refine Kd.C_alloc ?_ _) | (with_reducible refine Kd.C_drewN ?_ _) | (with_reducible refine Kd.C_drew ?_) | exact HR186_0.out)) hb)
     have n0_ := Aside0.mk (Kd.N_below (mvN HO169.out) hb)
     have n1_ := Aside0.mk (Kd.R_below (mvR HO172.out) hb)
     have n2_ := Aside0.mk (Kd.N_below (mvN HO175.out) hb)
     have n3_ := Aside0.mk (Kd.V_below (by (with_reducible repeat (first | apply Kd.V_alloc | apply Kd.V_drewN | apply Kd.V_drew)); exact HL176_0.out) hb)
     have n4_ := Aside0.mk (Kd.V_below (by (with_reducible repeat (first | apply Kd.V_alloc | apply Kd.V_drewN | apply Kd.V_drew)); exact HL177_0.out) hb)
     have n5_ := Aside0.mk (Kd.V_below (by (with_reducible repeat (first | apply Kd.V_alloc | apply Kd.V_drewN | apply Kd.V_drew)); exact HL178_0.out) hb)
     have n6_ := Aside0.mk (Kd.N_below (mvN HO181.out) hb)
     have n7_ := Aside0.mk (Kd.C_below (by repeat (first | (with_reducible exact HR176_0.out) | (with_reducible refine Kd.C_alloc ?_ _) | (with_reducible refine Kd.C_drewN ?_ _) | (with_reducible refine Kd.C_drew ?_) | exact HR176_0.out)) hb)
     have n8_ := Aside0.mk (Kd.C_below (by repeat (first | (with_reducible exact HR177_0.out) | (with_reducible refine Kd.C_alloc ?_ _) | (with_reducible refine Kd.C_drewN ?_ _) | (with_reducible refine Kd.C_drew ?_) | exact HR177_0.out)) hb)
     have n9_ := Aside0.mk (Kd.C_below (by repeat (first | (with_reducible exact HR178_0.out) | (with_reducible refine Kd.C_alloc ?_ _) | (with_reducible refine Kd.C_drewN ?_ _) | (with_reducible refine Kd.C_drew ?_) | exact HR178_0.out)) hb)
     have n10_ := Aside0.mk (below_step (mvB HB.out) hb)
     clear HO169; clear HO172; clear HO175; clear HL176_0; clear HL177_0; clear HL178_0; clear HO181; clear HR176_0; clear HR177_0; clear HR178_0; clear HB; have HO169 := n0_; have HO172 := n1_; have HO175 := n2_; have HL176_0 := n3_; have HL177_0 := n4_; have HL178_0 := n5_; have HO181 := n6_; have HR176_0 := n7_; have HR177_0 := n8_; have HR178_0 := n9_; have HB := n10_; clear n0_ n1_ n2_ n3_ n4_ n5_ n6_ n7_ n8_ n9_ n10_; (try clear hb); (try clear hb2); (try clear hk); (try clear hi); refine hK.out _ _ ⟨HS0_, HS1_, HS2_, HS3_, HS4_⟩ (fun hHeld => ?_)
     clear hK K; refine norm_ (a' := ?_) ?_ ?_
     rotate_left
     ·show Act.put _ (some 30) _ = _
      simp only [Act.put, List.setIfInBounds_toArray, List.set_cons_zero, List.set_cons_succ, i64_w, i32_w]
      rfl
     refine pure_ (i := 15) (N := some 31) (v := ?_) (a' := ?_) #[true, true, true, true, true, true, true, true, true, true, true, true, true, true, true, true, false, false, false, false, false, false, false, false, false, false, false, false, false, false, false, false, false, false, false, false, false, false, false, false] rfl rfl (any_of HT_.out (by kernel_rfl)) (fun _ _ _ h => h) (Or.inl ⟨by rfl, ?_⟩) ?_ ?_
     rotate_left
     ·intro w'
      go_simp
      with_reducible rfl
     rotate_left
     ·simp only [Act.put, List.setIfInBounds_toArray, List.set_cons_zero, List.set_cons_succ, i64_w, i32_w]
      rfl
     refine pure_ (i := 16) (N := some 32) (v := ?_) (a' := ?_) #[true, true, true, true, true, true, true, true, true, true, true, true, true, true, true, true, true, false, false, false, false, false, false, false, false, false, false, false, false, false, false, false, false, false, false, false, false, false, false, false] rfl rfl (any_of HT_.out (by kernel_rfl)) (fun _ _ _ h => h) (Or.inl ⟨by rfl, ?_⟩) ?_ ?_
     rotate_left
     ·intro w'
      go_simp
      with_reducible rfl
     rotate_left
     ·simp only [Act.put, List.setIfInBounds_toArray, List.set_cons_zero, List.set_cons_succ, i64_w, i32_w]
      rfl
     refine pure_ (i := 17) (N := some 33) (v := ?_) (a' := ?_) #[true, true, true, true, true, true, true, true, true, true, true, true, true, true, true, true, true, true, false, false, false, false, false, false, false, false, false, false, false, false, false, false, false, false, false, false, false, false, false, false] rfl rfl (any_of HT_.out (by kernel_rfl)) (fun _ _ _ h => h) (Or.inl ⟨by rfl, ?_⟩) ?_ ?_
     rotate_left
     ·intro w'
      go_simp
      with_reducible rfl
     rotate_left
     ·simp only [Act.put, List.setIfInBounds_toArray, List.set_cons_zero, List.set_cons_succ, i64_w, i32_w]
      rfl
     refine one_ (i := 18) (N := some 34) #[true, true, true, true, true, true, true, true, true, true, true, true, true, true, true, true, true, true, true, false, false, false, false, false, false, false, false, false, false, false, false, false, false, false, false, false, false, false, false, false] rfl rfl (one_of HT_.out (by kernel_rfl)) (by decide) (fun K hK => ?_)
     refine goes_ Tryd.func17 (by kernel_rfl) rfl #[.slice Ao54 y170.length co54, .int .i64 0] (by rfl) rfl rfl (by (try simp only [List.map_toArray, List.map_cons, List.map_nil]); first | done | rfl | (simp only [List.length_drop, List.length_take]; rfl)) ?_
     with_reducible refine (order_Right.calls _ _ y170 0 false _ ?side1 ?side2 A9.out).mono ?_
     (case side1 => repeat (first | exact (Kd.R_reads' HO172.out).2.2 | (with_reducible refine Kd.C_alloc ?_ _) | (with_reducible refine Kd.C_drewN ?_ _) | (with_reducible refine Kd.C_drew ?_)))
     (case side2 => exact (Kd.R_reads' HO172.out).2.1)
     rintro e w62 ⟨rfl, hb⟩
     have HS0_ := (hb.cell (World.block_lt_of_cell? _ _ (hHeld.1))).trans (hHeld.1)
     have HS1_ := (hb.cell (World.block_lt_of_cell? _ _ (hHeld.2.1))).trans (hHeld.2.1)
     have HS2_ := (hb.cell (World.block_lt_of_cell? _ _ (hHeld.2.2.1))).trans (hHeld.2.2.1)
     have HS3_ := (hb.cell (World.block_lt_of_cell? _ _ (hHeld.2.2.2.1))).trans (hHeld.2.2.2.1)
     have HS4_ := (hb.cell (World.block_lt_of_cell? _ _ (hHeld.2.2.2.2))).trans (hHeld.2.2.2.2)
     refine ⟨_, rfl, ?_⟩
     replace HL185_0 := Aside0.mk (Kd.V_below (by (with_reducible repeat (first | apply Kd.V_alloc | apply Kd.V_drewN | apply Kd.V_drew)); exact HL185_0.out) hb)
     replace HR185_0 := Aside0.mk (Kd.C_below (by repeat (first | (with_reducible exact HR185_0.out) | (with_reducible refine Kd.C_alloc ?_ _) | (with_reducible refine Kd.C_drewN ?_ _) | (with_reducible refine Kd.C_drew ?_) | exact HR185_0.out)) hb)
     replace HL186_0 := Aside0.mk (Kd.V_below (by (with_reducible repeat (first | apply Kd.V_alloc | apply Kd.V_drewN | apply Kd.V_drew)); exact HL186_0.out) hb)
     replace HR186_0 := Aside0.mk (Kd.C_below (by repeat (first | (with_reducible exact HR186_0.out) | (with_reducible refine Kd.C_alloc ?_ _) | (with_reducible refine Kd.C_drewN ?_ _) | (with_reducible refine Kd.C_drew ?_) | exact HR186_0.out)) hb)
     have n0_ := Aside0.mk (Kd.N_below (mvN HO169.out) hb)
     have n1_ := Aside0.mk (Kd.R_below (mvR HO172.out) hb)
     have n2_ := Aside0.mk (Kd.N_below (mvN HO175.out) hb)
     have n3_ := Aside0.mk (Kd.V_below (by (with_reducible repeat (first | apply Kd.V_alloc | apply Kd.V_drewN | apply Kd.V_drew)); exact HL176_0.out) hb)
     have n4_ := Aside0.mk (Kd.V_below (by (with_reducible repeat (first | apply Kd.V_alloc | apply Kd.V_drewN | apply Kd.V_drew)); exact HL177_0.out) hb)
     have n5_ := Aside0.mk (Kd.V_below (by (with_reducible repeat (first | apply Kd.V_alloc | apply Kd.V_drewN | apply Kd.V_drew)); exact HL178_0.out) hb)
     have n6_ := Aside0.mk (Kd.N_below (mvN HO181.out) hb)
     have n7_ := Aside0.mk (Kd.C_below (by repeat (first | (with_reducible exact HR176_0.out) | (with_reducible refine Kd.C_alloc ?_ _) | (with_reducible refine Kd.C_drewN ?_ _) | (with_reducible refine Kd.C_drew ?_) | exact HR176_0.out)) hb)
     have n8_ := Aside0.mk (Kd.C_below (by repeat (first | (with_reducible exact HR177_0.out) | (with_reducible refine Kd.C_alloc ?_ _) | (with_reducible refine Kd.C_drewN ?_ _) | (with_reducible refine Kd.C_drew ?_) | exact HR177_0.out)) hb)
     have n9_ := Aside0.mk (Kd.C_below (by repeat (first | (with_reducible exact HR178_0.out) | (with_reducible refine Kd.C_alloc ?_ _) | (with_reducible refine Kd.C_drewN ?_ _) | (with_reducible refine Kd.C_drew ?_) | exact HR178_0.out)) hb)
     have n10_ := Aside0.mk (below_step (mvB HB.out) hb)
     clear HO169; clear HO172; clear HO175; clear HL176_0; clear HL177_0; clear HL178_0; clear HO181; clear HR176_0; clear HR177_0; clear HR178_0; clear HB; have HO169 := n0_; have HO172 := n1_; have HO175 := n2_; have HL176_0 := n3_; have HL177_0 := n4_; have HL178_0 := n5_; have HO181 := n6_; have HR176_0 := n7_; have HR177_0 := n8_; have HR178_0 := n9_; have HB := n10_; clear n0_ n1_ n2_ n3_ n4_ n5_ n6_ n7_ n8_ n9_ n10_; (try clear hb); (try clear hb2); (try clear hk); (try clear hi); refine hK.out _ _ ⟨HS0_, HS1_, HS2_, HS3_, HS4_⟩ (fun hHeld => ?_)
     clear hK K; refine norm_ (a' := ?_) ?_ ?_
     rotate_left
     ·show Act.put _ (some 34) _ = _
      simp only [Act.put, List.setIfInBounds_toArray, List.set_cons_zero, List.set_cons_succ, i64_w, i32_w]
      rfl
     refine pure_ (i := 19) (N := some 35) (v := ?_) (a' := ?_) #[true, true, true, true, true, true, true, true, true, true, true, true, true, true, true, true, true, true, true, true, false, false, false, false, false, false, false, false, false, false, false, false, false, false, false, false, false, false, false, false] rfl rfl (any_of HT_.out (by kernel_rfl)) (fun _ _ _ h => h) (Or.inl ⟨by rfl, ?_⟩) ?_ ?_
     rotate_left
     ·intro w'
      go_simp
      with_reducible rfl
     rotate_left
     ·simp only [Act.put, List.setIfInBounds_toArray, List.set_cons_zero, List.set_cons_succ, i64_w, i32_w]
      rfl
     refine pure_ (i := 20) (N := some 36) (v := ?_) (a' := ?_) #[true, true, true, true, true, true, true, true, true, true, true, true, true, true, true, true, true, true, true, true, true, false, false, false, false, false, false, false, false, false, false, false, false, false, false, false, false, false, false, false] rfl rfl (any_of HT_.out (by kernel_rfl)) (fun _ _ _ h => h) (Or.inl ⟨by rfl, ?_⟩) ?_ ?_
     rotate_left
     ·intro w'
      go_simp
      with_reducible rfl
     rotate_left
     ·simp only [Act.put, List.setIfInBounds_toArray, List.set_cons_zero, List.set_cons_succ, i64_w, i32_w]
      rfl
     refine pure_ (i := 21) (N := some 37) (v := ?_) (a' := ?_) #[true, true, true, true, true, true, true, true, true, true, true, true, true, true, true, true, true, true, true, true, true, true, false, false, false, false, false, false, false, false, false, false, false, false, false, false, false, false, false, false] rfl rfl (any_of HT_.out (by kernel_rfl)) (fun _ _ _ h => h) (Or.inl ⟨by rfl, ?_⟩) ?_ ?_
     rotate_left
     ·intro w'
      go_simp
      with_reducible rfl
     rotate_left
     ·simp only [Act.put, List.setIfInBounds_toArray, List.set_cons_zero, List.set_cons_succ, i64_w, i32_w]
      rfl
     refine pure_ (i := 22) (N := some 38) (v := ?_) (a' := ?_) #[true, true, true, true, true, true, true, true, true, true, true, true, true, true, true, true, true, true, true, true, true, true, true, false, false, false, false, false, false, false, false, false, false, false, false, false, false, false, false, false] rfl rfl (any_of HT_.out (by kernel_rfl)) (fun _ _ _ h => h) (Or.inl ⟨by rfl, ?_⟩) ?_ ?_
     rotate_left
     ·intro w'
      go_simp
      with_reducible rfl
     rotate_left
     ·simp only [Act.put, List.setIfInBounds_toArray, List.set_cons_zero, List.set_cons_succ, i64_w, i32_w]
      rfl
     refine pure_ (i := 23) (N := some 39) (v := ?_) (a' := ?_) #[true, true, true, true, true, true, true, true, true, true, true, true, true, true, true, true, true, true, true, true, true, true, true, true, false, false, false, false, false, false, false, false, false, false, false, false, false, false, false, false] rfl rfl (any_of HT_.out (by kernel_rfl)) (fun _ _ _ h => h) (Or.inl ⟨by rfl, ?_⟩) ?_ ?_
     rotate_left
     ·intro w'
      go_simp
      with_reducible rfl
     rotate_left
     ·simp only [Act.put, List.setIfInBounds_toArray, List.set_cons_zero, List.set_cons_succ, i64_w, i32_w]
      rfl
     refine pure_ (i := 25) (N := some 41) (v := ?_) (a' := ?_) #[true, true, true, true, true, true, true, true, true, true, true, true, true, true, true, true, true, true, true, true, true, true, true, true, false, true, false, false, false, false, false, false, false, false, false, false, false, false, false, false] rfl rfl (any_of HT_.out (by kernel_rfl)) (fun _ _ _ h => h) (Or.inl ⟨by rfl, ?_⟩) ?_ ?_
     rotate_left
     ·intro w'
      go_simp
      with_reducible rfl
     rotate_left
     ·simp only [Act.put, List.setIfInBounds_toArray, List.set_cons_zero, List.set_cons_succ, i64_w, i32_w]
      rfl
     refine pure_ (i := 26) (N := some 42) (v := ?_) (a' := ?_) #[true, true, true, true, true, true, true, true, true, true, true, true, true, true, true, true, true, true, true, true, true, true, true, true, false, true, true, false, false, false, false, false, false, false, false, false, false, false, false, false] rfl rfl (any_of HT_.out (by kernel_rfl)) (fun _ _ _ h => h) (Or.inl ⟨by rfl, ?_⟩) ?_ ?_
     rotate_left
     ·intro w'
      go_simp
      with_reducible rfl
     rotate_left
     ·simp only [Act.put, List.setIfInBounds_toArray, List.set_cons_zero, List.set_cons_succ, i64_w, i32_w]
      rfl
     refine pure_ (i := 28) (N := some 44) (v := ?_) (a' := ?_) #[true, true, true, true, true, true, true, true, true, true, true, true, true, true, true, true, true, true, true, true, true, true, true, true, false, true, true, false, true, false, false, false, false, false, false, false, false, false, false, false] rfl rfl (any_of HT_.out (by kernel_rfl)) (fun _ _ _ h => h) (Or.inl ⟨by rfl, ?_⟩) ?_ ?_
     rotate_left
     ·intro w'
      go_simp
      with_reducible rfl
     rotate_left
     ·simp only [Act.put, List.setIfInBounds_toArray, List.set_cons_zero, List.set_cons_succ, i64_w, i32_w]
      rfl
     refine take_ (i := 24) (N := some 40) (v := ?_) (a' := ?_) #[true, true, true, true, true, true, true, true, true, true, true, true, true, true, true, true, true, true, true, true, true, true, true, true, true, true, true, false, true, false, false, false, false, false, false, false, false, false, false, false] rfl rfl (take_ofW HT_.out HW_.out (by kernel_rfl)) (fun _ _ _ h => h) (Or.inl ⟨by rfl, ?_⟩) hHeld ?_ ?_
     rotate_left
     ·rintro w' ⟨s0, s1, s2, s3, s4⟩
      go_simp
      with_reducible rfl
     rotate_left
     ·simp only [Act.put, List.setIfInBounds_toArray, List.set_cons_zero, List.set_cons_succ, i64_w, i32_w]
      rfl
     refine take_ (i := 27) (N := some 43) (v := ?_) (a' := ?_) #[true, true, true, true, true, true, true, true, true, true, true, true, true, true, true, true, true, true, true, true, true, true, true, true, true, true, true, true, true, false, false, false, false, false, false, false, false, false, false, false] rfl rfl (take_ofW HT_.out HW_.out (by kernel_rfl)) (fun _ _ _ h => h) (Or.inl ⟨by rfl, ?_⟩) hHeld ?_ ?_
     rotate_left
     ·rintro w' ⟨s0, s1, s2, s3, s4⟩
      go_simp
      with_reducible rfl
     rotate_left
     ·simp only [Act.put, List.setIfInBounds_toArray, List.set_cons_zero, List.set_cons_succ, i64_w, i32_w]
      rfl
     refine one_ (i := 29) (N := some 45) #[true, true, true, true, true, true, true, true, true, true, true, true, true, true, true, true, true, true, true, true, true, true, true, true, true, true, true, true, true, true, false, false, false, false, false, false, false, false, false, false] rfl rfl (one_of HT_.out (by kernel_rfl)) (by decide) (fun K hK => ?_)
     refine goes_ Tryd.func12 (by kernel_rfl) rfl #[.slice A185_0 (rd_L6 y167 0).length c185_0, .slice A186_0 (rd_L6 y167 2).length c186_0, .slice Ao54 y170.length co54] (by rfl) rfl rfl (by (try simp only [List.map_toArray, List.map_cons, List.map_nil]); first | done | rfl | (rw [EQ185_0.out.1, EQ185_0.out.2, EQ186_0.out.1, EQ186_0.out.2]; rfl) | (simp only [List.length_drop, List.length_take]; rfl)) ?_
     with_reducible refine (order_Compare.calls k _ _ (rd_L6 y167 0) _ _ (rd_L6 y167 2) _ _ y170 t187 _ ?side1 ?side2 ?side3 ?side4 ?side5 ?side6 ?side7 A34.out).mono ?_
     (case side1 => repeat (first | exact (by repeat (first | (with_reducible exact HR185_0.out) | (with_reducible refine Kd.C_alloc ?_ _) | (with_reducible refine Kd.C_drewN ?_ _) | (with_reducible refine Kd.C_drew ?_) | exact HR185_0.out)) | (with_reducible refine Kd.C_alloc ?_ _) | (with_reducible refine Kd.C_drewN ?_ _) | (with_reducible refine Kd.C_drew ?_)))
     (case side2 => exact HC185_0.out)
     (case side3 => repeat (first | exact (by repeat (first | (with_reducible exact HR186_0.out) | (with_reducible refine Kd.C_alloc ?_ _) | (with_reducible refine Kd.C_drewN ?_ _) | (with_reducible refine Kd.C_drew ?_) | exact HR186_0.out)) | (with_reducible refine Kd.C_alloc ?_ _) | (with_reducible refine Kd.C_drewN ?_ _) | (with_reducible refine Kd.C_drew ?_)))
     (case side4 => exact HC186_0.out)
     (case side5 => repeat (first | exact (Kd.R_reads' HO172.out).2.2 | (with_reducible refine Kd.C_alloc ?_ _) | (with_reducible refine Kd.C_drewN ?_ _) | (with_reducible refine Kd.C_drew ?_)))
     (case side6 => exact (Kd.R_reads' HO172.out).2.1)
     (case side7 => first | exact HT.out | exact Facts.below HT.out (mvB HB.out) | exact Facts.below HT.out HB.out | (repeat (first | exact HT.out | refine Facts.drewN ?_ _ | refine Facts.drew ?_ | refine Facts.alloc ?_ _)))
     rintro e w63 ⟨rfl, hb⟩
     have HS0_ := (hb.cell (World.block_lt_of_cell? _ _ (hHeld.1))).trans (hHeld.1)
     have HS1_ := (hb.cell (World.block_lt_of_cell? _ _ (hHeld.2.1))).trans (hHeld.2.1)
     have HS2_ := (hb.cell (World.block_lt_of_cell? _ _ (hHeld.2.2.1))).trans (hHeld.2.2.1)
     have HS3_ := (hb.cell (World.block_lt_of_cell? _ _ (hHeld.2.2.2.1))).trans (hHeld.2.2.2.1)
     have HS4_ := (hb.cell (World.block_lt_of_cell? _ _ (hHeld.2.2.2.2))).trans (hHeld.2.2.2.2)
     refine ⟨_, rfl, ?_⟩
     have n0_ := Aside0.mk (Kd.N_below (mvN HO169.out) hb)
     have n1_ := Aside0.mk (Kd.R_below (mvR HO172.out) hb)
     have n2_ := Aside0.mk (Kd.N_below (mvN HO175.out) hb)
     have n3_ := Aside0.mk (Kd.V_below (by (with_reducible repeat (first | apply Kd.V_alloc | apply Kd.V_drewN | apply Kd.V_drew)); exact HL176_0.out) hb)
     have n4_ := Aside0.mk (Kd.V_below (by (with_reducible repeat (first | apply Kd.V_alloc | apply Kd.V_drewN | apply Kd.V_drew)); exact HL177_0.out) hb)
     have n5_ := Aside0.mk (Kd.V_below (by (with_reducible repeat (first | apply Kd.V_alloc | apply Kd.V_drewN | apply Kd.V_drew)); exact HL178_0.out) hb)
     have n6_ := Aside0.mk (Kd.N_below (mvN HO181.out) hb)
     have n7_ := Aside0.mk (Kd.V_below (by (with_reducible repeat (first | apply Kd.V_alloc | apply Kd.V_drewN | apply Kd.V_drew)); exact HL185_0.out) hb)
     have n8_ := Aside0.mk (Kd.V_below (by (with_reducible repeat (first | apply Kd.V_alloc | apply Kd.V_drewN | apply Kd.V_drew)); exact HL186_0.out) hb)
     have n9_ := Aside0.mk (Kd.C_below (by repeat (first | (with_reducible exact HR176_0.out) | (with_reducible refine Kd.C_alloc ?_ _) | (with_reducible refine Kd.C_drewN ?_ _) | (with_reducible refine Kd.C_drew ?_) | exact HR176_0.out)) hb)
     have n10_ := Aside0.mk (Kd.C_below (by repeat (first | (with_reducible exact HR177_0.out) | (with_reducible refine Kd.C_alloc ?_ _) | (with_reducible refine Kd.C_drewN ?_ _) | (with_reducible refine Kd.C_drew ?_) | exact HR177_0.out)) hb)
     have n11_ := Aside0.mk (Kd.C_below (by repeat (first | (with_reducible exact HR178_0.out) | (with_reducible refine Kd.C_alloc ?_ _) | (with_reducible refine Kd.C_drewN ?_ _) | (with_reducible refine Kd.C_drew ?_) | exact HR178_0.out)) hb)
     have n12_ := Aside0.mk (Kd.C_below (by repeat (first | (with_reducible exact HR185_0.out) | (with_reducible refine Kd.C_alloc ?_ _) | (with_reducible refine Kd.C_drewN ?_ _) | (with_reducible refine Kd.C_drew ?_) | exact HR185_0.out)) hb)
     have n13_ := Aside0.mk (Kd.C_below (by repeat (first | (with_reducible exact HR186_0.out) | (with_reducible refine Kd.C_alloc ?_ _) | (with_reducible refine Kd.C_drewN ?_ _) | (with_reducible refine Kd.C_drew ?_) | exact HR186_0.out)) hb)
     have n14_ := Aside0.mk (below_step (mvB HB.out) hb)
     clear HO169; clear HO172; clear HO175; clear HL176_0; clear HL177_0; clear HL178_0; clear HO181; clear HL185_0; clear HL186_0; clear HR176_0; clear HR177_0; clear HR178_0; clear HR185_0; clear HR186_0; clear HB; have HO169 := n0_; have HO172 := n1_; have HO175 := n2_; have HL176_0 := n3_; have HL177_0 := n4_; have HL178_0 := n5_; have HO181 := n6_; have HL185_0 := n7_; have HL186_0 := n8_; have HR176_0 := n9_; have HR177_0 := n10_; have HR178_0 := n11_; have HR185_0 := n12_; have HR186_0 := n13_; have HB := n14_; clear n0_ n1_ n2_ n3_ n4_ n5_ n6_ n7_ n8_ n9_ n10_ n11_ n12_ n13_ n14_; (try clear hb); (try clear hb2); (try clear hk); (try clear hi); refine hK.out _ _ ⟨HS0_, HS1_, HS2_, HS3_, HS4_⟩ (fun hHeld => ?_)
     clear hK K; refine norm_ (a' := ?_) ?_ ?_
     rotate_left
     ·show Act.put _ (some 45) _ = _
      simp only [Act.put, List.setIfInBounds_toArray, List.set_cons_zero, List.set_cons_succ, i64_w, i32_w]
      rfl
     refine pure_ (i := 30) (N := some 46) (v := ?_) (a' := ?_) #[true, true, true, true, true, true, true, true, true, true, true, true, true, true, true, true, true, true, true, true, true, true, true, true, true, true, true, true, true, true, true, false, false, false, false, false, false, false, false, false] rfl rfl (any_of HT_.out (by kernel_rfl)) (fun _ _ _ h => h) (Or.inl ⟨by rfl, ?_⟩) ?_ ?_
     rotate_left
     ·intro w'
      go_simp
      with_reducible rfl
     rotate_left
     ·simp only [Act.put, List.setIfInBounds_toArray, List.set_cons_zero, List.set_cons_succ, i64_w, i32_w]
      rfl
     refine pure_ (i := 31) (N := some 47) (v := ?_) (a' := ?_) #[true, true, true, true, true, true, true, true, true, true, true, true, true, true, true, true, true, true, true, true, true, true, true, true, true, true, true, true, true, true, true, true, false, false, false, false, false, false, false, false] rfl rfl (any_of HT_.out (by kernel_rfl)) (fun _ _ _ h => h) (Or.inl ⟨by rfl, ?_⟩) ?_ ?_
     rotate_left
     ·intro w'
      go_simp
      with_reducible rfl
     rotate_left
     ·simp only [Act.put, List.setIfInBounds_toArray, List.set_cons_zero, List.set_cons_succ, i64_w, i32_w]
      rfl
     refine pure_ (i := 32) (N := some 48) (v := ?_) (a' := ?_) #[true, true, true, true, true, true, true, true, true, true, true, true, true, true, true, true, true, true, true, true, true, true, true, true, true, true, true, true, true, true, true, true, true, false, false, false, false, false, false, false] rfl rfl (any_of HT_.out (by kernel_rfl)) (fun _ _ _ h => h) (Or.inl ⟨by rfl, ?_⟩) ?_ ?_
     rotate_left
     ·intro w'
      go_simp
      with_reducible rfl
     rotate_left
     ·simp only [Act.put, List.setIfInBounds_toArray, List.set_cons_zero, List.set_cons_succ, i64_w, i32_w]
      rfl
     refine pure_ (i := 33) (N := some 49) (v := ?_) (a' := ?_) #[true, true, true, true, true, true, true, true, true, true, true, true, true, true, true, true, true, true, true, true, true, true, true, true, true, true, true, true, true, true, true, true, true, true, false, false, false, false, false, false] rfl rfl (any_of HT_.out (by kernel_rfl)) (fun _ _ _ h => h) (Or.inl ⟨by rfl, ?_⟩) ?_ ?_
     rotate_left
     ·intro w'
      go_simp
      with_reducible rfl
     rotate_left
     ·simp only [Act.put, List.setIfInBounds_toArray, List.set_cons_zero, List.set_cons_succ, i64_w, i32_w]
      rfl
     refine pure_ (i := 35) (N := some 51) (v := ?_) (a' := ?_) #[true, true, true, true, true, true, true, true, true, true, true, true, true, true, true, true, true, true, true, true, true, true, true, true, true, true, true, true, true, true, true, true, true, true, false, true, false, false, false, false] rfl rfl (any_of HT_.out (by kernel_rfl)) (fun _ _ _ h => h) (Or.inl ⟨by rfl, ?_⟩) ?_ ?_
     rotate_left
     ·intro w'
      go_simp
      with_reducible rfl
     rotate_left
     ·simp only [Act.put, List.setIfInBounds_toArray, List.set_cons_zero, List.set_cons_succ, i64_w, i32_w]
      rfl
     have hcapz_ : (2 : Int) ≤ (co53 : Int) := by have h1_ := (Kd.N_reads' HO169.out).2.1; have h2_ := of_eq_true c38b0; omega
     have hcap_ := eq_true hcapz_; have hcapd_ := decide_eq_true hcapz_; refine pure_ (i := 36) (N := some 52) (v := ?_) (a' := ?_) #[true, true, true, true, true, true, true, true, true, true, true, true, true, true, true, true, true, true, true, true, true, true, true, true, true, true, true, true, true, true, true, true, true, true, false, true, true, false, false, false] rfl rfl (any_of HT_.out (by kernel_rfl)) (fun _ _ _ h => h) (Or.inl ⟨by rfl, ?_⟩) ?_ ?_
     rotate_left
     ·intro w'
      go_simp
      with_reducible rfl
     rotate_left
     ·simp only [Act.put, List.setIfInBounds_toArray, List.set_cons_zero, List.set_cons_succ, i64_w, i32_w]
      rfl
     refine one_ (i := 34) (N := some 50) #[true, true, true, true, true, true, true, true, true, true, true, true, true, true, true, true, true, true, true, true, true, true, true, true, true, true, true, true, true, true, true, true, true, true, true, true, true, false, false, false] rfl rfl (one_of HT_.out (by kernel_rfl)) (by decide) (fun K hK => ?_)
     refine goes_ Tryd.func18 (by kernel_rfl) rfl #[.slice (some ad176) y167.length co53, .int .i64 1, .int .i64 1] (by rfl) rfl rfl (by (try simp only [List.map_toArray, List.map_cons, List.map_nil]); first | done | rfl | (simp only [List.length_drop, List.length_take]; rfl)) ?_
     with_reducible refine (order_Cut.calls k _ _ y167 1 1 t188 _ ?side1 ?side2 A36.out).mono ?_
     (case side1 => repeat (first | exact (Kd.N_reads' HO169.out).2.2 | (with_reducible refine Kd.C_alloc ?_ _) | (with_reducible refine Kd.C_drewN ?_ _) | (with_reducible refine Kd.C_drew ?_)))
     (case side2 => exact (Kd.N_reads' HO169.out).2.1)
     rintro e w64 ⟨v189, rfl, ho0, hb⟩
     have HS0_ := (hb.cell (World.block_lt_of_cell? _ _ (hHeld.1))).trans (hHeld.1)
     have HS1_ := (hb.cell (World.block_lt_of_cell? _ _ (hHeld.2.1))).trans (hHeld.2.1)
     have HS2_ := (hb.cell (World.block_lt_of_cell? _ _ (hHeld.2.2.1))).trans (hHeld.2.2.1)
     have HS3_ := (hb.cell (World.block_lt_of_cell? _ _ (hHeld.2.2.2.1))).trans (hHeld.2.2.2.1)
     have HS4_ := (hb.cell (World.block_lt_of_cell? _ _ (hHeld.2.2.2.2))).trans (hHeld.2.2.2.2)
     refine ⟨_, rfl, ?_⟩
     have n0_ := Aside0.mk (Kd.N_elder' (mvN HO169.out) (by first | exact Kd.N_base ho0 | exact Kd.S_base ho0 | exact Kd.R_base ho0) hb)
     have n1_ := Aside0.mk (Kd.R_below (mvR HO172.out) hb)
     have n2_ := Aside0.mk (Kd.N_elder' (mvN HO175.out) (by first | exact Kd.N_base ho0 | exact Kd.S_base ho0 | exact Kd.R_base ho0) hb)
     have n3_ := Aside0.mk (Kd.V_elder' (by (with_reducible repeat (first | apply Kd.V_alloc | apply Kd.V_drewN | apply Kd.V_drew)); exact HL176_0.out) (by first | exact Kd.N_base ho0 | exact Kd.S_base ho0 | exact Kd.R_base ho0) hb)
     have n4_ := Aside0.mk (Kd.V_elder' (by (with_reducible repeat (first | apply Kd.V_alloc | apply Kd.V_drewN | apply Kd.V_drew)); exact HL177_0.out) (by first | exact Kd.N_base ho0 | exact Kd.S_base ho0 | exact Kd.R_base ho0) hb)
     have n5_ := Aside0.mk (Kd.V_elder' (by (with_reducible repeat (first | apply Kd.V_alloc | apply Kd.V_drewN | apply Kd.V_drew)); exact HL178_0.out) (by first | exact Kd.N_base ho0 | exact Kd.S_base ho0 | exact Kd.R_base ho0) hb)
     have n6_ := Aside0.mk (Kd.N_elder' (mvN HO181.out) (by first | exact Kd.N_base ho0 | exact Kd.S_base ho0 | exact Kd.R_base ho0) hb)
     have n7_ := Aside0.mk (Kd.V_elder' (by (with_reducible repeat (first | apply Kd.V_alloc | apply Kd.V_drewN | apply Kd.V_drew)); exact HL185_0.out) (by first | exact Kd.N_base ho0 | exact Kd.S_base ho0 | exact Kd.R_base ho0) hb)
     have n8_ := Aside0.mk (Kd.V_elder' (by (with_reducible repeat (first | apply Kd.V_alloc | apply Kd.V_drewN | apply Kd.V_drew)); exact HL186_0.out) (by first | exact Kd.N_base ho0 | exact Kd.S_base ho0 | exact Kd.R_base ho0) hb)
     have n9_ := Aside0.mk (Kd.N_lower (Kd.N_mono (ok' := fun k_ => some k_ ≠ (.slice (some ad176) y167.length co53 : Value).ownBlock ∧ some k_ ≠ (.slice Ao54 y170.length co54 : Value).ownBlock ∧ some k_ ≠ (.slice Ao59 t173.length co59 : Value).ownBlock ∧ some k_ ≠ (.slice Ao60 y179.length co60 : Value).ownBlock) (Kd.S_N (Kd.S_bound ho0)) (fun k_ hk_ => ⟨(Kd.fresh' (Kd.N_lt (mvN HO169.out)) k_ hk_.2.1), (Kd.fresh' (Kd.R_lt (mvR HO172.out)) k_ hk_.2.1), (Kd.fresh' (Kd.N_lt (mvN HO175.out)) k_ hk_.2.1), (Kd.fresh' (Kd.N_lt (mvN HO181.out)) k_ hk_.2.1)⟩)) (below_size (mvB HB.out)))
     have n10_ := Aside0.mk (Kd.C_below (by repeat (first | (with_reducible exact HR176_0.out) | (with_reducible refine Kd.C_alloc ?_ _) | (with_reducible refine Kd.C_drewN ?_ _) | (with_reducible refine Kd.C_drew ?_) | exact HR176_0.out)) hb)
     have n11_ := Aside0.mk (Kd.C_below (by repeat (first | (with_reducible exact HR177_0.out) | (with_reducible refine Kd.C_alloc ?_ _) | (with_reducible refine Kd.C_drewN ?_ _) | (with_reducible refine Kd.C_drew ?_) | exact HR177_0.out)) hb)
     have n12_ := Aside0.mk (Kd.C_below (by repeat (first | (with_reducible exact HR178_0.out) | (with_reducible refine Kd.C_alloc ?_ _) | (with_reducible refine Kd.C_drewN ?_ _) | (with_reducible refine Kd.C_drew ?_) | exact HR178_0.out)) hb)
     have n13_ := Aside0.mk (Kd.C_below (by repeat (first | (with_reducible exact HR185_0.out) | (with_reducible refine Kd.C_alloc ?_ _) | (with_reducible refine Kd.C_drewN ?_ _) | (with_reducible refine Kd.C_drew ?_) | exact HR185_0.out)) hb)
     have n14_ := Aside0.mk (Kd.C_below (by repeat (first | (with_reducible exact HR186_0.out) | (with_reducible refine Kd.C_alloc ?_ _) | (with_reducible refine Kd.C_drewN ?_ _) | (with_reducible refine Kd.C_drew ?_) | exact HR186_0.out)) hb)
     have n15_ := Aside0.mk (below_step (mvB HB.out) hb)
     clear HO169; clear HO172; clear HO175; clear HL176_0; clear HL177_0; clear HL178_0; clear HO181; clear HL185_0; clear HL186_0; clear HR176_0; clear HR177_0; clear HR178_0; clear HR185_0; clear HR186_0; clear HB; have HO169 := n0_; have HO172 := n1_; have HO175 := n2_; have HL176_0 := n3_; have HL177_0 := n4_; have HL178_0 := n5_; have HO181 := n6_; have HL185_0 := n7_; have HL186_0 := n8_; have HO190 := n9_; have HR176_0 := n10_; have HR177_0 := n11_; have HR178_0 := n12_; have HR185_0 := n13_; have HR186_0 := n14_; have HB := n15_; clear n0_ n1_ n2_ n3_ n4_ n5_ n6_ n7_ n8_ n9_ n10_ n11_ n12_ n13_ n14_ n15_; (try clear hb); (try clear hb2); (try clear hk); (try clear hi); (try clear ho0); have q65 : (2 : Int) ≤ ((y167.length : Int) : Int) := dtA; obtain ⟨i065, hi065, _, hsz65, _⟩ := info_parts info28
     have hroom65 : y167.length ≤ co53 := (Kd.N_reads' HO169.out).2.1
     have hC65 : Kd.F (Kd.slice 36 k36) _ _ (some ad176) y167.length y167 := (Kd.V_at (base := w.heap.size) (Kd.N_V HO169.out)).2.2
     have ql65 : (1 : Int) ≤ (2 : Int) := (by omega)
     have hcut65 := cut_mid (P := Tryd.prog) 22 28 .i64 .i64 Tryd.underlying22 hi065 1 hsz65 (some ad176) y167.length co53 1 2 (by omega) ql65 q65 hroom65
     have hr65 := Kd.F_mid (lo := (1 : Int).toNat) (hi := (2 : Int).toNat) (c := co53) hC65 (by omega) (by omega) hroom65
     obtain ⟨A65, hA65⟩ : ∃ A1, A1 = (if co53 = (1 : Int).toNat then (some ad176) else ((some ad176) : Option Addr).map (·.add ((1 : Int).toNat * 1))) := ⟨_, rfl⟩
     obtain ⟨c65, hc65⟩ : ∃ c1, c1 = co53 - (1 : Int).toNat := ⟨_, rfl⟩
     have hy65 : y191.length = (2 : Int).toNat - (1 : Int).toNat := (by rw [Ny191.out, List.length_drop, List.length_take] <;> omega)
     rw [show ((y167).take (2 : Int).toNat).drop (1 : Int).toNat = y191 from Ny191.out.symm] at hr65
     replace hr65 : Kd.F (Kd.slice 36 k36) _ _ A65 y191.length y191 := (by rw [hA65]; exact hr65)
     rw [← hy65, ← hA65, ← hc65] at hcut65
     have HO195 := Aside0.mk (show Kd.V (Kd.slice 36 k36) 28 _ w.heap.size _ (.slice A65 y191.length c65) y191 from Kd.V_mk (by rw [hy65, hc65]; exact Nat.sub_le_sub_right (Nat.le_trans (by omega) hroom65) _) hr65)
     have HC195 := Aside0.mk (show y191.length ≤ c65 from by rw [hy65, hc65]; exact Nat.sub_le_sub_right (Nat.le_trans (by omega) hroom65) _)
     have KC65 := Aside0.mk hc65; clear hr65 hC65 hroom65 hi065 hsz65 hc65; have KY65 := Aside0.mk hy65; have KA65 := Aside0.mk hA65; clear hy65 hA65; replace q65 := eq_true q65; obtain ⟨Ao66, co66, eo66⟩ := Kd.N_slice HO190.out
     (first | subst eo66 | (injection eo66 with f1_ f2_ f3_; have f4_ := f1_.symm; have f5_ := f3_.symm; clear f1_ f2_ f3_; subst f4_; subst f5_))
     refine hK.out _ _ ⟨HS0_, HS1_, HS2_, HS3_, HS4_⟩ (fun hHeld => ?_)
     clear hK K; refine norm_ (a' := ?_) ?_ ?_
     rotate_left
     ·show Act.put _ (some 50) _ = _
      simp only [Act.put, List.setIfInBounds_toArray, List.set_cons_zero, List.set_cons_succ, i64_w, i32_w]
      rfl
     refine one_ (i := 37) (N := some 53) #[true, true, true, true, true, true, true, true, true, true, true, true, true, true, true, true, true, true, true, true, true, true, true, true, true, true, true, true, true, true, true, true, true, true, true, true, true, true, false, false] rfl rfl (one_of HT_.out (by kernel_rfl)) (by decide) (fun K hK => ?_)
     refine goes_ Tryd.func14 (by kernel_rfl) rfl #[.slice Ao66 t188.length co66, .slice A65 y191.length c65] (by rfl) rfl rfl (by (try simp only [List.map_toArray, List.map_cons, List.map_nil]); first | done | rfl | (have hz_ : ¬ (co53 = 1) := (by have h1_ := (Kd.N_reads' HO169.out).2.1; have h2_ := of_eq_true c38b0; omega); rw [KA65.out, KC65.out, KY65.out, if_neg (show ¬ co53 = (1 : Int).toNat from hz_)]; first | rfl | (simp [Act.eval, hz_, Addr.add]; done) | (simp [Act.eval, hz_, Addr.add, hcapz_]; done) | (congr 2 <;> first | rfl | omega | (simp [hz_, Addr.add]; done)) | (show_term skip; simp [Act.eval]; trace_state; simp_all [Addr.add])) | (simp only [List.length_drop, List.length_take]; rfl)) ?_
     with_reducible refine (hopperref18_Same.calls k _ _ t188 _ _ y191 t196 _ ?side1 ?side2 ?side3 ?side4 A39.out).mono ?_
     (case side1 => repeat (first | exact (Kd.N_reads' HO190.out).2.2 | (with_reducible refine Kd.C_alloc ?_ _) | (with_reducible refine Kd.C_drewN ?_ _) | (with_reducible refine Kd.C_drew ?_)))
     (case side2 => exact (Kd.N_reads' HO190.out).2.1)
     (case side3 => repeat (first | exact (Kd.V_reads' HO195.out).2.2 | (with_reducible refine Kd.C_alloc ?_ _) | (with_reducible refine Kd.C_drewN ?_ _) | (with_reducible refine Kd.C_drew ?_)))
     (case side4 => exact (Kd.V_reads' HO195.out).2.1)
     rintro e w' ⟨rfl, ⟨nd, rfl⟩⟩
     refine ⟨_, rfl, ?_⟩
     refine hK.out _ _ ⟨hHeld.1, hHeld.2.1, hHeld.2.2.1, hHeld.2.2.2.1, hHeld.2.2.2.2⟩ (fun hHeld => ?_)
     clear hK K; refine norm_ (a' := ?_) ?_ ?_
     rotate_left
     ·show Act.put _ (some 53) _ = _
      simp only [Act.put, List.setIfInBounds_toArray, List.set_cons_zero, List.set_cons_succ, i64_w, i32_w]
      rfl
     refine pure_ (i := 38) (N := some 54) (v := ?_) (a' := ?_) #[true, true, true, true, true, true, true, true, true, true, true, true, true, true, true, true, true, true, true, true, true, true, true, true, true, true, true, true, true, true, true, true, true, true, true, true, true, true, true, false] rfl rfl (any_of HT_.out (by kernel_rfl)) (fun _ _ _ h => h) (Or.inl ⟨by rfl, ?_⟩) ?_ ?_
     rotate_left
     ·intro w'
      go_simp
      with_reducible rfl
     rotate_left
     ·simp only [Act.put, List.setIfInBounds_toArray, List.set_cons_zero, List.set_cons_succ, i64_w, i32_w]
      rfl
     refine pure_ (i := 39) (N := some 0) (v := ?_) (a' := ?_) #[true, true, true, true, true, true, true, true, true, true, true, true, true, true, true, true, true, true, true, true, true, true, true, true, true, true, true, true, true, true, true, true, true, true, true, true, true, true, true, true] rfl rfl (any_of HT_.out (by kernel_rfl)) (fun _ _ _ h => h) (Or.inl ⟨by rfl, ?_⟩) ?_ ?_
     rotate_left
     ·intro w'
      go_simp
      with_reducible rfl
     rotate_left
     ·simp only [Act.put, List.setIfInBounds_toArray, List.set_cons_zero, List.set_cons_succ, i64_w, i32_w]
      rfl
     refine done_ (done_of HT_.out (by kernel_rfl)) ?_
     try go_wp2
     go_ret
     exact exB (mvB HB.out)
    ·rw [if_neg c35] at H; have c35b0 : (t187 == 1) = false := beq_eq_false_iff_ne.mpr c35; have c35b1 : (t187 != 1) = true := bne_iff_ne.mpr c35; cases H
  ·replace c8 := Bool.eq_false_iff.mpr c8; subst c8; have H1 : (none) = some r := by rw [if_neg (show ¬ (false = true) by decide)] at H; exact H
   clear H; have H := H1; clear H1; cases H
 ·replace c6 := Bool.eq_false_iff.mpr c6; subst c6; have H1 : (none) = some r := by rw [if_neg (show ¬ (false = true) by decide)] at H; exact H
  clear H; have H := H1; clear H1; cases H

end Go.Proofs.YtdojgfkcpaeacaaDoor.Q
