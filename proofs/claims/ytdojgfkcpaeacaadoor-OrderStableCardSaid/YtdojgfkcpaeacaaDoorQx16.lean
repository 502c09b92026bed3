-- PRINTED by print.py (a twelfth state) out of the translation. Not trusted: Lean checks it.
import Derived.Test.YtdojgfkcpaeacaaDoorQx0
import Derived.Test.YtdojgfkcpaeacaaDoorQx7
import Derived.Test.YtdojgfkcpaeacaaDoorQx8
import Derived.Test.YtdojgfkcpaeacaaDoorQx11
import Derived.Test.YtdojgfkcpaeacaaDoorQx14
import Derived.Test.YtdojgfkcpaeacaaDoorQx15
namespace Go.Proofs.YtdojgfkcpaeacaaDoor.Q
open Go.RowKit Go.Proofs.YtdojgfkcpaeacaaDoorW.PrintWords Go.Proofs.YtdojgfkcpaeacaaDoorW.PrintLast Go.Proofs.YtdojgfkcpaeacaaDoorW.PrintMore
attribute [local go_sem] str_gtr str_geq str_leq max2_int min2_int max_two min_two max_three min_three max_four min_four   -- for this text's walks alone
set_option linter.unusedVariables false
set_option linter.unusedSimpArgs false

/-! ### hopperlaw24_OrderStable: function 6 -/
set_option maxRecDepth 100000 in
mutual
def hopperlaw24_OrderStable.j0 : Nat → List (List (S36)) → Int → List (S39) → Bool → Option (Bool)
 | 0, _, _, _, _ => none
 | k + 1, x0, x1, x2, x31 => if x31 = true then ((hopperlaw24_awake.f k).bind fun t211 => (some t211)) else (hopperlaw24_OrderStable.l0 k x0 x1 x2 ([] : List (List (S36))) 0)
def hopperlaw24_OrderStable.l0 : Nat → List (List (S36)) → Int → List (S39) → List (List (S36)) → Int → Option (Bool)
 | 0, _, _, _, _, _ => none
 | k + 1, x0, x1, x2, x7, x8 => if x8 < (x0.length : Int) then ((some (([] : List (S36)) : List (S36))).bind fun y212 => (if 0 ≤ x8 then (if y212.length + (rd_L6 x0 x8).length < 5864062014805 then ((some (y212 ++ (rd_L6 x0 x8) : List (S36))).bind fun y216 => ((some (([(⟨false, strOfNums (([(x8) % 256] : List Int))⟩ : S36)] : List (S36)) : List (S36))).bind fun y222 => (if y216.length + y222.length < 5864062014805 then ((some (([(y216 ++ y222)] : List (List (S36))) : List (List (S36)))).bind fun y228 => (if x7.length + y228.length < 5864062014805 then (hopperlaw24_OrderStable.l0 k x0 x1 x2 (x7 ++ y228) (wrap64 (x8 + 1))) else (none))) else (none)))) else (none)) else (none))) else ((order_Rows.f k x7 x2).bind fun t234 => (if (t234.length : Int) = (x7.length : Int) then (if 0 ≤ (x7.length : Int) then (if ((x7.length : Int) : Int).toNat ≤ 281474976710656 then (hopperlaw24_OrderStable.l1 k x0 x1 x2 x7 t234 (List.replicate ((x7.length : Int) : Int).toNat false) 0) else (none)) else (none)) else (none)))
def hopperlaw24_OrderStable.l1 : Nat → List (List (S36)) → Int → List (S39) → List (List (S36)) → List (List (S36)) → List Bool → Int → Option (Bool)
 | 0, _, _, _, _, _, _, _ => none
 | k + 1, x0, x1, x2, x7, x9, x10, x11 => if x11 < (x9.length : Int) then (if 0 ≤ x11 then (if 0 ≤ x1 then (if x1 < ((rd_L6 x9 x11).length : Int) then (if 0 < (((rd_T36 (rd_L6 x9 x11) x1).f1).size : Int) then (if (wrap64 (bt ((rd_T36 (rd_L6 x9 x11) x1).f1) 0)) ≥ (x7.length : Int) then (hopperlaw24_OrderStable.j3 k x0 x1 x2 x7 x9 x10 x11 (wrap64 (bt ((rd_T36 (rd_L6 x9 x11) x1).f1) 0)) true) else (if 0 ≤ (wrap64 (bt ((rd_T36 (rd_L6 x9 x11) x1).f1) 0)) then (if (wrap64 (bt ((rd_T36 (rd_L6 x9 x11) x1).f1) 0)) < (x10.length : Int) then (if rdOf false x10 (wrap64 (bt ((rd_T36 (rd_L6 x9 x11) x1).f1) 0)) = true then (hopperlaw24_OrderStable.j3 k x0 x1 x2 x7 x9 x10 x11 (wrap64 (bt ((rd_T36 (rd_L6 x9 x11) x1).f1) 0)) true) else (if (wrap64 (bt ((rd_T36 (rd_L6 x9 x11) x1).f1) 0)) ≤ (wrap64 ((wrap64 (bt ((rd_T36 (rd_L6 x9 x11) x1).f1) 0)) + 1)) then (if (wrap64 ((wrap64 (bt ((rd_T36 (rd_L6 x9 x11) x1).f1) 0)) + 1)) ≤ (x7.length : Int) then ((hopperref18_Same.f k (([rd_L6 x9 x11] : List (List (S36)))) ((x7.take ((wrap64 ((wrap64 (bt ((rd_T36 (rd_L6 x9 x11) x1).f1) 0)) + 1)) : Int).toNat).drop ((wrap64 (bt ((rd_T36 (rd_L6 x9 x11) x1).f1) 0)) : Int).toNat)).bind fun t252 => (hopperlaw24_OrderStable.j3 k x0 x1 x2 x7 x9 x10 x11 (wrap64 (bt ((rd_T36 (rd_L6 x9 x11) x1).f1) 0)) (!t252))) else (none)) else (none))) else (none)) else (none))) else (none)) else (none)) else (none)) else (none)) else ((order_Rows.f k x9 x2).bind fun t261 => ((hopperref18_Same.f k t261 x9).bind fun t264 => (if t264 = true then ((order_Rows.f k x0 ([] : List (S39))).bind fun t265 => ((hopperref18_Same.f k t265 x0).bind fun t268 => (some t268))) else (none))))
def hopperlaw24_OrderStable.j3 : Nat → List (List (S36)) → Int → List (S39) → List (List (S36)) → List (List (S36)) → List Bool → Int → Int → Bool → Option (Bool)
 | 0, _, _, _, _, _, _, _, _, _ => none
 | k + 1, x0, x1, x2, x7, x9, x10, x11, x12, x105 => if x105 = true then (none) else (if 0 ≤ x12 then (if x12 < (x10.length : Int) then ((some (x10.set (x12 : Int).toNat true : List Bool)).bind fun y253 => (if x11 = 0 then (hopperlaw24_OrderStable.l1 k x0 x1 x2 x7 x9 y253 (wrap64 (x11 + 1))) else (if 0 ≤ (wrap64 (x11 - 1)) then (if (wrap64 (x11 - 1)) < (x9.length : Int) then (if 0 ≤ x11 then (if x11 < (x9.length : Int) then ((order_Compare.f k (rd_L6 x9 (wrap64 (x11 - 1))) (rd_L6 x9 x11) x2).bind fun t256 => (if t256 > 0 then (none) else (if t256 = 0 then (if 0 ≤ x1 then (if x1 < ((rd_L6 x9 (wrap64 (x11 - 1))).length : Int) then (if x1 < ((rd_L6 x9 x11).length : Int) then (if ((Op.bytesLess (((rd_T36 (rd_L6 x9 (wrap64 (x11 - 1))) x1).f1).toList) (((rd_T36 (rd_L6 x9 x11) x1).f1).toList)) = true) then (hopperlaw24_OrderStable.l1 k x0 x1 x2 x7 x9 y253 (wrap64 (x11 + 1))) else (none)) else (none)) else (none)) else (none)) else (hopperlaw24_OrderStable.l1 k x0 x1 x2 x7 x9 y253 (wrap64 (x11 + 1)))))) else (none)) else (none)) else (none)) else (none)))) else (none)) else (none))
end
def hopperlaw24_OrderStable.f (k : Nat) (l0 : List (List (S36))) (a1 : Int) (l2 : List (S39)) : Option (Bool) := (hopperlaw24_awake.f k).bind fun t208 => (if t208 = true then ((hopperref16_Rows.f k l0 a1).bind fun t209 => (if t209 = true then (if a1 > 7 then (hopperlaw24_OrderStable.j0 k l0 a1 l2 true) else ((hopperref24_Right.f k l2 a1).bind fun t210 => (hopperlaw24_OrderStable.j0 k l0 a1 l2 (!t210)))) else (hopperlaw24_OrderStable.j0 k l0 a1 l2 true))) else (hopperlaw24_OrderStable.j0 k l0 a1 l2 true))
def hopperlaw24_OrderStable.T7 : Bool × List (List Nat × List Nat) := (true, [([], []), ([], []), ([], []), ([], []), ([2, 3], [2, 3]), ([4], [4]), ([1, 5], [1, 5]), ([], []), ([7], [7]), ([8], [8]), ([9], [9]), ([10], [10]), ([11], [11]), ([6, 12, 6], [6, 12]), ([13], [13]), ([0, 14, 13], [0, 14]), ([15, 15, 0, 1, 2, 3, 4, 5, 6, 7, 8, 9, 10, 11, 12, 13, 14, 15], [0, 15])])
def hopperlaw24_OrderStable.B7 : List Nat := [0, 0, 0, 0, 12, 28, 62, 0, 128, 384, 896, 1920, 3968, 8190, 16382, 32767, 65535]
theorem hopperlaw24_OrderStable.tab7 : rtab .any (opsOf Tryd.f6 7) = hopperlaw24_OrderStable.T7 := by kernel_rfl
theorem hopperlaw24_OrderStable.bits7 : waitsOk hopperlaw24_OrderStable.T7.2 hopperlaw24_OrderStable.B7 = true := by kernel_rfl
def hopperlaw24_OrderStable.T16 : Bool × List (List Nat × List Nat) := (true, [([], []), ([], []), ([1], [1]), ([0, 2], [0, 2]), ([3], [3]), ([4], [4]), ([4], [4]), ([5, 6, 4], [4, 5, 6]), ([7, 4], [4, 7]), ([4, 8], [4, 8]), ([9, 4], [9]), ([10], [10]), ([10], [10]), ([11, 12, 10], [10, 11, 12]), ([13, 10], [10, 13]), ([14, 10], [10, 14]), ([10], [10]), ([10], [10]), ([10], [10]), ([18, 10], [10, 18]), ([16, 17, 19, 10], [10, 16, 17, 19]), ([15, 20, 10, 10], [10, 15, 20]), ([21, 10], [10, 21]), ([10, 22], [10, 22])])
def hopperlaw24_OrderStable.B16 : List Nat := [0, 0, 2, 7, 15, 31, 31, 127, 255, 511, 1023, 2047, 2047, 8191, 16383, 32767, 2047, 2047, 2047, 264191, 985087, 2097151, 4194303, 8388607]
theorem hopperlaw24_OrderStable.tab16 : rtab .any (opsOf Tryd.f6 16) = hopperlaw24_OrderStable.T16 := by kernel_rfl
theorem hopperlaw24_OrderStable.bits16 : waitsOk hopperlaw24_OrderStable.T16.2 hopperlaw24_OrderStable.B16 = true := by kernel_rfl
def hopperlaw24_OrderStable.T20 : Bool × List (List Nat × List Nat) := (true, [([], []), ([], []), ([1], [1]), ([0, 2], [0, 2]), ([3], [3]), ([], []), ([], []), ([5, 6], [5, 6]), ([7], [7]), ([], []), ([4, 8, 9], [4, 8, 9]), ([10, 10, 0, 1, 2, 3, 4, 5, 6, 7, 8, 9, 10], [10])])
def hopperlaw24_OrderStable.B20 : List Nat := [0, 0, 2, 7, 15, 0, 0, 96, 224, 0, 1023, 2047]
theorem hopperlaw24_OrderStable.tab20 : rtab .any (opsOf Tryd.f6 20) = hopperlaw24_OrderStable.T20 := by kernel_rfl
theorem hopperlaw24_OrderStable.bits20 : waitsOk hopperlaw24_OrderStable.T20.2 hopperlaw24_OrderStable.B20 = true := by kernel_rfl
def hopperlaw24_OrderStable.T21 : Bool × List (List Nat × List Nat) := (true, [([], []), ([0], [0]), ([1], [1]), ([2], [2]), ([3, 2], [2, 3]), ([4, 2, 2], [2, 4]), ([5], [5]), ([5], [5]), ([7, 5], [5, 7]), ([6, 8, 5], [5, 6, 8]), ([9, 5], [5, 9]), ([5], [5]), ([10, 11, 5], [5, 10, 11]), ([12, 5], [5, 12]), ([13, 5], [5, 13]), ([5], [5]), ([5], [5]), ([15, 16, 5], [5, 15, 16]), ([17, 5], [5, 17]), ([5], [5]), ([18, 19, 5], [5, 18, 19]), ([20, 5], [5, 20]), ([21, 5], [5, 21]), ([14, 22, 5], [5, 14, 22]), ([5, 23, 2], [2, 5, 23]), ([2, 24], [2, 24])])
def hopperlaw24_OrderStable.B21 : List Nat := [0, 1, 3, 7, 15, 31, 63, 63, 191, 511, 1023, 63, 4095, 8191, 16383, 63, 63, 98367, 229439, 63, 1015871, 2064447, 4161599, 8388607, 16777215, 33554431]
theorem hopperlaw24_OrderStable.tab21 : rtab .any (opsOf Tryd.f6 21) = hopperlaw24_OrderStable.T21 := by kernel_rfl
theorem hopperlaw24_OrderStable.bits21 : waitsOk hopperlaw24_OrderStable.T21.2 hopperlaw24_OrderStable.B21 = true := by kernel_rfl
set_option maxHeartbeats 8000000 in
set_option maxRecDepth 100000 in
theorem hopperlaw24_OrderStable.calls (k : Nat) (A0 : Option Addr) (c0 : Nat) (l0 : List (List (S36))) (a1 : Int) (A2 : Option Addr) (c2 : Nat) (l2 : List (S39)) (r : Bool) (w : World) (hr0 : Kd.C (Kd.slice 36 k36) w A0 l0.length l0) (hc0 : l0.length ≤ c0) (hr2 : Kd.C k39 w A2 l2.length l2) (hc2 : l2.length ≤ c2) (hT : Facts w) (h : hopperlaw24_OrderStable.f k l0 a1 l2 = some r) :
  Calls Tryd.prog 6 #[.slice A0 l0.length c0, .int .i64 a1, .slice A2 l2.length c2] w fun e w' => e = .returned (.bool r) ∧ Below w.heap.size w w' := by
 have hu36 := Tryd.underlying36
 have HT := Aside0.mk hT
 clear hT
 have HR0 := Aside0.mk hr0
 have HC0 := Aside0.mk hc0
 clear hr0 hc0
 have HR2 := Aside0.mk hr2
 have HC2 := Aside0.mk hc2
 clear hr2 hc2
 have HB := Aside0.mk (Below.refl w.heap.size w)
 have H : ((hopperlaw24_awake.f k).bind fun t208 => (if t208 = true then ((hopperref16_Rows.f k l0 a1).bind fun t209 => (if t209 = true then (if a1 > 7 then (hopperlaw24_OrderStable.j0 k l0 a1 l2 true) else ((hopperref24_Right.f k l2 a1).bind fun t210 => (hopperlaw24_OrderStable.j0 k l0 a1 l2 (!t210)))) else (hopperlaw24_OrderStable.j0 k l0 a1 l2 true))) else (hopperlaw24_OrderStable.j0 k l0 a1 l2 true))) = some r := h
 clear h
 have HC4 := Aside0.mk H
 clear H
 go_enter Tryd.func6, Tryd.ntmps6
 go_upto_region 1 with (fail)
 go_cut [31] (fun v31 wc => ∃ (kq : Nat) (x31_3 : Bool), v31 = .bool x31_3 ∧ Aside0 (hopperlaw24_OrderStable.j0 kq l0 a1 l2 x31_3 = some r) ∧ Aside0 (kq ≤ k) ∧ Aside0 (Below w.heap.size w wc))
 case first =>
  have H := HC4.out
  clear HC4
  replace H := Option.bind_eq_some_iff.mp H
  obtain ⟨t208, A50, H⟩ := H
  replace H : (if t208 = true then ((hopperref16_Rows.f k l0 a1).bind fun t209 => (if t209 = true then (if a1 > 7 then (hopperlaw24_OrderStable.j0 k l0 a1 l2 true) else ((hopperref24_Right.f k l2 a1).bind fun t210 => (hopperlaw24_OrderStable.j0 k l0 a1 l2 (!t210)))) else (hopperlaw24_OrderStable.j0 k l0 a1 l2 true))) else (hopperlaw24_OrderStable.j0 k l0 a1 l2 true)) = some r := H
  have A5 := Aside0.mk A50
  clear A50
  by_cases c6 : t208 = true
  ·subst c6
   have H1 : ((hopperref16_Rows.f k l0 a1).bind fun t209 => (if t209 = true then (if a1 > 7 then (hopperlaw24_OrderStable.j0 k l0 a1 l2 true) else ((hopperref24_Right.f k l2 a1).bind fun t210 => (hopperlaw24_OrderStable.j0 k l0 a1 l2 (!t210)))) else (hopperlaw24_OrderStable.j0 k l0 a1 l2 true))) = some r := by rw [if_pos rfl] at H; exact H
   clear H
   have H := H1
   clear H1
   replace H := Option.bind_eq_some_iff.mp H
   obtain ⟨t209, A70, H⟩ := H
   replace H : (if t209 = true then (if a1 > 7 then (hopperlaw24_OrderStable.j0 k l0 a1 l2 true) else ((hopperref24_Right.f k l2 a1).bind fun t210 => (hopperlaw24_OrderStable.j0 k l0 a1 l2 (!t210)))) else (hopperlaw24_OrderStable.j0 k l0 a1 l2 true)) = some r := H
   have A7 := Aside0.mk A70
   clear A70
   by_cases c8 : t209 = true
   ·subst c8
    have H1 : (if a1 > 7 then (hopperlaw24_OrderStable.j0 k l0 a1 l2 true) else ((hopperref24_Right.f k l2 a1).bind fun t210 => (hopperlaw24_OrderStable.j0 k l0 a1 l2 (!t210)))) = some r := by rw [if_pos rfl] at H; exact H
    clear H
    have H := H1
    clear H1
    by_cases c9 : a1 > 7
    ·rw [if_pos c9] at H
     have c9b0 : decide (7 < a1) = true := decide_eq_true c9
     clear c9
     (first | rw [c9b0] | (simp only [i64_w, i32_w]; rw [c9b0]) | skip)
     have H' := Aside0.mk H
     clear H
     go_wp2_with (first | ((with_reducible refine gate_callee (f := 9) rfl ?_); refine goesL_ (some 14) rfl rfl Tryd.func9 (by kernel_rfl) rfl #[] rfl (by (try simp only [List.map_toArray, List.map_cons, List.map_nil]); first | done | rfl | (simp only [List.length_drop, List.length_take]; rfl)) ?_; (with_reducible refine (hopperlaw24_awake.calls k  true _ ?side1 A5.out).mono ?_); (case side1 => first | exact HT.out | exact Facts.below HT.out (mvB HB.out) | exact Facts.below HT.out HB.out | (repeat (first | exact HT.out | refine Facts.drewN ?_ _ | refine Facts.drew ?_ | refine Facts.alloc ?_ _))); rintro e w10 ⟨rfl, hb⟩; refine ⟨_, rfl, ?_⟩; have n0_ := Aside0.mk (below_step (mvB HB.out) hb); clear HB; have HB := n0_; clear n0_; (try clear hb); (try clear hb2); (try clear hk); (try clear hi)) | (go_at_call 10; (with_reducible refine (hopperref16_Rows.calls k _ _ l0 a1 true _ ?side1 ?side2 A7.out).mono ?_); (case side1 => repeat (first | exact (Kd.C_below HR0.out HB.out) | (with_reducible refine Kd.C_alloc ?_ _) | (with_reducible refine Kd.C_drewN ?_ _) | (with_reducible refine Kd.C_drew ?_))); (case side2 => exact HC0.out); rintro e w' ⟨rfl, ⟨nd, rfl⟩⟩))
     go_meet
     case rel => exact ⟨_, (true), (by first | rfl | (simp; done) | (simp [*]; done)), H', ⟨by first | omega | exact Nat.le_refl _⟩, ⟨by repeat (first | (with_reducible first | exact HB.out | apply below_alloc | apply pw_below_drewN | apply below_drew1) | exact HB.out)⟩⟩
    ·rw [if_neg c9] at H
     have c9b0 : decide (7 < a1) = false := decide_eq_false c9
     clear c9
     (first | rw [c9b0] | (simp only [i64_w, i32_w]; rw [c9b0]) | skip)
     replace H := Option.bind_eq_some_iff.mp H
     obtain ⟨t210, A110, H⟩ := H
     replace H : (hopperlaw24_OrderStable.j0 k l0 a1 l2 (!t210)) = some r := H
     have A11 := Aside0.mk A110
     clear A110
     have H' := Aside0.mk H
     clear H
     go_wp2_with (first | ((with_reducible refine gate_callee (f := 9) rfl ?_); refine goesL_ (some 14) rfl rfl Tryd.func9 (by kernel_rfl) rfl #[] rfl (by (try simp only [List.map_toArray, List.map_cons, List.map_nil]); first | done | rfl | (simp only [List.length_drop, List.length_take]; rfl)) ?_; (with_reducible refine (hopperlaw24_awake.calls k  true _ ?side1 A5.out).mono ?_); (case side1 => first | exact HT.out | exact Facts.below HT.out (mvB HB.out) | exact Facts.below HT.out HB.out | (repeat (first | exact HT.out | refine Facts.drewN ?_ _ | refine Facts.drew ?_ | refine Facts.alloc ?_ _))); rintro e w12 ⟨rfl, hb⟩; refine ⟨_, rfl, ?_⟩; have n0_ := Aside0.mk (below_step (mvB HB.out) hb); clear HB; have HB := n0_; clear n0_; (try clear hb); (try clear hb2); (try clear hk); (try clear hi)) | (go_at_call 10; (with_reducible refine (hopperref16_Rows.calls k _ _ l0 a1 true _ ?side1 ?side2 A7.out).mono ?_); (case side1 => repeat (first | exact (Kd.C_below HR0.out HB.out) | (with_reducible refine Kd.C_alloc ?_ _) | (with_reducible refine Kd.C_drewN ?_ _) | (with_reducible refine Kd.C_drew ?_))); (case side2 => exact HC0.out); rintro e w' ⟨rfl, ⟨nd, rfl⟩⟩) | (go_at_call 11; (with_reducible refine (hopperref24_Right.calls k _ _ l2 a1 t210 _ ?side1 ?side2 A11.out).mono ?_); (case side1 => repeat (first | exact (Kd.C_below HR2.out (mvB HB.out)) | (with_reducible refine Kd.C_alloc ?_ _) | (with_reducible refine Kd.C_drewN ?_ _) | (with_reducible refine Kd.C_drew ?_))); (case side2 => exact HC2.out); rintro e w' ⟨rfl, ⟨nd, rfl⟩⟩))
     go_meet
     case rel => exact ⟨_, (!t210), (by first | rfl | (simp; done) | (simp [*]; done)), H', ⟨by first | omega | exact Nat.le_refl _⟩, ⟨by repeat (first | (with_reducible first | exact HB.out | apply below_alloc | apply pw_below_drewN | apply below_drew1) | exact HB.out)⟩⟩
   ·replace c8 := Bool.eq_false_iff.mpr c8
    subst c8
    have H1 : (hopperlaw24_OrderStable.j0 k l0 a1 l2 true) = some r := by rw [if_neg (show ¬ (false = true) by decide)] at H; exact H
    clear H
    have H := H1
    clear H1
    have H' := Aside0.mk H
    clear H
    go_wp2_with (first | ((with_reducible refine gate_callee (f := 9) rfl ?_); refine goesL_ (some 14) rfl rfl Tryd.func9 (by kernel_rfl) rfl #[] rfl (by (try simp only [List.map_toArray, List.map_cons, List.map_nil]); first | done | rfl | (simp only [List.length_drop, List.length_take]; rfl)) ?_; (with_reducible refine (hopperlaw24_awake.calls k  true _ ?side1 A5.out).mono ?_); (case side1 => first | exact HT.out | exact Facts.below HT.out (mvB HB.out) | exact Facts.below HT.out HB.out | (repeat (first | exact HT.out | refine Facts.drewN ?_ _ | refine Facts.drew ?_ | refine Facts.alloc ?_ _))); rintro e w13 ⟨rfl, hb⟩; refine ⟨_, rfl, ?_⟩; have n0_ := Aside0.mk (below_step (mvB HB.out) hb); clear HB; have HB := n0_; clear n0_; (try clear hb); (try clear hb2); (try clear hk); (try clear hi)) | (go_at_call 10; (with_reducible refine (hopperref16_Rows.calls k _ _ l0 a1 false _ ?side1 ?side2 A7.out).mono ?_); (case side1 => repeat (first | exact (Kd.C_below HR0.out HB.out) | (with_reducible refine Kd.C_alloc ?_ _) | (with_reducible refine Kd.C_drewN ?_ _) | (with_reducible refine Kd.C_drew ?_))); (case side2 => exact HC0.out); rintro e w' ⟨rfl, ⟨nd, rfl⟩⟩))
    go_meet
    case rel => exact ⟨_, (true), (by first | rfl | (simp; done) | (simp [*]; done)), H', ⟨by first | omega | exact Nat.le_refl _⟩, ⟨by repeat (first | (with_reducible first | exact HB.out | apply below_alloc | apply pw_below_drewN | apply below_drew1) | exact HB.out)⟩⟩
  ·replace c6 := Bool.eq_false_iff.mpr c6
   subst c6
   have H1 : (hopperlaw24_OrderStable.j0 k l0 a1 l2 true) = some r := by rw [if_neg (show ¬ (false = true) by decide)] at H; exact H
   clear H
   have H := H1
   clear H1
   have H' := Aside0.mk H
   clear H
   go_wp2_with (first | ((with_reducible refine gate_callee (f := 9) rfl ?_); refine goesL_ (some 14) rfl rfl Tryd.func9 (by kernel_rfl) rfl #[] rfl (by (try simp only [List.map_toArray, List.map_cons, List.map_nil]); first | done | rfl | (simp only [List.length_drop, List.length_take]; rfl)) ?_; (with_reducible refine (hopperlaw24_awake.calls k  false _ ?side1 A5.out).mono ?_); (case side1 => first | exact HT.out | exact Facts.below HT.out (mvB HB.out) | exact Facts.below HT.out HB.out | (repeat (first | exact HT.out | refine Facts.drewN ?_ _ | refine Facts.drew ?_ | refine Facts.alloc ?_ _))); rintro e w14 ⟨rfl, hb⟩; refine ⟨_, rfl, ?_⟩; have n0_ := Aside0.mk (below_step (mvB HB.out) hb); clear HB; have HB := n0_; clear n0_; (try clear hb); (try clear hb2); (try clear hk); (try clear hi)))
   go_meet
   case rel => exact ⟨_, (true), (by first | rfl | (simp; done) | (simp [*]; done)), H', ⟨by first | omega | exact Nat.le_refl _⟩, ⟨by repeat (first | (with_reducible first | exact HB.out | apply below_alloc | apply pw_below_drewN | apply below_drew1) | exact HB.out)⟩⟩
 case rest =>
  clear HC4
  try clear c2
  try clear p2
  try clear c6
  try clear c8
  try clear c9
  try clear c9b0
  obtain ⟨kq, x31_3, rfl, HA, HJ3, HB⟩ := hcut
  cases kq with
  | zero => exact absurd HA.out (by simp [hopperlaw24_OrderStable.j0])
  | succ kj3 =>
   have H := HA.out
   clear HA
   simp only [hopperlaw24_OrderStable.j0] at H
   by_cases c15 : x31_3 = true
   ·subst c15
    have H1 : ((hopperlaw24_awake.f kj3).bind fun t211 => (some t211)) = some r := by rw [if_pos rfl] at H; exact H
    clear H
    have H := H1
    clear H1
    replace H := Option.bind_eq_some_iff.mp H
    obtain ⟨t211, A160, H⟩ := H
    replace H : (some t211) = some r := H
    have A16 := Aside0.mk A160
    clear A160
    obtain rfl := Option.some.inj H
    go_wp2_with (first | ((with_reducible refine gate_callee (f := 9) rfl ?_); refine goesL_ (some 32) rfl rfl Tryd.func9 (by kernel_rfl) rfl #[] rfl (by (try simp only [List.map_toArray, List.map_cons, List.map_nil]); first | done | rfl | (simp only [List.length_drop, List.length_take]; rfl)) ?_; (with_reducible refine (hopperlaw24_awake.calls kj3  t211 _ ?side1 A16.out).mono ?_); (case side1 => first | exact HT.out | exact Facts.below HT.out (mvB HB.out) | exact Facts.below HT.out HB.out | (repeat (first | exact HT.out | refine Facts.drewN ?_ _ | refine Facts.drew ?_ | refine Facts.alloc ?_ _))); rintro e w17 ⟨rfl, hb⟩; refine ⟨_, rfl, ?_⟩; have n0_ := Aside0.mk (below_step (mvB HB.out) hb); clear HB; have HB := n0_; clear n0_; (try clear hb); (try clear hb2); (try clear hk); (try clear hi)))
    go_ret
    exact ⟨by first | rfl | (simp [errW_none, errW_some] <;> rfl) | (simp [*, errW_none, errW_some] <;> rfl) | exact congrArg (fun b_ => Ending.returned (.bool b_)) (decide_eq_decide.2 (by unfold wrap64; omega)), by repeat (first | (with_reducible first | exact HB.out | apply below_alloc | apply pw_below_drewN | apply below_drew1) | exact HB.out)⟩
   ·replace c15 := Bool.eq_false_iff.mpr c15
    subst c15
    have H1 : (hopperlaw24_OrderStable.l0 kj3 l0 a1 l2 ([] : List (List (S36))) 0) = some r := by rw [if_neg (show ¬ (false = true) by decide)] at H; exact H
    clear H
    have H := H1
    clear H1
    have H' := Aside0.mk H
    clear H
    go_wp2
    go_loopg [7, 8] kj3 (fun kq v7 v8 w' => ∃ (x7_2 : List (List (S36))) (x8_2 : Int), v8 = .int .i64 x8_2 ∧ Aside0 (hopperlaw24_OrderStable.l0 kq l0 a1 l2 x7_2 x8_2 = some r) ∧ Aside0 (kq ≤ kj3) ∧ Aside0 (Kd.N (Kd.slice 36 k36) 28 w' w.heap.size (fun _ => True) v7 x7_2) ∧ Aside0 (Below w.heap.size w w'))
    case atStart => exact ⟨(([] : List (List (S36)))), (0), (by first | rfl | (simp; done) | (simp [*]; done)), H', ⟨Nat.le_refl _⟩, ⟨by first | exact Kd.S_nil _ _ _ _ _ | exact Kd.N_nil _ _ _ _ _ | exact Kd.V_nil _ _ _ _ _ | exact Kd.Q_nil _ _ _ _ _ | exact Kd.R_nil _ _ _ _ _⟩, ⟨by repeat (first | (with_reducible first | exact HB.out | apply below_alloc | apply pw_below_drewN | apply below_drew1) | exact HB.out)⟩⟩
    case round =>
     clear H'
     try clear c1
     try clear c2
     try clear p2
     try clear c6
     try clear p6
     try clear c8
     try clear c9
     try clear c9b0
     try clear c15
     try clear p2
     obtain ⟨x7_2, x8_2, rfl, HA, HK2, HO_7, HB⟩ := hrel
     cases gk with
     | zero => exact absurd HA.out (by simp [hopperlaw24_OrderStable.l0])
     | succ k2 =>
      have H := HA.out
      clear HA
      simp only [hopperlaw24_OrderStable.l0] at H
      by_cases c18 : x8_2 < (l0.length : Int)
      ·rw [if_pos c18] at H
       have c18b0 : decide (x8_2 < (l0.length : Int)) = true := decide_eq_true c18
       clear c18
       obtain ⟨y212, hy212⟩ : ∃ y_ : List (S36), y_ = (([] : List (S36))) := ⟨_, rfl⟩
       replace H : (if 0 ≤ x8_2 then (if y212.length + (rd_L6 l0 x8_2).length < 5864062014805 then ((some (y212 ++ (rd_L6 l0 x8_2) : List (S36))).bind fun y216 => ((some (([(⟨false, strOfNums (([(x8_2) % 256] : List Int))⟩ : S36)] : List (S36)) : List (S36))).bind fun y222 => (if y216.length + y222.length < 5864062014805 then ((some (([(y216 ++ y222)] : List (List (S36))) : List (List (S36)))).bind fun y228 => (if x7_2.length + y228.length < 5864062014805 then (hopperlaw24_OrderStable.l0 k2 l0 a1 l2 (x7_2 ++ y228) (wrap64 (x8_2 + 1))) else (none))) else (none)))) else (none)) else (none)) = some r := by first | (rw [hy212]; with_reducible exact H) | (have H2_ := (Option.bind_some _ _).symm.trans H; rw [hy212]; with_reducible exact H2_) | (have H2_ := (Option.bind_some _ _).symm.trans H; with_reducible exact H2_) | with_reducible exact H | (rw [hy212]; exact H) | exact H
       have Ny212 := Aside0.mk hy212
       clear hy212
       by_cases c19 : 0 ≤ x8_2
       case neg => rw [if_neg c19] at H; exact absurd H (by simp)
       rw [if_pos c19] at H
       have c19b0 : decide (0 ≤ x8_2) = true := decide_eq_true c19
       clear c19
       by_cases c20 : y212.length + (rd_L6 l0 x8_2).length < 5864062014805
       case neg => rw [if_neg c20] at H; exact absurd H (by simp)
       rw [if_pos c20] at H
       have LMc20 := Aside0.mk c20
       clear c20
       obtain ⟨y216, hy216⟩ : ∃ y_ : List (S36), y_ = (y212 ++ (rd_L6 l0 x8_2)) := ⟨_, rfl⟩
       replace H : ((some (([(⟨false, strOfNums (([(x8_2) % 256] : List Int))⟩ : S36)] : List (S36)) : List (S36))).bind fun y222 => (if y216.length + y222.length < 5864062014805 then ((some (([(y216 ++ y222)] : List (List (S36))) : List (List (S36)))).bind fun y228 => (if x7_2.length + y228.length < 5864062014805 then (hopperlaw24_OrderStable.l0 k2 l0 a1 l2 (x7_2 ++ y228) (wrap64 (x8_2 + 1))) else (none))) else (none))) = some r := by first | (rw [hy216]; with_reducible exact H) | (have H2_ := (Option.bind_some _ _).symm.trans H; rw [hy216]; with_reducible exact H2_) | (have H2_ := (Option.bind_some _ _).symm.trans H; with_reducible exact H2_) | with_reducible exact H | (rw [hy216]; exact H) | exact H
       have Ny216 := Aside0.mk hy216
       clear hy216
       obtain ⟨y219, hy219⟩ : ∃ y_ : List Int, y_ = (([(x8_2) % 256] : List Int)) := ⟨_, rfl⟩
       replace H : ((some (([(⟨false, strOfNums y219⟩ : S36)] : List (S36)) : List (S36))).bind fun y222 => (if y216.length + y222.length < 5864062014805 then ((some (([(y216 ++ y222)] : List (List (S36))) : List (List (S36)))).bind fun y228 => (if x7_2.length + y228.length < 5864062014805 then (hopperlaw24_OrderStable.l0 k2 l0 a1 l2 (x7_2 ++ y228) (wrap64 (x8_2 + 1))) else (none))) else (none))) = some r := by first | (rw [hy219]; with_reducible exact H) | (have H2_ := (Option.bind_some _ _).symm.trans H; rw [hy219]; with_reducible exact H2_) | (have H2_ := (Option.bind_some _ _).symm.trans H; with_reducible exact H2_) | with_reducible exact H | (rw [hy219]; exact H) | exact H
       have Ny219 := Aside0.mk hy219
       clear hy219
       obtain ⟨y222, hy222⟩ : ∃ y_ : List (S36), y_ = (([(⟨false, strOfNums y219⟩ : S36)] : List (S36))) := ⟨_, rfl⟩
       replace H : (if y216.length + y222.length < 5864062014805 then ((some (([(y216 ++ y222)] : List (List (S36))) : List (List (S36)))).bind fun y228 => (if x7_2.length + y228.length < 5864062014805 then (hopperlaw24_OrderStable.l0 k2 l0 a1 l2 (x7_2 ++ y228) (wrap64 (x8_2 + 1))) else (none))) else (none)) = some r := by first | (rw [hy222]; with_reducible exact H) | (have H2_ := (Option.bind_some _ _).symm.trans H; rw [hy222]; with_reducible exact H2_) | (have H2_ := (Option.bind_some _ _).symm.trans H; with_reducible exact H2_) | with_reducible exact H | (rw [hy222]; exact H) | exact H
       have Ny222 := Aside0.mk hy222
       clear hy222
       by_cases c21 : y216.length + y222.length < 5864062014805
       case neg => rw [if_neg c21] at H; exact absurd H (by simp)
       rw [if_pos c21] at H
       have LMc21 := Aside0.mk c21
       clear c21
       obtain ⟨y225, hy225⟩ : ∃ y_ : List (S36), y_ = (y216 ++ y222) := ⟨_, rfl⟩
       replace H : ((some (([y225] : List (List (S36))) : List (List (S36)))).bind fun y228 => (if x7_2.length + y228.length < 5864062014805 then (hopperlaw24_OrderStable.l0 k2 l0 a1 l2 (x7_2 ++ y228) (wrap64 (x8_2 + 1))) else (none))) = some r := by first | (rw [hy225]; with_reducible exact H) | (have H2_ := (Option.bind_some _ _).symm.trans H; rw [hy225]; with_reducible exact H2_) | (have H2_ := (Option.bind_some _ _).symm.trans H; with_reducible exact H2_) | with_reducible exact H | (rw [hy225]; exact H) | exact H
       have Ny225 := Aside0.mk hy225
       clear hy225
       obtain ⟨y228, hy228⟩ : ∃ y_ : List (List (S36)), y_ = (([y225] : List (List (S36)))) := ⟨_, rfl⟩
       replace H : (if x7_2.length + y228.length < 5864062014805 then (hopperlaw24_OrderStable.l0 k2 l0 a1 l2 (x7_2 ++ y228) (wrap64 (x8_2 + 1))) else (none)) = some r := by first | (rw [hy228]; with_reducible exact H) | (have H2_ := (Option.bind_some _ _).symm.trans H; rw [hy228]; with_reducible exact H2_) | (have H2_ := (Option.bind_some _ _).symm.trans H; with_reducible exact H2_) | with_reducible exact H | (rw [hy228]; exact H) | exact H
       have Ny228 := Aside0.mk hy228
       clear hy228
       by_cases c22 : x7_2.length + y228.length < 5864062014805
       case neg => rw [if_neg c22] at H; exact absurd H (by simp)
       rw [if_pos c22] at H
       have LMc22 := Aside0.mk c22
       clear c22
       obtain ⟨y231, hy231⟩ : ∃ y_ : List (List (S36)), y_ = (x7_2 ++ y228) := ⟨_, rfl⟩
       replace H : (hopperlaw24_OrderStable.l0 k2 l0 a1 l2 y231 (wrap64 (x8_2 + 1))) = some r := by first | (rw [hy231]; with_reducible exact H) | (have H2_ := (Option.bind_some _ _).symm.trans H; rw [hy231]; with_reducible exact H2_) | (have H2_ := (Option.bind_some _ _).symm.trans H; with_reducible exact H2_) | with_reducible exact H | (rw [hy231]; exact H) | exact H
       have Ny231 := Aside0.mk hy231
       clear hy231
       have H' := Aside0.mk H
       clear H
       obtain ⟨Ao23, co23, eo23⟩ := Kd.N_slice HO_7.out
       subst eo23
       try go_wp2
       have n0_ := Aside0.mk (Kd.N_drew HO_7.out)
       have n1_ := Aside0.mk (below_drew1 HB.out)
       clear HO_7
       clear HB
       have HO_7 := n0_
       have HB := n1_
       clear n0_ n1_
       have p215 : 0 ≤ (x8_2 : Int) := of_decide_eq_true (by first | (with_reducible assumption) | assumption)
       have q215 : x8_2 < (l0.length : Int) := of_decide_eq_true (by first | (with_reducible assumption) | assumption)
       obtain ⟨ad215, A215_0, c215_0, e215, hx215_0, hl215_0, hi215_0⟩ := at_L6 HR0.out x8_2 p215 q215
       have hw215_0 := hx215_0
       cases e215
       replace hx215_0 := (HB.out.cell (World.block_lt_of_cell? w _ hx215_0)).trans hx215_0
       have HR215_0 := Aside0.mk hi215_0
       have HC215_0 := Aside0.mk hl215_0
       clear hi215_0 hl215_0
       replace p215 := eq_true p215
       replace q215 := eq_true q215
       refine start_ (n := 17) (S := fun w' => w'.cell? (ad215.add (x8_2).toNat) = some (.slice A215_0 (rd_L6 l0 x8_2).length c215_0)) (ds := []) #[false, false, false, false, false, false, false, false, false, false, false, false, false, false, false, false, false] (by kernel_rfl) rfl rfl (((HB.out.cell (World.block_lt_of_cell? w _ hw215_0)).trans hw215_0)) (fun hHeld => ?_); refine with_tabW hopperlaw24_OrderStable.tab7 hopperlaw24_OrderStable.bits7 (fun HT_ HW_ => ?_)
       generalize wr.drew = w24 at HO_7 HB HR215_0 hx215_0 hHeld ⊢
       refine pure_ (i := 0) (N := some 39) (v := ?_) (a' := ?_) #[true, false, false, false, false, false, false, false, false, false, false, false, false, false, false, false, false] rfl rfl (any_of HT_.out (by kernel_rfl)) (fun _ _ _ h => h) (Or.inl ⟨by rfl, ?_⟩) ?_ ?_
       rotate_left
       ·intro w'
        go_simp
        with_reducible rfl
       rotate_left
       ·simp only [Act.put, List.setIfInBounds_toArray, List.set_cons_zero, List.set_cons_succ, i64_w, i32_w]
        rfl
       refine pure_ (i := 2) (N := some 41) (v := ?_) (a' := ?_) #[true, false, true, false, false, false, false, false, false, false, false, false, false, false, false, false, false] rfl rfl (any_of HT_.out (by kernel_rfl)) (fun _ _ _ h => h) (Or.inl ⟨by rfl, ?_⟩) ?_ ?_
       rotate_left
       ·intro w'
        go_simp
        with_reducible rfl
       rotate_left
       ·simp only [Act.put, List.setIfInBounds_toArray, List.set_cons_zero, List.set_cons_succ, i64_w, i32_w]
        rfl
       refine pure_ (i := 3) (N := some 42) (v := ?_) (a' := ?_) #[true, false, true, true, false, false, false, false, false, false, false, false, false, false, false, false, false] rfl rfl (any_of HT_.out (by kernel_rfl)) (fun _ _ _ h => h) (Or.inl ⟨by rfl, ?_⟩) ?_ ?_
       rotate_left
       ·intro w'
        go_simp
        with_reducible rfl
       rotate_left
       ·simp only [Act.put, List.setIfInBounds_toArray, List.set_cons_zero, List.set_cons_succ, i64_w, i32_w]
        rfl
       refine pure_ (i := 4) (N := some 43) (v := ?_) (a' := ?_) #[true, false, true, true, true, false, false, false, false, false, false, false, false, false, false, false, false] rfl rfl (any_of HT_.out (by kernel_rfl)) (fun _ _ _ h => h) (Or.inl ⟨by rfl, ?_⟩) ?_ ?_
       rotate_left
       ·intro w'
        go_simp
        with_reducible rfl
       rotate_left
       ·simp only [Act.put, List.setIfInBounds_toArray, List.set_cons_zero, List.set_cons_succ, i64_w, i32_w]
        rfl
       refine pure_ (i := 7) (N := some 46) (v := ?_) (a' := ?_) #[true, false, true, true, true, false, false, true, false, false, false, false, false, false, false, false, false] rfl rfl (any_of HT_.out (by kernel_rfl)) (fun _ _ _ h => h) (Or.inl ⟨by rfl, ?_⟩) ?_ ?_
       rotate_left
       ·intro w'
        go_simp
        with_reducible rfl
       rotate_left
       ·simp only [Act.put, List.setIfInBounds_toArray, List.set_cons_zero, List.set_cons_succ, i64_w, i32_w]
        rfl
       refine pure_ (i := 8) (N := some 47) (v := ?_) (a' := ?_) #[true, false, true, true, true, false, false, true, true, false, false, false, false, false, false, false, false] rfl rfl (any_of HT_.out (by kernel_rfl)) (fun _ _ _ h => h) (Or.inl ⟨by rfl, ?_⟩) ?_ ?_
       rotate_left
       ·intro w'
        go_simp
        with_reducible rfl
       rotate_left
       ·simp only [Act.put, List.setIfInBounds_toArray, List.set_cons_zero, List.set_cons_succ, i64_w, i32_w]
        rfl
       refine take_ (i := 5) (N := some 44) (v := ?_) (a' := ?_) #[true, false, true, true, true, true, false, true, true, false, false, false, false, false, false, false, false] rfl rfl (take_ofW HT_.out HW_.out (by kernel_rfl)) (fun _ _ _ h => h) (Or.inl ⟨by rfl, ?_⟩) hHeld ?_ ?_
       rotate_left
       ·intro w' s0
        go_simp
        with_reducible rfl
       rotate_left
       ·simp only [Act.put, List.setIfInBounds_toArray, List.set_cons_zero, List.set_cons_succ, i64_w, i32_w]
        rfl
       refine join_ (σ := Value × Value × Value × Value) 4 #[true, true, true, true, true, true, true, true, true, true, true, true, true, false, false, false, false] (fun s_ => [(40, s_.1), (45, s_.2.1), (48, s_.2.2.1), (49, .string (strOfNums y219)), (51, s_.2.2.2), (50, .agg #[.bool false, .string (strOfNums y219)])]) (fun s_ w' => (w'.cell? (ad215.add (x8_2).toNat) = some (.slice A215_0 (rd_L6 l0 x8_2).length c215_0)) ∧ (Kd.R k36 36 w' w.heap.size (fun k_ => some k_ ≠ (s_.2.2.2 : Value).ownBlock) s_.2.1 y216) ∧ (Kd.R (Kd.int .u8) 5 w' w.heap.size (fun _ => True) s_.2.2.1 y219) ∧ (Kd.R k36 36 w' w.heap.size (fun k_ => some k_ ≠ (s_.2.1 : Value).ownBlock) s_.2.2.2 y222) ∧ (Kd.N (Kd.slice 36 k36) 28 w' w.heap.size (fun k_ => some k_ ≠ (s_.2.1 : Value).ownBlock ∧ some k_ ≠ (s_.2.2.1 : Value).ownBlock ∧ some k_ ≠ (s_.2.2.2 : Value).ownBlock) (.slice Ao23 x7_2.length co23) x7_2) ∧ (Below w.heap.size w w')) ?_ ?_
       rotate_left
       ·intro hJ1_6_9_10_12
        refine join_ (σ := Value × Value × Value) 5 #[true, true, true, true, true, true, true, true, true, true, true, true, false, false, false, false, false] (fun s_ => [(40, s_.1), (45, s_.2.1), (48, s_.2.2), (49, .string (strOfNums y219)), (50, .agg #[.bool false, .string (strOfNums y219)])]) (fun s_ w' => (w'.cell? (ad215.add (x8_2).toNat) = some (.slice A215_0 (rd_L6 l0 x8_2).length c215_0)) ∧ (Kd.R k36 36 w' w.heap.size (fun _ => True) s_.2.1 y216) ∧ (Kd.R (Kd.int .u8) 5 w' w.heap.size (fun _ => True) s_.2.2 y219) ∧ (Kd.N (Kd.slice 36 k36) 28 w' w.heap.size (fun k_ => some k_ ≠ (s_.2.1 : Value).ownBlock ∧ some k_ ≠ (s_.2.2 : Value).ownBlock) (.slice Ao23 x7_2.length co23) x7_2) ∧ (Below w.heap.size w w')) ?_ ?_
        rotate_left
        ·intro hJ1_6_9_10
         refine join_ (σ := Value × Value × Value) 5 #[true, true, true, true, true, true, false, true, true, true, true, true, true, false, false, false, false] (fun s_ => [(40, s_.1), (48, s_.2.1), (49, .string (strOfNums y219)), (51, s_.2.2), (50, .agg #[.bool false, .string (strOfNums y219)])]) (fun s_ w' => (w'.cell? (ad215.add (x8_2).toNat) = some (.slice A215_0 (rd_L6 l0 x8_2).length c215_0)) ∧ (Kd.R k36 36 w' w.heap.size (fun k_ => some k_ ≠ (s_.2.2 : Value).ownBlock) s_.1 y212) ∧ (Kd.R (Kd.int .u8) 5 w' w.heap.size (fun _ => True) s_.2.1 y219) ∧ (Kd.R k36 36 w' w.heap.size (fun k_ => some k_ ≠ (s_.1 : Value).ownBlock) s_.2.2 y222) ∧ (Kd.N (Kd.slice 36 k36) 28 w' w.heap.size (fun k_ => some k_ ≠ (s_.1 : Value).ownBlock ∧ some k_ ≠ (s_.2.1 : Value).ownBlock ∧ some k_ ≠ (s_.2.2 : Value).ownBlock) (.slice Ao23 x7_2.length co23) x7_2) ∧ (Below w.heap.size w w')) ?_ ?_
         rotate_left
         ·intro hJ1_9_10_12
          refine join_ (σ := Value × Value × Value) 7 #[true, true, true, true, true, true, true, true, true, true, false, false, false, false, false, false, false] (fun s_ => [(40, s_.1), (45, s_.2.1), (48, s_.2.2)]) (fun s_ w' => (w'.cell? (ad215.add (x8_2).toNat) = some (.slice A215_0 (rd_L6 l0 x8_2).length c215_0)) ∧ (Kd.R k36 36 w' w.heap.size (fun _ => True) s_.2.1 y216) ∧ (Kd.R (Kd.int .u8) 5 w' w.heap.size (fun _ => True) s_.2.2 y219) ∧ (Kd.N (Kd.slice 36 k36) 28 w' w.heap.size (fun k_ => some k_ ≠ (s_.2.1 : Value).ownBlock ∧ some k_ ≠ (s_.2.2 : Value).ownBlock) (.slice Ao23 x7_2.length co23) x7_2) ∧ (Below w.heap.size w w')) ?_ ?_
          rotate_left
          ·intro hJ1_6_9
           refine join_ (σ := Value × Value) 6 #[true, true, true, true, true, true, false, true, true, true, true, true, false, false, false, false, false] (fun s_ => [(40, s_.1), (48, s_.2), (49, .string (strOfNums y219)), (50, .agg #[.bool false, .string (strOfNums y219)])]) (fun s_ w' => (w'.cell? (ad215.add (x8_2).toNat) = some (.slice A215_0 (rd_L6 l0 x8_2).length c215_0)) ∧ (Kd.R k36 36 w' w.heap.size (fun _ => True) s_.1 y212) ∧ (Kd.R (Kd.int .u8) 5 w' w.heap.size (fun _ => True) s_.2 y219) ∧ (Kd.N (Kd.slice 36 k36) 28 w' w.heap.size (fun k_ => some k_ ≠ (s_.1 : Value).ownBlock ∧ some k_ ≠ (s_.2 : Value).ownBlock) (.slice Ao23 x7_2.length co23) x7_2) ∧ (Below w.heap.size w w')) ?_ ?_
           rotate_left
           ·intro hJ1_9_10
            refine join_ (σ := Value × Value) 6 #[true, false, true, true, true, true, false, true, true, true, true, true, true, false, false, false, false] (fun s_ => [(48, s_.1), (49, .string (strOfNums y219)), (51, s_.2), (50, .agg #[.bool false, .string (strOfNums y219)])]) (fun s_ w' => (w'.cell? (ad215.add (x8_2).toNat) = some (.slice A215_0 (rd_L6 l0 x8_2).length c215_0)) ∧ (Kd.R (Kd.int .u8) 5 w' w.heap.size (fun _ => True) s_.1 y219) ∧ (Kd.R k36 36 w' w.heap.size (fun _ => True) s_.2 y222) ∧ (Kd.N (Kd.slice 36 k36) 28 w' w.heap.size (fun k_ => some k_ ≠ (s_.1 : Value).ownBlock ∧ some k_ ≠ (s_.2 : Value).ownBlock) (.slice Ao23 x7_2.length co23) x7_2) ∧ (Below w.heap.size w w')) ?_ ?_
            rotate_left
            ·intro hJ9_10_12
             refine join_ (σ := Value × Value) 8 #[true, true, true, true, true, true, true, true, true, false, false, false, false, false, false, false, false] (fun s_ => [(40, s_.1), (45, s_.2)]) (fun s_ w' => (w'.cell? (ad215.add (x8_2).toNat) = some (.slice A215_0 (rd_L6 l0 x8_2).length c215_0)) ∧ (Kd.R k36 36 w' w.heap.size (fun _ => True) s_.2 y216) ∧ (Kd.N (Kd.slice 36 k36) 28 w' w.heap.size (fun k_ => some k_ ≠ (s_.2 : Value).ownBlock) (.slice Ao23 x7_2.length co23) x7_2) ∧ (Below w.heap.size w w')) ?_ ?_
             rotate_left
             ·intro hJ1_6
              refine join_ (σ := Value × Value) 8 #[true, true, true, true, true, true, false, true, true, true, false, false, false, false, false, false, false] (fun s_ => [(40, s_.1), (48, s_.2)]) (fun s_ w' => (w'.cell? (ad215.add (x8_2).toNat) = some (.slice A215_0 (rd_L6 l0 x8_2).length c215_0)) ∧ (Kd.R k36 36 w' w.heap.size (fun _ => True) s_.1 y212) ∧ (Kd.R (Kd.int .u8) 5 w' w.heap.size (fun _ => True) s_.2 y219) ∧ (Kd.N (Kd.slice 36 k36) 28 w' w.heap.size (fun k_ => some k_ ≠ (s_.1 : Value).ownBlock ∧ some k_ ≠ (s_.2 : Value).ownBlock) (.slice Ao23 x7_2.length co23) x7_2) ∧ (Below w.heap.size w w')) ?_ ?_
              rotate_left
              ·intro hJ1_9
               refine join_ (σ := Value) 7 #[true, false, true, true, true, true, false, true, true, true, true, true, false, false, false, false, false] (fun s_ => [(48, s_), (49, .string (strOfNums y219)), (50, .agg #[.bool false, .string (strOfNums y219)])]) (fun s_ w' => (w'.cell? (ad215.add (x8_2).toNat) = some (.slice A215_0 (rd_L6 l0 x8_2).length c215_0)) ∧ (Kd.R (Kd.int .u8) 5 w' w.heap.size (fun _ => True) s_ y219) ∧ (Kd.N (Kd.slice 36 k36) 28 w' w.heap.size (fun k_ => some k_ ≠ (s_ : Value).ownBlock) (.slice Ao23 x7_2.length co23) x7_2) ∧ (Below w.heap.size w w')) ?_ ?_
               rotate_left
               ·intro hJ9_10
                refine join_ (σ := Value) 9 #[true, true, true, true, true, true, false, true, true, false, false, false, false, false, false, false, false] (fun s_ => [(40, s_)]) (fun s_ w' => (w'.cell? (ad215.add (x8_2).toNat) = some (.slice A215_0 (rd_L6 l0 x8_2).length c215_0)) ∧ (Kd.R k36 36 w' w.heap.size (fun _ => True) s_ y212) ∧ (Kd.N (Kd.slice 36 k36) 28 w' w.heap.size (fun k_ => some k_ ≠ (s_ : Value).ownBlock) (.slice Ao23 x7_2.length co23) x7_2) ∧ (Below w.heap.size w w')) ?_ ?_
                rotate_left
                ·intro hJ1
                 refine join_ (σ := Value) 9 #[true, false, true, true, true, true, false, true, true, true, false, false, false, false, false, false, false] (fun s_ => [(48, s_)]) (fun s_ w' => (w'.cell? (ad215.add (x8_2).toNat) = some (.slice A215_0 (rd_L6 l0 x8_2).length c215_0)) ∧ (Kd.R (Kd.int .u8) 5 w' w.heap.size (fun _ => True) s_ y219) ∧ (Kd.N (Kd.slice 36 k36) 28 w' w.heap.size (fun k_ => some k_ ≠ (s_ : Value).ownBlock) (.slice Ao23 x7_2.length co23) x7_2) ∧ (Below w.heap.size w w')) ?_ ?_
                 rotate_left
                 ·intro hJ9
                  refine two_ (i := 1) (j := 9) (Ni := some 40) (Nj := some 48) #[true, true, true, true, true, true, false, true, true, false, false, false, false, false, false, false, false] #[true, false, true, true, true, true, false, true, true, true, false, false, false, false, false, false, false] rfl rfl rfl rfl (two_of HT_.out (by kernel_rfl)) (by decide) (by decide) (fun K hK => ?_) (fun K hK => ?_)
                  ·skip
                   refine Kd.R_lit_step k36 _ 36 ?hg (N := 40) ?hd (xs := ([] : List (S36))) (inner := []) (ok := fun _ => True) (okp := fun _ => True) ?hr ?hp (fun _ hk => hk) trivial (Below.refl _ _) (Nat.le_refl _) (by simp) ?_; (case hd => rfl); (case hg => rfl); (case hr => first | (go_simp; done) | (go_simp; rfl) | (go_simp; simp (disch := omega) only [Go.u8_and63, Go.u8_and31, Go.u8_and15, Go.u8_and7, Go.u8_or128, Go.u8_or192, Go.u8_or224, Go.u8_or240, m64]; done)); (case hp => exact (Reps.none _ _))
                   intro v213 w25 ho26 hb hg_ hnew_
                   clear hg_ hnew_
                   (first | rw [← Ny212.out] at ho26 | (simp only [Int.reduceToNat] at ho26; rw [← Ny212.out] at ho26))
                   have n0_ := Aside0.mk (Kd.N_elder' (mvN HO_7.out) (Kd.R_base ho26) hb)
                   have n1_ := Aside0.mk (Kd.R_lower ho26 (below_size (mvB HB.out)))
                   have n2_ := Aside0.mk (below_step (mvB HB.out) hb)
                   clear HO_7
                   clear HB
                   have HO_7 := n0_
                   have HO214 := n1_
                   have HB := n2_
                   clear n0_ n1_ n2_
                   clear hb ho26
                   refine hK.out _ _ (((HB.out.cell (World.block_lt_of_cell? w _ hw215_0)).trans hw215_0)) (fun hHeld => ?_)
                   clear hK K
                   refine norm_ (a' := ?_) ?_ ?_
                   rotate_left
                   ·show Act.put _ (some 40) _ = _
                    simp only [Act.put, List.setIfInBounds_toArray, List.set_cons_zero, List.set_cons_succ, i64_w, i32_w]
                    rfl
                   exact norm_ (by first | (simp only [putAll, Act.put, List.setIfInBounds_toArray, List.set_cons_zero, List.set_cons_succ]; done) | (simp only [putAll, Act.put, List.setIfInBounds_toArray, List.set_cons_zero, List.set_cons_succ]; rfl)) (hJ1 (v213) _ ⟨hHeld, (mvR HO214.out), (by (with_reducible repeat (first | apply Kd.N_alloc | apply Kd.N_drewN | apply Kd.N_drew)); exact Kd.N_mono HO_7.out (fun _ hk => hk.2)), (mvB HB.out)⟩)
                  ·skip
                   refine Kd.R_lit_step (Kd.int .u8) _ 5 ?hg (N := 48) ?hd (xs := ([(x8_2) % 256] : List Int)) (inner := [.int .u8 ((x8_2) % 256)]) (ok := fun _ => True) (okp := fun _ => True) ?hr ?hp (fun _ hk => hk) trivial (Below.refl _ _) (Nat.le_refl _) (by simp) ?_; (case hd => rfl); (case hg => rfl); (case hr => first | (go_simp; done) | (go_simp; rfl) | (go_simp; simp (disch := omega) only [Go.u8_and63, Go.u8_and31, Go.u8_and15, Go.u8_and7, Go.u8_or128, Go.u8_or192, Go.u8_or224, Go.u8_or240, m64]; done)); (case hp => exact (Reps.one (show Kd.M (Kd.int .u8) _ _ _ ((x8_2) % 256) [.int .u8 ((x8_2) % 256)] from rfl) (Reps.none _ _)))
                   intro v220 w25 ho26 hb hg_ hnew_
                   clear hg_ hnew_
                   (first | rw [← Ny219.out] at ho26 | (simp only [Int.reduceToNat] at ho26; rw [← Ny219.out] at ho26))
                   have n0_ := Aside0.mk (Kd.N_elder' (mvN HO_7.out) (Kd.R_base ho26) hb)
                   have n1_ := Aside0.mk (Kd.R_lower ho26 (below_size (mvB HB.out)))
                   have n2_ := Aside0.mk (below_step (mvB HB.out) hb)
                   clear HO_7
                   clear HB
                   have HO_7 := n0_
                   have HO221 := n1_
                   have HB := n2_
                   clear n0_ n1_ n2_
                   clear hb ho26
                   refine hK.out _ _ (((HB.out.cell (World.block_lt_of_cell? w _ hw215_0)).trans hw215_0)) (fun hHeld => ?_)
                   clear hK K
                   refine norm_ (a' := ?_) ?_ ?_
                   rotate_left
                   ·show Act.put _ (some 48) _ = _
                    simp only [Act.put, List.setIfInBounds_toArray, List.set_cons_zero, List.set_cons_succ, i64_w, i32_w]
                    rfl
                   exact norm_ (by first | (simp only [putAll, Act.put, List.setIfInBounds_toArray, List.set_cons_zero, List.set_cons_succ]; done) | (simp only [putAll, Act.put, List.setIfInBounds_toArray, List.set_cons_zero, List.set_cons_succ]; rfl)) (hJ9 (v220) _ ⟨hHeld, (mvR HO221.out), (by (with_reducible repeat (first | apply Kd.N_alloc | apply Kd.N_drewN | apply Kd.N_drew)); exact Kd.N_mono HO_7.out (fun _ hk => hk.2)), (mvB HB.out)⟩)
                 ·skip
                  rintro v220 w27 ⟨hS_, h0_, h1_, h2_⟩
                  have n0_ : Aside0 (Kd.R (Kd.int .u8) 5 w27 w.heap.size (fun _ => True) v220 y219) := ⟨h0_⟩
                  have n1_ : Aside0 (Kd.N (Kd.slice 36 k36) 28 w27 w.heap.size (fun k_ => some k_ ≠ (v220 : Value).ownBlock) (.slice Ao23 x7_2.length co23) x7_2) := ⟨h1_⟩
                  have n2_ : Aside0 (Below w.heap.size w w27) := ⟨h2_⟩
                  clear HO_7
                  clear HB
                  clear h0_ h1_ h2_
                  have HO221 := n0_
                  have HO_7 := n1_
                  have HB := n2_
                  clear n0_ n1_ n2_
                  have hHeld : w27.cell? (ad215.add (x8_2).toNat) = some (.slice A215_0 (rd_L6 l0 x8_2).length c215_0) := hS_
                  refine norm_ (a' := ?_) ?_ ?_
                  rotate_left
                  ·simp only [putAll, Act.put, List.setIfInBounds_toArray, List.set_cons_zero, List.set_cons_succ]
                   rfl
                  refine two_ (i := 1) (j := 10) (Ni := some 40) (Nj := some 49) #[true, true, true, true, true, true, false, true, true, true, false, false, false, false, false, false, false] #[true, false, true, true, true, true, false, true, true, true, true, false, false, false, false, false, false] rfl rfl rfl rfl (two_of HT_.out (by kernel_rfl)) (by decide) (by decide) (fun K hK => ?_) (fun K hK => ?_)
                  ·skip
                   refine Kd.R_lit_step k36 _ 36 ?hg (N := 40) ?hd (xs := ([] : List (S36))) (inner := []) (ok := fun _ => True) (okp := fun _ => True) ?hr ?hp (fun _ hk => hk) trivial (Below.refl _ _) (Nat.le_refl _) (by simp) ?_; (case hd => rfl); (case hg => rfl); (case hr => first | (go_simp; done) | (go_simp; rfl) | (go_simp; simp (disch := omega) only [Go.u8_and63, Go.u8_and31, Go.u8_and15, Go.u8_and7, Go.u8_or128, Go.u8_or192, Go.u8_or224, Go.u8_or240, m64]; done)); (case hp => exact (Reps.none _ _))
                   intro v213 w28 ho29 hb hg_ hnew_
                   clear hg_ hnew_
                   (first | rw [← Ny212.out] at ho29 | (simp only [Int.reduceToNat] at ho29; rw [← Ny212.out] at ho29))
                   have n0_ := Aside0.mk (Kd.N_elder' (mvN HO_7.out) (Kd.R_base ho29) hb)
                   have n1_ := Aside0.mk (Kd.R_below (mvR HO221.out) hb)
                   have n2_ := Aside0.mk (Kd.R_lower ho29 (below_size (mvB HB.out)))
                   have n3_ := Aside0.mk (below_step (mvB HB.out) hb)
                   clear HO_7
                   clear HO221
                   clear HB
                   have HO_7 := n0_
                   have HO221 := n1_
                   have HO214 := n2_
                   have HB := n3_
                   clear n0_ n1_ n2_ n3_
                   clear hb ho29
                   refine hK.out _ _ (((HB.out.cell (World.block_lt_of_cell? w _ hw215_0)).trans hw215_0)) (fun hHeld => ?_)
                   clear hK K
                   refine norm_ (a' := ?_) ?_ ?_
                   rotate_left
                   ·show Act.put _ (some 40) _ = _
                    simp only [Act.put, List.setIfInBounds_toArray, List.set_cons_zero, List.set_cons_succ, i64_w, i32_w]
                    rfl
                   exact norm_ (by first | (simp only [putAll, Act.put, List.setIfInBounds_toArray, List.set_cons_zero, List.set_cons_succ]; done) | (simp only [putAll, Act.put, List.setIfInBounds_toArray, List.set_cons_zero, List.set_cons_succ]; rfl)) (hJ1_9 (v213, v220) _ ⟨hHeld, (mvR HO214.out), (mvR HO221.out), (by (with_reducible repeat (first | apply Kd.N_alloc | apply Kd.N_drewN | apply Kd.N_drew)); exact Kd.N_mono HO_7.out (fun _ hk => ⟨hk.2, hk.1⟩)), (mvB HB.out)⟩)
                  ·skip
                   have hcv28 := own_string (P := Tryd.prog) Tryd.underlying34 Tryd.underlying5 Tryd.underlying9 (Kd.own_of_R HO221.out)
                   refine value_ (w1 := ?_) (v := ?_) (by rfl) rfl ?_ ?_
                   rotate_left 2
                   ·go_simp
                    constructor
                    ·rfl
                    ·rfl
                   clear hcv28
                   refine hK.out _ _ (((HB.out.cell (World.block_lt_of_cell? w _ hw215_0)).trans hw215_0)) (fun hHeld => ?_)
                   clear hK K
                   refine norm_ (a' := ?_) ?_ ?_
                   rotate_left
                   ·show Act.put _ (some 49) _ = _
                    simp only [Act.put, List.setIfInBounds_toArray, List.set_cons_zero, List.set_cons_succ, i64_w, i32_w]
                    rfl
                   refine pure_ (i := 11) (N := some 50) (v := ?_) (a' := ?_) #[true, false, true, true, true, true, false, true, true, true, true, true, false, false, false, false, false] rfl rfl (any_of HT_.out (by kernel_rfl)) (fun _ _ _ h => h) (Or.inl ⟨by rfl, ?_⟩) ?_ ?_
                   rotate_left
                   ·intro w'
                    go_simp
                    with_reducible rfl
                   rotate_left
                   ·simp only [Act.put, List.setIfInBounds_toArray, List.set_cons_zero, List.set_cons_succ, i64_w, i32_w]
                    rfl
                   exact norm_ (by first | (simp only [putAll, Act.put, List.setIfInBounds_toArray, List.set_cons_zero, List.set_cons_succ]; done) | (simp only [putAll, Act.put, List.setIfInBounds_toArray, List.set_cons_zero, List.set_cons_succ]; rfl)) (hJ9_10 (v220) _ ⟨hHeld, (mvR HO221.out), (mvN HO_7.out), (mvB HB.out)⟩)
                ·skip
                 rintro v213 w27 ⟨hS_, h0_, h1_, h2_⟩
                 have n0_ : Aside0 (Kd.R k36 36 w27 w.heap.size (fun _ => True) v213 y212) := ⟨h0_⟩
                 have n1_ : Aside0 (Kd.N (Kd.slice 36 k36) 28 w27 w.heap.size (fun k_ => some k_ ≠ (v213 : Value).ownBlock) (.slice Ao23 x7_2.length co23) x7_2) := ⟨h1_⟩
                 have n2_ : Aside0 (Below w.heap.size w w27) := ⟨h2_⟩
                 clear HO_7
                 clear HB
                 clear h0_ h1_ h2_
                 have HO214 := n0_
                 have HO_7 := n1_
                 have HB := n2_
                 clear n0_ n1_ n2_
                 have hHeld : w27.cell? (ad215.add (x8_2).toNat) = some (.slice A215_0 (rd_L6 l0 x8_2).length c215_0) := hS_
                 refine norm_ (a' := ?_) ?_ ?_
                 rotate_left
                 ·simp only [putAll, Act.put, List.setIfInBounds_toArray, List.set_cons_zero, List.set_cons_succ]
                  rfl
                 refine two_ (i := 6) (j := 9) (Ni := some 45) (Nj := some 48) #[true, true, true, true, true, true, true, true, true, false, false, false, false, false, false, false, false] #[true, true, true, true, true, true, false, true, true, true, false, false, false, false, false, false, false] rfl rfl rfl rfl (two_of HT_.out (by kernel_rfl)) (by decide) (by decide) (fun K hK => ?_) (fun K hK => ?_)
                 ·skip
                  refine Kd.R_append_rows_step k36 (w0 := w) w.heap.size (by rfl) (.tmp 40) (.tmp 44) 28 36 (.agg #[(.bool false), (.string ⟨#[]⟩)]) 24 rfl Tryd.underlying28 info36 rfl (by decide) (by omega) v213 y212 (rd_L6 l0 x8_2) _ _ _ (fun _ => True) (fun _ => False) rfl rfl ?aO ?aR (fun _ _ h => h) (fun _ h => h.elim) ?aF ?aB ?aS ?aL ?_
                  (case aR => repeat (first | exact (Kd.C_below HR215_0.out HB.out) | (with_reducible refine Kd.C_alloc ?_ _) | (with_reducible refine Kd.C_drewN ?_ _) | (with_reducible refine Kd.C_drew ?_)))
                  (case aB => exact (mvB HB.out))
                  (case aF => exact (fun _ _ => trivial))
                  (case aO => exact (mvR HO214.out))
                  (case aS => exact (below_size (mvB HB.out)))
                  (case aL => have := LMc20.out; omega)
                  intro v217 w28 ho hb hg hat
                  rw [← Ny216.out] at ho
                  have n0_ := Aside0.mk (Kd.N_afterv (ok := (fun _ => True)) (by (with_reducible repeat (first | apply Kd.N_alloc | apply Kd.N_drewN | apply Kd.N_drew)); exact Kd.N_mono HO_7.out (fun _ hk => ⟨trivial, hk⟩)) hg hat)
                  have n1_ := Aside0.mk (hb)
                  have n2_ := Aside0.mk (ho)
                  clear HO_7
                  clear HB
                  clear HO214
                  have HO_7 := n0_
                  have HB := n1_
                  have HO218 := n2_
                  clear n0_ n1_ n2_
                  clear ho hb hg hat
                  refine hK.out _ _ (((HB.out.cell (World.block_lt_of_cell? w _ hw215_0)).trans hw215_0)) (fun hHeld => ?_)
                  clear hK K
                  refine norm_ (a' := ?_) ?_ ?_
                  rotate_left
                  ·show Act.put _ (some 45) _ = _
                   simp only [Act.put, List.setIfInBounds_toArray, List.set_cons_zero, List.set_cons_succ, i64_w, i32_w]
                   rfl
                  exact norm_ (by first | (simp only [putAll, Act.put, List.setIfInBounds_toArray, List.set_cons_zero, List.set_cons_succ]; done) | (simp only [putAll, Act.put, List.setIfInBounds_toArray, List.set_cons_zero, List.set_cons_succ]; rfl)) (hJ1_6 (v213, v217) _ ⟨hHeld, (mvR HO218.out), (by (with_reducible repeat (first | apply Kd.N_alloc | apply Kd.N_drewN | apply Kd.N_drew)); exact Kd.N_mono HO_7.out (fun _ hk => hk.2)), (mvB HB.out)⟩)
                 ·skip
                  refine Kd.R_lit_step (Kd.int .u8) _ 5 ?hg (N := 48) ?hd (xs := ([(x8_2) % 256] : List Int)) (inner := [.int .u8 ((x8_2) % 256)]) (ok := fun _ => True) (okp := fun _ => True) ?hr ?hp (fun _ hk => hk) trivial (Below.refl _ _) (Nat.le_refl _) (by simp) ?_; (case hd => rfl); (case hg => rfl); (case hr => first | (go_simp; done) | (go_simp; rfl) | (go_simp; simp (disch := omega) only [Go.u8_and63, Go.u8_and31, Go.u8_and15, Go.u8_and7, Go.u8_or128, Go.u8_or192, Go.u8_or224, Go.u8_or240, m64]; done)); (case hp => exact (Reps.one (show Kd.M (Kd.int .u8) _ _ _ ((x8_2) % 256) [.int .u8 ((x8_2) % 256)] from rfl) (Reps.none _ _)))
                  intro v220 w28 ho29 hb hg_ hnew_
                  clear hg_ hnew_
                  (first | rw [← Ny219.out] at ho29 | (simp only [Int.reduceToNat] at ho29; rw [← Ny219.out] at ho29))
                  have n0_ := Aside0.mk (Kd.N_elder' (mvN HO_7.out) (Kd.R_base ho29) hb)
                  have n1_ := Aside0.mk (Kd.R_below (mvR HO214.out) hb)
                  have n2_ := Aside0.mk (Kd.R_lower ho29 (below_size (mvB HB.out)))
                  have n3_ := Aside0.mk (below_step (mvB HB.out) hb)
                  clear HO_7
                  clear HO214
                  clear HB
                  have HO_7 := n0_
                  have HO214 := n1_
                  have HO221 := n2_
                  have HB := n3_
                  clear n0_ n1_ n2_ n3_
                  clear hb ho29
                  refine hK.out _ _ (((HB.out.cell (World.block_lt_of_cell? w _ hw215_0)).trans hw215_0)) (fun hHeld => ?_)
                  clear hK K
                  refine norm_ (a' := ?_) ?_ ?_
                  rotate_left
                  ·show Act.put _ (some 48) _ = _
                   simp only [Act.put, List.setIfInBounds_toArray, List.set_cons_zero, List.set_cons_succ, i64_w, i32_w]
                   rfl
                  exact norm_ (by first | (simp only [putAll, Act.put, List.setIfInBounds_toArray, List.set_cons_zero, List.set_cons_succ]; done) | (simp only [putAll, Act.put, List.setIfInBounds_toArray, List.set_cons_zero, List.set_cons_succ]; rfl)) (hJ1_9 (v213, v220) _ ⟨hHeld, (mvR HO214.out), (mvR HO221.out), (mvN HO_7.out), (mvB HB.out)⟩)
               ·skip
                rintro v220 w28 ⟨hS_, h0_, h1_, h2_⟩
                have n0_ : Aside0 (Kd.R (Kd.int .u8) 5 w28 w.heap.size (fun _ => True) v220 y219) := ⟨h0_⟩
                have n1_ : Aside0 (Kd.N (Kd.slice 36 k36) 28 w28 w.heap.size (fun k_ => some k_ ≠ (v220 : Value).ownBlock) (.slice Ao23 x7_2.length co23) x7_2) := ⟨h1_⟩
                have n2_ : Aside0 (Below w.heap.size w w28) := ⟨h2_⟩
                clear HO_7
                clear HB
                clear h0_ h1_ h2_
                have HO221 := n0_
                have HO_7 := n1_
                have HB := n2_
                clear n0_ n1_ n2_
                have hHeld : w28.cell? (ad215.add (x8_2).toNat) = some (.slice A215_0 (rd_L6 l0 x8_2).length c215_0) := hS_
                refine norm_ (a' := ?_) ?_ ?_
                rotate_left
                ·simp only [putAll, Act.put, List.setIfInBounds_toArray, List.set_cons_zero, List.set_cons_succ]
                 rfl
                refine two_ (i := 1) (j := 12) (Ni := some 40) (Nj := some 51) #[true, true, true, true, true, true, false, true, true, true, true, true, false, false, false, false, false] #[true, false, true, true, true, true, false, true, true, true, true, true, true, false, false, false, false] rfl rfl rfl rfl (two_of HT_.out (by kernel_rfl)) (by decide) (by decide) (fun K hK => ?_) (fun K hK => ?_)
                ·skip
                 refine Kd.R_lit_step k36 _ 36 ?hg (N := 40) ?hd (xs := ([] : List (S36))) (inner := []) (ok := fun _ => True) (okp := fun _ => True) ?hr ?hp (fun _ hk => hk) trivial (Below.refl _ _) (Nat.le_refl _) (by simp) ?_; (case hd => rfl); (case hg => rfl); (case hr => first | (go_simp; done) | (go_simp; rfl) | (go_simp; simp (disch := omega) only [Go.u8_and63, Go.u8_and31, Go.u8_and15, Go.u8_and7, Go.u8_or128, Go.u8_or192, Go.u8_or224, Go.u8_or240, m64]; done)); (case hp => exact (Reps.none _ _))
                 intro v213 w29 ho30 hb hg_ hnew_
                 clear hg_ hnew_
                 (first | rw [← Ny212.out] at ho30 | (simp only [Int.reduceToNat] at ho30; rw [← Ny212.out] at ho30))
                 have n0_ := Aside0.mk (Kd.N_elder' (mvN HO_7.out) (Kd.R_base ho30) hb)
                 have n1_ := Aside0.mk (Kd.R_below (mvR HO221.out) hb)
                 have n2_ := Aside0.mk (Kd.R_lower ho30 (below_size (mvB HB.out)))
                 have n3_ := Aside0.mk (below_step (mvB HB.out) hb)
                 clear HO_7
                 clear HO221
                 clear HB
                 have HO_7 := n0_
                 have HO221 := n1_
                 have HO214 := n2_
                 have HB := n3_
                 clear n0_ n1_ n2_ n3_
                 clear hb ho30
                 refine hK.out _ _ (((HB.out.cell (World.block_lt_of_cell? w _ hw215_0)).trans hw215_0)) (fun hHeld => ?_)
                 clear hK K
                 refine norm_ (a' := ?_) ?_ ?_
                 rotate_left
                 ·show Act.put _ (some 40) _ = _
                  simp only [Act.put, List.setIfInBounds_toArray, List.set_cons_zero, List.set_cons_succ, i64_w, i32_w]
                  rfl
                 exact norm_ (by first | (simp only [putAll, Act.put, List.setIfInBounds_toArray, List.set_cons_zero, List.set_cons_succ]; done) | (simp only [putAll, Act.put, List.setIfInBounds_toArray, List.set_cons_zero, List.set_cons_succ]; rfl)) (hJ1_9_10 (v213, v220) _ ⟨hHeld, (mvR HO214.out), (mvR HO221.out), (by (with_reducible repeat (first | apply Kd.N_alloc | apply Kd.N_drewN | apply Kd.N_drew)); exact Kd.N_mono HO_7.out (fun _ hk => ⟨hk.2, hk.1⟩)), (mvB HB.out)⟩)
                ·skip
                 refine Kd.R_lit_step k36 _ 36 ?hg (N := 51) ?hd (xs := ([(⟨false, strOfNums y219⟩ : S36)] : List (S36))) (inner := [.bool false, .string (strOfNums y219)]) (ok := fun _ => True) (okp := fun _ => True) ?hr ?hp (fun _ hk => hk) trivial (Below.refl _ _) (Nat.le_refl _) (by simp) ?_; (case hd => rfl); (case hg => rfl); (case hr => first | (go_simp; done) | (go_simp; rfl) | (go_simp; simp (disch := omega) only [Go.u8_and63, Go.u8_and31, Go.u8_and15, Go.u8_and7, Go.u8_or128, Go.u8_or192, Go.u8_or224, Go.u8_or240, m64]; done)); (case hp => exact (Reps.c2 (show Kd.M k36 _ _ _ (⟨false, strOfNums y219⟩ : S36) [.bool false, .string (strOfNums y219)] from (k36_mkM _ _ _ (⟨false, strOfNums y219⟩ : S36) )) (Reps.none _ _)))
                 intro v223 w29 ho30 hb hg_ hnew_
                 clear hg_ hnew_
                 (first | rw [← Ny222.out] at ho30 | (simp only [Int.reduceToNat] at ho30; rw [← Ny222.out] at ho30))
                 have n0_ := Aside0.mk (Kd.N_elder' (mvN HO_7.out) (Kd.R_base ho30) hb)
                 have n1_ := Aside0.mk (Kd.R_below (mvR HO221.out) hb)
                 have n2_ := Aside0.mk (Kd.R_lower ho30 (below_size (mvB HB.out)))
                 have n3_ := Aside0.mk (below_step (mvB HB.out) hb)
                 clear HO_7
                 clear HO221
                 clear HB
                 have HO_7 := n0_
                 have HO221 := n1_
                 have HO224 := n2_
                 have HB := n3_
                 clear n0_ n1_ n2_ n3_
                 clear hb ho30
                 refine hK.out _ _ (((HB.out.cell (World.block_lt_of_cell? w _ hw215_0)).trans hw215_0)) (fun hHeld => ?_)
                 clear hK K
                 refine norm_ (a' := ?_) ?_ ?_
                 rotate_left
                 ·show Act.put _ (some 51) _ = _
                  simp only [Act.put, List.setIfInBounds_toArray, List.set_cons_zero, List.set_cons_succ, i64_w, i32_w]
                  rfl
                 exact norm_ (by first | (simp only [putAll, Act.put, List.setIfInBounds_toArray, List.set_cons_zero, List.set_cons_succ]; done) | (simp only [putAll, Act.put, List.setIfInBounds_toArray, List.set_cons_zero, List.set_cons_succ]; rfl)) (hJ9_10_12 (v220, v223) _ ⟨hHeld, (mvR HO221.out), (mvR HO224.out), (mvN HO_7.out), (mvB HB.out)⟩)
              ·skip
               rintro ⟨v213, v220⟩ w29 ⟨hS_, h0_, h1_, h2_, h3_⟩
               have n0_ : Aside0 (Kd.R k36 36 w29 w.heap.size (fun _ => True) v213 y212) := ⟨h0_⟩
               have n1_ : Aside0 (Kd.R (Kd.int .u8) 5 w29 w.heap.size (fun _ => True) v220 y219) := ⟨h1_⟩
               have n2_ : Aside0 (Kd.N (Kd.slice 36 k36) 28 w29 w.heap.size (fun k_ => some k_ ≠ (v213 : Value).ownBlock ∧ some k_ ≠ (v220 : Value).ownBlock) (.slice Ao23 x7_2.length co23) x7_2) := ⟨h2_⟩
               have n3_ : Aside0 (Below w.heap.size w w29) := ⟨h3_⟩
               clear HO_7
               clear HB
               clear h0_ h1_ h2_ h3_
               have HO214 := n0_
               have HO221 := n1_
               have HO_7 := n2_
               have HB := n3_
               clear n0_ n1_ n2_ n3_
               have hHeld : w29.cell? (ad215.add (x8_2).toNat) = some (.slice A215_0 (rd_L6 l0 x8_2).length c215_0) := hS_
               refine norm_ (a' := ?_) ?_ ?_
               rotate_left
               ·simp only [putAll, Act.put, List.setIfInBounds_toArray, List.set_cons_zero, List.set_cons_succ]
                rfl
               refine two_ (i := 6) (j := 10) (Ni := some 45) (Nj := some 49) #[true, true, true, true, true, true, true, true, true, true, false, false, false, false, false, false, false] #[true, true, true, true, true, true, false, true, true, true, true, false, false, false, false, false, false] rfl rfl rfl rfl (two_of HT_.out (by kernel_rfl)) (by decide) (by decide) (fun K hK => ?_) (fun K hK => ?_)
               ·skip
                refine Kd.R_append_rows_step k36 (w0 := w) w.heap.size (by rfl) (.tmp 40) (.tmp 44) 28 36 (.agg #[(.bool false), (.string ⟨#[]⟩)]) 24 rfl Tryd.underlying28 info36 rfl (by decide) (by omega) v213 y212 (rd_L6 l0 x8_2) _ _ _ (fun _ => True) (fun _ => False) rfl rfl ?aO ?aR (fun _ _ h => h) (fun _ h => h.elim) ?aF ?aB ?aS ?aL ?_
                (case aR => repeat (first | exact (Kd.C_below HR215_0.out HB.out) | (with_reducible refine Kd.C_alloc ?_ _) | (with_reducible refine Kd.C_drewN ?_ _) | (with_reducible refine Kd.C_drew ?_)))
                (case aB => exact (mvB HB.out))
                (case aF => exact (fun _ _ => trivial))
                (case aO => exact (mvR HO214.out))
                (case aS => exact (below_size (mvB HB.out)))
                (case aL => have := LMc20.out; omega)
                intro v217 w30 ho hb hg hat
                rw [← Ny216.out] at ho
                have n0_ := Aside0.mk (Kd.N_afterv (ok := (fun k_ => some k_ ≠ (v220 : Value).ownBlock)) (by (with_reducible repeat (first | apply Kd.N_alloc | apply Kd.N_drewN | apply Kd.N_drew)); exact Kd.N_mono HO_7.out (fun _ hk => ⟨hk.2, hk.1⟩)) hg hat)
                have n1_ := Aside0.mk (Kd.R_over' (mvR HO221.out) (Kd.R_typed (mvR HO214.out)) (by decide) hg)
                have n2_ := Aside0.mk (hb)
                have n3_ := Aside0.mk (ho)
                clear HO_7
                clear HO221
                clear HB
                clear HO214
                have HO_7 := n0_
                have HO221 := n1_
                have HB := n2_
                have HO218 := n3_
                clear n0_ n1_ n2_ n3_
                clear ho hb hg hat
                refine hK.out _ _ (((HB.out.cell (World.block_lt_of_cell? w _ hw215_0)).trans hw215_0)) (fun hHeld => ?_)
                clear hK K
                refine norm_ (a' := ?_) ?_ ?_
                rotate_left
                ·show Act.put _ (some 45) _ = _
                 simp only [Act.put, List.setIfInBounds_toArray, List.set_cons_zero, List.set_cons_succ, i64_w, i32_w]
                 rfl
                exact norm_ (by first | (simp only [putAll, Act.put, List.setIfInBounds_toArray, List.set_cons_zero, List.set_cons_succ]; done) | (simp only [putAll, Act.put, List.setIfInBounds_toArray, List.set_cons_zero, List.set_cons_succ]; rfl)) (hJ1_6_9 (v213, v217, v220) _ ⟨hHeld, (mvR HO218.out), (mvR HO221.out), (by (with_reducible repeat (first | apply Kd.N_alloc | apply Kd.N_drewN | apply Kd.N_drew)); exact Kd.N_mono HO_7.out (fun _ hk => ⟨hk.2, hk.1⟩)), (mvB HB.out)⟩)
               ·skip
                have hcv30 := own_string (P := Tryd.prog) Tryd.underlying34 Tryd.underlying5 Tryd.underlying9 (Kd.own_of_R HO221.out)
                refine value_ (w1 := ?_) (v := ?_) (by rfl) rfl ?_ ?_
                rotate_left 2
                ·go_simp
                 constructor
                 ·rfl
                 ·rfl
                clear hcv30
                refine hK.out _ _ (((HB.out.cell (World.block_lt_of_cell? w _ hw215_0)).trans hw215_0)) (fun hHeld => ?_)
                clear hK K
                refine norm_ (a' := ?_) ?_ ?_
                rotate_left
                ·show Act.put _ (some 49) _ = _
                 simp only [Act.put, List.setIfInBounds_toArray, List.set_cons_zero, List.set_cons_succ, i64_w, i32_w]
                 rfl
                refine pure_ (i := 11) (N := some 50) (v := ?_) (a' := ?_) #[true, true, true, true, true, true, false, true, true, true, true, true, false, false, false, false, false] rfl rfl (any_of HT_.out (by kernel_rfl)) (fun _ _ _ h => h) (Or.inl ⟨by rfl, ?_⟩) ?_ ?_
                rotate_left
                ·intro w'
                 go_simp
                 with_reducible rfl
                rotate_left
                ·simp only [Act.put, List.setIfInBounds_toArray, List.set_cons_zero, List.set_cons_succ, i64_w, i32_w]
                 rfl
                exact norm_ (by first | (simp only [putAll, Act.put, List.setIfInBounds_toArray, List.set_cons_zero, List.set_cons_succ]; done) | (simp only [putAll, Act.put, List.setIfInBounds_toArray, List.set_cons_zero, List.set_cons_succ]; rfl)) (hJ1_9_10 (v213, v220) _ ⟨hHeld, (mvR HO214.out), (mvR HO221.out), (mvN HO_7.out), (mvB HB.out)⟩)
             ·skip
              rintro ⟨v213, v217⟩ w28 ⟨hS_, h0_, h1_, h2_⟩
              have n0_ : Aside0 (Kd.R k36 36 w28 w.heap.size (fun _ => True) v217 y216) := ⟨h0_⟩
              have n1_ : Aside0 (Kd.N (Kd.slice 36 k36) 28 w28 w.heap.size (fun k_ => some k_ ≠ (v217 : Value).ownBlock) (.slice Ao23 x7_2.length co23) x7_2) := ⟨h1_⟩
              have n2_ : Aside0 (Below w.heap.size w w28) := ⟨h2_⟩
              clear HO_7
              clear HB
              clear h0_ h1_ h2_
              have HO218 := n0_
              have HO_7 := n1_
              have HB := n2_
              clear n0_ n1_ n2_
              have hHeld : w28.cell? (ad215.add (x8_2).toNat) = some (.slice A215_0 (rd_L6 l0 x8_2).length c215_0) := hS_
              refine norm_ (a' := ?_) ?_ ?_
              rotate_left
              ·simp only [putAll, Act.put, List.setIfInBounds_toArray, List.set_cons_zero, List.set_cons_succ]
               rfl
              refine one_ (i := 9) (N := some 48) #[true, true, true, true, true, true, true, true, true, true, false, false, false, false, false, false, false] rfl rfl (one_of HT_.out (by kernel_rfl)) (by decide) (fun K hK => ?_)
              refine Kd.R_lit_step (Kd.int .u8) _ 5 ?hg (N := 48) ?hd (xs := ([(x8_2) % 256] : List Int)) (inner := [.int .u8 ((x8_2) % 256)]) (ok := fun _ => True) (okp := fun _ => True) ?hr ?hp (fun _ hk => hk) trivial (Below.refl _ _) (Nat.le_refl _) (by simp) ?_; (case hd => rfl); (case hg => rfl); (case hr => first | (go_simp; done) | (go_simp; rfl) | (go_simp; simp (disch := omega) only [Go.u8_and63, Go.u8_and31, Go.u8_and15, Go.u8_and7, Go.u8_or128, Go.u8_or192, Go.u8_or224, Go.u8_or240, m64]; done)); (case hp => exact (Reps.one (show Kd.M (Kd.int .u8) _ _ _ ((x8_2) % 256) [.int .u8 ((x8_2) % 256)] from rfl) (Reps.none _ _)))
              intro v220 w29 ho30 hb hg_ hnew_
              clear hg_ hnew_
              (first | rw [← Ny219.out] at ho30 | (simp only [Int.reduceToNat] at ho30; rw [← Ny219.out] at ho30))
              have n0_ := Aside0.mk (Kd.N_elder' (mvN HO_7.out) (Kd.R_base ho30) hb)
              have n1_ := Aside0.mk (Kd.R_below (mvR HO218.out) hb)
              have n2_ := Aside0.mk (Kd.R_lower ho30 (below_size (mvB HB.out)))
              have n3_ := Aside0.mk (below_step (mvB HB.out) hb)
              clear HO_7
              clear HO218
              clear HB
              have HO_7 := n0_
              have HO218 := n1_
              have HO221 := n2_
              have HB := n3_
              clear n0_ n1_ n2_ n3_
              clear hb ho30
              refine hK.out _ _ (((HB.out.cell (World.block_lt_of_cell? w _ hw215_0)).trans hw215_0)) (fun hHeld => ?_)
              clear hK K
              refine norm_ (a' := ?_) ?_ ?_
              rotate_left
              ·show Act.put _ (some 48) _ = _
               simp only [Act.put, List.setIfInBounds_toArray, List.set_cons_zero, List.set_cons_succ, i64_w, i32_w]
               rfl
              exact norm_ (by first | (simp only [putAll, Act.put, List.setIfInBounds_toArray, List.set_cons_zero, List.set_cons_succ]; done) | (simp only [putAll, Act.put, List.setIfInBounds_toArray, List.set_cons_zero, List.set_cons_succ]; rfl)) (hJ1_6_9 (v213, v217, v220) _ ⟨hHeld, (mvR HO218.out), (mvR HO221.out), (mvN HO_7.out), (mvB HB.out)⟩)
            ·skip
             rintro ⟨v220, v223⟩ w30 ⟨hS_, h0_, h1_, h2_, h3_⟩
             have n0_ : Aside0 (Kd.R (Kd.int .u8) 5 w30 w.heap.size (fun _ => True) v220 y219) := ⟨h0_⟩
             have n1_ : Aside0 (Kd.R k36 36 w30 w.heap.size (fun _ => True) v223 y222) := ⟨h1_⟩
             have n2_ : Aside0 (Kd.N (Kd.slice 36 k36) 28 w30 w.heap.size (fun k_ => some k_ ≠ (v220 : Value).ownBlock ∧ some k_ ≠ (v223 : Value).ownBlock) (.slice Ao23 x7_2.length co23) x7_2) := ⟨h2_⟩
             have n3_ : Aside0 (Below w.heap.size w w30) := ⟨h3_⟩
             clear HO_7
             clear HB
             clear h0_ h1_ h2_ h3_
             have HO221 := n0_
             have HO224 := n1_
             have HO_7 := n2_
             have HB := n3_
             clear n0_ n1_ n2_ n3_
             have hHeld : w30.cell? (ad215.add (x8_2).toNat) = some (.slice A215_0 (rd_L6 l0 x8_2).length c215_0) := hS_
             refine norm_ (a' := ?_) ?_ ?_
             rotate_left
             ·simp only [putAll, Act.put, List.setIfInBounds_toArray, List.set_cons_zero, List.set_cons_succ]
              rfl
             refine one_ (i := 1) (N := some 40) #[true, true, true, true, true, true, false, true, true, true, true, true, true, false, false, false, false] rfl rfl (one_of HT_.out (by kernel_rfl)) (by decide) (fun K hK => ?_)
             refine Kd.R_lit_step k36 _ 36 ?hg (N := 40) ?hd (xs := ([] : List (S36))) (inner := []) (ok := fun _ => True) (okp := fun _ => True) ?hr ?hp (fun _ hk => hk) trivial (Below.refl _ _) (Nat.le_refl _) (by simp) ?_; (case hd => rfl); (case hg => rfl); (case hr => first | (go_simp; done) | (go_simp; rfl) | (go_simp; simp (disch := omega) only [Go.u8_and63, Go.u8_and31, Go.u8_and15, Go.u8_and7, Go.u8_or128, Go.u8_or192, Go.u8_or224, Go.u8_or240, m64]; done)); (case hp => exact (Reps.none _ _))
             intro v213 w31 ho32 hb hg_ hnew_
             clear hg_ hnew_
             (first | rw [← Ny212.out] at ho32 | (simp only [Int.reduceToNat] at ho32; rw [← Ny212.out] at ho32))
             have n0_ := Aside0.mk (Kd.N_elder' (mvN HO_7.out) (Kd.R_base ho32) hb)
             have n1_ := Aside0.mk (Kd.R_below (mvR HO221.out) hb)
             have n2_ := Aside0.mk (Kd.R_elder' (mvR HO224.out) (Kd.R_base ho32) hb)
             have n3_ := Aside0.mk (Kd.R_lower (Kd.R_new' ho32 (Kd.R_lt (mvR HO224.out))) (below_size (mvB HB.out)))
             have n4_ := Aside0.mk (below_step (mvB HB.out) hb)
             clear HO_7
             clear HO221
             clear HO224
             clear HB
             have HO_7 := n0_
             have HO221 := n1_
             have HO224 := n2_
             have HO214 := n3_
             have HB := n4_
             clear n0_ n1_ n2_ n3_ n4_
             clear hb ho32
             refine hK.out _ _ (((HB.out.cell (World.block_lt_of_cell? w _ hw215_0)).trans hw215_0)) (fun hHeld => ?_)
             clear hK K
             refine norm_ (a' := ?_) ?_ ?_
             rotate_left
             ·show Act.put _ (some 40) _ = _
              simp only [Act.put, List.setIfInBounds_toArray, List.set_cons_zero, List.set_cons_succ, i64_w, i32_w]
              rfl
             exact norm_ (by first | (simp only [putAll, Act.put, List.setIfInBounds_toArray, List.set_cons_zero, List.set_cons_succ]; done) | (simp only [putAll, Act.put, List.setIfInBounds_toArray, List.set_cons_zero, List.set_cons_succ]; rfl)) (hJ1_9_10_12 (v213, v220, v223) _ ⟨hHeld, (by (with_reducible repeat (first | apply Kd.R_alloc | apply Kd.R_drewN | apply Kd.R_drew)); exact Kd.R_mono HO214.out (fun _ hk => hk.2)), (mvR HO221.out), (by (with_reducible repeat (first | apply Kd.R_alloc | apply Kd.R_drewN | apply Kd.R_drew)); exact Kd.R_mono HO224.out (fun _ hk => hk.2)), (by (with_reducible repeat (first | apply Kd.N_alloc | apply Kd.N_drewN | apply Kd.N_drew)); exact Kd.N_mono HO_7.out (fun _ hk => ⟨hk.2, ⟨hk.1.1, hk.1.2⟩⟩)), (mvB HB.out)⟩)
           ·skip
            rintro ⟨v213, v220⟩ w30 ⟨hS_, h0_, h1_, h2_, h3_⟩
            have n0_ : Aside0 (Kd.R k36 36 w30 w.heap.size (fun _ => True) v213 y212) := ⟨h0_⟩
            have n1_ : Aside0 (Kd.R (Kd.int .u8) 5 w30 w.heap.size (fun _ => True) v220 y219) := ⟨h1_⟩
            have n2_ : Aside0 (Kd.N (Kd.slice 36 k36) 28 w30 w.heap.size (fun k_ => some k_ ≠ (v213 : Value).ownBlock ∧ some k_ ≠ (v220 : Value).ownBlock) (.slice Ao23 x7_2.length co23) x7_2) := ⟨h2_⟩
            have n3_ : Aside0 (Below w.heap.size w w30) := ⟨h3_⟩
            clear HO_7
            clear HB
            clear h0_ h1_ h2_ h3_
            have HO214 := n0_
            have HO221 := n1_
            have HO_7 := n2_
            have HB := n3_
            clear n0_ n1_ n2_ n3_
            have hHeld : w30.cell? (ad215.add (x8_2).toNat) = some (.slice A215_0 (rd_L6 l0 x8_2).length c215_0) := hS_
            refine norm_ (a' := ?_) ?_ ?_
            rotate_left
            ·simp only [putAll, Act.put, List.setIfInBounds_toArray, List.set_cons_zero, List.set_cons_succ]
             rfl
            refine two_ (i := 6) (j := 12) (Ni := some 45) (Nj := some 51) #[true, true, true, true, true, true, true, true, true, true, true, true, false, false, false, false, false] #[true, true, true, true, true, true, false, true, true, true, true, true, true, false, false, false, false] rfl rfl rfl rfl (two_of HT_.out (by kernel_rfl)) (by decide) (by decide) (fun K hK => ?_) (fun K hK => ?_)
            ·skip
             refine Kd.R_append_rows_step k36 (w0 := w) w.heap.size (by rfl) (.tmp 40) (.tmp 44) 28 36 (.agg #[(.bool false), (.string ⟨#[]⟩)]) 24 rfl Tryd.underlying28 info36 rfl (by decide) (by omega) v213 y212 (rd_L6 l0 x8_2) _ _ _ (fun _ => True) (fun _ => False) rfl rfl ?aO ?aR (fun _ _ h => h) (fun _ h => h.elim) ?aF ?aB ?aS ?aL ?_
             (case aR => repeat (first | exact (Kd.C_below HR215_0.out HB.out) | (with_reducible refine Kd.C_alloc ?_ _) | (with_reducible refine Kd.C_drewN ?_ _) | (with_reducible refine Kd.C_drew ?_)))
             (case aB => exact (mvB HB.out))
             (case aF => exact (fun _ _ => trivial))
             (case aO => exact (mvR HO214.out))
             (case aS => exact (below_size (mvB HB.out)))
             (case aL => have := LMc20.out; omega)
             intro v217 w31 ho hb hg hat
             rw [← Ny216.out] at ho
             have n0_ := Aside0.mk (Kd.N_afterv (ok := (fun k_ => some k_ ≠ (v220 : Value).ownBlock)) (by (with_reducible repeat (first | apply Kd.N_alloc | apply Kd.N_drewN | apply Kd.N_drew)); exact Kd.N_mono HO_7.out (fun _ hk => ⟨hk.2, hk.1⟩)) hg hat)
             have n1_ := Aside0.mk (Kd.R_over' (mvR HO221.out) (Kd.R_typed (mvR HO214.out)) (by decide) hg)
             have n2_ := Aside0.mk (hb)
             have n3_ := Aside0.mk (ho)
             clear HO_7
             clear HO221
             clear HB
             clear HO214
             have HO_7 := n0_
             have HO221 := n1_
             have HB := n2_
             have HO218 := n3_
             clear n0_ n1_ n2_ n3_
             clear ho hb hg hat
             refine hK.out _ _ (((HB.out.cell (World.block_lt_of_cell? w _ hw215_0)).trans hw215_0)) (fun hHeld => ?_)
             clear hK K
             refine norm_ (a' := ?_) ?_ ?_
             rotate_left
             ·show Act.put _ (some 45) _ = _
              simp only [Act.put, List.setIfInBounds_toArray, List.set_cons_zero, List.set_cons_succ, i64_w, i32_w]
              rfl
             exact norm_ (by first | (simp only [putAll, Act.put, List.setIfInBounds_toArray, List.set_cons_zero, List.set_cons_succ]; done) | (simp only [putAll, Act.put, List.setIfInBounds_toArray, List.set_cons_zero, List.set_cons_succ]; rfl)) (hJ1_6_9_10 (v213, v217, v220) _ ⟨hHeld, (mvR HO218.out), (mvR HO221.out), (by (with_reducible repeat (first | apply Kd.N_alloc | apply Kd.N_drewN | apply Kd.N_drew)); exact Kd.N_mono HO_7.out (fun _ hk => ⟨hk.2, hk.1⟩)), (mvB HB.out)⟩)
            ·skip
             refine Kd.R_lit_step k36 _ 36 ?hg (N := 51) ?hd (xs := ([(⟨false, strOfNums y219⟩ : S36)] : List (S36))) (inner := [.bool false, .string (strOfNums y219)]) (ok := fun _ => True) (okp := fun _ => True) ?hr ?hp (fun _ hk => hk) trivial (Below.refl _ _) (Nat.le_refl _) (by simp) ?_; (case hd => rfl); (case hg => rfl); (case hr => first | (go_simp; done) | (go_simp; rfl) | (go_simp; simp (disch := omega) only [Go.u8_and63, Go.u8_and31, Go.u8_and15, Go.u8_and7, Go.u8_or128, Go.u8_or192, Go.u8_or224, Go.u8_or240, m64]; done)); (case hp => exact (Reps.c2 (show Kd.M k36 _ _ _ (⟨false, strOfNums y219⟩ : S36) [.bool false, .string (strOfNums y219)] from (k36_mkM _ _ _ (⟨false, strOfNums y219⟩ : S36) )) (Reps.none _ _)))
             intro v223 w31 ho32 hb hg_ hnew_
             clear hg_ hnew_
             (first | rw [← Ny222.out] at ho32 | (simp only [Int.reduceToNat] at ho32; rw [← Ny222.out] at ho32))
             have n0_ := Aside0.mk (Kd.N_elder' (mvN HO_7.out) (Kd.R_base ho32) hb)
             have n1_ := Aside0.mk (Kd.R_elder' (mvR HO214.out) (Kd.R_base ho32) hb)
             have n2_ := Aside0.mk (Kd.R_below (mvR HO221.out) hb)
             have n3_ := Aside0.mk (Kd.R_lower (Kd.R_new' ho32 (Kd.R_lt (mvR HO214.out))) (below_size (mvB HB.out)))
             have n4_ := Aside0.mk (below_step (mvB HB.out) hb)
             clear HO_7
             clear HO214
             clear HO221
             clear HB
             have HO_7 := n0_
             have HO214 := n1_
             have HO221 := n2_
             have HO224 := n3_
             have HB := n4_
             clear n0_ n1_ n2_ n3_ n4_
             clear hb ho32
             refine hK.out _ _ (((HB.out.cell (World.block_lt_of_cell? w _ hw215_0)).trans hw215_0)) (fun hHeld => ?_)
             clear hK K
             refine norm_ (a' := ?_) ?_ ?_
             rotate_left
             ·show Act.put _ (some 51) _ = _
              simp only [Act.put, List.setIfInBounds_toArray, List.set_cons_zero, List.set_cons_succ, i64_w, i32_w]
              rfl
             exact norm_ (by first | (simp only [putAll, Act.put, List.setIfInBounds_toArray, List.set_cons_zero, List.set_cons_succ]; done) | (simp only [putAll, Act.put, List.setIfInBounds_toArray, List.set_cons_zero, List.set_cons_succ]; rfl)) (hJ1_9_10_12 (v213, v220, v223) _ ⟨hHeld, (by (with_reducible repeat (first | apply Kd.R_alloc | apply Kd.R_drewN | apply Kd.R_drew)); exact Kd.R_mono HO214.out (fun _ hk => hk.2)), (mvR HO221.out), (by (with_reducible repeat (first | apply Kd.R_alloc | apply Kd.R_drewN | apply Kd.R_drew)); exact Kd.R_mono HO224.out (fun _ hk => hk.2)), (by (with_reducible repeat (first | apply Kd.N_alloc | apply Kd.N_drewN | apply Kd.N_drew)); exact Kd.N_mono HO_7.out (fun _ hk => ⟨hk.1.1, ⟨hk.1.2, hk.2⟩⟩)), (mvB HB.out)⟩)
          ·skip
           rintro ⟨v213, v217, v220⟩ w30 ⟨hS_, h0_, h1_, h2_, h3_⟩
           have n0_ : Aside0 (Kd.R k36 36 w30 w.heap.size (fun _ => True) v217 y216) := ⟨h0_⟩
           have n1_ : Aside0 (Kd.R (Kd.int .u8) 5 w30 w.heap.size (fun _ => True) v220 y219) := ⟨h1_⟩
           have n2_ : Aside0 (Kd.N (Kd.slice 36 k36) 28 w30 w.heap.size (fun k_ => some k_ ≠ (v217 : Value).ownBlock ∧ some k_ ≠ (v220 : Value).ownBlock) (.slice Ao23 x7_2.length co23) x7_2) := ⟨h2_⟩
           have n3_ : Aside0 (Below w.heap.size w w30) := ⟨h3_⟩
           clear HO_7
           clear HB
           clear h0_ h1_ h2_ h3_
           have HO218 := n0_
           have HO221 := n1_
           have HO_7 := n2_
           have HB := n3_
           clear n0_ n1_ n2_ n3_
           have hHeld : w30.cell? (ad215.add (x8_2).toNat) = some (.slice A215_0 (rd_L6 l0 x8_2).length c215_0) := hS_
           refine norm_ (a' := ?_) ?_ ?_
           rotate_left
           ·simp only [putAll, Act.put, List.setIfInBounds_toArray, List.set_cons_zero, List.set_cons_succ]
            rfl
           refine one_ (i := 10) (N := some 49) #[true, true, true, true, true, true, true, true, true, true, true, false, false, false, false, false, false] rfl rfl (one_of HT_.out (by kernel_rfl)) (by decide) (fun K hK => ?_)
           have hcv31 := own_string (P := Tryd.prog) Tryd.underlying34 Tryd.underlying5 Tryd.underlying9 (Kd.own_of_R HO221.out)
           refine value_ (w1 := ?_) (v := ?_) (by rfl) rfl ?_ ?_
           rotate_left 2
           ·go_simp
            constructor
            ·rfl
            ·rfl
           clear hcv31
           refine hK.out _ _ (((HB.out.cell (World.block_lt_of_cell? w _ hw215_0)).trans hw215_0)) (fun hHeld => ?_)
           clear hK K
           refine norm_ (a' := ?_) ?_ ?_
           rotate_left
           ·show Act.put _ (some 49) _ = _
            simp only [Act.put, List.setIfInBounds_toArray, List.set_cons_zero, List.set_cons_succ, i64_w, i32_w]
            rfl
           refine pure_ (i := 11) (N := some 50) (v := ?_) (a' := ?_) #[true, true, true, true, true, true, true, true, true, true, true, true, false, false, false, false, false] rfl rfl (any_of HT_.out (by kernel_rfl)) (fun _ _ _ h => h) (Or.inl ⟨by rfl, ?_⟩) ?_ ?_
           rotate_left
           ·intro w'
            go_simp
            with_reducible rfl
           rotate_left
           ·simp only [Act.put, List.setIfInBounds_toArray, List.set_cons_zero, List.set_cons_succ, i64_w, i32_w]
            rfl
           exact norm_ (by first | (simp only [putAll, Act.put, List.setIfInBounds_toArray, List.set_cons_zero, List.set_cons_succ]; done) | (simp only [putAll, Act.put, List.setIfInBounds_toArray, List.set_cons_zero, List.set_cons_succ]; rfl)) (hJ1_6_9_10 (v213, v217, v220) _ ⟨hHeld, (mvR HO218.out), (mvR HO221.out), (mvN HO_7.out), (mvB HB.out)⟩)
         ·skip
          rintro ⟨v213, v220, v223⟩ w32 ⟨hS_, h0_, h1_, h2_, h3_, h4_⟩
          have n0_ : Aside0 (Kd.R k36 36 w32 w.heap.size (fun k_ => some k_ ≠ (v223 : Value).ownBlock) v213 y212) := ⟨h0_⟩
          have n1_ : Aside0 (Kd.R (Kd.int .u8) 5 w32 w.heap.size (fun _ => True) v220 y219) := ⟨h1_⟩
          have n2_ : Aside0 (Kd.R k36 36 w32 w.heap.size (fun k_ => some k_ ≠ (v213 : Value).ownBlock) v223 y222) := ⟨h2_⟩
          have n3_ : Aside0 (Kd.N (Kd.slice 36 k36) 28 w32 w.heap.size (fun k_ => some k_ ≠ (v213 : Value).ownBlock ∧ some k_ ≠ (v220 : Value).ownBlock ∧ some k_ ≠ (v223 : Value).ownBlock) (.slice Ao23 x7_2.length co23) x7_2) := ⟨h3_⟩
          have n4_ : Aside0 (Below w.heap.size w w32) := ⟨h4_⟩
          clear HO_7
          clear HB
          clear h0_ h1_ h2_ h3_ h4_
          have HO214 := n0_
          have HO221 := n1_
          have HO224 := n2_
          have HO_7 := n3_
          have HB := n4_
          clear n0_ n1_ n2_ n3_ n4_
          have hHeld : w32.cell? (ad215.add (x8_2).toNat) = some (.slice A215_0 (rd_L6 l0 x8_2).length c215_0) := hS_
          refine norm_ (a' := ?_) ?_ ?_
          rotate_left
          ·simp only [putAll, Act.put, List.setIfInBounds_toArray, List.set_cons_zero, List.set_cons_succ]
           rfl
          refine one_ (i := 6) (N := some 45) #[true, true, true, true, true, true, true, true, true, true, true, true, true, false, false, false, false] rfl rfl (one_of HT_.out (by kernel_rfl)) (by decide) (fun K hK => ?_)
          refine Kd.R_append_rows_step k36 (w0 := w) w.heap.size (by rfl) (.tmp 40) (.tmp 44) 28 36 (.agg #[(.bool false), (.string ⟨#[]⟩)]) 24 rfl Tryd.underlying28 info36 rfl (by decide) (by omega) v213 y212 (rd_L6 l0 x8_2) _ _ _ (fun k_ => some k_ ≠ (v223 : Value).ownBlock) (fun _ => False) rfl rfl ?aO ?aR (fun _ _ h => h) (fun _ h => h.elim) ?aF ?aB ?aS ?aL ?_
          (case aR => repeat (first | exact (Kd.C_below HR215_0.out HB.out) | (with_reducible refine Kd.C_alloc ?_ _) | (with_reducible refine Kd.C_drewN ?_ _) | (with_reducible refine Kd.C_drew ?_)))
          (case aB => exact (mvB HB.out))
          (case aF => exact (fun k_ hk => Kd.fresh' (Kd.R_lt (mvR HO224.out)) k_ hk))
          (case aO => exact (mvR HO214.out))
          (case aS => exact (below_size (mvB HB.out)))
          (case aL => have := LMc20.out; omega)
          intro v217 w33 ho hb hg hat
          rw [← Ny216.out] at ho
          have n0_ := Aside0.mk (Kd.N_afterv (ok := (fun k_ => some k_ ≠ (v220 : Value).ownBlock ∧ some k_ ≠ (v223 : Value).ownBlock)) (by (with_reducible repeat (first | apply Kd.N_alloc | apply Kd.N_drewN | apply Kd.N_drew)); exact Kd.N_mono HO_7.out (fun _ hk => ⟨⟨hk.2.1, hk.2.2⟩, hk.1⟩)) hg hat)
          have n1_ := Aside0.mk (Kd.R_over' (mvR HO221.out) (Kd.R_typed (mvR HO214.out)) (by decide) hg)
          have n2_ := Aside0.mk (Kd.R_after (ok := (fun _ => True)) (by (with_reducible repeat (first | apply Kd.R_alloc | apply Kd.R_drewN | apply Kd.R_drew)); exact Kd.R_mono HO224.out (fun _ hk => ⟨trivial, hk⟩)) hg hat)
          have n3_ := Aside0.mk (hb)
          have n4_ := Aside0.mk (ho)
          clear HO_7
          clear HO221
          clear HO224
          clear HB
          clear HO214
          have HO_7 := n0_
          have HO221 := n1_
          have HO224 := n2_
          have HB := n3_
          have HO218 := n4_
          clear n0_ n1_ n2_ n3_ n4_
          clear ho hb hg hat
          refine hK.out _ _ (((HB.out.cell (World.block_lt_of_cell? w _ hw215_0)).trans hw215_0)) (fun hHeld => ?_)
          clear hK K
          refine norm_ (a' := ?_) ?_ ?_
          rotate_left
          ·show Act.put _ (some 45) _ = _
           simp only [Act.put, List.setIfInBounds_toArray, List.set_cons_zero, List.set_cons_succ, i64_w, i32_w]
           rfl
          exact norm_ (by first | (simp only [putAll, Act.put, List.setIfInBounds_toArray, List.set_cons_zero, List.set_cons_succ]; done) | (simp only [putAll, Act.put, List.setIfInBounds_toArray, List.set_cons_zero, List.set_cons_succ]; rfl)) (hJ1_6_9_10_12 (v213, v217, v220, v223) _ ⟨hHeld, (mvR HO218.out), (mvR HO221.out), (by (with_reducible repeat (first | apply Kd.R_alloc | apply Kd.R_drewN | apply Kd.R_drew)); exact Kd.R_mono HO224.out (fun _ hk => hk.2)), (by (with_reducible repeat (first | apply Kd.N_alloc | apply Kd.N_drewN | apply Kd.N_drew)); exact Kd.N_mono HO_7.out (fun _ hk => ⟨hk.2, ⟨hk.1.1, hk.1.2⟩⟩)), (mvB HB.out)⟩)
        ·skip
         rintro ⟨v213, v217, v220⟩ w31 ⟨hS_, h0_, h1_, h2_, h3_⟩
         have n0_ : Aside0 (Kd.R k36 36 w31 w.heap.size (fun _ => True) v217 y216) := ⟨h0_⟩
         have n1_ : Aside0 (Kd.R (Kd.int .u8) 5 w31 w.heap.size (fun _ => True) v220 y219) := ⟨h1_⟩
         have n2_ : Aside0 (Kd.N (Kd.slice 36 k36) 28 w31 w.heap.size (fun k_ => some k_ ≠ (v217 : Value).ownBlock ∧ some k_ ≠ (v220 : Value).ownBlock) (.slice Ao23 x7_2.length co23) x7_2) := ⟨h2_⟩
         have n3_ : Aside0 (Below w.heap.size w w31) := ⟨h3_⟩
         clear HO_7
         clear HB
         clear h0_ h1_ h2_ h3_
         have HO218 := n0_
         have HO221 := n1_
         have HO_7 := n2_
         have HB := n3_
         clear n0_ n1_ n2_ n3_
         have hHeld : w31.cell? (ad215.add (x8_2).toNat) = some (.slice A215_0 (rd_L6 l0 x8_2).length c215_0) := hS_
         refine norm_ (a' := ?_) ?_ ?_
         rotate_left
         ·simp only [putAll, Act.put, List.setIfInBounds_toArray, List.set_cons_zero, List.set_cons_succ]
          rfl
         refine one_ (i := 12) (N := some 51) #[true, true, true, true, true, true, true, true, true, true, true, true, true, false, false, false, false] rfl rfl (one_of HT_.out (by kernel_rfl)) (by decide) (fun K hK => ?_)
         refine Kd.R_lit_step k36 _ 36 ?hg (N := 51) ?hd (xs := ([(⟨false, strOfNums y219⟩ : S36)] : List (S36))) (inner := [.bool false, .string (strOfNums y219)]) (ok := fun _ => True) (okp := fun _ => True) ?hr ?hp (fun _ hk => hk) trivial (Below.refl _ _) (Nat.le_refl _) (by simp) ?_; (case hd => rfl); (case hg => rfl); (case hr => first | (go_simp; done) | (go_simp; rfl) | (go_simp; simp (disch := omega) only [Go.u8_and63, Go.u8_and31, Go.u8_and15, Go.u8_and7, Go.u8_or128, Go.u8_or192, Go.u8_or224, Go.u8_or240, m64]; done)); (case hp => exact (Reps.c2 (show Kd.M k36 _ _ _ (⟨false, strOfNums y219⟩ : S36) [.bool false, .string (strOfNums y219)] from (k36_mkM _ _ _ (⟨false, strOfNums y219⟩ : S36) )) (Reps.none _ _)))
         intro v223 w32 ho33 hb hg_ hnew_
         clear hg_ hnew_
         (first | rw [← Ny222.out] at ho33 | (simp only [Int.reduceToNat] at ho33; rw [← Ny222.out] at ho33))
         have n0_ := Aside0.mk (Kd.N_elder' (mvN HO_7.out) (Kd.R_base ho33) hb)
         have n1_ := Aside0.mk (Kd.R_elder' (mvR HO218.out) (Kd.R_base ho33) hb)
         have n2_ := Aside0.mk (Kd.R_below (mvR HO221.out) hb)
         have n3_ := Aside0.mk (Kd.R_lower (Kd.R_new' ho33 (Kd.R_lt (mvR HO218.out))) (below_size (mvB HB.out)))
         have n4_ := Aside0.mk (below_step (mvB HB.out) hb)
         clear HO_7
         clear HO218
         clear HO221
         clear HB
         have HO_7 := n0_
         have HO218 := n1_
         have HO221 := n2_
         have HO224 := n3_
         have HB := n4_
         clear n0_ n1_ n2_ n3_ n4_
         clear hb ho33
         refine hK.out _ _ (((HB.out.cell (World.block_lt_of_cell? w _ hw215_0)).trans hw215_0)) (fun hHeld => ?_)
         clear hK K
         refine norm_ (a' := ?_) ?_ ?_
         rotate_left
         ·show Act.put _ (some 51) _ = _
          simp only [Act.put, List.setIfInBounds_toArray, List.set_cons_zero, List.set_cons_succ, i64_w, i32_w]
          rfl
         exact norm_ (by first | (simp only [putAll, Act.put, List.setIfInBounds_toArray, List.set_cons_zero, List.set_cons_succ]; done) | (simp only [putAll, Act.put, List.setIfInBounds_toArray, List.set_cons_zero, List.set_cons_succ]; rfl)) (hJ1_6_9_10_12 (v213, v217, v220, v223) _ ⟨hHeld, (by (with_reducible repeat (first | apply Kd.R_alloc | apply Kd.R_drewN | apply Kd.R_drew)); exact Kd.R_mono HO218.out (fun _ hk => hk.2)), (mvR HO221.out), (by (with_reducible repeat (first | apply Kd.R_alloc | apply Kd.R_drewN | apply Kd.R_drew)); exact Kd.R_mono HO224.out (fun _ hk => hk.2)), (by (with_reducible repeat (first | apply Kd.N_alloc | apply Kd.N_drewN | apply Kd.N_drew)); exact Kd.N_mono HO_7.out (fun _ hk => ⟨hk.1.1, ⟨hk.1.2, hk.2⟩⟩)), (mvB HB.out)⟩)
       rintro ⟨v213, v217, v220, v223⟩ w33 ⟨hS_, h0_, h1_, h2_, h3_, h4_⟩
       have n0_ : Aside0 (Kd.R k36 36 w33 w.heap.size (fun k_ => some k_ ≠ (v223 : Value).ownBlock) v217 y216) := ⟨h0_⟩
       have n1_ : Aside0 (Kd.R (Kd.int .u8) 5 w33 w.heap.size (fun _ => True) v220 y219) := ⟨h1_⟩
       have n2_ : Aside0 (Kd.R k36 36 w33 w.heap.size (fun k_ => some k_ ≠ (v217 : Value).ownBlock) v223 y222) := ⟨h2_⟩
       have n3_ : Aside0 (Kd.N (Kd.slice 36 k36) 28 w33 w.heap.size (fun k_ => some k_ ≠ (v217 : Value).ownBlock ∧ some k_ ≠ (v220 : Value).ownBlock ∧ some k_ ≠ (v223 : Value).ownBlock) (.slice Ao23 x7_2.length co23) x7_2) := ⟨h3_⟩
       have n4_ : Aside0 (Below w.heap.size w w33) := ⟨h4_⟩
       clear HO_7
       clear HB
       clear h0_ h1_ h2_ h3_ h4_
       have HO218 := n0_
       have HO221 := n1_
       have HO224 := n2_
       have HO_7 := n3_
       have HB := n4_
       clear n0_ n1_ n2_ n3_ n4_
       have hHeld : w33.cell? (ad215.add (x8_2).toNat) = some (.slice A215_0 (rd_L6 l0 x8_2).length c215_0) := hS_
       obtain ⟨Ao35, co35, eo35⟩ := Kd.R_slice HO224.out
       (first | subst eo35 | (injection eo35 with f1_ f2_ f3_; have f4_ := f1_.symm; have f5_ := f3_.symm; clear f1_ f2_ f3_; subst f4_; subst f5_))
       refine norm_ (a' := ?_) ?_ ?_
       rotate_left
       ·simp only [putAll, Act.put, List.setIfInBounds_toArray, List.set_cons_zero, List.set_cons_succ]
        rfl
       refine one_ (i := 13) (N := some 52) #[true, true, true, true, true, true, true, true, true, true, true, true, true, true, false, false, false] rfl rfl (one_of HT_.out (by kernel_rfl)) (by decide) (fun K hK => ?_)
       refine Kd.R_append_rows_step k36 (w0 := w) w.heap.size (by rfl) (.tmp 45) (.tmp 51) 28 36 (.agg #[(.bool false), (.string ⟨#[]⟩)]) 24 rfl Tryd.underlying28 info36 rfl (by decide) (by omega) v217 y216 y222 _ _ _ (fun k_ => some k_ ≠ (.slice Ao35 y222.length co35 : Value).ownBlock) (fun _ => False) rfl rfl ?aO ?aR (fun _ _ h => h) (fun _ h => h.elim) ?aF ?aB ?aS ?aL ?_
       (case aR => repeat (first | exact (Kd.R_reads' HO224.out).2.2 | (with_reducible refine Kd.C_alloc ?_ _) | (with_reducible refine Kd.C_drewN ?_ _) | (with_reducible refine Kd.C_drew ?_)))
       (case aB => exact (mvB HB.out))
       (case aF => exact (fun k_ hk => Kd.fresh' (Kd.R_lt (mvR HO224.out)) k_ hk))
       (case aO => exact (mvR HO218.out))
       (case aS => exact (below_size (mvB HB.out)))
       (case aL => have := LMc21.out; omega)
       intro v226 w34 ho hb hg hat
       rw [← Ny225.out] at ho
       have n0_ := Aside0.mk (Kd.N_afterv (ok := (fun k_ => some k_ ≠ (v220 : Value).ownBlock ∧ some k_ ≠ (.slice Ao35 y222.length co35 : Value).ownBlock)) (by (with_reducible repeat (first | apply Kd.N_alloc | apply Kd.N_drewN | apply Kd.N_drew)); exact Kd.N_mono HO_7.out (fun _ hk => ⟨⟨hk.2.1, hk.2.2⟩, hk.1⟩)) hg hat)
       have n1_ := Aside0.mk (Kd.R_over' (mvR HO221.out) (Kd.R_typed (mvR HO218.out)) (by decide) hg)
       have n2_ := Aside0.mk (Kd.R_after (ok := (fun _ => True)) (by (with_reducible repeat (first | apply Kd.R_alloc | apply Kd.R_drewN | apply Kd.R_drew)); exact Kd.R_mono HO224.out (fun _ hk => ⟨trivial, hk⟩)) hg hat)
       have n3_ := Aside0.mk (hb)
       have n4_ := Aside0.mk (ho)
       clear HO_7
       clear HO221
       clear HO224
       clear HB
       clear HO218
       have HO_7 := n0_
       have HO221 := n1_
       have HO224 := n2_
       have HB := n3_
       have HO227 := n4_
       clear n0_ n1_ n2_ n3_ n4_
       clear ho hb hg hat
       obtain ⟨Ao36, co36, eo36⟩ := Kd.R_slice HO227.out
       (first | subst eo36 | (injection eo36 with f1_ f2_ f3_; have f4_ := f1_.symm; have f5_ := f3_.symm; clear f1_ f2_ f3_; subst f4_; subst f5_))
       refine hK.out _ _ (((HB.out.cell (World.block_lt_of_cell? w _ hw215_0)).trans hw215_0)) (fun hHeld => ?_)
       clear hK K
       refine norm_ (a' := ?_) ?_ ?_
       rotate_left
       ·show Act.put _ (some 52) _ = _
        simp only [Act.put, List.setIfInBounds_toArray, List.set_cons_zero, List.set_cons_succ, i64_w, i32_w]
        rfl
       refine one_ (i := 14) (N := some 53) #[true, true, true, true, true, true, true, true, true, true, true, true, true, true, true, false, false] rfl rfl (one_of HT_.out (by kernel_rfl)) (by decide) (fun K hK => ?_)
       refine Kd.N_lit_step (Kd.slice 36 k36) _ 28 ?hg (N' := 53) ?hd (xs := ([y225] : List (List (S36)))) (inner := [.slice Ao36 y225.length co36]) (ok := (fun k_ => some k_ ≠ (.slice Ao23 x7_2.length co23 : Value).ownBlock ∧ some k_ ≠ (v220 : Value).ownBlock ∧ some k_ ≠ (.slice Ao35 y222.length co35 : Value).ownBlock)) (okp := (fun k_ => some k_ ≠ (.slice Ao23 x7_2.length co23 : Value).ownBlock ∧ some k_ ≠ (v220 : Value).ownBlock ∧ some k_ ≠ (.slice Ao35 y222.length co35 : Value).ownBlock)) ?hr ?hp (fun _ hk => hk) ((show ∀ k_, w34.heap.size ≤ k_ → (fun k_ => some k_ ≠ (.slice Ao23 x7_2.length co23 : Value).ownBlock ∧ some k_ ≠ (v220 : Value).ownBlock ∧ some k_ ≠ (.slice Ao35 y222.length co35 : Value).ownBlock) k_ from fun k_ hk => ⟨Kd.fresh' (Kd.N_lt (mvN HO_7.out)) k_ hk, Kd.fresh' (Kd.R_lt (mvR HO221.out)) k_ hk, Kd.fresh' (Kd.R_lt (mvR HO224.out)) k_ hk⟩) _ (Nat.le_refl _)) (Below.refl _ _) (Nat.le_refl _) (by simp) ?_; (case hd => rfl); (case hg => rfl); (case hr => first | (go_simp; done) | (go_simp; rfl) | (go_simp; simp (disch := omega) only [Go.u8_and63, Go.u8_and31, Go.u8_and15, Go.u8_and7, Go.u8_or128, Go.u8_or192, Go.u8_or224, Go.u8_or240, m64]; done)); (case hp => exact (Reps.one (show Kd.FK (Kd.slice 36 k36) _ _ y225 [.slice Ao36 y225.length co36] from (Kd.FK_slice_mk (Kd.R_reads' (Kd.R_mono (ok' := (fun k_ => some k_ ≠ (.slice Ao23 x7_2.length co23 : Value).ownBlock ∧ some k_ ≠ (v220 : Value).ownBlock ∧ some k_ ≠ (.slice Ao35 y222.length co35 : Value).ownBlock)) (Kd.R_apart' (Kd.R_apart' (HO227.out) (Kd.N_typed HO_7.out) (by decide)) (Kd.R_typed HO221.out) (by decide)) (fun k_ hk => ⟨hk.1.2, ⟨hk.2, hk.1.1⟩⟩))).2.1 (Kd.R_F (Kd.R_mono (ok' := (fun k_ => some k_ ≠ (.slice Ao23 x7_2.length co23 : Value).ownBlock ∧ some k_ ≠ (v220 : Value).ownBlock ∧ some k_ ≠ (.slice Ao35 y222.length co35 : Value).ownBlock)) (Kd.R_apart' (Kd.R_apart' (HO227.out) (Kd.N_typed HO_7.out) (by decide)) (Kd.R_typed HO221.out) (by decide)) (fun k_ hk => ⟨hk.1.2, ⟨hk.2, hk.1.1⟩⟩))))) (Reps.none _ _)))
       intro v229 w37 ho38 hb hg_ hnew_
       clear hg_ hnew_
       (first | rw [← Ny228.out] at ho38 | (simp only [Int.reduceToNat] at ho38; rw [← Ny228.out] at ho38))
       have n0_ := Aside0.mk (Kd.N_elder' (mvN HO_7.out) (by first | exact Kd.N_base ho38 | exact Kd.S_base ho38 | exact Kd.R_base ho38) hb)
       have n1_ := Aside0.mk (Kd.R_below (mvR HO221.out) hb)
       have n2_ := Aside0.mk (Kd.R_below (mvR HO224.out) hb)
       have n3_ := Aside0.mk (Kd.N_lower ho38 (below_size (mvB HB.out)))
       have n4_ := Aside0.mk (below_step (mvB HB.out) hb)
       clear HO_7
       clear HO221
       clear HO224
       clear HB
       clear HO227
       have HO_7 := n0_
       have HO221 := n1_
       have HO224 := n2_
       have HO230 := n3_
       have HB := n4_
       clear n0_ n1_ n2_ n3_ n4_
       clear hb ho38
       obtain ⟨Ao40, co40, eo40⟩ := Kd.N_slice HO230.out
       (first | subst eo40 | (injection eo40 with f1_ f2_ f3_; have f4_ := f1_.symm; have f5_ := f3_.symm; clear f1_ f2_ f3_; subst f4_; subst f5_))
       refine hK.out _ _ (((HB.out.cell (World.block_lt_of_cell? w _ hw215_0)).trans hw215_0)) (fun hHeld => ?_)
       clear hK K
       refine norm_ (a' := ?_) ?_ ?_
       rotate_left
       ·show Act.put _ (some 53) _ = _
        simp only [Act.put, List.setIfInBounds_toArray, List.set_cons_zero, List.set_cons_succ, i64_w, i32_w]
        rfl
       refine one_ (i := 15) (N := some 54) #[true, true, true, true, true, true, true, true, true, true, true, true, true, true, true, true, false] rfl rfl (one_of HT_.out (by kernel_rfl)) (by decide) (fun K hK => ?_)
       refine Kd.N_append_rows_step (Kd.slice 36 k36) (w0 := w) w.heap.size (by rfl) (.tmp 39) (.tmp 53) 22 28 (.slice none 0 0) 24 rfl Tryd.underlying22 info28 rfl (by decide) (by omega) (.slice Ao23 x7_2.length co23) x7_2 y228 _ _ _ (fun k_ => some k_ ≠ (v220 : Value).ownBlock ∧ some k_ ≠ (.slice Ao35 y222.length co35 : Value).ownBlock) (fun k_ => ((fun k_ => some k_ ≠ (v220 : Value).ownBlock ∧ some k_ ≠ (.slice Ao35 y222.length co35 : Value).ownBlock)) k_ ∧ some k_ ≠ (.slice Ao23 x7_2.length co23 : Value).ownBlock) rfl rfl ?aO ?aR (fun _ hk => hk) ?aF ?aB ?aS ?aL ?_
       (case aR => exact (by skip; exact Kd.N_F (Kd.N_mono (ok' := (fun k_ => ((fun k_ => some k_ ≠ (v220 : Value).ownBlock ∧ some k_ ≠ (.slice Ao35 y222.length co35 : Value).ownBlock)) k_ ∧ some k_ ≠ (.slice Ao23 x7_2.length co23 : Value).ownBlock)) (HO230.out) (fun k_ hk => ⟨⟨hk.2.1, hk.2.2⟩, hk.1⟩))))
       (case aB => exact (mvB HB.out))
       (case aF => exact (fun k_ hk => ⟨Kd.fresh' (Kd.R_lt (mvR HO221.out)) k_ hk, Kd.fresh' (Kd.R_lt (mvR HO224.out)) k_ hk⟩))
       (case aO => exact (by (with_reducible repeat (first | apply Kd.N_alloc | apply Kd.N_drewN | apply Kd.N_drew)); exact Kd.N_mono HO_7.out (fun _ hk => ⟨hk.1.1.1, hk.1.1.2⟩)))
       (case aS => exact (below_size (mvB HB.out)))
       (case aL => have := LMc22.out; omega)
       intro v232 w39 ho hb hg hat
       rw [← Ny231.out] at ho
       have n0_ := Aside0.mk (Kd.R_over' (mvR HO221.out) (Kd.N_typed (mvN HO_7.out)) (by decide) hg)
       have n1_ := Aside0.mk (Kd.R_over' (mvR HO224.out) (Kd.N_typed (mvN HO_7.out)) (by decide) hg)
       have n2_ := Aside0.mk (Kd.N_afterv (ok := (fun k_ => some k_ ≠ (v220 : Value).ownBlock ∧ some k_ ≠ (.slice Ao35 y222.length co35 : Value).ownBlock)) (by (with_reducible repeat (first | apply Kd.N_alloc | apply Kd.N_drewN | apply Kd.N_drew)); exact Kd.N_mono HO230.out (fun _ hk => ⟨⟨hk.2.1, hk.2.2⟩, hk.1⟩)) hg hat)
       have n3_ := Aside0.mk (hb)
       have n4_ := Aside0.mk (ho)
       clear HO221
       clear HO224
       clear HO230
       clear HB
       clear HO_7
       have HO221 := n0_
       have HO224 := n1_
       have HO230 := n2_
       have HB := n3_
       have HO233 := n4_
       clear n0_ n1_ n2_ n3_ n4_
       clear ho hb hg hat
       refine hK.out _ _ (((HB.out.cell (World.block_lt_of_cell? w _ hw215_0)).trans hw215_0)) (fun hHeld => ?_)
       clear hK K
       refine norm_ (a' := ?_) ?_ ?_
       rotate_left
       ·show Act.put _ (some 54) _ = _
        simp only [Act.put, List.setIfInBounds_toArray, List.set_cons_zero, List.set_cons_succ, i64_w, i32_w]
        rfl
       refine pure_ (i := 16) (N := some 7) (v := ?_) (a' := ?_) #[true, true, true, true, true, true, true, true, true, true, true, true, true, true, true, true, true] rfl rfl (any_of HT_.out (by kernel_rfl)) (fun _ _ _ h => h) (Or.inl ⟨by rfl, ?_⟩) ?_ ?_
       rotate_left
       ·intro w'
        go_simp
        with_reducible rfl
       rotate_left
       ·simp only [Act.put, List.setIfInBounds_toArray, List.set_cons_zero, List.set_cons_succ, i64_w, i32_w]
        rfl
       refine done_ (done_of HT_.out (by kernel_rfl)) ?_
       try go_wp2
       go_roundg k2
       case measure => have := HJ3.out; have := HK2.out; omega
       case rel => exact ⟨(y231), (wrap64 (x8_2 + 1)), (by first | rfl | (simp; done) | (simp [*]; done)), H', ⟨by have := HJ3.out; have := HK2.out; omega⟩, ⟨by (with_reducible repeat (first | apply Kd.N_alloc | apply Kd.N_drewN | apply Kd.N_drew)); exact Kd.N_mono HO233.out (fun _ hk => trivial)⟩, ⟨by repeat (first | (with_reducible first | exact HB.out | apply below_alloc | apply pw_below_drewN | apply below_drew1) | exact HB.out)⟩⟩
      ·rw [if_neg c18] at H
       have c18b0 : decide (x8_2 < (l0.length : Int)) = false := decide_eq_false c18
       clear c18
       replace H := Option.bind_eq_some_iff.mp H
       obtain ⟨t234, A410, H⟩ := H
       replace H : (if (t234.length : Int) = (x7_2.length : Int) then (if 0 ≤ (x7_2.length : Int) then (if ((x7_2.length : Int) : Int).toNat ≤ 281474976710656 then (hopperlaw24_OrderStable.l1 k2 l0 a1 l2 x7_2 t234 (List.replicate ((x7_2.length : Int) : Int).toNat false) 0) else (none)) else (none)) else (none)) = some r := H
       have A41 := Aside0.mk A410
       clear A410
       by_cases c42 : (t234.length : Int) = (x7_2.length : Int)
       ·rw [if_pos c42] at H
        have c42b0 : ((t234.length : Int) == (x7_2.length : Int)) = true := beq_iff_eq.mpr c42
        have c42b1 : ((t234.length : Int) != (x7_2.length : Int)) = false := bne_eq_false_iff_eq.mpr c42
        have c42b2 : (t234.length == x7_2.length) = true := by first | simpa using c42 | (simp at c42 ⊢; omega)
        clear c42
        by_cases c43 : 0 ≤ (x7_2.length : Int)
        case neg => rw [if_neg c43] at H; exact absurd H (by simp)
        rw [if_pos c43] at H
        have c43b0 := eq_true c43
        have c43b1 : decide (0 ≤ (x7_2.length : Int)) = true := decide_eq_true c43
        clear c43
        by_cases c44 : ((x7_2.length : Int) : Int).toNat ≤ 281474976710656
        case neg => rw [if_neg c44] at H; exact absurd H (by simp)
        rw [if_pos c44] at H
        have c44b0 := eq_true c44
        have c44b1 : decide (((x7_2.length : Int) : Int).toNat ≤ 281474976710656) = true := decide_eq_true c44
        clear c44
        obtain ⟨y237, hy237⟩ : ∃ y_ : List Bool, y_ = (List.replicate ((x7_2.length : Int) : Int).toNat false) := ⟨_, rfl⟩
        replace H : (hopperlaw24_OrderStable.l1 k2 l0 a1 l2 x7_2 t234 y237 0) = some r := by first | (rw [hy237]; with_reducible exact H) | (have H2_ := (Option.bind_some _ _).symm.trans H; rw [hy237]; with_reducible exact H2_) | (have H2_ := (Option.bind_some _ _).symm.trans H; with_reducible exact H2_) | with_reducible exact H | (rw [hy237]; exact H) | exact H
        have Ny237 := Aside0.mk hy237
        clear hy237
        have H' := Aside0.mk H
        clear H
        obtain ⟨Ao45, co45, eo45⟩ := Kd.N_slice HO_7.out
        subst eo45
        go_wp2_with (first | ((with_reducible refine gate_callee (f := 15) rfl ?_); refine goesL_ (some 57) rfl rfl Tryd.func15 (by kernel_rfl) rfl #[.slice Ao45 x7_2.length co45, .slice A2 l2.length c2] rfl (by (try simp only [List.map_toArray, List.map_cons, List.map_nil]); first | done | rfl | (simp only [List.length_drop, List.length_take]; rfl)) ?_; (with_reducible refine (order_Rows.calls k2 _ _ x7_2 _ _ l2 t234 _ ?side1 ?side2 ?side3 ?side4 ?side5 A41.out).mono ?_); (case side1 => repeat (first | exact (Kd.N_reads' HO_7.out).2.2 | (with_reducible refine Kd.C_alloc ?_ _) | (with_reducible refine Kd.C_drewN ?_ _) | (with_reducible refine Kd.C_drew ?_))); (case side2 => exact (Kd.N_reads' HO_7.out).2.1); (case side3 => repeat (first | exact (Kd.C_below HR2.out HB.out) | (with_reducible refine Kd.C_alloc ?_ _) | (with_reducible refine Kd.C_drewN ?_ _) | (with_reducible refine Kd.C_drew ?_))); (case side4 => exact HC2.out); (case side5 => first | exact HT.out | exact Facts.below HT.out (mvB HB.out) | exact Facts.below HT.out HB.out | (repeat (first | exact HT.out | refine Facts.drewN ?_ _ | refine Facts.drew ?_ | refine Facts.alloc ?_ _))); rintro e w46 ⟨v235, rfl, ho0, hb⟩; refine ⟨_, rfl, ?_⟩; have n0_ := Aside0.mk (Kd.N_elder' (mvN HO_7.out) (by first | exact Kd.N_base ho0 | exact Kd.S_base ho0 | exact Kd.R_base ho0) hb); have n1_ := Aside0.mk (Kd.N_lower (Kd.N_mono (ok' := fun k_ => some k_ ≠ (.slice Ao45 x7_2.length co45 : Value).ownBlock) (Kd.S_N (Kd.S_bound ho0)) (fun k_ hk_ => (Kd.fresh' (Kd.N_lt (mvN HO_7.out)) k_ hk_.2.1))) (below_size (mvB HB.out))); have n2_ := Aside0.mk (below_step (mvB HB.out) hb); clear HO_7; clear HB; have HO_7 := n0_; have HO236 := n1_; have HB := n2_; clear n0_ n1_ n2_; (try clear hb); (try clear hb2); (try clear hk); (try clear hi); (try clear ho0); obtain ⟨Ao47, co47, eo47⟩ := Kd.N_slice HO236.out; subst eo47) | ((with_reducible refine gate_dst (N := 65) rfl ?_); (try (refine gate_guard (by rfl) ?_; dsimp only)); refine Kd.R_make Kd.bool _ 4 rfl (N := 65) rfl 37 _ _ rfl (x7_2.length : Int) rfl rfl Tryd.underlying37 (.bool false) 1 info4 rfl (by decide) (by omega) false (ok := fun _ => True) (okp := fun _ => True) rfl (fun _ hk => hk) trivial (of_decide_eq_true (by first | (with_reducible assumption) | assumption)) (Nat.le_trans (Nat.mul_le_mul_right _ (of_decide_eq_true (by first | (with_reducible assumption) | assumption) : (x7_2.length : Int).toNat ≤ 281474976710656)) (by omega)) (Below.refl _ _) (Nat.le_refl _) ?_; intro v238 w48 ho49 hb hg_ hnew_; clear hg_ hnew_; (first | rw [← Ny237.out] at ho49 | (simp only [Int.reduceToNat] at ho49; rw [← Ny237.out] at ho49)); have n0_ := Aside0.mk (Kd.N_elder' (mvN HO_7.out) (Kd.R_base ho49) hb); have n1_ := Aside0.mk (Kd.N_elder' (mvN HO236.out) (Kd.R_base ho49) hb); have n2_ := Aside0.mk (Kd.R_lower ho49 (below_size (mvB HB.out))); have n3_ := Aside0.mk (below_step (mvB HB.out) hb); clear HO_7; clear HO236; clear HB; have HO_7 := n0_; have HO236 := n1_; have HO239 := n2_; have HB := n3_; clear n0_ n1_ n2_ n3_; clear hb ho49))
        go_loopg [11] k2 (fun kq v11 w' => ∃ (x10_3 : List Bool) (x11_3 : Int), v11 = .int .i64 x11_3 ∧ Aside0 (hopperlaw24_OrderStable.l1 kq l0 a1 l2 x7_2 t234 x10_3 x11_3 = some r) ∧ Aside0 (kq ≤ k2) ∧ Aside0 (Kd.N (Kd.slice 36 k36) 28 w' w.heap.size (fun k_ => some k_ ≠ ((.slice Ao47 t234.length co47) : Value).ownBlock ∧ some k_ ≠ (v238 : Value).ownBlock) (.slice Ao45 x7_2.length co45) x7_2) ∧ Aside0 (Kd.N (Kd.slice 36 k36) 28 w' w.heap.size (fun k_ => some k_ ≠ ((.slice Ao45 x7_2.length co45) : Value).ownBlock ∧ some k_ ≠ (v238 : Value).ownBlock) (.slice Ao47 t234.length co47) t234) ∧ Aside0 (Kd.R Kd.bool 4 w' w.heap.size (fun _ => True) v238 x10_3) ∧ Aside0 (Below w.heap.size w w'))
        case atStart => exact ⟨(y237), (0), (by first | rfl | (simp; done) | (simp [*]; done)), H', ⟨Nat.le_refl _⟩, ⟨by (with_reducible repeat (first | apply Kd.N_alloc | apply Kd.N_drewN | apply Kd.N_drew)); exact Kd.N_mono HO_7.out (fun _ hk => ⟨hk.1.2, hk.2⟩)⟩, ⟨by (with_reducible repeat (first | apply Kd.N_alloc | apply Kd.N_drewN | apply Kd.N_drew)); exact HO236.out⟩, ⟨by (with_reducible repeat (first | apply Kd.R_alloc | apply Kd.R_drewN | apply Kd.R_drew)); exact HO239.out⟩, ⟨by repeat (first | (with_reducible first | exact HB.out | apply below_alloc | apply pw_below_drewN | apply below_drew1) | exact HB.out)⟩⟩
        case round =>
         clear H'
         try clear c1
         try clear c2
         try clear p2
         try clear hcv3
         try clear c4
         try clear p6
         try clear c15
         try clear c18
         try clear c18b0
         try clear c19
         try clear c20
         try clear c21
         try clear c22
         try clear hcv30
         try clear hcv31
         try clear c42
         try clear c42b0
         try clear c42b1
         try clear c42b2
         try clear c43
         try clear c43b0
         try clear c43b1
         try clear c44
         try clear c44b0
         try clear c44b1
         obtain ⟨x10_3, x11_3, rfl, HA, HK3, HO_7, HO_9, HO_10, HB⟩ := hrel
         cases gk with
         | zero => exact absurd HA.out (by simp [hopperlaw24_OrderStable.l1])
         | succ k3 =>
          have H := HA.out
          clear HA
          simp only [hopperlaw24_OrderStable.l1] at H
          by_cases c50 : x11_3 < (t234.length : Int)
          ·rw [if_pos c50] at H
           have c50b0 : decide (x11_3 < (t234.length : Int)) = true := decide_eq_true c50
           clear c50
           by_cases c51 : 0 ≤ x11_3
           case neg => rw [if_neg c51] at H; exact absurd H (by simp)
           rw [if_pos c51] at H
           have c51b0 : decide (0 ≤ x11_3) = true := decide_eq_true c51
           clear c51
           by_cases c52 : 0 ≤ a1
           case neg => rw [if_neg c52] at H; exact absurd H (by simp)
           rw [if_pos c52] at H
           have c52b0 : decide (0 ≤ a1) = true := decide_eq_true c52
           clear c52
           by_cases c53 : a1 < ((rd_L6 t234 x11_3).length : Int)
           case neg => rw [if_neg c53] at H; exact absurd H (by simp)
           rw [if_pos c53] at H
           have c53b0 : decide (a1 < ((rd_L6 t234 x11_3).length : Int)) = true := decide_eq_true c53
           clear c53
           by_cases c54 : 0 < (((rd_T36 (rd_L6 t234 x11_3) a1).f1).size : Int)
           case neg => rw [if_neg c54] at H; exact absurd H (by simp)
           rw [if_pos c54] at H
           have c54b0 : decide (0 < (((rd_T36 (rd_L6 t234 x11_3) a1).f1).size : Int)) = true := decide_eq_true c54
           have c54b1 : decide (0 < ((rd_T36 (rd_L6 t234 x11_3) a1).f1).size) = true := decide_eq_true (by omega)
           clear c54
           have HC56 := Aside0.mk H
           clear H
           have p240 : 0 ≤ (x11_3 : Int) := of_decide_eq_true (by first | (with_reducible assumption) | assumption)
           have q240 : x11_3 < (t234.length : Int) := of_decide_eq_true (by first | (with_reducible assumption) | assumption)
           obtain ⟨ad240, A240_0, c240_0, e240, hx240_0, hl240_0, hi240_0⟩ := at_L6 (Kd.N_reads' HO_9.out).2.2 x11_3 p240 q240
           cases e240
           obtain ⟨ce240, hce240, hMe240, hcc240⟩ := Kd.N_get HO_9.out [] x11_3 p240 (by first | exact q240 | exact of_decide_eq_true (by first | (with_reducible assumption) | assumption) | (have e_ := (Kd.N_reads' HO_9.out).1; omega))
           obtain ⟨ua240_0, uc240_0, rfl, ul240_0, ge240_0⟩ := Kd.FK_slice_open hMe240
           have hv240_0 := hcc240 0 _ rfl
           rw [Nat.add_zero, show ((Kd.slice 36 k36)).sz = 1 from rfl, Nat.mul_one] at hv240_0
           replace hv240_0 := Option.some.inj (hv240_0.symm.trans hx240_0)
           injection hv240_0 with hva_ hvn_ hvc_
           rw [hva_] at ge240_0
           rw [hvc_] at ul240_0
           have HL240_0 := Aside0.mk (show Kd.V k36 36 _ w.heap.size _ _ (rd_L6 t234 x11_3) from Kd.V_mk ul240_0 ge240_0)
           clear hva_ hvn_ hvc_ ge240_0 ul240_0
           clear hcc240 hce240
           have HR240_0 := Aside0.mk hi240_0
           have HC240_0 := Aside0.mk hl240_0
           clear hi240_0 hl240_0
           replace p240 := eq_true p240
           replace q240 := eq_true q240
           have p241 : 0 ≤ (a1 : Int) := of_decide_eq_true (by first | (with_reducible assumption) | assumption)
           have q241 : a1 < ((rd_L6 t234 x11_3).length : Int) := of_decide_eq_true (by first | (with_reducible assumption) | assumption)
           obtain ⟨ad241, e241, hx241_0, hx241_1⟩ := at_T36 (by repeat (first | (with_reducible exact HR240_0.out) | (with_reducible refine Kd.C_alloc ?_ _) | (with_reducible refine Kd.C_drewN ?_ _) | (with_reducible refine Kd.C_drew ?_) | exact HR240_0.out)) a1 p241 q241
           cases e241
           replace p241 := eq_true p241
           replace q241 := eq_true q241
           have p55 : 0 ≤ (0 : Int) := (by omega)
           have q55 : 0 < ((rd_T36 (rd_L6 t234 x11_3) a1).f1).size := (by have : (0 : Int) < (((rd_T36 (rd_L6 t234 x11_3) a1).f1).size : Int) := of_decide_eq_true (by first | (with_reducible assumption) | assumption); omega)
           have hx55 : ∀ h : 0 < ((rd_T36 (rd_L6 t234 x11_3) a1).f1).size, ((((rd_T36 (rd_L6 t234 x11_3) a1).f1)[0]'h).toNat : Int) = bt ((rd_T36 (rd_L6 t234 x11_3) a1).f1) 0 := bt_at ((rd_T36 (rd_L6 t234 x11_3) a1).f1) 0
           clear p55
           have qi55 : (0 < (((rd_T36 (rd_L6 t234 x11_3) a1).f1).size : Int)) = True := eq_true (of_decide_eq_true (by first | (with_reducible assumption) | assumption))
           replace q55 := eq_true q55
           go_upto_region 16 with (fail)
           go_cut [105] (fun v105 wc => ∃ (kq : Nat) (x105_55 : Bool), v105 = .bool x105_55 ∧ Aside0 (hopperlaw24_OrderStable.j3 kq l0 a1 l2 x7_2 t234 x10_3 x11_3 (wrap64 (bt ((rd_T36 (rd_L6 t234 x11_3) a1).f1) 0)) x105_55 = some r) ∧ Aside0 (kq ≤ k3) ∧ Aside0 (Kd.N (Kd.slice 36 k36) 28 wc w.heap.size (fun k_ => some k_ ≠ ((.slice (some ad240) t234.length co47) : Value).ownBlock ∧ some k_ ≠ (v238 : Value).ownBlock) (.slice Ao45 x7_2.length co45) x7_2) ∧ Aside0 (Kd.N (Kd.slice 36 k36) 28 wc w.heap.size (fun k_ => some k_ ≠ ((.slice Ao45 x7_2.length co45) : Value).ownBlock ∧ some k_ ≠ (v238 : Value).ownBlock) (.slice (some ad240) t234.length co47) t234) ∧ Aside0 (Kd.R Kd.bool 4 wc w.heap.size (fun _ => True) v238 x10_3) ∧ Aside0 (Kd.C k36 wc (some ad241) (rd_L6 t234 x11_3).length (rd_L6 t234 x11_3)) ∧ Aside0 (Below w.heap.size w wc))
           case first =>
            have H := HC56.out
            clear HC56
            by_cases c57 : (wrap64 (bt ((rd_T36 (rd_L6 t234 x11_3) a1).f1) 0)) ≥ (x7_2.length : Int)
            ·rw [if_pos c57] at H
             have c57b0 : decide ((x7_2.length : Int) ≤ (wrap64 (bt ((rd_T36 (rd_L6 t234 x11_3) a1).f1) 0))) = true := decide_eq_true c57
             clear c57
             (first | rw [c57b0] | (simp only [i64_w, i32_w]; rw [c57b0]) | skip)
             have H' := Aside0.mk H
             clear H
             try go_wp2
             have n0_ := Aside0.mk (Kd.N_drew HO_7.out)
             have n1_ := Aside0.mk (Kd.N_drew HO_9.out)
             have n2_ := Aside0.mk (Kd.R_drew HO_10.out)
             have n3_ := Aside0.mk (Kd.V_drew HL240_0.out)
             have n4_ := Aside0.mk (Kd.C_drew HR240_0.out)
             have n5_ := Aside0.mk (below_drew1 HB.out)
             clear HO_7
             clear HO_9
             clear HO_10
             clear HL240_0
             clear HR240_0
             clear HB
             have HO_7 := n0_
             have HO_9 := n1_
             have HO_10 := n2_
             have HL240_0 := n3_
             have HR240_0 := n4_
             have HB := n5_
             clear n0_ n1_ n2_ n3_ n4_ n5_
             refine start_ (n := 24) (S := fun w' => True) (ds := []) #[false, false, false, false, false, false, false, false, false, false, false, false, false, false, false, false, false, false, false, false, false, false, false, false] (by kernel_rfl) rfl rfl trivial (fun hHeld => ?_); refine with_tabW hopperlaw24_OrderStable.tab16 hopperlaw24_OrderStable.bits16 (fun HT_ HW_ => ?_)
             generalize wr.drew = w58 at HO_7 HO_9 HO_10 HL240_0 HR240_0 HB hHeld ⊢
             refine pure_ (i := 0) (N := some 82) (v := ?_) (a' := ?_) #[true, false, false, false, false, false, false, false, false, false, false, false, false, false, false, false, false, false, false, false, false, false, false, false] rfl rfl (any_of HT_.out (by kernel_rfl)) (fun _ _ _ h => h) (Or.inl ⟨by rfl, ?_⟩) ?_ ?_
             rotate_left
             ·intro w'
              go_simp
              with_reducible rfl
             rotate_left
             ·simp only [Act.put, List.setIfInBounds_toArray, List.set_cons_zero, List.set_cons_succ, i64_w, i32_w]
              rfl
             refine pure_ (i := 1) (N := some 83) (v := ?_) (a' := ?_) #[true, true, false, false, false, false, false, false, false, false, false, false, false, false, false, false, false, false, false, false, false, false, false, false] rfl rfl (any_of HT_.out (by kernel_rfl)) (fun _ _ _ h => h) (Or.inl ⟨by rfl, ?_⟩) ?_ ?_
             rotate_left
             ·intro w'
              go_simp
              with_reducible rfl
             rotate_left
             ·simp only [Act.put, List.setIfInBounds_toArray, List.set_cons_zero, List.set_cons_succ, i64_w, i32_w]
              rfl
             refine pure_ (i := 2) (N := some 84) (v := ?_) (a' := ?_) #[true, true, true, false, false, false, false, false, false, false, false, false, false, false, false, false, false, false, false, false, false, false, false, false] rfl rfl (any_of HT_.out (by kernel_rfl)) (fun _ _ _ h => h) (Or.inl ⟨by rfl, ?_⟩) ?_ ?_
             rotate_left
             ·intro w'
              go_simp
              with_reducible rfl
             rotate_left
             ·simp only [Act.put, List.setIfInBounds_toArray, List.set_cons_zero, List.set_cons_succ, i64_w, i32_w]
              rfl
             refine pure_ (i := 3) (N := some 85) (v := ?_) (a' := ?_) #[true, true, true, true, false, false, false, false, false, false, false, false, false, false, false, false, false, false, false, false, false, false, false, false] rfl rfl (any_of HT_.out (by kernel_rfl)) (fun _ _ _ h => h) (Or.inl ⟨by rfl, ?_⟩) ?_ ?_
             rotate_left
             ·intro w'
              go_simp
              with_reducible rfl
             rotate_left
             ·simp only [Act.put, List.setIfInBounds_toArray, List.set_cons_zero, List.set_cons_succ, i64_w, i32_w]
              rfl
             refine pure_ (i := 4) (N := some 86) (v := ?_) (a' := ?_) #[true, true, true, true, true, false, false, false, false, false, false, false, false, false, false, false, false, false, false, false, false, false, false, false] rfl rfl (any_of HT_.out (by kernel_rfl)) (fun _ _ _ h => h) (Or.inl ⟨by rfl, ?_⟩) ?_ ?_
             rotate_left
             ·intro w'
              go_simp
              with_reducible rfl
             rotate_left
             ·simp only [Act.put, List.setIfInBounds_toArray, List.set_cons_zero, List.set_cons_succ, i64_w, i32_w]
              rfl
             refine pure_ (i := 5) (N := some 87) (v := undef) (a' := ?_) #[true, true, true, true, true, true, false, false, false, false, false, false, false, false, false, false, false, false, false, false, false, false, false, false] rfl rfl (any_of HT_.out (by kernel_rfl)) (fun _ _ _ h => h) (Or.inr ⟨by rfl, rfl⟩) ?_ ?_
             rotate_left
             ·simp only [Act.put, List.setIfInBounds_toArray, List.set_cons_zero, List.set_cons_succ, i64_w, i32_w]
              rfl
             refine pure_ (i := 6) (N := some 88) (v := undef) (a' := ?_) #[true, true, true, true, true, true, true, false, false, false, false, false, false, false, false, false, false, false, false, false, false, false, false, false] rfl rfl (any_of HT_.out (by kernel_rfl)) (fun _ _ _ h => h) (Or.inr ⟨by rfl, rfl⟩) ?_ ?_
             rotate_left
             ·simp only [Act.put, List.setIfInBounds_toArray, List.set_cons_zero, List.set_cons_succ, i64_w, i32_w]
              rfl
             refine pure_ (i := 7) (N := some 89) (v := undef) (a' := ?_) #[true, true, true, true, true, true, true, true, false, false, false, false, false, false, false, false, false, false, false, false, false, false, false, false] rfl rfl (any_of HT_.out (by kernel_rfl)) (fun _ _ _ h => h) (Or.inr ⟨by rfl, rfl⟩) ?_ ?_
             rotate_left
             ·simp only [Act.put, List.setIfInBounds_toArray, List.set_cons_zero, List.set_cons_succ, i64_w, i32_w]
              rfl
             refine pure_ (i := 8) (N := some 90) (v := undef) (a' := ?_) #[true, true, true, true, true, true, true, true, true, false, false, false, false, false, false, false, false, false, false, false, false, false, false, false] rfl rfl (any_of HT_.out (by kernel_rfl)) (fun _ _ _ h => h) (Or.inr ⟨by rfl, rfl⟩) ?_ ?_
             rotate_left
             ·simp only [Act.put, List.setIfInBounds_toArray, List.set_cons_zero, List.set_cons_succ, i64_w, i32_w]
              rfl
             refine pure_ (i := 9) (N := some 91) (v := ?_) (a' := ?_) #[true, true, true, true, true, true, true, true, true, true, false, false, false, false, false, false, false, false, false, false, false, false, false, false] rfl rfl (any_of HT_.out (by kernel_rfl)) (fun _ _ _ h => h) (Or.inl ⟨by rfl, ?_⟩) ?_ ?_
             rotate_left
             ·intro w'
              go_simp
              with_reducible rfl
             rotate_left
             ·simp only [Act.put, List.setIfInBounds_toArray, List.set_cons_zero, List.set_cons_succ, i64_w, i32_w]
              rfl
             refine pure_ (i := 10) (N := some 92) (v := ?_) (a' := ?_) #[true, true, true, true, true, true, true, true, true, true, true, false, false, false, false, false, false, false, false, false, false, false, false, false] rfl rfl (any_of HT_.out (by kernel_rfl)) (fun _ _ _ h => h) (Or.inl ⟨by rfl, ?_⟩) ?_ ?_
             rotate_left
             ·intro w'
              go_simp
              with_reducible rfl
             rotate_left
             ·simp only [Act.put, List.setIfInBounds_toArray, List.set_cons_zero, List.set_cons_succ, i64_w, i32_w]
              rfl
             refine pure_ (i := 11) (N := some 93) (v := undef) (a' := ?_) #[true, true, true, true, true, true, true, true, true, true, true, true, false, false, false, false, false, false, false, false, false, false, false, false] rfl rfl (any_of HT_.out (by kernel_rfl)) (fun _ _ _ h => h) (Or.inr ⟨by rfl, rfl⟩) ?_ ?_
             rotate_left
             ·simp only [Act.put, List.setIfInBounds_toArray, List.set_cons_zero, List.set_cons_succ, i64_w, i32_w]
              rfl
             refine pure_ (i := 12) (N := some 94) (v := undef) (a' := ?_) #[true, true, true, true, true, true, true, true, true, true, true, true, true, false, false, false, false, false, false, false, false, false, false, false] rfl rfl (any_of HT_.out (by kernel_rfl)) (fun _ _ _ h => h) (Or.inr ⟨by rfl, rfl⟩) ?_ ?_
             rotate_left
             ·simp only [Act.put, List.setIfInBounds_toArray, List.set_cons_zero, List.set_cons_succ, i64_w, i32_w]
              rfl
             refine pure_ (i := 13) (N := some 95) (v := undef) (a' := ?_) #[true, true, true, true, true, true, true, true, true, true, true, true, true, true, false, false, false, false, false, false, false, false, false, false] rfl rfl (any_of HT_.out (by kernel_rfl)) (fun _ _ _ h => h) (Or.inr ⟨by rfl, rfl⟩) ?_ ?_
             rotate_left
             ·simp only [Act.put, List.setIfInBounds_toArray, List.set_cons_zero, List.set_cons_succ, i64_w, i32_w]
              rfl
             refine pure_ (i := 14) (N := some 96) (v := undef) (a' := ?_) #[true, true, true, true, true, true, true, true, true, true, true, true, true, true, true, false, false, false, false, false, false, false, false, false] rfl rfl (any_of HT_.out (by kernel_rfl)) (fun _ _ _ h => h) (Or.inr ⟨by rfl, rfl⟩) ?_ ?_
             rotate_left
             ·simp only [Act.put, List.setIfInBounds_toArray, List.set_cons_zero, List.set_cons_succ, i64_w, i32_w]
              rfl
             refine pure_ (i := 15) (N := some 97) (v := undef) (a' := ?_) #[true, true, true, true, true, true, true, true, true, true, true, true, true, true, true, true, false, false, false, false, false, false, false, false] rfl rfl (any_of HT_.out (by kernel_rfl)) (fun _ _ _ h => h) (Or.inr ⟨by rfl, rfl⟩) ?_ ?_
             rotate_left
             ·simp only [Act.put, List.setIfInBounds_toArray, List.set_cons_zero, List.set_cons_succ, i64_w, i32_w]
              rfl
             refine pure_ (i := 16) (N := some 98) (v := undef) (a' := ?_) #[true, true, true, true, true, true, true, true, true, true, true, true, true, true, true, true, true, false, false, false, false, false, false, false] rfl rfl (any_of HT_.out (by kernel_rfl)) (fun _ _ _ h => h) (Or.inr ⟨by rfl, rfl⟩) ?_ ?_
             rotate_left
             ·simp only [Act.put, List.setIfInBounds_toArray, List.set_cons_zero, List.set_cons_succ, i64_w, i32_w]
              rfl
             refine pure_ (i := 17) (N := some 99) (v := undef) (a' := ?_) #[true, true, true, true, true, true, true, true, true, true, true, true, true, true, true, true, true, true, false, false, false, false, false, false] rfl rfl (any_of HT_.out (by kernel_rfl)) (fun _ _ _ h => h) (Or.inr ⟨by rfl, rfl⟩) ?_ ?_
             rotate_left
             ·simp only [Act.put, List.setIfInBounds_toArray, List.set_cons_zero, List.set_cons_succ, i64_w, i32_w]
              rfl
             refine pure_ (i := 18) (N := some 100) (v := undef) (a' := ?_) #[true, true, true, true, true, true, true, true, true, true, true, true, true, true, true, true, true, true, true, false, false, false, false, false] rfl rfl (any_of HT_.out (by kernel_rfl)) (fun _ _ _ h => h) (Or.inr ⟨by rfl, rfl⟩) ?_ ?_
             rotate_left
             ·simp only [Act.put, List.setIfInBounds_toArray, List.set_cons_zero, List.set_cons_succ, i64_w, i32_w]
              rfl
             refine pure_ (i := 19) (N := some 101) (v := undef) (a' := ?_) #[true, true, true, true, true, true, true, true, true, true, true, true, true, true, true, true, true, true, true, true, false, false, false, false] rfl rfl (any_of HT_.out (by kernel_rfl)) (fun _ _ _ h => h) (Or.inr ⟨by rfl, rfl⟩) ?_ ?_
             rotate_left
             ·simp only [Act.put, List.setIfInBounds_toArray, List.set_cons_zero, List.set_cons_succ, i64_w, i32_w]
              rfl
             refine pure_ (i := 20) (N := some 102) (v := undef) (a' := ?_) #[true, true, true, true, true, true, true, true, true, true, true, true, true, true, true, true, true, true, true, true, true, false, false, false] rfl rfl (any_of HT_.out (by kernel_rfl)) (fun _ _ _ h => h) (Or.inr ⟨by rfl, rfl⟩) ?_ ?_
             rotate_left
             ·simp only [Act.put, List.setIfInBounds_toArray, List.set_cons_zero, List.set_cons_succ, i64_w, i32_w]
              rfl
             refine pure_ (i := 21) (N := some 103) (v := undef) (a' := ?_) #[true, true, true, true, true, true, true, true, true, true, true, true, true, true, true, true, true, true, true, true, true, true, false, false] rfl rfl (any_of HT_.out (by kernel_rfl)) (fun _ _ _ h => h) (Or.inr ⟨by rfl, rfl⟩) ?_ ?_
             rotate_left
             ·simp only [Act.put, List.setIfInBounds_toArray, List.set_cons_zero, List.set_cons_succ, i64_w, i32_w]
              rfl
             refine pure_ (i := 22) (N := some 104) (v := undef) (a' := ?_) #[true, true, true, true, true, true, true, true, true, true, true, true, true, true, true, true, true, true, true, true, true, true, true, false] rfl rfl (any_of HT_.out (by kernel_rfl)) (fun _ _ _ h => h) (Or.inr ⟨by rfl, rfl⟩) ?_ ?_
             rotate_left
             ·simp only [Act.put, List.setIfInBounds_toArray, List.set_cons_zero, List.set_cons_succ, i64_w, i32_w]
              rfl
             refine pure_ (i := 23) (N := some 105) (v := ?_) (a' := ?_) #[true, true, true, true, true, true, true, true, true, true, true, true, true, true, true, true, true, true, true, true, true, true, true, true] rfl rfl (any_of HT_.out (by kernel_rfl)) (fun _ _ _ h => h) (Or.inl ⟨by rfl, ?_⟩) ?_ ?_
             rotate_left
             ·intro w'
              go_simp
              with_reducible rfl
             rotate_left
             ·simp only [Act.put, List.setIfInBounds_toArray, List.set_cons_zero, List.set_cons_succ, i64_w, i32_w]
              rfl
             refine done_ (done_of HT_.out (by kernel_rfl)) ?_
             try go_wp2
             go_meet
             case rel => exact ⟨_, (true), (by first | rfl | (simp; done) | (simp [*]; done)), H', ⟨by have := HJ3.out; have := HK2.out; have := HK3.out; first | omega | exact Nat.le_refl _⟩, ⟨by (with_reducible repeat (first | apply Kd.N_alloc | apply Kd.N_drewN | apply Kd.N_drew)); exact HO_7.out⟩, ⟨by (with_reducible repeat (first | apply Kd.N_alloc | apply Kd.N_drewN | apply Kd.N_drew)); exact HO_9.out⟩, ⟨by (with_reducible repeat (first | apply Kd.R_alloc | apply Kd.R_drewN | apply Kd.R_drew)); exact HO_10.out⟩, ⟨by repeat (first | (with_reducible exact HR240_0.out) | (with_reducible refine Kd.C_alloc ?_ _) | (with_reducible refine Kd.C_drewN ?_ _) | (with_reducible refine Kd.C_drew ?_) | exact HR240_0.out)⟩, ⟨by repeat (first | (with_reducible first | exact HB.out | apply below_alloc | apply pw_below_drewN | apply below_drew1) | exact HB.out)⟩⟩
            ·rw [if_neg c57] at H
             have c57b0 : decide ((x7_2.length : Int) ≤ (wrap64 (bt ((rd_T36 (rd_L6 t234 x11_3) a1).f1) 0))) = false := decide_eq_false c57
             clear c57
             (first | rw [c57b0] | (simp only [i64_w, i32_w]; rw [c57b0]) | skip)
             obtain ⟨ji59, hji59⟩ : ∃ j_ : Int, (wrap64 (bt ((rd_T36 (rd_L6 t234 x11_3) a1).f1) 0)) = j_ := ⟨_, rfl⟩
             replace H : (if 0 ≤ (ji59) then (if (ji59) < (x10_3.length : Int) then (if rdOf false x10_3 (ji59) = true then (hopperlaw24_OrderStable.j3 k3 l0 a1 l2 x7_2 t234 x10_3 x11_3 ji59 true) else (if (ji59) ≤ (wrap64 ((ji59) + 1)) then (if (wrap64 ((ji59) + 1)) ≤ (x7_2.length : Int) then ((hopperref18_Same.f k3 (([rd_L6 t234 x11_3] : List (List (S36)))) ((x7_2.take ((wrap64 ((ji59) + 1)) : Int).toNat).drop ((ji59) : Int).toNat)).bind fun t252 => (hopperlaw24_OrderStable.j3 k3 l0 a1 l2 x7_2 t234 x10_3 x11_3 ji59 (!t252))) else (none)) else (none))) else (none)) else (none)) = some r := by first | (rw [hji59] at H; exact H) | (simp only [hji59] at H ⊢; exact H)
             (try rw [hji59] at c57b0)
             have hji59w : (IntKind.i64.wrap (bt ((rd_T36 (rd_L6 t234 x11_3) a1).f1) 0)) = ji59 := (i64_w _).trans hji59
             by_cases c60 : 0 ≤ (ji59)
             case neg => rw [if_neg c60] at H; exact absurd H (by simp)
             rw [if_pos c60] at H
             have c60b0 : decide (0 ≤ (ji59)) = true := decide_eq_true c60
             clear c60
             by_cases c61 : (ji59) < (x10_3.length : Int)
             case neg => rw [if_neg c61] at H; exact absurd H (by simp)
             rw [if_pos c61] at H
             have c61b0 : decide ((ji59) < (x10_3.length : Int)) = true := decide_eq_true c61
             clear c61
             obtain ⟨bq62, hbq62⟩ : ∃ b_ : Bool, b_ = (rdOf false x10_3 (ji59)) := ⟨_, rfl⟩
             replace H : (if bq62 = true then (hopperlaw24_OrderStable.j3 k3 l0 a1 l2 x7_2 t234 x10_3 x11_3 ji59 true) else (if (ji59) ≤ (wrap64 ((ji59) + 1)) then (if (wrap64 ((ji59) + 1)) ≤ (x7_2.length : Int) then ((hopperref18_Same.f k3 (([rd_L6 t234 x11_3] : List (List (S36)))) ((x7_2.take ((wrap64 ((ji59) + 1)) : Int).toNat).drop ((ji59) : Int).toNat)).bind fun t252 => (hopperlaw24_OrderStable.j3 k3 l0 a1 l2 x7_2 t234 x10_3 x11_3 ji59 (!t252))) else (none)) else (none))) = some r := by rw [← hbq62] at H; exact H
             have Nbq62 := Aside0.mk hbq62
             clear hbq62
             by_cases c63 : bq62 = true
             ·subst c63
              have H1 : (hopperlaw24_OrderStable.j3 k3 l0 a1 l2 x7_2 t234 x10_3 x11_3 ji59 true) = some r := by rw [if_pos rfl] at H; exact H
              clear H
              have H := H1
              clear H1
              have H' := Aside0.mk H
              clear H
              try go_wp2
              have n0_ := Aside0.mk (Kd.N_drew HO_7.out)
              have n1_ := Aside0.mk (Kd.N_drew HO_9.out)
              have n2_ := Aside0.mk (Kd.R_drew HO_10.out)
              have n3_ := Aside0.mk (Kd.V_drew HL240_0.out)
              have n4_ := Aside0.mk (Kd.C_drew HR240_0.out)
              have n5_ := Aside0.mk (below_drew1 HB.out)
              clear HO_7
              clear HO_9
              clear HO_10
              clear HL240_0
              clear HR240_0
              clear HB
              have HO_7 := n0_
              have HO_9 := n1_
              have HO_10 := n2_
              have HL240_0 := n3_
              have HR240_0 := n4_
              have HB := n5_
              clear n0_ n1_ n2_ n3_ n4_ n5_
              obtain ⟨Ao65, co65, eo65⟩ := Kd.R_slice HO_10.out
              (first | subst eo65 | (injection eo65 with f1_ f2_ f3_; have f4_ := f1_.symm; have f5_ := f3_.symm; clear f1_ f2_ f3_; subst f4_; subst f5_))
              have p242 : 0 ≤ ((ji59) : Int) := of_decide_eq_true (by first | (with_reducible assumption) | assumption)
              have q242 : (ji59) < (x10_3.length : Int) := of_decide_eq_true (by first | (with_reducible assumption) | assumption)
              obtain ⟨ad242, e242, hx242_0⟩ := Kd.at_bool (Kd.R_reads' HO_10.out).2.2 (ji59) p242 q242
              (try rw [← Nbq62.out] at hx242_0)
              cases e242
              replace p242 := eq_true p242
              replace q242 := eq_true q242
              refine start_ (n := 24) (S := fun w' => w'.cell? (ad242.add ((ji59)).toNat) = some (.bool true)) (ds := []) #[false, false, false, false, false, false, false, false, false, false, false, false, false, false, false, false, false, false, false, false, false, false, false, false] (by kernel_rfl) rfl rfl (hx242_0) (fun hHeld => ?_); refine with_tabW hopperlaw24_OrderStable.tab16 hopperlaw24_OrderStable.bits16 (fun HT_ HW_ => ?_)
              generalize wr.drew = w64 at HO_7 HO_9 HO_10 HL240_0 HR240_0 HB hx242_0 hHeld ⊢
              refine pure_ (i := 0) (N := some 82) (v := ?_) (a' := ?_) #[true, false, false, false, false, false, false, false, false, false, false, false, false, false, false, false, false, false, false, false, false, false, false, false] rfl rfl (any_of HT_.out (by kernel_rfl)) (fun _ _ _ h => h) (Or.inl ⟨by rfl, ?_⟩) ?_ ?_
              rotate_left
              ·intro w'
               go_simp
               with_reducible rfl
              rotate_left
              ·simp only [Act.put, List.setIfInBounds_toArray, List.set_cons_zero, List.set_cons_succ, i64_w, i32_w]
               rfl
              refine pure_ (i := 1) (N := some 83) (v := ?_) (a' := ?_) #[true, true, false, false, false, false, false, false, false, false, false, false, false, false, false, false, false, false, false, false, false, false, false, false] rfl rfl (any_of HT_.out (by kernel_rfl)) (fun _ _ _ h => h) (Or.inl ⟨by rfl, ?_⟩) ?_ ?_
              rotate_left
              ·intro w'
               go_simp
               with_reducible rfl
              rotate_left
              ·simp only [Act.put, List.setIfInBounds_toArray, List.set_cons_zero, List.set_cons_succ, i64_w, i32_w]
               rfl
              refine pure_ (i := 2) (N := some 84) (v := ?_) (a' := ?_) #[true, true, true, false, false, false, false, false, false, false, false, false, false, false, false, false, false, false, false, false, false, false, false, false] rfl rfl (any_of HT_.out (by kernel_rfl)) (fun _ _ _ h => h) (Or.inl ⟨by rfl, ?_⟩) ?_ ?_
              rotate_left
              ·intro w'
               go_simp
               with_reducible rfl
              rotate_left
              ·simp only [Act.put, List.setIfInBounds_toArray, List.set_cons_zero, List.set_cons_succ, i64_w, i32_w]
               rfl
              refine pure_ (i := 3) (N := some 85) (v := ?_) (a' := ?_) #[true, true, true, true, false, false, false, false, false, false, false, false, false, false, false, false, false, false, false, false, false, false, false, false] rfl rfl (any_of HT_.out (by kernel_rfl)) (fun _ _ _ h => h) (Or.inl ⟨by rfl, ?_⟩) ?_ ?_
              rotate_left
              ·intro w'
               go_simp
               with_reducible rfl
              rotate_left
              ·simp only [Act.put, List.setIfInBounds_toArray, List.set_cons_zero, List.set_cons_succ, i64_w, i32_w]
               rfl
              refine pure_ (i := 4) (N := some 86) (v := ?_) (a' := ?_) #[true, true, true, true, true, false, false, false, false, false, false, false, false, false, false, false, false, false, false, false, false, false, false, false] rfl rfl (any_of HT_.out (by kernel_rfl)) (fun _ _ _ h => h) (Or.inl ⟨by rfl, ?_⟩) ?_ ?_
              rotate_left
              ·intro w'
               go_simp
               with_reducible rfl
              rotate_left
              ·simp only [Act.put, List.setIfInBounds_toArray, List.set_cons_zero, List.set_cons_succ, i64_w, i32_w]
               rfl
              refine pure_ (i := 5) (N := some 87) (v := ?_) (a' := ?_) #[true, true, true, true, true, true, false, false, false, false, false, false, false, false, false, false, false, false, false, false, false, false, false, false] rfl rfl (any_of HT_.out (by kernel_rfl)) (fun _ _ _ h => h) (Or.inl ⟨by rfl, ?_⟩) ?_ ?_
              rotate_left
              ·intro w'
               go_simp
               with_reducible rfl
              rotate_left
              ·simp only [Act.put, List.setIfInBounds_toArray, List.set_cons_zero, List.set_cons_succ, i64_w, i32_w]
               rfl
              refine pure_ (i := 6) (N := some 88) (v := ?_) (a' := ?_) #[true, true, true, true, true, true, true, false, false, false, false, false, false, false, false, false, false, false, false, false, false, false, false, false] rfl rfl (any_of HT_.out (by kernel_rfl)) (fun _ _ _ h => h) (Or.inl ⟨by rfl, ?_⟩) ?_ ?_
              rotate_left
              ·intro w'
               go_simp
               with_reducible rfl
              rotate_left
              ·simp only [Act.put, List.setIfInBounds_toArray, List.set_cons_zero, List.set_cons_succ, i64_w, i32_w]
               rfl
              refine pure_ (i := 7) (N := some 89) (v := ?_) (a' := ?_) #[true, true, true, true, true, true, true, true, false, false, false, false, false, false, false, false, false, false, false, false, false, false, false, false] rfl rfl (any_of HT_.out (by kernel_rfl)) (fun _ _ _ h => h) (Or.inl ⟨by rfl, ?_⟩) ?_ ?_
              rotate_left
              ·intro w'
               go_simp
               with_reducible rfl
              rotate_left
              ·simp only [Act.put, List.setIfInBounds_toArray, List.set_cons_zero, List.set_cons_succ, i64_w, i32_w]
               rfl
              refine take_ (i := 8) (N := some 90) (v := ?_) (a' := ?_) #[true, true, true, true, true, true, true, true, true, false, false, false, false, false, false, false, false, false, false, false, false, false, false, false] rfl rfl (take_ofW HT_.out HW_.out (by kernel_rfl)) (fun _ _ _ h => h) (Or.inl ⟨by rfl, ?_⟩) hHeld ?_ ?_
              rotate_left
              ·intro w' s0
               go_simp
               with_reducible rfl
              rotate_left
              ·simp only [Act.put, List.setIfInBounds_toArray, List.set_cons_zero, List.set_cons_succ, i64_w, i32_w]
               rfl
              refine pure_ (i := 9) (N := some 91) (v := ?_) (a' := ?_) #[true, true, true, true, true, true, true, true, true, true, false, false, false, false, false, false, false, false, false, false, false, false, false, false] rfl rfl (any_of HT_.out (by kernel_rfl)) (fun _ _ _ h => h) (Or.inl ⟨by rfl, ?_⟩) ?_ ?_
              rotate_left
              ·intro w'
               go_simp
               with_reducible rfl
              rotate_left
              ·simp only [Act.put, List.setIfInBounds_toArray, List.set_cons_zero, List.set_cons_succ, i64_w, i32_w]
               rfl
              refine pure_ (i := 10) (N := some 92) (v := ?_) (a' := ?_) #[true, true, true, true, true, true, true, true, true, true, true, false, false, false, false, false, false, false, false, false, false, false, false, false] rfl rfl (any_of HT_.out (by kernel_rfl)) (fun _ _ _ h => h) (Or.inl ⟨by rfl, ?_⟩) ?_ ?_
              rotate_left
              ·intro w'
               go_simp
               with_reducible rfl
              rotate_left
              ·simp only [Act.put, List.setIfInBounds_toArray, List.set_cons_zero, List.set_cons_succ, i64_w, i32_w]
               rfl
              refine pure_ (i := 11) (N := some 93) (v := undef) (a' := ?_) #[true, true, true, true, true, true, true, true, true, true, true, true, false, false, false, false, false, false, false, false, false, false, false, false] rfl rfl (any_of HT_.out (by kernel_rfl)) (fun _ _ _ h => h) (Or.inr ⟨by rfl, rfl⟩) ?_ ?_
              rotate_left
              ·simp only [Act.put, List.setIfInBounds_toArray, List.set_cons_zero, List.set_cons_succ, i64_w, i32_w]
               rfl
              refine pure_ (i := 12) (N := some 94) (v := undef) (a' := ?_) #[true, true, true, true, true, true, true, true, true, true, true, true, true, false, false, false, false, false, false, false, false, false, false, false] rfl rfl (any_of HT_.out (by kernel_rfl)) (fun _ _ _ h => h) (Or.inr ⟨by rfl, rfl⟩) ?_ ?_
              rotate_left
              ·simp only [Act.put, List.setIfInBounds_toArray, List.set_cons_zero, List.set_cons_succ, i64_w, i32_w]
               rfl
              refine pure_ (i := 13) (N := some 95) (v := undef) (a' := ?_) #[true, true, true, true, true, true, true, true, true, true, true, true, true, true, false, false, false, false, false, false, false, false, false, false] rfl rfl (any_of HT_.out (by kernel_rfl)) (fun _ _ _ h => h) (Or.inr ⟨by rfl, rfl⟩) ?_ ?_
              rotate_left
              ·simp only [Act.put, List.setIfInBounds_toArray, List.set_cons_zero, List.set_cons_succ, i64_w, i32_w]
               rfl
              refine pure_ (i := 14) (N := some 96) (v := undef) (a' := ?_) #[true, true, true, true, true, true, true, true, true, true, true, true, true, true, true, false, false, false, false, false, false, false, false, false] rfl rfl (any_of HT_.out (by kernel_rfl)) (fun _ _ _ h => h) (Or.inr ⟨by rfl, rfl⟩) ?_ ?_
              rotate_left
              ·simp only [Act.put, List.setIfInBounds_toArray, List.set_cons_zero, List.set_cons_succ, i64_w, i32_w]
               rfl
              refine pure_ (i := 15) (N := some 97) (v := undef) (a' := ?_) #[true, true, true, true, true, true, true, true, true, true, true, true, true, true, true, true, false, false, false, false, false, false, false, false] rfl rfl (any_of HT_.out (by kernel_rfl)) (fun _ _ _ h => h) (Or.inr ⟨by rfl, rfl⟩) ?_ ?_
              rotate_left
              ·simp only [Act.put, List.setIfInBounds_toArray, List.set_cons_zero, List.set_cons_succ, i64_w, i32_w]
               rfl
              refine pure_ (i := 16) (N := some 98) (v := undef) (a' := ?_) #[true, true, true, true, true, true, true, true, true, true, true, true, true, true, true, true, true, false, false, false, false, false, false, false] rfl rfl (any_of HT_.out (by kernel_rfl)) (fun _ _ _ h => h) (Or.inr ⟨by rfl, rfl⟩) ?_ ?_
              rotate_left
              ·simp only [Act.put, List.setIfInBounds_toArray, List.set_cons_zero, List.set_cons_succ, i64_w, i32_w]
               rfl
              refine pure_ (i := 17) (N := some 99) (v := undef) (a' := ?_) #[true, true, true, true, true, true, true, true, true, true, true, true, true, true, true, true, true, true, false, false, false, false, false, false] rfl rfl (any_of HT_.out (by kernel_rfl)) (fun _ _ _ h => h) (Or.inr ⟨by rfl, rfl⟩) ?_ ?_
              rotate_left
              ·simp only [Act.put, List.setIfInBounds_toArray, List.set_cons_zero, List.set_cons_succ, i64_w, i32_w]
               rfl
              refine pure_ (i := 18) (N := some 100) (v := undef) (a' := ?_) #[true, true, true, true, true, true, true, true, true, true, true, true, true, true, true, true, true, true, true, false, false, false, false, false] rfl rfl (any_of HT_.out (by kernel_rfl)) (fun _ _ _ h => h) (Or.inr ⟨by rfl, rfl⟩) ?_ ?_
              rotate_left
              ·simp only [Act.put, List.setIfInBounds_toArray, List.set_cons_zero, List.set_cons_succ, i64_w, i32_w]
               rfl
              refine pure_ (i := 19) (N := some 101) (v := undef) (a' := ?_) #[true, true, true, true, true, true, true, true, true, true, true, true, true, true, true, true, true, true, true, true, false, false, false, false] rfl rfl (any_of HT_.out (by kernel_rfl)) (fun _ _ _ h => h) (Or.inr ⟨by rfl, rfl⟩) ?_ ?_
              rotate_left
              ·simp only [Act.put, List.setIfInBounds_toArray, List.set_cons_zero, List.set_cons_succ, i64_w, i32_w]
               rfl
              refine pure_ (i := 20) (N := some 102) (v := undef) (a' := ?_) #[true, true, true, true, true, true, true, true, true, true, true, true, true, true, true, true, true, true, true, true, true, false, false, false] rfl rfl (any_of HT_.out (by kernel_rfl)) (fun _ _ _ h => h) (Or.inr ⟨by rfl, rfl⟩) ?_ ?_
              rotate_left
              ·simp only [Act.put, List.setIfInBounds_toArray, List.set_cons_zero, List.set_cons_succ, i64_w, i32_w]
               rfl
              refine pure_ (i := 21) (N := some 103) (v := undef) (a' := ?_) #[true, true, true, true, true, true, true, true, true, true, true, true, true, true, true, true, true, true, true, true, true, true, false, false] rfl rfl (any_of HT_.out (by kernel_rfl)) (fun _ _ _ h => h) (Or.inr ⟨by rfl, rfl⟩) ?_ ?_
              rotate_left
              ·simp only [Act.put, List.setIfInBounds_toArray, List.set_cons_zero, List.set_cons_succ, i64_w, i32_w]
               rfl
              refine pure_ (i := 22) (N := some 104) (v := undef) (a' := ?_) #[true, true, true, true, true, true, true, true, true, true, true, true, true, true, true, true, true, true, true, true, true, true, true, false] rfl rfl (any_of HT_.out (by kernel_rfl)) (fun _ _ _ h => h) (Or.inr ⟨by rfl, rfl⟩) ?_ ?_
              rotate_left
              ·simp only [Act.put, List.setIfInBounds_toArray, List.set_cons_zero, List.set_cons_succ, i64_w, i32_w]
               rfl
              refine pure_ (i := 23) (N := some 105) (v := ?_) (a' := ?_) #[true, true, true, true, true, true, true, true, true, true, true, true, true, true, true, true, true, true, true, true, true, true, true, true] rfl rfl (any_of HT_.out (by kernel_rfl)) (fun _ _ _ h => h) (Or.inl ⟨by rfl, ?_⟩) ?_ ?_
              rotate_left
              ·intro w'
               go_simp
               with_reducible rfl
              rotate_left
              ·simp only [Act.put, List.setIfInBounds_toArray, List.set_cons_zero, List.set_cons_succ, i64_w, i32_w]
               rfl
              refine done_ (done_of HT_.out (by kernel_rfl)) ?_
              try go_wp2
              subst hji59
              go_meet
              case rel => exact ⟨_, (true), (by first | rfl | (simp; done) | (simp [*]; done)), (by first | exact H' | (rw [← Nbq62.out]; exact H')), ⟨by have := HJ3.out; have := HK2.out; have := HK3.out; first | omega | exact Nat.le_refl _⟩, ⟨by (with_reducible repeat (first | apply Kd.N_alloc | apply Kd.N_drewN | apply Kd.N_drew)); exact HO_7.out⟩, ⟨by (with_reducible repeat (first | apply Kd.N_alloc | apply Kd.N_drewN | apply Kd.N_drew)); exact HO_9.out⟩, ⟨by (with_reducible repeat (first | apply Kd.R_alloc | apply Kd.R_drewN | apply Kd.R_drew)); exact HO_10.out⟩, ⟨by repeat (first | (with_reducible exact HR240_0.out) | (with_reducible refine Kd.C_alloc ?_ _) | (with_reducible refine Kd.C_drewN ?_ _) | (with_reducible refine Kd.C_drew ?_) | exact HR240_0.out)⟩, ⟨by repeat (first | (with_reducible first | exact HB.out | apply below_alloc | apply pw_below_drewN | apply below_drew1) | exact HB.out)⟩⟩
             ·replace c63 := Bool.eq_false_iff.mpr c63
              subst c63
              have H1 : (if (ji59) ≤ (wrap64 ((ji59) + 1)) then (if (wrap64 ((ji59) + 1)) ≤ (x7_2.length : Int) then ((hopperref18_Same.f k3 (([rd_L6 t234 x11_3] : List (List (S36)))) ((x7_2.take ((wrap64 ((ji59) + 1)) : Int).toNat).drop ((ji59) : Int).toNat)).bind fun t252 => (hopperlaw24_OrderStable.j3 k3 l0 a1 l2 x7_2 t234 x10_3 x11_3 ji59 (!t252))) else (none)) else (none)) = some r := by rw [if_neg (show ¬ (false = true) by decide)] at H; exact H
              clear H
              have H := H1
              clear H1
              obtain ⟨y244, hy244⟩ : ∃ y_ : List (List (S36)), y_ = (([rd_L6 t234 x11_3] : List (List (S36)))) := ⟨_, rfl⟩
              replace H : (if (ji59) ≤ (wrap64 ((ji59) + 1)) then (if (wrap64 ((ji59) + 1)) ≤ (x7_2.length : Int) then ((hopperref18_Same.f k3 y244 ((x7_2.take ((wrap64 ((ji59) + 1)) : Int).toNat).drop ((ji59) : Int).toNat)).bind fun t252 => (hopperlaw24_OrderStable.j3 k3 l0 a1 l2 x7_2 t234 x10_3 x11_3 ji59 (!t252))) else (none)) else (none)) = some r := by first | (rw [hy244]; with_reducible exact H) | (have H2_ := (Option.bind_some _ _).symm.trans H; rw [hy244]; with_reducible exact H2_) | (have H2_ := (Option.bind_some _ _).symm.trans H; with_reducible exact H2_) | with_reducible exact H | (rw [hy244]; exact H) | exact H
              have Ny244 := Aside0.mk hy244
              clear hy244
              have c66b0 := eq_true (of_decide_eq_true (by first | (with_reducible assumption) | assumption) : 0 ≤ (ji59))
              by_cases c67 : (ji59) ≤ (wrap64 ((ji59) + 1))
              case neg => rw [if_neg c67] at H; exact absurd H (by simp)
              rw [if_pos c67] at H
              have c67b0 := eq_true c67
              have c67b1 : decide ((ji59) ≤ (wrap64 ((ji59) + 1))) = true := decide_eq_true c67
              by_cases c68 : (wrap64 ((ji59) + 1)) ≤ (x7_2.length : Int)
              case neg => rw [if_neg c68] at H; exact absurd H (by simp)
              rw [if_pos c68] at H
              have c68b0 := eq_true c68
              have c68b1 : decide ((wrap64 ((ji59) + 1)) ≤ (x7_2.length : Int)) = true := decide_eq_true c68
              obtain ⟨y247, hy247⟩ : ∃ y_ : List (List (S36)), y_ = ((x7_2.take ((wrap64 ((ji59) + 1)) : Int).toNat).drop ((ji59) : Int).toNat) := ⟨_, rfl⟩
              replace H : ((hopperref18_Same.f k3 y244 y247).bind fun t252 => (hopperlaw24_OrderStable.j3 k3 l0 a1 l2 x7_2 t234 x10_3 x11_3 ji59 (!t252))) = some r := by first | (rw [hy247]; with_reducible exact H) | (have H2_ := (Option.bind_some _ _).symm.trans H; rw [hy247]; with_reducible exact H2_) | (have H2_ := (Option.bind_some _ _).symm.trans H; with_reducible exact H2_) | with_reducible exact H | (rw [hy247]; exact H) | exact H
              have Ny247 := Aside0.mk hy247
              clear hy247
              replace H := Option.bind_eq_some_iff.mp H
              obtain ⟨t252, A690, H⟩ := H
              replace H : (hopperlaw24_OrderStable.j3 k3 l0 a1 l2 x7_2 t234 x10_3 x11_3 ji59 (!t252)) = some r := H
              have A69 := Aside0.mk A690
              clear A690
              have H' := Aside0.mk H
              clear H
              try go_wp2
              have n0_ := Aside0.mk (Kd.N_drew HO_7.out)
              have n1_ := Aside0.mk (Kd.N_drew HO_9.out)
              have n2_ := Aside0.mk (Kd.R_drew HO_10.out)
              have n3_ := Aside0.mk (Kd.V_drew HL240_0.out)
              have n4_ := Aside0.mk (Kd.C_drew HR240_0.out)
              have n5_ := Aside0.mk (below_drew1 HB.out)
              clear HO_7
              clear HO_9
              clear HO_10
              clear HL240_0
              clear HR240_0
              clear HB
              have HO_7 := n0_
              have HO_9 := n1_
              have HO_10 := n2_
              have HL240_0 := n3_
              have HR240_0 := n4_
              have HB := n5_
              clear n0_ n1_ n2_ n3_ n4_ n5_
              obtain ⟨Ao71, co71, eo71⟩ := Kd.R_slice HO_10.out
              (first | subst eo71 | (injection eo71 with f1_ f2_ f3_; have f4_ := f1_.symm; have f5_ := f3_.symm; clear f1_ f2_ f3_; subst f4_; subst f5_))
              have p242 : 0 ≤ ((ji59) : Int) := of_decide_eq_true (by first | (with_reducible assumption) | assumption)
              have q242 : (ji59) < (x10_3.length : Int) := of_decide_eq_true (by first | (with_reducible assumption) | assumption)
              obtain ⟨ad242, e242, hx242_0⟩ := Kd.at_bool (Kd.R_reads' HO_10.out).2.2 (ji59) p242 q242
              (try rw [← Nbq62.out] at hx242_0)
              cases e242
              replace p242 := eq_true p242
              replace q242 := eq_true q242
              have p243 : 0 ≤ (x11_3 : Int) := of_decide_eq_true (by first | (with_reducible assumption) | assumption)
              have q243 : x11_3 < (t234.length : Int) := of_decide_eq_true (by first | (with_reducible assumption) | assumption)
              obtain ⟨ad243, A243_0, c243_0, e243, hx243_0, hl243_0, hi243_0⟩ := at_L6 (Kd.N_reads' HO_9.out).2.2 x11_3 p243 q243
              obtain rfl : ad240 = ad243 := (by injection e243)
              obtain ⟨ce243, hce243, hMe243, hcc243⟩ := Kd.N_get HO_9.out [] x11_3 p243 (by first | exact q243 | exact of_decide_eq_true (by first | (with_reducible assumption) | assumption) | (have e_ := (Kd.N_reads' HO_9.out).1; omega))
              obtain ⟨ua243_0, uc243_0, rfl, ul243_0, ge243_0⟩ := Kd.FK_slice_open hMe243
              have hv243_0 := hcc243 0 _ rfl
              rw [Nat.add_zero, show ((Kd.slice 36 k36)).sz = 1 from rfl, Nat.mul_one] at hv243_0
              replace hv243_0 := Option.some.inj (hv243_0.symm.trans hx243_0)
              injection hv243_0 with hva_ hvn_ hvc_
              rw [hva_] at ge243_0
              rw [hvc_] at ul243_0
              have HL243_0 := Aside0.mk (show Kd.V k36 36 _ w.heap.size _ _ (rd_L6 t234 x11_3) from Kd.V_mk ul243_0 ge243_0)
              clear hva_ hvn_ hvc_ ge243_0 ul243_0
              clear hcc243 hce243
              have HR243_0 := Aside0.mk hi243_0
              have HC243_0 := Aside0.mk hl243_0
              clear hi243_0 hl243_0
              replace p243 := eq_true p243
              replace q243 := eq_true q243
              have q72 : ((wrap64 ((ji59) + 1)) : Int) ≤ ((x7_2.length : Int) : Int) := of_decide_eq_true (by first | (with_reducible assumption) | assumption)
              obtain ⟨i072, hi072, _, hsz72, _⟩ := info_parts info28
              have hroom72 : x7_2.length ≤ co45 := (Kd.N_reads' HO_7.out).2.1
              have hC72 : Kd.F (Kd.slice 36 k36) _ _ Ao45 x7_2.length x7_2 := (Kd.V_at (base := w.heap.size) (Kd.N_V HO_7.out)).2.2
              have ql72 : ((ji59) : Int) ≤ ((wrap64 ((ji59) + 1)) : Int) := of_decide_eq_true (by first | (with_reducible assumption) | assumption)
              have q072 : (0 : Int) ≤ ((ji59) : Int) := of_decide_eq_true (by first | (with_reducible assumption) | assumption)
              have hcut72 := cut_mid (P := Tryd.prog) 22 28 .i64 .i64 Tryd.underlying22 hi072 1 hsz72 Ao45 x7_2.length co45 (ji59) (wrap64 ((ji59) + 1)) q072 ql72 q72 hroom72
              have hr72 := Kd.F_mid (lo := ((ji59) : Int).toNat) (hi := ((wrap64 ((ji59) + 1)) : Int).toNat) (c := co45) hC72 (by omega) (by omega) hroom72
              obtain ⟨A72, hA72⟩ : ∃ A1, A1 = (if co45 = ((ji59) : Int).toNat then Ao45 else (Ao45 : Option Addr).map (·.add (((ji59) : Int).toNat * 1))) := ⟨_, rfl⟩
              obtain ⟨c72, hc72⟩ : ∃ c1, c1 = co45 - ((ji59) : Int).toNat := ⟨_, rfl⟩
              have hy72 : y247.length = ((wrap64 ((ji59) + 1)) : Int).toNat - ((ji59) : Int).toNat := (by rw [Ny247.out, List.length_drop, List.length_take] <;> omega)
              rw [show ((x7_2).take ((wrap64 ((ji59) + 1)) : Int).toNat).drop ((ji59) : Int).toNat = y247 from Ny247.out.symm] at hr72
              replace hr72 : Kd.F (Kd.slice 36 k36) _ _ A72 y247.length y247 := (by rw [hA72]; exact hr72)
              rw [← hy72, ← hA72, ← hc72] at hcut72
              have HO251 := Aside0.mk (show Kd.V (Kd.slice 36 k36) 28 _ w.heap.size _ (.slice A72 y247.length c72) y247 from Kd.V_mk (by rw [hy72, hc72]; exact Nat.sub_le_sub_right (Nat.le_trans (by omega) hroom72) _) hr72)
              have HC251 := Aside0.mk (show y247.length ≤ c72 from by rw [hy72, hc72]; exact Nat.sub_le_sub_right (Nat.le_trans (by omega) hroom72) _)
              clear hr72 hC72 hroom72 hi072 hsz72 hc72
              have KY72 := Aside0.mk hy72
              have KA72 := Aside0.mk hA72
              clear hy72 hA72
              replace q72 := eq_true q72
              refine start_ (n := 24) (S := fun w' => w'.cell? (ad242.add ((ji59)).toNat) = some (.bool false) ∧ w'.cell? (ad240.add (x11_3).toNat) = some (.slice A243_0 (rd_L6 t234 x11_3).length c243_0)) (ds := []) #[false, false, false, false, false, false, false, false, false, false, false, false, false, false, false, false, false, false, false, false, false, false, false, false] (by kernel_rfl) rfl rfl ⟨hx242_0, hx243_0⟩ (fun hHeld => ?_); refine with_tabW hopperlaw24_OrderStable.tab16 hopperlaw24_OrderStable.bits16 (fun HT_ HW_ => ?_)
              generalize wr.drew = w70 at HO_7 HO_9 HO_10 HL240_0 HR240_0 HB HL243_0 HO251 HR243_0 hx242_0 hx243_0 hHeld ⊢
              refine pure_ (i := 0) (N := some 82) (v := ?_) (a' := ?_) #[true, false, false, false, false, false, false, false, false, false, false, false, false, false, false, false, false, false, false, false, false, false, false, false] rfl rfl (any_of HT_.out (by kernel_rfl)) (fun _ _ _ h => h) (Or.inl ⟨by rfl, ?_⟩) ?_ ?_
              rotate_left
              ·intro w'
               go_simp
               with_reducible rfl
              rotate_left
              ·simp only [Act.put, List.setIfInBounds_toArray, List.set_cons_zero, List.set_cons_succ, i64_w, i32_w]
               rfl
              refine pure_ (i := 1) (N := some 83) (v := ?_) (a' := ?_) #[true, true, false, false, false, false, false, false, false, false, false, false, false, false, false, false, false, false, false, false, false, false, false, false] rfl rfl (any_of HT_.out (by kernel_rfl)) (fun _ _ _ h => h) (Or.inl ⟨by rfl, ?_⟩) ?_ ?_
              rotate_left
              ·intro w'
               go_simp
               with_reducible rfl
              rotate_left
              ·simp only [Act.put, List.setIfInBounds_toArray, List.set_cons_zero, List.set_cons_succ, i64_w, i32_w]
               rfl
              refine pure_ (i := 2) (N := some 84) (v := ?_) (a' := ?_) #[true, true, true, false, false, false, false, false, false, false, false, false, false, false, false, false, false, false, false, false, false, false, false, false] rfl rfl (any_of HT_.out (by kernel_rfl)) (fun _ _ _ h => h) (Or.inl ⟨by rfl, ?_⟩) ?_ ?_
              rotate_left
              ·intro w'
               go_simp
               with_reducible rfl
              rotate_left
              ·simp only [Act.put, List.setIfInBounds_toArray, List.set_cons_zero, List.set_cons_succ, i64_w, i32_w]
               rfl
              refine pure_ (i := 3) (N := some 85) (v := ?_) (a' := ?_) #[true, true, true, true, false, false, false, false, false, false, false, false, false, false, false, false, false, false, false, false, false, false, false, false] rfl rfl (any_of HT_.out (by kernel_rfl)) (fun _ _ _ h => h) (Or.inl ⟨by rfl, ?_⟩) ?_ ?_
              rotate_left
              ·intro w'
               go_simp
               with_reducible rfl
              rotate_left
              ·simp only [Act.put, List.setIfInBounds_toArray, List.set_cons_zero, List.set_cons_succ, i64_w, i32_w]
               rfl
              refine pure_ (i := 4) (N := some 86) (v := ?_) (a' := ?_) #[true, true, true, true, true, false, false, false, false, false, false, false, false, false, false, false, false, false, false, false, false, false, false, false] rfl rfl (any_of HT_.out (by kernel_rfl)) (fun _ _ _ h => h) (Or.inl ⟨by rfl, ?_⟩) ?_ ?_
              rotate_left
              ·intro w'
               go_simp
               with_reducible rfl
              rotate_left
              ·simp only [Act.put, List.setIfInBounds_toArray, List.set_cons_zero, List.set_cons_succ, i64_w, i32_w]
               rfl
              refine pure_ (i := 5) (N := some 87) (v := ?_) (a' := ?_) #[true, true, true, true, true, true, false, false, false, false, false, false, false, false, false, false, false, false, false, false, false, false, false, false] rfl rfl (any_of HT_.out (by kernel_rfl)) (fun _ _ _ h => h) (Or.inl ⟨by rfl, ?_⟩) ?_ ?_
              rotate_left
              ·intro w'
               go_simp
               with_reducible rfl
              rotate_left
              ·simp only [Act.put, List.setIfInBounds_toArray, List.set_cons_zero, List.set_cons_succ, i64_w, i32_w]
               rfl
              refine pure_ (i := 6) (N := some 88) (v := ?_) (a' := ?_) #[true, true, true, true, true, true, true, false, false, false, false, false, false, false, false, false, false, false, false, false, false, false, false, false] rfl rfl (any_of HT_.out (by kernel_rfl)) (fun _ _ _ h => h) (Or.inl ⟨by rfl, ?_⟩) ?_ ?_
              rotate_left
              ·intro w'
               go_simp
               with_reducible rfl
              rotate_left
              ·simp only [Act.put, List.setIfInBounds_toArray, List.set_cons_zero, List.set_cons_succ, i64_w, i32_w]
               rfl
              refine pure_ (i := 7) (N := some 89) (v := ?_) (a' := ?_) #[true, true, true, true, true, true, true, true, false, false, false, false, false, false, false, false, false, false, false, false, false, false, false, false] rfl rfl (any_of HT_.out (by kernel_rfl)) (fun _ _ _ h => h) (Or.inl ⟨by rfl, ?_⟩) ?_ ?_
              rotate_left
              ·intro w'
               go_simp
               with_reducible rfl
              rotate_left
              ·simp only [Act.put, List.setIfInBounds_toArray, List.set_cons_zero, List.set_cons_succ, i64_w, i32_w]
               rfl
              refine take_ (i := 8) (N := some 90) (v := ?_) (a' := ?_) #[true, true, true, true, true, true, true, true, true, false, false, false, false, false, false, false, false, false, false, false, false, false, false, false] rfl rfl (take_ofW HT_.out HW_.out (by kernel_rfl)) (fun _ _ _ h => h) (Or.inl ⟨by rfl, ?_⟩) hHeld ?_ ?_
              rotate_left
              ·rintro w' ⟨s0, s1⟩
               go_simp
               with_reducible rfl
              rotate_left
              ·simp only [Act.put, List.setIfInBounds_toArray, List.set_cons_zero, List.set_cons_succ, i64_w, i32_w]
               rfl
              refine pure_ (i := 9) (N := some 91) (v := ?_) (a' := ?_) #[true, true, true, true, true, true, true, true, true, true, false, false, false, false, false, false, false, false, false, false, false, false, false, false] rfl rfl (any_of HT_.out (by kernel_rfl)) (fun _ _ _ h => h) (Or.inl ⟨by rfl, ?_⟩) ?_ ?_
              rotate_left
              ·intro w'
               go_simp
               with_reducible rfl
              rotate_left
              ·simp only [Act.put, List.setIfInBounds_toArray, List.set_cons_zero, List.set_cons_succ, i64_w, i32_w]
               rfl
              refine pure_ (i := 10) (N := some 92) (v := ?_) (a' := ?_) #[true, true, true, true, true, true, true, true, true, true, true, false, false, false, false, false, false, false, false, false, false, false, false, false] rfl rfl (any_of HT_.out (by kernel_rfl)) (fun _ _ _ h => h) (Or.inl ⟨by rfl, ?_⟩) ?_ ?_
              rotate_left
              ·intro w'
               go_simp
               with_reducible rfl
              rotate_left
              ·simp only [Act.put, List.setIfInBounds_toArray, List.set_cons_zero, List.set_cons_succ, i64_w, i32_w]
               rfl
              refine pure_ (i := 11) (N := some 93) (v := ?_) (a' := ?_) #[true, true, true, true, true, true, true, true, true, true, true, true, false, false, false, false, false, false, false, false, false, false, false, false] rfl rfl (any_of HT_.out (by kernel_rfl)) (fun _ _ _ h => h) (Or.inl ⟨by rfl, ?_⟩) ?_ ?_
              rotate_left
              ·intro w'
               go_simp
               with_reducible rfl
              rotate_left
              ·simp only [Act.put, List.setIfInBounds_toArray, List.set_cons_zero, List.set_cons_succ, i64_w, i32_w]
               rfl
              refine pure_ (i := 12) (N := some 94) (v := ?_) (a' := ?_) #[true, true, true, true, true, true, true, true, true, true, true, true, true, false, false, false, false, false, false, false, false, false, false, false] rfl rfl (any_of HT_.out (by kernel_rfl)) (fun _ _ _ h => h) (Or.inl ⟨by rfl, ?_⟩) ?_ ?_
              rotate_left
              ·intro w'
               go_simp
               with_reducible rfl
              rotate_left
              ·simp only [Act.put, List.setIfInBounds_toArray, List.set_cons_zero, List.set_cons_succ, i64_w, i32_w]
               rfl
              refine pure_ (i := 13) (N := some 95) (v := ?_) (a' := ?_) #[true, true, true, true, true, true, true, true, true, true, true, true, true, true, false, false, false, false, false, false, false, false, false, false] rfl rfl (any_of HT_.out (by kernel_rfl)) (fun _ _ _ h => h) (Or.inl ⟨by rfl, ?_⟩) ?_ ?_
              rotate_left
              ·intro w'
               go_simp
               with_reducible rfl
              rotate_left
              ·simp only [Act.put, List.setIfInBounds_toArray, List.set_cons_zero, List.set_cons_succ, i64_w, i32_w]
               rfl
              refine pure_ (i := 16) (N := some 98) (v := ?_) (a' := ?_) #[true, true, true, true, true, true, true, true, true, true, true, true, true, true, false, false, true, false, false, false, false, false, false, false] rfl rfl (any_of HT_.out (by kernel_rfl)) (fun _ _ _ h => h) (Or.inl ⟨by rfl, ?_⟩) ?_ ?_
              rotate_left
              ·intro w'
               go_simp
               with_reducible rfl
              rotate_left
              ·simp only [Act.put, List.setIfInBounds_toArray, List.set_cons_zero, List.set_cons_succ, i64_w, i32_w]
               rfl
              refine pure_ (i := 17) (N := some 99) (v := ?_) (a' := ?_) #[true, true, true, true, true, true, true, true, true, true, true, true, true, true, false, false, true, true, false, false, false, false, false, false] rfl rfl (any_of HT_.out (by kernel_rfl)) (fun _ _ _ h => h) (Or.inl ⟨by rfl, ?_⟩) ?_ ?_
              rotate_left
              ·intro w'
               go_simp
               with_reducible rfl
              rotate_left
              ·simp only [Act.put, List.setIfInBounds_toArray, List.set_cons_zero, List.set_cons_succ, i64_w, i32_w]
               rfl
              refine pure_ (i := 18) (N := some 100) (v := ?_) (a' := ?_) #[true, true, true, true, true, true, true, true, true, true, true, true, true, true, false, false, true, true, true, false, false, false, false, false] rfl rfl (any_of HT_.out (by kernel_rfl)) (fun _ _ _ h => h) (Or.inl ⟨by rfl, ?_⟩) ?_ ?_
              rotate_left
              ·intro w'
               go_simp
               with_reducible rfl
              rotate_left
              ·simp only [Act.put, List.setIfInBounds_toArray, List.set_cons_zero, List.set_cons_succ, i64_w, i32_w]
               rfl
              refine pure_ (i := 19) (N := some 101) (v := ?_) (a' := ?_) #[true, true, true, true, true, true, true, true, true, true, true, true, true, true, false, false, true, true, true, true, false, false, false, false] rfl rfl (any_of HT_.out (by kernel_rfl)) (fun _ _ _ h => h) (Or.inl ⟨by rfl, ?_⟩) ?_ ?_
              rotate_left
              ·intro w'
               go_simp
               with_reducible rfl
              rotate_left
              ·simp only [Act.put, List.setIfInBounds_toArray, List.set_cons_zero, List.set_cons_succ, i64_w, i32_w]
               rfl
              refine pure_ (i := 20) (N := some 102) (v := ?_) (a' := ?_) #[true, true, true, true, true, true, true, true, true, true, true, true, true, true, false, false, true, true, true, true, true, false, false, false] rfl rfl (any_of HT_.out (by kernel_rfl)) (fun _ _ _ h => h) (Or.inl ⟨by rfl, ?_⟩) ?_ ?_
              rotate_left
              ·intro w'
               go_simp
               with_reducible rfl
              rotate_left
              ·simp only [Act.put, List.setIfInBounds_toArray, List.set_cons_zero, List.set_cons_succ, i64_w, i32_w]
               rfl
              refine take_ (i := 14) (N := some 96) (v := ?_) (a' := ?_) #[true, true, true, true, true, true, true, true, true, true, true, true, true, true, true, false, true, true, true, true, true, false, false, false] rfl rfl (take_ofW HT_.out HW_.out (by kernel_rfl)) (fun _ _ _ h => h) (Or.inl ⟨by rfl, ?_⟩) hHeld ?_ ?_
              rotate_left
              ·rintro w' ⟨s0, s1⟩
               go_simp
               with_reducible rfl
              rotate_left
              ·simp only [Act.put, List.setIfInBounds_toArray, List.set_cons_zero, List.set_cons_succ, i64_w, i32_w]
               rfl
              refine one_ (i := 15) (N := some 97) #[true, true, true, true, true, true, true, true, true, true, true, true, true, true, true, true, true, true, true, true, true, false, false, false] rfl rfl (one_of HT_.out (by kernel_rfl)) (by decide) (fun K hK => ?_)
              refine Kd.N_lit_step (Kd.slice 36 k36) _ 28 ?hg (N' := 97) ?hd (xs := ([rd_L6 t234 x11_3] : List (List (S36)))) (inner := [.slice A243_0 (rd_L6 t234 x11_3).length c243_0]) (ok := (fun k_ => some k_ ≠ (.slice Ao45 x7_2.length co45 : Value).ownBlock ∧ some k_ ≠ (.slice (some ad240) t234.length co47 : Value).ownBlock ∧ some k_ ≠ (.slice (some ad242) x10_3.length co71 : Value).ownBlock)) (okp := (fun k_ => some k_ ≠ (.slice Ao45 x7_2.length co45 : Value).ownBlock ∧ some k_ ≠ (.slice (some ad240) t234.length co47 : Value).ownBlock ∧ some k_ ≠ (.slice (some ad242) x10_3.length co71 : Value).ownBlock)) ?hr ?hp (fun _ hk => hk) ((show ∀ k_, w70.heap.size ≤ k_ → (fun k_ => some k_ ≠ (.slice Ao45 x7_2.length co45 : Value).ownBlock ∧ some k_ ≠ (.slice (some ad240) t234.length co47 : Value).ownBlock ∧ some k_ ≠ (.slice (some ad242) x10_3.length co71 : Value).ownBlock) k_ from fun k_ hk => ⟨Kd.fresh' (Kd.N_lt (mvN HO_7.out)) k_ hk, Kd.fresh' (Kd.N_lt (mvN HO_9.out)) k_ hk, Kd.fresh' (Kd.R_lt (mvR HO_10.out)) k_ hk⟩) _ (Nat.le_refl _)) (Below.refl _ _) (Nat.le_refl _) (by simp) ?_; (case hd => rfl); (case hg => rfl); (case hr => first | (go_simp; done) | (go_simp; rfl) | (go_simp; simp (disch := omega) only [Go.u8_and63, Go.u8_and31, Go.u8_and15, Go.u8_and7, Go.u8_or128, Go.u8_or192, Go.u8_or224, Go.u8_or240, m64]; done)); (case hp => exact (Reps.one (show Kd.FK (Kd.slice 36 k36) _ _ (rd_L6 t234 x11_3) [.slice A243_0 (rd_L6 t234 x11_3).length c243_0] from (Kd.FK_slice_mk (Kd.V_reads' (Kd.V_mono (ok' := (fun k_ => some k_ ≠ (.slice Ao45 x7_2.length co45 : Value).ownBlock ∧ some k_ ≠ (.slice (some ad240) t234.length co47 : Value).ownBlock ∧ some k_ ≠ (.slice (some ad242) x10_3.length co71 : Value).ownBlock)) (HL243_0.out) (fun k_ hk => ⟨hk.1.1, ⟨hk.2, hk.1.2⟩⟩))).2.1 (Kd.V_F (Kd.V_mono (ok' := (fun k_ => some k_ ≠ (.slice Ao45 x7_2.length co45 : Value).ownBlock ∧ some k_ ≠ (.slice (some ad240) t234.length co47 : Value).ownBlock ∧ some k_ ≠ (.slice (some ad242) x10_3.length co71 : Value).ownBlock)) (HL243_0.out) (fun k_ hk => ⟨hk.1.1, ⟨hk.2, hk.1.2⟩⟩))))) (Reps.none _ _)))
              intro v245 w73 ho74 hb hg_ hnew_
              have HS0_ := (hb.cell (World.block_lt_of_cell? _ _ (hHeld.1))).trans (hHeld.1)
              have HS1_ := (hb.cell (World.block_lt_of_cell? _ _ (hHeld.2))).trans (hHeld.2)
              clear hg_ hnew_
              (first | rw [← Ny244.out] at ho74 | (simp only [Int.reduceToNat] at ho74; rw [← Ny244.out] at ho74))
              have n0_ := Aside0.mk (Kd.N_elder' (mvN HO_7.out) (by first | exact Kd.N_base ho74 | exact Kd.S_base ho74 | exact Kd.R_base ho74) hb)
              have n1_ := Aside0.mk (Kd.N_elder' (mvN HO_9.out) (by first | exact Kd.N_base ho74 | exact Kd.S_base ho74 | exact Kd.R_base ho74) hb)
              have n2_ := Aside0.mk (Kd.R_below (mvR HO_10.out) hb)
              have n3_ := Aside0.mk (Kd.V_elder' (by (with_reducible repeat (first | apply Kd.V_alloc | apply Kd.V_drewN | apply Kd.V_drew)); exact HL240_0.out) (by first | exact Kd.N_base ho74 | exact Kd.S_base ho74 | exact Kd.R_base ho74) hb)
              have n4_ := Aside0.mk (Kd.V_elder' (by (with_reducible repeat (first | apply Kd.V_alloc | apply Kd.V_drewN | apply Kd.V_drew)); exact HL243_0.out) (by first | exact Kd.N_base ho74 | exact Kd.S_base ho74 | exact Kd.R_base ho74) hb)
              have n5_ := Aside0.mk (Kd.V_elder' (by (with_reducible repeat (first | apply Kd.V_alloc | apply Kd.V_drewN | apply Kd.V_drew)); exact HO251.out) (by first | exact Kd.N_base ho74 | exact Kd.S_base ho74 | exact Kd.R_base ho74) hb)
              have n6_ := Aside0.mk (Kd.N_lower ho74 (below_size (mvB HB.out)))
              have n7_ := Aside0.mk (Kd.C_below (by repeat (first | (with_reducible exact HR240_0.out) | (with_reducible refine Kd.C_alloc ?_ _) | (with_reducible refine Kd.C_drewN ?_ _) | (with_reducible refine Kd.C_drew ?_) | exact HR240_0.out)) hb)
              have n8_ := Aside0.mk (Kd.C_below (by repeat (first | (with_reducible exact HR243_0.out) | (with_reducible refine Kd.C_alloc ?_ _) | (with_reducible refine Kd.C_drewN ?_ _) | (with_reducible refine Kd.C_drew ?_) | exact HR243_0.out)) hb)
              have n9_ := Aside0.mk (below_step (mvB HB.out) hb)
              clear HO_7
              clear HO_9
              clear HO_10
              clear HL240_0
              clear HL243_0
              clear HO251
              clear HR240_0
              clear HR243_0
              clear HB
              have HO_7 := n0_
              have HO_9 := n1_
              have HO_10 := n2_
              have HL240_0 := n3_
              have HL243_0 := n4_
              have HO251 := n5_
              have HO246 := n6_
              have HR240_0 := n7_
              have HR243_0 := n8_
              have HB := n9_
              clear n0_ n1_ n2_ n3_ n4_ n5_ n6_ n7_ n8_ n9_
              clear hb ho74
              obtain ⟨Ao75, co75, eo75⟩ := Kd.N_slice HO246.out
              (first | subst eo75 | (injection eo75 with f1_ f2_ f3_; have f4_ := f1_.symm; have f5_ := f3_.symm; clear f1_ f2_ f3_; subst f4_; subst f5_))
              refine hK.out _ _ ⟨HS0_, HS1_⟩ (fun hHeld => ?_)
              clear hK K
              refine norm_ (a' := ?_) ?_ ?_
              rotate_left
              ·show Act.put _ (some 97) _ = _
               simp only [Act.put, List.setIfInBounds_toArray, List.set_cons_zero, List.set_cons_succ, i64_w, i32_w]
               rfl
              refine one_ (i := 21) (N := some 103) #[true, true, true, true, true, true, true, true, true, true, true, true, true, true, true, true, true, true, true, true, true, true, false, false] rfl rfl (one_of HT_.out (by kernel_rfl)) (by decide) (fun K hK => ?_)
              refine goes_ Tryd.func14 (by kernel_rfl) rfl #[.slice Ao75 y244.length co75, .slice A72 y247.length c72] (by rfl) rfl rfl (by (try simp only [List.map_toArray, List.map_cons, List.map_nil]); first | done | rfl | (simp only [List.length_drop, List.length_take]; rfl)) ?_
              with_reducible refine (hopperref18_Same.calls k3 _ _ y244 _ _ y247 t252 _ ?side1 ?side2 ?side3 ?side4 A69.out).mono ?_
              (case side1 => repeat (first | exact (Kd.N_reads' HO246.out).2.2 | (with_reducible refine Kd.C_alloc ?_ _) | (with_reducible refine Kd.C_drewN ?_ _) | (with_reducible refine Kd.C_drew ?_)))
              (case side2 => exact (Kd.N_reads' HO246.out).2.1)
              (case side3 => repeat (first | exact (Kd.V_reads' HO251.out).2.2 | (with_reducible refine Kd.C_alloc ?_ _) | (with_reducible refine Kd.C_drewN ?_ _) | (with_reducible refine Kd.C_drew ?_)))
              (case side4 => exact (Kd.V_reads' HO251.out).2.1)
              rintro e w' ⟨rfl, ⟨nd, rfl⟩⟩
              refine ⟨_, rfl, ?_⟩
              refine hK.out _ _ ⟨hHeld.1, hHeld.2⟩ (fun hHeld => ?_)
              clear hK K
              refine norm_ (a' := ?_) ?_ ?_
              rotate_left
              ·show Act.put _ (some 103) _ = _
               simp only [Act.put, List.setIfInBounds_toArray, List.set_cons_zero, List.set_cons_succ, i64_w, i32_w]
               rfl
              refine pure_ (i := 22) (N := some 104) (v := ?_) (a' := ?_) #[true, true, true, true, true, true, true, true, true, true, true, true, true, true, true, true, true, true, true, true, true, true, true, false] rfl rfl (any_of HT_.out (by kernel_rfl)) (fun _ _ _ h => h) (Or.inl ⟨by rfl, ?_⟩) ?_ ?_
              rotate_left
              ·intro w'
               go_simp
               with_reducible rfl
              rotate_left
              ·simp only [Act.put, List.setIfInBounds_toArray, List.set_cons_zero, List.set_cons_succ, i64_w, i32_w]
               rfl
              refine pure_ (i := 23) (N := some 105) (v := ?_) (a' := ?_) #[true, true, true, true, true, true, true, true, true, true, true, true, true, true, true, true, true, true, true, true, true, true, true, true] rfl rfl (any_of HT_.out (by kernel_rfl)) (fun _ _ _ h => h) (Or.inl ⟨by rfl, ?_⟩) ?_ ?_
              rotate_left
              ·intro w'
               go_simp
               with_reducible rfl
              rotate_left
              ·simp only [Act.put, List.setIfInBounds_toArray, List.set_cons_zero, List.set_cons_succ, i64_w, i32_w]
               rfl
              refine done_ (done_of HT_.out (by kernel_rfl)) ?_
              try go_wp2
              subst hji59
              go_meet
              case rel => exact ⟨_, (!t252), (by first | rfl | (simp; done) | (simp [*]; done)), (by first | exact H' | (rw [← Nbq62.out]; exact H')), ⟨by have := HJ3.out; have := HK2.out; have := HK3.out; first | omega | exact Nat.le_refl _⟩, ⟨by (with_reducible repeat (first | apply Kd.N_alloc | apply Kd.N_drewN | apply Kd.N_drew)); exact Kd.N_mono HO_7.out (fun _ hk => ⟨hk.1.1, hk.1.2⟩)⟩, ⟨by (with_reducible repeat (first | apply Kd.N_alloc | apply Kd.N_drewN | apply Kd.N_drew)); exact Kd.N_mono HO_9.out (fun _ hk => ⟨hk.1.1, hk.1.2⟩)⟩, ⟨by (with_reducible repeat (first | apply Kd.R_alloc | apply Kd.R_drewN | apply Kd.R_drew)); exact HO_10.out⟩, ⟨by repeat (first | (with_reducible exact HR240_0.out) | (with_reducible refine Kd.C_alloc ?_ _) | (with_reducible refine Kd.C_drewN ?_ _) | (with_reducible refine Kd.C_drew ?_) | exact HR240_0.out)⟩, ⟨by repeat (first | (with_reducible first | exact HB.out | apply below_alloc | apply pw_below_drewN | apply below_drew1) | exact HB.out)⟩⟩
           case rest =>
            clear HC56
            try clear c1
            try clear c2
            try clear p2
            try clear q2
            try clear hx2
            try clear c5
            try clear c6
            try clear p6
            try clear q6
            try clear c7
            try clear q7
            try clear c14
            try clear c24
            try clear p24
            try clear q24
            try clear hx24
            try clear c57
            try clear c57b0
            try clear c60
            try clear c60b0
            try clear c61
            try clear c61b0
            try clear q62
            try clear c63
            try clear p64
            try clear c66
            try clear c66b0
            try clear c67
            try clear c67b0
            try clear c67b1
            try clear c68
            try clear c68b0
            try clear c68b1
            try clear c72
            try clear q72
            try clear hx242_0
            try clear hx243_0
            try clear p242
            try clear p243
            try clear q072
            try clear q242
            try clear q243
            try clear q72
            obtain ⟨kq, x105_55, rfl, HA, HJ55, HO_7, HO_9, HO_10, HR240_0, HB⟩ := hcut
            cases kq with
            | zero => exact absurd HA.out (by simp [hopperlaw24_OrderStable.j3])
            | succ kj55 =>
             have H := HA.out
             clear HA
             simp only [hopperlaw24_OrderStable.j3] at H
             by_cases c76 : x105_55 = true
             ·subst c76
              have H1 : (none) = some r := by rw [if_pos rfl] at H; exact H
              clear H
              have H := H1
              clear H1
              cases H
             ·replace c76 := Bool.eq_false_iff.mpr c76
              subst c76
              have H1 : (if 0 ≤ (wrap64 (bt ((rd_T36 (rd_L6 t234 x11_3) a1).f1) 0)) then (if (wrap64 (bt ((rd_T36 (rd_L6 t234 x11_3) a1).f1) 0)) < (x10_3.length : Int) then ((some (x10_3.set ((wrap64 (bt ((rd_T36 (rd_L6 t234 x11_3) a1).f1) 0)) : Int).toNat true : List Bool)).bind fun y253 => (if x11_3 = 0 then (hopperlaw24_OrderStable.l1 kj55 l0 a1 l2 x7_2 t234 y253 (wrap64 (x11_3 + 1))) else (if 0 ≤ (wrap64 (x11_3 - 1)) then (if (wrap64 (x11_3 - 1)) < (t234.length : Int) then (if 0 ≤ x11_3 then (if x11_3 < (t234.length : Int) then ((order_Compare.f kj55 (rd_L6 t234 (wrap64 (x11_3 - 1))) (rd_L6 t234 x11_3) l2).bind fun t256 => (if t256 > 0 then (none) else (if t256 = 0 then (if 0 ≤ a1 then (if a1 < ((rd_L6 t234 (wrap64 (x11_3 - 1))).length : Int) then (if a1 < ((rd_L6 t234 x11_3).length : Int) then (if ((Op.bytesLess (((rd_T36 (rd_L6 t234 (wrap64 (x11_3 - 1))) a1).f1).toList) (((rd_T36 (rd_L6 t234 x11_3) a1).f1).toList)) = true) then (hopperlaw24_OrderStable.l1 kj55 l0 a1 l2 x7_2 t234 y253 (wrap64 (x11_3 + 1))) else (none)) else (none)) else (none)) else (none)) else (hopperlaw24_OrderStable.l1 kj55 l0 a1 l2 x7_2 t234 y253 (wrap64 (x11_3 + 1)))))) else (none)) else (none)) else (none)) else (none)))) else (none)) else (none)) = some r := by rw [if_neg (show ¬ (false = true) by decide)] at H; exact H
              clear H
              have H := H1
              clear H1
              obtain ⟨ji77, hji77⟩ : ∃ j_ : Int, (wrap64 (bt ((rd_T36 (rd_L6 t234 x11_3) a1).f1) 0)) = j_ := ⟨_, rfl⟩
              replace H : (if 0 ≤ (ji77) then (if (ji77) < (x10_3.length : Int) then ((some (x10_3.set ((ji77) : Int).toNat true : List Bool)).bind fun y253 => (if x11_3 = 0 then (hopperlaw24_OrderStable.l1 kj55 l0 a1 l2 x7_2 t234 y253 (wrap64 (x11_3 + 1))) else (if 0 ≤ (wrap64 (x11_3 - 1)) then (if (wrap64 (x11_3 - 1)) < (t234.length : Int) then (if 0 ≤ x11_3 then (if x11_3 < (t234.length : Int) then ((order_Compare.f kj55 (rd_L6 t234 (wrap64 (x11_3 - 1))) (rd_L6 t234 x11_3) l2).bind fun t256 => (if t256 > 0 then (none) else (if t256 = 0 then (if 0 ≤ a1 then (if a1 < ((rd_L6 t234 (wrap64 (x11_3 - 1))).length : Int) then (if a1 < ((rd_L6 t234 x11_3).length : Int) then (if ((Op.bytesLess (((rd_T36 (rd_L6 t234 (wrap64 (x11_3 - 1))) a1).f1).toList) (((rd_T36 (rd_L6 t234 x11_3) a1).f1).toList)) = true) then (hopperlaw24_OrderStable.l1 kj55 l0 a1 l2 x7_2 t234 y253 (wrap64 (x11_3 + 1))) else (none)) else (none)) else (none)) else (none)) else (hopperlaw24_OrderStable.l1 kj55 l0 a1 l2 x7_2 t234 y253 (wrap64 (x11_3 + 1)))))) else (none)) else (none)) else (none)) else (none)))) else (none)) else (none)) = some r := by first | (rw [hji77] at H; exact H) | (simp only [hji77] at H ⊢; exact H)
              (try (obtain rfl := hji77.symm.trans hji59))
              have hji77w : (IntKind.i64.wrap (bt ((rd_T36 (rd_L6 t234 x11_3) a1).f1) 0)) = ji77 := (i64_w _).trans hji77
              by_cases c78 : 0 ≤ (ji77)
              case neg => rw [if_neg c78] at H; exact absurd H (by simp)
              rw [if_pos c78] at H
              have c78b0 : decide (0 ≤ (ji77)) = true := decide_eq_true c78
              clear c78
              by_cases c79 : (ji77) < (x10_3.length : Int)
              case neg => rw [if_neg c79] at H; exact absurd H (by simp)
              rw [if_pos c79] at H
              have c79b0 : decide ((ji77) < (x10_3.length : Int)) = true := decide_eq_true c79
              clear c79
              obtain ⟨y253, hy253⟩ : ∃ y_ : List Bool, y_ = (x10_3.set ((ji77) : Int).toNat true) := ⟨_, rfl⟩
              replace H : (if x11_3 = 0 then (hopperlaw24_OrderStable.l1 kj55 l0 a1 l2 x7_2 t234 y253 (wrap64 (x11_3 + 1))) else (if 0 ≤ (wrap64 (x11_3 - 1)) then (if (wrap64 (x11_3 - 1)) < (t234.length : Int) then (if 0 ≤ x11_3 then (if x11_3 < (t234.length : Int) then ((order_Compare.f kj55 (rd_L6 t234 (wrap64 (x11_3 - 1))) (rd_L6 t234 x11_3) l2).bind fun t256 => (if t256 > 0 then (none) else (if t256 = 0 then (if 0 ≤ a1 then (if a1 < ((rd_L6 t234 (wrap64 (x11_3 - 1))).length : Int) then (if a1 < ((rd_L6 t234 x11_3).length : Int) then (if ((Op.bytesLess (((rd_T36 (rd_L6 t234 (wrap64 (x11_3 - 1))) a1).f1).toList) (((rd_T36 (rd_L6 t234 x11_3) a1).f1).toList)) = true) then (hopperlaw24_OrderStable.l1 kj55 l0 a1 l2 x7_2 t234 y253 (wrap64 (x11_3 + 1))) else (none)) else (none)) else (none)) else (none)) else (hopperlaw24_OrderStable.l1 kj55 l0 a1 l2 x7_2 t234 y253 (wrap64 (x11_3 + 1)))))) else (none)) else (none)) else (none)) else (none))) = some r := by first | (rw [hy253]; with_reducible exact H) | (have H2_ := (Option.bind_some _ _).symm.trans H; rw [hy253]; with_reducible exact H2_) | (have H2_ := (Option.bind_some _ _).symm.trans H; with_reducible exact H2_) | with_reducible exact H | (rw [hy253]; exact H) | exact H
              have Ny253 := Aside0.mk hy253
              clear hy253
              by_cases c81 : x11_3 = 0
              ·rw [if_pos c81] at H
               have c81b0 : (x11_3 == 0) = true := beq_iff_eq.mpr c81
               have c81b1 : (x11_3 != 0) = false := bne_eq_false_iff_eq.mpr c81
               clear c81
               have H' := Aside0.mk H
               clear H
               have p80 : 0 ≤ ((ji77) : Int) := of_decide_eq_true (by first | (with_reducible assumption) | assumption)
               have q80 : ((ji77) : Int) < ((x10_3.length : Int) : Int) := of_decide_eq_true (by first | (with_reducible assumption) | assumption)
               obtain ⟨go80, co80, eo80, gb80, gl80, cl80, HG80⟩ := Kd.R_form HO_10.out (by omega)
               (first | cases eo80 | (injection eo80 with ea_ en_ ec_; (first | subst ea_ | (injection ea_ with ea_; subst ea_)); subst ec_; clear en_))
               have GB80 := Aside0.mk gb80
               have GG80 := Aside0.mk HG80
               clear gb80 gl80 HG80
               obtain ⟨hx80_0, hf80_0⟩ := Kd.R_celln false HO_10.out ((ji77) : Int) p80 q80
               replace p80 := eq_true p80
               replace q80 := eq_true q80
               have HP82 := Kd.R_putg HO_10.out ((ji77) : Int) true
               go_wp2_with (first | ((with_reducible refine gate_store (t := 4) (p := 108) rfl ?_); refine store_event (t := 4) (p := 108) (v := ?vo_w83) (w1 := (wc.setCell ⟨go80, ((ji77) : Int).toNat, none⟩ (.bool true))) ?hg ?ho ?hn ?hr ?_; (case ho => rfl); (case hg => rfl); (case hn => rfl); (case hr => first | (go_simp; done) | (go_simp; rfl) | (go_simp; simp (disch := omega) only [Go.u8_and63, Go.u8_and31, Go.u8_and15, Go.u8_and7, Go.u8_or128, Go.u8_or192, Go.u8_or224, Go.u8_or240, m64]; done)); intro w83 hw; have hg : wc.grownBy w83 (some go80) := (by rw [hw]; exact HP82.2); have hp_ : Kd.R Kd.bool 4 w83 w.heap.size (fun _ => True) (.slice (some ⟨go80, 0, none⟩) x10_3.length co80) y253 := (by rw [hw, Ny253.out]; exact HP82.1); clear HP82; have n0_ := Aside0.mk (Kd.N_afterv (v := (.slice (some ⟨go80, 0, none⟩) x10_3.length co80)) (v1 := (.slice (some ⟨go80, 0, none⟩) x10_3.length co80)) (ok := (fun k_ => some k_ ≠ (.slice (some ad240) t234.length co47 : Value).ownBlock)) (mvN HO_7.out) hg (.inl rfl)); have n1_ := Aside0.mk (Kd.N_afterv (v := (.slice (some ⟨go80, 0, none⟩) x10_3.length co80)) (v1 := (.slice (some ⟨go80, 0, none⟩) x10_3.length co80)) (ok := (fun k_ => some k_ ≠ (.slice Ao45 x7_2.length co45 : Value).ownBlock)) (mvN HO_9.out) hg (.inl rfl)); have n2_ := Aside0.mk (hp_); have n3_ := Aside0.mk ((by rw [hw]; exact below_set (HB.out) GB80.out : Below w.heap.size w w83)); clear HO_7; clear HO_9; clear HO_10; clear HB; have HO_7 := n0_; have HO_9 := n1_; have HO_10 := n2_; have HB := n3_; clear n0_ n1_ n2_ n3_; clear hg hw hp_))
               go_roundg kj55
               case measure => have := HJ3.out; have := HK2.out; have := HK3.out; have := HJ55.out; omega
               case rel => exact ⟨(y253), (wrap64 (x11_3 + 1)), (by first | rfl | (simp; done) | (simp [*]; done)), (by first | exact H' | (rw [← Nbq62.out]; exact H')), ⟨by have := HJ3.out; have := HK2.out; have := HK3.out; have := HJ55.out; omega⟩, ⟨by (with_reducible repeat (first | apply Kd.N_alloc | apply Kd.N_drewN | apply Kd.N_drew)); exact HO_7.out⟩, ⟨by (with_reducible repeat (first | apply Kd.N_alloc | apply Kd.N_drewN | apply Kd.N_drew)); exact HO_9.out⟩, ⟨by (with_reducible repeat (first | apply Kd.R_alloc | apply Kd.R_drewN | apply Kd.R_drew)); exact HO_10.out⟩, ⟨by repeat (first | (with_reducible first | exact HB.out | apply below_alloc | apply pw_below_drewN | apply below_drew1) | exact HB.out)⟩⟩
              ·rw [if_neg c81] at H
               have c81b0 : (x11_3 == 0) = false := beq_eq_false_iff_ne.mpr c81
               have c81b1 : (x11_3 != 0) = true := bne_iff_ne.mpr c81
               obtain ⟨ji84, hji84⟩ : ∃ j_ : Int, (wrap64 (x11_3 - 1)) = j_ := ⟨_, rfl⟩
               replace H : (if 0 ≤ (ji84) then (if (ji84) < (t234.length : Int) then (if 0 ≤ x11_3 then (if x11_3 < (t234.length : Int) then ((order_Compare.f kj55 (rd_L6 t234 (ji84)) (rd_L6 t234 x11_3) l2).bind fun t256 => (if t256 > 0 then (none) else (if t256 = 0 then (if 0 ≤ a1 then (if a1 < ((rd_L6 t234 (ji84)).length : Int) then (if a1 < ((rd_L6 t234 x11_3).length : Int) then (if ((Op.bytesLess (((rd_T36 (rd_L6 t234 (ji84)) a1).f1).toList) (((rd_T36 (rd_L6 t234 x11_3) a1).f1).toList)) = true) then (hopperlaw24_OrderStable.l1 kj55 l0 a1 l2 x7_2 t234 y253 (wrap64 (x11_3 + 1))) else (none)) else (none)) else (none)) else (none)) else (hopperlaw24_OrderStable.l1 kj55 l0 a1 l2 x7_2 t234 y253 (wrap64 (x11_3 + 1)))))) else (none)) else (none)) else (none)) else (none)) = some r := by first | (rw [hji84] at H; exact H) | (simp only [hji84] at H ⊢; exact H)
               have hji84w : (IntKind.i64.wrap (x11_3 - 1)) = ji84 := (i64_w _).trans hji84
               by_cases c85 : 0 ≤ (ji84)
               case neg => rw [if_neg c85] at H; exact absurd H (by simp)
               rw [if_pos c85] at H
               have c85b0 : decide (0 ≤ (ji84)) = true := decide_eq_true c85
               clear c85
               by_cases c86 : (ji84) < (t234.length : Int)
               case neg => rw [if_neg c86] at H; exact absurd H (by simp)
               rw [if_pos c86] at H
               have c86b0 : decide ((ji84) < (t234.length : Int)) = true := decide_eq_true c86
               clear c86
               by_cases c87 : 0 ≤ x11_3
               case neg => rw [if_neg c87] at H; exact absurd H (by simp)
               rw [if_pos c87] at H
               have c87b0 : decide (0 ≤ x11_3) = true := decide_eq_true c87
               clear c87
               by_cases c88 : x11_3 < (t234.length : Int)
               case neg => rw [if_neg c88] at H; exact absurd H (by simp)
               rw [if_pos c88] at H
               have c88b0 : decide (x11_3 < (t234.length : Int)) = true := decide_eq_true c88
               clear c88
               replace H := Option.bind_eq_some_iff.mp H
               obtain ⟨t256, A890, H⟩ := H
               replace H : (if t256 > 0 then (none) else (if t256 = 0 then (if 0 ≤ a1 then (if a1 < ((rd_L6 t234 (ji84)).length : Int) then (if a1 < ((rd_L6 t234 x11_3).length : Int) then (if ((Op.bytesLess (((rd_T36 (rd_L6 t234 (ji84)) a1).f1).toList) (((rd_T36 (rd_L6 t234 x11_3) a1).f1).toList)) = true) then (hopperlaw24_OrderStable.l1 kj55 l0 a1 l2 x7_2 t234 y253 (wrap64 (x11_3 + 1))) else (none)) else (none)) else (none)) else (none)) else (hopperlaw24_OrderStable.l1 kj55 l0 a1 l2 x7_2 t234 y253 (wrap64 (x11_3 + 1))))) = some r := H
               have A89 := Aside0.mk A890
               clear A890
               by_cases c90 : t256 > 0
               ·rw [if_pos c90] at H
                have c90b0 : decide (0 < t256) = true := decide_eq_true c90
                clear c90
                cases H
               ·rw [if_neg c90] at H
                have c90b0 : decide (0 < t256) = false := decide_eq_false c90
                clear c90
                by_cases c96 : t256 = 0
                ·rw [if_pos c96] at H
                 have c96b0 : (t256 == 0) = true := beq_iff_eq.mpr c96
                 have c96b1 : (t256 != 0) = false := bne_eq_false_iff_eq.mpr c96
                 clear c96
                 by_cases c97 : 0 ≤ a1
                 case neg => rw [if_neg c97] at H; exact absurd H (by simp)
                 rw [if_pos c97] at H
                 have c97b0 : decide (0 ≤ a1) = true := decide_eq_true c97
                 clear c97
                 by_cases c98 : a1 < ((rd_L6 t234 (ji84)).length : Int)
                 case neg => rw [if_neg c98] at H; exact absurd H (by simp)
                 rw [if_pos c98] at H
                 have c98b0 : decide (a1 < ((rd_L6 t234 (ji84)).length : Int)) = true := decide_eq_true c98
                 clear c98
                 by_cases c99 : a1 < ((rd_L6 t234 x11_3).length : Int)
                 case neg => rw [if_neg c99] at H; exact absurd H (by simp)
                 rw [if_pos c99] at H
                 have c99b0 : decide (a1 < ((rd_L6 t234 x11_3).length : Int)) = true := decide_eq_true c99
                 clear c99
                 by_cases c100 : ((Op.bytesLess (((rd_T36 (rd_L6 t234 (ji84)) a1).f1).toList) (((rd_T36 (rd_L6 t234 x11_3) a1).f1).toList)) = true)
                 ·rw [if_pos c100] at H
                  have c100b0 : (Op.bytesLess (((rd_T36 (rd_L6 t234 (ji84)) a1).f1).toList) (((rd_T36 (rd_L6 t234 x11_3) a1).f1).toList)) = true := c100
                  clear c100
                  have H' := Aside0.mk H
                  clear H
                  have p80 : 0 ≤ ((ji77) : Int) := of_decide_eq_true (by first | (with_reducible assumption) | assumption)
                  have q80 : ((ji77) : Int) < ((x10_3.length : Int) : Int) := of_decide_eq_true (by first | (with_reducible assumption) | assumption)
                  obtain ⟨go80, co80, eo80, gb80, gl80, cl80, HG80⟩ := Kd.R_form HO_10.out (by omega)
                  (first | cases eo80 | (injection eo80 with ea_ en_ ec_; (first | subst ea_ | (injection ea_ with ea_; subst ea_)); subst ec_; clear en_))
                  have GB80 := Aside0.mk gb80
                  have GG80 := Aside0.mk HG80
                  clear gb80 gl80 HG80
                  obtain ⟨hx80_0, hf80_0⟩ := Kd.R_celln false HO_10.out ((ji77) : Int) p80 q80
                  replace p80 := eq_true p80
                  replace q80 := eq_true q80
                  have HP101 := Kd.R_putg HO_10.out ((ji77) : Int) true
                  try go_wp2_with (first | ((with_reducible refine gate_store (t := 4) (p := 108) rfl ?_); refine store_event (t := 4) (p := 108) (v := ?vo_w102) (w1 := (wc.setCell ⟨go80, ((ji77) : Int).toNat, none⟩ (.bool true))) ?hg ?ho ?hn ?hr ?_; (case ho => rfl); (case hg => rfl); (case hn => rfl); (case hr => first | (go_simp; done) | (go_simp; rfl) | (go_simp; simp (disch := omega) only [Go.u8_and63, Go.u8_and31, Go.u8_and15, Go.u8_and7, Go.u8_or128, Go.u8_or192, Go.u8_or224, Go.u8_or240, m64]; done)); intro w102 hw; have hg : wc.grownBy w102 (some go80) := (by rw [hw]; exact HP101.2); have hp_ : Kd.R Kd.bool 4 w102 w.heap.size (fun _ => True) (.slice (some ⟨go80, 0, none⟩) x10_3.length co80) y253 := (by rw [hw, Ny253.out]; exact HP101.1); clear HP101; have n0_ := Aside0.mk (Kd.N_afterv (v := (.slice (some ⟨go80, 0, none⟩) x10_3.length co80)) (v1 := (.slice (some ⟨go80, 0, none⟩) x10_3.length co80)) (ok := (fun k_ => some k_ ≠ (.slice (some ad240) t234.length co47 : Value).ownBlock)) (mvN HO_7.out) hg (.inl rfl)); have n1_ := Aside0.mk (Kd.N_afterv (v := (.slice (some ⟨go80, 0, none⟩) x10_3.length co80)) (v1 := (.slice (some ⟨go80, 0, none⟩) x10_3.length co80)) (ok := (fun k_ => some k_ ≠ (.slice Ao45 x7_2.length co45 : Value).ownBlock)) (mvN HO_9.out) hg (.inl rfl)); have n2_ := Aside0.mk (hp_); have n3_ := Aside0.mk ((by rw [hw]; exact below_set (HB.out) GB80.out : Below w.heap.size w w102)); clear HO_7; clear HO_9; clear HO_10; clear HB; have HO_7 := n0_; have HO_9 := n1_; have HO_10 := n2_; have HB := n3_; clear n0_ n1_ n2_ n3_; clear hg hw hp_))
                  have n0_ := Aside0.mk (Kd.N_drew HO_7.out)
                  have n1_ := Aside0.mk (Kd.N_drew HO_9.out)
                  have n2_ := Aside0.mk (Kd.R_drew HO_10.out)
                  have n3_ := Aside0.mk (below_drew1 HB.out)
                  clear HO_7
                  clear HO_9
                  clear HO_10
                  clear HB
                  have HO_7 := n0_
                  have HO_9 := n1_
                  have HO_10 := n2_
                  have HB := n3_
                  clear n0_ n1_ n2_ n3_
                  have p254 : 0 ≤ ((ji84) : Int) := of_decide_eq_true (by first | (with_reducible assumption) | assumption)
                  have q254 : (ji84) < (t234.length : Int) := of_decide_eq_true (by first | (with_reducible assumption) | assumption)
                  obtain ⟨ad254, A254_0, c254_0, e254, hx254_0, hl254_0, hi254_0⟩ := at_L6 (Kd.N_reads' HO_9.out).2.2 (ji84) p254 q254
                  obtain rfl : ad240 = ad254 := (by injection e254)
                  obtain ⟨ce254, hce254, hMe254, hcc254⟩ := Kd.N_get HO_9.out [] (ji84) p254 (by first | exact q254 | exact of_decide_eq_true (by first | (with_reducible assumption) | assumption) | (have e_ := (Kd.N_reads' HO_9.out).1; omega))
                  obtain ⟨ua254_0, uc254_0, rfl, ul254_0, ge254_0⟩ := Kd.FK_slice_open hMe254
                  have hv254_0 := hcc254 0 _ rfl
                  rw [Nat.add_zero, show ((Kd.slice 36 k36)).sz = 1 from rfl, Nat.mul_one] at hv254_0
                  replace hv254_0 := Option.some.inj (hv254_0.symm.trans hx254_0)
                  injection hv254_0 with hva_ hvn_ hvc_
                  rw [hva_] at ge254_0
                  rw [hvc_] at ul254_0
                  have HL254_0 := Aside0.mk (show Kd.V k36 36 _ w.heap.size _ _ (rd_L6 t234 (ji84)) from Kd.V_mk ul254_0 ge254_0)
                  clear hva_ hvn_ hvc_ ge254_0 ul254_0
                  clear hcc254 hce254
                  have HR254_0 := Aside0.mk hi254_0
                  have HC254_0 := Aside0.mk hl254_0
                  clear hi254_0 hl254_0
                  replace p254 := eq_true p254
                  replace q254 := eq_true q254
                  have p255 : 0 ≤ (x11_3 : Int) := of_decide_eq_true (by first | (with_reducible assumption) | assumption)
                  have q255 : x11_3 < (t234.length : Int) := of_decide_eq_true (by first | (with_reducible assumption) | assumption)
                  obtain ⟨ad255, A255_0, c255_0, e255, hx255_0, hl255_0, hi255_0⟩ := at_L6 (Kd.N_reads' HO_9.out).2.2 x11_3 p255 q255
                  obtain rfl : ad240 = ad255 := (by injection e255)
                  obtain ⟨ce255, hce255, hMe255, hcc255⟩ := Kd.N_get HO_9.out [] x11_3 p255 (by first | exact q255 | exact of_decide_eq_true (by first | (with_reducible assumption) | assumption) | (have e_ := (Kd.N_reads' HO_9.out).1; omega))
                  obtain ⟨ua255_0, uc255_0, rfl, ul255_0, ge255_0⟩ := Kd.FK_slice_open hMe255
                  have hv255_0 := hcc255 0 _ rfl
                  rw [Nat.add_zero, show ((Kd.slice 36 k36)).sz = 1 from rfl, Nat.mul_one] at hv255_0
                  replace hv255_0 := Option.some.inj (hv255_0.symm.trans hx255_0)
                  injection hv255_0 with hva_ hvn_ hvc_
                  rw [hva_] at ge255_0
                  rw [hvc_] at ul255_0
                  have HL255_0 := Aside0.mk (show Kd.V k36 36 _ w.heap.size _ _ (rd_L6 t234 x11_3) from Kd.V_mk ul255_0 ge255_0)
                  clear hva_ hvn_ hvc_ ge255_0 ul255_0
                  clear hcc255 hce255
                  have HR255_0 := Aside0.mk hi255_0
                  have HC255_0 := Aside0.mk hl255_0
                  clear hi255_0 hl255_0
                  replace p255 := eq_true p255
                  replace q255 := eq_true q255
                  refine start_ (n := 12) (S := fun w' => w'.cell? (ad240.add ((ji84)).toNat) = some (.slice A254_0 (rd_L6 t234 (ji84)).length c254_0) ∧ w'.cell? (ad240.add (x11_3).toNat) = some (.slice A255_0 (rd_L6 t234 x11_3).length c255_0)) (ds := []) #[false, false, false, false, false, false, false, false, false, false, false, false] (by kernel_rfl) rfl rfl ⟨hx254_0, hx255_0⟩ (fun hHeld => ?_); refine with_tabW hopperlaw24_OrderStable.tab20 hopperlaw24_OrderStable.bits20 (fun HT_ HW_ => ?_)
                  generalize w102.drew = w103 at HO_7 HO_9 HO_10 HB HL254_0 HL255_0 HR254_0 HR255_0 hx254_0 hx255_0 hHeld ⊢
                  refine pure_ (i := 0) (N := some 111) (v := ?_) (a' := ?_) #[true, false, false, false, false, false, false, false, false, false, false, false] rfl rfl (any_of HT_.out (by kernel_rfl)) (fun _ _ _ h => h) (Or.inl ⟨by rfl, ?_⟩) ?_ ?_
                  rotate_left
                  ·intro w'
                   go_simp
                   with_reducible rfl
                  rotate_left
                  ·simp only [Act.put, List.setIfInBounds_toArray, List.set_cons_zero, List.set_cons_succ, i64_w, i32_w]
                   rfl
                  refine pure_ (i := 1) (N := some 112) (v := ?_) (a' := ?_) #[true, true, false, false, false, false, false, false, false, false, false, false] rfl rfl (any_of HT_.out (by kernel_rfl)) (fun _ _ _ h => h) (Or.inl ⟨by rfl, ?_⟩) ?_ ?_
                  rotate_left
                  ·intro w'
                   go_simp
                   with_reducible rfl
                  rotate_left
                  ·simp only [Act.put, List.setIfInBounds_toArray, List.set_cons_zero, List.set_cons_succ, i64_w, i32_w]
                   rfl
                  refine pure_ (i := 2) (N := some 113) (v := ?_) (a' := ?_) #[true, true, true, false, false, false, false, false, false, false, false, false] rfl rfl (any_of HT_.out (by kernel_rfl)) (fun _ _ _ h => h) (Or.inl ⟨by rfl, ?_⟩) ?_ ?_
                  rotate_left
                  ·intro w'
                   go_simp
                   with_reducible rfl
                  rotate_left
                  ·simp only [Act.put, List.setIfInBounds_toArray, List.set_cons_zero, List.set_cons_succ, i64_w, i32_w]
                   rfl
                  refine pure_ (i := 3) (N := some 114) (v := ?_) (a' := ?_) #[true, true, true, true, false, false, false, false, false, false, false, false] rfl rfl (any_of HT_.out (by kernel_rfl)) (fun _ _ _ h => h) (Or.inl ⟨by rfl, ?_⟩) ?_ ?_
                  rotate_left
                  ·intro w'
                   go_simp
                   with_reducible rfl
                  rotate_left
                  ·simp only [Act.put, List.setIfInBounds_toArray, List.set_cons_zero, List.set_cons_succ, i64_w, i32_w]
                   rfl
                  refine pure_ (i := 5) (N := some 116) (v := ?_) (a' := ?_) #[true, true, true, true, false, true, false, false, false, false, false, false] rfl rfl (any_of HT_.out (by kernel_rfl)) (fun _ _ _ h => h) (Or.inl ⟨by rfl, ?_⟩) ?_ ?_
                  rotate_left
                  ·intro w'
                   go_simp
                   with_reducible rfl
                  rotate_left
                  ·simp only [Act.put, List.setIfInBounds_toArray, List.set_cons_zero, List.set_cons_succ, i64_w, i32_w]
                   rfl
                  refine pure_ (i := 6) (N := some 117) (v := ?_) (a' := ?_) #[true, true, true, true, false, true, true, false, false, false, false, false] rfl rfl (any_of HT_.out (by kernel_rfl)) (fun _ _ _ h => h) (Or.inl ⟨by rfl, ?_⟩) ?_ ?_
                  rotate_left
                  ·intro w'
                   go_simp
                   with_reducible rfl
                  rotate_left
                  ·simp only [Act.put, List.setIfInBounds_toArray, List.set_cons_zero, List.set_cons_succ, i64_w, i32_w]
                   rfl
                  refine pure_ (i := 7) (N := some 118) (v := ?_) (a' := ?_) #[true, true, true, true, false, true, true, true, false, false, false, false] rfl rfl (any_of HT_.out (by kernel_rfl)) (fun _ _ _ h => h) (Or.inl ⟨by rfl, ?_⟩) ?_ ?_
                  rotate_left
                  ·intro w'
                   go_simp
                   with_reducible rfl
                  rotate_left
                  ·simp only [Act.put, List.setIfInBounds_toArray, List.set_cons_zero, List.set_cons_succ, i64_w, i32_w]
                   rfl
                  refine pure_ (i := 9) (N := some 120) (v := ?_) (a' := ?_) #[true, true, true, true, false, true, true, true, false, true, false, false] rfl rfl (any_of HT_.out (by kernel_rfl)) (fun _ _ _ h => h) (Or.inl ⟨by rfl, ?_⟩) ?_ ?_
                  rotate_left
                  ·intro w'
                   go_simp
                   with_reducible rfl
                  rotate_left
                  ·simp only [Act.put, List.setIfInBounds_toArray, List.set_cons_zero, List.set_cons_succ, i64_w, i32_w]
                   rfl
                  refine take_ (i := 4) (N := some 115) (v := ?_) (a' := ?_) #[true, true, true, true, true, true, true, true, false, true, false, false] rfl rfl (take_ofW HT_.out HW_.out (by kernel_rfl)) (fun _ _ _ h => h) (Or.inl ⟨by rfl, ?_⟩) hHeld ?_ ?_
                  rotate_left
                  ·rintro w' ⟨s0, s1⟩
                   go_simp
                   with_reducible rfl
                  rotate_left
                  ·simp only [Act.put, List.setIfInBounds_toArray, List.set_cons_zero, List.set_cons_succ, i64_w, i32_w]
                   rfl
                  refine take_ (i := 8) (N := some 119) (v := ?_) (a' := ?_) #[true, true, true, true, true, true, true, true, true, true, false, false] rfl rfl (take_ofW HT_.out HW_.out (by kernel_rfl)) (fun _ _ _ h => h) (Or.inl ⟨by rfl, ?_⟩) hHeld ?_ ?_
                  rotate_left
                  ·rintro w' ⟨s0, s1⟩
                   go_simp
                   with_reducible rfl
                  rotate_left
                  ·simp only [Act.put, List.setIfInBounds_toArray, List.set_cons_zero, List.set_cons_succ, i64_w, i32_w]
                   rfl
                  refine one_ (i := 10) (N := some 121) #[true, true, true, true, true, true, true, true, true, true, true, false] rfl rfl (one_of HT_.out (by kernel_rfl)) (by decide) (fun K hK => ?_)
                  refine goes_ Tryd.func12 (by kernel_rfl) rfl #[.slice A254_0 (rd_L6 t234 (ji84)).length c254_0, .slice A255_0 (rd_L6 t234 x11_3).length c255_0, .slice A2 l2.length c2] (by rfl) rfl rfl (by (try simp only [List.map_toArray, List.map_cons, List.map_nil]); first | done | (simp only [hji84]; rfl) | rfl | (simp only [List.length_drop, List.length_take]; rfl)) ?_
                  with_reducible refine (order_Compare.calls kj55 _ _ (rd_L6 t234 (ji84)) _ _ (rd_L6 t234 x11_3) _ _ l2 t256 _ ?side1 ?side2 ?side3 ?side4 ?side5 ?side6 ?side7 A89.out).mono ?_
                  (case side1 => repeat (first | exact (by repeat (first | (with_reducible exact HR254_0.out) | (with_reducible refine Kd.C_alloc ?_ _) | (with_reducible refine Kd.C_drewN ?_ _) | (with_reducible refine Kd.C_drew ?_) | exact HR254_0.out)) | (with_reducible refine Kd.C_alloc ?_ _) | (with_reducible refine Kd.C_drewN ?_ _) | (with_reducible refine Kd.C_drew ?_)))
                  (case side2 => exact HC254_0.out)
                  (case side3 => repeat (first | exact (by repeat (first | (with_reducible exact HR255_0.out) | (with_reducible refine Kd.C_alloc ?_ _) | (with_reducible refine Kd.C_drewN ?_ _) | (with_reducible refine Kd.C_drew ?_) | exact HR255_0.out)) | (with_reducible refine Kd.C_alloc ?_ _) | (with_reducible refine Kd.C_drewN ?_ _) | (with_reducible refine Kd.C_drew ?_)))
                  (case side4 => exact HC255_0.out)
                  (case side5 => repeat (first | exact (Kd.C_below HR2.out HB.out) | (with_reducible refine Kd.C_alloc ?_ _) | (with_reducible refine Kd.C_drewN ?_ _) | (with_reducible refine Kd.C_drew ?_)))
                  (case side6 => exact HC2.out)
                  (case side7 => first | exact HT.out | exact Facts.below HT.out (mvB HB.out) | exact Facts.below HT.out HB.out | (repeat (first | exact HT.out | refine Facts.drewN ?_ _ | refine Facts.drew ?_ | refine Facts.alloc ?_ _)))
                  rintro e w104 ⟨rfl, hb⟩
                  have HS0_ := (hb.cell (World.block_lt_of_cell? _ _ (hHeld.1))).trans (hHeld.1)
                  have HS1_ := (hb.cell (World.block_lt_of_cell? _ _ (hHeld.2))).trans (hHeld.2)
                  refine ⟨_, rfl, ?_⟩
                  have n0_ := Aside0.mk (Kd.N_below (mvN HO_7.out) hb)
                  have n1_ := Aside0.mk (Kd.N_below (mvN HO_9.out) hb)
                  have n2_ := Aside0.mk (Kd.R_below (mvR HO_10.out) hb)
                  have n3_ := Aside0.mk (Kd.V_below (by (with_reducible repeat (first | apply Kd.V_alloc | apply Kd.V_drewN | apply Kd.V_drew)); exact HL254_0.out) hb)
                  have n4_ := Aside0.mk (Kd.V_below (by (with_reducible repeat (first | apply Kd.V_alloc | apply Kd.V_drewN | apply Kd.V_drew)); exact HL255_0.out) hb)
                  have n5_ := Aside0.mk (Kd.C_below (by repeat (first | (with_reducible exact HR254_0.out) | (with_reducible refine Kd.C_alloc ?_ _) | (with_reducible refine Kd.C_drewN ?_ _) | (with_reducible refine Kd.C_drew ?_) | exact HR254_0.out)) hb)
                  have n6_ := Aside0.mk (Kd.C_below (by repeat (first | (with_reducible exact HR255_0.out) | (with_reducible refine Kd.C_alloc ?_ _) | (with_reducible refine Kd.C_drewN ?_ _) | (with_reducible refine Kd.C_drew ?_) | exact HR255_0.out)) hb)
                  have n7_ := Aside0.mk (below_step (mvB HB.out) hb)
                  clear HO_7
                  clear HO_9
                  clear HO_10
                  clear HL254_0
                  clear HL255_0
                  clear HR254_0
                  clear HR255_0
                  clear HB
                  have HO_7 := n0_
                  have HO_9 := n1_
                  have HO_10 := n2_
                  have HL254_0 := n3_
                  have HL255_0 := n4_
                  have HR254_0 := n5_
                  have HR255_0 := n6_
                  have HB := n7_
                  clear n0_ n1_ n2_ n3_ n4_ n5_ n6_ n7_
                  (try clear hb)
                  (try clear hb2)
                  (try clear hk)
                  (try clear hi)
                  refine hK.out _ _ ⟨HS0_, HS1_⟩ (fun hHeld => ?_)
                  clear hK K
                  refine norm_ (a' := ?_) ?_ ?_
                  rotate_left
                  ·show Act.put _ (some 121) _ = _
                   simp only [Act.put, List.setIfInBounds_toArray, List.set_cons_zero, List.set_cons_succ, i64_w, i32_w]
                   rfl
                  refine pure_ (i := 11) (N := some 13) (v := ?_) (a' := ?_) #[true, true, true, true, true, true, true, true, true, true, true, true] rfl rfl (any_of HT_.out (by kernel_rfl)) (fun _ _ _ h => h) (Or.inl ⟨by rfl, ?_⟩) ?_ ?_
                  rotate_left
                  ·intro w'
                   go_simp
                   with_reducible rfl
                  rotate_left
                  ·simp only [Act.put, List.setIfInBounds_toArray, List.set_cons_zero, List.set_cons_succ, i64_w, i32_w]
                   rfl
                  refine done_ (done_of HT_.out (by kernel_rfl)) ?_
                  try go_wp2
                  have n0_ := Aside0.mk (Kd.N_drew HO_7.out)
                  have n1_ := Aside0.mk (Kd.N_drew HO_9.out)
                  have n2_ := Aside0.mk (Kd.R_drew HO_10.out)
                  have n3_ := Aside0.mk (Kd.V_drew HL254_0.out)
                  have n4_ := Aside0.mk (Kd.V_drew HL255_0.out)
                  have n5_ := Aside0.mk (Kd.C_drew HR254_0.out)
                  have n6_ := Aside0.mk (Kd.C_drew HR255_0.out)
                  have n7_ := Aside0.mk (below_drew1 HB.out)
                  clear HO_7
                  clear HO_9
                  clear HO_10
                  clear HL254_0
                  clear HL255_0
                  clear HR254_0
                  clear HR255_0
                  clear HB
                  have HO_7 := n0_
                  have HO_9 := n1_
                  have HO_10 := n2_
                  have HL254_0 := n3_
                  have HL255_0 := n4_
                  have HR254_0 := n5_
                  have HR255_0 := n6_
                  have HB := n7_
                  clear n0_ n1_ n2_ n3_ n4_ n5_ n6_ n7_
                  have p257 : 0 ≤ ((ji84) : Int) := of_decide_eq_true (by first | (with_reducible assumption) | assumption)
                  have q257 : (ji84) < (t234.length : Int) := of_decide_eq_true (by first | (with_reducible assumption) | assumption)
                  obtain ⟨ad257, A257_0, c257_0, e257, hx257_0, hl257_0, hi257_0⟩ := at_L6 (Kd.N_reads' HO_9.out).2.2 (ji84) p257 q257
                  obtain rfl : ad240 = ad257 := (by injection e257)
                  obtain ⟨ce257, hce257, hMe257, hcc257⟩ := Kd.N_get HO_9.out [] (ji84) p257 (by first | exact q257 | exact of_decide_eq_true (by first | (with_reducible assumption) | assumption) | (have e_ := (Kd.N_reads' HO_9.out).1; omega))
                  obtain ⟨ua257_0, uc257_0, rfl, ul257_0, ge257_0⟩ := Kd.FK_slice_open hMe257
                  have hv257_0 := hcc257 0 _ rfl
                  rw [Nat.add_zero, show ((Kd.slice 36 k36)).sz = 1 from rfl, Nat.mul_one] at hv257_0
                  replace hv257_0 := Option.some.inj (hv257_0.symm.trans hx257_0)
                  injection hv257_0 with hva_ hvn_ hvc_
                  rw [hva_] at ge257_0
                  rw [hvc_] at ul257_0
                  have HL257_0 := Aside0.mk (show Kd.V k36 36 _ w.heap.size _ _ (rd_L6 t234 (ji84)) from Kd.V_mk ul257_0 ge257_0)
                  clear hva_ hvn_ hvc_ ge257_0 ul257_0
                  clear hcc257 hce257
                  have HR257_0 := Aside0.mk hi257_0
                  have HC257_0 := Aside0.mk hl257_0
                  clear hi257_0 hl257_0
                  replace p257 := eq_true p257
                  replace q257 := eq_true q257
                  have p258 : 0 ≤ (a1 : Int) := of_decide_eq_true (by first | (with_reducible assumption) | assumption)
                  have q258 : a1 < ((rd_L6 t234 (ji84)).length : Int) := of_decide_eq_true (by first | (with_reducible assumption) | assumption)
                  obtain ⟨ad258, e258, hx258_0, hx258_1⟩ := at_T36 (by repeat (first | (with_reducible exact HR257_0.out) | (with_reducible refine Kd.C_alloc ?_ _) | (with_reducible refine Kd.C_drewN ?_ _) | (with_reducible refine Kd.C_drew ?_) | exact HR257_0.out)) a1 p258 q258
                  cases e258
                  replace p258 := eq_true p258
                  replace q258 := eq_true q258
                  have p259 : 0 ≤ (x11_3 : Int) := of_decide_eq_true (by first | (with_reducible assumption) | assumption)
                  have q259 : x11_3 < (t234.length : Int) := of_decide_eq_true (by first | (with_reducible assumption) | assumption)
                  obtain ⟨ad259, A259_0, c259_0, e259, hx259_0, hl259_0, hi259_0⟩ := at_L6 (Kd.N_reads' HO_9.out).2.2 x11_3 p259 q259
                  obtain rfl : ad240 = ad259 := (by injection e259)
                  obtain ⟨ce259, hce259, hMe259, hcc259⟩ := Kd.N_get HO_9.out [] x11_3 p259 (by first | exact q259 | exact of_decide_eq_true (by first | (with_reducible assumption) | assumption) | (have e_ := (Kd.N_reads' HO_9.out).1; omega))
                  obtain ⟨ua259_0, uc259_0, rfl, ul259_0, ge259_0⟩ := Kd.FK_slice_open hMe259
                  have hv259_0 := hcc259 0 _ rfl
                  rw [Nat.add_zero, show ((Kd.slice 36 k36)).sz = 1 from rfl, Nat.mul_one] at hv259_0
                  replace hv259_0 := Option.some.inj (hv259_0.symm.trans hx259_0)
                  injection hv259_0 with hva_ hvn_ hvc_
                  rw [hva_] at ge259_0
                  rw [hvc_] at ul259_0
                  have HL259_0 := Aside0.mk (show Kd.V k36 36 _ w.heap.size _ _ (rd_L6 t234 x11_3) from Kd.V_mk ul259_0 ge259_0)
                  clear hva_ hvn_ hvc_ ge259_0 ul259_0
                  clear hcc259 hce259
                  have HR259_0 := Aside0.mk hi259_0
                  have HC259_0 := Aside0.mk hl259_0
                  clear hi259_0 hl259_0
                  replace p259 := eq_true p259
                  replace q259 := eq_true q259
                  have p260 : 0 ≤ (a1 : Int) := of_decide_eq_true (by first | (with_reducible assumption) | assumption)
                  have q260 : a1 < ((rd_L6 t234 x11_3).length : Int) := of_decide_eq_true (by first | (with_reducible assumption) | assumption)
                  obtain ⟨ad260, e260, hx260_0, hx260_1⟩ := at_T36 (by repeat (first | (with_reducible exact HR259_0.out) | (with_reducible refine Kd.C_alloc ?_ _) | (with_reducible refine Kd.C_drewN ?_ _) | (with_reducible refine Kd.C_drew ?_) | exact HR259_0.out)) a1 p260 q260
                  cases e260
                  replace p260 := eq_true p260
                  replace q260 := eq_true q260
                  refine start_ (n := 26) (S := fun w' => w'.cell? (ad240.add ((ji84)).toNat) = some (.slice (some ad258) (rd_L6 t234 (ji84)).length c257_0) ∧ w'.cell? (ad258.add ((a1).toNat * 2)) = some (.bool ((rd_T36 (rd_L6 t234 (ji84)) a1).f0)) ∧ w'.cell? ⟨(ad258.add ((a1).toNat * 2)).block, (ad258.add ((a1).toNat * 2)).off + 1, none⟩ = some (.string ((rd_T36 (rd_L6 t234 (ji84)) a1).f1)) ∧ w'.cell? (ad240.add (x11_3).toNat) = some (.slice (some ad260) (rd_L6 t234 x11_3).length c259_0) ∧ w'.cell? (ad260.add ((a1).toNat * 2)) = some (.bool ((rd_T36 (rd_L6 t234 x11_3) a1).f0)) ∧ w'.cell? ⟨(ad260.add ((a1).toNat * 2)).block, (ad260.add ((a1).toNat * 2)).off + 1, none⟩ = some (.string ((rd_T36 (rd_L6 t234 x11_3) a1).f1))) (ds := []) #[false, false, false, false, false, false, false, false, false, false, false, false, false, false, false, false, false, false, false, false, false, false, false, false, false, false] (by kernel_rfl) rfl rfl ⟨hx257_0, hx258_0, hx258_1, hx259_0, hx260_0, hx260_1⟩ (fun hHeld => ?_); refine with_tabW hopperlaw24_OrderStable.tab21 hopperlaw24_OrderStable.bits21 (fun HT_ HW_ => ?_)
                  generalize w104.drew = w105 at HO_7 HO_9 HO_10 HL254_0 HL255_0 HR254_0 HR255_0 HB HL257_0 HL259_0 HR257_0 HR259_0 hx257_0 hx258_0 hx258_1 hx259_0 hx260_0 hx260_1 hHeld ⊢
                  refine pure_ (i := 0) (N := some 122) (v := ?_) (a' := ?_) #[true, false, false, false, false, false, false, false, false, false, false, false, false, false, false, false, false, false, false, false, false, false, false, false, false, false] rfl rfl (any_of HT_.out (by kernel_rfl)) (fun _ _ _ h => h) (Or.inl ⟨by rfl, ?_⟩) ?_ ?_
                  rotate_left
                  ·intro w'
                   go_simp
                   with_reducible rfl
                  rotate_left
                  ·simp only [Act.put, List.setIfInBounds_toArray, List.set_cons_zero, List.set_cons_succ, i64_w, i32_w]
                   rfl
                  refine pure_ (i := 1) (N := some 123) (v := ?_) (a' := ?_) #[true, true, false, false, false, false, false, false, false, false, false, false, false, false, false, false, false, false, false, false, false, false, false, false, false, false] rfl rfl (any_of HT_.out (by kernel_rfl)) (fun _ _ _ h => h) (Or.inl ⟨by rfl, ?_⟩) ?_ ?_
                  rotate_left
                  ·intro w'
                   go_simp
                   with_reducible rfl
                  rotate_left
                  ·simp only [Act.put, List.setIfInBounds_toArray, List.set_cons_zero, List.set_cons_succ, i64_w, i32_w]
                   rfl
                  refine pure_ (i := 2) (N := some 124) (v := ?_) (a' := ?_) #[true, true, true, false, false, false, false, false, false, false, false, false, false, false, false, false, false, false, false, false, false, false, false, false, false, false] rfl rfl (any_of HT_.out (by kernel_rfl)) (fun _ _ _ h => h) (Or.inl ⟨by rfl, ?_⟩) ?_ ?_
                  rotate_left
                  ·intro w'
                   go_simp
                   with_reducible rfl
                  rotate_left
                  ·simp only [Act.put, List.setIfInBounds_toArray, List.set_cons_zero, List.set_cons_succ, i64_w, i32_w]
                   rfl
                  refine pure_ (i := 3) (N := some 125) (v := ?_) (a' := ?_) #[true, true, true, true, false, false, false, false, false, false, false, false, false, false, false, false, false, false, false, false, false, false, false, false, false, false] rfl rfl (any_of HT_.out (by kernel_rfl)) (fun _ _ _ h => h) (Or.inl ⟨by rfl, ?_⟩) ?_ ?_
                  rotate_left
                  ·intro w'
                   go_simp
                   with_reducible rfl
                  rotate_left
                  ·simp only [Act.put, List.setIfInBounds_toArray, List.set_cons_zero, List.set_cons_succ, i64_w, i32_w]
                   rfl
                  refine pure_ (i := 4) (N := some 126) (v := ?_) (a' := ?_) #[true, true, true, true, true, false, false, false, false, false, false, false, false, false, false, false, false, false, false, false, false, false, false, false, false, false] rfl rfl (any_of HT_.out (by kernel_rfl)) (fun _ _ _ h => h) (Or.inl ⟨by rfl, ?_⟩) ?_ ?_
                  rotate_left
                  ·intro w'
                   go_simp
                   with_reducible rfl
                  rotate_left
                  ·simp only [Act.put, List.setIfInBounds_toArray, List.set_cons_zero, List.set_cons_succ, i64_w, i32_w]
                   rfl
                  refine pure_ (i := 5) (N := some 127) (v := ?_) (a' := ?_) #[true, true, true, true, true, true, false, false, false, false, false, false, false, false, false, false, false, false, false, false, false, false, false, false, false, false] rfl rfl (any_of HT_.out (by kernel_rfl)) (fun _ _ _ h => h) (Or.inl ⟨by rfl, ?_⟩) ?_ ?_
                  rotate_left
                  ·intro w'
                   go_simp
                   with_reducible rfl
                  rotate_left
                  ·simp only [Act.put, List.setIfInBounds_toArray, List.set_cons_zero, List.set_cons_succ, i64_w, i32_w]
                   rfl
                  refine pure_ (i := 6) (N := some 128) (v := ?_) (a' := ?_) #[true, true, true, true, true, true, true, false, false, false, false, false, false, false, false, false, false, false, false, false, false, false, false, false, false, false] rfl rfl (any_of HT_.out (by kernel_rfl)) (fun _ _ _ h => h) (Or.inl ⟨by rfl, ?_⟩) ?_ ?_
                  rotate_left
                  ·intro w'
                   go_simp
                   with_reducible rfl
                  rotate_left
                  ·simp only [Act.put, List.setIfInBounds_toArray, List.set_cons_zero, List.set_cons_succ, i64_w, i32_w]
                   rfl
                  refine pure_ (i := 7) (N := some 129) (v := ?_) (a' := ?_) #[true, true, true, true, true, true, true, true, false, false, false, false, false, false, false, false, false, false, false, false, false, false, false, false, false, false] rfl rfl (any_of HT_.out (by kernel_rfl)) (fun _ _ _ h => h) (Or.inl ⟨by rfl, ?_⟩) ?_ ?_
                  rotate_left
                  ·intro w'
                   go_simp
                   with_reducible rfl
                  rotate_left
                  ·simp only [Act.put, List.setIfInBounds_toArray, List.set_cons_zero, List.set_cons_succ, i64_w, i32_w]
                   rfl
                  refine pure_ (i := 8) (N := some 130) (v := ?_) (a' := ?_) #[true, true, true, true, true, true, true, true, true, false, false, false, false, false, false, false, false, false, false, false, false, false, false, false, false, false] rfl rfl (any_of HT_.out (by kernel_rfl)) (fun _ _ _ h => h) (Or.inl ⟨by rfl, ?_⟩) ?_ ?_
                  rotate_left
                  ·intro w'
                   go_simp
                   with_reducible rfl
                  rotate_left
                  ·simp only [Act.put, List.setIfInBounds_toArray, List.set_cons_zero, List.set_cons_succ, i64_w, i32_w]
                   rfl
                  refine pure_ (i := 9) (N := some 131) (v := ?_) (a' := ?_) #[true, true, true, true, true, true, true, true, true, true, false, false, false, false, false, false, false, false, false, false, false, false, false, false, false, false] rfl rfl (any_of HT_.out (by kernel_rfl)) (fun _ _ _ h => h) (Or.inl ⟨by rfl, ?_⟩) ?_ ?_
                  rotate_left
                  ·intro w'
                   go_simp
                   with_reducible rfl
                  rotate_left
                  ·simp only [Act.put, List.setIfInBounds_toArray, List.set_cons_zero, List.set_cons_succ, i64_w, i32_w]
                   rfl
                  refine pure_ (i := 11) (N := some 133) (v := ?_) (a' := ?_) #[true, true, true, true, true, true, true, true, true, true, false, true, false, false, false, false, false, false, false, false, false, false, false, false, false, false] rfl rfl (any_of HT_.out (by kernel_rfl)) (fun _ _ _ h => h) (Or.inl ⟨by rfl, ?_⟩) ?_ ?_
                  rotate_left
                  ·intro w'
                   go_simp
                   with_reducible rfl
                  rotate_left
                  ·simp only [Act.put, List.setIfInBounds_toArray, List.set_cons_zero, List.set_cons_succ, i64_w, i32_w]
                   rfl
                  refine pure_ (i := 15) (N := some 137) (v := ?_) (a' := ?_) #[true, true, true, true, true, true, true, true, true, true, false, true, false, false, false, true, false, false, false, false, false, false, false, false, false, false] rfl rfl (any_of HT_.out (by kernel_rfl)) (fun _ _ _ h => h) (Or.inl ⟨by rfl, ?_⟩) ?_ ?_
                  rotate_left
                  ·intro w'
                   go_simp
                   with_reducible rfl
                  rotate_left
                  ·simp only [Act.put, List.setIfInBounds_toArray, List.set_cons_zero, List.set_cons_succ, i64_w, i32_w]
                   rfl
                  refine pure_ (i := 16) (N := some 138) (v := ?_) (a' := ?_) #[true, true, true, true, true, true, true, true, true, true, false, true, false, false, false, true, true, false, false, false, false, false, false, false, false, false] rfl rfl (any_of HT_.out (by kernel_rfl)) (fun _ _ _ h => h) (Or.inl ⟨by rfl, ?_⟩) ?_ ?_
                  rotate_left
                  ·intro w'
                   go_simp
                   with_reducible rfl
                  rotate_left
                  ·simp only [Act.put, List.setIfInBounds_toArray, List.set_cons_zero, List.set_cons_succ, i64_w, i32_w]
                   rfl
                  refine pure_ (i := 17) (N := some 139) (v := ?_) (a' := ?_) #[true, true, true, true, true, true, true, true, true, true, false, true, false, false, false, true, true, true, false, false, false, false, false, false, false, false] rfl rfl (any_of HT_.out (by kernel_rfl)) (fun _ _ _ h => h) (Or.inl ⟨by rfl, ?_⟩) ?_ ?_
                  rotate_left
                  ·intro w'
                   go_simp
                   with_reducible rfl
                  rotate_left
                  ·simp only [Act.put, List.setIfInBounds_toArray, List.set_cons_zero, List.set_cons_succ, i64_w, i32_w]
                   rfl
                  refine pure_ (i := 19) (N := some 141) (v := ?_) (a' := ?_) #[true, true, true, true, true, true, true, true, true, true, false, true, false, false, false, true, true, true, false, true, false, false, false, false, false, false] rfl rfl (any_of HT_.out (by kernel_rfl)) (fun _ _ _ h => h) (Or.inl ⟨by rfl, ?_⟩) ?_ ?_
                  rotate_left
                  ·intro w'
                   go_simp
                   with_reducible rfl
                  rotate_left
                  ·simp only [Act.put, List.setIfInBounds_toArray, List.set_cons_zero, List.set_cons_succ, i64_w, i32_w]
                   rfl
                  refine take_ (i := 10) (N := some 132) (v := ?_) (a' := ?_) #[true, true, true, true, true, true, true, true, true, true, true, true, false, false, false, true, true, true, false, true, false, false, false, false, false, false] rfl rfl (take_ofW HT_.out HW_.out (by kernel_rfl)) (fun _ _ _ h => h) (Or.inl ⟨by rfl, ?_⟩) hHeld ?_ ?_
                  rotate_left
                  ·rintro w' ⟨s0, s1, s2, s3, s4, s5⟩
                   go_simp
                   with_reducible rfl
                  rotate_left
                  ·simp only [Act.put, List.setIfInBounds_toArray, List.set_cons_zero, List.set_cons_succ, i64_w, i32_w]
                   rfl
                  refine pure_ (i := 12) (N := some 134) (v := ?_) (a' := ?_) #[true, true, true, true, true, true, true, true, true, true, true, true, true, false, false, true, true, true, false, true, false, false, false, false, false, false] rfl rfl (any_of HT_.out (by kernel_rfl)) (fun _ _ _ h => h) (Or.inl ⟨by rfl, ?_⟩) ?_ ?_
                  rotate_left
                  ·intro w'
                   go_simp
                   with_reducible rfl
                  rotate_left
                  ·simp only [Act.put, List.setIfInBounds_toArray, List.set_cons_zero, List.set_cons_succ, i64_w, i32_w]
                   rfl
                  refine pure_ (i := 13) (N := some 135) (v := ?_) (a' := ?_) #[true, true, true, true, true, true, true, true, true, true, true, true, true, true, false, true, true, true, false, true, false, false, false, false, false, false] rfl rfl (any_of HT_.out (by kernel_rfl)) (fun _ _ _ h => h) (Or.inl ⟨by rfl, ?_⟩) ?_ ?_
                  rotate_left
                  ·intro w'
                   go_simp
                   with_reducible rfl
                  rotate_left
                  ·simp only [Act.put, List.setIfInBounds_toArray, List.set_cons_zero, List.set_cons_succ, i64_w, i32_w]
                   rfl
                  refine take_ (i := 14) (N := some 136) (v := ?_) (a' := ?_) #[true, true, true, true, true, true, true, true, true, true, true, true, true, true, true, true, true, true, false, true, false, false, false, false, false, false] rfl rfl (take_ofW HT_.out HW_.out (by kernel_rfl)) (fun _ _ _ h => h) (Or.inl ⟨by rfl, ?_⟩) hHeld ?_ ?_
                  rotate_left
                  ·rintro w' ⟨s0, s1, s2, s3, s4, s5⟩
                   go_simp
                   with_reducible rfl
                  rotate_left
                  ·simp only [Act.put, List.setIfInBounds_toArray, List.set_cons_zero, List.set_cons_succ, i64_w, i32_w]
                   rfl
                  refine take_ (i := 18) (N := some 140) (v := ?_) (a' := ?_) #[true, true, true, true, true, true, true, true, true, true, true, true, true, true, true, true, true, true, true, true, false, false, false, false, false, false] rfl rfl (take_ofW HT_.out HW_.out (by kernel_rfl)) (fun _ _ _ h => h) (Or.inl ⟨by rfl, ?_⟩) hHeld ?_ ?_
                  rotate_left
                  ·rintro w' ⟨s0, s1, s2, s3, s4, s5⟩
                   go_simp
                   with_reducible rfl
                  rotate_left
                  ·simp only [Act.put, List.setIfInBounds_toArray, List.set_cons_zero, List.set_cons_succ, i64_w, i32_w]
                   rfl
                  refine pure_ (i := 20) (N := some 142) (v := ?_) (a' := ?_) #[true, true, true, true, true, true, true, true, true, true, true, true, true, true, true, true, true, true, true, true, true, false, false, false, false, false] rfl rfl (any_of HT_.out (by kernel_rfl)) (fun _ _ _ h => h) (Or.inl ⟨by rfl, ?_⟩) ?_ ?_
                  rotate_left
                  ·intro w'
                   go_simp
                   with_reducible rfl
                  rotate_left
                  ·simp only [Act.put, List.setIfInBounds_toArray, List.set_cons_zero, List.set_cons_succ, i64_w, i32_w]
                   rfl
                  refine pure_ (i := 21) (N := some 143) (v := ?_) (a' := ?_) #[true, true, true, true, true, true, true, true, true, true, true, true, true, true, true, true, true, true, true, true, true, true, false, false, false, false] rfl rfl (any_of HT_.out (by kernel_rfl)) (fun _ _ _ h => h) (Or.inl ⟨by rfl, ?_⟩) ?_ ?_
                  rotate_left
                  ·intro w'
                   go_simp
                   with_reducible rfl
                  rotate_left
                  ·simp only [Act.put, List.setIfInBounds_toArray, List.set_cons_zero, List.set_cons_succ, i64_w, i32_w]
                   rfl
                  refine take_ (i := 22) (N := some 144) (v := ?_) (a' := ?_) #[true, true, true, true, true, true, true, true, true, true, true, true, true, true, true, true, true, true, true, true, true, true, true, false, false, false] rfl rfl (take_ofW HT_.out HW_.out (by kernel_rfl)) (fun _ _ _ h => h) (Or.inl ⟨by rfl, ?_⟩) hHeld ?_ ?_
                  rotate_left
                  ·rintro w' ⟨s0, s1, s2, s3, s4, s5⟩
                   go_simp
                   with_reducible rfl
                  rotate_left
                  ·simp only [Act.put, List.setIfInBounds_toArray, List.set_cons_zero, List.set_cons_succ, i64_w, i32_w]
                   rfl
                  refine pure_ (i := 23) (N := some 145) (v := ?_) (a' := ?_) #[true, true, true, true, true, true, true, true, true, true, true, true, true, true, true, true, true, true, true, true, true, true, true, true, false, false] rfl rfl (any_of HT_.out (by kernel_rfl)) (fun _ _ _ h => h) (Or.inl ⟨by rfl, ?_⟩) ?_ ?_
                  rotate_left
                  ·intro w'
                   go_simp
                   with_reducible rfl
                  rotate_left
                  ·simp only [Act.put, List.setIfInBounds_toArray, List.set_cons_zero, List.set_cons_succ, i64_w, i32_w]
                   rfl
                  refine pure_ (i := 24) (N := some 146) (v := ?_) (a' := ?_) #[true, true, true, true, true, true, true, true, true, true, true, true, true, true, true, true, true, true, true, true, true, true, true, true, true, false] rfl rfl (any_of HT_.out (by kernel_rfl)) (fun _ _ _ h => h) (Or.inl ⟨by rfl, ?_⟩) ?_ ?_
                  rotate_left
                  ·intro w'
                   go_simp
                   with_reducible rfl
                  rotate_left
                  ·simp only [Act.put, List.setIfInBounds_toArray, List.set_cons_zero, List.set_cons_succ, i64_w, i32_w]
                   rfl
                  refine pure_ (i := 25) (N := some 147) (v := ?_) (a' := ?_) #[true, true, true, true, true, true, true, true, true, true, true, true, true, true, true, true, true, true, true, true, true, true, true, true, true, true] rfl rfl (any_of HT_.out (by kernel_rfl)) (fun _ _ _ h => h) (Or.inl ⟨by rfl, ?_⟩) ?_ ?_
                  rotate_left
                  ·intro w'
                   go_simp
                   with_reducible rfl
                  rotate_left
                  ·simp only [Act.put, List.setIfInBounds_toArray, List.set_cons_zero, List.set_cons_succ, i64_w, i32_w]
                   rfl
                  refine done_ (done_of HT_.out (by kernel_rfl)) ?_
                  try go_wp2
                  go_roundg kj55
                  case measure => have := HJ3.out; have := HK2.out; have := HK3.out; have := HJ55.out; omega
                  case rel => exact ⟨(y253), (wrap64 (x11_3 + 1)), (by first | rfl | (simp; done) | (simp [*]; done)), (by first | exact H' | (rw [← Nbq62.out]; exact H')), ⟨by have := HJ3.out; have := HK2.out; have := HK3.out; have := HJ55.out; omega⟩, ⟨by (with_reducible repeat (first | apply Kd.N_alloc | apply Kd.N_drewN | apply Kd.N_drew)); exact HO_7.out⟩, ⟨by (with_reducible repeat (first | apply Kd.N_alloc | apply Kd.N_drewN | apply Kd.N_drew)); exact HO_9.out⟩, ⟨by (with_reducible repeat (first | apply Kd.R_alloc | apply Kd.R_drewN | apply Kd.R_drew)); exact HO_10.out⟩, ⟨by repeat (first | (with_reducible first | exact HB.out | apply below_alloc | apply pw_below_drewN | apply below_drew1) | exact HB.out)⟩⟩
                 ·rw [if_neg c100] at H
                  have c100b0 : (Op.bytesLess (((rd_T36 (rd_L6 t234 (ji84)) a1).f1).toList) (((rd_T36 (rd_L6 t234 x11_3) a1).f1).toList)) = false := by simpa using c100
                  clear c100
                  cases H
                ·rw [if_neg c96] at H
                 have c96b0 : (t256 == 0) = false := beq_eq_false_iff_ne.mpr c96
                 have c96b1 : (t256 != 0) = true := bne_iff_ne.mpr c96
                 have H' := Aside0.mk H
                 clear H
                 have p80 : 0 ≤ ((ji77) : Int) := of_decide_eq_true (by first | (with_reducible assumption) | assumption)
                 have q80 : ((ji77) : Int) < ((x10_3.length : Int) : Int) := of_decide_eq_true (by first | (with_reducible assumption) | assumption)
                 obtain ⟨go80, co80, eo80, gb80, gl80, cl80, HG80⟩ := Kd.R_form HO_10.out (by omega)
                 (first | cases eo80 | (injection eo80 with ea_ en_ ec_; (first | subst ea_ | (injection ea_ with ea_; subst ea_)); subst ec_; clear en_))
                 have GB80 := Aside0.mk gb80
                 have GG80 := Aside0.mk HG80
                 clear gb80 gl80 HG80
                 obtain ⟨hx80_0, hf80_0⟩ := Kd.R_celln false HO_10.out ((ji77) : Int) p80 q80
                 replace p80 := eq_true p80
                 replace q80 := eq_true q80
                 have HP111 := Kd.R_putg HO_10.out ((ji77) : Int) true
                 try go_wp2_with (first | ((with_reducible refine gate_store (t := 4) (p := 108) rfl ?_); refine store_event (t := 4) (p := 108) (v := ?vo_w112) (w1 := (wc.setCell ⟨go80, ((ji77) : Int).toNat, none⟩ (.bool true))) ?hg ?ho ?hn ?hr ?_; (case ho => rfl); (case hg => rfl); (case hn => rfl); (case hr => first | (go_simp; done) | (go_simp; rfl) | (go_simp; simp (disch := omega) only [Go.u8_and63, Go.u8_and31, Go.u8_and15, Go.u8_and7, Go.u8_or128, Go.u8_or192, Go.u8_or224, Go.u8_or240, m64]; done)); intro w112 hw; have hg : wc.grownBy w112 (some go80) := (by rw [hw]; exact HP111.2); have hp_ : Kd.R Kd.bool 4 w112 w.heap.size (fun _ => True) (.slice (some ⟨go80, 0, none⟩) x10_3.length co80) y253 := (by rw [hw, Ny253.out]; exact HP111.1); clear HP111; have n0_ := Aside0.mk (Kd.N_afterv (v := (.slice (some ⟨go80, 0, none⟩) x10_3.length co80)) (v1 := (.slice (some ⟨go80, 0, none⟩) x10_3.length co80)) (ok := (fun k_ => some k_ ≠ (.slice (some ad240) t234.length co47 : Value).ownBlock)) (mvN HO_7.out) hg (.inl rfl)); have n1_ := Aside0.mk (Kd.N_afterv (v := (.slice (some ⟨go80, 0, none⟩) x10_3.length co80)) (v1 := (.slice (some ⟨go80, 0, none⟩) x10_3.length co80)) (ok := (fun k_ => some k_ ≠ (.slice Ao45 x7_2.length co45 : Value).ownBlock)) (mvN HO_9.out) hg (.inl rfl)); have n2_ := Aside0.mk (hp_); have n3_ := Aside0.mk ((by rw [hw]; exact below_set (HB.out) GB80.out : Below w.heap.size w w112)); clear HO_7; clear HO_9; clear HO_10; clear HB; have HO_7 := n0_; have HO_9 := n1_; have HO_10 := n2_; have HB := n3_; clear n0_ n1_ n2_ n3_; clear hg hw hp_))
                 have n0_ := Aside0.mk (Kd.N_drew HO_7.out)
                 have n1_ := Aside0.mk (Kd.N_drew HO_9.out)
                 have n2_ := Aside0.mk (Kd.R_drew HO_10.out)
                 have n3_ := Aside0.mk (below_drew1 HB.out)
                 clear HO_7
                 clear HO_9
                 clear HO_10
                 clear HB
                 have HO_7 := n0_
                 have HO_9 := n1_
                 have HO_10 := n2_
                 have HB := n3_
                 clear n0_ n1_ n2_ n3_
                 have p254 : 0 ≤ ((ji84) : Int) := of_decide_eq_true (by first | (with_reducible assumption) | assumption)
                 have q254 : (ji84) < (t234.length : Int) := of_decide_eq_true (by first | (with_reducible assumption) | assumption)
                 obtain ⟨ad254, A254_0, c254_0, e254, hx254_0, hl254_0, hi254_0⟩ := at_L6 (Kd.N_reads' HO_9.out).2.2 (ji84) p254 q254
                 obtain rfl : ad240 = ad254 := (by injection e254)
                 obtain ⟨ce254, hce254, hMe254, hcc254⟩ := Kd.N_get HO_9.out [] (ji84) p254 (by first | exact q254 | exact of_decide_eq_true (by first | (with_reducible assumption) | assumption) | (have e_ := (Kd.N_reads' HO_9.out).1; omega))
                 obtain ⟨ua254_0, uc254_0, rfl, ul254_0, ge254_0⟩ := Kd.FK_slice_open hMe254
                 have hv254_0 := hcc254 0 _ rfl
                 rw [Nat.add_zero, show ((Kd.slice 36 k36)).sz = 1 from rfl, Nat.mul_one] at hv254_0
                 replace hv254_0 := Option.some.inj (hv254_0.symm.trans hx254_0)
                 injection hv254_0 with hva_ hvn_ hvc_
                 rw [hva_] at ge254_0
                 rw [hvc_] at ul254_0
                 have HL254_0 := Aside0.mk (show Kd.V k36 36 _ w.heap.size _ _ (rd_L6 t234 (ji84)) from Kd.V_mk ul254_0 ge254_0)
                 clear hva_ hvn_ hvc_ ge254_0 ul254_0
                 clear hcc254 hce254
                 have HR254_0 := Aside0.mk hi254_0
                 have HC254_0 := Aside0.mk hl254_0
                 clear hi254_0 hl254_0
                 replace p254 := eq_true p254
                 replace q254 := eq_true q254
                 have p255 : 0 ≤ (x11_3 : Int) := of_decide_eq_true (by first | (with_reducible assumption) | assumption)
                 have q255 : x11_3 < (t234.length : Int) := of_decide_eq_true (by first | (with_reducible assumption) | assumption)
                 obtain ⟨ad255, A255_0, c255_0, e255, hx255_0, hl255_0, hi255_0⟩ := at_L6 (Kd.N_reads' HO_9.out).2.2 x11_3 p255 q255
                 obtain rfl : ad240 = ad255 := (by injection e255)
                 obtain ⟨ce255, hce255, hMe255, hcc255⟩ := Kd.N_get HO_9.out [] x11_3 p255 (by first | exact q255 | exact of_decide_eq_true (by first | (with_reducible assumption) | assumption) | (have e_ := (Kd.N_reads' HO_9.out).1; omega))
                 obtain ⟨ua255_0, uc255_0, rfl, ul255_0, ge255_0⟩ := Kd.FK_slice_open hMe255
                 have hv255_0 := hcc255 0 _ rfl
                 rw [Nat.add_zero, show ((Kd.slice 36 k36)).sz = 1 from rfl, Nat.mul_one] at hv255_0
                 replace hv255_0 := Option.some.inj (hv255_0.symm.trans hx255_0)
                 injection hv255_0 with hva_ hvn_ hvc_
                 rw [hva_] at ge255_0
                 rw [hvc_] at ul255_0
                 have HL255_0 := Aside0.mk (show Kd.V k36 36 _ w.heap.size _ _ (rd_L6 t234 x11_3) from Kd.V_mk ul255_0 ge255_0)
                 clear hva_ hvn_ hvc_ ge255_0 ul255_0
                 clear hcc255 hce255
                 have HR255_0 := Aside0.mk hi255_0
                 have HC255_0 := Aside0.mk hl255_0
                 clear hi255_0 hl255_0
                 replace p255 := eq_true p255
                 replace q255 := eq_true q255
                 refine start_ (n := 12) (S := fun w' => w'.cell? (ad240.add ((ji84)).toNat) = some (.slice A254_0 (rd_L6 t234 (ji84)).length c254_0) ∧ w'.cell? (ad240.add (x11_3).toNat) = some (.slice A255_0 (rd_L6 t234 x11_3).length c255_0)) (ds := []) #[false, false, false, false, false, false, false, false, false, false, false, false] (by kernel_rfl) rfl rfl ⟨hx254_0, hx255_0⟩ (fun hHeld => ?_); refine with_tabW hopperlaw24_OrderStable.tab20 hopperlaw24_OrderStable.bits20 (fun HT_ HW_ => ?_)
                 generalize w112.drew = w113 at HO_7 HO_9 HO_10 HB HL254_0 HL255_0 HR254_0 HR255_0 hx254_0 hx255_0 hHeld ⊢
                 refine pure_ (i := 0) (N := some 111) (v := ?_) (a' := ?_) #[true, false, false, false, false, false, false, false, false, false, false, false] rfl rfl (any_of HT_.out (by kernel_rfl)) (fun _ _ _ h => h) (Or.inl ⟨by rfl, ?_⟩) ?_ ?_
                 rotate_left
                 ·intro w'
                  go_simp
                  with_reducible rfl
                 rotate_left
                 ·simp only [Act.put, List.setIfInBounds_toArray, List.set_cons_zero, List.set_cons_succ, i64_w, i32_w]
                  rfl
                 refine pure_ (i := 1) (N := some 112) (v := ?_) (a' := ?_) #[true, true, false, false, false, false, false, false, false, false, false, false] rfl rfl (any_of HT_.out (by kernel_rfl)) (fun _ _ _ h => h) (Or.inl ⟨by rfl, ?_⟩) ?_ ?_
                 rotate_left
                 ·intro w'
                  go_simp
                  with_reducible rfl
                 rotate_left
                 ·simp only [Act.put, List.setIfInBounds_toArray, List.set_cons_zero, List.set_cons_succ, i64_w, i32_w]
                  rfl
                 refine pure_ (i := 2) (N := some 113) (v := ?_) (a' := ?_) #[true, true, true, false, false, false, false, false, false, false, false, false] rfl rfl (any_of HT_.out (by kernel_rfl)) (fun _ _ _ h => h) (Or.inl ⟨by rfl, ?_⟩) ?_ ?_
                 rotate_left
                 ·intro w'
                  go_simp
                  with_reducible rfl
                 rotate_left
                 ·simp only [Act.put, List.setIfInBounds_toArray, List.set_cons_zero, List.set_cons_succ, i64_w, i32_w]
                  rfl
                 refine pure_ (i := 3) (N := some 114) (v := ?_) (a' := ?_) #[true, true, true, true, false, false, false, false, false, false, false, false] rfl rfl (any_of HT_.out (by kernel_rfl)) (fun _ _ _ h => h) (Or.inl ⟨by rfl, ?_⟩) ?_ ?_
                 rotate_left
                 ·intro w'
                  go_simp
                  with_reducible rfl
                 rotate_left
                 ·simp only [Act.put, List.setIfInBounds_toArray, List.set_cons_zero, List.set_cons_succ, i64_w, i32_w]
                  rfl
                 refine pure_ (i := 5) (N := some 116) (v := ?_) (a' := ?_) #[true, true, true, true, false, true, false, false, false, false, false, false] rfl rfl (any_of HT_.out (by kernel_rfl)) (fun _ _ _ h => h) (Or.inl ⟨by rfl, ?_⟩) ?_ ?_
                 rotate_left
                 ·intro w'
                  go_simp
                  with_reducible rfl
                 rotate_left
                 ·simp only [Act.put, List.setIfInBounds_toArray, List.set_cons_zero, List.set_cons_succ, i64_w, i32_w]
                  rfl
                 refine pure_ (i := 6) (N := some 117) (v := ?_) (a' := ?_) #[true, true, true, true, false, true, true, false, false, false, false, false] rfl rfl (any_of HT_.out (by kernel_rfl)) (fun _ _ _ h => h) (Or.inl ⟨by rfl, ?_⟩) ?_ ?_
                 rotate_left
                 ·intro w'
                  go_simp
                  with_reducible rfl
                 rotate_left
                 ·simp only [Act.put, List.setIfInBounds_toArray, List.set_cons_zero, List.set_cons_succ, i64_w, i32_w]
                  rfl
                 refine pure_ (i := 7) (N := some 118) (v := ?_) (a' := ?_) #[true, true, true, true, false, true, true, true, false, false, false, false] rfl rfl (any_of HT_.out (by kernel_rfl)) (fun _ _ _ h => h) (Or.inl ⟨by rfl, ?_⟩) ?_ ?_
                 rotate_left
                 ·intro w'
                  go_simp
                  with_reducible rfl
                 rotate_left
                 ·simp only [Act.put, List.setIfInBounds_toArray, List.set_cons_zero, List.set_cons_succ, i64_w, i32_w]
                  rfl
                 refine pure_ (i := 9) (N := some 120) (v := ?_) (a' := ?_) #[true, true, true, true, false, true, true, true, false, true, false, false] rfl rfl (any_of HT_.out (by kernel_rfl)) (fun _ _ _ h => h) (Or.inl ⟨by rfl, ?_⟩) ?_ ?_
                 rotate_left
                 ·intro w'
                  go_simp
                  with_reducible rfl
                 rotate_left
                 ·simp only [Act.put, List.setIfInBounds_toArray, List.set_cons_zero, List.set_cons_succ, i64_w, i32_w]
                  rfl
                 refine take_ (i := 4) (N := some 115) (v := ?_) (a' := ?_) #[true, true, true, true, true, true, true, true, false, true, false, false] rfl rfl (take_ofW HT_.out HW_.out (by kernel_rfl)) (fun _ _ _ h => h) (Or.inl ⟨by rfl, ?_⟩) hHeld ?_ ?_
                 rotate_left
                 ·rintro w' ⟨s0, s1⟩
                  go_simp
                  with_reducible rfl
                 rotate_left
                 ·simp only [Act.put, List.setIfInBounds_toArray, List.set_cons_zero, List.set_cons_succ, i64_w, i32_w]
                  rfl
                 refine take_ (i := 8) (N := some 119) (v := ?_) (a' := ?_) #[true, true, true, true, true, true, true, true, true, true, false, false] rfl rfl (take_ofW HT_.out HW_.out (by kernel_rfl)) (fun _ _ _ h => h) (Or.inl ⟨by rfl, ?_⟩) hHeld ?_ ?_
                 rotate_left
                 ·rintro w' ⟨s0, s1⟩
                  go_simp
                  with_reducible rfl
                 rotate_left
                 ·simp only [Act.put, List.setIfInBounds_toArray, List.set_cons_zero, List.set_cons_succ, i64_w, i32_w]
                  rfl
                 refine one_ (i := 10) (N := some 121) #[true, true, true, true, true, true, true, true, true, true, true, false] rfl rfl (one_of HT_.out (by kernel_rfl)) (by decide) (fun K hK => ?_)
                 refine goes_ Tryd.func12 (by kernel_rfl) rfl #[.slice A254_0 (rd_L6 t234 (ji84)).length c254_0, .slice A255_0 (rd_L6 t234 x11_3).length c255_0, .slice A2 l2.length c2] (by rfl) rfl rfl (by (try simp only [List.map_toArray, List.map_cons, List.map_nil]); first | done | (simp only [hji84]; rfl) | rfl | (simp only [List.length_drop, List.length_take]; rfl)) ?_
                 with_reducible refine (order_Compare.calls kj55 _ _ (rd_L6 t234 (ji84)) _ _ (rd_L6 t234 x11_3) _ _ l2 t256 _ ?side1 ?side2 ?side3 ?side4 ?side5 ?side6 ?side7 A89.out).mono ?_
                 (case side1 => repeat (first | exact (by repeat (first | (with_reducible exact HR254_0.out) | (with_reducible refine Kd.C_alloc ?_ _) | (with_reducible refine Kd.C_drewN ?_ _) | (with_reducible refine Kd.C_drew ?_) | exact HR254_0.out)) | (with_reducible refine Kd.C_alloc ?_ _) | (with_reducible refine Kd.C_drewN ?_ _) | (with_reducible refine Kd.C_drew ?_)))
                 (case side2 => exact HC254_0.out)
                 (case side3 => repeat (first | exact (by repeat (first | (with_reducible exact HR255_0.out) | (with_reducible refine Kd.C_alloc ?_ _) | (with_reducible refine Kd.C_drewN ?_ _) | (with_reducible refine Kd.C_drew ?_) | exact HR255_0.out)) | (with_reducible refine Kd.C_alloc ?_ _) | (with_reducible refine Kd.C_drewN ?_ _) | (with_reducible refine Kd.C_drew ?_)))
                 (case side4 => exact HC255_0.out)
                 (case side5 => repeat (first | exact (Kd.C_below HR2.out HB.out) | (with_reducible refine Kd.C_alloc ?_ _) | (with_reducible refine Kd.C_drewN ?_ _) | (with_reducible refine Kd.C_drew ?_)))
                 (case side6 => exact HC2.out)
                 (case side7 => first | exact HT.out | exact Facts.below HT.out (mvB HB.out) | exact Facts.below HT.out HB.out | (repeat (first | exact HT.out | refine Facts.drewN ?_ _ | refine Facts.drew ?_ | refine Facts.alloc ?_ _)))
                 rintro e w114 ⟨rfl, hb⟩
                 have HS0_ := (hb.cell (World.block_lt_of_cell? _ _ (hHeld.1))).trans (hHeld.1)
                 have HS1_ := (hb.cell (World.block_lt_of_cell? _ _ (hHeld.2))).trans (hHeld.2)
                 refine ⟨_, rfl, ?_⟩
                 have n0_ := Aside0.mk (Kd.N_below (mvN HO_7.out) hb)
                 have n1_ := Aside0.mk (Kd.N_below (mvN HO_9.out) hb)
                 have n2_ := Aside0.mk (Kd.R_below (mvR HO_10.out) hb)
                 have n3_ := Aside0.mk (Kd.V_below (by (with_reducible repeat (first | apply Kd.V_alloc | apply Kd.V_drewN | apply Kd.V_drew)); exact HL254_0.out) hb)
                 have n4_ := Aside0.mk (Kd.V_below (by (with_reducible repeat (first | apply Kd.V_alloc | apply Kd.V_drewN | apply Kd.V_drew)); exact HL255_0.out) hb)
                 have n5_ := Aside0.mk (Kd.C_below (by repeat (first | (with_reducible exact HR254_0.out) | (with_reducible refine Kd.C_alloc ?_ _) | (with_reducible refine Kd.C_drewN ?_ _) | (with_reducible refine Kd.C_drew ?_) | exact HR254_0.out)) hb)
                 have n6_ := Aside0.mk (Kd.C_below (by repeat (first | (with_reducible exact HR255_0.out) | (with_reducible refine Kd.C_alloc ?_ _) | (with_reducible refine Kd.C_drewN ?_ _) | (with_reducible refine Kd.C_drew ?_) | exact HR255_0.out)) hb)
                 have n7_ := Aside0.mk (below_step (mvB HB.out) hb)
                 clear HO_7
                 clear HO_9
                 clear HO_10
                 clear HL254_0
                 clear HL255_0
                 clear HR254_0
                 clear HR255_0
                 clear HB
                 have HO_7 := n0_
                 have HO_9 := n1_
                 have HO_10 := n2_
                 have HL254_0 := n3_
                 have HL255_0 := n4_
                 have HR254_0 := n5_
                 have HR255_0 := n6_
                 have HB := n7_
                 clear n0_ n1_ n2_ n3_ n4_ n5_ n6_ n7_
                 (try clear hb)
                 (try clear hb2)
                 (try clear hk)
                 (try clear hi)
                 refine hK.out _ _ ⟨HS0_, HS1_⟩ (fun hHeld => ?_)
                 clear hK K
                 refine norm_ (a' := ?_) ?_ ?_
                 rotate_left
                 ·show Act.put _ (some 121) _ = _
                  simp only [Act.put, List.setIfInBounds_toArray, List.set_cons_zero, List.set_cons_succ, i64_w, i32_w]
                  rfl
                 refine pure_ (i := 11) (N := some 13) (v := ?_) (a' := ?_) #[true, true, true, true, true, true, true, true, true, true, true, true] rfl rfl (any_of HT_.out (by kernel_rfl)) (fun _ _ _ h => h) (Or.inl ⟨by rfl, ?_⟩) ?_ ?_
                 rotate_left
                 ·intro w'
                  go_simp
                  with_reducible rfl
                 rotate_left
                 ·simp only [Act.put, List.setIfInBounds_toArray, List.set_cons_zero, List.set_cons_succ, i64_w, i32_w]
                  rfl
                 refine done_ (done_of HT_.out (by kernel_rfl)) ?_
                 try go_wp2
                 have n0_ := Aside0.mk (Kd.N_drew HO_7.out)
                 have n1_ := Aside0.mk (Kd.N_drew HO_9.out)
                 have n2_ := Aside0.mk (Kd.R_drew HO_10.out)
                 have n3_ := Aside0.mk (Kd.V_drew HL254_0.out)
                 have n4_ := Aside0.mk (Kd.V_drew HL255_0.out)
                 have n5_ := Aside0.mk (Kd.C_drew HR254_0.out)
                 have n6_ := Aside0.mk (Kd.C_drew HR255_0.out)
                 have n7_ := Aside0.mk (below_drew1 HB.out)
                 clear HO_7
                 clear HO_9
                 clear HO_10
                 clear HL254_0
                 clear HL255_0
                 clear HR254_0
                 clear HR255_0
                 clear HB
                 have HO_7 := n0_
                 have HO_9 := n1_
                 have HO_10 := n2_
                 have HL254_0 := n3_
                 have HL255_0 := n4_
                 have HR254_0 := n5_
                 have HR255_0 := n6_
                 have HB := n7_
                 clear n0_ n1_ n2_ n3_ n4_ n5_ n6_ n7_
                 refine start_ (n := 26) (S := fun w' => True) (ds := []) #[false, false, false, false, false, false, false, false, false, false, false, false, false, false, false, false, false, false, false, false, false, false, false, false, false, false] (by kernel_rfl) rfl rfl trivial (fun hHeld => ?_); refine with_tabW hopperlaw24_OrderStable.tab21 hopperlaw24_OrderStable.bits21 (fun HT_ HW_ => ?_)
                 generalize w114.drew = w115 at HO_7 HO_9 HO_10 HL254_0 HL255_0 HR254_0 HR255_0 HB hHeld ⊢
                 refine pure_ (i := 0) (N := some 122) (v := ?_) (a' := ?_) #[true, false, false, false, false, false, false, false, false, false, false, false, false, false, false, false, false, false, false, false, false, false, false, false, false, false] rfl rfl (any_of HT_.out (by kernel_rfl)) (fun _ _ _ h => h) (Or.inl ⟨by rfl, ?_⟩) ?_ ?_
                 rotate_left
                 ·intro w'
                  go_simp
                  with_reducible rfl
                 rotate_left
                 ·simp only [Act.put, List.setIfInBounds_toArray, List.set_cons_zero, List.set_cons_succ, i64_w, i32_w]
                  rfl
                 refine pure_ (i := 1) (N := some 123) (v := ?_) (a' := ?_) #[true, true, false, false, false, false, false, false, false, false, false, false, false, false, false, false, false, false, false, false, false, false, false, false, false, false] rfl rfl (any_of HT_.out (by kernel_rfl)) (fun _ _ _ h => h) (Or.inl ⟨by rfl, ?_⟩) ?_ ?_
                 rotate_left
                 ·intro w'
                  go_simp
                  with_reducible rfl
                 rotate_left
                 ·simp only [Act.put, List.setIfInBounds_toArray, List.set_cons_zero, List.set_cons_succ, i64_w, i32_w]
                  rfl
                 refine pure_ (i := 2) (N := some 124) (v := ?_) (a' := ?_) #[true, true, true, false, false, false, false, false, false, false, false, false, false, false, false, false, false, false, false, false, false, false, false, false, false, false] rfl rfl (any_of HT_.out (by kernel_rfl)) (fun _ _ _ h => h) (Or.inl ⟨by rfl, ?_⟩) ?_ ?_
                 rotate_left
                 ·intro w'
                  go_simp
                  with_reducible rfl
                 rotate_left
                 ·simp only [Act.put, List.setIfInBounds_toArray, List.set_cons_zero, List.set_cons_succ, i64_w, i32_w]
                  rfl
                 refine pure_ (i := 3) (N := some 125) (v := ?_) (a' := ?_) #[true, true, true, true, false, false, false, false, false, false, false, false, false, false, false, false, false, false, false, false, false, false, false, false, false, false] rfl rfl (any_of HT_.out (by kernel_rfl)) (fun _ _ _ h => h) (Or.inl ⟨by rfl, ?_⟩) ?_ ?_
                 rotate_left
                 ·intro w'
                  go_simp
                  with_reducible rfl
                 rotate_left
                 ·simp only [Act.put, List.setIfInBounds_toArray, List.set_cons_zero, List.set_cons_succ, i64_w, i32_w]
                  rfl
                 refine pure_ (i := 4) (N := some 126) (v := ?_) (a' := ?_) #[true, true, true, true, true, false, false, false, false, false, false, false, false, false, false, false, false, false, false, false, false, false, false, false, false, false] rfl rfl (any_of HT_.out (by kernel_rfl)) (fun _ _ _ h => h) (Or.inl ⟨by rfl, ?_⟩) ?_ ?_
                 rotate_left
                 ·intro w'
                  go_simp
                  with_reducible rfl
                 rotate_left
                 ·simp only [Act.put, List.setIfInBounds_toArray, List.set_cons_zero, List.set_cons_succ, i64_w, i32_w]
                  rfl
                 refine pure_ (i := 5) (N := some 127) (v := ?_) (a' := ?_) #[true, true, true, true, true, true, false, false, false, false, false, false, false, false, false, false, false, false, false, false, false, false, false, false, false, false] rfl rfl (any_of HT_.out (by kernel_rfl)) (fun _ _ _ h => h) (Or.inl ⟨by rfl, ?_⟩) ?_ ?_
                 rotate_left
                 ·intro w'
                  go_simp
                  with_reducible rfl
                 rotate_left
                 ·simp only [Act.put, List.setIfInBounds_toArray, List.set_cons_zero, List.set_cons_succ, i64_w, i32_w]
                  rfl
                 refine pure_ (i := 6) (N := some 128) (v := undef) (a' := ?_) #[true, true, true, true, true, true, true, false, false, false, false, false, false, false, false, false, false, false, false, false, false, false, false, false, false, false] rfl rfl (any_of HT_.out (by kernel_rfl)) (fun _ _ _ h => h) (Or.inr ⟨by rfl, rfl⟩) ?_ ?_
                 rotate_left
                 ·simp only [Act.put, List.setIfInBounds_toArray, List.set_cons_zero, List.set_cons_succ, i64_w, i32_w]
                  rfl
                 refine pure_ (i := 7) (N := some 129) (v := undef) (a' := ?_) #[true, true, true, true, true, true, true, true, false, false, false, false, false, false, false, false, false, false, false, false, false, false, false, false, false, false] rfl rfl (any_of HT_.out (by kernel_rfl)) (fun _ _ _ h => h) (Or.inr ⟨by rfl, rfl⟩) ?_ ?_
                 rotate_left
                 ·simp only [Act.put, List.setIfInBounds_toArray, List.set_cons_zero, List.set_cons_succ, i64_w, i32_w]
                  rfl
                 refine pure_ (i := 8) (N := some 130) (v := undef) (a' := ?_) #[true, true, true, true, true, true, true, true, true, false, false, false, false, false, false, false, false, false, false, false, false, false, false, false, false, false] rfl rfl (any_of HT_.out (by kernel_rfl)) (fun _ _ _ h => h) (Or.inr ⟨by rfl, rfl⟩) ?_ ?_
                 rotate_left
                 ·simp only [Act.put, List.setIfInBounds_toArray, List.set_cons_zero, List.set_cons_succ, i64_w, i32_w]
                  rfl
                 refine pure_ (i := 9) (N := some 131) (v := undef) (a' := ?_) #[true, true, true, true, true, true, true, true, true, true, false, false, false, false, false, false, false, false, false, false, false, false, false, false, false, false] rfl rfl (any_of HT_.out (by kernel_rfl)) (fun _ _ _ h => h) (Or.inr ⟨by rfl, rfl⟩) ?_ ?_
                 rotate_left
                 ·simp only [Act.put, List.setIfInBounds_toArray, List.set_cons_zero, List.set_cons_succ, i64_w, i32_w]
                  rfl
                 refine pure_ (i := 10) (N := some 132) (v := undef) (a' := ?_) #[true, true, true, true, true, true, true, true, true, true, true, false, false, false, false, false, false, false, false, false, false, false, false, false, false, false] rfl rfl (any_of HT_.out (by kernel_rfl)) (fun _ _ _ h => h) (Or.inr ⟨by rfl, rfl⟩) ?_ ?_
                 rotate_left
                 ·simp only [Act.put, List.setIfInBounds_toArray, List.set_cons_zero, List.set_cons_succ, i64_w, i32_w]
                  rfl
                 refine pure_ (i := 11) (N := some 133) (v := undef) (a' := ?_) #[true, true, true, true, true, true, true, true, true, true, true, true, false, false, false, false, false, false, false, false, false, false, false, false, false, false] rfl rfl (any_of HT_.out (by kernel_rfl)) (fun _ _ _ h => h) (Or.inr ⟨by rfl, rfl⟩) ?_ ?_
                 rotate_left
                 ·simp only [Act.put, List.setIfInBounds_toArray, List.set_cons_zero, List.set_cons_succ, i64_w, i32_w]
                  rfl
                 refine pure_ (i := 12) (N := some 134) (v := undef) (a' := ?_) #[true, true, true, true, true, true, true, true, true, true, true, true, true, false, false, false, false, false, false, false, false, false, false, false, false, false] rfl rfl (any_of HT_.out (by kernel_rfl)) (fun _ _ _ h => h) (Or.inr ⟨by rfl, rfl⟩) ?_ ?_
                 rotate_left
                 ·simp only [Act.put, List.setIfInBounds_toArray, List.set_cons_zero, List.set_cons_succ, i64_w, i32_w]
                  rfl
                 refine pure_ (i := 13) (N := some 135) (v := undef) (a' := ?_) #[true, true, true, true, true, true, true, true, true, true, true, true, true, true, false, false, false, false, false, false, false, false, false, false, false, false] rfl rfl (any_of HT_.out (by kernel_rfl)) (fun _ _ _ h => h) (Or.inr ⟨by rfl, rfl⟩) ?_ ?_
                 rotate_left
                 ·simp only [Act.put, List.setIfInBounds_toArray, List.set_cons_zero, List.set_cons_succ, i64_w, i32_w]
                  rfl
                 refine pure_ (i := 14) (N := some 136) (v := undef) (a' := ?_) #[true, true, true, true, true, true, true, true, true, true, true, true, true, true, true, false, false, false, false, false, false, false, false, false, false, false] rfl rfl (any_of HT_.out (by kernel_rfl)) (fun _ _ _ h => h) (Or.inr ⟨by rfl, rfl⟩) ?_ ?_
                 rotate_left
                 ·simp only [Act.put, List.setIfInBounds_toArray, List.set_cons_zero, List.set_cons_succ, i64_w, i32_w]
                  rfl
                 refine pure_ (i := 15) (N := some 137) (v := undef) (a' := ?_) #[true, true, true, true, true, true, true, true, true, true, true, true, true, true, true, true, false, false, false, false, false, false, false, false, false, false] rfl rfl (any_of HT_.out (by kernel_rfl)) (fun _ _ _ h => h) (Or.inr ⟨by rfl, rfl⟩) ?_ ?_
                 rotate_left
                 ·simp only [Act.put, List.setIfInBounds_toArray, List.set_cons_zero, List.set_cons_succ, i64_w, i32_w]
                  rfl
                 refine pure_ (i := 16) (N := some 138) (v := undef) (a' := ?_) #[true, true, true, true, true, true, true, true, true, true, true, true, true, true, true, true, true, false, false, false, false, false, false, false, false, false] rfl rfl (any_of HT_.out (by kernel_rfl)) (fun _ _ _ h => h) (Or.inr ⟨by rfl, rfl⟩) ?_ ?_
                 rotate_left
                 ·simp only [Act.put, List.setIfInBounds_toArray, List.set_cons_zero, List.set_cons_succ, i64_w, i32_w]
                  rfl
                 refine pure_ (i := 17) (N := some 139) (v := undef) (a' := ?_) #[true, true, true, true, true, true, true, true, true, true, true, true, true, true, true, true, true, true, false, false, false, false, false, false, false, false] rfl rfl (any_of HT_.out (by kernel_rfl)) (fun _ _ _ h => h) (Or.inr ⟨by rfl, rfl⟩) ?_ ?_
                 rotate_left
                 ·simp only [Act.put, List.setIfInBounds_toArray, List.set_cons_zero, List.set_cons_succ, i64_w, i32_w]
                  rfl
                 refine pure_ (i := 18) (N := some 140) (v := undef) (a' := ?_) #[true, true, true, true, true, true, true, true, true, true, true, true, true, true, true, true, true, true, true, false, false, false, false, false, false, false] rfl rfl (any_of HT_.out (by kernel_rfl)) (fun _ _ _ h => h) (Or.inr ⟨by rfl, rfl⟩) ?_ ?_
                 rotate_left
                 ·simp only [Act.put, List.setIfInBounds_toArray, List.set_cons_zero, List.set_cons_succ, i64_w, i32_w]
                  rfl
                 refine pure_ (i := 19) (N := some 141) (v := undef) (a' := ?_) #[true, true, true, true, true, true, true, true, true, true, true, true, true, true, true, true, true, true, true, true, false, false, false, false, false, false] rfl rfl (any_of HT_.out (by kernel_rfl)) (fun _ _ _ h => h) (Or.inr ⟨by rfl, rfl⟩) ?_ ?_
                 rotate_left
                 ·simp only [Act.put, List.setIfInBounds_toArray, List.set_cons_zero, List.set_cons_succ, i64_w, i32_w]
                  rfl
                 refine pure_ (i := 20) (N := some 142) (v := undef) (a' := ?_) #[true, true, true, true, true, true, true, true, true, true, true, true, true, true, true, true, true, true, true, true, true, false, false, false, false, false] rfl rfl (any_of HT_.out (by kernel_rfl)) (fun _ _ _ h => h) (Or.inr ⟨by rfl, rfl⟩) ?_ ?_
                 rotate_left
                 ·simp only [Act.put, List.setIfInBounds_toArray, List.set_cons_zero, List.set_cons_succ, i64_w, i32_w]
                  rfl
                 refine pure_ (i := 21) (N := some 143) (v := undef) (a' := ?_) #[true, true, true, true, true, true, true, true, true, true, true, true, true, true, true, true, true, true, true, true, true, true, false, false, false, false] rfl rfl (any_of HT_.out (by kernel_rfl)) (fun _ _ _ h => h) (Or.inr ⟨by rfl, rfl⟩) ?_ ?_
                 rotate_left
                 ·simp only [Act.put, List.setIfInBounds_toArray, List.set_cons_zero, List.set_cons_succ, i64_w, i32_w]
                  rfl
                 refine pure_ (i := 22) (N := some 144) (v := undef) (a' := ?_) #[true, true, true, true, true, true, true, true, true, true, true, true, true, true, true, true, true, true, true, true, true, true, true, false, false, false] rfl rfl (any_of HT_.out (by kernel_rfl)) (fun _ _ _ h => h) (Or.inr ⟨by rfl, rfl⟩) ?_ ?_
                 rotate_left
                 ·simp only [Act.put, List.setIfInBounds_toArray, List.set_cons_zero, List.set_cons_succ, i64_w, i32_w]
                  rfl
                 refine pure_ (i := 23) (N := some 145) (v := undef) (a' := ?_) #[true, true, true, true, true, true, true, true, true, true, true, true, true, true, true, true, true, true, true, true, true, true, true, true, false, false] rfl rfl (any_of HT_.out (by kernel_rfl)) (fun _ _ _ h => h) (Or.inr ⟨by rfl, rfl⟩) ?_ ?_
                 rotate_left
                 ·simp only [Act.put, List.setIfInBounds_toArray, List.set_cons_zero, List.set_cons_succ, i64_w, i32_w]
                  rfl
                 refine pure_ (i := 24) (N := some 146) (v := ?_) (a' := ?_) #[true, true, true, true, true, true, true, true, true, true, true, true, true, true, true, true, true, true, true, true, true, true, true, true, true, false] rfl rfl (any_of HT_.out (by kernel_rfl)) (fun _ _ _ h => h) (Or.inl ⟨by rfl, ?_⟩) ?_ ?_
                 rotate_left
                 ·intro w'
                  go_simp
                  with_reducible rfl
                 rotate_left
                 ·simp only [Act.put, List.setIfInBounds_toArray, List.set_cons_zero, List.set_cons_succ, i64_w, i32_w]
                  rfl
                 refine pure_ (i := 25) (N := some 147) (v := ?_) (a' := ?_) #[true, true, true, true, true, true, true, true, true, true, true, true, true, true, true, true, true, true, true, true, true, true, true, true, true, true] rfl rfl (any_of HT_.out (by kernel_rfl)) (fun _ _ _ h => h) (Or.inl ⟨by rfl, ?_⟩) ?_ ?_
                 rotate_left
                 ·intro w'
                  go_simp
                  with_reducible rfl
                 rotate_left
                 ·simp only [Act.put, List.setIfInBounds_toArray, List.set_cons_zero, List.set_cons_succ, i64_w, i32_w]
                  rfl
                 refine done_ (done_of HT_.out (by kernel_rfl)) ?_
                 try go_wp2
                 go_roundg kj55
                 case measure => have := HJ3.out; have := HK2.out; have := HK3.out; have := HJ55.out; omega
                 case rel => exact ⟨(y253), (wrap64 (x11_3 + 1)), (by first | rfl | (simp; done) | (simp [*]; done)), (by first | exact H' | (rw [← Nbq62.out]; exact H')), ⟨by have := HJ3.out; have := HK2.out; have := HK3.out; have := HJ55.out; omega⟩, ⟨by (with_reducible repeat (first | apply Kd.N_alloc | apply Kd.N_drewN | apply Kd.N_drew)); exact HO_7.out⟩, ⟨by (with_reducible repeat (first | apply Kd.N_alloc | apply Kd.N_drewN | apply Kd.N_drew)); exact HO_9.out⟩, ⟨by (with_reducible repeat (first | apply Kd.R_alloc | apply Kd.R_drewN | apply Kd.R_drew)); exact HO_10.out⟩, ⟨by repeat (first | (with_reducible first | exact HB.out | apply below_alloc | apply pw_below_drewN | apply below_drew1) | exact HB.out)⟩⟩
          ·rw [if_neg c50] at H
           have c50b0 : decide (x11_3 < (t234.length : Int)) = false := decide_eq_false c50
           clear c50
           replace H := Option.bind_eq_some_iff.mp H
           obtain ⟨t261, A1160, H⟩ := H
           replace H : ((hopperref18_Same.f k3 t261 t234).bind fun t264 => (if t264 = true then ((order_Rows.f k3 l0 ([] : List (S39))).bind fun t265 => ((hopperref18_Same.f k3 t265 l0).bind fun t268 => (some t268))) else (none))) = some r := H
           have A116 := Aside0.mk A1160
           clear A1160
           replace H := Option.bind_eq_some_iff.mp H
           obtain ⟨t264, A1170, H⟩ := H
           replace H : (if t264 = true then ((order_Rows.f k3 l0 ([] : List (S39))).bind fun t265 => ((hopperref18_Same.f k3 t265 l0).bind fun t268 => (some t268))) else (none)) = some r := H
           have A117 := Aside0.mk A1170
           clear A1170
           by_cases c118 : t264 = true
           ·subst c118
            have H1 : ((order_Rows.f k3 l0 ([] : List (S39))).bind fun t265 => ((hopperref18_Same.f k3 t265 l0).bind fun t268 => (some t268))) = some r := by rw [if_pos rfl] at H; exact H
            clear H
            have H := H1
            clear H1
            replace H := Option.bind_eq_some_iff.mp H
            obtain ⟨t265, A1190, H⟩ := H
            replace H : ((hopperref18_Same.f k3 t265 l0).bind fun t268 => (some t268)) = some r := H
            have A119 := Aside0.mk A1190
            clear A1190
            replace H := Option.bind_eq_some_iff.mp H
            obtain ⟨t268, A1200, H⟩ := H
            replace H : (some t268) = some r := H
            have A120 := Aside0.mk A1200
            clear A1200
            obtain rfl := Option.some.inj H
            go_wp2_with (first | ((with_reducible refine gate_callee (f := 15) rfl ?_); refine goesL_ (some 150) rfl rfl Tryd.func15 (by kernel_rfl) rfl #[.slice Ao47 t234.length co47, .slice A2 l2.length c2] rfl (by (try simp only [List.map_toArray, List.map_cons, List.map_nil]); first | done | rfl | (simp only [List.length_drop, List.length_take]; rfl)) ?_; (with_reducible refine (order_Rows.calls k3 _ _ t234 _ _ l2 t261 _ ?side1 ?side2 ?side3 ?side4 ?side5 A116.out).mono ?_); (case side1 => repeat (first | exact (Kd.N_reads' HO_9.out).2.2 | (with_reducible refine Kd.C_alloc ?_ _) | (with_reducible refine Kd.C_drewN ?_ _) | (with_reducible refine Kd.C_drew ?_))); (case side2 => exact (Kd.N_reads' HO_9.out).2.1); (case side3 => repeat (first | exact (Kd.C_below HR2.out HB.out) | (with_reducible refine Kd.C_alloc ?_ _) | (with_reducible refine Kd.C_drewN ?_ _) | (with_reducible refine Kd.C_drew ?_))); (case side4 => exact HC2.out); (case side5 => first | exact HT.out | exact Facts.below HT.out (mvB HB.out) | exact Facts.below HT.out HB.out | (repeat (first | exact HT.out | refine Facts.drewN ?_ _ | refine Facts.drew ?_ | refine Facts.alloc ?_ _))); rintro e w121 ⟨v262, rfl, ho0, hb⟩; refine ⟨_, rfl, ?_⟩; have n0_ := Aside0.mk (Kd.N_elder' (mvN HO_7.out) (by first | exact Kd.N_base ho0 | exact Kd.S_base ho0 | exact Kd.R_base ho0) hb); have n1_ := Aside0.mk (Kd.N_elder' (mvN HO_9.out) (by first | exact Kd.N_base ho0 | exact Kd.S_base ho0 | exact Kd.R_base ho0) hb); have n2_ := Aside0.mk (Kd.R_below (mvR HO_10.out) hb); have n3_ := Aside0.mk (Kd.N_lower (Kd.N_mono (ok' := fun k_ => some k_ ≠ (.slice Ao45 x7_2.length co45 : Value).ownBlock ∧ some k_ ≠ (.slice Ao47 t234.length co47 : Value).ownBlock ∧ some k_ ≠ (v238 : Value).ownBlock) (Kd.S_N (Kd.S_bound ho0)) (fun k_ hk_ => ⟨(Kd.fresh' (Kd.N_lt (mvN HO_7.out)) k_ hk_.2.1), (Kd.fresh' (Kd.N_lt (mvN HO_9.out)) k_ hk_.2.1), (Kd.fresh' (Kd.R_lt (mvR HO_10.out)) k_ hk_.2.1)⟩)) (below_size (mvB HB.out))); have n4_ := Aside0.mk (below_step (mvB HB.out) hb); clear HO_7; clear HO_9; clear HO_10; clear HB; have HO_7 := n0_; have HO_9 := n1_; have HO_10 := n2_; have HO263 := n3_; have HB := n4_; clear n0_ n1_ n2_ n3_ n4_; (try clear hb); (try clear hb2); (try clear hk); (try clear hi); (try clear ho0); obtain ⟨Ao122, co122, eo122⟩ := Kd.N_slice HO263.out; subst eo122) | ((with_reducible refine gate_callee (f := 14) rfl ?_); refine goesL_ (some 152) rfl rfl Tryd.func14 (by kernel_rfl) rfl #[.slice Ao122 t261.length co122, .slice Ao47 t234.length co47] rfl (by (try simp only [List.map_toArray, List.map_cons, List.map_nil]); first | done | rfl | (simp only [List.length_drop, List.length_take]; rfl)) ?_; (with_reducible refine (hopperref18_Same.calls k3 _ _ t261 _ _ t234 true _ ?side1 ?side2 ?side3 ?side4 A117.out).mono ?_); (case side1 => repeat (first | exact (Kd.N_reads' HO263.out).2.2 | (with_reducible refine Kd.C_alloc ?_ _) | (with_reducible refine Kd.C_drewN ?_ _) | (with_reducible refine Kd.C_drew ?_))); (case side2 => exact (Kd.N_reads' HO263.out).2.1); (case side3 => repeat (first | exact (Kd.N_reads' HO_9.out).2.2 | (with_reducible refine Kd.C_alloc ?_ _) | (with_reducible refine Kd.C_drewN ?_ _) | (with_reducible refine Kd.C_drew ?_))); (case side4 => exact (Kd.N_reads' HO_9.out).2.1); rintro e w' ⟨rfl, ⟨nd, rfl⟩⟩; refine ⟨_, rfl, ?_⟩) | (go_at_call 15; (refine (order_Rows.calls k3 _ _ l0 _ _ ([] : List (S39)) t265 _ ?side1 ?side2 ?side3 ?side4 ?side5 A119.out).mono ?_); (case side1 => repeat (first | exact (Kd.C_below HR0.out (mvB HB.out)) | (with_reducible refine Kd.C_alloc ?_ _) | (with_reducible refine Kd.C_drewN ?_ _) | (with_reducible refine Kd.C_drew ?_))); (case side2 => exact HC0.out); (case side3 => exact Kd.C_nil _ _); (case side4 => exact Nat.le_refl _); (case side5 => first | exact HT.out | exact Facts.below HT.out (mvB HB.out) | exact Facts.below HT.out HB.out | (repeat (first | exact HT.out | refine Facts.drewN ?_ _ | refine Facts.drew ?_ | refine Facts.alloc ?_ _))); rintro e w123 ⟨v266, rfl, ho0, hb⟩; have n0_ := Aside0.mk (Kd.N_elder' (mvN HO_7.out) (by first | exact Kd.N_base ho0 | exact Kd.S_base ho0 | exact Kd.R_base ho0) hb); have n1_ := Aside0.mk (Kd.N_elder' (mvN HO_9.out) (by first | exact Kd.N_base ho0 | exact Kd.S_base ho0 | exact Kd.R_base ho0) hb); have n2_ := Aside0.mk (Kd.R_below (mvR HO_10.out) hb); have n3_ := Aside0.mk (Kd.N_elder' (mvN HO263.out) (by first | exact Kd.N_base ho0 | exact Kd.S_base ho0 | exact Kd.R_base ho0) hb); have n4_ := Aside0.mk (Kd.N_lower (Kd.N_mono (ok' := fun k_ => some k_ ≠ (.slice Ao45 x7_2.length co45 : Value).ownBlock ∧ some k_ ≠ (.slice Ao47 t234.length co47 : Value).ownBlock ∧ some k_ ≠ (v238 : Value).ownBlock ∧ some k_ ≠ (.slice Ao122 t261.length co122 : Value).ownBlock) (Kd.S_N (Kd.S_bound ho0)) (fun k_ hk_ => ⟨(Kd.fresh' (Kd.N_lt (mvN HO_7.out)) k_ hk_.2.1), (Kd.fresh' (Kd.N_lt (mvN HO_9.out)) k_ hk_.2.1), (Kd.fresh' (Kd.R_lt (mvR HO_10.out)) k_ hk_.2.1), (Kd.fresh' (Kd.N_lt (mvN HO263.out)) k_ hk_.2.1)⟩)) (below_size (mvB HB.out))); have n5_ := Aside0.mk (below_step (mvB HB.out) hb); clear HO_7; clear HO_9; clear HO_10; clear HO263; clear HB; have HO_7 := n0_; have HO_9 := n1_; have HO_10 := n2_; have HO263 := n3_; have HO267 := n4_; have HB := n5_; clear n0_ n1_ n2_ n3_ n4_ n5_; (try clear hb); (try clear hb2); (try clear hk); (try clear hi); (try clear ho0); obtain ⟨Ao124, co124, eo124⟩ := Kd.N_slice HO267.out; subst eo124) | (go_at_call 14; (with_reducible refine (hopperref18_Same.calls k3 _ _ t265 _ _ l0 t268 _ ?side1 ?side2 ?side3 ?side4 A120.out).mono ?_); (case side1 => repeat (first | exact (Kd.N_reads' HO267.out).2.2 | (with_reducible refine Kd.C_alloc ?_ _) | (with_reducible refine Kd.C_drewN ?_ _) | (with_reducible refine Kd.C_drew ?_))); (case side2 => exact (Kd.N_reads' HO267.out).2.1); (case side3 => repeat (first | exact (Kd.C_below HR0.out HB.out) | (with_reducible refine Kd.C_alloc ?_ _) | (with_reducible refine Kd.C_drewN ?_ _) | (with_reducible refine Kd.C_drew ?_))); (case side4 => exact HC0.out); rintro e w' ⟨rfl, ⟨nd, rfl⟩⟩))
            go_ret
            exact ⟨by first | rfl | (simp [errW_none, errW_some] <;> rfl) | (simp [*, errW_none, errW_some] <;> rfl) | exact congrArg (fun b_ => Ending.returned (.bool b_)) (decide_eq_decide.2 (by unfold wrap64; omega)), by repeat (first | (with_reducible first | exact HB.out | apply below_alloc | apply pw_below_drewN | apply below_drew1) | exact HB.out)⟩
           ·replace c118 := Bool.eq_false_iff.mpr c118
            subst c118
            have H1 : (none) = some r := by rw [if_neg (show ¬ (false = true) by decide)] at H; exact H
            clear H
            have H := H1
            clear H1
            cases H
       ·rw [if_neg c42] at H
        have c42b0 : ((t234.length : Int) == (x7_2.length : Int)) = false := beq_eq_false_iff_ne.mpr c42
        have c42b1 : ((t234.length : Int) != (x7_2.length : Int)) = true := bne_iff_ne.mpr c42
        have c42b2 : (t234.length == x7_2.length) = false := by first | simpa using c42 | (simp at c42 ⊢; omega)
        cases H
/-- THE ONE PURE STATEMENT of hopperlaw24_OrderStable: yours. -/
def hopperlaw24_OrderStable.Pure : Prop := ∀ (l0 : List (List (S36))) (a1 : Int) (l2 : List (S39)), (WfSl (WfSl Wf36)) l0 → (fun x_ : Int => (Lit.int .i64 x_).wf = true) a1 → (WfSl Wf39) l2 → ∃ k, hopperlaw24_OrderStable.f k l0 a1 l2 = some true

end Go.Proofs.YtdojgfkcpaeacaaDoor.Q
