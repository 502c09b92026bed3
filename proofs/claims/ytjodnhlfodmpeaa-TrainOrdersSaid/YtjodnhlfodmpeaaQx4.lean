-- PRINTED by print.py (a twelfth state) out of the translation. Not trusted: Lean checks it.
import Derived.Test.YtjodnhlfodmpeaaQx0
import Derived.Test.YtjodnhlfodmpeaaQx1
import Derived.Test.YtjodnhlfodmpeaaQx3
namespace Go.Proofs.Ytjodnhlfodmpeaa.Q
open Go.RowKit Go.Proofs.YtjodnhlfodmpeaaW.PrintWords Go.Proofs.YtjodnhlfodmpeaaW.PrintLast Go.Proofs.YtjodnhlfodmpeaaW.PrintMore
attribute [local go_sem] str_gtr str_geq str_leq max2_int min2_int max_two min_two max_three min_three max_four min_four
set_option linter.unusedVariables false
set_option maxHeartbeats 8000000
set_option maxRecDepth 100000
set_option linter.unusedSimpArgs false

/-! ### hopperref12_Few: function 14 -/
mutual
def hopperref12_Few.l0 : Nat → List ByteArray → Int → Int → Option (Bool)
 | 0, _, _, _ => none
 | k + 1, x0, x3, x4 => if x4 < (x0.length : Int) then (hopperref12_Few.j1 k x0 x3 x4 (decide (x4 < 100))) else (hopperref12_Few.j1 k x0 x3 x4 false)
def hopperref12_Few.j1 : Nat → List ByteArray → Int → Int → Bool → Option (Bool)
 | 0, _, _, _, _ => none
 | k + 1, x0, x3, x4, x12 => if x12 = true then (if 0 ≤ x4 then (if x4 < (x0.length : Int) then (if (wrap64 (x3 + ((rdOf ByteArray.empty x0 x4).size : Int))) > 600 then (some false) else (hopperref12_Few.l0 k x0 (wrap64 (x3 + ((rdOf ByteArray.empty x0 x4).size : Int))) (wrap64 (x4 + 1)))) else (none)) else (none)) else (some (decide ((x0.length : Int) ≤ 60)))
end
def hopperref12_Few.f (k : Nat) (l0 : List ByteArray) : Option (Bool) := hopperref12_Few.l0 k l0 0 0
theorem hopperref12_Few.calls (k : Nat) (A0 : Option Addr) (c0 : Nat) (l0 : List ByteArray) (r : Bool) (w : World) (hr0 : Kd.C Kd.string w A0 l0.length l0) (hc0 : l0.length ≤ c0) (h : hopperref12_Few.f k l0 = some r) :
  Calls Try.prog 14 #[.slice A0 l0.length c0] w fun e w' => e = .returned (.bool r) ∧ Drawn0 w w' := by
 have HR0 := Aside0.mk hr0; have HC0 := Aside0.mk hc0; clear hr0 hc0; have H : (hopperref12_Few.l0 k l0 0 0) = some r := h; clear h; have H' := Aside0.mk H
 clear H; go_enter Try.func14, Try.ntmps14
 go_wp2
 go_loopg [3, 4] k (fun kq v3 v4 w' => ∃ (x3_1 : Int) (x4_1 : Int), v3 = .int .i64 x3_1 ∧ v4 = .int .i64 x4_1 ∧ Aside0 (hopperref12_Few.l0 kq l0 x3_1 x4_1 = some r) ∧ Aside0 (kq ≤ k) ∧ Drawn0 w w')
 case atStart => exact ⟨(0), (0), (by first | rfl | (simp; done) | (simp [*]; done)), (by first | rfl | (simp; done) | (simp [*]; done)), H', ⟨Nat.le_refl _⟩, by repeat (first | exact Drawn0.refl _ | apply Drawn0.step)⟩
 case round =>
  clear H'; try clear c1
  obtain ⟨x3_1, x4_1, rfl, rfl, HA, HK1, ⟨m1, rfl⟩⟩ := hrel
  cases gk with
  | zero => exact absurd HA.out (by simp [hopperref12_Few.l0])
  | succ k1 =>
   have H := HA.out; clear HA; simp only [hopperref12_Few.l0] at H
   have HC2 := Aside0.mk H; clear H; go_upto_region 3 with (fail)
   go_cut [12] (fun v12 wc => ∃ (kq : Nat) (x12_1 : Bool), v12 = .bool x12_1 ∧ Aside0 (hopperref12_Few.j1 kq l0 x3_1 x4_1 x12_1 = some r) ∧ Aside0 (kq ≤ k1) ∧ Drawn0 w wc)
   case first =>
    have H := HC2.out; clear HC2; by_cases c3 : x4_1 < (l0.length : Int)
    ·rw [if_pos c3] at H; have c3b0 : decide (x4_1 < (l0.length : Int)) = true := decide_eq_true c3; clear c3; (first | rw [c3b0] | (simp only [i64_w, i32_w]; rw [c3b0]) | skip)
     have H' := Aside0.mk H
     clear H; go_wp2
     go_meet
     case rel => exact ⟨_, (decide (x4_1 < 100)), (by first | rfl | (simp; done) | (simp [*]; done)), H', ⟨by have := HK1.out; first | omega | exact Nat.le_refl _⟩, by repeat (first | exact Drawn0.refl _ | apply Drawn0.step)⟩
    ·rw [if_neg c3] at H; have c3b0 : decide (x4_1 < (l0.length : Int)) = false := decide_eq_false c3; clear c3; (first | rw [c3b0] | (simp only [i64_w, i32_w]; rw [c3b0]) | skip)
     have H' := Aside0.mk H
     clear H; go_wp2
     go_meet
     case rel => exact ⟨_, (false), (by first | rfl | (simp; done) | (simp [*]; done)), H', ⟨by have := HK1.out; first | omega | exact Nat.le_refl _⟩, by repeat (first | exact Drawn0.refl _ | apply Drawn0.step)⟩
   case rest =>
    clear HC2; (try clear c1); (try clear p2); (try clear c3); (try clear c3b0); obtain ⟨kq, x12_1, rfl, HA, HJ1, ⟨mc1, rfl⟩⟩ := hcut
    cases kq with
    | zero => exact absurd HA.out (by simp [hopperref12_Few.j1])
    | succ kj1 =>
     have H := HA.out; clear HA; simp only [hopperref12_Few.j1] at H
     by_cases c4 : x12_1 = true
     ·subst c4; have H1 : (if 0 ≤ x4_1 then (if x4_1 < (l0.length : Int) then (if (wrap64 (x3_1 + ((rdOf ByteArray.empty l0 x4_1).size : Int))) > 600 then (some false) else (hopperref12_Few.l0 kj1 l0 (wrap64 (x3_1 + ((rdOf ByteArray.empty l0 x4_1).size : Int))) (wrap64 (x4_1 + 1)))) else (none)) else (none)) = some r := by rw [if_pos rfl] at H; exact H
      clear H; have H := H1; clear H1; by_cases c5 : 0 ≤ x4_1
      case neg => rw [if_neg c5] at H; exact absurd H (by simp)
      rw [if_pos c5] at H; have c5b0 : decide (0 ≤ x4_1) = true := decide_eq_true c5; clear c5; by_cases c6 : x4_1 < (l0.length : Int)
      case neg => rw [if_neg c6] at H; exact absurd H (by simp)
      rw [if_pos c6] at H; have c6b0 : decide (x4_1 < (l0.length : Int)) = true := decide_eq_true c6; clear c6; by_cases c7 : (wrap64 (x3_1 + ((rdOf ByteArray.empty l0 x4_1).size : Int))) > 600
      ·rw [if_pos c7] at H; have c7b0 : decide (600 < (wrap64 (x3_1 + ((rdOf ByteArray.empty l0 x4_1).size : Int)))) = true := decide_eq_true c7; clear c7; obtain rfl := Option.some.inj H
       have p168 : 0 ≤ (x4_1 : Int) := dtA; have q168 : x4_1 < (l0.length : Int) := dtA; obtain ⟨ad168, e168, hx168_0⟩ := Kd.at_string HR0.out x4_1 p168 q168
       cases e168
       replace p168 := eq_true p168; replace q168 := eq_true q168; go_wp2
       go_ret
       exact exD
      ·rw [if_neg c7] at H; have c7b0 : decide (600 < (wrap64 (x3_1 + ((rdOf ByteArray.empty l0 x4_1).size : Int)))) = false := decide_eq_false c7; clear c7; have H' := Aside0.mk H
       clear H; have p168 : 0 ≤ (x4_1 : Int) := dtA; have q168 : x4_1 < (l0.length : Int) := dtA; obtain ⟨ad168, e168, hx168_0⟩ := Kd.at_string HR0.out x4_1 p168 q168
       cases e168
       replace p168 := eq_true p168; replace q168 := eq_true q168; go_wp2
       go_roundg kj1
       case measure => have := HK1.out; have := HJ1.out; omega
       case rel => exact ⟨(wrap64 (x3_1 + ((rdOf ByteArray.empty l0 x4_1).size : Int))), (wrap64 (x4_1 + 1)), (by first | rfl | (simp; done) | (simp [*]; done)), (by first | rfl | (simp; done) | (simp [*]; done)), H', ⟨by have := HK1.out; have := HJ1.out; omega⟩, by repeat (first | exact Drawn0.refl _ | apply Drawn0.step)⟩
     ·replace c4 := Bool.eq_false_iff.mpr c4; subst c4; have H1 : (some (decide ((l0.length : Int) ≤ 60))) = some r := by rw [if_neg (show ¬ (false = true) by decide)] at H; exact H
      clear H; have H := H1; clear H1; obtain rfl := Option.some.inj H
      go_wp2
      go_ret
      exact exD

/-! ### hopperlaw12_TrainOrders: function 6 -/
def hopperlaw12_TrainOrders.j0 : Nat → List ByteArray → Int → Int → Bool → Option (Bool)
 | 0, _, _, _, _ => none
 | k + 1, x0, x1, x2, x22 => if x22 = true then ((hopperlaw12_awake.f k).bind fun t171 => (some t171)) else (if (x0.length : Int) = 0 then (none) else ((some (([] : List ByteArray) : List ByteArray)).bind fun y172 => (if 0 ≤ (Int.tmod (wrap64 (x1)) (x0.length : Int)) then (if (Int.tmod (wrap64 (x1)) (x0.length : Int)) ≤ (x0.length : Int) then (if y172.length + (x0.drop ((Int.tmod (wrap64 (x1)) (x0.length : Int)) : Int).toNat).length < 8796093022208 then ((some (y172 ++ (x0.drop ((Int.tmod (wrap64 (x1)) (x0.length : Int)) : Int).toNat) : List ByteArray)).bind fun y176 => (if y176.length + (x0.take ((Int.tmod (wrap64 (x1)) (x0.length : Int)) : Int).toNat).length < 8796093022208 then ((train_Train.f k x0 (wrap64 (Int.tmod x2 6))).bind fun t183 => ((train_Train.f k (y176 ++ (x0.take ((Int.tmod (wrap64 (x1)) (x0.length : Int)) : Int).toNat)) (wrap64 (Int.tmod x2 6))).bind fun t186 => ((hopperref07_Same.f k t186 t183).bind fun t189 => (if t189 = true then ((some (([] : List ByteArray) : List ByteArray)).bind fun y190 => (if y190.length + x0.length < 8796093022208 then ((some (y190 ++ x0 : List ByteArray)).bind fun y193 => (if y193.length + x0.length < 8796093022208 then ((train_Train.f k (y193 ++ x0) (wrap64 (Int.tmod x2 6))).bind fun t199 => ((hopperref07_Same.f k t199 t183).bind fun t202 => (some t202))) else (none))) else (none))) else (none))))) else (none))) else (none)) else (none)) else (none))))
def hopperlaw12_TrainOrders.f (k : Nat) (l0 : List ByteArray) (a1 : Int) (a2 : Int) : Option (Bool) := (hopperlaw12_awake.f k).bind fun t169 => (if t169 = true then ((hopperref12_Few.f k l0).bind fun t170 => (if t170 = true then (hopperlaw12_TrainOrders.j0 k l0 a1 a2 ((l0.length : Int) == 0)) else (hopperlaw12_TrainOrders.j0 k l0 a1 a2 true))) else (hopperlaw12_TrainOrders.j0 k l0 a1 a2 true))
def hopperlaw12_TrainOrders.T4 : Bool × List (List Nat × List Nat) := (true, [([], []), ([], []), ([], []), ([1, 2], [1, 2]), ([0, 3], [0, 3]), ([], []), ([], []), ([5, 6], [5, 6]), ([4, 7, 4], [4, 7]), ([8, 8, 0, 1, 2, 3, 4, 5, 6, 7, 8], [8])])
def hopperlaw12_TrainOrders.B4 : List Nat := [0, 0, 0, 6, 15, 0, 0, 96, 255, 511]
theorem hopperlaw12_TrainOrders.tab4 : rtab .any (opsOf Try.f6 4) = hopperlaw12_TrainOrders.T4 := by kernel_rfl
theorem hopperlaw12_TrainOrders.bits4 : waitsOk hopperlaw12_TrainOrders.T4.2 hopperlaw12_TrainOrders.B4 = true := by kernel_rfl
theorem hopperlaw12_TrainOrders.calls (k : Nat) (A0 : Option Addr) (c0 : Nat) (l0 : List ByteArray) (a1 : Int) (a2 : Int) (r : Bool) (w : World) (hr0 : Kd.C Kd.string w A0 l0.length l0) (hc0 : l0.length ≤ c0) (h : hopperlaw12_TrainOrders.f k l0 a1 a2 = some r) :
  Calls Try.prog 6 #[.slice A0 l0.length c0, .int .u8 a1, .int .u8 a2] w fun e w' => e = .returned (.bool r) ∧ Below w.heap.size w w' := by
 have HR0 := Aside0.mk hr0; have HC0 := Aside0.mk hc0; clear hr0 hc0; have HB := Aside0.mk (Below.refl w.heap.size w)
 have H : ((hopperlaw12_awake.f k).bind fun t169 => (if t169 = true then ((hopperref12_Few.f k l0).bind fun t170 => (if t170 = true then (hopperlaw12_TrainOrders.j0 k l0 a1 a2 ((l0.length : Int) == 0)) else (hopperlaw12_TrainOrders.j0 k l0 a1 a2 true))) else (hopperlaw12_TrainOrders.j0 k l0 a1 a2 true))) = some r := h; clear h; have HC4 := Aside0.mk H; clear H; go_enter Try.func6, Try.ntmps6
 go_upto_region 1 with (fail)
 go_cut [22] (fun v22 wc => ∃ (kq : Nat) (x22_3 : Bool), v22 = .bool x22_3 ∧ Aside0 (hopperlaw12_TrainOrders.j0 kq l0 a1 a2 x22_3 = some r) ∧ Aside0 (kq ≤ k) ∧ Aside0 (Below w.heap.size w wc))
 case first =>
  have H := HC4.out; clear HC4; replace H := Option.bind_eq_some_iff.mp H; obtain ⟨t169, A50, H⟩ := H; replace H : (if t169 = true then ((hopperref12_Few.f k l0).bind fun t170 => (if t170 = true then (hopperlaw12_TrainOrders.j0 k l0 a1 a2 ((l0.length : Int) == 0)) else (hopperlaw12_TrainOrders.j0 k l0 a1 a2 true))) else (hopperlaw12_TrainOrders.j0 k l0 a1 a2 true)) = some r := H
  have A5 := Aside0.mk A50; clear A50; by_cases c6 : t169 = true
  ·subst c6; have H1 : ((hopperref12_Few.f k l0).bind fun t170 => (if t170 = true then (hopperlaw12_TrainOrders.j0 k l0 a1 a2 ((l0.length : Int) == 0)) else (hopperlaw12_TrainOrders.j0 k l0 a1 a2 true))) = some r := by rw [if_pos rfl] at H; exact H
   clear H; have H := H1; clear H1; replace H := Option.bind_eq_some_iff.mp H; obtain ⟨t170, A70, H⟩ := H; replace H : (if t170 = true then (hopperlaw12_TrainOrders.j0 k l0 a1 a2 ((l0.length : Int) == 0)) else (hopperlaw12_TrainOrders.j0 k l0 a1 a2 true)) = some r := H
   have A7 := Aside0.mk A70; clear A70; by_cases c8 : t170 = true
   ·subst c8; have H1 : (hopperlaw12_TrainOrders.j0 k l0 a1 a2 ((l0.length : Int) == 0)) = some r := by rw [if_pos rfl] at H; exact H
    clear H; have H := H1; clear H1; have H' := Aside0.mk H
    clear H; go_wp2_with (first | ((with_reducible refine gate_callee (f := 9) rfl ?_); refine goesL_ (some 11) rfl rfl Try.func9 (by kernel_rfl) rfl #[] rfl (by (try simp only [List.map_toArray, List.map_cons, List.map_nil]); first | done | rfl | (simp only [List.length_drop, List.length_take]; rfl)) ?_; (with_reducible refine (hopperlaw12_awake.calls k  true _ A5.out).mono ?_); rintro e w9 ⟨rfl, hb⟩; refine ⟨_, rfl, ?_⟩; have n0_ := Aside0.mk (below_step (mvB HB.out) hb); clear HB; have HB := n0_; clear n0_; (try clear hb); (try clear hb2); (try clear hk); (try clear hi)) | (go_at_call 14; (with_reducible refine (hopperref12_Few.calls k _ _ l0 true _ ?side1 ?side2 A7.out).mono ?_); (case side1 => repeat (first | exact (Kd.C_below HR0.out HB.out) | (with_reducible refine Kd.C_alloc ?_ _) | (with_reducible refine Kd.C_drewN ?_ _) | (with_reducible refine Kd.C_drew ?_))); (case side2 => exact HC0.out); rintro e w' ⟨rfl, ⟨nd, rfl⟩⟩))
    go_meet
    case rel => exact ⟨_, (((l0.length : Int) == 0)), (by first | rfl | (simp; done) | (simp [*]; done)), H', ⟨by first | omega | exact Nat.le_refl _⟩, ⟨mvB HB.out⟩⟩
   ·replace c8 := Bool.eq_false_iff.mpr c8; subst c8; have H1 : (hopperlaw12_TrainOrders.j0 k l0 a1 a2 true) = some r := by rw [if_neg (show ¬ (false = true) by decide)] at H; exact H
    clear H; have H := H1; clear H1; have H' := Aside0.mk H
    clear H; go_wp2_with (first | ((with_reducible refine gate_callee (f := 9) rfl ?_); refine goesL_ (some 11) rfl rfl Try.func9 (by kernel_rfl) rfl #[] rfl (by (try simp only [List.map_toArray, List.map_cons, List.map_nil]); first | done | rfl | (simp only [List.length_drop, List.length_take]; rfl)) ?_; (with_reducible refine (hopperlaw12_awake.calls k  true _ A5.out).mono ?_); rintro e w10 ⟨rfl, hb⟩; refine ⟨_, rfl, ?_⟩; have n0_ := Aside0.mk (below_step (mvB HB.out) hb); clear HB; have HB := n0_; clear n0_; (try clear hb); (try clear hb2); (try clear hk); (try clear hi)) | (go_at_call 14; (with_reducible refine (hopperref12_Few.calls k _ _ l0 false _ ?side1 ?side2 A7.out).mono ?_); (case side1 => repeat (first | exact (Kd.C_below HR0.out HB.out) | (with_reducible refine Kd.C_alloc ?_ _) | (with_reducible refine Kd.C_drewN ?_ _) | (with_reducible refine Kd.C_drew ?_))); (case side2 => exact HC0.out); rintro e w' ⟨rfl, ⟨nd, rfl⟩⟩))
    go_meet
    case rel => exact ⟨_, (true), (by first | rfl | (simp; done) | (simp [*]; done)), H', ⟨by first | omega | exact Nat.le_refl _⟩, ⟨mvB HB.out⟩⟩
  ·replace c6 := Bool.eq_false_iff.mpr c6; subst c6; have H1 : (hopperlaw12_TrainOrders.j0 k l0 a1 a2 true) = some r := by rw [if_neg (show ¬ (false = true) by decide)] at H; exact H
   clear H; have H := H1; clear H1; have H' := Aside0.mk H
   clear H; go_wp2_with (first | ((with_reducible refine gate_callee (f := 9) rfl ?_); refine goesL_ (some 11) rfl rfl Try.func9 (by kernel_rfl) rfl #[] rfl (by (try simp only [List.map_toArray, List.map_cons, List.map_nil]); first | done | rfl | (simp only [List.length_drop, List.length_take]; rfl)) ?_; (with_reducible refine (hopperlaw12_awake.calls k  false _ A5.out).mono ?_); rintro e w11 ⟨rfl, hb⟩; refine ⟨_, rfl, ?_⟩; have n0_ := Aside0.mk (below_step (mvB HB.out) hb); clear HB; have HB := n0_; clear n0_; (try clear hb); (try clear hb2); (try clear hk); (try clear hi)))
   go_meet
   case rel => exact ⟨_, (true), (by first | rfl | (simp; done) | (simp [*]; done)), H', ⟨by first | omega | exact Nat.le_refl _⟩, ⟨mvB HB.out⟩⟩
 case rest =>
  clear HC4; try clear p2
  try clear c6
  try clear c8
  try clear c9
  obtain ⟨kq, x22_3, rfl, HA, HJ3, HB⟩ := hcut
  cases kq with
  | zero => exact absurd HA.out (by simp [hopperlaw12_TrainOrders.j0])
  | succ kj3 =>
   have H := HA.out; clear HA; simp only [hopperlaw12_TrainOrders.j0] at H
   by_cases c12 : x22_3 = true
   ·subst c12; have H1 : ((hopperlaw12_awake.f kj3).bind fun t171 => (some t171)) = some r := by rw [if_pos rfl] at H; exact H
    clear H; have H := H1; clear H1; replace H := Option.bind_eq_some_iff.mp H; obtain ⟨t171, A130, H⟩ := H; replace H : (some t171) = some r := H
    have A13 := Aside0.mk A130; clear A130; obtain rfl := Option.some.inj H
    go_wp2_with (first | ((with_reducible refine gate_callee (f := 9) rfl ?_); refine goesL_ (some 23) rfl rfl Try.func9 (by kernel_rfl) rfl #[] rfl (by (try simp only [List.map_toArray, List.map_cons, List.map_nil]); first | done | rfl | (simp only [List.length_drop, List.length_take]; rfl)) ?_; (with_reducible refine (hopperlaw12_awake.calls kj3  t171 _ A13.out).mono ?_); rintro e w14 ⟨rfl, hb⟩; refine ⟨_, rfl, ?_⟩; have n0_ := Aside0.mk (below_step (mvB HB.out) hb); clear HB; have HB := n0_; clear n0_; (try clear hb); (try clear hb2); (try clear hk); (try clear hi)))
    go_ret
    exact exB (mvB HB.out)
   ·replace c12 := Bool.eq_false_iff.mpr c12; subst c12; have H1 : (if (l0.length : Int) = 0 then (none) else ((some (([] : List ByteArray) : List ByteArray)).bind fun y172 => (if 0 ≤ (Int.tmod (wrap64 (a1)) (l0.length : Int)) then (if (Int.tmod (wrap64 (a1)) (l0.length : Int)) ≤ (l0.length : Int) then (if y172.length + (l0.drop ((Int.tmod (wrap64 (a1)) (l0.length : Int)) : Int).toNat).length < 8796093022208 then ((some (y172 ++ (l0.drop ((Int.tmod (wrap64 (a1)) (l0.length : Int)) : Int).toNat) : List ByteArray)).bind fun y176 => (if y176.length + (l0.take ((Int.tmod (wrap64 (a1)) (l0.length : Int)) : Int).toNat).length < 8796093022208 then ((train_Train.f kj3 l0 (wrap64 (Int.tmod a2 6))).bind fun t183 => ((train_Train.f kj3 (y176 ++ (l0.take ((Int.tmod (wrap64 (a1)) (l0.length : Int)) : Int).toNat)) (wrap64 (Int.tmod a2 6))).bind fun t186 => ((hopperref07_Same.f kj3 t186 t183).bind fun t189 => (if t189 = true then ((some (([] : List ByteArray) : List ByteArray)).bind fun y190 => (if y190.length + l0.length < 8796093022208 then ((some (y190 ++ l0 : List ByteArray)).bind fun y193 => (if y193.length + l0.length < 8796093022208 then ((train_Train.f kj3 (y193 ++ l0) (wrap64 (Int.tmod a2 6))).bind fun t199 => ((hopperref07_Same.f kj3 t199 t183).bind fun t202 => (some t202))) else (none))) else (none))) else (none))))) else (none))) else (none)) else (none)) else (none)))) = some r := by rw [if_neg (show ¬ (false = true) by decide)] at H; exact H
    clear H; have H := H1; clear H1; by_cases c15 : (l0.length : Int) = 0
    ·rw [if_pos c15] at H; exact absurd H (by simp)
    ·rw [if_neg c15] at H; have c15b0 : ((l0.length : Int) == 0) = false := beq_eq_false_iff_ne.mpr c15; have c15b1 : ((l0.length : Int) != 0) = true := bne_iff_ne.mpr c15; have c15b2 : ¬ (l0 = []) := fun h_ => c15 (by rw [h_]; rfl)
     obtain ⟨y172, hy172⟩ : ∃ y_ : List ByteArray, y_ = (([] : List ByteArray)) := ⟨_, rfl⟩
     replace H : (if 0 ≤ (Int.tmod (wrap64 (a1)) (l0.length : Int)) then (if (Int.tmod (wrap64 (a1)) (l0.length : Int)) ≤ (l0.length : Int) then (if y172.length + (l0.drop ((Int.tmod (wrap64 (a1)) (l0.length : Int)) : Int).toNat).length < 8796093022208 then ((some (y172 ++ (l0.drop ((Int.tmod (wrap64 (a1)) (l0.length : Int)) : Int).toNat) : List ByteArray)).bind fun y176 => (if y176.length + (l0.take ((Int.tmod (wrap64 (a1)) (l0.length : Int)) : Int).toNat).length < 8796093022208 then ((train_Train.f kj3 l0 (wrap64 (Int.tmod a2 6))).bind fun t183 => ((train_Train.f kj3 (y176 ++ (l0.take ((Int.tmod (wrap64 (a1)) (l0.length : Int)) : Int).toNat)) (wrap64 (Int.tmod a2 6))).bind fun t186 => ((hopperref07_Same.f kj3 t186 t183).bind fun t189 => (if t189 = true then ((some (([] : List ByteArray) : List ByteArray)).bind fun y190 => (if y190.length + l0.length < 8796093022208 then ((some (y190 ++ l0 : List ByteArray)).bind fun y193 => (if y193.length + l0.length < 8796093022208 then ((train_Train.f kj3 (y193 ++ l0) (wrap64 (Int.tmod a2 6))).bind fun t199 => ((hopperref07_Same.f kj3 t199 t183).bind fun t202 => (some t202))) else (none))) else (none))) else (none))))) else (none))) else (none)) else (none)) else (none)) = some r := by first | (rw [hy172]; with_reducible exact H) | (have H2_ := (Option.bind_some _ _).symm.trans H; rw [hy172]; with_reducible exact H2_) | (have H2_ := (Option.bind_some _ _).symm.trans H; with_reducible exact H2_) | with_reducible exact H | (rw [hy172]; exact H) | exact H
     have Ny172 := Aside0.mk hy172; clear hy172; obtain ⟨ji16, hji16⟩ : ∃ j_ : Int, (Int.tmod (wrap64 (a1)) (l0.length : Int)) = j_ := ⟨_, rfl⟩
     replace H : (if 0 ≤ (ji16) then (if (ji16) ≤ (l0.length : Int) then (if y172.length + (l0.drop ((ji16) : Int).toNat).length < 8796093022208 then ((some (y172 ++ (l0.drop ((ji16) : Int).toNat) : List ByteArray)).bind fun y176 => (if y176.length + (l0.take ((ji16) : Int).toNat).length < 8796093022208 then ((train_Train.f kj3 l0 (wrap64 (Int.tmod a2 6))).bind fun t183 => ((train_Train.f kj3 (y176 ++ (l0.take ((ji16) : Int).toNat)) (wrap64 (Int.tmod a2 6))).bind fun t186 => ((hopperref07_Same.f kj3 t186 t183).bind fun t189 => (if t189 = true then ((some (([] : List ByteArray) : List ByteArray)).bind fun y190 => (if y190.length + l0.length < 8796093022208 then ((some (y190 ++ l0 : List ByteArray)).bind fun y193 => (if y193.length + l0.length < 8796093022208 then ((train_Train.f kj3 (y193 ++ l0) (wrap64 (Int.tmod a2 6))).bind fun t199 => ((hopperref07_Same.f kj3 t199 t183).bind fun t202 => (some t202))) else (none))) else (none))) else (none))))) else (none))) else (none)) else (none)) else (none)) = some r := by first | (rw [hji16] at H; exact H) | (simp only [hji16] at H ⊢; exact H)
     by_cases c17 : 0 ≤ (ji16)
     case neg => rw [if_neg c17] at H; exact absurd H (by simp)
     rw [if_pos c17] at H; have c17b0 := eq_true c17; have c17b1 : decide (0 ≤ (ji16)) = true := decide_eq_true c17; clear c17; by_cases c18 : (ji16) ≤ (l0.length : Int)
     case neg => rw [if_neg c18] at H; exact absurd H (by simp)
     rw [if_pos c18] at H; have c18b0 := eq_true c18; have c18b1 : decide ((ji16) ≤ (l0.length : Int)) = true := decide_eq_true c18; clear c18; by_cases c19 : y172.length + (l0.drop ((ji16) : Int).toNat).length < 8796093022208
     case neg => rw [if_neg c19] at H; exact absurd H (by simp)
     rw [if_pos c19] at H; have LMc19 := Aside0.mk c19; clear c19; obtain ⟨y176, hy176⟩ : ∃ y_ : List ByteArray, y_ = (y172 ++ (l0.drop ((ji16) : Int).toNat)) := ⟨_, rfl⟩
     replace H : (if y176.length + (l0.take ((ji16) : Int).toNat).length < 8796093022208 then ((train_Train.f kj3 l0 (wrap64 (Int.tmod a2 6))).bind fun t183 => ((train_Train.f kj3 (y176 ++ (l0.take ((ji16) : Int).toNat)) (wrap64 (Int.tmod a2 6))).bind fun t186 => ((hopperref07_Same.f kj3 t186 t183).bind fun t189 => (if t189 = true then ((some (([] : List ByteArray) : List ByteArray)).bind fun y190 => (if y190.length + l0.length < 8796093022208 then ((some (y190 ++ l0 : List ByteArray)).bind fun y193 => (if y193.length + l0.length < 8796093022208 then ((train_Train.f kj3 (y193 ++ l0) (wrap64 (Int.tmod a2 6))).bind fun t199 => ((hopperref07_Same.f kj3 t199 t183).bind fun t202 => (some t202))) else (none))) else (none))) else (none))))) else (none)) = some r := by first | (rw [hy176]; with_reducible exact H) | (have H2_ := (Option.bind_some _ _).symm.trans H; rw [hy176]; with_reducible exact H2_) | (have H2_ := (Option.bind_some _ _).symm.trans H; with_reducible exact H2_) | with_reducible exact H | (rw [hy176]; exact H) | exact H
     have Ny176 := Aside0.mk hy176; clear hy176; have c20b0 := eq_true (dtA : 0 ≤ (ji16))
     have c21b0 := eq_true (dtA : (ji16) ≤ (l0.length : Int))
     by_cases c22 : y176.length + (l0.take ((ji16) : Int).toNat).length < 8796093022208
     case neg => rw [if_neg c22] at H; exact absurd H (by simp)
     rw [if_pos c22] at H; have LMc22 := Aside0.mk c22; clear c22; obtain ⟨y180, hy180⟩ : ∃ y_ : List ByteArray, y_ = (y176 ++ (l0.take ((ji16) : Int).toNat)) := ⟨_, rfl⟩
     replace H : ((train_Train.f kj3 l0 (wrap64 (Int.tmod a2 6))).bind fun t183 => ((train_Train.f kj3 y180 (wrap64 (Int.tmod a2 6))).bind fun t186 => ((hopperref07_Same.f kj3 t186 t183).bind fun t189 => (if t189 = true then ((some (([] : List ByteArray) : List ByteArray)).bind fun y190 => (if y190.length + l0.length < 8796093022208 then ((some (y190 ++ l0 : List ByteArray)).bind fun y193 => (if y193.length + l0.length < 8796093022208 then ((train_Train.f kj3 (y193 ++ l0) (wrap64 (Int.tmod a2 6))).bind fun t199 => ((hopperref07_Same.f kj3 t199 t183).bind fun t202 => (some t202))) else (none))) else (none))) else (none))))) = some r := by first | (rw [hy180]; with_reducible exact H) | (have H2_ := (Option.bind_some _ _).symm.trans H; rw [hy180]; with_reducible exact H2_) | (have H2_ := (Option.bind_some _ _).symm.trans H; with_reducible exact H2_) | with_reducible exact H | (rw [hy180]; exact H) | exact H
     have Ny180 := Aside0.mk hy180; clear hy180; replace H := Option.bind_eq_some_iff.mp H; obtain ⟨t183, A230, H⟩ := H; replace H : ((train_Train.f kj3 y180 (wrap64 (Int.tmod a2 6))).bind fun t186 => ((hopperref07_Same.f kj3 t186 t183).bind fun t189 => (if t189 = true then ((some (([] : List ByteArray) : List ByteArray)).bind fun y190 => (if y190.length + l0.length < 8796093022208 then ((some (y190 ++ l0 : List ByteArray)).bind fun y193 => (if y193.length + l0.length < 8796093022208 then ((train_Train.f kj3 (y193 ++ l0) (wrap64 (Int.tmod a2 6))).bind fun t199 => ((hopperref07_Same.f kj3 t199 t183).bind fun t202 => (some t202))) else (none))) else (none))) else (none)))) = some r := H
     have A23 := Aside0.mk A230; clear A230; replace H := Option.bind_eq_some_iff.mp H; obtain ⟨t186, A240, H⟩ := H; replace H : ((hopperref07_Same.f kj3 t186 t183).bind fun t189 => (if t189 = true then ((some (([] : List ByteArray) : List ByteArray)).bind fun y190 => (if y190.length + l0.length < 8796093022208 then ((some (y190 ++ l0 : List ByteArray)).bind fun y193 => (if y193.length + l0.length < 8796093022208 then ((train_Train.f kj3 (y193 ++ l0) (wrap64 (Int.tmod a2 6))).bind fun t199 => ((hopperref07_Same.f kj3 t199 t183).bind fun t202 => (some t202))) else (none))) else (none))) else (none))) = some r := H
     have A24 := Aside0.mk A240; clear A240; replace H := Option.bind_eq_some_iff.mp H; obtain ⟨t189, A250, H⟩ := H; replace H : (if t189 = true then ((some (([] : List ByteArray) : List ByteArray)).bind fun y190 => (if y190.length + l0.length < 8796093022208 then ((some (y190 ++ l0 : List ByteArray)).bind fun y193 => (if y193.length + l0.length < 8796093022208 then ((train_Train.f kj3 (y193 ++ l0) (wrap64 (Int.tmod a2 6))).bind fun t199 => ((hopperref07_Same.f kj3 t199 t183).bind fun t202 => (some t202))) else (none))) else (none))) else (none)) = some r := H
     have A25 := Aside0.mk A250; clear A250; by_cases c26 : t189 = true
     ·subst c26; have H1 : ((some (([] : List ByteArray) : List ByteArray)).bind fun y190 => (if y190.length + l0.length < 8796093022208 then ((some (y190 ++ l0 : List ByteArray)).bind fun y193 => (if y193.length + l0.length < 8796093022208 then ((train_Train.f kj3 (y193 ++ l0) (wrap64 (Int.tmod a2 6))).bind fun t199 => ((hopperref07_Same.f kj3 t199 t183).bind fun t202 => (some t202))) else (none))) else (none))) = some r := by rw [if_pos rfl] at H; exact H
      clear H; have H := H1; clear H1; obtain ⟨y190, hy190⟩ : ∃ y_ : List ByteArray, y_ = (([] : List ByteArray)) := ⟨_, rfl⟩
      replace H : (if y190.length + l0.length < 8796093022208 then ((some (y190 ++ l0 : List ByteArray)).bind fun y193 => (if y193.length + l0.length < 8796093022208 then ((train_Train.f kj3 (y193 ++ l0) (wrap64 (Int.tmod a2 6))).bind fun t199 => ((hopperref07_Same.f kj3 t199 t183).bind fun t202 => (some t202))) else (none))) else (none)) = some r := by first | (rw [hy190]; with_reducible exact H) | (have H2_ := (Option.bind_some _ _).symm.trans H; rw [hy190]; with_reducible exact H2_) | (have H2_ := (Option.bind_some _ _).symm.trans H; with_reducible exact H2_) | with_reducible exact H | (rw [hy190]; exact H) | exact H
      have Ny190 := Aside0.mk hy190; clear hy190; by_cases c27 : y190.length + l0.length < 8796093022208
      case neg => rw [if_neg c27] at H; exact absurd H (by simp)
      rw [if_pos c27] at H; have LMc27 := Aside0.mk c27; clear c27; obtain ⟨y193, hy193⟩ : ∃ y_ : List ByteArray, y_ = (y190 ++ l0) := ⟨_, rfl⟩
      replace H : (if y193.length + l0.length < 8796093022208 then ((train_Train.f kj3 (y193 ++ l0) (wrap64 (Int.tmod a2 6))).bind fun t199 => ((hopperref07_Same.f kj3 t199 t183).bind fun t202 => (some t202))) else (none)) = some r := by first | (rw [hy193]; with_reducible exact H) | (have H2_ := (Option.bind_some _ _).symm.trans H; rw [hy193]; with_reducible exact H2_) | (have H2_ := (Option.bind_some _ _).symm.trans H; with_reducible exact H2_) | with_reducible exact H | (rw [hy193]; exact H) | exact H
      have Ny193 := Aside0.mk hy193; clear hy193; by_cases c28 : y193.length + l0.length < 8796093022208
      case neg => rw [if_neg c28] at H; exact absurd H (by simp)
      rw [if_pos c28] at H; have LMc28 := Aside0.mk c28; clear c28; obtain ⟨y196, hy196⟩ : ∃ y_ : List ByteArray, y_ = (y193 ++ l0) := ⟨_, rfl⟩
      replace H : ((train_Train.f kj3 y196 (wrap64 (Int.tmod a2 6))).bind fun t199 => ((hopperref07_Same.f kj3 t199 t183).bind fun t202 => (some t202))) = some r := by first | (rw [hy196]; with_reducible exact H) | (have H2_ := (Option.bind_some _ _).symm.trans H; rw [hy196]; with_reducible exact H2_) | (have H2_ := (Option.bind_some _ _).symm.trans H; with_reducible exact H2_) | with_reducible exact H | (rw [hy196]; exact H) | exact H
      have Ny196 := Aside0.mk hy196; clear hy196; replace H := Option.bind_eq_some_iff.mp H; obtain ⟨t199, A290, H⟩ := H; replace H : ((hopperref07_Same.f kj3 t199 t183).bind fun t202 => (some t202)) = some r := H
      have A29 := Aside0.mk A290; clear A290; replace H := Option.bind_eq_some_iff.mp H; obtain ⟨t202, A300, H⟩ := H; replace H : (some t202) = some r := H
      have A30 := Aside0.mk A300; clear A300; obtain rfl := Option.some.inj H
      try go_wp2
      have n0_ := Aside0.mk (below_drew1 HB.out)
      clear HB; have HB := n0_; clear n0_; obtain ⟨i032, hi032, _, hsz32, _⟩ := info_parts info9
      obtain ⟨A32, hcut32, hA32, hC32⟩ := print_drop_of (P := Try.prog) Value.string (⟨#[]⟩ : ByteArray) 22 9 .i64 Try.underlying22 hi032 hsz32 A0 c0 l0 (ji16) dtA dtA HC0.out
      have HR175 := Aside0.mk (Kd.C_of_reads (h1 := fun _ => rfl) (hA32 _ (Kd.reads_of_C HR0.out)))
      have HC175 := Aside0.mk hC32; clear hA32 hC32 hi032 hsz32; obtain ⟨i033, hi033, _, hsz33, _⟩ := info_parts info9
      obtain ⟨hcut33, hA33, hC33⟩ := print_take_of (P := Try.prog) Value.string (⟨#[]⟩ : ByteArray) 22 9 .i64 Try.underlying22 hi033 hsz33 A0 c0 l0 (ji16) dtA dtA HC0.out
      have HR179 := Aside0.mk (Kd.C_of_reads (h1 := fun _ => rfl) (hA33 _ (Kd.reads_of_C HR0.out)))
      have HC179 := Aside0.mk hC33; clear hA33 hC33 hi033 hsz33; refine start_ (n := 10) (S := fun w' => True) (ds := []) #[false, false, false, false, false, false, false, false, false, false] (by kernel_rfl) rfl rfl trivial (fun hHeld => ?_); refine with_tabW hopperlaw12_TrainOrders.tab4 hopperlaw12_TrainOrders.bits4 (fun HT_ HW_ => ?_)
      generalize wc.drew = w31 at HB HR175 HR179 hHeld ⊢
      refine pure_ (i := 1) (N := some 30) (v := ?_) (a' := ?_) #[false, true, false, false, false, false, false, false, false, false] rfl rfl (any_of HT_.out (by kernel_rfl)) (fun _ _ _ h => h) (Or.inl ⟨by rfl, ?_⟩) ?_ ?_
      rotate_left
      ·intro w'
       go_simp
       with_reducible rfl
      rotate_left
      ·simp only [Act.put, List.setIfInBounds_toArray, List.set_cons_zero, List.set_cons_succ, i64_w, i32_w]
       rfl
      refine pure_ (i := 2) (N := some 31) (v := ?_) (a' := ?_) #[false, true, true, false, false, false, false, false, false, false] rfl rfl (any_of HT_.out (by kernel_rfl)) (fun _ _ _ h => h) (Or.inl ⟨by rfl, ?_⟩) ?_ ?_
      rotate_left
      ·intro w'
       go_simp
       with_reducible rfl
      rotate_left
      ·simp only [Act.put, List.setIfInBounds_toArray, List.set_cons_zero, List.set_cons_succ, i64_w, i32_w]
       rfl
      refine pure_ (i := 3) (N := some 32) (v := ?_) (a' := ?_) #[false, true, true, true, false, false, false, false, false, false] rfl rfl (any_of HT_.out (by kernel_rfl)) (fun _ _ _ h => h) (Or.inl ⟨by rfl, ?_⟩) ?_ ?_
      rotate_left
      ·intro w'
       go_simp
       with_reducible rfl
      rotate_left
      ·simp only [Act.put, List.setIfInBounds_toArray, List.set_cons_zero, List.set_cons_succ, i64_w, i32_w]
       rfl
      refine pure_ (i := 5) (N := some 34) (v := ?_) (a' := ?_) #[false, true, true, true, false, true, false, false, false, false] rfl rfl (any_of HT_.out (by kernel_rfl)) (fun _ _ _ h => h) (Or.inl ⟨by rfl, ?_⟩) ?_ ?_
      rotate_left
      ·intro w'
       go_simp
       with_reducible rfl
      rotate_left
      ·simp only [Act.put, List.setIfInBounds_toArray, List.set_cons_zero, List.set_cons_succ, i64_w, i32_w]
       rfl
      refine pure_ (i := 6) (N := some 35) (v := ?_) (a' := ?_) #[false, true, true, true, false, true, true, false, false, false] rfl rfl (any_of HT_.out (by kernel_rfl)) (fun _ _ _ h => h) (Or.inl ⟨by rfl, ?_⟩) ?_ ?_
      rotate_left
      ·intro w'
       go_simp
       with_reducible rfl
      rotate_left
      ·simp only [Act.put, List.setIfInBounds_toArray, List.set_cons_zero, List.set_cons_succ, i64_w, i32_w]
       rfl
      refine pure_ (i := 7) (N := some 36) (v := ?_) (a' := ?_) #[false, true, true, true, false, true, true, true, false, false] rfl rfl (any_of HT_.out (by kernel_rfl)) (fun _ _ _ h => h) (Or.inl ⟨by rfl, ?_⟩) ?_ ?_
      rotate_left
      ·intro w'
       go_simp
       with_reducible rfl
      rotate_left
      ·simp only [Act.put, List.setIfInBounds_toArray, List.set_cons_zero, List.set_cons_succ, i64_w, i32_w]
       rfl
      refine one_ (i := 0) (N := some 29) #[true, true, true, true, false, true, true, true, false, false] rfl rfl (one_of HT_.out (by kernel_rfl)) (by decide) (fun K hK => ?_)
      refine Kd.R_lit_step Kd.string _ 9 ?hg (N := 29) ?hd (xs := ([] : List ByteArray)) (inner := []) (ok := fun _ => True) (okp := fun _ => True) ?hr ?hp (fun _ hk => hk) trivial (Below.refl _ _) (Nat.le_refl _) (by simp) ?_; (case hd => rfl); (case hg => rfl); (case hr => first | (go_simp; done) | (go_simp; rfl) | (go_simp; simp (disch := omega) only [Go.u8_and63, Go.u8_and31, Go.u8_and15, Go.u8_and7, Go.u8_or128, Go.u8_or192, Go.u8_or224, Go.u8_or240, m64]; done)); (case hp => exact (Reps.none _ _))
      intro v173 w34 ho35 hb hg_ hnew_
      clear hg_ hnew_; (first | rw [← Ny172.out] at ho35 | (simp only [Int.reduceToNat] at ho35; rw [← Ny172.out] at ho35))
      have n0_ := Aside0.mk (Kd.R_lower ho35 (below_size (mvB HB.out)))
      have n1_ := Aside0.mk (below_step (mvB HB.out) hb)
      clear HB; have HO174 := n0_; have HB := n1_; clear n0_ n1_; clear hb ho35; refine hK.out _ _ trivial (fun hHeld => ?_)
      clear hK K; refine norm_ (a' := ?_) ?_ ?_
      rotate_left
      ·show Act.put _ (some 29) _ = _
       simp only [Act.put, List.setIfInBounds_toArray, List.set_cons_zero, List.set_cons_succ, i64_w, i32_w]
       rfl
      refine one_ (i := 4) (N := some 33) #[true, true, true, true, true, true, true, true, false, false] rfl rfl (one_of HT_.out (by kernel_rfl)) (by decide) (fun K hK => ?_)
      refine Kd.R_append_rows_step Kd.string (w0 := w) w.heap.size (by rfl) (.tmp 29) (.tmp 32) 22 9 (.string ⟨#[]⟩) 16 rfl Try.underlying22 info9 rfl (by decide) (by omega) v173 y172 (l0.drop ((ji16) : Int).toNat) _ _ _ (fun _ => True) (fun _ => False) rfl rfl ?aO ?aR (fun _ _ h => h) (fun _ h => h.elim) ?aF ?aB ?aS ?aL ?_
      (case aR => first | (rw [← show (l0.drop ((ji16) : Int).toNat).length = (l0.length - (ji16).toNat) from List.length_drop]; repeat (first | exact (Kd.C_below HR175.out HB.out) | (with_reducible refine Kd.C_alloc ?_ _) | (with_reducible refine Kd.C_drewN ?_ _) | (with_reducible refine Kd.C_drew ?_))) | (repeat (first | exact (Kd.C_below HR175.out HB.out) | (with_reducible refine Kd.C_alloc ?_ _) | (with_reducible refine Kd.C_drewN ?_ _) | (with_reducible refine Kd.C_drew ?_))))
      (case aB => exact (mvB HB.out))
      (case aF => exact (fun _ _ => trivial))
      (case aO => exact (mvR HO174.out))
      (case aS => exact (below_size (mvB HB.out)))
      (case aL => have := LMc19.out; have hlx_ := (show (l0.drop ((ji16) : Int).toNat).length = (l0.length - (ji16).toNat) from List.length_drop); omega)
      intro v177 w36 ho hb hg hat
      rw [← Ny176.out] at ho
      have n0_ := Aside0.mk (hb)
      have n1_ := Aside0.mk (ho)
      clear HB; clear HO174; have HB := n0_; have HO178 := n1_; clear n0_ n1_; clear ho hb hg hat; refine hK.out _ _ trivial (fun hHeld => ?_)
      clear hK K; refine norm_ (a' := ?_) ?_ ?_
      rotate_left
      ·show Act.put _ (some 33) _ = _
       simp only [Act.put, List.setIfInBounds_toArray, List.set_cons_zero, List.set_cons_succ, i64_w, i32_w]
       rfl
      refine one_ (i := 8) (N := some 37) #[true, true, true, true, true, true, true, true, true, false] rfl rfl (one_of HT_.out (by kernel_rfl)) (by decide) (fun K hK => ?_)
      refine Kd.R_append_rows_step Kd.string (w0 := w) w.heap.size (by rfl) (.tmp 33) (.tmp 36) 22 9 (.string ⟨#[]⟩) 16 rfl Try.underlying22 info9 rfl (by decide) (by omega) v177 y176 (l0.take ((ji16) : Int).toNat) _ _ _ (fun _ => True) (fun _ => False) rfl rfl ?aO ?aR (fun _ _ h => h) (fun _ h => h.elim) ?aF ?aB ?aS ?aL ?_
      (case aR => first | (have h_ := Kd.C_below HR179.out HB.out; rw [show (l0.take ((ji16) : Int).toNat).length = (ji16).toNat from (by rw [List.length_take]; have h_ : ((ji16) : Int) ≤ (l0.length : Int) := dtA; omega)] at h_; exact h_) | (rw [← show (l0.take ((ji16) : Int).toNat).length = (ji16).toNat from (by rw [List.length_take]; have h_ : ((ji16) : Int) ≤ (l0.length : Int) := dtA; omega)]; repeat (first | exact (Kd.C_below HR179.out HB.out) | (with_reducible refine Kd.C_alloc ?_ _) | (with_reducible refine Kd.C_drewN ?_ _) | (with_reducible refine Kd.C_drew ?_))) | (repeat (first | exact (Kd.C_below HR179.out HB.out) | (with_reducible refine Kd.C_alloc ?_ _) | (with_reducible refine Kd.C_drewN ?_ _) | (with_reducible refine Kd.C_drew ?_))))
      (case aB => exact (mvB HB.out))
      (case aF => exact (fun _ _ => trivial))
      (case aO => exact (mvR HO178.out))
      (case aS => exact (below_size (mvB HB.out)))
      (case aL => have := LMc22.out; have hlx_ := (show (l0.take ((ji16) : Int).toNat).length = (ji16).toNat from (by rw [List.length_take]; have h_ : ((ji16) : Int) ≤ (l0.length : Int) := dtA; omega)); omega)
      intro v181 w37 ho hb hg hat
      rw [← Ny180.out] at ho
      have n0_ := Aside0.mk (hb)
      have n1_ := Aside0.mk (ho)
      clear HB; clear HO178; have HB := n0_; have HO182 := n1_; clear n0_ n1_; clear ho hb hg hat; refine hK.out _ _ trivial (fun hHeld => ?_)
      clear hK K; refine norm_ (a' := ?_) ?_ ?_
      rotate_left
      ·show Act.put _ (some 37) _ = _
       simp only [Act.put, List.setIfInBounds_toArray, List.set_cons_zero, List.set_cons_succ, i64_w, i32_w]
       rfl
      refine pure_ (i := 9) (N := some 8) (v := ?_) (a' := ?_) #[true, true, true, true, true, true, true, true, true, true] rfl rfl (any_of HT_.out (by kernel_rfl)) (fun _ _ _ h => h) (Or.inl ⟨by rfl, ?_⟩) ?_ ?_
      rotate_left
      ·intro w'
       go_simp
       with_reducible rfl
      rotate_left
      ·simp only [Act.put, List.setIfInBounds_toArray, List.set_cons_zero, List.set_cons_succ, i64_w, i32_w]
       rfl
      refine done_ (done_of HT_.out (by kernel_rfl)) ?_
      try go_wp2_with (first | ((with_reducible refine gate_callee (f := 18) rfl ?_); refine goesL_ (some 43) rfl rfl Try.func18 (by kernel_rfl) rfl #[.slice A0 l0.length c0, .int .i64 (wrap64 (Int.tmod a2 6))] rfl (by (try simp only [List.map_toArray, List.map_cons, List.map_nil]); first | done | rfl | (simp only [List.length_drop, List.length_take]; rfl)) ?_; (with_reducible refine (train_Train.calls kj3 _ _ l0 (wrap64 (Int.tmod a2 6)) t183 _ ?side1 ?side2 A23.out).mono ?_); (case side1 => repeat (first | exact (Kd.C_below HR0.out HB.out) | (with_reducible refine Kd.C_alloc ?_ _) | (with_reducible refine Kd.C_drewN ?_ _) | (with_reducible refine Kd.C_drew ?_))); (case side2 => exact HC0.out); rintro e w38 ⟨v184, rfl, ho0, hb⟩; refine ⟨_, rfl, ?_⟩; have n0_ := Aside0.mk (Kd.R_elder' (mvR HO182.out) (Kd.R_base ho0) hb); have n1_ := Aside0.mk (Kd.R_lower (Kd.R_new' ho0 (Kd.R_lt (mvR HO182.out))) (below_size (mvB HB.out))); have n2_ := Aside0.mk (below_step (mvB HB.out) hb); clear HO182; clear HB; have HO182 := n0_; have HO185 := n1_; have HB := n2_; clear n0_ n1_ n2_; (try clear hb); (try clear hb2); (try clear hk); (try clear hi); (try clear ho0); obtain ⟨Ao39, co39, eo39⟩ := Kd.R_slice HO182.out; subst eo39) | ((with_reducible refine gate_callee (f := 18) rfl ?_); refine goesL_ (some 46) rfl rfl Try.func18 (by kernel_rfl) rfl #[.slice Ao39 y180.length co39, .int .i64 (wrap64 (Int.tmod a2 6))] rfl (by (try simp only [List.map_toArray, List.map_cons, List.map_nil]); first | done | rfl | (simp only [List.length_drop, List.length_take]; rfl)) ?_; (with_reducible refine (train_Train.calls kj3 _ _ y180 (wrap64 (Int.tmod a2 6)) t186 _ ?side1 ?side2 A24.out).mono ?_); (case side1 => repeat (first | exact (Kd.R_reads' HO182.out).2.2 | (with_reducible refine Kd.C_alloc ?_ _) | (with_reducible refine Kd.C_drewN ?_ _) | (with_reducible refine Kd.C_drew ?_))); (case side2 => exact (Kd.R_reads' HO182.out).2.1); rintro e w40 ⟨v187, rfl, ho0, hb⟩; refine ⟨_, rfl, ?_⟩; have n0_ := Aside0.mk (Kd.R_elder' (mvR HO182.out) (Kd.R_base ho0) hb); have n1_ := Aside0.mk (Kd.R_elder' (mvR HO185.out) (Kd.R_base ho0) hb); have n2_ := Aside0.mk (Kd.R_lower (Kd.R_new' (Kd.R_new' ho0 (Kd.R_lt (mvR HO182.out))) (Kd.R_lt (mvR HO185.out))) (below_size (mvB HB.out))); have n3_ := Aside0.mk (below_step (mvB HB.out) hb); clear HO182; clear HO185; clear HB; have HO182 := n0_; have HO185 := n1_; have HO188 := n2_; have HB := n3_; clear n0_ n1_ n2_ n3_; (try clear hb); (try clear hb2); (try clear hk); (try clear hi); (try clear ho0); obtain ⟨Ao41, co41, eo41⟩ := Kd.R_slice HO188.out; subst eo41; obtain ⟨Ao42, co42, eo42⟩ := Kd.R_slice HO185.out; subst eo42) | ((with_reducible refine gate_callee (f := 11) rfl ?_); refine goesL_ (some 48) rfl rfl Try.func11 (by kernel_rfl) rfl #[.slice Ao41 t186.length co41, .slice Ao42 t183.length co42] rfl (by (try simp only [List.map_toArray, List.map_cons, List.map_nil]); first | done | rfl | (simp only [List.length_drop, List.length_take]; rfl)) ?_; (with_reducible refine (hopperref07_Same.calls kj3 _ _ t186 _ _ t183 true _ ?side1 ?side2 ?side3 ?side4 A25.out).mono ?_); (case side1 => repeat (first | exact (Kd.R_reads' HO188.out).2.2 | (with_reducible refine Kd.C_alloc ?_ _) | (with_reducible refine Kd.C_drewN ?_ _) | (with_reducible refine Kd.C_drew ?_))); (case side2 => exact (Kd.R_reads' HO188.out).2.1); (case side3 => repeat (first | exact (Kd.R_reads' HO185.out).2.2 | (with_reducible refine Kd.C_alloc ?_ _) | (with_reducible refine Kd.C_drewN ?_ _) | (with_reducible refine Kd.C_drew ?_))); (case side4 => exact (Kd.R_reads' HO185.out).2.1); rintro e w' ⟨rfl, ⟨nd, rfl⟩⟩; refine ⟨_, rfl, ?_⟩) | ((with_reducible refine gate_dst (N := 50) rfl ?_); (try (refine gate_guard (by rfl) ?_; dsimp only)); refine Kd.R_lit Kd.string _ 9 ?hg (N := 50) ?hd (xs := ([] : List ByteArray)) (inner := []) (ok := fun _ => True) (okp := fun _ => True) ?hr ?hp (fun _ hk => hk) trivial (Below.refl _ _) (Nat.le_refl _) (by simp) ?_; (case hd => rfl); (case hg => rfl); (case hr => first | (go_simp; done) | (go_simp; rfl) | (go_simp; simp (disch := omega) only [Go.u8_and63, Go.u8_and31, Go.u8_and15, Go.u8_and7, Go.u8_or128, Go.u8_or192, Go.u8_or224, Go.u8_or240, m64]; done)); (case hp => exact (Reps.none _ _)); intro v191 w43 ho44 hb hg_ hnew_; clear hg_ hnew_; (first | rw [← Ny190.out] at ho44 | (simp only [Int.reduceToNat] at ho44; rw [← Ny190.out] at ho44)); have n0_ := Aside0.mk (Kd.R_elder' (mvR HO182.out) (Kd.R_base ho44) hb); have n1_ := Aside0.mk (Kd.R_elder' (mvR HO185.out) (Kd.R_base ho44) hb); have n2_ := Aside0.mk (Kd.R_elder' (mvR HO188.out) (Kd.R_base ho44) hb); have n3_ := Aside0.mk (Kd.R_lower (Kd.R_new' (Kd.R_new' (Kd.R_new' ho44 (Kd.R_lt (mvR HO182.out))) (Kd.R_lt (mvR HO185.out))) (Kd.R_lt (mvR HO188.out))) (below_size (mvB HB.out))); have n4_ := Aside0.mk (below_step (mvB HB.out) hb); clear HO182; clear HO185; clear HO188; clear HB; have HO182 := n0_; have HO185 := n1_; have HO188 := n2_; have HO192 := n3_; have HB := n4_; clear n0_ n1_ n2_ n3_ n4_; clear hb ho44) | ((with_reducible refine gate_builtin (b := .append) (xs := #[.tmp 50, .tmp 51]) rfl ?_); (try (refine gate_guard (by rfl) ?_; dsimp only)); at_builtin; refine Kd.R_append_rows Kd.string (w0 := w) w.heap.size rfl (.tmp 50) (.tmp 51) 22 9 (.string ⟨#[]⟩) 16 rfl Try.underlying22 info9 rfl (by decide) (by omega) v191 y190 l0 _ _ _ (fun k_ => some k_ ≠ (.slice Ao39 y180.length co39 : Value).ownBlock ∧ some k_ ≠ (.slice Ao42 t183.length co42 : Value).ownBlock ∧ some k_ ≠ (.slice Ao41 t186.length co41 : Value).ownBlock) (fun _ => False) rfl rfl ?aO ?aR (fun _ _ h => h) (fun _ h => h.elim) ?aF ?aB ?aS ?aL ?_; (case aR => repeat (first | exact (Kd.C_below HR0.out HB.out) | (with_reducible refine Kd.C_alloc ?_ _) | (with_reducible refine Kd.C_drewN ?_ _) | (with_reducible refine Kd.C_drew ?_))); (case aB => exact (mvB HB.out)); (case aF => exact (fun k_ hk => ⟨Kd.fresh' (Kd.R_lt (mvR HO182.out)) k_ hk, Kd.fresh' (Kd.R_lt (mvR HO185.out)) k_ hk, Kd.fresh' (Kd.R_lt (mvR HO188.out)) k_ hk⟩)); (case aO => exact (by (with_reducible repeat (first | apply Kd.R_alloc | apply Kd.R_drewN | apply Kd.R_drew)); exact Kd.R_mono HO192.out (fun _ hk => ⟨hk.1.1.2, ⟨hk.1.2, hk.2⟩⟩))); (case aS => exact (below_size (mvB HB.out))); (case aL => have := LMc27.out; omega); intro v194 w45 ho hb hg hat; rw [← Ny193.out] at ho; have n0_ := Aside0.mk (Kd.R_after (ok := (fun k_ => some k_ ≠ (.slice Ao42 t183.length co42 : Value).ownBlock ∧ some k_ ≠ (.slice Ao41 t186.length co41 : Value).ownBlock)) (by (with_reducible repeat (first | apply Kd.R_alloc | apply Kd.R_drewN | apply Kd.R_drew)); exact Kd.R_mono HO182.out (fun _ hk => ⟨⟨hk.1.1.2, hk.1.2⟩, hk.2⟩)) hg hat); have n1_ := Aside0.mk (Kd.R_after (ok := (fun k_ => some k_ ≠ (.slice Ao39 y180.length co39 : Value).ownBlock ∧ some k_ ≠ (.slice Ao41 t186.length co41 : Value).ownBlock)) (by (with_reducible repeat (first | apply Kd.R_alloc | apply Kd.R_drewN | apply Kd.R_drew)); exact Kd.R_mono HO185.out (fun _ hk => ⟨⟨hk.1.1.2, hk.1.2⟩, hk.2⟩)) hg hat); have n2_ := Aside0.mk (Kd.R_after (ok := (fun k_ => some k_ ≠ (.slice Ao39 y180.length co39 : Value).ownBlock ∧ some k_ ≠ (.slice Ao42 t183.length co42 : Value).ownBlock)) (by (with_reducible repeat (first | apply Kd.R_alloc | apply Kd.R_drewN | apply Kd.R_drew)); exact Kd.R_mono HO188.out (fun _ hk => ⟨⟨hk.1.1.2, hk.1.2⟩, hk.2⟩)) hg hat); have n3_ := Aside0.mk (hb); have n4_ := Aside0.mk (ho); clear HO182; clear HO185; clear HO188; clear HB; clear HO192; have HO182 := n0_; have HO185 := n1_; have HO188 := n2_; have HB := n3_; have HO195 := n4_; clear n0_ n1_ n2_ n3_ n4_; clear ho hb hg hat) | ((with_reducible refine gate_builtin (b := .append) (xs := #[.tmp 52, .tmp 53]) rfl ?_); (try (refine gate_guard (by rfl) ?_; dsimp only)); at_builtin; refine Kd.R_append_rows Kd.string (w0 := w) w.heap.size rfl (.tmp 52) (.tmp 53) 22 9 (.string ⟨#[]⟩) 16 rfl Try.underlying22 info9 rfl (by decide) (by omega) v194 y193 l0 _ _ _ (fun k_ => some k_ ≠ (.slice Ao39 y180.length co39 : Value).ownBlock ∧ some k_ ≠ (.slice Ao42 t183.length co42 : Value).ownBlock ∧ some k_ ≠ (.slice Ao41 t186.length co41 : Value).ownBlock) (fun _ => False) rfl rfl ?aO ?aR (fun _ _ h => h) (fun _ h => h.elim) ?aF ?aB ?aS ?aL ?_; (case aR => repeat (first | exact (Kd.C_below HR0.out HB.out) | (with_reducible refine Kd.C_alloc ?_ _) | (with_reducible refine Kd.C_drewN ?_ _) | (with_reducible refine Kd.C_drew ?_))); (case aB => exact (mvB HB.out)); (case aF => exact (fun k_ hk => ⟨Kd.fresh' (Kd.R_lt (mvR HO182.out)) k_ hk, Kd.fresh' (Kd.R_lt (mvR HO185.out)) k_ hk, Kd.fresh' (Kd.R_lt (mvR HO188.out)) k_ hk⟩)); (case aO => exact (mvR HO195.out)); (case aS => exact (below_size (mvB HB.out))); (case aL => have := LMc28.out; omega); intro v197 w46 ho hb hg hat; rw [← Ny196.out] at ho; have n0_ := Aside0.mk (Kd.R_after (ok := (fun k_ => some k_ ≠ (.slice Ao42 t183.length co42 : Value).ownBlock ∧ some k_ ≠ (.slice Ao41 t186.length co41 : Value).ownBlock)) (mvR HO182.out) hg hat); have n1_ := Aside0.mk (Kd.R_after (ok := (fun k_ => some k_ ≠ (.slice Ao39 y180.length co39 : Value).ownBlock ∧ some k_ ≠ (.slice Ao41 t186.length co41 : Value).ownBlock)) (mvR HO185.out) hg hat); have n2_ := Aside0.mk (Kd.R_after (ok := (fun k_ => some k_ ≠ (.slice Ao39 y180.length co39 : Value).ownBlock ∧ some k_ ≠ (.slice Ao42 t183.length co42 : Value).ownBlock)) (mvR HO188.out) hg hat); have n3_ := Aside0.mk (hb); have n4_ := Aside0.mk (ho); clear HO182; clear HO185; clear HO188; clear HB; clear HO195; have HO182 := n0_; have HO185 := n1_; have HO188 := n2_; have HB := n3_; have HO198 := n4_; clear n0_ n1_ n2_ n3_ n4_; clear ho hb hg hat; obtain ⟨Ao47, co47, eo47⟩ := Kd.R_slice HO198.out; subst eo47) | (go_at_call 18; (with_reducible refine (train_Train.calls kj3 _ _ y196 (wrap64 (Int.tmod a2 6)) t199 _ ?side1 ?side2 A29.out).mono ?_); (case side1 => repeat (first | exact (Kd.R_reads' HO198.out).2.2 | (with_reducible refine Kd.C_alloc ?_ _) | (with_reducible refine Kd.C_drewN ?_ _) | (with_reducible refine Kd.C_drew ?_))); (case side2 => exact (Kd.R_reads' HO198.out).2.1); rintro e w48 ⟨v200, rfl, ho0, hb⟩; have n0_ := Aside0.mk (Kd.R_elder' (mvR HO182.out) (Kd.R_base ho0) hb); have n1_ := Aside0.mk (Kd.R_elder' (mvR HO185.out) (Kd.R_base ho0) hb); have n2_ := Aside0.mk (Kd.R_elder' (mvR HO188.out) (Kd.R_base ho0) hb); have n3_ := Aside0.mk (Kd.R_elder' (mvR HO198.out) (Kd.R_base ho0) hb); have n4_ := Aside0.mk (Kd.R_lower (Kd.R_new' (Kd.R_new' (Kd.R_new' (Kd.R_new' ho0 (Kd.R_lt (mvR HO182.out))) (Kd.R_lt (mvR HO185.out))) (Kd.R_lt (mvR HO188.out))) (Kd.R_lt (mvR HO198.out))) (below_size (mvB HB.out))); have n5_ := Aside0.mk (below_step (mvB HB.out) hb); clear HO182; clear HO185; clear HO188; clear HO198; clear HB; have HO182 := n0_; have HO185 := n1_; have HO188 := n2_; have HO198 := n3_; have HO201 := n4_; have HB := n5_; clear n0_ n1_ n2_ n3_ n4_ n5_; (try clear hb); (try clear hb2); (try clear hk); (try clear hi); (try clear ho0); obtain ⟨Ao49, co49, eo49⟩ := Kd.R_slice HO201.out; subst eo49) | (go_at_call 11; (with_reducible refine (hopperref07_Same.calls kj3 _ _ t199 _ _ t183 t202 _ ?side1 ?side2 ?side3 ?side4 A30.out).mono ?_); (case side1 => repeat (first | exact (Kd.R_reads' HO201.out).2.2 | (with_reducible refine Kd.C_alloc ?_ _) | (with_reducible refine Kd.C_drewN ?_ _) | (with_reducible refine Kd.C_drew ?_))); (case side2 => exact (Kd.R_reads' HO201.out).2.1); (case side3 => repeat (first | exact (Kd.R_reads' HO185.out).2.2 | (with_reducible refine Kd.C_alloc ?_ _) | (with_reducible refine Kd.C_drewN ?_ _) | (with_reducible refine Kd.C_drew ?_))); (case side4 => exact (Kd.R_reads' HO185.out).2.1); rintro e w' ⟨rfl, ⟨nd, rfl⟩⟩))
      go_ret
      exact ⟨by first | rfl | (simp [errW_none, errW_some] <;> rfl) | (simp only [← hji16]; first | rfl | (simp [errW_none, errW_some] <;> rfl)) | (simp [*, errW_none, errW_some] <;> rfl) | exact congrArg (fun b_ => Ending.returned (.bool b_)) (decide_eq_decide.2 (by unfold wrap64; omega)), mvB HB.out⟩
     ·replace c26 := Bool.eq_false_iff.mpr c26; subst c26; have H1 : (none) = some r := by rw [if_neg (show ¬ (false = true) by decide)] at H; exact H
      clear H; have H := H1; clear H1; cases H

/-- THE ONE PURE STATEMENT of hopperlaw12_TrainOrders: yours. -/
def hopperlaw12_TrainOrders.Pure : Prop := ∀ (l0 : List ByteArray) (a1 : Int) (a2 : Int), (WfSl (fun x_ : ByteArray => x_.size ≤ reachBytes)) l0 → (fun x_ : Int => (Lit.int .u8 x_).wf = true) a1 → (fun x_ : Int => (Lit.int .u8 x_).wf = true) a2 → ∃ k, hopperlaw12_TrainOrders.f k l0 a1 a2 = some true

end Go.Proofs.Ytjodnhlfodmpeaa.Q
