-- PRINTED by print.py (a twelfth state) out of the translation. Not trusted: Lean checks it.
import Derived.Test.YtdojgfkcpaeacaaDoorQx0
namespace Go.Proofs.YtdojgfkcpaeacaaDoor.Q
open Go.RowKit Go.Proofs.YtdojgfkcpaeacaaDoorW.PrintWords Go.Proofs.YtdojgfkcpaeacaaDoorW.PrintLast Go.Proofs.YtdojgfkcpaeacaaDoorW.PrintMore
attribute [local go_sem] str_gtr str_geq str_leq max2_int min2_int max_two min_two max_three min_three max_four min_four
set_option linter.unusedVariables false
set_option maxHeartbeats 8000000
set_option maxRecDepth 100000
set_option linter.unusedSimpArgs false

/-! ### hopperref16_Rows: function 10 -/
mutual
def hopperref16_Rows.j0 : Nat → List (List (S36)) → Int → Bool → Option (Bool)
 | 0, _, _, _ => none
 | k + 1, x0, x1, x17 => if x17 = true then (some false) else (hopperref16_Rows.l0 k x0 x1 0)
def hopperref16_Rows.l0 : Nat → List (List (S36)) → Int → Int → Option (Bool)
 | 0, _, _, _ => none
 | k + 1, x0, x1, x5 => if x5 < (x0.length : Int) then (if 0 ≤ x5 then (if ((rd_L6 x0 x5).length : Int) = x1 then (hopperref16_Rows.l1 k x0 x1 x5 0) else (some false)) else (none)) else (some true)
def hopperref16_Rows.l1 : Nat → List (List (S36)) → Int → Int → Int → Option (Bool)
 | 0, _, _, _, _ => none
 | k + 1, x0, x1, x5, x6 => if x6 < x1 then (if 0 ≤ x5 then (if x5 < (x0.length : Int) then (if 0 ≤ x6 then (if x6 < ((rd_L6 x0 x5).length : Int) then (if (((rd_T36 (rd_L6 x0 x5) x6).f1).size : Int) > 100 then (some false) else (if (rd_T36 (rd_L6 x0 x5) x6).f0 = true then (if ((rd_T36 (rd_L6 x0 x5) x6).f1).toList = ([] : List UInt8) then (hopperref16_Rows.l1 k x0 x1 x5 (wrap64 (x6 + 1))) else (some false)) else (hopperref16_Rows.l1 k x0 x1 x5 (wrap64 (x6 + 1))))) else (none)) else (none)) else (none)) else (none)) else (hopperref16_Rows.l0 k x0 x1 (wrap64 (x5 + 1)))
end
def hopperref16_Rows.f (k : Nat) (l0 : List (List (S36))) (a1 : Int) : Option (Bool) := if a1 < 1 then (hopperref16_Rows.j0 k l0 a1 true) else (if a1 > 8 then (hopperref16_Rows.j0 k l0 a1 true) else (hopperref16_Rows.j0 k l0 a1 (decide ((l0.length : Int) > 100))))
theorem hopperref16_Rows.calls (k : Nat) (A0 : Option Addr) (c0 : Nat) (l0 : List (List (S36))) (a1 : Int) (r : Bool) (w : World) (hr0 : Kd.C (Kd.slice 36 k36) w A0 l0.length l0) (hc0 : l0.length ≤ c0) (h : hopperref16_Rows.f k l0 a1 = some r) :
  Calls Tryd.prog 10 #[.slice A0 l0.length c0, .int .i64 a1] w fun e w' => e = .returned (.bool r) ∧ Drawn0 w w' := by
 have HR0 := Aside0.mk hr0; have HC0 := Aside0.mk hc0; clear hr0 hc0; have H : (if a1 < 1 then (hopperref16_Rows.j0 k l0 a1 true) else (if a1 > 8 then (hopperref16_Rows.j0 k l0 a1 true) else (hopperref16_Rows.j0 k l0 a1 (decide ((l0.length : Int) > 100))))) = some r := h; clear h; have HC3 := Aside0.mk H; clear H; go_enter Tryd.func10, Tryd.ntmps10
 go_upto_region 1 with (fail)
 go_cut [17] (fun v17 wc => ∃ (kq : Nat) (x17_2 : Bool), v17 = .bool x17_2 ∧ Aside0 (hopperref16_Rows.j0 kq l0 a1 x17_2 = some r) ∧ Aside0 (kq ≤ k) ∧ Drawn0 w wc)
 case first =>
  have H := HC3.out; clear HC3; by_cases c4 : a1 < 1
  ·rw [if_pos c4] at H; have c4b0 : decide (a1 < 1) = true := decide_eq_true c4; clear c4; (first | rw [c4b0] | (simp only [i64_w, i32_w]; rw [c4b0]) | skip)
   have H' := Aside0.mk H
   clear H; go_wp2
   go_meet
   case rel => exact ⟨_, (true), (by first | rfl | (simp; done) | (simp [*]; done)), H', ⟨by first | omega | exact Nat.le_refl _⟩, by repeat (first | exact Drawn0.refl _ | apply Drawn0.step)⟩
  ·rw [if_neg c4] at H; have c4b0 : decide (a1 < 1) = false := decide_eq_false c4; clear c4; (first | rw [c4b0] | (simp only [i64_w, i32_w]; rw [c4b0]) | skip)
   by_cases c5 : a1 > 8
   ·rw [if_pos c5] at H; have c5b0 : decide (8 < a1) = true := decide_eq_true c5; clear c5; have H' := Aside0.mk H
    clear H; go_wp2
    go_meet
    case rel => exact ⟨_, (true), (by first | rfl | (simp; done) | (simp [*]; done)), H', ⟨by first | omega | exact Nat.le_refl _⟩, by repeat (first | exact Drawn0.refl _ | apply Drawn0.step)⟩
   ·rw [if_neg c5] at H; have c5b0 : decide (8 < a1) = false := decide_eq_false c5; clear c5; have H' := Aside0.mk H
    clear H; go_wp2
    go_meet
    case rel => exact ⟨_, (decide ((l0.length : Int) > 100)), (by first | rfl | (simp; done) | (simp [*]; done)), H', ⟨by first | omega | exact Nat.le_refl _⟩, by repeat (first | exact Drawn0.refl _ | apply Drawn0.step)⟩
 case rest =>
  clear HC3; try clear c1
  try clear p2
  try clear c4
  try clear c4b0
  try clear c5
  try clear c5b0
  obtain ⟨kq, x17_2, rfl, HA, HJ2, ⟨mc2, rfl⟩⟩ := hcut
  cases kq with
  | zero => exact absurd HA.out (by simp [hopperref16_Rows.j0])
  | succ kj2 =>
   have H := HA.out; clear HA; simp only [hopperref16_Rows.j0] at H
   by_cases c6 : x17_2 = true
   ·subst c6; have H1 : (some false) = some r := by rw [if_pos rfl] at H; exact H
    clear H; have H := H1; clear H1; obtain rfl := Option.some.inj H
    go_wp2
    go_ret
    exact exD
   ·replace c6 := Bool.eq_false_iff.mpr c6; subst c6; have H1 : (hopperref16_Rows.l0 kj2 l0 a1 0) = some r := by rw [if_neg (show ¬ (false = true) by decide)] at H; exact H
    clear H; have H := H1; clear H1; have H' := Aside0.mk H
    clear H; go_wp2
    go_loopg [5] kj2 (fun kq v5 w' => ∃ (x5_2 : Int), v5 = .int .i64 x5_2 ∧ Aside0 (hopperref16_Rows.l0 kq l0 a1 x5_2 = some r) ∧ Aside0 (kq ≤ kj2) ∧ Drawn0 w w')
    case atStart => exact ⟨(0), (by first | rfl | (simp; done) | (simp [*]; done)), H', ⟨Nat.le_refl _⟩, by repeat (first | exact Drawn0.refl _ | apply Drawn0.step)⟩
    case round =>
     clear H'; (try clear c1); (try clear c2); (try clear p2); (try clear c4); (try clear c4b0); (try clear c5); (try clear c5b0); (try clear c6); (try clear p2); obtain ⟨x5_2, rfl, HA, HK2, ⟨m2, rfl⟩⟩ := hrel
     cases gk with
     | zero => exact absurd HA.out (by simp [hopperref16_Rows.l0])
     | succ k2 =>
      have H := HA.out; clear HA; simp only [hopperref16_Rows.l0] at H
      by_cases c7 : x5_2 < (l0.length : Int)
      ·rw [if_pos c7] at H; have c7b0 : decide (x5_2 < (l0.length : Int)) = true := decide_eq_true c7; clear c7; by_cases c8 : 0 ≤ x5_2
       case neg => rw [if_neg c8] at H; exact absurd H (by simp)
       rw [if_pos c8] at H; have c8b0 : decide (0 ≤ x5_2) = true := decide_eq_true c8; clear c8; by_cases c9 : ((rd_L6 l0 x5_2).length : Int) = a1
       ·rw [if_pos c9] at H; have c9b0 : (((rd_L6 l0 x5_2).length : Int) == a1) = true := beq_iff_eq.mpr c9; have c9b1 : (((rd_L6 l0 x5_2).length : Int) != a1) = false := bne_eq_false_iff_eq.mpr c9; clear c9; have H' := Aside0.mk H
        clear H; have p197 : 0 ≤ (x5_2 : Int) := dtA; have q197 : x5_2 < (l0.length : Int) := dtA; obtain ⟨ad197, A197_0, c197_0, e197, hx197_0, hl197_0, hi197_0⟩ := at_L6 HR0.out x5_2 p197 q197
        cases e197
        have HR197_0 := Aside0.mk hi197_0; have HC197_0 := Aside0.mk hl197_0; clear hi197_0 hl197_0; replace p197 := eq_true p197; replace q197 := eq_true q197; go_wp2
        go_loopg [6] k2 (fun kq v6 w' => ∃ (x6_3 : Int), v6 = .int .i64 x6_3 ∧ Aside0 (hopperref16_Rows.l1 kq l0 a1 x5_2 x6_3 = some r) ∧ Aside0 (kq ≤ k2) ∧ Drawn0 w w')
        case atStart => exact ⟨(0), (by first | rfl | (simp; done) | (simp [*]; done)), H', ⟨Nat.le_refl _⟩, by repeat (first | exact Drawn0.refl _ | apply Drawn0.step)⟩
        case round =>
         clear H'; (try clear c1); (try clear p1); (try clear q1); (try clear hx1); (try clear c2); (try clear p2); (try clear c4); (try clear c4b0); (try clear c5); (try clear c5b0); (try clear c6); (try clear c7); (try clear c7b0); (try clear c8); (try clear c8b0); (try clear c9); (try clear c9b0); (try clear c9b1); (try clear hx197_0); (try clear p197); (try clear p2); (try clear q197); obtain ⟨x6_3, rfl, HA, HK3, ⟨m3, rfl⟩⟩ := hrel
         cases gk with
         | zero => exact absurd HA.out (by simp [hopperref16_Rows.l1])
         | succ k3 =>
          have H := HA.out; clear HA; simp only [hopperref16_Rows.l1] at H
          by_cases c10 : x6_3 < a1
          ·rw [if_pos c10] at H; have c10b0 : decide (x6_3 < a1) = true := decide_eq_true c10; clear c10; by_cases c11 : 0 ≤ x5_2
           case neg => rw [if_neg c11] at H; exact absurd H (by simp)
           rw [if_pos c11] at H; have c11b0 : decide (0 ≤ x5_2) = true := decide_eq_true c11; clear c11; by_cases c12 : x5_2 < (l0.length : Int)
           case neg => rw [if_neg c12] at H; exact absurd H (by simp)
           rw [if_pos c12] at H; have c12b0 : decide (x5_2 < (l0.length : Int)) = true := decide_eq_true c12; clear c12; by_cases c13 : 0 ≤ x6_3
           case neg => rw [if_neg c13] at H; exact absurd H (by simp)
           rw [if_pos c13] at H; have c13b0 : decide (0 ≤ x6_3) = true := decide_eq_true c13; clear c13; by_cases c14 : x6_3 < ((rd_L6 l0 x5_2).length : Int)
           case neg => rw [if_neg c14] at H; exact absurd H (by simp)
           rw [if_pos c14] at H; have c14b0 : decide (x6_3 < ((rd_L6 l0 x5_2).length : Int)) = true := decide_eq_true c14; clear c14; by_cases c15 : (((rd_T36 (rd_L6 l0 x5_2) x6_3).f1).size : Int) > 100
           ·rw [if_pos c15] at H; have c15b0 : decide (100 < (((rd_T36 (rd_L6 l0 x5_2) x6_3).f1).size : Int)) = true := decide_eq_true c15; have c15b1 : decide (100 < ((rd_T36 (rd_L6 l0 x5_2) x6_3).f1).size) = true := decide_eq_true (by omega)
            clear c15; obtain rfl := Option.some.inj H
            have p198 : 0 ≤ (x5_2 : Int) := dtA; have q198 : x5_2 < (l0.length : Int) := dtA; obtain ⟨ad198, A198_0, c198_0, e198, hx198_0, hl198_0, hi198_0⟩ := at_L6 HR0.out x5_2 p198 q198
            obtain rfl : ad197 = ad198 := (by injection e198)
            have HR198_0 := Aside0.mk hi198_0; have HC198_0 := Aside0.mk hl198_0; clear hi198_0 hl198_0; replace p198 := eq_true p198; replace q198 := eq_true q198; have p199 : 0 ≤ (x6_3 : Int) := dtA; have q199 : x6_3 < ((rd_L6 l0 x5_2).length : Int) := dtA; obtain ⟨ad199, e199, hx199_0, hx199_1⟩ := at_T36 HR198_0.out x6_3 p199 q199
            cases e199
            replace p199 := eq_true p199; replace q199 := eq_true q199; go_wp2
            go_ret
            exact exD
           ·rw [if_neg c15] at H; have c15b0 : decide (100 < (((rd_T36 (rd_L6 l0 x5_2) x6_3).f1).size : Int)) = false := decide_eq_false c15; have c15b1 : decide (100 < ((rd_T36 (rd_L6 l0 x5_2) x6_3).f1).size) = false := decide_eq_false (by omega)
            clear c15; obtain ⟨bq16, hbq16⟩ : ∃ b_ : Bool, b_ = ((rd_T36 (rd_L6 l0 x5_2) x6_3).f0) := ⟨_, rfl⟩
            replace H : (if bq16 = true then (if ((rd_T36 (rd_L6 l0 x5_2) x6_3).f1).toList = ([] : List UInt8) then (hopperref16_Rows.l1 k3 l0 a1 x5_2 (wrap64 (x6_3 + 1))) else (some false)) else (hopperref16_Rows.l1 k3 l0 a1 x5_2 (wrap64 (x6_3 + 1)))) = some r := by rw [← hbq16] at H; exact H
            have Nbq16 := Aside0.mk hbq16; clear hbq16; by_cases c17 : bq16 = true
            ·subst c17; have H1 : (if ((rd_T36 (rd_L6 l0 x5_2) x6_3).f1).toList = ([] : List UInt8) then (hopperref16_Rows.l1 k3 l0 a1 x5_2 (wrap64 (x6_3 + 1))) else (some false)) = some r := by rw [if_pos rfl] at H; exact H
             clear H; have H := H1; clear H1; by_cases c18 : ((rd_T36 (rd_L6 l0 x5_2) x6_3).f1).toList = ([] : List UInt8)
             ·rw [if_pos c18] at H; have c18b0 : (((rd_T36 (rd_L6 l0 x5_2) x6_3).f1).toList == ([] : List UInt8)) = true := beq_iff_eq.mpr c18; have c18b1 : (((rd_T36 (rd_L6 l0 x5_2) x6_3).f1).toList != ([] : List UInt8)) = false := bne_eq_false_iff_eq.mpr c18; clear c18; have H' := Aside0.mk H
              clear H; have p198 : 0 ≤ (x5_2 : Int) := dtA; have q198 : x5_2 < (l0.length : Int) := dtA; obtain ⟨ad198, A198_0, c198_0, e198, hx198_0, hl198_0, hi198_0⟩ := at_L6 HR0.out x5_2 p198 q198
              obtain rfl : ad197 = ad198 := (by injection e198)
              have HR198_0 := Aside0.mk hi198_0; have HC198_0 := Aside0.mk hl198_0; clear hi198_0 hl198_0; replace p198 := eq_true p198; replace q198 := eq_true q198; have p199 : 0 ≤ (x6_3 : Int) := dtA; have q199 : x6_3 < ((rd_L6 l0 x5_2).length : Int) := dtA; obtain ⟨ad199, e199, hx199_0, hx199_1⟩ := at_T36 HR198_0.out x6_3 p199 q199
              (try rw [← Nbq16.out] at hx199_0)
              cases e199
              replace p199 := eq_true p199; replace q199 := eq_true q199; have p200 : 0 ≤ (x5_2 : Int) := dtA; have q200 : x5_2 < (l0.length : Int) := dtA; obtain ⟨ad200, A200_0, c200_0, e200, hx200_0, hl200_0, hi200_0⟩ := at_L6 HR0.out x5_2 p200 q200
              obtain rfl : ad197 = ad200 := (by injection e200)
              have HR200_0 := Aside0.mk hi200_0; have HC200_0 := Aside0.mk hl200_0; clear hi200_0 hl200_0; replace p200 := eq_true p200; replace q200 := eq_true q200; have ea_ := Option.some.inj (hx198_0.symm.trans hx200_0)
              injection ea_ with ea_ en_ ec_
              subst ea_; subst ec_; clear en_; have p201 : 0 ≤ (x6_3 : Int) := dtA; have q201 : x6_3 < ((rd_L6 l0 x5_2).length : Int) := dtA; obtain ⟨ad201, e201, hx201_0, hx201_1⟩ := at_T36 HR200_0.out x6_3 p201 q201
              (try rw [← Nbq16.out] at hx201_0)
              cases e201
              replace p201 := eq_true p201; replace q201 := eq_true q201; have p202 : 0 ≤ (x5_2 : Int) := dtA; have q202 : x5_2 < (l0.length : Int) := dtA; obtain ⟨ad202, A202_0, c202_0, e202, hx202_0, hl202_0, hi202_0⟩ := at_L6 HR0.out x5_2 p202 q202
              obtain rfl : ad197 = ad202 := (by injection e202)
              have HR202_0 := Aside0.mk hi202_0; have HC202_0 := Aside0.mk hl202_0; clear hi202_0 hl202_0; replace p202 := eq_true p202; replace q202 := eq_true q202; have ea_ := Option.some.inj (hx198_0.symm.trans hx202_0)
              injection ea_ with ea_ en_ ec_
              subst ea_; subst ec_; clear en_; have p203 : 0 ≤ (x6_3 : Int) := dtA; have q203 : x6_3 < ((rd_L6 l0 x5_2).length : Int) := dtA; obtain ⟨ad203, e203, hx203_0, hx203_1⟩ := at_T36 HR202_0.out x6_3 p203 q203
              (try rw [← Nbq16.out] at hx203_0)
              cases e203
              replace p203 := eq_true p203; replace q203 := eq_true q203; go_wp2
              go_roundg k3
              case measure => have := HJ2.out; have := HK2.out; have := HK3.out; omega
              case rel => exact ⟨(wrap64 (x6_3 + 1)), (by first | rfl | (simp; done) | (simp [*]; done)), (by first | exact H' | (rw [← Nbq16.out]; exact H')), ⟨by have := HJ2.out; have := HK2.out; have := HK3.out; omega⟩, by repeat (first | exact Drawn0.refl _ | apply Drawn0.step)⟩
             ·rw [if_neg c18] at H; have c18b0 : (((rd_T36 (rd_L6 l0 x5_2) x6_3).f1).toList == ([] : List UInt8)) = false := beq_eq_false_iff_ne.mpr c18; have c18b1 : (((rd_T36 (rd_L6 l0 x5_2) x6_3).f1).toList != ([] : List UInt8)) = true := bne_iff_ne.mpr c18; obtain rfl := Option.some.inj H
              have p198 : 0 ≤ (x5_2 : Int) := dtA; have q198 : x5_2 < (l0.length : Int) := dtA; obtain ⟨ad198, A198_0, c198_0, e198, hx198_0, hl198_0, hi198_0⟩ := at_L6 HR0.out x5_2 p198 q198
              obtain rfl : ad197 = ad198 := (by injection e198)
              have HR198_0 := Aside0.mk hi198_0; have HC198_0 := Aside0.mk hl198_0; clear hi198_0 hl198_0; replace p198 := eq_true p198; replace q198 := eq_true q198; have p199 : 0 ≤ (x6_3 : Int) := dtA; have q199 : x6_3 < ((rd_L6 l0 x5_2).length : Int) := dtA; obtain ⟨ad199, e199, hx199_0, hx199_1⟩ := at_T36 HR198_0.out x6_3 p199 q199
              (try rw [← Nbq16.out] at hx199_0)
              cases e199
              replace p199 := eq_true p199; replace q199 := eq_true q199; have p200 : 0 ≤ (x5_2 : Int) := dtA; have q200 : x5_2 < (l0.length : Int) := dtA; obtain ⟨ad200, A200_0, c200_0, e200, hx200_0, hl200_0, hi200_0⟩ := at_L6 HR0.out x5_2 p200 q200
              obtain rfl : ad197 = ad200 := (by injection e200)
              have HR200_0 := Aside0.mk hi200_0; have HC200_0 := Aside0.mk hl200_0; clear hi200_0 hl200_0; replace p200 := eq_true p200; replace q200 := eq_true q200; have ea_ := Option.some.inj (hx198_0.symm.trans hx200_0)
              injection ea_ with ea_ en_ ec_
              subst ea_; subst ec_; clear en_; have p201 : 0 ≤ (x6_3 : Int) := dtA; have q201 : x6_3 < ((rd_L6 l0 x5_2).length : Int) := dtA; obtain ⟨ad201, e201, hx201_0, hx201_1⟩ := at_T36 HR200_0.out x6_3 p201 q201
              (try rw [← Nbq16.out] at hx201_0)
              cases e201
              replace p201 := eq_true p201; replace q201 := eq_true q201; have p202 : 0 ≤ (x5_2 : Int) := dtA; have q202 : x5_2 < (l0.length : Int) := dtA; obtain ⟨ad202, A202_0, c202_0, e202, hx202_0, hl202_0, hi202_0⟩ := at_L6 HR0.out x5_2 p202 q202
              obtain rfl : ad197 = ad202 := (by injection e202)
              have HR202_0 := Aside0.mk hi202_0; have HC202_0 := Aside0.mk hl202_0; clear hi202_0 hl202_0; replace p202 := eq_true p202; replace q202 := eq_true q202; have ea_ := Option.some.inj (hx198_0.symm.trans hx202_0)
              injection ea_ with ea_ en_ ec_
              subst ea_; subst ec_; clear en_; have p203 : 0 ≤ (x6_3 : Int) := dtA; have q203 : x6_3 < ((rd_L6 l0 x5_2).length : Int) := dtA; obtain ⟨ad203, e203, hx203_0, hx203_1⟩ := at_T36 HR202_0.out x6_3 p203 q203
              (try rw [← Nbq16.out] at hx203_0)
              cases e203
              replace p203 := eq_true p203; replace q203 := eq_true q203; go_wp2
              go_ret
              exact exD
            ·replace c17 := Bool.eq_false_iff.mpr c17; subst c17; have H1 : (hopperref16_Rows.l1 k3 l0 a1 x5_2 (wrap64 (x6_3 + 1))) = some r := by rw [if_neg (show ¬ (false = true) by decide)] at H; exact H
             clear H; have H := H1; clear H1; have H' := Aside0.mk H
             clear H; have p198 : 0 ≤ (x5_2 : Int) := dtA; have q198 : x5_2 < (l0.length : Int) := dtA; obtain ⟨ad198, A198_0, c198_0, e198, hx198_0, hl198_0, hi198_0⟩ := at_L6 HR0.out x5_2 p198 q198
             obtain rfl : ad197 = ad198 := (by injection e198)
             have HR198_0 := Aside0.mk hi198_0; have HC198_0 := Aside0.mk hl198_0; clear hi198_0 hl198_0; replace p198 := eq_true p198; replace q198 := eq_true q198; have p199 : 0 ≤ (x6_3 : Int) := dtA; have q199 : x6_3 < ((rd_L6 l0 x5_2).length : Int) := dtA; obtain ⟨ad199, e199, hx199_0, hx199_1⟩ := at_T36 HR198_0.out x6_3 p199 q199
             (try rw [← Nbq16.out] at hx199_0)
             cases e199
             replace p199 := eq_true p199; replace q199 := eq_true q199; have p200 : 0 ≤ (x5_2 : Int) := dtA; have q200 : x5_2 < (l0.length : Int) := dtA; obtain ⟨ad200, A200_0, c200_0, e200, hx200_0, hl200_0, hi200_0⟩ := at_L6 HR0.out x5_2 p200 q200
             obtain rfl : ad197 = ad200 := (by injection e200)
             have HR200_0 := Aside0.mk hi200_0; have HC200_0 := Aside0.mk hl200_0; clear hi200_0 hl200_0; replace p200 := eq_true p200; replace q200 := eq_true q200; have ea_ := Option.some.inj (hx198_0.symm.trans hx200_0)
             injection ea_ with ea_ en_ ec_
             subst ea_; subst ec_; clear en_; have p201 : 0 ≤ (x6_3 : Int) := dtA; have q201 : x6_3 < ((rd_L6 l0 x5_2).length : Int) := dtA; obtain ⟨ad201, e201, hx201_0, hx201_1⟩ := at_T36 HR200_0.out x6_3 p201 q201
             (try rw [← Nbq16.out] at hx201_0)
             cases e201
             replace p201 := eq_true p201; replace q201 := eq_true q201; go_wp2
             go_roundg k3
             case measure => have := HJ2.out; have := HK2.out; have := HK3.out; omega
             case rel => exact ⟨(wrap64 (x6_3 + 1)), (by first | rfl | (simp; done) | (simp [*]; done)), (by first | exact H' | (rw [← Nbq16.out]; exact H')), ⟨by have := HJ2.out; have := HK2.out; have := HK3.out; omega⟩, by repeat (first | exact Drawn0.refl _ | apply Drawn0.step)⟩
          ·rw [if_neg c10] at H; have c10b0 : decide (x6_3 < a1) = false := decide_eq_false c10; clear c10; have H' := Aside0.mk H
           clear H; go_wp2
           go_roundg k3
           case measure => have := HJ2.out; have := HK2.out; have := HK3.out; omega
           case rel => exact ⟨(wrap64 (x5_2 + 1)), (by first | rfl | (simp; done) | (simp [*]; done)), (by first | exact H' | (rw [← Nbq16.out]; exact H')), ⟨by have := HJ2.out; have := HK2.out; have := HK3.out; omega⟩, by repeat (first | exact Drawn0.refl _ | apply Drawn0.step)⟩
       ·rw [if_neg c9] at H; have c9b0 : (((rd_L6 l0 x5_2).length : Int) == a1) = false := beq_eq_false_iff_ne.mpr c9; have c9b1 : (((rd_L6 l0 x5_2).length : Int) != a1) = true := bne_iff_ne.mpr c9; obtain rfl := Option.some.inj H
        have p197 : 0 ≤ (x5_2 : Int) := dtA; have q197 : x5_2 < (l0.length : Int) := dtA; obtain ⟨ad197, A197_0, c197_0, e197, hx197_0, hl197_0, hi197_0⟩ := at_L6 HR0.out x5_2 p197 q197
        cases e197
        have HR197_0 := Aside0.mk hi197_0; have HC197_0 := Aside0.mk hl197_0; clear hi197_0 hl197_0; replace p197 := eq_true p197; replace q197 := eq_true q197; go_wp2
        go_ret
        exact exD
      ·rw [if_neg c7] at H; have c7b0 : decide (x5_2 < (l0.length : Int)) = false := decide_eq_false c7; clear c7; obtain rfl := Option.some.inj H
       go_wp2
       go_ret
       exact exD

/-! ### hopperref24_Right: function 11 -/
def hopperref24_Right.l0 : Nat → List (S39) → Int → Int → Option (Bool)
 | 0, _, _, _ => none
 | k + 1, x0, x1, x5 => if x5 < (x0.length : Int) then (if 0 ≤ x5 then (if ((rd_T39 x0 x5).f0) < 0 then (some false) else (if ((rd_T39 x0 x5).f0) ≥ x1 then (some false) else (if ((rd_T39 x0 x5).f1) < 0 then (some false) else (if ((rd_T39 x0 x5).f1) > 2 then (some false) else (hopperref24_Right.l0 k x0 x1 (wrap64 (x5 + 1))))))) else (none)) else (some (decide ((x0.length : Int) ≤ 8)))
def hopperref24_Right.f (k : Nat) (l0 : List (S39)) (a1 : Int) : Option (Bool) := hopperref24_Right.l0 k l0 a1 0
theorem hopperref24_Right.calls (k : Nat) (A0 : Option Addr) (c0 : Nat) (l0 : List (S39)) (a1 : Int) (r : Bool) (w : World) (hr0 : Kd.C k39 w A0 l0.length l0) (hc0 : l0.length ≤ c0) (h : hopperref24_Right.f k l0 a1 = some r) :
  Calls Tryd.prog 11 #[.slice A0 l0.length c0, .int .i64 a1] w fun e w' => e = .returned (.bool r) ∧ Drawn0 w w' := by
 have HR0 := Aside0.mk hr0; have HC0 := Aside0.mk hc0; clear hr0 hc0; have H : (hopperref24_Right.l0 k l0 a1 0) = some r := h; clear h; have H' := Aside0.mk H
 clear H; go_enter Tryd.func11, Tryd.ntmps11
 go_wp2
 go_loopg [5] k (fun kq v5 w' => ∃ (x5_1 : Int), v5 = .int .i64 x5_1 ∧ Aside0 (hopperref24_Right.l0 kq l0 a1 x5_1 = some r) ∧ Aside0 (kq ≤ k) ∧ Drawn0 w w')
 case atStart => exact ⟨(0), (by first | rfl | (simp; done) | (simp [*]; done)), H', ⟨Nat.le_refl _⟩, by repeat (first | exact Drawn0.refl _ | apply Drawn0.step)⟩
 case round =>
  clear H'; try clear c1
  try clear p2
  obtain ⟨x5_1, rfl, HA, HK1, ⟨m1, rfl⟩⟩ := hrel
  cases gk with
  | zero => exact absurd HA.out (by simp [hopperref24_Right.l0])
  | succ k1 =>
   have H := HA.out; clear HA; simp only [hopperref24_Right.l0] at H
   by_cases c3 : x5_1 < (l0.length : Int)
   ·rw [if_pos c3] at H; have c3b0 : decide (x5_1 < (l0.length : Int)) = true := decide_eq_true c3; clear c3; by_cases c4 : 0 ≤ x5_1
    case neg => rw [if_neg c4] at H; exact absurd H (by simp)
    rw [if_pos c4] at H; have c4b0 : decide (0 ≤ x5_1) = true := decide_eq_true c4; clear c4; by_cases c5 : ((rd_T39 l0 x5_1).f0) < 0
    ·rw [if_pos c5] at H; have c5b0 : decide (((rd_T39 l0 x5_1).f0) < 0) = true := decide_eq_true c5; clear c5; obtain rfl := Option.some.inj H
     have p204 : 0 ≤ (x5_1 : Int) := dtA; have q204 : x5_1 < (l0.length : Int) := dtA; obtain ⟨ad204, e204, hx204_0, hx204_1, hx204_2⟩ := at_T39 HR0.out x5_1 p204 q204
     cases e204
     replace p204 := eq_true p204; replace q204 := eq_true q204; go_wp2
     go_ret
     exact exD
    ·rw [if_neg c5] at H; have c5b0 : decide (((rd_T39 l0 x5_1).f0) < 0) = false := decide_eq_false c5; clear c5; by_cases c6 : ((rd_T39 l0 x5_1).f0) ≥ a1
     ·rw [if_pos c6] at H; have c6b0 : decide (a1 ≤ ((rd_T39 l0 x5_1).f0)) = true := decide_eq_true c6; clear c6; obtain rfl := Option.some.inj H
      have p204 : 0 ≤ (x5_1 : Int) := dtA; have q204 : x5_1 < (l0.length : Int) := dtA; obtain ⟨ad204, e204, hx204_0, hx204_1, hx204_2⟩ := at_T39 HR0.out x5_1 p204 q204
      cases e204
      replace p204 := eq_true p204; replace q204 := eq_true q204; have p205 : 0 ≤ (x5_1 : Int) := dtA; have q205 : x5_1 < (l0.length : Int) := dtA; obtain ⟨ad205, e205, hx205_0, hx205_1, hx205_2⟩ := at_T39 HR0.out x5_1 p205 q205
      obtain rfl : ad204 = ad205 := (by injection e205)
      replace p205 := eq_true p205; replace q205 := eq_true q205; go_wp2
      go_ret
      exact exD
     ·rw [if_neg c6] at H; have c6b0 : decide (a1 ≤ ((rd_T39 l0 x5_1).f0)) = false := decide_eq_false c6; clear c6; by_cases c7 : ((rd_T39 l0 x5_1).f1) < 0
      ·rw [if_pos c7] at H; have c7b0 : decide (((rd_T39 l0 x5_1).f1) < 0) = true := decide_eq_true c7; clear c7; obtain rfl := Option.some.inj H
       have p204 : 0 ≤ (x5_1 : Int) := dtA; have q204 : x5_1 < (l0.length : Int) := dtA; obtain ⟨ad204, e204, hx204_0, hx204_1, hx204_2⟩ := at_T39 HR0.out x5_1 p204 q204
       cases e204
       replace p204 := eq_true p204; replace q204 := eq_true q204; have p205 : 0 ≤ (x5_1 : Int) := dtA; have q205 : x5_1 < (l0.length : Int) := dtA; obtain ⟨ad205, e205, hx205_0, hx205_1, hx205_2⟩ := at_T39 HR0.out x5_1 p205 q205
       obtain rfl : ad204 = ad205 := (by injection e205)
       replace p205 := eq_true p205; replace q205 := eq_true q205; have p206 : 0 ≤ (x5_1 : Int) := dtA; have q206 : x5_1 < (l0.length : Int) := dtA; obtain ⟨ad206, e206, hx206_0, hx206_1, hx206_2⟩ := at_T39 HR0.out x5_1 p206 q206
       obtain rfl : ad204 = ad206 := (by injection e206)
       replace p206 := eq_true p206; replace q206 := eq_true q206; go_wp2
       go_ret
       exact exD
      ·rw [if_neg c7] at H; have c7b0 : decide (((rd_T39 l0 x5_1).f1) < 0) = false := decide_eq_false c7; clear c7; by_cases c8 : ((rd_T39 l0 x5_1).f1) > 2
       ·rw [if_pos c8] at H; have c8b0 : decide (2 < ((rd_T39 l0 x5_1).f1)) = true := decide_eq_true c8; clear c8; obtain rfl := Option.some.inj H
        have p204 : 0 ≤ (x5_1 : Int) := dtA; have q204 : x5_1 < (l0.length : Int) := dtA; obtain ⟨ad204, e204, hx204_0, hx204_1, hx204_2⟩ := at_T39 HR0.out x5_1 p204 q204
        cases e204
        replace p204 := eq_true p204; replace q204 := eq_true q204; have p205 : 0 ≤ (x5_1 : Int) := dtA; have q205 : x5_1 < (l0.length : Int) := dtA; obtain ⟨ad205, e205, hx205_0, hx205_1, hx205_2⟩ := at_T39 HR0.out x5_1 p205 q205
        obtain rfl : ad204 = ad205 := (by injection e205)
        replace p205 := eq_true p205; replace q205 := eq_true q205; have p206 : 0 ≤ (x5_1 : Int) := dtA; have q206 : x5_1 < (l0.length : Int) := dtA; obtain ⟨ad206, e206, hx206_0, hx206_1, hx206_2⟩ := at_T39 HR0.out x5_1 p206 q206
        obtain rfl : ad204 = ad206 := (by injection e206)
        replace p206 := eq_true p206; replace q206 := eq_true q206; have p207 : 0 ≤ (x5_1 : Int) := dtA; have q207 : x5_1 < (l0.length : Int) := dtA; obtain ⟨ad207, e207, hx207_0, hx207_1, hx207_2⟩ := at_T39 HR0.out x5_1 p207 q207
        obtain rfl : ad204 = ad207 := (by injection e207)
        replace p207 := eq_true p207; replace q207 := eq_true q207; go_wp2
        go_ret
        exact exD
       ·rw [if_neg c8] at H; have c8b0 : decide (2 < ((rd_T39 l0 x5_1).f1)) = false := decide_eq_false c8; clear c8; have H' := Aside0.mk H
        clear H; have p204 : 0 ≤ (x5_1 : Int) := dtA; have q204 : x5_1 < (l0.length : Int) := dtA; obtain ⟨ad204, e204, hx204_0, hx204_1, hx204_2⟩ := at_T39 HR0.out x5_1 p204 q204
        cases e204
        replace p204 := eq_true p204; replace q204 := eq_true q204; have p205 : 0 ≤ (x5_1 : Int) := dtA; have q205 : x5_1 < (l0.length : Int) := dtA; obtain ⟨ad205, e205, hx205_0, hx205_1, hx205_2⟩ := at_T39 HR0.out x5_1 p205 q205
        obtain rfl : ad204 = ad205 := (by injection e205)
        replace p205 := eq_true p205; replace q205 := eq_true q205; have p206 : 0 ≤ (x5_1 : Int) := dtA; have q206 : x5_1 < (l0.length : Int) := dtA; obtain ⟨ad206, e206, hx206_0, hx206_1, hx206_2⟩ := at_T39 HR0.out x5_1 p206 q206
        obtain rfl : ad204 = ad206 := (by injection e206)
        replace p206 := eq_true p206; replace q206 := eq_true q206; have p207 : 0 ≤ (x5_1 : Int) := dtA; have q207 : x5_1 < (l0.length : Int) := dtA; obtain ⟨ad207, e207, hx207_0, hx207_1, hx207_2⟩ := at_T39 HR0.out x5_1 p207 q207
        obtain rfl : ad204 = ad207 := (by injection e207)
        replace p207 := eq_true p207; replace q207 := eq_true q207; go_wp2
        go_roundg k1
        case measure => have := HK1.out; omega
        case rel => exact ⟨(wrap64 (x5_1 + 1)), (by first | rfl | (simp; done) | (simp [*]; done)), H', ⟨by have := HK1.out; omega⟩, by repeat (first | exact Drawn0.refl _ | apply Drawn0.step)⟩
   ·rw [if_neg c3] at H; have c3b0 : decide (x5_1 < (l0.length : Int)) = false := decide_eq_false c3; clear c3; obtain rfl := Option.some.inj H
    go_wp2
    go_ret
    exact exD

end Go.Proofs.YtdojgfkcpaeacaaDoor.Q
