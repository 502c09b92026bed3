-- PRINTED by print.py (a twelfth state) out of the translation. Not trusted: Lean checks it.
import Derived.Test.YtdccooaddoafnaaGreatDoorQx0
namespace Go.Proofs.YtdccooaddoafnaaGreatDoor.Q
open Go.RowKit Go.Proofs.YtdccooaddoafnaaGreatDoorW.PrintWords Go.Proofs.YtdccooaddoafnaaGreatDoorW.PrintLast Go.Proofs.YtdccooaddoafnaaGreatDoorW.PrintMore
attribute [local go_sem] str_gtr str_geq str_leq max2_int min2_int max_two min_two max_three min_three max_four min_four
set_option linter.unusedVariables false
set_option maxHeartbeats 8000000
set_option maxRecDepth 1000000
set_option linter.unusedSimpArgs false

/-! ### hopperref16_Rows: function 8 -/
mutual
def hopperref16_Rows.j0 : Nat → List (List (S38)) → Int → Bool → Option (Bool)
 | 0, _, _, _ => none
 | k + 1, x0, x1, x17 => if x17 = true then (some false) else (hopperref16_Rows.l0 k x0 x1 0)
def hopperref16_Rows.l0 : Nat → List (List (S38)) → Int → Int → Option (Bool)
 | 0, _, _, _ => none
 | k + 1, x0, x1, x5 => if x5 < (x0.length : Int) then (if 0 ≤ x5 then (if ((rd_L7 x0 x5).length : Int) = x1 then (hopperref16_Rows.l1 k x0 x1 x5 0) else (some false)) else (none)) else (some true)
def hopperref16_Rows.l1 : Nat → List (List (S38)) → Int → Int → Int → Option (Bool)
 | 0, _, _, _, _ => none
 | k + 1, x0, x1, x5, x6 => if x6 < x1 then (if 0 ≤ x5 then (if x5 < (x0.length : Int) then (if 0 ≤ x6 then (if x6 < ((rd_L7 x0 x5).length : Int) then (if (((rd_T38 (rd_L7 x0 x5) x6).f1).size : Int) > 100 then (some false) else (if (rd_T38 (rd_L7 x0 x5) x6).f0 = true then (if ((rd_T38 (rd_L7 x0 x5) x6).f1).toList = ([] : List UInt8) then (hopperref16_Rows.l1 k x0 x1 x5 (wrap64 (x6 + 1))) else (some false)) else (hopperref16_Rows.l1 k x0 x1 x5 (wrap64 (x6 + 1))))) else (none)) else (none)) else (none)) else (none)) else (hopperref16_Rows.l0 k x0 x1 (wrap64 (x5 + 1)))
end
def hopperref16_Rows.f (k : Nat) (l0 : List (List (S38))) (a1 : Int) : Option (Bool) := if a1 < 1 then (hopperref16_Rows.j0 k l0 a1 true) else (if a1 > 8 then (hopperref16_Rows.j0 k l0 a1 true) else (hopperref16_Rows.j0 k l0 a1 (decide ((l0.length : Int) > 100))))
theorem hopperref16_Rows.calls (k : Nat) (A0 : Option Addr) (c0 : Nat) (l0 : List (List (S38))) (a1 : Int) (r : Bool) (w : World) (hr0 : Kd.C (Kd.slice 38 k38) w A0 l0.length l0) (hc0 : l0.length ≤ c0) (h : hopperref16_Rows.f k l0 a1 = some r) :
  Calls Tryz.prog 8 #[.slice A0 l0.length c0, .int .i64 a1] w fun e w' => e = .returned (.bool r) ∧ Drawn0 w w' := by
 have HR0 := Aside0.mk hr0; have HC0 := Aside0.mk hc0; clear hr0 hc0; have H : (if a1 < 1 then (hopperref16_Rows.j0 k l0 a1 true) else (if a1 > 8 then (hopperref16_Rows.j0 k l0 a1 true) else (hopperref16_Rows.j0 k l0 a1 (decide ((l0.length : Int) > 100))))) = some r := h; clear h; have HC3 := Aside0.mk H; clear H; go_enter Tryz.func8, Tryz.ntmps8
 go_upto_region 1 with (fail)
 go_cut [17] (fun v17 wc => ∃ (kq : Nat) (x17_2 : Bool), v17 = .bool x17_2 ∧ Aside0 (hopperref16_Rows.j0 kq l0 a1 x17_2 = some r) ∧ Aside0 (kq ≤ k) ∧ Drawn0 w wc)
 case first =>
  have H := HC3.out; clear HC3; by_cases c4 : a1 < 1
  ·rw [if_pos c4] at H; have c4b0 : decide (a1 < 1) = true := decide_eq_true c4; clear c4; (first | rw [c4b0] | (simp only [i64_w, i32_w]; rw [c4b0]) | skip)
   have H' := Aside0.mk H
   clear H; go_wp2
   go_meet
   case rel => exact ⟨_, (true), (by first | rfl | (simp; done) | (simp [*]; done)), H', ⟨by first | omega | exact Nat.le_refl _⟩, by repeat (first | exact Drawn0.refl _ | apply Drawn0.step)⟩
  ·rw [if_neg c4] at H; have c4b0 : decide (a1 < 1) = false := decide_eq_false c4; clear c4; (first | rw [c4b0] | (simp only [i64_w, i32_w]; rw [c4b0]) | skip)
   by_cases c5 : a1 > 8
   ·rw [if_pos c5] at H; have c5b0 : decide (8 < a1) = true := decide_eq_true c5; clear c5; have H' := Aside0.mk H
    clear H; go_wp2
    go_meet
    case rel => exact ⟨_, (true), (by first | rfl | (simp; done) | (simp [*]; done)), H', ⟨by first | omega | exact Nat.le_refl _⟩, by repeat (first | exact Drawn0.refl _ | apply Drawn0.step)⟩
   ·rw [if_neg c5] at H; have c5b0 : decide (8 < a1) = false := decide_eq_false c5; clear c5; have H' := Aside0.mk H
    clear H; go_wp2
    go_meet
    case rel => exact ⟨_, (decide ((l0.length : Int) > 100)), (by first | rfl | (simp; done) | (simp [*]; done)), H', ⟨by first | omega | exact Nat.le_refl _⟩, by repeat (first | exact Drawn0.refl _ | apply Drawn0.step)⟩
 case rest =>
  clear HC3; try clear p2
  try clear c4
  try clear c4b0
  try clear c5
  try clear c5b0
  obtain ⟨kq, x17_2, rfl, HA, HJ2, ⟨mc2, rfl⟩⟩ := hcut
  cases kq with
  | zero => exact absurd HA.out (by simp [hopperref16_Rows.j0])
  | succ kj2 =>
   have H := HA.out; clear HA; simp only [hopperref16_Rows.j0] at H
   by_cases c6 : x17_2 = true
   ·subst c6; have H1 : (some false) = some r := by rw [if_pos rfl] at H; exact H
    clear H; have H := H1; clear H1; obtain rfl := Option.some.inj H
    go_wp2
    go_ret
    exact exD
   ·replace c6 := Bool.eq_false_iff.mpr c6; subst c6; have H1 : (hopperref16_Rows.l0 kj2 l0 a1 0) = some r := by rw [if_neg (show ¬ (false = true) by decide)] at H; exact H
    clear H; have H := H1; clear H1; have H' := Aside0.mk H
    clear H; go_wp2
    go_loopg [5] kj2 (fun kq v5 w' => ∃ (x5_2 : Int), v5 = .int .i64 x5_2 ∧ Aside0 (hopperref16_Rows.l0 kq l0 a1 x5_2 = some r) ∧ Aside0 (kq ≤ kj2) ∧ Drawn0 w w')
    case atStart => exact ⟨(0), (by first | rfl | (simp; done) | (simp [*]; done)), H', ⟨Nat.le_refl _⟩, by repeat (first | exact Drawn0.refl _ | apply Drawn0.step)⟩
    case round =>
     clear H'; (try clear c2); (try clear p2); (try clear c4); (try clear c4b0); (try clear c5); (try clear c5b0); (try clear c6); (try clear p2); obtain ⟨x5_2, rfl, HA, HK2, ⟨m2, rfl⟩⟩ := hrel
     cases gk with
     | zero => exact absurd HA.out (by simp [hopperref16_Rows.l0])
     | succ k2 =>
      have H := HA.out; clear HA; simp only [hopperref16_Rows.l0] at H
      by_cases c7 : x5_2 < (l0.length : Int)
      ·rw [if_pos c7] at H; have c7b0 : decide (x5_2 < (l0.length : Int)) = true := decide_eq_true c7; clear c7; by_cases c8 : 0 ≤ x5_2
       case neg => rw [if_neg c8] at H; exact absurd H (by simp)
       rw [if_pos c8] at H; have c8b0 : decide (0 ≤ x5_2) = true := decide_eq_true c8; clear c8; by_cases c9 : ((rd_L7 l0 x5_2).length : Int) = a1
       ·rw [if_pos c9] at H; have c9b0 : (((rd_L7 l0 x5_2).length : Int) == a1) = true := beq_iff_eq.mpr c9; have c9b1 : (((rd_L7 l0 x5_2).length : Int) != a1) = false := bne_eq_false_iff_eq.mpr c9; clear c9; have H' := Aside0.mk H
        clear H; have p274 : 0 ≤ (x5_2 : Int) := dtA; have q274 : x5_2 < (l0.length : Int) := dtA; obtain ⟨ad274, A274_0, c274_0, e274, hx274_0, hl274_0, hi274_0⟩ := at_L7 HR0.out x5_2 p274 q274
        cases e274
        have HR274_0 := Aside0.mk hi274_0; have HC274_0 := Aside0.mk hl274_0; clear hi274_0 hl274_0; replace p274 := eq_true p274; replace q274 := eq_true q274; go_wp2
        go_loopg [6] k2 (fun kq v6 w' => ∃ (x6_3 : Int), v6 = .int .i64 x6_3 ∧ Aside0 (hopperref16_Rows.l1 kq l0 a1 x5_2 x6_3 = some r) ∧ Aside0 (kq ≤ k2) ∧ Drawn0 w w')
        case atStart => exact ⟨(0), (by first | rfl | (simp; done) | (simp [*]; done)), H', ⟨Nat.le_refl _⟩, by repeat (first | exact Drawn0.refl _ | apply Drawn0.step)⟩
        case round =>
         clear H'; (try clear c2); (try clear p2); (try clear q2); (try clear hx2); (try clear c4); (try clear c4b0); (try clear c5); (try clear c5b0); (try clear c6); (try clear c7); (try clear c7b0); (try clear c8); (try clear c8b0); (try clear c9); (try clear c9b0); (try clear c9b1); (try clear hx274_0); (try clear p2); (try clear p274); (try clear q274); obtain ⟨x6_3, rfl, HA, HK3, ⟨m3, rfl⟩⟩ := hrel
         cases gk with
         | zero => exact absurd HA.out (by simp [hopperref16_Rows.l1])
         | succ k3 =>
          have H := HA.out; clear HA; simp only [hopperref16_Rows.l1] at H
          by_cases c10 : x6_3 < a1
          ·rw [if_pos c10] at H; have c10b0 : decide (x6_3 < a1) = true := decide_eq_true c10; clear c10; by_cases c11 : 0 ≤ x5_2
           case neg => rw [if_neg c11] at H; exact absurd H (by simp)
           rw [if_pos c11] at H; have c11b0 : decide (0 ≤ x5_2) = true := decide_eq_true c11; clear c11; by_cases c12 : x5_2 < (l0.length : Int)
           case neg => rw [if_neg c12] at H; exact absurd H (by simp)
           rw [if_pos c12] at H; have c12b0 : decide (x5_2 < (l0.length : Int)) = true := decide_eq_true c12; clear c12; by_cases c13 : 0 ≤ x6_3
           case neg => rw [if_neg c13] at H; exact absurd H (by simp)
           rw [if_pos c13] at H; have c13b0 : decide (0 ≤ x6_3) = true := decide_eq_true c13; clear c13; by_cases c14 : x6_3 < ((rd_L7 l0 x5_2).length : Int)
           case neg => rw [if_neg c14] at H; exact absurd H (by simp)
           rw [if_pos c14] at H; have c14b0 : decide (x6_3 < ((rd_L7 l0 x5_2).length : Int)) = true := decide_eq_true c14; clear c14; by_cases c15 : (((rd_T38 (rd_L7 l0 x5_2) x6_3).f1).size : Int) > 100
           ·rw [if_pos c15] at H; have c15b0 : decide (100 < (((rd_T38 (rd_L7 l0 x5_2) x6_3).f1).size : Int)) = true := decide_eq_true c15; have c15b1 : decide (100 < ((rd_T38 (rd_L7 l0 x5_2) x6_3).f1).size) = true := decide_eq_true (by omega)
            clear c15; obtain rfl := Option.some.inj H
            have p275 : 0 ≤ (x5_2 : Int) := dtA; have q275 : x5_2 < (l0.length : Int) := dtA; obtain ⟨ad275, A275_0, c275_0, e275, hx275_0, hl275_0, hi275_0⟩ := at_L7 HR0.out x5_2 p275 q275
            obtain rfl : ad274 = ad275 := (by injection e275)
            have HR275_0 := Aside0.mk hi275_0; have HC275_0 := Aside0.mk hl275_0; clear hi275_0 hl275_0; replace p275 := eq_true p275; replace q275 := eq_true q275; have p276 : 0 ≤ (x6_3 : Int) := dtA; have q276 : x6_3 < ((rd_L7 l0 x5_2).length : Int) := dtA; obtain ⟨ad276, e276, hx276_0, hx276_1⟩ := at_T38 HR275_0.out x6_3 p276 q276
            cases e276
            replace p276 := eq_true p276; replace q276 := eq_true q276; go_wp2
            go_ret
            exact exD
           ·rw [if_neg c15] at H; have c15b0 : decide (100 < (((rd_T38 (rd_L7 l0 x5_2) x6_3).f1).size : Int)) = false := decide_eq_false c15; have c15b1 : decide (100 < ((rd_T38 (rd_L7 l0 x5_2) x6_3).f1).size) = false := decide_eq_false (by omega)
            clear c15; obtain ⟨bq16, hbq16⟩ : ∃ b_ : Bool, b_ = ((rd_T38 (rd_L7 l0 x5_2) x6_3).f0) := ⟨_, rfl⟩
            replace H : (if bq16 = true then (if ((rd_T38 (rd_L7 l0 x5_2) x6_3).f1).toList = ([] : List UInt8) then (hopperref16_Rows.l1 k3 l0 a1 x5_2 (wrap64 (x6_3 + 1))) else (some false)) else (hopperref16_Rows.l1 k3 l0 a1 x5_2 (wrap64 (x6_3 + 1)))) = some r := by rw [← hbq16] at H; exact H
            have Nbq16 := Aside0.mk hbq16; clear hbq16; by_cases c17 : bq16 = true
            ·subst c17; have H1 : (if ((rd_T38 (rd_L7 l0 x5_2) x6_3).f1).toList = ([] : List UInt8) then (hopperref16_Rows.l1 k3 l0 a1 x5_2 (wrap64 (x6_3 + 1))) else (some false)) = some r := by rw [if_pos rfl] at H; exact H
             clear H; have H := H1; clear H1; by_cases c18 : ((rd_T38 (rd_L7 l0 x5_2) x6_3).f1).toList = ([] : List UInt8)
             ·rw [if_pos c18] at H; have c18b0 : (((rd_T38 (rd_L7 l0 x5_2) x6_3).f1).toList == ([] : List UInt8)) = true := beq_iff_eq.mpr c18; have c18b1 : (((rd_T38 (rd_L7 l0 x5_2) x6_3).f1).toList != ([] : List UInt8)) = false := bne_eq_false_iff_eq.mpr c18; clear c18; have H' := Aside0.mk H
              clear H; have p275 : 0 ≤ (x5_2 : Int) := dtA; have q275 : x5_2 < (l0.length : Int) := dtA; obtain ⟨ad275, A275_0, c275_0, e275, hx275_0, hl275_0, hi275_0⟩ := at_L7 HR0.out x5_2 p275 q275
              obtain rfl : ad274 = ad275 := (by injection e275)
              have HR275_0 := Aside0.mk hi275_0; have HC275_0 := Aside0.mk hl275_0; clear hi275_0 hl275_0; replace p275 := eq_true p275; replace q275 := eq_true q275; have p276 : 0 ≤ (x6_3 : Int) := dtA; have q276 : x6_3 < ((rd_L7 l0 x5_2).length : Int) := dtA; obtain ⟨ad276, e276, hx276_0, hx276_1⟩ := at_T38 HR275_0.out x6_3 p276 q276
              (try rw [← Nbq16.out] at hx276_0)
              cases e276
              replace p276 := eq_true p276; replace q276 := eq_true q276; have p277 : 0 ≤ (x5_2 : Int) := dtA; have q277 : x5_2 < (l0.length : Int) := dtA; obtain ⟨ad277, A277_0, c277_0, e277, hx277_0, hl277_0, hi277_0⟩ := at_L7 HR0.out x5_2 p277 q277
              obtain rfl : ad274 = ad277 := (by injection e277)
              have HR277_0 := Aside0.mk hi277_0; have HC277_0 := Aside0.mk hl277_0; clear hi277_0 hl277_0; replace p277 := eq_true p277; replace q277 := eq_true q277; have ea_ := Option.some.inj (hx275_0.symm.trans hx277_0)
              injection ea_ with ea_ en_ ec_
              subst ea_; subst ec_; clear en_; have p278 : 0 ≤ (x6_3 : Int) := dtA; have q278 : x6_3 < ((rd_L7 l0 x5_2).length : Int) := dtA; obtain ⟨ad278, e278, hx278_0, hx278_1⟩ := at_T38 HR277_0.out x6_3 p278 q278
              (try rw [← Nbq16.out] at hx278_0)
              cases e278
              replace p278 := eq_true p278; replace q278 := eq_true q278; have p279 : 0 ≤ (x5_2 : Int) := dtA; have q279 : x5_2 < (l0.length : Int) := dtA; obtain ⟨ad279, A279_0, c279_0, e279, hx279_0, hl279_0, hi279_0⟩ := at_L7 HR0.out x5_2 p279 q279
              obtain rfl : ad274 = ad279 := (by injection e279)
              have HR279_0 := Aside0.mk hi279_0; have HC279_0 := Aside0.mk hl279_0; clear hi279_0 hl279_0; replace p279 := eq_true p279; replace q279 := eq_true q279; have ea_ := Option.some.inj (hx275_0.symm.trans hx279_0)
              injection ea_ with ea_ en_ ec_
              subst ea_; subst ec_; clear en_; have p280 : 0 ≤ (x6_3 : Int) := dtA; have q280 : x6_3 < ((rd_L7 l0 x5_2).length : Int) := dtA; obtain ⟨ad280, e280, hx280_0, hx280_1⟩ := at_T38 HR279_0.out x6_3 p280 q280
              (try rw [← Nbq16.out] at hx280_0)
              cases e280
              replace p280 := eq_true p280; replace q280 := eq_true q280; go_wp2
              go_roundg k3
              case measure => have := HJ2.out; have := HK2.out; have := HK3.out; omega
              case rel => exact ⟨(wrap64 (x6_3 + 1)), (by first | rfl | (simp; done) | (simp [*]; done)), (by first | exact H' | (rw [← Nbq16.out]; exact H')), ⟨by have := HJ2.out; have := HK2.out; have := HK3.out; omega⟩, by repeat (first | exact Drawn0.refl _ | apply Drawn0.step)⟩
             ·rw [if_neg c18] at H; have c18b0 : (((rd_T38 (rd_L7 l0 x5_2) x6_3).f1).toList == ([] : List UInt8)) = false := beq_eq_false_iff_ne.mpr c18; have c18b1 : (((rd_T38 (rd_L7 l0 x5_2) x6_3).f1).toList != ([] : List UInt8)) = true := bne_iff_ne.mpr c18; obtain rfl := Option.some.inj H
              have p275 : 0 ≤ (x5_2 : Int) := dtA; have q275 : x5_2 < (l0.length : Int) := dtA; obtain ⟨ad275, A275_0, c275_0, e275, hx275_0, hl275_0, hi275_0⟩ := at_L7 HR0.out x5_2 p275 q275
              obtain rfl : ad274 = ad275 := (by injection e275)
              have HR275_0 := Aside0.mk hi275_0; have HC275_0 := Aside0.mk hl275_0; clear hi275_0 hl275_0; replace p275 := eq_true p275; replace q275 := eq_true q275; have p276 : 0 ≤ (x6_3 : Int) := dtA; have q276 : x6_3 < ((rd_L7 l0 x5_2).length : Int) := dtA; obtain ⟨ad276, e276, hx276_0, hx276_1⟩ := at_T38 HR275_0.out x6_3 p276 q276
              (try rw [← Nbq16.out] at hx276_0)
              cases e276
              replace p276 := eq_true p276; replace q276 := eq_true q276; have p277 : 0 ≤ (x5_2 : Int) := dtA; have q277 : x5_2 < (l0.length : Int) := dtA; obtain ⟨ad277, A277_0, c277_0, e277, hx277_0, hl277_0, hi277_0⟩ := at_L7 HR0.out x5_2 p277 q277
              obtain rfl : ad274 = ad277 := (by injection e277)
              have HR277_0 := Aside0.mk hi277_0; have HC277_0 := Aside0.mk hl277_0; clear hi277_0 hl277_0; replace p277 := eq_true p277; replace q277 := eq_true q277; have ea_ := Option.some.inj (hx275_0.symm.trans hx277_0)
              injection ea_ with ea_ en_ ec_
              subst ea_; subst ec_; clear en_; have p278 : 0 ≤ (x6_3 : Int) := dtA; have q278 : x6_3 < ((rd_L7 l0 x5_2).length : Int) := dtA; obtain ⟨ad278, e278, hx278_0, hx278_1⟩ := at_T38 HR277_0.out x6_3 p278 q278
              (try rw [← Nbq16.out] at hx278_0)
              cases e278
              replace p278 := eq_true p278; replace q278 := eq_true q278; have p279 : 0 ≤ (x5_2 : Int) := dtA; have q279 : x5_2 < (l0.length : Int) := dtA; obtain ⟨ad279, A279_0, c279_0, e279, hx279_0, hl279_0, hi279_0⟩ := at_L7 HR0.out x5_2 p279 q279
              obtain rfl : ad274 = ad279 := (by injection e279)
              have HR279_0 := Aside0.mk hi279_0; have HC279_0 := Aside0.mk hl279_0; clear hi279_0 hl279_0; replace p279 := eq_true p279; replace q279 := eq_true q279; have ea_ := Option.some.inj (hx275_0.symm.trans hx279_0)
              injection ea_ with ea_ en_ ec_
              subst ea_; subst ec_; clear en_; have p280 : 0 ≤ (x6_3 : Int) := dtA; have q280 : x6_3 < ((rd_L7 l0 x5_2).length : Int) := dtA; obtain ⟨ad280, e280, hx280_0, hx280_1⟩ := at_T38 HR279_0.out x6_3 p280 q280
              (try rw [← Nbq16.out] at hx280_0)
              cases e280
              replace p280 := eq_true p280; replace q280 := eq_true q280; go_wp2
              go_ret
              exact exD
            ·replace c17 := Bool.eq_false_iff.mpr c17; subst c17; have H1 : (hopperref16_Rows.l1 k3 l0 a1 x5_2 (wrap64 (x6_3 + 1))) = some r := by rw [if_neg (show ¬ (false = true) by decide)] at H; exact H
             clear H; have H := H1; clear H1; have H' := Aside0.mk H
             clear H; have p275 : 0 ≤ (x5_2 : Int) := dtA; have q275 : x5_2 < (l0.length : Int) := dtA; obtain ⟨ad275, A275_0, c275_0, e275, hx275_0, hl275_0, hi275_0⟩ := at_L7 HR0.out x5_2 p275 q275
             obtain rfl : ad274 = ad275 := (by injection e275)
             have HR275_0 := Aside0.mk hi275_0; have HC275_0 := Aside0.mk hl275_0; clear hi275_0 hl275_0; replace p275 := eq_true p275; replace q275 := eq_true q275; have p276 : 0 ≤ (x6_3 : Int) := dtA; have q276 : x6_3 < ((rd_L7 l0 x5_2).length : Int) := dtA; obtain ⟨ad276, e276, hx276_0, hx276_1⟩ := at_T38 HR275_0.out x6_3 p276 q276
             (try rw [← Nbq16.out] at hx276_0)
             cases e276
             replace p276 := eq_true p276; replace q276 := eq_true q276; have p277 : 0 ≤ (x5_2 : Int) := dtA; have q277 : x5_2 < (l0.length : Int) := dtA; obtain ⟨ad277, A277_0, c277_0, e277, hx277_0, hl277_0, hi277_0⟩ := at_L7 HR0.out x5_2 p277 q277
             obtain rfl : ad274 = ad277 := (by injection e277)
             have HR277_0 := Aside0.mk hi277_0; have HC277_0 := Aside0.mk hl277_0; clear hi277_0 hl277_0; replace p277 := eq_true p277; replace q277 := eq_true q277; have ea_ := Option.some.inj (hx275_0.symm.trans hx277_0)
             injection ea_ with ea_ en_ ec_
             subst ea_; subst ec_; clear en_; have p278 : 0 ≤ (x6_3 : Int) := dtA; have q278 : x6_3 < ((rd_L7 l0 x5_2).length : Int) := dtA; obtain ⟨ad278, e278, hx278_0, hx278_1⟩ := at_T38 HR277_0.out x6_3 p278 q278
             (try rw [← Nbq16.out] at hx278_0)
             cases e278
             replace p278 := eq_true p278; replace q278 := eq_true q278; go_wp2
             go_roundg k3
             case measure => have := HJ2.out; have := HK2.out; have := HK3.out; omega
             case rel => exact ⟨(wrap64 (x6_3 + 1)), (by first | rfl | (simp; done) | (simp [*]; done)), (by first | exact H' | (rw [← Nbq16.out]; exact H')), ⟨by have := HJ2.out; have := HK2.out; have := HK3.out; omega⟩, by repeat (first | exact Drawn0.refl _ | apply Drawn0.step)⟩
          ·rw [if_neg c10] at H; have c10b0 : decide (x6_3 < a1) = false := decide_eq_false c10; clear c10; have H' := Aside0.mk H
           clear H; go_wp2
           go_roundg k3
           case measure => have := HJ2.out; have := HK2.out; have := HK3.out; omega
           case rel => exact ⟨(wrap64 (x5_2 + 1)), (by first | rfl | (simp; done) | (simp [*]; done)), (by first | exact H' | (rw [← Nbq16.out]; exact H')), ⟨by have := HJ2.out; have := HK2.out; have := HK3.out; omega⟩, by repeat (first | exact Drawn0.refl _ | apply Drawn0.step)⟩
       ·rw [if_neg c9] at H; have c9b0 : (((rd_L7 l0 x5_2).length : Int) == a1) = false := beq_eq_false_iff_ne.mpr c9; have c9b1 : (((rd_L7 l0 x5_2).length : Int) != a1) = true := bne_iff_ne.mpr c9; obtain rfl := Option.some.inj H
        have p274 : 0 ≤ (x5_2 : Int) := dtA; have q274 : x5_2 < (l0.length : Int) := dtA; obtain ⟨ad274, A274_0, c274_0, e274, hx274_0, hl274_0, hi274_0⟩ := at_L7 HR0.out x5_2 p274 q274
        cases e274
        have HR274_0 := Aside0.mk hi274_0; have HC274_0 := Aside0.mk hl274_0; clear hi274_0 hl274_0; replace p274 := eq_true p274; replace q274 := eq_true q274; go_wp2
        go_ret
        exact exD
      ·rw [if_neg c7] at H; have c7b0 : decide (x5_2 < (l0.length : Int)) = false := decide_eq_false c7; clear c7; obtain rfl := Option.some.inj H
       go_wp2
       go_ret
       exact exD

/-! ### hopperref16_bit: function 19 -/
def hopperref16_bit.f (a0 : Bool) : Option (Int) := if a0 = true then (some 1) else (some 0)
theorem hopperref16_bit.calls (a0 : Bool) (r : Int) (w : World) (h : hopperref16_bit.f a0 = some r) :
  Calls Tryz.prog 19 #[.bool a0] w fun e w' => e = .returned (.int .i64 r) ∧ Drawn0 w w' := by
 have H : (if a0 = true then (some 1) else (some 0)) = some r := h; clear h; by_cases c2 : a0 = true
 ·subst c2; have H1 : (some 1) = some r := by rw [if_pos rfl] at H; exact H
  clear H; have H := H1; clear H1; obtain rfl := Option.some.inj H
  go_enter Tryz.func19, Tryz.ntmps19
  go_wp2
  go_ret
  exact exD
 ·replace c2 := Bool.eq_false_iff.mpr c2; subst c2; have H1 : (some 0) = some r := by rw [if_neg (show ¬ (false = true) by decide)] at H; exact H
  clear H; have H := H1; clear H1; obtain rfl := Option.some.inj H
  go_enter Tryz.func19, Tryz.ntmps19
  go_wp2
  go_ret
  exact exD

/-! ### hopperref16_has: function 21 -/
def hopperref16_has.l0 : Nat → ByteArray → ByteArray → Int → Option (Bool)
 | 0, _, _, _ => none
 | k + 1, x0, x1, x5 => if (wrap64 (x5 + (x1.size : Int))) ≤ (x0.size : Int) then (if 0 ≤ x5 then (if x5 ≤ (wrap64 (x5 + (x1.size : Int))) then (if (x0.extract (x5 : Int).toNat ((wrap64 (x5 + (x1.size : Int))) : Int).toNat).toList = x1.toList then (some true) else (hopperref16_has.l0 k x0 x1 (wrap64 (x5 + 1)))) else (none)) else (none)) else (some false)
def hopperref16_has.f (k : Nat) (a0 : ByteArray) (a1 : ByteArray) : Option (Bool) := hopperref16_has.l0 k a0 a1 0
theorem hopperref16_has.calls (k : Nat) (a0 : ByteArray) (a1 : ByteArray) (r : Bool) (w : World) (h : hopperref16_has.f k a0 a1 = some r) :
  Calls Tryz.prog 21 #[.string a0, .string a1] w fun e w' => e = .returned (.bool r) ∧ Drawn0 w w' := by
 have H : (hopperref16_has.l0 k a0 a1 0) = some r := h; clear h; have H' := Aside0.mk H
 clear H; go_enter Tryz.func21, Tryz.ntmps21
 go_wp2
 go_loopg [5] k (fun kq v5 w' => ∃ (x5_1 : Int), v5 = .int .i64 x5_1 ∧ Aside0 (hopperref16_has.l0 kq a0 a1 x5_1 = some r) ∧ Aside0 (kq ≤ k) ∧ Drawn0 w w')
 case atStart => exact ⟨(0), (by first | rfl | (simp; done) | (simp [*]; done)), H', ⟨Nat.le_refl _⟩, by repeat (first | exact Drawn0.refl _ | apply Drawn0.step)⟩
 case round =>
  clear H'; try clear c2
  try clear p2
  obtain ⟨x5_1, rfl, HA, HK1, ⟨m1, rfl⟩⟩ := hrel
  cases gk with
  | zero => exact absurd HA.out (by simp [hopperref16_has.l0])
  | succ k1 =>
   have H := HA.out; clear HA; simp only [hopperref16_has.l0] at H
   by_cases c3 : (wrap64 (x5_1 + (a1.size : Int))) ≤ (a0.size : Int)
   ·rw [if_pos c3] at H; have c3b0 : decide ((wrap64 (x5_1 + (a1.size : Int))) ≤ (a0.size : Int)) = true := decide_eq_true c3; clear c3; by_cases c4 : 0 ≤ x5_1
    case neg => rw [if_neg c4] at H; exact absurd H (by simp)
    rw [if_pos c4] at H; have c4b0 := eq_true c4; have c4b1 : decide (0 ≤ x5_1) = true := decide_eq_true c4; clear c4; by_cases c5 : x5_1 ≤ (wrap64 (x5_1 + (a1.size : Int)))
    case neg => rw [if_neg c5] at H; exact absurd H (by simp)
    rw [if_pos c5] at H; have c5b0 := eq_true c5; have c5b1 : decide (x5_1 ≤ (wrap64 (x5_1 + (a1.size : Int)))) = true := decide_eq_true c5; have c6b0 := eq_true (dtA : (wrap64 (x5_1 + (a1.size : Int))) ≤ (a0.size : Int))
    by_cases c7 : (a0.extract (x5_1 : Int).toNat ((wrap64 (x5_1 + (a1.size : Int))) : Int).toNat).toList = a1.toList
    ·rw [if_pos c7] at H; have c7b0 : ((a0.extract (x5_1 : Int).toNat ((wrap64 (x5_1 + (a1.size : Int))) : Int).toNat).toList == a1.toList) = true := beq_iff_eq.mpr c7; have c7b1 : ((a0.extract (x5_1 : Int).toNat ((wrap64 (x5_1 + (a1.size : Int))) : Int).toNat).toList != a1.toList) = false := bne_eq_false_iff_eq.mpr c7; clear c7; obtain rfl := Option.some.inj H
     go_wp2
     go_ret
     exact exD
    ·rw [if_neg c7] at H; have c7b0 : ((a0.extract (x5_1 : Int).toNat ((wrap64 (x5_1 + (a1.size : Int))) : Int).toNat).toList == a1.toList) = false := beq_eq_false_iff_ne.mpr c7; have c7b1 : ((a0.extract (x5_1 : Int).toNat ((wrap64 (x5_1 + (a1.size : Int))) : Int).toNat).toList != a1.toList) = true := bne_iff_ne.mpr c7; have H' := Aside0.mk H
     clear H; go_wp2
     go_roundg k1
     case measure => have := HK1.out; omega
     case rel => exact ⟨(wrap64 (x5_1 + 1)), (by first | rfl | (simp; done) | (simp [*]; done)), H', ⟨by have := HK1.out; omega⟩, by repeat (first | exact Drawn0.refl _ | apply Drawn0.step)⟩
   ·rw [if_neg c3] at H; have c3b0 : decide ((wrap64 (x5_1 + (a1.size : Int))) ≤ (a0.size : Int)) = false := decide_eq_false c3; clear c3; obtain rfl := Option.some.inj H
    go_wp2
    go_ret
    exact exD

/-! ### hopperref16_Says: function 10 -/
-- told by hand
def bitS (b : Bool) : Int := if b = true then 1 else 0
def refLeaf (k : Nat) (p : S24) (v : S38) : Option Int := if p.f0 = 11 then none else if v.f0 = true then (if p.f0 < 12 then some 2 else none) else if p.f0 = 7 then none else if p.f0 = 8 then none else if p.f0 = 9 then (hopperref16_has.f k v.f1 p.f2).map bitS else none
def refSaysP : Nat → S24 → List S38 → Option Int
 | 0, _, _ => none
 | k + 1, p, row => if 12 ≤ p.f0 ∧ p.f0 ≤ 14 then none else if 0 ≤ p.f1 then if p.f1 < (row.length : Int) then refLeaf k p (rd_T38 row p.f1) else none else none
def hopperref16_Says.f (k : Nat) (a0_0 : Int) (a0_1 : Int) (a0_2 : ByteArray) (a0_3 : Int) (a0_4 : Int) (l0_5 : List S24) (l1 : List S38) : Option Int := refSaysP k ⟨a0_0, a0_1, a0_2, a0_3, a0_4, l0_5⟩ l1
/-- What a step below tells of the function itself. -/
def hopperref16_Says.IH (k : Nat) : Prop := ∀ (p : S24) (cs : List Value) (A1 : Option Addr) (c1 : Nat) (row : List S38) (r : Int) (w : World), k24.K w p cs → Kd.C k38 w A1 row.length row → row.length ≤ c1 → refSaysP k p row = some r →
  Calls Tryz.prog 10 #[.agg cs.toArray, .slice A1 row.length c1] w fun e w' => e = .returned (.int .i64 r) ∧ Below w.heap.size w w'
theorem hopperref16_Says.unk (k : Nat) (p : S24) (cs : List Value) (kd : Int) (A1 : Option Addr) (c1 : Nat) (row : List S38) (j : Nat) (vn : Bool) (vs : ByteArray) (w : World) (hL : cs.length = 6) (h0 : cs[0]? = some (.int .i64 kd)) (h1 : cs[1]? = some (.int .i64 (j : Int))) (h2 : cs[2]? = some (.string p.f2)) (h3 : cs[3]? = some (.int .i64 p.f3)) (h4 : cs[4]? = some (.int .i64 p.f4)) (hj : j < row.length) (ad : Addr) (hA : A1 = some ad) (hn : row.length ≤ 9223372036854775807) (hcell : ∀ t v, ([Value.bool vn, Value.string vs] : List Value)[t]? = some v → w.cell? ((ad.add (j * 2)).add t) = some v) (hk : kd ≠ 11) (hk2 : kd < 12) (hv : vn = true) :
  Calls Tryz.prog 10 #[.agg cs.toArray, .slice A1 row.length c1] w fun e w' => e = .returned (.int .i64 2) ∧ Below w.heap.size w w' := by
 subst hA; have hup := Tryz.underlying24; have huv := Tryz.underlying38; have HAGG := Aside0.mk (show ∀ W, (isAgg 24).run Tryz.prog W = .ok true W from fun W => by first | exact Tryz.isAgg24 | exact Tryz.isAgg24 W | go_simp)
 have HSZ := Aside0.mk (show ∀ W, (sizeOf 24).run Tryz.prog W = .ok 6 W from fun W => by first | exact Tryz.sizeOf24 | exact Tryz.sizeOf24 W | go_simp)
 have HAGGV := Aside0.mk (show ∀ W, (isAgg 38).run Tryz.prog W = .ok true W from fun W => by first | exact Tryz.isAgg38 | exact Tryz.isAgg38 W | go_simp)
 have HSZV := Aside0.mk (show ∀ W, (sizeOf 38).run Tryz.prog W = .ok 2 W from fun W => by first | exact Tryz.sizeOf38 | exact Tryz.sizeOf38 W | go_simp)
 have HL6 := Aside0.mk hL; have H0 := Aside0.mk h0; have H1 := Aside0.mk h1; have H2 := Aside0.mk h2; have H3 := Aside0.mk h3; have H4 := Aside0.mk h4; have HCELL := Aside0.mk hcell; have hjz : (j : Int) < (row.length : Int) := by omega
 have hj0 : (0 : Int) ≤ (j : Int) := by omega
 have HBIT := Aside0.mk (fun (b : Bool) (W : World) => hopperref16_bit.calls b (if b = true then 1 else 0) W (by unfold hopperref16_bit.f; cases b <;> rfl))
 clear hL h0 h1 h2 h3 h4 hcell hn; subst hv; have q11 : (kd == 11) = false := beq_eq_false_iff_ne.mpr hk; have q12 : decide (12 ≤ kd) = false := decide_eq_false (by omega)
 clear hk hk2; go_enter Tryz.func10, Tryz.ntmps10
 go_wp2_with (first
  | ((with_reducible refine gate_dst (N := 2) rfl ?_); refine box_all rfl rfl (cs := cs.toArray) rfl (fun W => by rw [List.size_toArray, HL6.out]; exact HSZ.out W) ?_; intro w1 hbx hbw; have BW1 := Aside0.mk hbw; have BX1 := Aside0.mk hbx; have hcv0 : w1.cell? ⟨w.heap.size, 0, none⟩ = some _ := blk_cells BX1.out 0 _ H0.out; have hcv1 : w1.cell? ⟨w.heap.size, 1, none⟩ = some _ := blk_cells BX1.out 1 _ H1.out; clear hbx hbw)
  | ((with_reducible refine gate_dst (N := 90) rfl ?_); refine load_all rfl rfl (cs := [.bool true, .string vs]) rfl HAGGV.out (fun W => HSZV.out W) (fun j v hj => (BW1.out.cell (World.block_lt_of_cell? w _ (HCELL.out j v hj))).trans (HCELL.out j v hj)) ?_)
  | ((with_reducible refine gate_store (t := 38) (p := 10) rfl ?_); refine store_all (g := w1.heap.size) (cs := #[.bool true, .string vs]) (t' := 38) rfl rfl rfl rfl rfl (fun W => HSZV.out W) (heap_alloc_new w1 _) rfl (fun u hu => by have h2 : u = Value.bool true ∨ u = Value.string vs := (by simpa using hu); rcases h2 with rfl | rfl <;> rfl) ?_; intro w3 hbx hoth hs3 hos htp hou; have B3 := Aside0.mk (show Below w1.heap.size w1 w3 from ⟨by rw [hos]; rfl, by rw [htp]; rfl, by rw [hou]; rfl, by rw [hs3]; simp, fun k hk => by rw [hoth k (Nat.ne_of_lt hk)]; exact Below.heap_alloc w1 _ k hk⟩); have BW3 := Aside0.mk (below_step BW1.out B3.out); have BX3 := Aside0.mk (blk_keep B3.out BX1.out); have BV3 := Aside0.mk hbx; have hvn : w3.cell? ⟨w1.heap.size, 0, none⟩ = some (.bool true) := blk_cells (cs := [.bool true, .string vs]) hbx 0 _ rfl; have hvs : w3.cell? ⟨w1.heap.size, 1, none⟩ = some (.string vs) := blk_cells (cs := [.bool true, .string vs]) hbx 1 _ rfl; clear hcv0 hcv1; have hcv0 : w3.cell? ⟨w.heap.size, 0, none⟩ = some _ := blk_cells BX3.out 0 _ H0.out; have hcv1 : w3.cell? ⟨w.heap.size, 1, none⟩ = some _ := blk_cells BX3.out 1 _ H1.out; clear hbx hoth hs3 hos htp hou))
 all_goals go_ret
 exact ⟨rfl, BW3.out⟩
theorem hopperref16_Says.has (k : Nat) (p : S24) (cs : List Value) (kd : Int) (A1 : Option Addr) (c1 : Nat) (row : List S38) (j : Nat) (vn : Bool) (vs : ByteArray) (w : World) (hL : cs.length = 6) (h0 : cs[0]? = some (.int .i64 kd)) (h1 : cs[1]? = some (.int .i64 (j : Int))) (h2 : cs[2]? = some (.string p.f2)) (h3 : cs[3]? = some (.int .i64 p.f3)) (h4 : cs[4]? = some (.int .i64 p.f4)) (hj : j < row.length) (ad : Addr) (hA : A1 = some ad) (hn : row.length ≤ 9223372036854775807) (hcell : ∀ t v, ([Value.bool vn, Value.string vs] : List Value)[t]? = some v → w.cell? ((ad.add (j * 2)).add t) = some v) (hk : kd = 9) (hv : vn = false) (b : Bool) (h : hopperref16_has.f k vs p.f2 = some b) :
  Calls Tryz.prog 10 #[.agg cs.toArray, .slice A1 row.length c1] w fun e w' => e = .returned (.int .i64 (bitS b)) ∧ Below w.heap.size w w' := by
 subst hA; have hup := Tryz.underlying24; have huv := Tryz.underlying38; have HAGG := Aside0.mk (show ∀ W, (isAgg 24).run Tryz.prog W = .ok true W from fun W => by first | exact Tryz.isAgg24 | exact Tryz.isAgg24 W | go_simp)
 have HSZ := Aside0.mk (show ∀ W, (sizeOf 24).run Tryz.prog W = .ok 6 W from fun W => by first | exact Tryz.sizeOf24 | exact Tryz.sizeOf24 W | go_simp)
 have HAGGV := Aside0.mk (show ∀ W, (isAgg 38).run Tryz.prog W = .ok true W from fun W => by first | exact Tryz.isAgg38 | exact Tryz.isAgg38 W | go_simp)
 have HSZV := Aside0.mk (show ∀ W, (sizeOf 38).run Tryz.prog W = .ok 2 W from fun W => by first | exact Tryz.sizeOf38 | exact Tryz.sizeOf38 W | go_simp)
 have HL6 := Aside0.mk hL; have H0 := Aside0.mk h0; have H1 := Aside0.mk h1; have H2 := Aside0.mk h2; have H3 := Aside0.mk h3; have H4 := Aside0.mk h4; have HCELL := Aside0.mk hcell; have hjz : (j : Int) < (row.length : Int) := by omega
 have hj0 : (0 : Int) ≤ (j : Int) := by omega
 have HBIT := Aside0.mk (fun (b : Bool) (W : World) => hopperref16_bit.calls b (if b = true then 1 else 0) W (by unfold hopperref16_bit.f; cases b <;> rfl))
 clear hL h0 h1 h2 h3 h4 hcell hn; subst hv; subst hk; have HX := Aside0.mk (fun W (hb : Below w.heap.size w W) => ((hopperref16_has.calls k vs p.f2 b W h).mono (fun e w' hh => ⟨hh.1, hh.2.below⟩) : Calls Tryz.prog 21 #[.string vs, .string p.f2] W fun e w' => e = .returned (.bool b) ∧ Below W.heap.size W w'))
 clear h; go_enter Tryz.func10, Tryz.ntmps10
 go_wp2_with (first
  | ((with_reducible refine gate_dst (N := 2) rfl ?_); refine box_all rfl rfl (cs := cs.toArray) rfl (fun W => by rw [List.size_toArray, HL6.out]; exact HSZ.out W) ?_; intro w1 hbx hbw; have BW1 := Aside0.mk hbw; have BX1 := Aside0.mk hbx; have hcv0 : w1.cell? ⟨w.heap.size, 0, none⟩ = some _ := blk_cells BX1.out 0 _ H0.out; have hcv1 : w1.cell? ⟨w.heap.size, 1, none⟩ = some _ := blk_cells BX1.out 1 _ H1.out; have hcv2 : w1.cell? ⟨w.heap.size, 2, none⟩ = some _ := blk_cells BX1.out 2 _ H2.out; clear hbx hbw)
  | ((with_reducible refine gate_dst (N := 90) rfl ?_); refine load_all rfl rfl (cs := [.bool false, .string vs]) rfl HAGGV.out (fun W => HSZV.out W) (fun j v hj => (BW1.out.cell (World.block_lt_of_cell? w _ (HCELL.out j v hj))).trans (HCELL.out j v hj)) ?_)
  | ((with_reducible refine gate_store (t := 38) (p := 10) rfl ?_); refine store_all (g := w1.heap.size) (cs := #[.bool false, .string vs]) (t' := 38) rfl rfl rfl rfl rfl (fun W => HSZV.out W) (heap_alloc_new w1 _) rfl (fun u hu => by have h2 : u = Value.bool false ∨ u = Value.string vs := (by simpa using hu); rcases h2 with rfl | rfl <;> rfl) ?_; intro w3 hbx hoth hs3 hos htp hou; have B3 := Aside0.mk (show Below w1.heap.size w1 w3 from ⟨by rw [hos]; rfl, by rw [htp]; rfl, by rw [hou]; rfl, by rw [hs3]; simp, fun k hk => by rw [hoth k (Nat.ne_of_lt hk)]; exact Below.heap_alloc w1 _ k hk⟩); have BW3 := Aside0.mk (below_step BW1.out B3.out); have BX3 := Aside0.mk (blk_keep B3.out BX1.out); have BV3 := Aside0.mk hbx; have hvn : w3.cell? ⟨w1.heap.size, 0, none⟩ = some (.bool false) := blk_cells (cs := [.bool false, .string vs]) hbx 0 _ rfl; have hvs : w3.cell? ⟨w1.heap.size, 1, none⟩ = some (.string vs) := blk_cells (cs := [.bool false, .string vs]) hbx 1 _ rfl; clear hcv0 hcv1 hcv2; have hcv0 : w3.cell? ⟨w.heap.size, 0, none⟩ = some _ := blk_cells BX3.out 0 _ H0.out; have hcv1 : w3.cell? ⟨w.heap.size, 1, none⟩ = some _ := blk_cells BX3.out 1 _ H1.out; have hcv2 : w3.cell? ⟨w.heap.size, 2, none⟩ = some _ := blk_cells BX3.out 2 _ H2.out; clear hbx hoth hs3 hos htp hou)
  | (go_at_call 21; refine (HX.out _ BW3.out).mono ?_; rintro e w6 ⟨rfl, hb6⟩; have BW6 := Aside0.mk (below_step BW3.out hb6); clear hb6)
  | (go_at_call 19; refine (HBIT.out _ _).mono ?_; rintro e w7 ⟨rfl, hd7⟩; have BW9 := Aside0.mk (below_step BW6.out hd7.below); clear hd7))
 all_goals go_ret
 all_goals exact ⟨rfl, BW9.out⟩
theorem hopperref16_Says.core (k : Nat) : hopperref16_Says.IH k := by
 induction k with
 | zero => intro p cs A1 c1 row r w _ _ _ h; cases h
 | succ k ih =>
 intro p cs A1 c1 row r w hK hrow hc1 h
 simp only [refSaysP] at h
 have hL : cs.length = 6 := k24.K_len hK; obtain ⟨A5, c5, ecs, hl5, hk5⟩ := k24_open hK
 have h0 : cs[0]? = some (.int .i64 p.f0) := by rw [ecs]; rfl
 have h1 : cs[1]? = some (.int .i64 p.f1) := by rw [ecs]; rfl
 have h2 : cs[2]? = some (.string p.f2) := by rw [ecs]; rfl
 have h3 : cs[3]? = some (.int .i64 p.f3) := by rw [ecs]; rfl
 have h4 : cs[4]? = some (.int .i64 p.f4) := by rw [ecs]; rfl
 have h5 : cs[5]? = some (.slice A5 p.f5.length c5) := by rw [ecs]; rfl
 by_cases q : 12 ≤ p.f0 ∧ p.f0 ≤ 14
 ·rw [if_pos q] at h; cases h
 rw [if_neg q] at h; by_cases g0 : 0 ≤ p.f1
 case neg => rw [if_neg g0] at h; cases h
 rw [if_pos g0] at h; by_cases gi : p.f1 < (row.length : Int)
 case neg => rw [if_neg gi] at h; cases h
 rw [if_pos gi] at h; obtain ⟨j, ej⟩ : ∃ j : Nat, p.f1 = (j : Int) := ⟨p.f1.toNat, by omega⟩
 rw [ej] at h1 h gi
 have hj : j < row.length := by omega
 obtain ⟨ad, c, e0, hcl, hKu, hcell⟩ := Kd.C_elem hrow z38 j hj
 have e2 : rd_T38 row (j : Int) = row.getD j z38 := by unfold rd_T38; rw [show ((j : Int)).toNat = j by omega]
 rw [e2] at h
 generalize row.getD j z38 = v at h hKu
 obtain rfl := k38_open hKu
 obtain ⟨vn, vs⟩ := v; replace hcell : ∀ t u, ([Value.bool vn, Value.string vs] : List Value)[t]? = some u → w.cell? ((ad.add (j * 2)).add t) = some u := hcell
 have hn : row.length ≤ 9223372036854775807 := hrow.2.1; unfold refLeaf at h
 simp only at h
 by_cases q11 : p.f0 = 11
 ·rw [if_pos q11] at h; cases h
 rw [if_neg q11] at h
 cases vn with
 | true =>
  rw [if_pos rfl] at h; by_cases q12 : p.f0 < 12
  ·rw [if_pos q12] at h; obtain rfl := Option.some.inj h; exact hopperref16_Says.unk k p cs p.f0 A1 c1 row j true vs w hL h0 h1 h2 h3 h4 hj ad e0 hn hcell q11 q12 rfl
  ·rw [if_neg q12] at h; cases h
 | false =>
 rw [if_neg (by decide)] at h
 by_cases q7 : p.f0 = 7
 ·rw [if_pos q7] at h; cases h
 rw [if_neg q7] at h; by_cases q8 : p.f0 = 8
 ·rw [if_pos q8] at h; cases h
 rw [if_neg q8] at h; by_cases q9 : p.f0 = 9
 ·rw [if_pos q9] at h; obtain ⟨b, hb, rfl⟩ := Option.map_eq_some_iff.1 h
  exact hopperref16_Says.has k p cs p.f0 A1 c1 row j false vs w hL h0 h1 h2 h3 h4 hj ad e0 hn hcell q9 rfl b hb
 rw [if_neg q9] at h; cases h
theorem hopperref16_Says.calls (k : Nat) (a0_0 : Int) (a0_1 : Int) (a0_2 : ByteArray) (a0_3 : Int) (a0_4 : Int) (A0_5 : Option Addr) (c0_5 : Nat) (l0_5 : List (S24)) (A1 : Option Addr) (c1 : Nat) (l1 : List (S38)) (r : Int) (w : World) (hr0_5 : Kd.C k24 w A0_5 l0_5.length l0_5) (hc0_5 : l0_5.length ≤ c0_5) (hr1 : Kd.C k38 w A1 l1.length l1) (hc1 : l1.length ≤ c1) (h : hopperref16_Says.f k a0_0 a0_1 a0_2 a0_3 a0_4 l0_5 l1 = some r) :
  Calls Tryz.prog 10 #[.agg #[.int .i64 a0_0, .int .i64 a0_1, .string a0_2, .int .i64 a0_3, .int .i64 a0_4, .slice A0_5 l0_5.length c0_5], .slice A1 l1.length c1] w fun e w' => e = .returned (.int .i64 r) ∧ Below w.heap.size w w' :=
 hopperref16_Says.core k ⟨a0_0, a0_1, a0_2, a0_3, a0_4, l0_5⟩ _ A1 c1 l1 r w (k24_mk w ⟨a0_0, a0_1, a0_2, a0_3, a0_4, l0_5⟩ hc0_5 hr0_5) hr1 hc1 h

end Go.Proofs.YtdccooaddoafnaaGreatDoor.Q
