-- PRINTED by print.py (a twelfth state) out of the translation. Not trusted: Lean checks it.
import Derived.Test.YtdccooaddoafnaaGreatDoorQx0
import Derived.Test.YtdccooaddoafnaaGreatDoorQx15
namespace Go.Proofs.YtdccooaddoafnaaGreatDoor.Q
open Go.RowKit Go.Proofs.YtdccooaddoafnaaGreatDoorW.PrintWords Go.Proofs.YtdccooaddoafnaaGreatDoorW.PrintLast Go.Proofs.YtdccooaddoafnaaGreatDoorW.PrintMore
attribute [local go_sem] str_gtr str_geq str_leq max2_int min2_int max_two min_two max_three min_three max_four min_four
set_option linter.unusedVariables false
set_option maxHeartbeats 8000000
set_option maxRecDepth 100000
set_option linter.unusedSimpArgs false

/-! ### hopperref08_Point: function 74 -/
mutual
def hopperref08_Point.j0 : Nat → ByteArray → Int → Bool → Option (Int × Int)
 | 0, _, _, _ => none
 | k + 1, x0, x4, x28 => if x28 = true then (if 1 < (x0.size : Int) then (some (wrap64 ((wrap64 ((wrap64 ((wrap64 (x4 - 192)) * 64)) + (wrap64 (bt x0 1)))) - 128), 2)) else (none)) else (if x4 ≥ 224 then (if x4 < 240 then (if (x0.size : Int) > 2 then (if 1 < (x0.size : Int) then ((hopperref08_tail.f (bt x0 1)).bind fun t325 => (if t325 = true then (if 2 < (x0.size : Int) then ((hopperref08_tail.f (bt x0 2)).bind fun t326 => (hopperref08_Point.j1 k x0 x4 t326)) else (none)) else (hopperref08_Point.j1 k x0 x4 false))) else (none)) else (hopperref08_Point.j1 k x0 x4 false)) else (hopperref08_Point.j1 k x0 x4 false)) else (hopperref08_Point.j1 k x0 x4 false))
def hopperref08_Point.j1 : Nat → ByteArray → Int → Bool → Option (Int × Int)
 | 0, _, _, _ => none
 | k + 1, x0, x4, x57 => if x57 = true then (if 1 < (x0.size : Int) then (if 2 < (x0.size : Int) then (if (wrap64 ((wrap64 ((wrap64 ((wrap64 ((wrap64 (x4 - 224)) * 4096)) + (wrap64 ((wrap64 ((wrap64 (bt x0 1)) - 128)) * 64)))) + (wrap64 (bt x0 2)))) - 128)) ≥ 2048 then (if (wrap64 ((wrap64 ((wrap64 ((wrap64 ((wrap64 (x4 - 224)) * 4096)) + (wrap64 ((wrap64 ((wrap64 (bt x0 1)) - 128)) * 64)))) + (wrap64 (bt x0 2)))) - 128)) < 55296 then (some (wrap64 ((wrap64 ((wrap64 ((wrap64 ((wrap64 (x4 - 224)) * 4096)) + (wrap64 ((wrap64 ((wrap64 (bt x0 1)) - 128)) * 64)))) + (wrap64 (bt x0 2)))) - 128), 3)) else (if (wrap64 ((wrap64 ((wrap64 ((wrap64 ((wrap64 (x4 - 224)) * 4096)) + (wrap64 ((wrap64 ((wrap64 (bt x0 1)) - 128)) * 64)))) + (wrap64 (bt x0 2)))) - 128)) > 57343 then (some (wrap64 ((wrap64 ((wrap64 ((wrap64 ((wrap64 (x4 - 224)) * 4096)) + (wrap64 ((wrap64 ((wrap64 (bt x0 1)) - 128)) * 64)))) + (wrap64 (bt x0 2)))) - 128), 3)) else (hopperref08_Point.j2 k x0 x4))) else (hopperref08_Point.j2 k x0 x4)) else (none)) else (none)) else (hopperref08_Point.j2 k x0 x4)
def hopperref08_Point.j2 : Nat → ByteArray → Int → Option (Int × Int)
 | 0, _, _ => none
 | k + 1, x0, x4 => if x4 ≥ 240 then (if x4 < 245 then (if (x0.size : Int) > 3 then (if 1 < (x0.size : Int) then ((hopperref08_tail.f (bt x0 1)).bind fun t327 => (if t327 = true then (if 2 < (x0.size : Int) then ((hopperref08_tail.f (bt x0 2)).bind fun t328 => (if t328 = true then (if 3 < (x0.size : Int) then ((hopperref08_tail.f (bt x0 3)).bind fun t329 => (hopperref08_Point.j3 k x0 x4 t329)) else (none)) else (hopperref08_Point.j3 k x0 x4 false))) else (none)) else (hopperref08_Point.j3 k x0 x4 false))) else (none)) else (hopperref08_Point.j3 k x0 x4 false)) else (hopperref08_Point.j3 k x0 x4 false)) else (hopperref08_Point.j3 k x0 x4 false)
def hopperref08_Point.j3 : Nat → ByteArray → Int → Bool → Option (Int × Int)
 | 0, _, _, _ => none
 | k + 1, x0, x4, x108 => if x108 = true then (if 1 < (x0.size : Int) then (if 2 < (x0.size : Int) then (if 3 < (x0.size : Int) then (if (wrap64 ((wrap64 ((wrap64 ((wrap64 ((wrap64 ((wrap64 (x4 - 240)) * 262144)) + (wrap64 ((wrap64 ((wrap64 (bt x0 1)) - 128)) * 4096)))) + (wrap64 ((wrap64 ((wrap64 (bt x0 2)) - 128)) * 64)))) + (wrap64 (bt x0 3)))) - 128)) ≥ 65536 then (if (wrap64 ((wrap64 ((wrap64 ((wrap64 ((wrap64 ((wrap64 (x4 - 240)) * 262144)) + (wrap64 ((wrap64 ((wrap64 (bt x0 1)) - 128)) * 4096)))) + (wrap64 ((wrap64 ((wrap64 (bt x0 2)) - 128)) * 64)))) + (wrap64 (bt x0 3)))) - 128)) ≤ 1114111 then (some (wrap64 ((wrap64 ((wrap64 ((wrap64 ((wrap64 ((wrap64 (x4 - 240)) * 262144)) + (wrap64 ((wrap64 ((wrap64 (bt x0 1)) - 128)) * 4096)))) + (wrap64 ((wrap64 ((wrap64 (bt x0 2)) - 128)) * 64)))) + (wrap64 (bt x0 3)))) - 128), 4)) else (some (wrap64 (1114112 + x4), 1))) else (some (wrap64 (1114112 + x4), 1))) else (none)) else (none)) else (none)) else (some (wrap64 (1114112 + x4), 1))
end
def hopperref08_Point.f (k : Nat) (a0 : ByteArray) : Option (Int × Int) := if 0 < (a0.size : Int) then (if (wrap64 (bt a0 0)) < 128 then (some (wrap64 (bt a0 0), 1)) else (if (wrap64 (bt a0 0)) ≥ 194 then (if (wrap64 (bt a0 0)) < 224 then (if (a0.size : Int) > 1 then (if 1 < (a0.size : Int) then ((hopperref08_tail.f (bt a0 1)).bind fun t324 => (hopperref08_Point.j0 k a0 (wrap64 (bt a0 0)) t324)) else (none)) else (hopperref08_Point.j0 k a0 (wrap64 (bt a0 0)) false)) else (hopperref08_Point.j0 k a0 (wrap64 (bt a0 0)) false)) else (hopperref08_Point.j0 k a0 (wrap64 (bt a0 0)) false))) else (none)
theorem hopperref08_Point.calls (k : Nat) (a0 : ByteArray) (r1 : Int) (r2 : Int) (w : World) (h : hopperref08_Point.f k a0 = some (r1, r2)) :
  Calls Tryz.prog 74 #[.string a0] w fun e w' => e = .returned (.tuple #[.int .i64 r1, .int .i64 r2]) ∧ Drawn0 w w' := by
 have H : (if 0 < (a0.size : Int) then (if (wrap64 (bt a0 0)) < 128 then (some (wrap64 (bt a0 0), 1)) else (if (wrap64 (bt a0 0)) ≥ 194 then (if (wrap64 (bt a0 0)) < 224 then (if (a0.size : Int) > 1 then (if 1 < (a0.size : Int) then ((hopperref08_tail.f (bt a0 1)).bind fun t324 => (hopperref08_Point.j0 k a0 (wrap64 (bt a0 0)) t324)) else (none)) else (hopperref08_Point.j0 k a0 (wrap64 (bt a0 0)) false)) else (hopperref08_Point.j0 k a0 (wrap64 (bt a0 0)) false)) else (hopperref08_Point.j0 k a0 (wrap64 (bt a0 0)) false))) else (none)) = some (r1, r2) := h; clear h; by_cases c2 : 0 < (a0.size : Int)
 case neg => rw [if_neg c2] at H; exact absurd H (by simp)
 rw [if_pos c2] at H; have c2b0 : decide (0 < (a0.size : Int)) = true := decide_eq_true c2; have c2b1 : decide (0 < a0.size) = true := decide_eq_true (by omega)
 clear c2; by_cases c4 : (wrap64 (bt a0 0)) < 128
 ·rw [if_pos c4] at H; have c4b0 : decide ((wrap64 (bt a0 0)) < 128) = true := decide_eq_true c4; clear c4; simp only [Option.some.injEq, Prod.mk.injEq] at H
  obtain ⟨rfl, rfl⟩ := H; have p3 : 0 ≤ (0 : Int) := (by omega)
  have q3 : 0 < a0.size := (by have : (0 : Int) < (a0.size : Int) := dtA; omega)
  have hx3 : ∀ h : 0 < a0.size, ((a0[0]'h).toNat : Int) = bt a0 0 := bt_at a0 0; clear p3; have qi3 : (0 < (a0.size : Int)) = True := eq_true dtA; replace q3 := eq_true q3; go_enter Tryz.func74, Tryz.ntmps74
  go_wp2
  repeat (go_quiet (fail); try go_wp2)
  go_ret2
  exact exD
 ·rw [if_neg c4] at H; have c4b0 : decide ((wrap64 (bt a0 0)) < 128) = false := decide_eq_false c4; clear c4; have HC5 := Aside0.mk H; clear H; have p3 : 0 ≤ (0 : Int) := (by omega)
  have q3 : 0 < a0.size := (by have : (0 : Int) < (a0.size : Int) := dtA; omega)
  have hx3 : ∀ h : 0 < a0.size, ((a0[0]'h).toNat : Int) = bt a0 0 := bt_at a0 0; clear p3; have qi3 : (0 < (a0.size : Int)) = True := eq_true dtA; replace q3 := eq_true q3; go_enter Tryz.func74, Tryz.ntmps74
  go_upto_region 4 with (fail)
  repeat (go_quiet (fail); go_upto_region 4 with (fail))
  go_cut [28] (fun v28 wc => ∃ (kq : Nat) (x28_4 : Bool), v28 = .bool x28_4 ∧ Aside0 (hopperref08_Point.j0 kq a0 (wrap64 (bt a0 0)) x28_4 = some (r1, r2)) ∧ Aside0 (kq ≤ k) ∧ Drawn0 w wc)
  case first =>
   have H := HC5.out; clear HC5; by_cases c6 : (wrap64 (bt a0 0)) ≥ 194
   ·rw [if_pos c6] at H; have c6b0 : decide (194 ≤ (wrap64 (bt a0 0))) = true := decide_eq_true c6; clear c6; (first | rw [c6b0] | (simp only [i64_w, i32_w]; rw [c6b0]) | skip)
    by_cases c7 : (wrap64 (bt a0 0)) < 224
    ·rw [if_pos c7] at H; have c7b0 : decide ((wrap64 (bt a0 0)) < 224) = true := decide_eq_true c7; clear c7; by_cases c8 : (a0.size : Int) > 1
     ·rw [if_pos c8] at H; have c8b0 : decide (1 < (a0.size : Int)) = true := decide_eq_true c8; have c8b1 : decide (1 < a0.size) = true := decide_eq_true (by omega)
      clear c8; by_cases c9 : 1 < (a0.size : Int)
      case neg => rw [if_neg c9] at H; exact absurd H (by simp)
      rw [if_pos c9] at H; have c9b0 : decide (1 < (a0.size : Int)) = true := decide_eq_true c9; have c9b1 : decide (1 < a0.size) = true := decide_eq_true (by omega)
      clear c9; replace H := Option.bind_eq_some_iff.mp H; obtain ⟨t324, A110, H⟩ := H; replace H : (hopperref08_Point.j0 k a0 (wrap64 (bt a0 0)) t324) = some (r1, r2) := H
      have A11 := Aside0.mk A110; clear A110; have H' := Aside0.mk H
      clear H; have p10 : 0 ≤ (1 : Int) := (by omega)
      have q10 : 1 < a0.size := (by have : (1 : Int) < (a0.size : Int) := dtA; omega)
      have hx10 : ∀ h : 1 < a0.size, ((a0[1]'h).toNat : Int) = bt a0 1 := bt_at a0 1; clear p10; have qi10 : (1 < (a0.size : Int)) = True := eq_true dtA; replace q10 := eq_true q10; go_wp2_with (first | (go_at_call 86; (with_reducible refine (hopperref08_tail.calls (bt a0 1) t324 _ A11.out).mono ?_); rintro e w' ⟨rfl, ⟨nd, rfl⟩⟩; (try first | exact ⟨rfl, _, World.drewN_drewN _ _ _⟩ | exact ⟨rfl, _, Eq.trans (World.drewN_drewN _ _ _) (congrArg (World.drewN _) (Nat.add_assoc _ _ _))⟩)))
      repeat (go_quiet (first | (go_at_call 86; (with_reducible refine (hopperref08_tail.calls (bt a0 1) t324 _ A11.out).mono ?_); rintro e w' ⟨rfl, ⟨nd, rfl⟩⟩; (try first | exact ⟨rfl, _, World.drewN_drewN _ _ _⟩ | exact ⟨rfl, _, Eq.trans (World.drewN_drewN _ _ _) (congrArg (World.drewN _) (Nat.add_assoc _ _ _))⟩))); try go_wp2_with (first | (go_at_call 86; (with_reducible refine (hopperref08_tail.calls (bt a0 1) t324 _ A11.out).mono ?_); rintro e w' ⟨rfl, ⟨nd, rfl⟩⟩; (try first | exact ⟨rfl, _, World.drewN_drewN _ _ _⟩ | exact ⟨rfl, _, Eq.trans (World.drewN_drewN _ _ _) (congrArg (World.drewN _) (Nat.add_assoc _ _ _))⟩))))
      go_meet
      case rel => exact ⟨_, (t324), (by first | rfl | (simp; done) | (simp [*]; done)), H', ⟨by first | omega | exact Nat.le_refl _⟩, by repeat (first | exact Drawn0.refl _ | apply Drawn0.step)⟩
     ·rw [if_neg c8] at H; have c8b0 : decide (1 < (a0.size : Int)) = false := decide_eq_false c8; have c8b1 : decide (1 < a0.size) = false := decide_eq_false (by omega)
      clear c8; have H' := Aside0.mk H
      clear H; go_wp2
      repeat (go_quiet (fail); try go_wp2)
      go_meet
      case rel => exact ⟨_, (false), (by first | rfl | (simp; done) | (simp [*]; done)), H', ⟨by first | omega | exact Nat.le_refl _⟩, by repeat (first | exact Drawn0.refl _ | apply Drawn0.step)⟩
    ·rw [if_neg c7] at H; have c7b0 : decide ((wrap64 (bt a0 0)) < 224) = false := decide_eq_false c7; clear c7; have H' := Aside0.mk H
     clear H; go_wp2
     repeat (go_quiet (fail); try go_wp2)
     go_meet
     case rel => exact ⟨_, (false), (by first | rfl | (simp; done) | (simp [*]; done)), H', ⟨by first | omega | exact Nat.le_refl _⟩, by repeat (first | exact Drawn0.refl _ | apply Drawn0.step)⟩
   ·rw [if_neg c6] at H; have c6b0 : decide (194 ≤ (wrap64 (bt a0 0))) = false := decide_eq_false c6; clear c6; (first | rw [c6b0] | (simp only [i64_w, i32_w]; rw [c6b0]) | skip)
    have H' := Aside0.mk H
    clear H; go_wp2
    repeat (go_quiet (fail); try go_wp2)
    go_meet
    case rel => exact ⟨_, (false), (by first | rfl | (simp; done) | (simp [*]; done)), H', ⟨by first | omega | exact Nat.le_refl _⟩, by repeat (first | exact Drawn0.refl _ | apply Drawn0.step)⟩
  case rest =>
   clear HC5; try clear p1
   try clear q1
   try clear hx1
   try clear qi1
   try clear c2
   try clear c2b0
   try clear c2b1
   try clear p2
   try clear p3
   try clear q3
   try clear hx3
   try clear qi3
   try clear c4
   try clear c4b0
   try clear c6
   try clear c6b0
   try clear p6
   try clear c7
   try clear c7b0
   try clear c8
   try clear c8b0
   try clear c8b1
   try clear c9
   try clear c9b0
   try clear c9b1
   try clear p10
   try clear q10
   try clear hx10
   try clear qi10
   try clear p10
   try clear p3
   try clear q10
   try clear q3
   obtain ⟨kq, x28_4, rfl, HA, HJ4, ⟨mc4, rfl⟩⟩ := hcut
   cases kq with
   | zero => exact absurd HA.out (by simp [hopperref08_Point.j0])
   | succ kj4 =>
    have H := HA.out; clear HA; simp only [hopperref08_Point.j0] at H
    by_cases c12 : x28_4 = true
    ·subst c12; have H1 : (if 1 < (a0.size : Int) then (some (wrap64 ((wrap64 ((wrap64 ((wrap64 ((wrap64 (bt a0 0)) - 192)) * 64)) + (wrap64 (bt a0 1)))) - 128), 2)) else (none)) = some (r1, r2) := by rw [if_pos rfl] at H; exact H
     clear H; have H := H1; clear H1; by_cases c13 : 1 < (a0.size : Int)
     case neg => rw [if_neg c13] at H; exact absurd H (by simp)
     rw [if_pos c13] at H; have c13b0 : decide (1 < (a0.size : Int)) = true := decide_eq_true c13; have c13b1 : decide (1 < a0.size) = true := decide_eq_true (by omega)
     clear c13; simp only [Option.some.injEq, Prod.mk.injEq] at H
     obtain ⟨rfl, rfl⟩ := H; have p14 : 0 ≤ (1 : Int) := (by omega)
     have q14 : 1 < a0.size := (by have : (1 : Int) < (a0.size : Int) := dtA; omega)
     have hx14 : ∀ h : 1 < a0.size, ((a0[1]'h).toNat : Int) = bt a0 1 := bt_at a0 1; clear p14; have qi14 : (1 < (a0.size : Int)) = True := eq_true dtA; replace q14 := eq_true q14; go_wp2
     repeat (go_quiet (fail); try go_wp2)
     go_ret2
     exact exD
    ·replace c12 := Bool.eq_false_iff.mpr c12; subst c12; have H1 : (if (wrap64 (bt a0 0)) ≥ 224 then (if (wrap64 (bt a0 0)) < 240 then (if (a0.size : Int) > 2 then (if 1 < (a0.size : Int) then ((hopperref08_tail.f (bt a0 1)).bind fun t325 => (if t325 = true then (if 2 < (a0.size : Int) then ((hopperref08_tail.f (bt a0 2)).bind fun t326 => (hopperref08_Point.j1 kj4 a0 (wrap64 (bt a0 0)) t326)) else (none)) else (hopperref08_Point.j1 kj4 a0 (wrap64 (bt a0 0)) false))) else (none)) else (hopperref08_Point.j1 kj4 a0 (wrap64 (bt a0 0)) false)) else (hopperref08_Point.j1 kj4 a0 (wrap64 (bt a0 0)) false)) else (hopperref08_Point.j1 kj4 a0 (wrap64 (bt a0 0)) false)) = some (r1, r2) := by rw [if_neg (show ¬ (false = true) by decide)] at H; exact H
     clear H; have H := H1; clear H1; have HC15 := Aside0.mk H; clear H; go_upto_region 6 with (fail)
     repeat (go_quiet (fail); go_upto_region 6 with (fail))
     go_cut [57] (fun v57 wc => ∃ (kq : Nat) (x57_14 : Bool), v57 = .bool x57_14 ∧ Aside0 (hopperref08_Point.j1 kq a0 (wrap64 (bt a0 0)) x57_14 = some (r1, r2)) ∧ Aside0 (kq ≤ kj4) ∧ Drawn0 w wc)
     case first =>
      have H := HC15.out; clear HC15; by_cases c16 : (wrap64 (bt a0 0)) ≥ 224
      ·rw [if_pos c16] at H; have c16b0 : decide (224 ≤ (wrap64 (bt a0 0))) = true := decide_eq_true c16; clear c16; (first | rw [c16b0] | (simp only [i64_w, i32_w]; rw [c16b0]) | skip)
       by_cases c17 : (wrap64 (bt a0 0)) < 240
       ·rw [if_pos c17] at H; have c17b0 : decide ((wrap64 (bt a0 0)) < 240) = true := decide_eq_true c17; clear c17; by_cases c18 : (a0.size : Int) > 2
        ·rw [if_pos c18] at H; have c18b0 : decide (2 < (a0.size : Int)) = true := decide_eq_true c18; have c18b1 : decide (2 < a0.size) = true := decide_eq_true (by omega)
         clear c18; by_cases c19 : 1 < (a0.size : Int)
         case neg => rw [if_neg c19] at H; exact absurd H (by simp)
         rw [if_pos c19] at H; have c19b0 : decide (1 < (a0.size : Int)) = true := decide_eq_true c19; have c19b1 : decide (1 < a0.size) = true := decide_eq_true (by omega)
         clear c19; replace H := Option.bind_eq_some_iff.mp H; obtain ⟨t325, A210, H⟩ := H; replace H : (if t325 = true then (if 2 < (a0.size : Int) then ((hopperref08_tail.f (bt a0 2)).bind fun t326 => (hopperref08_Point.j1 kj4 a0 (wrap64 (bt a0 0)) t326)) else (none)) else (hopperref08_Point.j1 kj4 a0 (wrap64 (bt a0 0)) false)) = some (r1, r2) := H
         have A21 := Aside0.mk A210; clear A210; by_cases c22 : t325 = true
         ·subst c22; have H1 : (if 2 < (a0.size : Int) then ((hopperref08_tail.f (bt a0 2)).bind fun t326 => (hopperref08_Point.j1 kj4 a0 (wrap64 (bt a0 0)) t326)) else (none)) = some (r1, r2) := by rw [if_pos rfl] at H; exact H
          clear H; have H := H1; clear H1; by_cases c23 : 2 < (a0.size : Int)
          case neg => rw [if_neg c23] at H; exact absurd H (by simp)
          rw [if_pos c23] at H; have c23b0 : decide (2 < (a0.size : Int)) = true := decide_eq_true c23; have c23b1 : decide (2 < a0.size) = true := decide_eq_true (by omega)
          clear c23; replace H := Option.bind_eq_some_iff.mp H; obtain ⟨t326, A250, H⟩ := H; replace H : (hopperref08_Point.j1 kj4 a0 (wrap64 (bt a0 0)) t326) = some (r1, r2) := H
          have A25 := Aside0.mk A250; clear A250; have H' := Aside0.mk H
          clear H; have p20 : 0 ≤ (1 : Int) := (by omega)
          have q20 : 1 < a0.size := (by have : (1 : Int) < (a0.size : Int) := dtA; omega)
          have hx20 : ∀ h : 1 < a0.size, ((a0[1]'h).toNat : Int) = bt a0 1 := bt_at a0 1; clear p20; have qi20 : (1 < (a0.size : Int)) = True := eq_true dtA; replace q20 := eq_true q20; have tok1_ : True := trivial; have tok2_ : True := trivial; go_wp2_with (first | (go_at_call 86; have _t := tok1_; clear _t tok1_; (with_reducible refine (hopperref08_tail.calls (bt a0 1) true _ A21.out).mono ?_); rintro e w' ⟨rfl, ⟨nd, rfl⟩⟩; (try first | exact ⟨rfl, _, World.drewN_drewN _ _ _⟩ | exact ⟨rfl, _, Eq.trans (World.drewN_drewN _ _ _) (congrArg (World.drewN _) (Nat.add_assoc _ _ _))⟩); have p24 : 0 ≤ (2 : Int) := (by omega); have q24 : 2 < a0.size := (by have : (2 : Int) < (a0.size : Int) := dtA; omega); have hx24 : ∀ h : 2 < a0.size, ((a0[2]'h).toNat : Int) = bt a0 2 := bt_at a0 2; clear p24; have qi24 : (2 < (a0.size : Int)) = True := eq_true dtA; replace q24 := eq_true q24) | (go_at_call 86; have _t := tok2_; clear _t tok2_; (with_reducible refine (hopperref08_tail.calls (bt a0 2) t326 _ A25.out).mono ?_); rintro e w' ⟨rfl, ⟨nd, rfl⟩⟩; (try first | exact ⟨rfl, _, World.drewN_drewN _ _ _⟩ | exact ⟨rfl, _, Eq.trans (World.drewN_drewN _ _ _) (congrArg (World.drewN _) (Nat.add_assoc _ _ _))⟩)))
          repeat (go_quiet (first | (go_at_call 86; (with_reducible refine (hopperref08_tail.calls (bt a0 1) true _ A21.out).mono ?_); rintro e w' ⟨rfl, ⟨nd, rfl⟩⟩; (try first | exact ⟨rfl, _, World.drewN_drewN _ _ _⟩ | exact ⟨rfl, _, Eq.trans (World.drewN_drewN _ _ _) (congrArg (World.drewN _) (Nat.add_assoc _ _ _))⟩); have p24 : 0 ≤ (2 : Int) := (by omega); have q24 : 2 < a0.size := (by have : (2 : Int) < (a0.size : Int) := dtA; omega); have hx24 : ∀ h : 2 < a0.size, ((a0[2]'h).toNat : Int) = bt a0 2 := bt_at a0 2; clear p24; have qi24 : (2 < (a0.size : Int)) = True := eq_true dtA; replace q24 := eq_true q24) | (go_at_call 86; (with_reducible refine (hopperref08_tail.calls (bt a0 2) t326 _ A25.out).mono ?_); rintro e w' ⟨rfl, ⟨nd, rfl⟩⟩; (try first | exact ⟨rfl, _, World.drewN_drewN _ _ _⟩ | exact ⟨rfl, _, Eq.trans (World.drewN_drewN _ _ _) (congrArg (World.drewN _) (Nat.add_assoc _ _ _))⟩))); try go_wp2_with (first | (go_at_call 86; (with_reducible refine (hopperref08_tail.calls (bt a0 1) true _ A21.out).mono ?_); rintro e w' ⟨rfl, ⟨nd, rfl⟩⟩; (try first | exact ⟨rfl, _, World.drewN_drewN _ _ _⟩ | exact ⟨rfl, _, Eq.trans (World.drewN_drewN _ _ _) (congrArg (World.drewN _) (Nat.add_assoc _ _ _))⟩); have p24 : 0 ≤ (2 : Int) := (by omega); have q24 : 2 < a0.size := (by have : (2 : Int) < (a0.size : Int) := dtA; omega); have hx24 : ∀ h : 2 < a0.size, ((a0[2]'h).toNat : Int) = bt a0 2 := bt_at a0 2; clear p24; have qi24 : (2 < (a0.size : Int)) = True := eq_true dtA; replace q24 := eq_true q24) | (go_at_call 86; (with_reducible refine (hopperref08_tail.calls (bt a0 2) t326 _ A25.out).mono ?_); rintro e w' ⟨rfl, ⟨nd, rfl⟩⟩; (try first | exact ⟨rfl, _, World.drewN_drewN _ _ _⟩ | exact ⟨rfl, _, Eq.trans (World.drewN_drewN _ _ _) (congrArg (World.drewN _) (Nat.add_assoc _ _ _))⟩))))
          go_meet
          case rel => exact ⟨_, (t326), (by first | rfl | (simp; done) | (simp [*]; done)), H', ⟨by have := HJ4.out; first | omega | exact Nat.le_refl _⟩, by repeat (first | exact Drawn0.refl _ | apply Drawn0.step)⟩
         ·replace c22 := Bool.eq_false_iff.mpr c22; subst c22; have H1 : (hopperref08_Point.j1 kj4 a0 (wrap64 (bt a0 0)) false) = some (r1, r2) := by rw [if_neg (show ¬ (false = true) by decide)] at H; exact H
          clear H; have H := H1; clear H1; have H' := Aside0.mk H
          clear H; have p20 : 0 ≤ (1 : Int) := (by omega)
          have q20 : 1 < a0.size := (by have : (1 : Int) < (a0.size : Int) := dtA; omega)
          have hx20 : ∀ h : 1 < a0.size, ((a0[1]'h).toNat : Int) = bt a0 1 := bt_at a0 1; clear p20; have qi20 : (1 < (a0.size : Int)) = True := eq_true dtA; replace q20 := eq_true q20; go_wp2_with (first | (go_at_call 86; (with_reducible refine (hopperref08_tail.calls (bt a0 1) false _ A21.out).mono ?_); rintro e w' ⟨rfl, ⟨nd, rfl⟩⟩; (try first | exact ⟨rfl, _, World.drewN_drewN _ _ _⟩ | exact ⟨rfl, _, Eq.trans (World.drewN_drewN _ _ _) (congrArg (World.drewN _) (Nat.add_assoc _ _ _))⟩)))
          repeat (go_quiet (first | (go_at_call 86; (with_reducible refine (hopperref08_tail.calls (bt a0 1) false _ A21.out).mono ?_); rintro e w' ⟨rfl, ⟨nd, rfl⟩⟩; (try first | exact ⟨rfl, _, World.drewN_drewN _ _ _⟩ | exact ⟨rfl, _, Eq.trans (World.drewN_drewN _ _ _) (congrArg (World.drewN _) (Nat.add_assoc _ _ _))⟩))); try go_wp2_with (first | (go_at_call 86; (with_reducible refine (hopperref08_tail.calls (bt a0 1) false _ A21.out).mono ?_); rintro e w' ⟨rfl, ⟨nd, rfl⟩⟩; (try first | exact ⟨rfl, _, World.drewN_drewN _ _ _⟩ | exact ⟨rfl, _, Eq.trans (World.drewN_drewN _ _ _) (congrArg (World.drewN _) (Nat.add_assoc _ _ _))⟩))))
          go_meet
          case rel => exact ⟨_, (false), (by first | rfl | (simp; done) | (simp [*]; done)), H', ⟨by have := HJ4.out; first | omega | exact Nat.le_refl _⟩, by repeat (first | exact Drawn0.refl _ | apply Drawn0.step)⟩
        ·rw [if_neg c18] at H; have c18b0 : decide (2 < (a0.size : Int)) = false := decide_eq_false c18; have c18b1 : decide (2 < a0.size) = false := decide_eq_false (by omega)
         clear c18; have H' := Aside0.mk H
         clear H; go_wp2
         repeat (go_quiet (fail); try go_wp2)
         go_meet
         case rel => exact ⟨_, (false), (by first | rfl | (simp; done) | (simp [*]; done)), H', ⟨by have := HJ4.out; first | omega | exact Nat.le_refl _⟩, by repeat (first | exact Drawn0.refl _ | apply Drawn0.step)⟩
       ·rw [if_neg c17] at H; have c17b0 : decide ((wrap64 (bt a0 0)) < 240) = false := decide_eq_false c17; clear c17; have H' := Aside0.mk H
        clear H; go_wp2
        repeat (go_quiet (fail); try go_wp2)
        go_meet
        case rel => exact ⟨_, (false), (by first | rfl | (simp; done) | (simp [*]; done)), H', ⟨by have := HJ4.out; first | omega | exact Nat.le_refl _⟩, by repeat (first | exact Drawn0.refl _ | apply Drawn0.step)⟩
      ·rw [if_neg c16] at H; have c16b0 : decide (224 ≤ (wrap64 (bt a0 0))) = false := decide_eq_false c16; clear c16; (first | rw [c16b0] | (simp only [i64_w, i32_w]; rw [c16b0]) | skip)
       have H' := Aside0.mk H
       clear H; go_wp2
       repeat (go_quiet (fail); try go_wp2)
       go_meet
       case rel => exact ⟨_, (false), (by first | rfl | (simp; done) | (simp [*]; done)), H', ⟨by have := HJ4.out; first | omega | exact Nat.le_refl _⟩, by repeat (first | exact Drawn0.refl _ | apply Drawn0.step)⟩
     case rest =>
      clear HC15; (try clear c1); (try clear p1); (try clear q1); (try clear hx1); (try clear qi1); (try clear c2); (try clear c2b0); (try clear c2b1); (try clear p2); (try clear q2); (try clear hx2); (try clear qi2); (try clear p3); (try clear q3); (try clear hx3); (try clear qi3); (try clear c4); (try clear c4b0); (try clear c6); (try clear c6b0); (try clear p6); (try clear c7); (try clear c7b0); (try clear c8); (try clear c8b0); (try clear c8b1); (try clear c9); (try clear c9b0); (try clear c9b1); (try clear p10); (try clear q10); (try clear hx10); (try clear qi10); (try clear c12); (try clear c13); (try clear c13b0); (try clear c13b1); (try clear p14); (try clear q14); (try clear hx14); (try clear qi14); (try clear c16); (try clear c16b0); (try clear c17); (try clear c17b0); (try clear c18); (try clear c18b0); (try clear c18b1); (try clear c19); (try clear c19b0); (try clear c19b1); (try clear p20); (try clear q20); (try clear hx20); (try clear qi20); (try clear c22); (try clear c23); (try clear c23b0); (try clear c23b1); (try clear p24); (try clear q24); (try clear hx24); (try clear qi24); (try clear p1); (try clear p10); (try clear p14); (try clear p2); (try clear p20); (try clear p24); (try clear p3); (try clear p6); (try clear q1); (try clear q10); (try clear q14); (try clear q20); (try clear q24); (try clear q3); obtain ⟨kq, x57_14, rfl, HA, HJ14, ⟨mc14, rfl⟩⟩ := hcut
      cases kq with
      | zero => exact absurd HA.out (by simp [hopperref08_Point.j1])
      | succ kj14 =>
       have H := HA.out; clear HA; simp only [hopperref08_Point.j1] at H
       have HC26 := Aside0.mk H; clear H; go_upto_if 57 with (fail)
       repeat (go_quiet (fail); go_upto_if 57 with (fail))
       go_cut [] (fun wc => ∃ (kq : Nat), Aside0 (hopperref08_Point.j2 kq a0 (wrap64 (bt a0 0)) = some (r1, r2)) ∧ Aside0 (kq ≤ kj14) ∧ Drawn0 w wc)
       case first =>
        have H := HC26.out; clear HC26; by_cases c27 : x57_14 = true
        ·subst c27; have H1 : (if 1 < (a0.size : Int) then (if 2 < (a0.size : Int) then (if (wrap64 ((wrap64 ((wrap64 ((wrap64 ((wrap64 ((wrap64 (bt a0 0)) - 224)) * 4096)) + (wrap64 ((wrap64 ((wrap64 (bt a0 1)) - 128)) * 64)))) + (wrap64 (bt a0 2)))) - 128)) ≥ 2048 then (if (wrap64 ((wrap64 ((wrap64 ((wrap64 ((wrap64 ((wrap64 (bt a0 0)) - 224)) * 4096)) + (wrap64 ((wrap64 ((wrap64 (bt a0 1)) - 128)) * 64)))) + (wrap64 (bt a0 2)))) - 128)) < 55296 then (some (wrap64 ((wrap64 ((wrap64 ((wrap64 ((wrap64 ((wrap64 (bt a0 0)) - 224)) * 4096)) + (wrap64 ((wrap64 ((wrap64 (bt a0 1)) - 128)) * 64)))) + (wrap64 (bt a0 2)))) - 128), 3)) else (if (wrap64 ((wrap64 ((wrap64 ((wrap64 ((wrap64 ((wrap64 (bt a0 0)) - 224)) * 4096)) + (wrap64 ((wrap64 ((wrap64 (bt a0 1)) - 128)) * 64)))) + (wrap64 (bt a0 2)))) - 128)) > 57343 then (some (wrap64 ((wrap64 ((wrap64 ((wrap64 ((wrap64 ((wrap64 (bt a0 0)) - 224)) * 4096)) + (wrap64 ((wrap64 ((wrap64 (bt a0 1)) - 128)) * 64)))) + (wrap64 (bt a0 2)))) - 128), 3)) else (hopperref08_Point.j2 kj14 a0 (wrap64 (bt a0 0))))) else (hopperref08_Point.j2 kj14 a0 (wrap64 (bt a0 0)))) else (none)) else (none)) = some (r1, r2) := by rw [if_pos rfl] at H; exact H
         clear H; have H := H1; clear H1; by_cases c28 : 1 < (a0.size : Int)
         case neg => rw [if_neg c28] at H; exact absurd H (by simp)
         rw [if_pos c28] at H; have c28b0 : decide (1 < (a0.size : Int)) = true := decide_eq_true c28; have c28b1 : decide (1 < a0.size) = true := decide_eq_true (by omega)
         clear c28; (first | rw [c28b0] | (simp only [i64_w, i32_w]; rw [c28b0]) | skip)
         by_cases c30 : 2 < (a0.size : Int)
         case neg => rw [if_neg c30] at H; exact absurd H (by simp)
         rw [if_pos c30] at H; have c30b0 : decide (2 < (a0.size : Int)) = true := decide_eq_true c30; have c30b1 : decide (2 < a0.size) = true := decide_eq_true (by omega)
         clear c30; by_cases c32 : (wrap64 ((wrap64 ((wrap64 ((wrap64 ((wrap64 ((wrap64 (bt a0 0)) - 224)) * 4096)) + (wrap64 ((wrap64 ((wrap64 (bt a0 1)) - 128)) * 64)))) + (wrap64 (bt a0 2)))) - 128)) ≥ 2048
         ·rw [if_pos c32] at H; have c32b0 : decide (2048 ≤ (wrap64 ((wrap64 ((wrap64 ((wrap64 ((wrap64 ((wrap64 (bt a0 0)) - 224)) * 4096)) + (wrap64 ((wrap64 ((wrap64 (bt a0 1)) - 128)) * 64)))) + (wrap64 (bt a0 2)))) - 128))) = true := decide_eq_true c32; clear c32; by_cases c33 : (wrap64 ((wrap64 ((wrap64 ((wrap64 ((wrap64 ((wrap64 (bt a0 0)) - 224)) * 4096)) + (wrap64 ((wrap64 ((wrap64 (bt a0 1)) - 128)) * 64)))) + (wrap64 (bt a0 2)))) - 128)) < 55296
          ·rw [if_pos c33] at H; have c33b0 : decide ((wrap64 ((wrap64 ((wrap64 ((wrap64 ((wrap64 ((wrap64 (bt a0 0)) - 224)) * 4096)) + (wrap64 ((wrap64 ((wrap64 (bt a0 1)) - 128)) * 64)))) + (wrap64 (bt a0 2)))) - 128)) < 55296) = true := decide_eq_true c33; clear c33; simp only [Option.some.injEq, Prod.mk.injEq] at H
           obtain ⟨rfl, rfl⟩ := H; have p29 : 0 ≤ (1 : Int) := (by omega)
           have q29 : 1 < a0.size := (by have : (1 : Int) < (a0.size : Int) := dtA; omega)
           have hx29 : ∀ h : 1 < a0.size, ((a0[1]'h).toNat : Int) = bt a0 1 := bt_at a0 1; clear p29; have qi29 : (1 < (a0.size : Int)) = True := eq_true dtA; replace q29 := eq_true q29; have p31 : 0 ≤ (2 : Int) := (by omega)
           have q31 : 2 < a0.size := (by have : (2 : Int) < (a0.size : Int) := dtA; omega)
           have hx31 : ∀ h : 2 < a0.size, ((a0[2]'h).toNat : Int) = bt a0 2 := bt_at a0 2; clear p31; have qi31 : (2 < (a0.size : Int)) = True := eq_true dtA; replace q31 := eq_true q31; go_wp2
           repeat (go_quiet (fail); try go_wp2)
           go_ret2
           exact exD
          ·rw [if_neg c33] at H; have c33b0 : decide ((wrap64 ((wrap64 ((wrap64 ((wrap64 ((wrap64 ((wrap64 (bt a0 0)) - 224)) * 4096)) + (wrap64 ((wrap64 ((wrap64 (bt a0 1)) - 128)) * 64)))) + (wrap64 (bt a0 2)))) - 128)) < 55296) = false := decide_eq_false c33; clear c33; by_cases c34 : (wrap64 ((wrap64 ((wrap64 ((wrap64 ((wrap64 ((wrap64 (bt a0 0)) - 224)) * 4096)) + (wrap64 ((wrap64 ((wrap64 (bt a0 1)) - 128)) * 64)))) + (wrap64 (bt a0 2)))) - 128)) > 57343
           ·rw [if_pos c34] at H; have c34b0 : decide (57343 < (wrap64 ((wrap64 ((wrap64 ((wrap64 ((wrap64 ((wrap64 (bt a0 0)) - 224)) * 4096)) + (wrap64 ((wrap64 ((wrap64 (bt a0 1)) - 128)) * 64)))) + (wrap64 (bt a0 2)))) - 128))) = true := decide_eq_true c34; clear c34; simp only [Option.some.injEq, Prod.mk.injEq] at H
            obtain ⟨rfl, rfl⟩ := H; have p29 : 0 ≤ (1 : Int) := (by omega)
            have q29 : 1 < a0.size := (by have : (1 : Int) < (a0.size : Int) := dtA; omega)
            have hx29 : ∀ h : 1 < a0.size, ((a0[1]'h).toNat : Int) = bt a0 1 := bt_at a0 1; clear p29; have qi29 : (1 < (a0.size : Int)) = True := eq_true dtA; replace q29 := eq_true q29; have p31 : 0 ≤ (2 : Int) := (by omega)
            have q31 : 2 < a0.size := (by have : (2 : Int) < (a0.size : Int) := dtA; omega)
            have hx31 : ∀ h : 2 < a0.size, ((a0[2]'h).toNat : Int) = bt a0 2 := bt_at a0 2; clear p31; have qi31 : (2 < (a0.size : Int)) = True := eq_true dtA; replace q31 := eq_true q31; go_wp2
            repeat (go_quiet (fail); try go_wp2)
            go_ret2
            exact exD
           ·rw [if_neg c34] at H; have c34b0 : decide (57343 < (wrap64 ((wrap64 ((wrap64 ((wrap64 ((wrap64 ((wrap64 (bt a0 0)) - 224)) * 4096)) + (wrap64 ((wrap64 ((wrap64 (bt a0 1)) - 128)) * 64)))) + (wrap64 (bt a0 2)))) - 128))) = false := decide_eq_false c34; clear c34; have H' := Aside0.mk H
            clear H; have p29 : 0 ≤ (1 : Int) := (by omega)
            have q29 : 1 < a0.size := (by have : (1 : Int) < (a0.size : Int) := dtA; omega)
            have hx29 : ∀ h : 1 < a0.size, ((a0[1]'h).toNat : Int) = bt a0 1 := bt_at a0 1; clear p29; have qi29 : (1 < (a0.size : Int)) = True := eq_true dtA; replace q29 := eq_true q29; have p31 : 0 ≤ (2 : Int) := (by omega)
            have q31 : 2 < a0.size := (by have : (2 : Int) < (a0.size : Int) := dtA; omega)
            have hx31 : ∀ h : 2 < a0.size, ((a0[2]'h).toNat : Int) = bt a0 2 := bt_at a0 2; clear p31; have qi31 : (2 < (a0.size : Int)) = True := eq_true dtA; replace q31 := eq_true q31; go_wp2
            repeat (go_quiet (fail); try go_wp2)
            go_meet
            case rel => exact ⟨_, H', ⟨by have := HJ4.out; have := HJ14.out; first | omega | exact Nat.le_refl _⟩, by repeat (first | exact Drawn0.refl _ | apply Drawn0.step)⟩
         ·rw [if_neg c32] at H; have c32b0 : decide (2048 ≤ (wrap64 ((wrap64 ((wrap64 ((wrap64 ((wrap64 ((wrap64 (bt a0 0)) - 224)) * 4096)) + (wrap64 ((wrap64 ((wrap64 (bt a0 1)) - 128)) * 64)))) + (wrap64 (bt a0 2)))) - 128))) = false := decide_eq_false c32; clear c32; have H' := Aside0.mk H
          clear H; have p29 : 0 ≤ (1 : Int) := (by omega)
          have q29 : 1 < a0.size := (by have : (1 : Int) < (a0.size : Int) := dtA; omega)
          have hx29 : ∀ h : 1 < a0.size, ((a0[1]'h).toNat : Int) = bt a0 1 := bt_at a0 1; clear p29; have qi29 : (1 < (a0.size : Int)) = True := eq_true dtA; replace q29 := eq_true q29; have p31 : 0 ≤ (2 : Int) := (by omega)
          have q31 : 2 < a0.size := (by have : (2 : Int) < (a0.size : Int) := dtA; omega)
          have hx31 : ∀ h : 2 < a0.size, ((a0[2]'h).toNat : Int) = bt a0 2 := bt_at a0 2; clear p31; have qi31 : (2 < (a0.size : Int)) = True := eq_true dtA; replace q31 := eq_true q31; go_wp2
          repeat (go_quiet (fail); try go_wp2)
          go_meet
          case rel => exact ⟨_, H', ⟨by have := HJ4.out; have := HJ14.out; first | omega | exact Nat.le_refl _⟩, by repeat (first | exact Drawn0.refl _ | apply Drawn0.step)⟩
        ·replace c27 := Bool.eq_false_iff.mpr c27; subst c27; have H1 : (hopperref08_Point.j2 kj14 a0 (wrap64 (bt a0 0))) = some (r1, r2) := by rw [if_neg (show ¬ (false = true) by decide)] at H; exact H
         clear H; have H := H1; clear H1; have H' := Aside0.mk H
         clear H; go_wp2
         repeat (go_quiet (fail); try go_wp2)
         go_meet
         case rel => exact ⟨_, H', ⟨by have := HJ4.out; have := HJ14.out; first | omega | exact Nat.le_refl _⟩, by repeat (first | exact Drawn0.refl _ | apply Drawn0.step)⟩
       case rest =>
        clear HC26; (try clear c1); (try clear p1); (try clear q1); (try clear hx1); (try clear qi1); (try clear c2); (try clear c2b0); (try clear c2b1); (try clear p2); (try clear q2); (try clear hx2); (try clear qi2); (try clear c3); (try clear p3); (try clear q3); (try clear hx3); (try clear qi3); (try clear c4); (try clear c4b0); (try clear c6); (try clear c6b0); (try clear p6); (try clear c7); (try clear c7b0); (try clear c8); (try clear c8b0); (try clear c8b1); (try clear c9); (try clear c9b0); (try clear c9b1); (try clear p10); (try clear q10); (try clear hx10); (try clear qi10); (try clear c12); (try clear c13); (try clear c13b0); (try clear c13b1); (try clear c14); (try clear p14); (try clear q14); (try clear hx14); (try clear qi14); (try clear c16); (try clear c16b0); (try clear c17); (try clear c17b0); (try clear c18); (try clear c18b0); (try clear c18b1); (try clear c19); (try clear c19b0); (try clear c19b1); (try clear p20); (try clear q20); (try clear hx20); (try clear qi20); (try clear c22); (try clear c23); (try clear c23b0); (try clear c23b1); (try clear p24); (try clear q24); (try clear hx24); (try clear qi24); (try clear c27); (try clear c28); (try clear c28b0); (try clear c28b1); (try clear p29); (try clear q29); (try clear hx29); (try clear qi29); (try clear c30); (try clear c30b0); (try clear c30b1); (try clear p31); (try clear q31); (try clear hx31); (try clear qi31); (try clear c32); (try clear c32b0); (try clear c33); (try clear c33b0); (try clear c34); (try clear c34b0); (try clear p1); (try clear p10); (try clear p14); (try clear p2); (try clear p20); (try clear p24); (try clear p29); (try clear p3); (try clear p31); (try clear p6); (try clear q1); (try clear q10); (try clear q14); (try clear q2); (try clear q20); (try clear q24); (try clear q29); (try clear q3); (try clear q31); obtain ⟨kq, HA, HJ25, ⟨mc25, rfl⟩⟩ := hcut
        cases kq with
        | zero => exact absurd HA.out (by simp [hopperref08_Point.j2])
        | succ kj25 =>
         have H := HA.out; clear HA; simp only [hopperref08_Point.j2] at H
         have HC35 := Aside0.mk H; clear H; go_upto_region 10 with (fail)
         repeat (go_quiet (fail); go_upto_region 10 with (fail))
         go_cut [108] (fun v108 wc => ∃ (kq : Nat) (x108_34 : Bool), v108 = .bool x108_34 ∧ Aside0 (hopperref08_Point.j3 kq a0 (wrap64 (bt a0 0)) x108_34 = some (r1, r2)) ∧ Aside0 (kq ≤ kj25) ∧ Drawn0 w wc)
         case first =>
          have H := HC35.out; clear HC35; by_cases c36 : (wrap64 (bt a0 0)) ≥ 240
          ·rw [if_pos c36] at H; have c36b0 : decide (240 ≤ (wrap64 (bt a0 0))) = true := decide_eq_true c36; clear c36; (first | rw [c36b0] | (simp only [i64_w, i32_w]; rw [c36b0]) | skip)
           by_cases c37 : (wrap64 (bt a0 0)) < 245
           ·rw [if_pos c37] at H; have c37b0 : decide ((wrap64 (bt a0 0)) < 245) = true := decide_eq_true c37; clear c37; by_cases c38 : (a0.size : Int) > 3
            ·rw [if_pos c38] at H; have c38b0 : decide (3 < (a0.size : Int)) = true := decide_eq_true c38; have c38b1 : decide (3 < a0.size) = true := decide_eq_true (by omega)
             clear c38; by_cases c39 : 1 < (a0.size : Int)
             case neg => rw [if_neg c39] at H; exact absurd H (by simp)
             rw [if_pos c39] at H; have c39b0 : decide (1 < (a0.size : Int)) = true := decide_eq_true c39; have c39b1 : decide (1 < a0.size) = true := decide_eq_true (by omega)
             clear c39; replace H := Option.bind_eq_some_iff.mp H; obtain ⟨t327, A410, H⟩ := H; replace H : (if t327 = true then (if 2 < (a0.size : Int) then ((hopperref08_tail.f (bt a0 2)).bind fun t328 => (if t328 = true then (if 3 < (a0.size : Int) then ((hopperref08_tail.f (bt a0 3)).bind fun t329 => (hopperref08_Point.j3 kj25 a0 (wrap64 (bt a0 0)) t329)) else (none)) else (hopperref08_Point.j3 kj25 a0 (wrap64 (bt a0 0)) false))) else (none)) else (hopperref08_Point.j3 kj25 a0 (wrap64 (bt a0 0)) false)) = some (r1, r2) := H
             have A41 := Aside0.mk A410; clear A410; by_cases c42 : t327 = true
             ·subst c42; have H1 : (if 2 < (a0.size : Int) then ((hopperref08_tail.f (bt a0 2)).bind fun t328 => (if t328 = true then (if 3 < (a0.size : Int) then ((hopperref08_tail.f (bt a0 3)).bind fun t329 => (hopperref08_Point.j3 kj25 a0 (wrap64 (bt a0 0)) t329)) else (none)) else (hopperref08_Point.j3 kj25 a0 (wrap64 (bt a0 0)) false))) else (none)) = some (r1, r2) := by rw [if_pos rfl] at H; exact H
              clear H; have H := H1; clear H1; by_cases c43 : 2 < (a0.size : Int)
              case neg => rw [if_neg c43] at H; exact absurd H (by simp)
              rw [if_pos c43] at H; have c43b0 : decide (2 < (a0.size : Int)) = true := decide_eq_true c43; have c43b1 : decide (2 < a0.size) = true := decide_eq_true (by omega)
              clear c43; replace H := Option.bind_eq_some_iff.mp H; obtain ⟨t328, A450, H⟩ := H; replace H : (if t328 = true then (if 3 < (a0.size : Int) then ((hopperref08_tail.f (bt a0 3)).bind fun t329 => (hopperref08_Point.j3 kj25 a0 (wrap64 (bt a0 0)) t329)) else (none)) else (hopperref08_Point.j3 kj25 a0 (wrap64 (bt a0 0)) false)) = some (r1, r2) := H
              have A45 := Aside0.mk A450; clear A450; by_cases c46 : t328 = true
              ·subst c46; have H1 : (if 3 < (a0.size : Int) then ((hopperref08_tail.f (bt a0 3)).bind fun t329 => (hopperref08_Point.j3 kj25 a0 (wrap64 (bt a0 0)) t329)) else (none)) = some (r1, r2) := by rw [if_pos rfl] at H; exact H
               clear H; have H := H1; clear H1; by_cases c47 : 3 < (a0.size : Int)
               case neg => rw [if_neg c47] at H; exact absurd H (by simp)
               rw [if_pos c47] at H; have c47b0 : decide (3 < (a0.size : Int)) = true := decide_eq_true c47; have c47b1 : decide (3 < a0.size) = true := decide_eq_true (by omega)
               clear c47; replace H := Option.bind_eq_some_iff.mp H; obtain ⟨t329, A490, H⟩ := H; replace H : (hopperref08_Point.j3 kj25 a0 (wrap64 (bt a0 0)) t329) = some (r1, r2) := H
               have A49 := Aside0.mk A490; clear A490; have H' := Aside0.mk H
               clear H; have p40 : 0 ≤ (1 : Int) := (by omega)
               have q40 : 1 < a0.size := (by have : (1 : Int) < (a0.size : Int) := dtA; omega)
               have hx40 : ∀ h : 1 < a0.size, ((a0[1]'h).toNat : Int) = bt a0 1 := bt_at a0 1; clear p40; have qi40 : (1 < (a0.size : Int)) = True := eq_true dtA; replace q40 := eq_true q40; have tok1_ : True := trivial; have tok2_ : True := trivial; have tok3_ : True := trivial; go_wp2_with (first | (go_at_call 86; have _t := tok1_; clear _t tok1_; (with_reducible refine (hopperref08_tail.calls (bt a0 1) true _ A41.out).mono ?_); rintro e w' ⟨rfl, ⟨nd, rfl⟩⟩; (try first | exact ⟨rfl, _, World.drewN_drewN _ _ _⟩ | exact ⟨rfl, _, Eq.trans (World.drewN_drewN _ _ _) (congrArg (World.drewN _) (Nat.add_assoc _ _ _))⟩); have p44 : 0 ≤ (2 : Int) := (by omega); have q44 : 2 < a0.size := (by have : (2 : Int) < (a0.size : Int) := dtA; omega); have hx44 : ∀ h : 2 < a0.size, ((a0[2]'h).toNat : Int) = bt a0 2 := bt_at a0 2; clear p44; have qi44 : (2 < (a0.size : Int)) = True := eq_true dtA; replace q44 := eq_true q44) | (go_at_call 86; have _t := tok2_; clear _t tok2_; (with_reducible refine (hopperref08_tail.calls (bt a0 2) true _ A45.out).mono ?_); rintro e w' ⟨rfl, ⟨nd, rfl⟩⟩; (try first | exact ⟨rfl, _, World.drewN_drewN _ _ _⟩ | exact ⟨rfl, _, Eq.trans (World.drewN_drewN _ _ _) (congrArg (World.drewN _) (Nat.add_assoc _ _ _))⟩); have p48 : 0 ≤ (3 : Int) := (by omega); have q48 : 3 < a0.size := (by have : (3 : Int) < (a0.size : Int) := dtA; omega); have hx48 : ∀ h : 3 < a0.size, ((a0[3]'h).toNat : Int) = bt a0 3 := bt_at a0 3; clear p48; have qi48 : (3 < (a0.size : Int)) = True := eq_true dtA; replace q48 := eq_true q48) | (go_at_call 86; have _t := tok3_; clear _t tok3_; (with_reducible refine (hopperref08_tail.calls (bt a0 3) t329 _ A49.out).mono ?_); rintro e w' ⟨rfl, ⟨nd, rfl⟩⟩; (try first | exact ⟨rfl, _, World.drewN_drewN _ _ _⟩ | exact ⟨rfl, _, Eq.trans (World.drewN_drewN _ _ _) (congrArg (World.drewN _) (Nat.add_assoc _ _ _))⟩)))
               repeat (go_quiet (first | (go_at_call 86; (with_reducible refine (hopperref08_tail.calls (bt a0 1) true _ A41.out).mono ?_); rintro e w' ⟨rfl, ⟨nd, rfl⟩⟩; (try first | exact ⟨rfl, _, World.drewN_drewN _ _ _⟩ | exact ⟨rfl, _, Eq.trans (World.drewN_drewN _ _ _) (congrArg (World.drewN _) (Nat.add_assoc _ _ _))⟩); have p44 : 0 ≤ (2 : Int) := (by omega); have q44 : 2 < a0.size := (by have : (2 : Int) < (a0.size : Int) := dtA; omega); have hx44 : ∀ h : 2 < a0.size, ((a0[2]'h).toNat : Int) = bt a0 2 := bt_at a0 2; clear p44; have qi44 : (2 < (a0.size : Int)) = True := eq_true dtA; replace q44 := eq_true q44) | (go_at_call 86; (with_reducible refine (hopperref08_tail.calls (bt a0 2) true _ A45.out).mono ?_); rintro e w' ⟨rfl, ⟨nd, rfl⟩⟩; (try first | exact ⟨rfl, _, World.drewN_drewN _ _ _⟩ | exact ⟨rfl, _, Eq.trans (World.drewN_drewN _ _ _) (congrArg (World.drewN _) (Nat.add_assoc _ _ _))⟩); have p48 : 0 ≤ (3 : Int) := (by omega); have q48 : 3 < a0.size := (by have : (3 : Int) < (a0.size : Int) := dtA; omega); have hx48 : ∀ h : 3 < a0.size, ((a0[3]'h).toNat : Int) = bt a0 3 := bt_at a0 3; clear p48; have qi48 : (3 < (a0.size : Int)) = True := eq_true dtA; replace q48 := eq_true q48) | (go_at_call 86; (with_reducible refine (hopperref08_tail.calls (bt a0 3) t329 _ A49.out).mono ?_); rintro e w' ⟨rfl, ⟨nd, rfl⟩⟩; (try first | exact ⟨rfl, _, World.drewN_drewN _ _ _⟩ | exact ⟨rfl, _, Eq.trans (World.drewN_drewN _ _ _) (congrArg (World.drewN _) (Nat.add_assoc _ _ _))⟩))); try go_wp2_with (first | (go_at_call 86; (with_reducible refine (hopperref08_tail.calls (bt a0 1) true _ A41.out).mono ?_); rintro e w' ⟨rfl, ⟨nd, rfl⟩⟩; (try first | exact ⟨rfl, _, World.drewN_drewN _ _ _⟩ | exact ⟨rfl, _, Eq.trans (World.drewN_drewN _ _ _) (congrArg (World.drewN _) (Nat.add_assoc _ _ _))⟩); have p44 : 0 ≤ (2 : Int) := (by omega); have q44 : 2 < a0.size := (by have : (2 : Int) < (a0.size : Int) := dtA; omega); have hx44 : ∀ h : 2 < a0.size, ((a0[2]'h).toNat : Int) = bt a0 2 := bt_at a0 2; clear p44; have qi44 : (2 < (a0.size : Int)) = True := eq_true dtA; replace q44 := eq_true q44) | (go_at_call 86; (with_reducible refine (hopperref08_tail.calls (bt a0 2) true _ A45.out).mono ?_); rintro e w' ⟨rfl, ⟨nd, rfl⟩⟩; (try first | exact ⟨rfl, _, World.drewN_drewN _ _ _⟩ | exact ⟨rfl, _, Eq.trans (World.drewN_drewN _ _ _) (congrArg (World.drewN _) (Nat.add_assoc _ _ _))⟩); have p48 : 0 ≤ (3 : Int) := (by omega); have q48 : 3 < a0.size := (by have : (3 : Int) < (a0.size : Int) := dtA; omega); have hx48 : ∀ h : 3 < a0.size, ((a0[3]'h).toNat : Int) = bt a0 3 := bt_at a0 3; clear p48; have qi48 : (3 < (a0.size : Int)) = True := eq_true dtA; replace q48 := eq_true q48) | (go_at_call 86; (with_reducible refine (hopperref08_tail.calls (bt a0 3) t329 _ A49.out).mono ?_); rintro e w' ⟨rfl, ⟨nd, rfl⟩⟩; (try first | exact ⟨rfl, _, World.drewN_drewN _ _ _⟩ | exact ⟨rfl, _, Eq.trans (World.drewN_drewN _ _ _) (congrArg (World.drewN _) (Nat.add_assoc _ _ _))⟩))))
               go_meet
               case rel => exact ⟨_, (t329), (by first | rfl | (simp; done) | (simp [*]; done)), H', ⟨by have := HJ4.out; have := HJ14.out; have := HJ25.out; first | omega | exact Nat.le_refl _⟩, by repeat (first | exact Drawn0.refl _ | apply Drawn0.step)⟩
              ·replace c46 := Bool.eq_false_iff.mpr c46; subst c46; have H1 : (hopperref08_Point.j3 kj25 a0 (wrap64 (bt a0 0)) false) = some (r1, r2) := by rw [if_neg (show ¬ (false = true) by decide)] at H; exact H
               clear H; have H := H1; clear H1; have H' := Aside0.mk H
               clear H; have p40 : 0 ≤ (1 : Int) := (by omega)
               have q40 : 1 < a0.size := (by have : (1 : Int) < (a0.size : Int) := dtA; omega)
               have hx40 : ∀ h : 1 < a0.size, ((a0[1]'h).toNat : Int) = bt a0 1 := bt_at a0 1; clear p40; have qi40 : (1 < (a0.size : Int)) = True := eq_true dtA; replace q40 := eq_true q40; have tok1_ : True := trivial; have tok2_ : True := trivial; go_wp2_with (first | (go_at_call 86; have _t := tok1_; clear _t tok1_; (with_reducible refine (hopperref08_tail.calls (bt a0 1) true _ A41.out).mono ?_); rintro e w' ⟨rfl, ⟨nd, rfl⟩⟩; (try first | exact ⟨rfl, _, World.drewN_drewN _ _ _⟩ | exact ⟨rfl, _, Eq.trans (World.drewN_drewN _ _ _) (congrArg (World.drewN _) (Nat.add_assoc _ _ _))⟩); have p44 : 0 ≤ (2 : Int) := (by omega); have q44 : 2 < a0.size := (by have : (2 : Int) < (a0.size : Int) := dtA; omega); have hx44 : ∀ h : 2 < a0.size, ((a0[2]'h).toNat : Int) = bt a0 2 := bt_at a0 2; clear p44; have qi44 : (2 < (a0.size : Int)) = True := eq_true dtA; replace q44 := eq_true q44) | (go_at_call 86; have _t := tok2_; clear _t tok2_; (with_reducible refine (hopperref08_tail.calls (bt a0 2) false _ A45.out).mono ?_); rintro e w' ⟨rfl, ⟨nd, rfl⟩⟩; (try first | exact ⟨rfl, _, World.drewN_drewN _ _ _⟩ | exact ⟨rfl, _, Eq.trans (World.drewN_drewN _ _ _) (congrArg (World.drewN _) (Nat.add_assoc _ _ _))⟩)))
               repeat (go_quiet (first | (go_at_call 86; (with_reducible refine (hopperref08_tail.calls (bt a0 1) true _ A41.out).mono ?_); rintro e w' ⟨rfl, ⟨nd, rfl⟩⟩; (try first | exact ⟨rfl, _, World.drewN_drewN _ _ _⟩ | exact ⟨rfl, _, Eq.trans (World.drewN_drewN _ _ _) (congrArg (World.drewN _) (Nat.add_assoc _ _ _))⟩); have p44 : 0 ≤ (2 : Int) := (by omega); have q44 : 2 < a0.size := (by have : (2 : Int) < (a0.size : Int) := dtA; omega); have hx44 : ∀ h : 2 < a0.size, ((a0[2]'h).toNat : Int) = bt a0 2 := bt_at a0 2; clear p44; have qi44 : (2 < (a0.size : Int)) = True := eq_true dtA; replace q44 := eq_true q44) | (go_at_call 86; (with_reducible refine (hopperref08_tail.calls (bt a0 2) false _ A45.out).mono ?_); rintro e w' ⟨rfl, ⟨nd, rfl⟩⟩; (try first | exact ⟨rfl, _, World.drewN_drewN _ _ _⟩ | exact ⟨rfl, _, Eq.trans (World.drewN_drewN _ _ _) (congrArg (World.drewN _) (Nat.add_assoc _ _ _))⟩))); try go_wp2_with (first | (go_at_call 86; (with_reducible refine (hopperref08_tail.calls (bt a0 1) true _ A41.out).mono ?_); rintro e w' ⟨rfl, ⟨nd, rfl⟩⟩; (try first | exact ⟨rfl, _, World.drewN_drewN _ _ _⟩ | exact ⟨rfl, _, Eq.trans (World.drewN_drewN _ _ _) (congrArg (World.drewN _) (Nat.add_assoc _ _ _))⟩); have p44 : 0 ≤ (2 : Int) := (by omega); have q44 : 2 < a0.size := (by have : (2 : Int) < (a0.size : Int) := dtA; omega); have hx44 : ∀ h : 2 < a0.size, ((a0[2]'h).toNat : Int) = bt a0 2 := bt_at a0 2; clear p44; have qi44 : (2 < (a0.size : Int)) = True := eq_true dtA; replace q44 := eq_true q44) | (go_at_call 86; (with_reducible refine (hopperref08_tail.calls (bt a0 2) false _ A45.out).mono ?_); rintro e w' ⟨rfl, ⟨nd, rfl⟩⟩; (try first | exact ⟨rfl, _, World.drewN_drewN _ _ _⟩ | exact ⟨rfl, _, Eq.trans (World.drewN_drewN _ _ _) (congrArg (World.drewN _) (Nat.add_assoc _ _ _))⟩))))
               go_meet
               case rel => exact ⟨_, (false), (by first | rfl | (simp; done) | (simp [*]; done)), H', ⟨by have := HJ4.out; have := HJ14.out; have := HJ25.out; first | omega | exact Nat.le_refl _⟩, by repeat (first | exact Drawn0.refl _ | apply Drawn0.step)⟩
             ·replace c42 := Bool.eq_false_iff.mpr c42; subst c42; have H1 : (hopperref08_Point.j3 kj25 a0 (wrap64 (bt a0 0)) false) = some (r1, r2) := by rw [if_neg (show ¬ (false = true) by decide)] at H; exact H
              clear H; have H := H1; clear H1; have H' := Aside0.mk H
              clear H; have p40 : 0 ≤ (1 : Int) := (by omega)
              have q40 : 1 < a0.size := (by have : (1 : Int) < (a0.size : Int) := dtA; omega)
              have hx40 : ∀ h : 1 < a0.size, ((a0[1]'h).toNat : Int) = bt a0 1 := bt_at a0 1; clear p40; have qi40 : (1 < (a0.size : Int)) = True := eq_true dtA; replace q40 := eq_true q40; go_wp2_with (first | (go_at_call 86; (with_reducible refine (hopperref08_tail.calls (bt a0 1) false _ A41.out).mono ?_); rintro e w' ⟨rfl, ⟨nd, rfl⟩⟩; (try first | exact ⟨rfl, _, World.drewN_drewN _ _ _⟩ | exact ⟨rfl, _, Eq.trans (World.drewN_drewN _ _ _) (congrArg (World.drewN _) (Nat.add_assoc _ _ _))⟩)))
              repeat (go_quiet (first | (go_at_call 86; (with_reducible refine (hopperref08_tail.calls (bt a0 1) false _ A41.out).mono ?_); rintro e w' ⟨rfl, ⟨nd, rfl⟩⟩; (try first | exact ⟨rfl, _, World.drewN_drewN _ _ _⟩ | exact ⟨rfl, _, Eq.trans (World.drewN_drewN _ _ _) (congrArg (World.drewN _) (Nat.add_assoc _ _ _))⟩))); try go_wp2_with (first | (go_at_call 86; (with_reducible refine (hopperref08_tail.calls (bt a0 1) false _ A41.out).mono ?_); rintro e w' ⟨rfl, ⟨nd, rfl⟩⟩; (try first | exact ⟨rfl, _, World.drewN_drewN _ _ _⟩ | exact ⟨rfl, _, Eq.trans (World.drewN_drewN _ _ _) (congrArg (World.drewN _) (Nat.add_assoc _ _ _))⟩))))
              go_meet
              case rel => exact ⟨_, (false), (by first | rfl | (simp; done) | (simp [*]; done)), H', ⟨by have := HJ4.out; have := HJ14.out; have := HJ25.out; first | omega | exact Nat.le_refl _⟩, by repeat (first | exact Drawn0.refl _ | apply Drawn0.step)⟩
            ·rw [if_neg c38] at H; have c38b0 : decide (3 < (a0.size : Int)) = false := decide_eq_false c38; have c38b1 : decide (3 < a0.size) = false := decide_eq_false (by omega)
             clear c38; have H' := Aside0.mk H
             clear H; go_wp2
             repeat (go_quiet (fail); try go_wp2)
             go_meet
             case rel => exact ⟨_, (false), (by first | rfl | (simp; done) | (simp [*]; done)), H', ⟨by have := HJ4.out; have := HJ14.out; have := HJ25.out; first | omega | exact Nat.le_refl _⟩, by repeat (first | exact Drawn0.refl _ | apply Drawn0.step)⟩
           ·rw [if_neg c37] at H; have c37b0 : decide ((wrap64 (bt a0 0)) < 245) = false := decide_eq_false c37; clear c37; have H' := Aside0.mk H
            clear H; go_wp2
            repeat (go_quiet (fail); try go_wp2)
            go_meet
            case rel => exact ⟨_, (false), (by first | rfl | (simp; done) | (simp [*]; done)), H', ⟨by have := HJ4.out; have := HJ14.out; have := HJ25.out; first | omega | exact Nat.le_refl _⟩, by repeat (first | exact Drawn0.refl _ | apply Drawn0.step)⟩
          ·rw [if_neg c36] at H; have c36b0 : decide (240 ≤ (wrap64 (bt a0 0))) = false := decide_eq_false c36; clear c36; (first | rw [c36b0] | (simp only [i64_w, i32_w]; rw [c36b0]) | skip)
           have H' := Aside0.mk H
           clear H; go_wp2
           repeat (go_quiet (fail); try go_wp2)
           go_meet
           case rel => exact ⟨_, (false), (by first | rfl | (simp; done) | (simp [*]; done)), H', ⟨by have := HJ4.out; have := HJ14.out; have := HJ25.out; first | omega | exact Nat.le_refl _⟩, by repeat (first | exact Drawn0.refl _ | apply Drawn0.step)⟩
         case rest =>
          clear HC35; (try clear c1); (try clear p1); (try clear q1); (try clear hx1); (try clear qi1); (try clear c2); (try clear c2b0); (try clear c2b1); (try clear p2); (try clear q2); (try clear hx2); (try clear qi2); (try clear c3); (try clear p3); (try clear q3); (try clear hx3); (try clear qi3); (try clear c4); (try clear c4b0); (try clear p4); (try clear q4); (try clear hx4); (try clear qi4); (try clear c6); (try clear c6b0); (try clear p6); (try clear c7); (try clear c7b0); (try clear c8); (try clear c8b0); (try clear c8b1); (try clear c9); (try clear c9b0); (try clear c9b1); (try clear p10); (try clear q10); (try clear hx10); (try clear qi10); (try clear c12); (try clear c13); (try clear c13b0); (try clear c13b1); (try clear c14); (try clear p14); (try clear q14); (try clear hx14); (try clear qi14); (try clear c16); (try clear c16b0); (try clear c17); (try clear c17b0); (try clear c18); (try clear c18b0); (try clear c18b1); (try clear c19); (try clear c19b0); (try clear c19b1); (try clear p20); (try clear q20); (try clear hx20); (try clear qi20); (try clear c22); (try clear c23); (try clear c23b0); (try clear c23b1); (try clear p24); (try clear q24); (try clear hx24); (try clear qi24); (try clear c25); (try clear c27); (try clear c28); (try clear c28b0); (try clear c28b1); (try clear p29); (try clear q29); (try clear hx29); (try clear qi29); (try clear c30); (try clear c30b0); (try clear c30b1); (try clear p31); (try clear q31); (try clear hx31); (try clear qi31); (try clear c32); (try clear c32b0); (try clear c33); (try clear c33b0); (try clear c34); (try clear c34b0); (try clear c36); (try clear c36b0); (try clear c37); (try clear c37b0); (try clear c38); (try clear c38b0); (try clear c38b1); (try clear c39); (try clear c39b0); (try clear c39b1); (try clear p40); (try clear q40); (try clear hx40); (try clear qi40); (try clear c42); (try clear c43); (try clear c43b0); (try clear c43b1); (try clear p44); (try clear q44); (try clear hx44); (try clear qi44); (try clear c46); (try clear c47); (try clear c47b0); (try clear c47b1); (try clear p48); (try clear q48); (try clear hx48); (try clear qi48); (try clear p1); (try clear p10); (try clear p14); (try clear p2); (try clear p20); (try clear p24); (try clear p29); (try clear p3); (try clear p31); (try clear p40); (try clear p44); (try clear p48); (try clear p6); (try clear q1); (try clear q10); (try clear q14); (try clear q2); (try clear q20); (try clear q24); (try clear q29); (try clear q3); (try clear q31); (try clear q40); (try clear q44); (try clear q48); obtain ⟨kq, x108_34, rfl, HA, HJ34, ⟨mc34, rfl⟩⟩ := hcut
          cases kq with
          | zero => exact absurd HA.out (by simp [hopperref08_Point.j3])
          | succ kj34 =>
           have H := HA.out; clear HA; simp only [hopperref08_Point.j3] at H
           by_cases c50 : x108_34 = true
           ·subst c50; have H1 : (if 1 < (a0.size : Int) then (if 2 < (a0.size : Int) then (if 3 < (a0.size : Int) then (if (wrap64 ((wrap64 ((wrap64 ((wrap64 ((wrap64 ((wrap64 ((wrap64 (bt a0 0)) - 240)) * 262144)) + (wrap64 ((wrap64 ((wrap64 (bt a0 1)) - 128)) * 4096)))) + (wrap64 ((wrap64 ((wrap64 (bt a0 2)) - 128)) * 64)))) + (wrap64 (bt a0 3)))) - 128)) ≥ 65536 then (if (wrap64 ((wrap64 ((wrap64 ((wrap64 ((wrap64 ((wrap64 ((wrap64 (bt a0 0)) - 240)) * 262144)) + (wrap64 ((wrap64 ((wrap64 (bt a0 1)) - 128)) * 4096)))) + (wrap64 ((wrap64 ((wrap64 (bt a0 2)) - 128)) * 64)))) + (wrap64 (bt a0 3)))) - 128)) ≤ 1114111 then (some (wrap64 ((wrap64 ((wrap64 ((wrap64 ((wrap64 ((wrap64 ((wrap64 (bt a0 0)) - 240)) * 262144)) + (wrap64 ((wrap64 ((wrap64 (bt a0 1)) - 128)) * 4096)))) + (wrap64 ((wrap64 ((wrap64 (bt a0 2)) - 128)) * 64)))) + (wrap64 (bt a0 3)))) - 128), 4)) else (some (wrap64 (1114112 + (wrap64 (bt a0 0))), 1))) else (some (wrap64 (1114112 + (wrap64 (bt a0 0))), 1))) else (none)) else (none)) else (none)) = some (r1, r2) := by rw [if_pos rfl] at H; exact H
            clear H; have H := H1; clear H1; by_cases c51 : 1 < (a0.size : Int)
            case neg => rw [if_neg c51] at H; exact absurd H (by simp)
            rw [if_pos c51] at H; have c51b0 : decide (1 < (a0.size : Int)) = true := decide_eq_true c51; have c51b1 : decide (1 < a0.size) = true := decide_eq_true (by omega)
            clear c51; by_cases c53 : 2 < (a0.size : Int)
            case neg => rw [if_neg c53] at H; exact absurd H (by simp)
            rw [if_pos c53] at H; have c53b0 : decide (2 < (a0.size : Int)) = true := decide_eq_true c53; have c53b1 : decide (2 < a0.size) = true := decide_eq_true (by omega)
            clear c53; by_cases c55 : 3 < (a0.size : Int)
            case neg => rw [if_neg c55] at H; exact absurd H (by simp)
            rw [if_pos c55] at H; have c55b0 : decide (3 < (a0.size : Int)) = true := decide_eq_true c55; have c55b1 : decide (3 < a0.size) = true := decide_eq_true (by omega)
            clear c55; by_cases c57 : (wrap64 ((wrap64 ((wrap64 ((wrap64 ((wrap64 ((wrap64 ((wrap64 (bt a0 0)) - 240)) * 262144)) + (wrap64 ((wrap64 ((wrap64 (bt a0 1)) - 128)) * 4096)))) + (wrap64 ((wrap64 ((wrap64 (bt a0 2)) - 128)) * 64)))) + (wrap64 (bt a0 3)))) - 128)) ≥ 65536
            ·rw [if_pos c57] at H; have c57b0 : decide (65536 ≤ (wrap64 ((wrap64 ((wrap64 ((wrap64 ((wrap64 ((wrap64 ((wrap64 (bt a0 0)) - 240)) * 262144)) + (wrap64 ((wrap64 ((wrap64 (bt a0 1)) - 128)) * 4096)))) + (wrap64 ((wrap64 ((wrap64 (bt a0 2)) - 128)) * 64)))) + (wrap64 (bt a0 3)))) - 128))) = true := decide_eq_true c57; clear c57; by_cases c58 : (wrap64 ((wrap64 ((wrap64 ((wrap64 ((wrap64 ((wrap64 ((wrap64 (bt a0 0)) - 240)) * 262144)) + (wrap64 ((wrap64 ((wrap64 (bt a0 1)) - 128)) * 4096)))) + (wrap64 ((wrap64 ((wrap64 (bt a0 2)) - 128)) * 64)))) + (wrap64 (bt a0 3)))) - 128)) ≤ 1114111
             ·rw [if_pos c58] at H; have c58b0 : decide ((wrap64 ((wrap64 ((wrap64 ((wrap64 ((wrap64 ((wrap64 ((wrap64 (bt a0 0)) - 240)) * 262144)) + (wrap64 ((wrap64 ((wrap64 (bt a0 1)) - 128)) * 4096)))) + (wrap64 ((wrap64 ((wrap64 (bt a0 2)) - 128)) * 64)))) + (wrap64 (bt a0 3)))) - 128)) ≤ 1114111) = true := decide_eq_true c58; clear c58; simp only [Option.some.injEq, Prod.mk.injEq] at H
              obtain ⟨rfl, rfl⟩ := H; have p52 : 0 ≤ (1 : Int) := (by omega)
              have q52 : 1 < a0.size := (by have : (1 : Int) < (a0.size : Int) := dtA; omega)
              have hx52 : ∀ h : 1 < a0.size, ((a0[1]'h).toNat : Int) = bt a0 1 := bt_at a0 1; clear p52; have qi52 : (1 < (a0.size : Int)) = True := eq_true dtA; replace q52 := eq_true q52; have p54 : 0 ≤ (2 : Int) := (by omega)
              have q54 : 2 < a0.size := (by have : (2 : Int) < (a0.size : Int) := dtA; omega)
              have hx54 : ∀ h : 2 < a0.size, ((a0[2]'h).toNat : Int) = bt a0 2 := bt_at a0 2; clear p54; have qi54 : (2 < (a0.size : Int)) = True := eq_true dtA; replace q54 := eq_true q54; have p56 : 0 ≤ (3 : Int) := (by omega)
              have q56 : 3 < a0.size := (by have : (3 : Int) < (a0.size : Int) := dtA; omega)
              have hx56 : ∀ h : 3 < a0.size, ((a0[3]'h).toNat : Int) = bt a0 3 := bt_at a0 3; clear p56; have qi56 : (3 < (a0.size : Int)) = True := eq_true dtA; replace q56 := eq_true q56; go_wp2
              repeat (go_quiet (fail); try go_wp2)
              go_ret2
              exact exD
             ·rw [if_neg c58] at H; have c58b0 : decide ((wrap64 ((wrap64 ((wrap64 ((wrap64 ((wrap64 ((wrap64 ((wrap64 (bt a0 0)) - 240)) * 262144)) + (wrap64 ((wrap64 ((wrap64 (bt a0 1)) - 128)) * 4096)))) + (wrap64 ((wrap64 ((wrap64 (bt a0 2)) - 128)) * 64)))) + (wrap64 (bt a0 3)))) - 128)) ≤ 1114111) = false := decide_eq_false c58; clear c58; simp only [Option.some.injEq, Prod.mk.injEq] at H
              obtain ⟨rfl, rfl⟩ := H; have p52 : 0 ≤ (1 : Int) := (by omega)
              have q52 : 1 < a0.size := (by have : (1 : Int) < (a0.size : Int) := dtA; omega)
              have hx52 : ∀ h : 1 < a0.size, ((a0[1]'h).toNat : Int) = bt a0 1 := bt_at a0 1; clear p52; have qi52 : (1 < (a0.size : Int)) = True := eq_true dtA; replace q52 := eq_true q52; have p54 : 0 ≤ (2 : Int) := (by omega)
              have q54 : 2 < a0.size := (by have : (2 : Int) < (a0.size : Int) := dtA; omega)
              have hx54 : ∀ h : 2 < a0.size, ((a0[2]'h).toNat : Int) = bt a0 2 := bt_at a0 2; clear p54; have qi54 : (2 < (a0.size : Int)) = True := eq_true dtA; replace q54 := eq_true q54; have p56 : 0 ≤ (3 : Int) := (by omega)
              have q56 : 3 < a0.size := (by have : (3 : Int) < (a0.size : Int) := dtA; omega)
              have hx56 : ∀ h : 3 < a0.size, ((a0[3]'h).toNat : Int) = bt a0 3 := bt_at a0 3; clear p56; have qi56 : (3 < (a0.size : Int)) = True := eq_true dtA; replace q56 := eq_true q56; go_wp2
              repeat (go_quiet (fail); try go_wp2)
              go_ret2
              exact exD
            ·rw [if_neg c57] at H; have c57b0 : decide (65536 ≤ (wrap64 ((wrap64 ((wrap64 ((wrap64 ((wrap64 ((wrap64 ((wrap64 (bt a0 0)) - 240)) * 262144)) + (wrap64 ((wrap64 ((wrap64 (bt a0 1)) - 128)) * 4096)))) + (wrap64 ((wrap64 ((wrap64 (bt a0 2)) - 128)) * 64)))) + (wrap64 (bt a0 3)))) - 128))) = false := decide_eq_false c57; clear c57; simp only [Option.some.injEq, Prod.mk.injEq] at H
             obtain ⟨rfl, rfl⟩ := H; have p52 : 0 ≤ (1 : Int) := (by omega)
             have q52 : 1 < a0.size := (by have : (1 : Int) < (a0.size : Int) := dtA; omega)
             have hx52 : ∀ h : 1 < a0.size, ((a0[1]'h).toNat : Int) = bt a0 1 := bt_at a0 1; clear p52; have qi52 : (1 < (a0.size : Int)) = True := eq_true dtA; replace q52 := eq_true q52; have p54 : 0 ≤ (2 : Int) := (by omega)
             have q54 : 2 < a0.size := (by have : (2 : Int) < (a0.size : Int) := dtA; omega)
             have hx54 : ∀ h : 2 < a0.size, ((a0[2]'h).toNat : Int) = bt a0 2 := bt_at a0 2; clear p54; have qi54 : (2 < (a0.size : Int)) = True := eq_true dtA; replace q54 := eq_true q54; have p56 : 0 ≤ (3 : Int) := (by omega)
             have q56 : 3 < a0.size := (by have : (3 : Int) < (a0.size : Int) := dtA; omega)
             have hx56 : ∀ h : 3 < a0.size, ((a0[3]'h).toNat : Int) = bt a0 3 := bt_at a0 3; clear p56; have qi56 : (3 < (a0.size : Int)) = True := eq_true dtA; replace q56 := eq_true q56; go_wp2
             repeat (go_quiet (fail); try go_wp2)
             go_ret2
             exact exD
           ·replace c50 := Bool.eq_false_iff.mpr c50; subst c50; have H1 : (some (wrap64 (1114112 + (wrap64 (bt a0 0))), 1)) = some (r1, r2) := by rw [if_neg (show ¬ (false = true) by decide)] at H; exact H
            clear H; have H := H1; clear H1; simp only [Option.some.injEq, Prod.mk.injEq] at H
            obtain ⟨rfl, rfl⟩ := H; go_wp2
            repeat (go_quiet (fail); try go_wp2)
            go_ret2
            exact exD

end Go.Proofs.YtdccooaddoafnaaGreatDoor.Q
