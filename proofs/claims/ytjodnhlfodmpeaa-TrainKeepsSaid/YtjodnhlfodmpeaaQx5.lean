-- PRINTED by print.py (a twelfth state) out of the translation. Not trusted: Lean checks it.
import Derived.Test.YtjodnhlfodmpeaaQx0
namespace Go.Proofs.Ytjodnhlfodmpeaa.Q
open Go.RowKit Go.Proofs.YtjodnhlfodmpeaaW.PrintWords Go.Proofs.YtjodnhlfodmpeaaW.PrintLast Go.Proofs.YtjodnhlfodmpeaaW.PrintMore
attribute [local go_sem] str_gtr str_geq str_leq max2_int min2_int max_two min_two max_three min_three max_four min_four
set_option linter.unusedVariables false
set_option maxHeartbeats 8000000
set_option maxRecDepth 100000
set_option linter.unusedSimpArgs false

/-! ### hopperref10_Longest: function 33 -/
def hopperref10_Longest.l0 : Nat → List ByteArray → ByteArray → Int → Int → Int → Option (Int × Int)
 | 0, _, _, _, _, _ => none
 | k + 1, x0, x1, x6, x7, x8 => if x8 < (x0.length : Int) then (if 0 ≤ x8 then (if ((rdOf ByteArray.empty x0 x8).size : Int) > x7 then (if ((rdOf ByteArray.empty x0 x8).size : Int) ≤ (x1.size : Int) then (if 0 ≤ ((rdOf ByteArray.empty x0 x8).size : Int) then (if (x1.extract 0 ((rdOf ByteArray.empty x0 x8).size)).toList = (rdOf ByteArray.empty x0 x8).toList then (hopperref10_Longest.l0 k x0 x1 x8 ((rdOf ByteArray.empty x0 x8).size : Int) (wrap64 (x8 + 1))) else (hopperref10_Longest.l0 k x0 x1 x6 x7 (wrap64 (x8 + 1)))) else (none)) else (hopperref10_Longest.l0 k x0 x1 x6 x7 (wrap64 (x8 + 1)))) else (hopperref10_Longest.l0 k x0 x1 x6 x7 (wrap64 (x8 + 1)))) else (none)) else (some (x6, x7))
def hopperref10_Longest.f (k : Nat) (l0 : List ByteArray) (a1 : ByteArray) : Option (Int × Int) := hopperref10_Longest.l0 k l0 a1 (-1) 0 0
theorem hopperref10_Longest.calls (k : Nat) (A0 : Option Addr) (c0 : Nat) (l0 : List ByteArray) (a1 : ByteArray) (r1 : Int) (r2 : Int) (w : World) (hr0 : Kd.C Kd.string w A0 l0.length l0) (hc0 : l0.length ≤ c0) (h : hopperref10_Longest.f k l0 a1 = some (r1, r2)) :
  Calls Try.prog 33 #[.slice A0 l0.length c0, .string a1] w fun e w' => e = .returned (.tuple #[.int .i64 r1, .int .i64 r2]) ∧ Drawn0 w w' := by
 have HR0 := Aside0.mk hr0; have HC0 := Aside0.mk hc0; clear hr0 hc0; have H : (hopperref10_Longest.l0 k l0 a1 (-1) 0 0) = some (r1, r2) := h; clear h; have H' := Aside0.mk H
 clear H; go_enter Try.func33, Try.ntmps33
 go_wp2
 repeat (go_quiet (fail); try go_wp2)
 go_loopg [6, 7, 8] k (fun kq v6 v7 v8 w' => ∃ (x6_1 : Int) (x7_1 : Int) (x8_1 : Int), v6 = .int .i64 x6_1 ∧ v7 = .int .i64 x7_1 ∧ v8 = .int .i64 x8_1 ∧ Aside0 (hopperref10_Longest.l0 kq l0 a1 x6_1 x7_1 x8_1 = some (r1, r2)) ∧ Aside0 (kq ≤ k) ∧ Drawn0 w w')
 case atStart => exact ⟨((-1)), (0), (0), (by first | rfl | (simp; done) | (simp [*]; done)), (by first | rfl | (simp; done) | (simp [*]; done)), (by first | rfl | (simp; done) | (simp [*]; done)), H', ⟨Nat.le_refl _⟩, by repeat (first | exact Drawn0.refl _ | apply Drawn0.step)⟩
 case round =>
  clear H'; try clear p2
  obtain ⟨x6_1, x7_1, x8_1, rfl, rfl, rfl, HA, HK1, ⟨m1, rfl⟩⟩ := hrel
  cases gk with
  | zero => exact absurd HA.out (by simp [hopperref10_Longest.l0])
  | succ k1 =>
   have H := HA.out; clear HA; simp only [hopperref10_Longest.l0] at H
   by_cases c3 : x8_1 < (l0.length : Int)
   ·rw [if_pos c3] at H; have c3b0 : decide (x8_1 < (l0.length : Int)) = true := decide_eq_true c3; clear c3; by_cases c4 : 0 ≤ x8_1
    case neg => rw [if_neg c4] at H; exact absurd H (by simp)
    rw [if_pos c4] at H; have c4b0 : decide (0 ≤ x8_1) = true := decide_eq_true c4; clear c4; by_cases c5 : ((rdOf ByteArray.empty l0 x8_1).size : Int) > x7_1
    ·rw [if_pos c5] at H; have c5b0 : decide (x7_1 < ((rdOf ByteArray.empty l0 x8_1).size : Int)) = true := decide_eq_true c5; clear c5; by_cases c6 : ((rdOf ByteArray.empty l0 x8_1).size : Int) ≤ (a1.size : Int)
     ·rw [if_pos c6] at H; have c6b0 : decide (((rdOf ByteArray.empty l0 x8_1).size : Int) ≤ (a1.size : Int)) = true := decide_eq_true c6; have c6b1 : decide ((rdOf ByteArray.empty l0 x8_1).size ≤ a1.size) = true := decide_eq_true (Int.ofNat_le.mp c6)
      clear c6; by_cases c7 : 0 ≤ ((rdOf ByteArray.empty l0 x8_1).size : Int)
      case neg => rw [if_neg c7] at H; exact absurd H (by simp)
      rw [if_pos c7] at H; have c7b0 := eq_true c7; have c7b1 : decide (0 ≤ ((rdOf ByteArray.empty l0 x8_1).size : Int)) = true := decide_eq_true c7; clear c7; have c8b0 := eq_true (dtA : ((rdOf ByteArray.empty l0 x8_1).size : Int) ≤ (a1.size : Int))
      by_cases c9 : (a1.extract 0 ((rdOf ByteArray.empty l0 x8_1).size)).toList = (rdOf ByteArray.empty l0 x8_1).toList
      ·rw [if_pos c9] at H; have c9b0 : ((a1.extract 0 ((rdOf ByteArray.empty l0 x8_1).size)).toList == (rdOf ByteArray.empty l0 x8_1).toList) = true := beq_iff_eq.mpr c9; have c9b1 : ((a1.extract 0 ((rdOf ByteArray.empty l0 x8_1).size)).toList != (rdOf ByteArray.empty l0 x8_1).toList) = false := bne_eq_false_iff_eq.mpr c9; clear c9; have H' := Aside0.mk H
       clear H; have p177 : 0 ≤ (x8_1 : Int) := dtA; have q177 : x8_1 < (l0.length : Int) := dtA; obtain ⟨ad177, e177, hx177_0⟩ := Kd.at_string HR0.out x8_1 p177 q177
       cases e177
       replace p177 := eq_true p177; replace q177 := eq_true q177; have p178 : 0 ≤ (x8_1 : Int) := dtA; have q178 : x8_1 < (l0.length : Int) := dtA; obtain ⟨ad178, e178, hx178_0⟩ := Kd.at_string HR0.out x8_1 p178 q178
       obtain rfl : ad177 = ad178 := (by injection e178)
       replace p178 := eq_true p178; replace q178 := eq_true q178; have p179 : 0 ≤ (x8_1 : Int) := dtA; have q179 : x8_1 < (l0.length : Int) := dtA; obtain ⟨ad179, e179, hx179_0⟩ := Kd.at_string HR0.out x8_1 p179 q179
       obtain rfl : ad177 = ad179 := (by injection e179)
       replace p179 := eq_true p179; replace q179 := eq_true q179; have p180 : 0 ≤ (x8_1 : Int) := dtA; have q180 : x8_1 < (l0.length : Int) := dtA; obtain ⟨ad180, e180, hx180_0⟩ := Kd.at_string HR0.out x8_1 p180 q180
       obtain rfl : ad177 = ad180 := (by injection e180)
       replace p180 := eq_true p180; replace q180 := eq_true q180; have p181 : 0 ≤ (x8_1 : Int) := dtA; have q181 : x8_1 < (l0.length : Int) := dtA; obtain ⟨ad181, e181, hx181_0⟩ := Kd.at_string HR0.out x8_1 p181 q181
       obtain rfl : ad177 = ad181 := (by injection e181)
       replace p181 := eq_true p181; replace q181 := eq_true q181; go_wp2
       repeat (go_quiet (fail); try go_wp2)
       go_roundg k1
       case measure => have := HK1.out; omega
       case rel => exact ⟨(x8_1), (((rdOf ByteArray.empty l0 x8_1).size : Int)), (wrap64 (x8_1 + 1)), (by first | rfl | (simp; done) | (simp [*]; done)), (by first | rfl | (simp; done) | (simp [*]; done)), (by first | rfl | (simp; done) | (simp [*]; done)), H', ⟨by have := HK1.out; omega⟩, by repeat (first | exact Drawn0.refl _ | apply Drawn0.step)⟩
      ·rw [if_neg c9] at H; have c9b0 : ((a1.extract 0 ((rdOf ByteArray.empty l0 x8_1).size)).toList == (rdOf ByteArray.empty l0 x8_1).toList) = false := beq_eq_false_iff_ne.mpr c9; have c9b1 : ((a1.extract 0 ((rdOf ByteArray.empty l0 x8_1).size)).toList != (rdOf ByteArray.empty l0 x8_1).toList) = true := bne_iff_ne.mpr c9; have H' := Aside0.mk H
       clear H; have p177 : 0 ≤ (x8_1 : Int) := dtA; have q177 : x8_1 < (l0.length : Int) := dtA; obtain ⟨ad177, e177, hx177_0⟩ := Kd.at_string HR0.out x8_1 p177 q177
       cases e177
       replace p177 := eq_true p177; replace q177 := eq_true q177; have p178 : 0 ≤ (x8_1 : Int) := dtA; have q178 : x8_1 < (l0.length : Int) := dtA; obtain ⟨ad178, e178, hx178_0⟩ := Kd.at_string HR0.out x8_1 p178 q178
       obtain rfl : ad177 = ad178 := (by injection e178)
       replace p178 := eq_true p178; replace q178 := eq_true q178; have p179 : 0 ≤ (x8_1 : Int) := dtA; have q179 : x8_1 < (l0.length : Int) := dtA; obtain ⟨ad179, e179, hx179_0⟩ := Kd.at_string HR0.out x8_1 p179 q179
       obtain rfl : ad177 = ad179 := (by injection e179)
       replace p179 := eq_true p179; replace q179 := eq_true q179; have p180 : 0 ≤ (x8_1 : Int) := dtA; have q180 : x8_1 < (l0.length : Int) := dtA; obtain ⟨ad180, e180, hx180_0⟩ := Kd.at_string HR0.out x8_1 p180 q180
       obtain rfl : ad177 = ad180 := (by injection e180)
       replace p180 := eq_true p180; replace q180 := eq_true q180; go_wp2
       repeat (go_quiet (fail); try go_wp2)
       go_roundg k1
       case measure => have := HK1.out; omega
       case rel => exact ⟨(x6_1), (x7_1), (wrap64 (x8_1 + 1)), (by first | rfl | (simp; done) | (simp [*]; done)), (by first | rfl | (simp; done) | (simp [*]; done)), (by first | rfl | (simp; done) | (simp [*]; done)), H', ⟨by have := HK1.out; omega⟩, by repeat (first | exact Drawn0.refl _ | apply Drawn0.step)⟩
     ·rw [if_neg c6] at H; have c6b0 : decide (((rdOf ByteArray.empty l0 x8_1).size : Int) ≤ (a1.size : Int)) = false := decide_eq_false c6; have c6b1 : decide ((rdOf ByteArray.empty l0 x8_1).size ≤ a1.size) = false := decide_eq_false (fun h => c6 (Int.ofNat_le.mpr h))
      clear c6; have H' := Aside0.mk H
      clear H; have p177 : 0 ≤ (x8_1 : Int) := dtA; have q177 : x8_1 < (l0.length : Int) := dtA; obtain ⟨ad177, e177, hx177_0⟩ := Kd.at_string HR0.out x8_1 p177 q177
      cases e177
      replace p177 := eq_true p177; replace q177 := eq_true q177; have p178 : 0 ≤ (x8_1 : Int) := dtA; have q178 : x8_1 < (l0.length : Int) := dtA; obtain ⟨ad178, e178, hx178_0⟩ := Kd.at_string HR0.out x8_1 p178 q178
      obtain rfl : ad177 = ad178 := (by injection e178)
      replace p178 := eq_true p178; replace q178 := eq_true q178; go_wp2
      repeat (go_quiet (fail); try go_wp2)
      go_roundg k1
      case measure => have := HK1.out; omega
      case rel => exact ⟨(x6_1), (x7_1), (wrap64 (x8_1 + 1)), (by first | rfl | (simp; done) | (simp [*]; done)), (by first | rfl | (simp; done) | (simp [*]; done)), (by first | rfl | (simp; done) | (simp [*]; done)), H', ⟨by have := HK1.out; omega⟩, by repeat (first | exact Drawn0.refl _ | apply Drawn0.step)⟩
    ·rw [if_neg c5] at H; have c5b0 : decide (x7_1 < ((rdOf ByteArray.empty l0 x8_1).size : Int)) = false := decide_eq_false c5; clear c5; have H' := Aside0.mk H
     clear H; have p177 : 0 ≤ (x8_1 : Int) := dtA; have q177 : x8_1 < (l0.length : Int) := dtA; obtain ⟨ad177, e177, hx177_0⟩ := Kd.at_string HR0.out x8_1 p177 q177
     cases e177
     replace p177 := eq_true p177; replace q177 := eq_true q177; go_wp2
     repeat (go_quiet (fail); try go_wp2)
     go_roundg k1
     case measure => have := HK1.out; omega
     case rel => exact ⟨(x6_1), (x7_1), (wrap64 (x8_1 + 1)), (by first | rfl | (simp; done) | (simp [*]; done)), (by first | rfl | (simp; done) | (simp [*]; done)), (by first | rfl | (simp; done) | (simp [*]; done)), H', ⟨by have := HK1.out; omega⟩, by repeat (first | exact Drawn0.refl _ | apply Drawn0.step)⟩
   ·rw [if_neg c3] at H; have c3b0 : decide (x8_1 < (l0.length : Int)) = false := decide_eq_false c3; clear c3; simp only [Option.some.injEq, Prod.mk.injEq] at H
    obtain ⟨rfl, rfl⟩ := H; go_wp2
    repeat (go_quiet (fail); try go_wp2)
    go_ret2
    exact exD

/-! ### hopperref12_add: function 34 -/
def hopperref12_add.l0 : Nat → List ByteArray → List Int → ByteArray → Int → Option (List ByteArray × List Int)
 | 0, _, _, _, _ => none
 | k + 1, x0, x1, x2, x8 => if x8 < (x0.length : Int) then (if 0 ≤ x8 then (if (rdOf ByteArray.empty x0 x8).toList = x2.toList then (if x8 < (x1.length : Int) then (some (x0, (x1.set (x8 : Int).toNat (wrap64 ((rd x1 x8) + 1))))) else (none)) else (hopperref12_add.l0 k x0 x1 x2 (wrap64 (x8 + 1)))) else (none)) else (if x0.length < 8796093022208 then (if x1.length < 17592186044416 then (some ((x0 ++ [x2]), (x1 ++ [1]))) else (none)) else (none))
def hopperref12_add.f (k : Nat) (l0 : List ByteArray) (l1 : List Int) (a2 : ByteArray) : Option (List ByteArray × List Int) := hopperref12_add.l0 k l0 l1 a2 0
theorem hopperref12_add.calls (k : Nat) (P0_ : Nat → Prop) (u9000_ : Value) (l0 : List ByteArray) (P1_ : Nat → Prop) (u9001_ : Value) (l1 : List Int) (a2 : ByteArray) (r1 : List ByteArray) (r2 : List Int) (w0 w : World) (hB : Below w0.heap.size w0 w) (ho0 : Kd.R Kd.string 9 w w0.heap.size P0_ u9000_ l0) (ho1 : Kd.R (Kd.int .i64) 3 w w0.heap.size P1_ u9001_ l1) (h : hopperref12_add.f k l0 l1 a2 = some (r1, r2)) :
  Calls Try.prog 34 #[u9000_, u9001_, .string a2] w fun e w' => ∃ v0_ v1_ : Value, e = .returned (.tuple #[v0_, v1_]) ∧ Kd.R Kd.string 9 w' w0.heap.size (fun k_ => ((P0_ k_ ∨ P1_ k_) ∨ w.heap.size ≤ k_)) v0_ r1 ∧ Kd.R (Kd.int .i64) 3 w' w0.heap.size (fun k_ => ((P0_ k_ ∨ P1_ k_) ∨ w.heap.size ≤ k_)) v1_ r2 ∧ Below w0.heap.size w0 w' ∧ Kept w w' (fun k_ => P0_ k_ ∨ P1_ k_) := by
 have HO0 := Aside0.mk (show Kd.R Kd.string 9 w w0.heap.size (fun k_ => ((P0_ k_ ∨ P1_ k_) ∨ w.heap.size ≤ k_)) u9000_ l0 from Kd.R_mono ho0 (fun k_ hk => (.inl (.inl hk))))
 have HO1 := Aside0.mk (show Kd.R (Kd.int .i64) 3 w w0.heap.size (fun k_ => ((P0_ k_ ∨ P1_ k_) ∨ w.heap.size ≤ k_)) u9001_ l1 from Kd.R_mono ho1 (fun k_ hk => (.inl (.inr hk))))
 have HK := Aside0.mk (Kept.refl w (fun k_ => P0_ k_ ∨ P1_ k_))
 have HW0 := Aside0.mk hB.size; have HB := Aside0.mk hB; clear hB; have H : (hopperref12_add.l0 k l0 l1 a2 0) = some (r1, r2) := h; clear h; have H' := Aside0.mk H
 clear H; go_enter Try.func34, Try.ntmps34
 go_wp2
 go_loopg [8] k (fun kq v8 w' => ∃ (x1_1 : List Int) (x8_1 : Int), v8 = .int .i64 x8_1 ∧ Aside0 (hopperref12_add.l0 kq l0 x1_1 a2 x8_1 = some (r1, r2)) ∧ Aside0 (kq ≤ k) ∧ Aside0 (Kd.R Kd.string 9 w' w0.heap.size (fun k_ => ((P0_ k_ ∨ P1_ k_) ∨ w.heap.size ≤ k_)) u9000_ l0) ∧ Aside0 (Kd.R (Kd.int .i64) 3 w' w0.heap.size (fun k_ => ((P0_ k_ ∨ P1_ k_) ∨ w.heap.size ≤ k_)) u9001_ x1_1) ∧ Aside0 (Kept w w' (fun k_ => P0_ k_ ∨ P1_ k_)) ∧ Aside0 (Below w0.heap.size w0 w'))
 case atStart => exact ⟨(l1), (0), (by first | rfl | (simp; done) | (simp [*]; done)), H', ⟨Nat.le_refl _⟩, ⟨by (with_reducible repeat (first | apply Kd.R_alloc | apply Kd.R_drewN | apply Kd.R_drew)); exact HO0.out⟩, ⟨by (with_reducible repeat (first | apply Kd.R_alloc | apply Kd.R_drewN | apply Kd.R_drew)); exact HO1.out⟩, ⟨by repeat (first | (with_reducible first | exact HK.out | apply Kept.alloc | apply Kept.drewN | apply Kept.drew) | exact HK.out)⟩, ⟨mvB HB.out⟩⟩
 case round =>
  clear H'; try clear p2
  try clear c3
  obtain ⟨x1_1, x8_1, rfl, HA, HK1, HO_0, HO_1, HK, HB⟩ := hrel
  cases gk with
  | zero => exact absurd HA.out (by simp [hopperref12_add.l0])
  | succ k1 =>
   have H := HA.out; clear HA; simp only [hopperref12_add.l0] at H
   by_cases c4 : x8_1 < (l0.length : Int)
   ·rw [if_pos c4] at H; have c4b0 : decide (x8_1 < (l0.length : Int)) = true := decide_eq_true c4; clear c4; by_cases c5 : 0 ≤ x8_1
    case neg => rw [if_neg c5] at H; exact absurd H (by simp)
    rw [if_pos c5] at H; have c5b0 : decide (0 ≤ x8_1) = true := decide_eq_true c5; clear c5; by_cases c6 : (rdOf ByteArray.empty l0 x8_1).toList = a2.toList
    ·rw [if_pos c6] at H; have c6b0 : ((rdOf ByteArray.empty l0 x8_1).toList == a2.toList) = true := beq_iff_eq.mpr c6; have c6b1 : ((rdOf ByteArray.empty l0 x8_1).toList != a2.toList) = false := bne_eq_false_iff_eq.mpr c6; clear c6; by_cases c7 : x8_1 < (x1_1.length : Int)
     case neg => rw [if_neg c7] at H; exact absurd H (by simp)
     rw [if_pos c7] at H; have c7b0 : decide (x8_1 < (x1_1.length : Int)) = true := decide_eq_true c7; clear c7; obtain ⟨y184, hy184⟩ : ∃ y_ : List Int, y_ = (x1_1.set (x8_1 : Int).toNat (wrap64 ((rd x1_1 x8_1) + 1))) := ⟨_, rfl⟩
     replace H : (some (l0, y184)) = some (r1, r2) := by first | (rw [hy184]; with_reducible exact H) | (have H2_ := (Option.bind_some _ _).symm.trans H; rw [hy184]; with_reducible exact H2_) | (have H2_ := (Option.bind_some _ _).symm.trans H; with_reducible exact H2_) | with_reducible exact H | (rw [hy184]; exact H) | exact H
     have Ny184 := Aside0.mk hy184; clear hy184; simp only [Option.some.injEq, Prod.mk.injEq] at H
     obtain ⟨rfl, rfl⟩ := H; obtain ⟨Ao9, co9, eo9⟩ := Kd.R_slice HO_0.out
     subst eo9; have p182 : 0 ≤ (x8_1 : Int) := dtA; have q182 : x8_1 < (l0.length : Int) := dtA; obtain ⟨ad182, e182, hx182_0⟩ := Kd.at_string (Kd.R_reads' HO_0.out).2.2 x8_1 p182 q182
     cases e182
     replace p182 := eq_true p182; replace q182 := eq_true q182; obtain ⟨Ao10, co10, eo10⟩ := Kd.R_slice HO_1.out
     subst eo10; have p183 : 0 ≤ (x8_1 : Int) := dtA; have q183 : x8_1 < (x1_1.length : Int) := dtA; obtain ⟨ad183, e183, hx183_0⟩ := Kd.at_int (Kd.R_reads' HO_1.out).2.2 x8_1 p183 q183
     cases e183
     replace p183 := eq_true p183; replace q183 := eq_true q183; have p8 : 0 ≤ (x8_1 : Int) := dtA; have q8 : (x8_1 : Int) < ((x1_1.length : Int) : Int) := dtA; obtain ⟨go8, co8, eo8, gb8, gl8, cl8, HG8⟩ := Kd.R_form HO_1.out (by omega)
     (first | cases eo8 | (injection eo8 with ea_ en_ ec_; (first | subst ea_ | (injection ea_ with ea_; subst ea_)); subst ec_; clear en_))
     have GB8 := Aside0.mk gb8; have GG8 := Aside0.mk HG8; clear gb8 gl8 HG8; have HMgo8 := Aside0.mk (show ((P0_ go8 ∨ P1_ go8) ∨ w.heap.size ≤ go8) from (HO_1.out.1 _ rfl))
     (first | simp only [add_plain] at hx183_0 | skip)
     obtain ⟨hx8_0, hf8_0⟩ := Kd.R_celln 0 HO_1.out (x8_1 : Int) p8 q8
     replace p8 := eq_true p8; replace q8 := eq_true q8; have HP11 := Kd.R_putg HO_1.out (x8_1 : Int) (wrap64 ((rd x1_1 x8_1) + 1))
     go_wp2_with (first | ((with_reducible refine gate_store (t := 3) (p := 26) rfl ?_); refine store_event (t := 3) (p := 26) (v := ?vo_w12) (w1 := (wr.setCell ⟨go8, (x8_1 : Int).toNat, none⟩ (.int .i64 (wrap64 ((rd x1_1 x8_1) + 1))))) ?hg ?ho ?hn ?hr ?_; (case ho => rfl); (case hg => rfl); (case hn => rfl); (case hr => first | (go_simp; done) | (go_simp; rfl) | (go_simp; simp (disch := omega) only [Go.u8_and63, Go.u8_and31, Go.u8_and15, Go.u8_and7, Go.u8_or128, Go.u8_or192, Go.u8_or224, Go.u8_or240, m64]; done)); intro w12 hw; have hg : wr.grownBy w12 (some go8) := (by rw [hw]; exact HP11.2); have hp_ : Kd.R (Kd.int .i64) 3 w12 w0.heap.size (fun k_ => ((P0_ k_ ∨ P1_ k_) ∨ w.heap.size ≤ k_)) (.slice (some ⟨go8, 0, none⟩) x1_1.length co10) y184 := (by rw [hw, Ny184.out]; exact HP11.1); clear HP11; have n0_ := Aside0.mk (Kd.R_over' (v := (.slice (some ⟨go8, 0, none⟩) x1_1.length co10)) (mvR HO_0.out) (Kd.R_typed HO_1.out) (by decide) hg); have n1_ := Aside0.mk (hp_); have n2_ := Aside0.mk ((by rw [hw]; exact below_set (HB.out) GB8.out : Below w0.heap.size w0 w12)); have n3_ := Aside0.mk (Kept.of_grown (S := (fun k_ => P0_ k_ ∨ P1_ k_)) hg (by repeat (first | (with_reducible first | exact HK.out | apply Kept.alloc | apply Kept.drewN | apply Kept.drew) | exact HK.out)) (fun k_ e_ => (HO_1.out.1 k_ e_))); clear HO_0; clear HO_1; clear HB; clear HK; have HO_0 := n0_; have HO_1 := n1_; have HB := n2_; have HK := n3_; clear n0_ n1_ n2_ n3_; clear hg hw hp_))
     go_ret2
     exact ⟨_, _, by first | rfl | (simp [errW_none, errW_some] <;> rfl) | (simp [*, errW_none, errW_some] <;> rfl) | exact congrArg (fun b_ => Ending.returned (.bool b_)) (decide_eq_decide.2 (by unfold wrap64; omega)), by (with_reducible repeat (first | apply Kd.R_alloc | apply Kd.R_drewN | apply Kd.R_drew)); exact HO_0.out, by (with_reducible repeat (first | apply Kd.R_alloc | apply Kd.R_drewN | apply Kd.R_drew)); exact HO_1.out, by repeat (first | (with_reducible first | exact HB.out | apply below_alloc | apply pw_below_drewN | apply below_drew1) | exact HB.out), by repeat (first | (with_reducible first | exact HK.out | apply Kept.alloc | apply Kept.drewN | apply Kept.drew) | exact HK.out)⟩
    ·rw [if_neg c6] at H; have c6b0 : ((rdOf ByteArray.empty l0 x8_1).toList == a2.toList) = false := beq_eq_false_iff_ne.mpr c6; have c6b1 : ((rdOf ByteArray.empty l0 x8_1).toList != a2.toList) = true := bne_iff_ne.mpr c6; have H' := Aside0.mk H
     clear H; obtain ⟨Ao13, co13, eo13⟩ := Kd.R_slice HO_0.out
     subst eo13; have p182 : 0 ≤ (x8_1 : Int) := dtA; have q182 : x8_1 < (l0.length : Int) := dtA; obtain ⟨ad182, e182, hx182_0⟩ := Kd.at_string (Kd.R_reads' HO_0.out).2.2 x8_1 p182 q182
     cases e182
     replace p182 := eq_true p182; replace q182 := eq_true q182; go_wp2
     go_roundg k1
     case measure => have := HK1.out; omega
     case rel => exact ⟨(x1_1), (wrap64 (x8_1 + 1)), (by first | rfl | (simp; done) | (simp [*]; done)), H', ⟨by have := HK1.out; omega⟩, ⟨by (with_reducible repeat (first | apply Kd.R_alloc | apply Kd.R_drewN | apply Kd.R_drew)); exact HO_0.out⟩, ⟨by (with_reducible repeat (first | apply Kd.R_alloc | apply Kd.R_drewN | apply Kd.R_drew)); exact HO_1.out⟩, ⟨by repeat (first | (with_reducible first | exact HK.out | apply Kept.alloc | apply Kept.drewN | apply Kept.drew) | exact HK.out)⟩, ⟨mvB HB.out⟩⟩
   ·rw [if_neg c4] at H; have c4b0 : decide (x8_1 < (l0.length : Int)) = false := decide_eq_false c4; clear c4; by_cases c14 : l0.length < 8796093022208
    case neg => rw [if_neg c14] at H; exact absurd H (by simp)
    rw [if_pos c14] at H; have LMc14 := Aside0.mk c14; clear c14; obtain ⟨y185, hy185⟩ : ∃ y_ : List ByteArray, y_ = (l0 ++ [a2]) := ⟨_, rfl⟩
    replace H : (if x1_1.length < 17592186044416 then (some (y185, (x1_1 ++ [1]))) else (none)) = some (r1, r2) := by first | (rw [hy185]; with_reducible exact H) | (have H2_ := (Option.bind_some _ _).symm.trans H; rw [hy185]; with_reducible exact H2_) | (have H2_ := (Option.bind_some _ _).symm.trans H; with_reducible exact H2_) | with_reducible exact H | (rw [hy185]; exact H) | exact H
    have Ny185 := Aside0.mk hy185; clear hy185; by_cases c15 : x1_1.length < 17592186044416
    case neg => rw [if_neg c15] at H; exact absurd H (by simp)
    rw [if_pos c15] at H; have LMc15 := Aside0.mk c15; clear c15; obtain ⟨y188, hy188⟩ : ∃ y_ : List Int, y_ = (x1_1 ++ [1]) := ⟨_, rfl⟩
    replace H : (some (y185, y188)) = some (r1, r2) := by first | (rw [hy188]; with_reducible exact H) | (have H2_ := (Option.bind_some _ _).symm.trans H; rw [hy188]; with_reducible exact H2_) | (have H2_ := (Option.bind_some _ _).symm.trans H; with_reducible exact H2_) | with_reducible exact H | (rw [hy188]; exact H) | exact H
    have Ny188 := Aside0.mk hy188; clear hy188; simp only [Option.some.injEq, Prod.mk.injEq] at H
    obtain ⟨rfl, rfl⟩ := H; obtain ⟨Ao16, co16, eo16⟩ := Kd.R_slice HO_0.out
    subst eo16; go_wp2_with (first | ((with_reducible refine gate_builtin (b := .append) (xs := #[.tmp 29, .tmp 31]) rfl ?_); at_builtin; refine Kd.R_append Kd.string (w0 := w0) w0.heap.size rfl (.tmp 29) (.tmp 31) 22 9 (.string ⟨#[]⟩) 16 rfl Try.underlying22 info9 rfl (by decide) (by omega) (.slice Ao16 l0.length co16) l0 a2 [.string a2] (fun k_ => ((P0_ k_ ∨ P1_ k_) ∨ w.heap.size ≤ k_)) (fun _ => False) rfl rfl ?aP (fun _ hk => hk.elim) ?aF ?aO ?aB ?aS ?aL ?_; (case aP => exact rfl); (case aB => exact (mvB HB.out)); (case aF => exact (fun k_ hk => (.inr (Nat.le_trans (by first | exact HK.out.1 | exact (show Kept w _ (fun k_ => P0_ k_ ∨ P1_ k_) from by repeat (first | (with_reducible first | exact HK.out | apply Kept.alloc | apply Kept.drewN | apply Kept.drew) | exact HK.out)).1) hk)))); (case aO => exact (mvR HO_0.out)); (case aS => exact (below_size (mvB HB.out))); (case aL => have := LMc14.out; omega); intro v186 w17 ho hb hg hat; rw [← Ny185.out] at ho; have n0_ := Aside0.mk (Kd.R_over' (mvR HO_1.out) (Kd.R_typed (mvR HO_0.out)) (by decide) hg); have n1_ := Aside0.mk (hb); have n2_ := Aside0.mk (Kept.of_grown (S := (fun k_ => P0_ k_ ∨ P1_ k_)) hg (by repeat (first | (with_reducible first | exact HK.out | apply Kept.alloc | apply Kept.drewN | apply Kept.drew) | exact HK.out)) (fun k_ e_ => (HO_0.out.1 k_ e_))); have n3_ := Aside0.mk (ho); clear HO_1; clear HB; clear HK; clear HO_0; have HO_1 := n0_; have HB := n1_; have HK := n2_; have HO187 := n3_; clear n0_ n1_ n2_ n3_; clear ho hb hg hat) | ((with_reducible refine gate_builtin (b := .append) (xs := #[.tmp 33, .tmp 34]) rfl ?_); at_builtin; refine Kd.R_append (Kd.int .i64) (w0 := w0) w0.heap.size rfl (.tmp 33) (.tmp 34) 23 3 (.int .i64 0) 8 rfl Try.underlying23 info3 rfl (by decide) (by omega) u9001_ x1_1 1 [.int .i64 1] (fun k_ => ((P0_ k_ ∨ P1_ k_) ∨ w.heap.size ≤ k_)) (fun _ => False) rfl rfl ?aP (fun _ hk => hk.elim) ?aF ?aO ?aB ?aS ?aL ?_; (case aP => exact rfl); (case aB => exact (mvB HB.out)); (case aF => exact (fun k_ hk => (.inr (Nat.le_trans (by first | exact HK.out.1 | exact (show Kept w _ (fun k_ => P0_ k_ ∨ P1_ k_) from by repeat (first | (with_reducible first | exact HK.out | apply Kept.alloc | apply Kept.drewN | apply Kept.drew) | exact HK.out)).1) hk)))); (case aO => exact (mvR HO_1.out)); (case aS => exact (below_size (mvB HB.out))); (case aL => have := LMc15.out; omega); intro v189 w18 ho hb hg hat; rw [← Ny188.out] at ho; have n0_ := Aside0.mk (Kd.R_over' (mvR HO187.out) (Kd.R_typed (mvR HO_1.out)) (by decide) hg); have n1_ := Aside0.mk (hb); have n2_ := Aside0.mk (Kept.of_grown (S := (fun k_ => P0_ k_ ∨ P1_ k_)) hg (by repeat (first | (with_reducible first | exact HK.out | apply Kept.alloc | apply Kept.drewN | apply Kept.drew) | exact HK.out)) (fun k_ e_ => (HO_1.out.1 k_ e_))); have n3_ := Aside0.mk (ho); clear HO187; clear HB; clear HK; clear HO_1; have HO187 := n0_; have HB := n1_; have HK := n2_; have HO190 := n3_; clear n0_ n1_ n2_ n3_; clear ho hb hg hat))
    go_ret2
    exact ⟨_, _, by first | rfl | (simp [errW_none, errW_some] <;> rfl) | (simp [*, errW_none, errW_some] <;> rfl) | exact congrArg (fun b_ => Ending.returned (.bool b_)) (decide_eq_decide.2 (by unfold wrap64; omega)), by (with_reducible repeat (first | apply Kd.R_alloc | apply Kd.R_drewN | apply Kd.R_drew)); exact HO187.out, by (with_reducible repeat (first | apply Kd.R_alloc | apply Kd.R_drewN | apply Kd.R_drew)); exact HO190.out, by repeat (first | (with_reducible first | exact HB.out | apply below_alloc | apply pw_below_drewN | apply below_drew1) | exact HB.out), by repeat (first | (with_reducible first | exact HK.out | apply Kept.alloc | apply Kept.drewN | apply Kept.drew) | exact HK.out)⟩

end Go.Proofs.Ytjodnhlfodmpeaa.Q
