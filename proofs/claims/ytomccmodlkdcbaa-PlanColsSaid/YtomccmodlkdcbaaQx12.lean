-- PRINTED by print.py (a twelfth state) out of the translation. Not trusted: Lean checks it.
import Derived.Test.YtomccmodlkdcbaaQx0
import Derived.Test.YtomccmodlkdcbaaQx1
namespace Go.Proofs.Ytomccmodlkdcbaa.Q
open Go.RowKit Go.Proofs.YtomccmodlkdcbaaW.PrintWords Go.Proofs.YtomccmodlkdcbaaW.PrintLast Go.Proofs.YtomccmodlkdcbaaW.PrintMore
attribute [local go_sem] str_gtr str_geq str_leq max2_int min2_int max_two min_two max_three min_three max_four min_four   -- for this text's walks alone
set_option linter.unusedVariables false
set_option linter.unusedSimpArgs false

/-! ### hopperref25_Named: function 11 -/
set_option maxRecDepth 100000 in
def hopperref25_Named.l0 : Nat → List (S46) → Int → Option (Bool)
 | 0, _, _ => none
 | k + 1, x0, x3 => if x3 < (x0.length : Int) then (if 0 ≤ x3 then (if (((rd_T46 x0 x3).f0).size : Int) > 100 then (some false) else (if ((rd_T46 x0 x3).f1) < 1 then (some false) else (if ((rd_T46 x0 x3).f1) > 8 then (some false) else (hopperref25_Named.l0 k x0 (wrap64 (x3 + 1)))))) else (none)) else (some (decide ((x0.length : Int) ≤ 20)))
def hopperref25_Named.f (k : Nat) (l0 : List (S46)) : Option (Bool) := hopperref25_Named.l0 k l0 0
set_option maxHeartbeats 8000000 in
set_option maxRecDepth 100000 in
theorem hopperref25_Named.calls (k : Nat) (A0 : Option Addr) (c0 : Nat) (l0 : List (S46)) (r : Bool) (w : World) (hr0 : Kd.C k46 w A0 l0.length l0) (hc0 : l0.length ≤ c0) (h : hopperref25_Named.f k l0 = some r) :
  Calls Try.prog 11 #[.slice A0 l0.length c0] w fun e w' => e = .returned (.bool r) ∧ Drawn0 w w' := by
 have HR0 := Aside0.mk hr0
 have HC0 := Aside0.mk hc0
 clear hr0 hc0
 have H : (hopperref25_Named.l0 k l0 0) = some r := h
 clear h
 have H' := Aside0.mk H
 clear H
 go_enter Try.func11, Try.ntmps11
 go_wp2
 go_loopg [3] k (fun kq v3 w' => ∃ (x3_1 : Int), v3 = .int .i64 x3_1 ∧ Aside0 (hopperref25_Named.l0 kq l0 x3_1 = some r) ∧ Aside0 (kq ≤ k) ∧ Drawn0 w w')
 case atStart => exact ⟨(0), (by first | rfl | (simp; done) | (simp [*]; done)), H', ⟨Nat.le_refl _⟩, by repeat (first | exact Drawn0.refl _ | apply Drawn0.step)⟩
 case round =>
  clear H'
  try clear c1
  obtain ⟨x3_1, rfl, HA, HK1, ⟨m1, rfl⟩⟩ := hrel
  cases gk with
  | zero => exact absurd HA.out (by simp [hopperref25_Named.l0])
  | succ k1 =>
   have H := HA.out
   clear HA
   simp only [hopperref25_Named.l0] at H
   by_cases c2 : x3_1 < (l0.length : Int)
   ·rw [if_pos c2] at H
    have c2b0 : decide (x3_1 < (l0.length : Int)) = true := decide_eq_true c2
    clear c2
    by_cases c3 : 0 ≤ x3_1
    ·rw [if_pos c3] at H
     have c3b0 : decide (0 ≤ x3_1) = true := decide_eq_true c3
     clear c3
     by_cases c4 : (((rd_T46 l0 x3_1).f0).size : Int) > 100
     ·rw [if_pos c4] at H
      have c4b0 : decide (100 < (((rd_T46 l0 x3_1).f0).size : Int)) = true := decide_eq_true c4
      have c4b1 : decide (100 < ((rd_T46 l0 x3_1).f0).size) = true := decide_eq_true (by omega)
      clear c4
      obtain rfl := Option.some.inj H
      have p264 : 0 ≤ (x3_1 : Int) := of_decide_eq_true (by first | (with_reducible assumption) | assumption)
      have q264 : x3_1 < (l0.length : Int) := of_decide_eq_true (by first | (with_reducible assumption) | assumption)
      obtain ⟨ad264, e264, hx264_0, hx264_1⟩ := at_T46 HR0.out x3_1 p264 q264
      cases e264
      replace p264 := eq_true p264
      replace q264 := eq_true q264
      go_wp2
      go_ret
      exact ⟨by first | rfl | (simp; done) | (simp [*]; done), by repeat (first | exact Drawn0.refl _ | apply Drawn0.step)⟩
     ·rw [if_neg c4] at H
      have c4b0 : decide (100 < (((rd_T46 l0 x3_1).f0).size : Int)) = false := decide_eq_false c4
      have c4b1 : decide (100 < ((rd_T46 l0 x3_1).f0).size) = false := decide_eq_false (by omega)
      clear c4
      by_cases c5 : ((rd_T46 l0 x3_1).f1) < 1
      ·rw [if_pos c5] at H
       have c5b0 : decide (((rd_T46 l0 x3_1).f1) < 1) = true := decide_eq_true c5
       clear c5
       obtain rfl := Option.some.inj H
       have p264 : 0 ≤ (x3_1 : Int) := of_decide_eq_true (by first | (with_reducible assumption) | assumption)
       have q264 : x3_1 < (l0.length : Int) := of_decide_eq_true (by first | (with_reducible assumption) | assumption)
       obtain ⟨ad264, e264, hx264_0, hx264_1⟩ := at_T46 HR0.out x3_1 p264 q264
       cases e264
       replace p264 := eq_true p264
       replace q264 := eq_true q264
       have p265 : 0 ≤ (x3_1 : Int) := of_decide_eq_true (by first | (with_reducible assumption) | assumption)
       have q265 : x3_1 < (l0.length : Int) := of_decide_eq_true (by first | (with_reducible assumption) | assumption)
       obtain ⟨ad265, e265, hx265_0, hx265_1⟩ := at_T46 HR0.out x3_1 p265 q265
       obtain rfl : ad264 = ad265 := (by injection e265)
       replace p265 := eq_true p265
       replace q265 := eq_true q265
       go_wp2
       go_ret
       exact ⟨by first | rfl | (simp; done) | (simp [*]; done), by repeat (first | exact Drawn0.refl _ | apply Drawn0.step)⟩
      ·rw [if_neg c5] at H
       have c5b0 : decide (((rd_T46 l0 x3_1).f1) < 1) = false := decide_eq_false c5
       clear c5
       by_cases c6 : ((rd_T46 l0 x3_1).f1) > 8
       ·rw [if_pos c6] at H
        have c6b0 : decide (8 < ((rd_T46 l0 x3_1).f1)) = true := decide_eq_true c6
        clear c6
        obtain rfl := Option.some.inj H
        have p264 : 0 ≤ (x3_1 : Int) := of_decide_eq_true (by first | (with_reducible assumption) | assumption)
        have q264 : x3_1 < (l0.length : Int) := of_decide_eq_true (by first | (with_reducible assumption) | assumption)
        obtain ⟨ad264, e264, hx264_0, hx264_1⟩ := at_T46 HR0.out x3_1 p264 q264
        cases e264
        replace p264 := eq_true p264
        replace q264 := eq_true q264
        have p265 : 0 ≤ (x3_1 : Int) := of_decide_eq_true (by first | (with_reducible assumption) | assumption)
        have q265 : x3_1 < (l0.length : Int) := of_decide_eq_true (by first | (with_reducible assumption) | assumption)
        obtain ⟨ad265, e265, hx265_0, hx265_1⟩ := at_T46 HR0.out x3_1 p265 q265
        obtain rfl : ad264 = ad265 := (by injection e265)
        replace p265 := eq_true p265
        replace q265 := eq_true q265
        have p266 : 0 ≤ (x3_1 : Int) := of_decide_eq_true (by first | (with_reducible assumption) | assumption)
        have q266 : x3_1 < (l0.length : Int) := of_decide_eq_true (by first | (with_reducible assumption) | assumption)
        obtain ⟨ad266, e266, hx266_0, hx266_1⟩ := at_T46 HR0.out x3_1 p266 q266
        obtain rfl : ad264 = ad266 := (by injection e266)
        replace p266 := eq_true p266
        replace q266 := eq_true q266
        go_wp2
        go_ret
        exact ⟨by first | rfl | (simp; done) | (simp [*]; done), by repeat (first | exact Drawn0.refl _ | apply Drawn0.step)⟩
       ·rw [if_neg c6] at H
        have c6b0 : decide (8 < ((rd_T46 l0 x3_1).f1)) = false := decide_eq_false c6
        clear c6
        have H' := Aside0.mk H
        clear H
        have p264 : 0 ≤ (x3_1 : Int) := of_decide_eq_true (by first | (with_reducible assumption) | assumption)
        have q264 : x3_1 < (l0.length : Int) := of_decide_eq_true (by first | (with_reducible assumption) | assumption)
        obtain ⟨ad264, e264, hx264_0, hx264_1⟩ := at_T46 HR0.out x3_1 p264 q264
        cases e264
        replace p264 := eq_true p264
        replace q264 := eq_true q264
        have p265 : 0 ≤ (x3_1 : Int) := of_decide_eq_true (by first | (with_reducible assumption) | assumption)
        have q265 : x3_1 < (l0.length : Int) := of_decide_eq_true (by first | (with_reducible assumption) | assumption)
        obtain ⟨ad265, e265, hx265_0, hx265_1⟩ := at_T46 HR0.out x3_1 p265 q265
        obtain rfl : ad264 = ad265 := (by injection e265)
        replace p265 := eq_true p265
        replace q265 := eq_true q265
        have p266 : 0 ≤ (x3_1 : Int) := of_decide_eq_true (by first | (with_reducible assumption) | assumption)
        have q266 : x3_1 < (l0.length : Int) := of_decide_eq_true (by first | (with_reducible assumption) | assumption)
        obtain ⟨ad266, e266, hx266_0, hx266_1⟩ := at_T46 HR0.out x3_1 p266 q266
        obtain rfl : ad264 = ad266 := (by injection e266)
        replace p266 := eq_true p266
        replace q266 := eq_true q266
        go_wp2
        go_roundg k1
        case measure => have := HK1.out; omega
        case rel => exact ⟨(wrap64 (x3_1 + 1)), (by first | rfl | (simp; done) | (simp [*]; done)), H', ⟨by have := HK1.out; omega⟩, by repeat (first | exact Drawn0.refl _ | apply Drawn0.step)⟩
    ·rw [if_neg c3] at H
     exact absurd H (by simp)
   ·rw [if_neg c2] at H
    have c2b0 : decide (x3_1 < (l0.length : Int)) = false := decide_eq_false c2
    clear c2
    obtain rfl := Option.some.inj H
    go_wp2
    go_ret
    exact ⟨by first | rfl | (simp; done) | (simp [*]; done), by repeat (first | exact Drawn0.refl _ | apply Drawn0.step)⟩

/-! ### hopperref25_bare: function 23 -/
-- told by hand
def badA (p : S31) : Bool := (p.f0 != 1 && !p.f1.toList.isEmpty) || ((p.f0 != 3 && decide (0 < p.f3.length)) || ((p.f0 != 4 && decide (0 < wrap64 ((p.f4.length : Int) + (p.f5.length : Int)))) || ((p.f0 != 6 && decide (0 < p.f9.length)) || (p.f0 != 7 && (p.f10 != 0 || p.f11 != 0)))))
def badJ (p : S31) : Bool := p.f0 != 5 && joinNZ p
/-- Has a plan no more than its kind has. -/
def bareB (p : S31) : Bool := if badA p = true then false else if badJ p = true then false else p.f0 == 2 || !predNZ p.f2
def hopperref25_bare.f (a0_0 : Int) (a0_1 : ByteArray) (a0_2 : Int) (a0_3 : Int) (a0_4 : ByteArray) (a0_5 : Int) (a0_6 : Int) (l0_7 : List S24) (l0_8 : List S50) (l0_9 : List Int) (l0_10 : List S72) (a0_11 : Int) (l0_12 : List Int) (l0_13 : List Int) (l0_14 : List S52) (a0_15 : Int) (a0_16 : Int) (l0_17 : List S31) : Option Bool := some (bareB ⟨a0_0, a0_1, ⟨a0_2, a0_3, a0_4, a0_5, a0_6, l0_7⟩, l0_8, l0_9, l0_10, a0_11, l0_12, l0_13, l0_14, a0_15, a0_16, l0_17⟩)
set_option maxHeartbeats 16000000 in
set_option maxRecDepth 1000000 in
theorem hopperref25_bare.core (p : S31) (cs : List Value) (w : World) (hK : k31.K w p cs) :
  Calls Try.prog 23 #[.agg cs.toArray] w fun e w' => e = .returned (.bool (bareB p)) ∧ Below w.heap.size w w' := by
 have hagg : ∀ W, (isAgg 31).run Try.prog W = .ok true W := fun W => by first | exact Try.isAgg31 | exact Try.isAgg31 W | go_simp
 have hsz18 : ∀ W, (sizeOf 31).run Try.prog W = .ok 18 W := fun W => by first | exact Try.sizeOf31 | exact Try.sizeOf31 W | go_simp
 have HAGG := Aside0.mk hagg
 have HSZ := Aside0.mk hsz18
 clear hagg hsz18
 have HAGG24 := Aside0.mk (show ∀ W, (isAgg 24).run Try.prog W = .ok true W from fun W => by first | exact Try.isAgg24 | exact Try.isAgg24 W | go_simp)
 have HSZ24 := Aside0.mk (show ∀ W, (sizeOf 24).run Try.prog W = .ok 6 W from fun W => by first | exact Try.sizeOf24 | exact Try.sizeOf24 W | go_simp)
 have hu31 := Try.underlying31
 have hu24 := Try.underlying24
 have HL18 := Aside0.mk (show cs.length = 18 from k31.K_len hK)
 obtain ⟨A7, c7, A8, c8, A9, c9, A10, c10, A12, c12, A13, c13, A14, c14, A17, c17, e_, l7, g7, l8, g8, l9, g9, l10, g10, l12, g12, l13, g13, l14, g14, l17, g17⟩ := k31_open hK
 have H0 := Aside0.mk (show cs[0]? = some (.int .i64 p.f0) from by rw [e_]; rfl)
 have H1 := Aside0.mk (show cs[1]? = some (.string p.f1) from by rw [e_]; rfl)
 have H2 := Aside0.mk (show cs[2]? = some (.int .i64 p.f2.f0) from by rw [e_]; rfl)
 have H3 := Aside0.mk (show cs[3]? = some (.int .i64 p.f2.f1) from by rw [e_]; rfl)
 have H4 := Aside0.mk (show cs[4]? = some (.string p.f2.f2) from by rw [e_]; rfl)
 have H5 := Aside0.mk (show cs[5]? = some (.int .i64 p.f2.f3) from by rw [e_]; rfl)
 have H6 := Aside0.mk (show cs[6]? = some (.int .i64 p.f2.f4) from by rw [e_]; rfl)
 have H7 := Aside0.mk (show cs[7]? = some (.slice A7 p.f2.f5.length c7) from by rw [e_]; rfl)
 have H8 := Aside0.mk (show cs[8]? = some (.slice A8 p.f3.length c8) from by rw [e_]; rfl)
 have H9 := Aside0.mk (show cs[9]? = some (.slice A9 p.f4.length c9) from by rw [e_]; rfl)
 have H10 := Aside0.mk (show cs[10]? = some (.slice A10 p.f5.length c10) from by rw [e_]; rfl)
 have H11 := Aside0.mk (show cs[11]? = some (.int .i64 p.f6) from by rw [e_]; rfl)
 have H12 := Aside0.mk (show cs[12]? = some (.slice A12 p.f7.length c12) from by rw [e_]; rfl)
 have H13 := Aside0.mk (show cs[13]? = some (.slice A13 p.f8.length c13) from by rw [e_]; rfl)
 have H14 := Aside0.mk (show cs[14]? = some (.slice A14 p.f9.length c14) from by rw [e_]; rfl)
 have H15 := Aside0.mk (show cs[15]? = some (.int .i64 p.f10) from by rw [e_]; rfl)
 have H16 := Aside0.mk (show cs[16]? = some (.int .i64 p.f11) from by rw [e_]; rfl)
 obtain ⟨cp, hcp⟩ : ∃ cp : List Value, cp = [.int .i64 p.f2.f0, .int .i64 p.f2.f1, .string p.f2.f2, .int .i64 p.f2.f3, .int .i64 p.f2.f4, .slice A7 p.f2.f5.length c7] := ⟨_, rfl⟩
 have HLP := Aside0.mk (show cp.length = 6 from by rw [hcp]; rfl)
 have HCPE := Aside0.mk hcp
 have HCP := Aside0.mk (show ∀ j v, cp[j]? = some v → cs[2 + j]? = some v from fun j v hj => by
  rw [e_]
  rw [hcp] at hj
  match j, hj with
  | 0, hj => exact hj
  | 1, hj => exact hj
  | 2, hj => exact hj
  | 3, hj => exact hj
  | 4, hj => exact hj
  | 5, hj => exact hj
  | j + 6, hj => simp at hj)
 clear hK e_ l7 g7 l8 g8 l9 g9 l10 g10 l12 g12 l13 g13 l14 g14 l17 g17 hcp
 obtain ⟨r, hr⟩ : ∃ r, r = bareB p := ⟨_, rfl⟩
 rw [← hr]
 have HR := Aside0.mk hr
 clear hr
 go_enter Try.func23, Try.ntmps23
 go_upto_region 2 with (first
  | ((with_reducible refine gate_dst (N := 1) rfl ?_); refine box_all rfl rfl (cs := cs.toArray) rfl (fun W => by rw [List.size_toArray, HL18.out]; exact HSZ.out W) ?_; intro w1 hbx hbw; have BW1 := Aside0.mk hbw; have BX1 := Aside0.mk hbx; have hcv0 : w1.cell? ⟨w.heap.size, 0, none⟩ = some (.int .i64 p.f0) := blk_cells hbx 0 _ H0.out; clear hbx hbw))
 go_cut [61] (fun s61 wc => s61 = .bool (badA p) ∧ Aside0 (Below w.heap.size w wc) ∧ Aside0 (wc.heap[w.heap.size]? = some (.cells cs.toArray 31 (0, 0))))
 case first =>
  have hcv1 : w1.cell? ⟨w.heap.size, 1, none⟩ = some (.string p.f1) := blk_cells BX1.out 1 _ H1.out; have hcv8 : w1.cell? ⟨w.heap.size, 8, none⟩ = some (.slice A8 p.f3.length c8) := blk_cells BX1.out 8 _ H8.out; have hcv9 : w1.cell? ⟨w.heap.size, 9, none⟩ = some (.slice A9 p.f4.length c9) := blk_cells BX1.out 9 _ H9.out; have hcv10 : w1.cell? ⟨w.heap.size, 10, none⟩ = some (.slice A10 p.f5.length c10) := blk_cells BX1.out 10 _ H10.out; have hcv14 : w1.cell? ⟨w.heap.size, 14, none⟩ = some (.slice A14 p.f9.length c14) := blk_cells BX1.out 14 _ H14.out; have hcv15 : w1.cell? ⟨w.heap.size, 15, none⟩ = some (.int .i64 p.f10) := blk_cells BX1.out 15 _ H15.out; have hcv16 : w1.cell? ⟨w.heap.size, 16, none⟩ = some (.int .i64 p.f11) := blk_cells BX1.out 16 _ H16.out
  clear hcv0
  by_cases e0 : p.f0 = 1
  ·have n1 : (p.f0 != 1) = false := by rw [e0]; rfl
   have n3 : (p.f0 != 3) = true := by rw [e0]; rfl
   have n4 : (p.f0 != 4) = true := by rw [e0]; rfl
   have n6 : (p.f0 != 6) = true := by rw [e0]; rfl
   have n7 : (p.f0 != 7) = true := by rw [e0]; rfl
   clear e0
   cases q3 : decide (0 < p.f3.length) with
   | true =>
    go_wp2
    go_meet
    case rel => exact ⟨by simp [badA, n1, n3, n4, n6, n7, q3], BW1, BX1⟩
   | false =>
   cases q4 : decide (0 < wrap64 ((p.f4.length : Int) + (p.f5.length : Int))) with
   | true =>
    go_wp2
    go_meet
    case rel => exact ⟨by simp [badA, n1, n3, n4, n6, n7, q3, q4], BW1, BX1⟩
   | false =>
   cases q6 : decide (0 < p.f9.length) with
   | true =>
    go_wp2
    go_meet
    case rel => exact ⟨by simp [badA, n1, n3, n4, n6, n7, q3, q4, q6], BW1, BX1⟩
   | false =>
   cases qf : (p.f10 != 0) with
   | true =>
    go_wp2
    go_meet
    case rel => exact ⟨by simp [badA, n1, n3, n4, n6, n7, q3, q4, q6, qf], BW1, BX1⟩
   | false =>
   go_wp2
   go_meet
   case rel => exact ⟨by simp [badA, n1, n3, n4, n6, n7, q3, q4, q6, qf], BW1, BX1⟩
  have e0_1 := e0
  clear e0
  by_cases e0 : p.f0 = 3
  ·have n1 : (p.f0 != 1) = true := by rw [e0]; rfl
   have n3 : (p.f0 != 3) = false := by rw [e0]; rfl
   have n4 : (p.f0 != 4) = true := by rw [e0]; rfl
   have n6 : (p.f0 != 6) = true := by rw [e0]; rfl
   have n7 : (p.f0 != 7) = true := by rw [e0]; rfl
   clear e0
   cases q1 : (!p.f1.toList.isEmpty) with
   | true =>
    go_wp2
    go_meet
    case rel => exact ⟨by simp [badA, n1, n3, n4, n6, n7, q1], BW1, BX1⟩
   | false =>
   cases q4 : decide (0 < wrap64 ((p.f4.length : Int) + (p.f5.length : Int))) with
   | true =>
    go_wp2
    go_meet
    case rel => exact ⟨by simp [badA, n1, n3, n4, n6, n7, q1, q4], BW1, BX1⟩
   | false =>
   cases q6 : decide (0 < p.f9.length) with
   | true =>
    go_wp2
    go_meet
    case rel => exact ⟨by simp [badA, n1, n3, n4, n6, n7, q1, q4, q6], BW1, BX1⟩
   | false =>
   cases qf : (p.f10 != 0) with
   | true =>
    go_wp2
    go_meet
    case rel => exact ⟨by simp [badA, n1, n3, n4, n6, n7, q1, q4, q6, qf], BW1, BX1⟩
   | false =>
   go_wp2
   go_meet
   case rel => exact ⟨by simp [badA, n1, n3, n4, n6, n7, q1, q4, q6, qf], BW1, BX1⟩
  have e0_3 := e0
  clear e0
  by_cases e0 : p.f0 = 4
  ·have n1 : (p.f0 != 1) = true := by rw [e0]; rfl
   have n3 : (p.f0 != 3) = true := by rw [e0]; rfl
   have n4 : (p.f0 != 4) = false := by rw [e0]; rfl
   have n6 : (p.f0 != 6) = true := by rw [e0]; rfl
   have n7 : (p.f0 != 7) = true := by rw [e0]; rfl
   clear e0
   cases q1 : (!p.f1.toList.isEmpty) with
   | true =>
    go_wp2
    go_meet
    case rel => exact ⟨by simp [badA, n1, n3, n4, n6, n7, q1], BW1, BX1⟩
   | false =>
   cases q3 : decide (0 < p.f3.length) with
   | true =>
    go_wp2
    go_meet
    case rel => exact ⟨by simp [badA, n1, n3, n4, n6, n7, q1, q3], BW1, BX1⟩
   | false =>
   cases q6 : decide (0 < p.f9.length) with
   | true =>
    go_wp2
    go_meet
    case rel => exact ⟨by simp [badA, n1, n3, n4, n6, n7, q1, q3, q6], BW1, BX1⟩
   | false =>
   cases qf : (p.f10 != 0) with
   | true =>
    go_wp2
    go_meet
    case rel => exact ⟨by simp [badA, n1, n3, n4, n6, n7, q1, q3, q6, qf], BW1, BX1⟩
   | false =>
   go_wp2
   go_meet
   case rel => exact ⟨by simp [badA, n1, n3, n4, n6, n7, q1, q3, q6, qf], BW1, BX1⟩
  have e0_4 := e0
  clear e0
  by_cases e0 : p.f0 = 6
  ·have n1 : (p.f0 != 1) = true := by rw [e0]; rfl
   have n3 : (p.f0 != 3) = true := by rw [e0]; rfl
   have n4 : (p.f0 != 4) = true := by rw [e0]; rfl
   have n6 : (p.f0 != 6) = false := by rw [e0]; rfl
   have n7 : (p.f0 != 7) = true := by rw [e0]; rfl
   clear e0
   cases q1 : (!p.f1.toList.isEmpty) with
   | true =>
    go_wp2
    go_meet
    case rel => exact ⟨by simp [badA, n1, n3, n4, n6, n7, q1], BW1, BX1⟩
   | false =>
   cases q3 : decide (0 < p.f3.length) with
   | true =>
    go_wp2
    go_meet
    case rel => exact ⟨by simp [badA, n1, n3, n4, n6, n7, q1, q3], BW1, BX1⟩
   | false =>
   cases q4 : decide (0 < wrap64 ((p.f4.length : Int) + (p.f5.length : Int))) with
   | true =>
    go_wp2
    go_meet
    case rel => exact ⟨by simp [badA, n1, n3, n4, n6, n7, q1, q3, q4], BW1, BX1⟩
   | false =>
   cases qf : (p.f10 != 0) with
   | true =>
    go_wp2
    go_meet
    case rel => exact ⟨by simp [badA, n1, n3, n4, n6, n7, q1, q3, q4, qf], BW1, BX1⟩
   | false =>
   go_wp2
   go_meet
   case rel => exact ⟨by simp [badA, n1, n3, n4, n6, n7, q1, q3, q4, qf], BW1, BX1⟩
  have e0_6 := e0
  clear e0
  by_cases e0 : p.f0 = 7
  ·have n1 : (p.f0 != 1) = true := by rw [e0]; rfl
   have n3 : (p.f0 != 3) = true := by rw [e0]; rfl
   have n4 : (p.f0 != 4) = true := by rw [e0]; rfl
   have n6 : (p.f0 != 6) = true := by rw [e0]; rfl
   have n7 : (p.f0 != 7) = false := by rw [e0]; rfl
   clear e0
   cases q1 : (!p.f1.toList.isEmpty) with
   | true =>
    go_wp2
    go_meet
    case rel => exact ⟨by simp [badA, n1, n3, n4, n6, n7, q1], BW1, BX1⟩
   | false =>
   cases q3 : decide (0 < p.f3.length) with
   | true =>
    go_wp2
    go_meet
    case rel => exact ⟨by simp [badA, n1, n3, n4, n6, n7, q1, q3], BW1, BX1⟩
   | false =>
   cases q4 : decide (0 < wrap64 ((p.f4.length : Int) + (p.f5.length : Int))) with
   | true =>
    go_wp2
    go_meet
    case rel => exact ⟨by simp [badA, n1, n3, n4, n6, n7, q1, q3, q4], BW1, BX1⟩
   | false =>
   cases q6 : decide (0 < p.f9.length) with
   | true =>
    go_wp2
    go_meet
    case rel => exact ⟨by simp [badA, n1, n3, n4, n6, n7, q1, q3, q4, q6], BW1, BX1⟩
   | false =>
   go_wp2
   go_meet
   case rel => exact ⟨by simp [badA, n1, n3, n4, n6, n7, q1, q3, q4, q6], BW1, BX1⟩
  have e0_7 := e0
  clear e0
  have n1 : (p.f0 != 1) = true := bne_iff_ne.mpr e0_1
  have n3 : (p.f0 != 3) = true := bne_iff_ne.mpr e0_3
  have n4 : (p.f0 != 4) = true := bne_iff_ne.mpr e0_4
  have n6 : (p.f0 != 6) = true := bne_iff_ne.mpr e0_6
  have n7 : (p.f0 != 7) = true := bne_iff_ne.mpr e0_7
  clear e0_1 e0_3 e0_4 e0_6 e0_7
  cases q1 : (!p.f1.toList.isEmpty) with
  | true =>
   go_wp2
   go_meet
   case rel => exact ⟨by simp [badA, n1, n3, n4, n6, n7, q1], BW1, BX1⟩
  | false =>
  cases q3 : decide (0 < p.f3.length) with
  | true =>
   go_wp2
   go_meet
   case rel => exact ⟨by simp [badA, n1, n3, n4, n6, n7, q1, q3], BW1, BX1⟩
  | false =>
  cases q4 : decide (0 < wrap64 ((p.f4.length : Int) + (p.f5.length : Int))) with
  | true =>
   go_wp2
   go_meet
   case rel => exact ⟨by simp [badA, n1, n3, n4, n6, n7, q1, q3, q4], BW1, BX1⟩
  | false =>
  cases q6 : decide (0 < p.f9.length) with
  | true =>
   go_wp2
   go_meet
   case rel => exact ⟨by simp [badA, n1, n3, n4, n6, n7, q1, q3, q4, q6], BW1, BX1⟩
  | false =>
  cases qf : (p.f10 != 0) with
  | true =>
   go_wp2
   go_meet
   case rel => exact ⟨by simp [badA, n1, n3, n4, n6, n7, q1, q3, q4, q6, qf], BW1, BX1⟩
  | false =>
  go_wp2
  go_meet
  case rel => exact ⟨by simp [badA, n1, n3, n4, n6, n7, q1, q3, q4, q6, qf], BW1, BX1⟩
 case rest =>
  (try clear hcv0)
  clear BW1 BX1
  obtain ⟨rfl, BW, BX⟩ := hcut
  have e := HR.out
  unfold bareB at e
  clear HR
  cases ha : badA p with
  | true =>
   rw [ha, if_pos rfl] at e
   subst e
   go_wp2
   go_ret
   exact ⟨rfl, BW.out⟩
  | false =>
  rw [ha, if_neg Bool.false_ne_true] at e
  have HR := Aside0.mk e
  clear e ha
  go_upto_region 4 with (fail)
  go_cut [78] (fun s78 wc => s78 = .bool (badJ p) ∧ Aside0 (Below w.heap.size w wc) ∧ Aside0 (wc.heap[w.heap.size]? = some (.cells cs.toArray 31 (0, 0))))
  case first =>
   have hcv11 : wc.cell? ⟨w.heap.size, 11, none⟩ = some (.int .i64 p.f6) := blk_cells BX.out 11 _ H11.out; have hcv12 : wc.cell? ⟨w.heap.size, 12, none⟩ = some (.slice A12 p.f7.length c12) := blk_cells BX.out 12 _ H12.out; have hcv13 : wc.cell? ⟨w.heap.size, 13, none⟩ = some (.slice A13 p.f8.length c13) := blk_cells BX.out 13 _ H13.out
   cases n5 : (p.f0 != 5) with
   | false =>
    go_wp2
    go_meet
    case rel => exact ⟨by simp [badJ, n5], BW, BX⟩
   | true =>
    cases qj : (p.f6 != 0) <;>
    ·go_wp2
     go_meet
     case rel => exact ⟨by simp [badJ, joinNZ, n5, qj], BW, BX⟩
  case rest =>
   clear BW BX
   obtain ⟨rfl, BW, BX⟩ := hcut
   have e := HR.out
   clear HR
   cases hb : badJ p with
   | true =>
    rw [hb, if_pos rfl] at e
    subst e
    go_wp2
    go_ret
    exact ⟨rfl, BW.out⟩
   | false =>
   rw [hb, if_neg Bool.false_ne_true] at e
   have HR := Aside0.mk e
   clear e hb
   go_upto_region 7 with (first
    | ((with_reducible refine gate_dst (N := 80) rfl ?_); refine load_all rfl rfl (cs := cp) rfl HAGG24.out (fun W => by rw [HLP.out]; exact HSZ24.out W) (blk_cells_off BX.out HCP.out) ?_)
    | ((with_reducible refine gate_store (t := 24) (p := 4) rfl ?_); refine store_all (g := wc.heap.size) (cs := cp.toArray) (t' := 24) rfl rfl rfl rfl rfl (fun W => by rw [List.size_toArray, HLP.out]; exact HSZ24.out W) (heap_alloc_new wc _) (by rw [List.size_toArray, HLP.out]; rfl) (fun u hu => by rw [HCPE.out] at hu; simp only [List.mem_cons, List.not_mem_nil, or_false] at hu; rcases hu with rfl | rfl | rfl | rfl | rfl | rfl <;> rfl) ?_; intro w3 hbx hoth hs3 hos htp hou; have hb3 : Below wc.heap.size wc w3 := ⟨hos, htp, hou, by rw [hs3]; simp, fun k_ hk_ => (hoth k_ (by omega)).trans (((Below.refl _ wc).alloc (Nat.le_refl _) _).block k_ hk_)⟩; have BW3 := Aside0.mk (below_step BW.out hb3); have BX3 := Aside0.mk (blk_keep hb3 BX.out); have BQ3 := Aside0.mk hbx; have hcq0 : w3.cell? ⟨wc.heap.size, 0, none⟩ = some (.int .i64 p.f2.f0) := blk_cells BQ3.out 0 _ (by rw [HCPE.out]; rfl); have hcq1 : w3.cell? ⟨wc.heap.size, 1, none⟩ = some (.int .i64 p.f2.f1) := blk_cells BQ3.out 1 _ (by rw [HCPE.out]; rfl); have hcq2 : w3.cell? ⟨wc.heap.size, 2, none⟩ = some (.string p.f2.f2) := blk_cells BQ3.out 2 _ (by rw [HCPE.out]; rfl); have hcq3 : w3.cell? ⟨wc.heap.size, 3, none⟩ = some (.int .i64 p.f2.f3) := blk_cells BQ3.out 3 _ (by rw [HCPE.out]; rfl); have hcq4 : w3.cell? ⟨wc.heap.size, 4, none⟩ = some (.int .i64 p.f2.f4) := blk_cells BQ3.out 4 _ (by rw [HCPE.out]; rfl); have hcq5 : w3.cell? ⟨wc.heap.size, 5, none⟩ = some (.slice A7 p.f2.f5.length c7) := blk_cells BQ3.out 5 _ (by rw [HCPE.out]; rfl); clear hbx hoth hs3 hos htp hou hb3))
   cases k2 : (p.f0 == 2) with
   | true =>
    have e := HR.out
    rw [k2] at e
    replace e : r = true := by rw [e]; rfl
    subst e
    clear HR
    go_wp2
    go_ret
    exact ⟨rfl, BW3.out⟩
   | false =>
    have e := HR.out
    rw [k2] at e
    replace e : r = !predNZ p.f2 := by rw [e]; rfl
    have HR2 := Aside0.mk e
    clear HR e
    cases z0 : (p.f2.f0 == 0) with
    | false =>
     go_wp2
     go_ret
     exact ⟨by rw [HR2.out]; first | (simp_all [predNZ, bne]; done) | (simp_all [predNZ, bne]; rw [Bool.eq_iff_iff]; simp), BW3.out⟩
    | true =>
    cases z1 : (p.f2.f1 == 0) with
    | false =>
     go_wp2
     go_ret
     exact ⟨by rw [HR2.out]; first | (simp_all [predNZ, bne]; done) | (simp_all [predNZ, bne]; rw [Bool.eq_iff_iff]; simp), BW3.out⟩
    | true =>
    cases z2 : p.f2.f2.toList.isEmpty with
    | false =>
     go_wp2
     go_ret
     exact ⟨by rw [HR2.out]; first | (simp_all [predNZ, bne]; done) | (simp_all [predNZ, bne]; rw [Bool.eq_iff_iff]; simp), BW3.out⟩
    | true =>
    have z2l : p.f2.f2.toList = [] := List.isEmpty_iff.1 z2
    cases z3 : (p.f2.f3 == 0) with
    | false =>
     go_wp2
     go_ret
     exact ⟨by rw [HR2.out]; first | (simp_all [predNZ, bne]; done) | (simp_all [predNZ, bne]; rw [Bool.eq_iff_iff]; simp), BW3.out⟩
    | true =>
    cases z4 : (p.f2.f4 == 0) with
    | false =>
     go_wp2
     go_ret
     exact ⟨by rw [HR2.out]; first | (simp_all [predNZ, bne]; done) | (simp_all [predNZ, bne]; rw [Bool.eq_iff_iff]; simp), BW3.out⟩
    | true =>
    go_wp2
    go_ret
    exact ⟨by rw [HR2.out]; first | (simp_all [predNZ, bne]; done) | (simp_all [predNZ, bne]; rw [Bool.eq_iff_iff]; simp), BW3.out⟩

/-! ### hopperref09_Parse: function 36 -/
set_option maxRecDepth 100000 in
mutual
def hopperref09_Parse.j0 : Nat → ByteArray → Int → Bool → Option (List Int × Int)
 | 0, _, _, _ => none
 | k + 1, x0, x1, x19 => if x19 = true then (some (([] : List Int), 8)) else (hopperref09_Parse.l0 k x0 x1 ([] : List Int) 0)
def hopperref09_Parse.l0 : Nat → ByteArray → Int → List Int → Int → Option (List Int × Int)
 | 0, _, _, _, _ => none
 | k + 1, x0, x1, x6, x7 => if x7 < (x0.size : Int) then (if 0 ≤ x7 then (if (wrap64 (bt x0 x7)) = x1 then (if (wrap64 (x7 + 1)) = (x0.size : Int) then (some (([] : List Int), 8)) else (if 0 ≤ (wrap64 (x7 + 1)) then (if (wrap64 (x7 + 1)) < (x0.size : Int) then (if x6.length < 17592186044416 then (hopperref09_Parse.l0 k x0 x1 (x6 ++ [wrap64 (bt x0 (wrap64 (x7 + 1)))]) (wrap64 ((wrap64 (x7 + 1)) + 1))) else (none)) else (none)) else (none))) else (if (wrap64 (bt x0 x7)) = 37 then (if x6.length < 17592186044416 then (hopperref09_Parse.l0 k x0 x1 (x6 ++ [257]) (wrap64 (x7 + 1))) else (none)) else (if (wrap64 (bt x0 x7)) = 95 then (if x6.length < 17592186044416 then (hopperref09_Parse.l0 k x0 x1 (x6 ++ [256]) (wrap64 (x7 + 1))) else (none)) else (if x6.length < 17592186044416 then (hopperref09_Parse.l0 k x0 x1 (x6 ++ [wrap64 (bt x0 x7)]) (wrap64 (x7 + 1))) else (none))))) else (none)) else (some (x6, 0))
end
def hopperref09_Parse.f (k : Nat) (a0 : ByteArray) (a1 : Int) : Option (List Int × Int) := if a1 < (-1) then (hopperref09_Parse.j0 k a0 a1 true) else (if a1 > 255 then (hopperref09_Parse.j0 k a0 a1 true) else (hopperref09_Parse.j0 k a0 a1 (decide ((a0.size : Int) > 4096))))
set_option maxHeartbeats 8000000 in
set_option maxRecDepth 100000 in
theorem hopperref09_Parse.calls (k : Nat) (a0 : ByteArray) (a1 : Int) (r1 : List Int) (r2 : Int) (w : World) (h : hopperref09_Parse.f k a0 a1 = some (r1, r2)) :
  Calls Try.prog 36 #[.string a0, .int .i64 a1] w fun e w' => ∃ v0_ : Value, e = .returned (.tuple #[v0_, .int .i64 r2]) ∧ Kd.R (Kd.int .i64) 3 w' w.heap.size (fun _ => True) v0_ r1 ∧ Below w.heap.size w w' := by
 have HB := Aside0.mk (Below.refl w.heap.size w)
 have H : (if a1 < (-1) then (hopperref09_Parse.j0 k a0 a1 true) else (if a1 > 255 then (hopperref09_Parse.j0 k a0 a1 true) else (hopperref09_Parse.j0 k a0 a1 (decide ((a0.size : Int) > 4096))))) = some (r1, r2) := h
 clear h
 have HC3 := Aside0.mk H
 clear H
 go_enter Try.func36, Try.ntmps36
 go_upto_region 1 with (fail)
 go_cut [19] (fun v19 wc => ∃ (kq : Nat) (x19_2 : Bool), v19 = .bool x19_2 ∧ Aside0 (hopperref09_Parse.j0 kq a0 a1 x19_2 = some (r1, r2)) ∧ Aside0 (kq ≤ k) ∧ Aside0 (Below w.heap.size w wc))
 case first =>
  have H := HC3.out
  clear HC3
  by_cases c4 : a1 < (-1)
  ·rw [if_pos c4] at H
   have c4b0 : decide (a1 < (-1)) = true := decide_eq_true c4
   clear c4
   (first | rw [c4b0] | (simp only [i64_w, i32_w]; rw [c4b0]) | skip)
   have H' := Aside0.mk H
   clear H
   go_wp2
   go_meet
   case rel => exact ⟨_, (true), (by first | rfl | (simp; done) | (simp [*]; done)), H', ⟨by first | omega | exact Nat.le_refl _⟩, ⟨by repeat (first | (with_reducible first | exact HB.out | apply below_alloc | apply pw_below_drewN | apply below_drew1) | exact HB.out)⟩⟩
  ·rw [if_neg c4] at H
   have c4b0 : decide (a1 < (-1)) = false := decide_eq_false c4
   clear c4
   (first | rw [c4b0] | (simp only [i64_w, i32_w]; rw [c4b0]) | skip)
   by_cases c5 : a1 > 255
   ·rw [if_pos c5] at H
    have c5b0 : decide (255 < a1) = true := decide_eq_true c5
    clear c5
    have H' := Aside0.mk H
    clear H
    go_wp2
    go_meet
    case rel => exact ⟨_, (true), (by first | rfl | (simp; done) | (simp [*]; done)), H', ⟨by first | omega | exact Nat.le_refl _⟩, ⟨by repeat (first | (with_reducible first | exact HB.out | apply below_alloc | apply pw_below_drewN | apply below_drew1) | exact HB.out)⟩⟩
   ·rw [if_neg c5] at H
    have c5b0 : decide (255 < a1) = false := decide_eq_false c5
    clear c5
    have H' := Aside0.mk H
    clear H
    go_wp2
    go_meet
    case rel => exact ⟨_, (decide ((a0.size : Int) > 4096)), (by first | rfl | (simp; done) | (simp [*]; done)), H', ⟨by first | omega | exact Nat.le_refl _⟩, ⟨by repeat (first | (with_reducible first | exact HB.out | apply below_alloc | apply pw_below_drewN | apply below_drew1) | exact HB.out)⟩⟩
 case rest =>
  clear HC3
  try clear p2
  try clear c3
  try clear c4
  try clear c4b0
  try clear c5
  try clear c5b0
  obtain ⟨kq, x19_2, rfl, HA, HJ2, HB⟩ := hcut
  cases kq with
  | zero => exact absurd HA.out (by simp [hopperref09_Parse.j0])
  | succ kj2 =>
   have H := HA.out
   clear HA
   simp only [hopperref09_Parse.j0] at H
   by_cases c6 : x19_2 = true
   ·subst c6
    have H1 : (some (([] : List Int), 8)) = some (r1, r2) := by rw [if_pos rfl] at H; exact H
    clear H
    have H := H1
    clear H1
    simp only [Option.some.injEq, Prod.mk.injEq] at H
    obtain ⟨rfl, rfl⟩ := H
    go_wp2
    go_ret2
    exact ⟨_, by first | rfl | (simp [errW_none, errW_some] <;> rfl) | (simp [*, errW_none, errW_some] <;> rfl) | exact congrArg (fun b_ => Ending.returned (.bool b_)) (decide_eq_decide.2 (by unfold wrap64; omega)), by first | exact Kd.R_nil _ _ _ _ _ | exact Kd.N_nil _ _ _ _ _ | exact Kd.V_nil _ _ _ _ _ | exact Kd.Q_nil _ _ _ _ _ | exact Kd.S_nil _ _ _ _ _, by repeat (first | (with_reducible first | exact HB.out | apply below_alloc | apply pw_below_drewN | apply below_drew1) | exact HB.out)⟩
   ·replace c6 := Bool.eq_false_iff.mpr c6
    subst c6
    have H1 : (hopperref09_Parse.l0 kj2 a0 a1 ([] : List Int) 0) = some (r1, r2) := by rw [if_neg (show ¬ (false = true) by decide)] at H; exact H
    clear H
    have H := H1
    clear H1
    have H' := Aside0.mk H
    clear H
    go_wp2
    go_loopg [6, 7] kj2 (fun kq v6 v7 w' => ∃ (x6_2 : List Int) (x7_2 : Int), v7 = .int .i64 x7_2 ∧ Aside0 (hopperref09_Parse.l0 kq a0 a1 x6_2 x7_2 = some (r1, r2)) ∧ Aside0 (kq ≤ kj2) ∧ Aside0 (Kd.R (Kd.int .i64) 3 w' w.heap.size (fun _ => True) v6 x6_2) ∧ Aside0 (Below w.heap.size w w'))
    case atStart => exact ⟨(([] : List Int)), (0), (by first | rfl | (simp; done) | (simp [*]; done)), H', ⟨Nat.le_refl _⟩, ⟨by first | exact Kd.R_nil _ _ _ _ _ | exact Kd.N_nil _ _ _ _ _ | exact Kd.V_nil _ _ _ _ _ | exact Kd.Q_nil _ _ _ _ _ | exact Kd.S_nil _ _ _ _ _⟩, ⟨by repeat (first | (with_reducible first | exact HB.out | apply below_alloc | apply pw_below_drewN | apply below_drew1) | exact HB.out)⟩⟩
    case round =>
     clear H'
     try clear p2
     try clear c3
     try clear c4
     try clear c4b0
     try clear c5
     try clear c5b0
     try clear c6
     try clear p6
     try clear p2
     obtain ⟨x6_2, x7_2, rfl, HA, HK2, HO_6, HB⟩ := hrel
     cases gk with
     | zero => exact absurd HA.out (by simp [hopperref09_Parse.l0])
     | succ k2 =>
      have H := HA.out
      clear HA
      simp only [hopperref09_Parse.l0] at H
      by_cases c7 : x7_2 < (a0.size : Int)
      ·rw [if_pos c7] at H
       have c7b0 : decide (x7_2 < (a0.size : Int)) = true := decide_eq_true c7
       clear c7
       by_cases c8 : 0 ≤ x7_2
       ·rw [if_pos c8] at H
        have c8b0 : decide (0 ≤ x7_2) = true := decide_eq_true c8
        clear c8
        by_cases c10 : (wrap64 (bt a0 x7_2)) = a1
        ·rw [if_pos c10] at H
         have c10b0 : ((wrap64 (bt a0 x7_2)) == a1) = true := beq_iff_eq.mpr c10
         have c10b1 : ((wrap64 (bt a0 x7_2)) != a1) = false := bne_eq_false_iff_eq.mpr c10
         clear c10
         by_cases c11 : (wrap64 (x7_2 + 1)) = (a0.size : Int)
         ·rw [if_pos c11] at H
          have c11b0 : ((wrap64 (x7_2 + 1)) == (a0.size : Int)) = true := beq_iff_eq.mpr c11
          have c11b1 : ((wrap64 (x7_2 + 1)) != (a0.size : Int)) = false := bne_eq_false_iff_eq.mpr c11
          clear c11
          simp only [Option.some.injEq, Prod.mk.injEq] at H
          obtain ⟨rfl, rfl⟩ := H
          have p9 : 0 ≤ (x7_2 : Int) := of_decide_eq_true (by first | (with_reducible assumption) | assumption)
          have q9 : x7_2 < (a0.size : Int) := of_decide_eq_true (by first | (with_reducible assumption) | assumption)
          have hx9 := bt_at a0 x7_2
          replace p9 := eq_true p9
          replace q9 := eq_true q9
          go_wp2
          go_ret2
          exact ⟨_, by first | rfl | (simp [errW_none, errW_some] <;> rfl) | (simp [*, errW_none, errW_some] <;> rfl) | exact congrArg (fun b_ => Ending.returned (.bool b_)) (decide_eq_decide.2 (by unfold wrap64; omega)), by first | exact Kd.R_nil _ _ _ _ _ | exact Kd.N_nil _ _ _ _ _ | exact Kd.V_nil _ _ _ _ _ | exact Kd.Q_nil _ _ _ _ _ | exact Kd.S_nil _ _ _ _ _, by repeat (first | (with_reducible first | exact HB.out | apply below_alloc | apply pw_below_drewN | apply below_drew1) | exact HB.out)⟩
         ·rw [if_neg c11] at H
          have c11b0 : ((wrap64 (x7_2 + 1)) == (a0.size : Int)) = false := beq_eq_false_iff_ne.mpr c11
          have c11b1 : ((wrap64 (x7_2 + 1)) != (a0.size : Int)) = true := bne_iff_ne.mpr c11
          obtain ⟨ji12, hji12⟩ : ∃ j_ : Int, (wrap64 (x7_2 + 1)) = j_ := ⟨_, rfl⟩
          replace H : (if 0 ≤ (ji12) then (if (ji12) < (a0.size : Int) then (if x6_2.length < 17592186044416 then (hopperref09_Parse.l0 k2 a0 a1 (x6_2 ++ [wrap64 (bt a0 (ji12))]) (wrap64 ((ji12) + 1))) else (none)) else (none)) else (none)) = some (r1, r2) := by first | (rw [hji12] at H; exact H) | (simp only [hji12] at H ⊢; exact H)
          (try rw [hji12] at c11b0)
          (try rw [hji12] at c11b1)
          have hji12w : (IntKind.i64.wrap (x7_2 + 1)) = ji12 := (i64_w _).trans hji12
          by_cases c13 : 0 ≤ (ji12)
          ·rw [if_pos c13] at H
           have c13b0 : decide (0 ≤ (ji12)) = true := decide_eq_true c13
           clear c13
           by_cases c14 : (ji12) < (a0.size : Int)
           ·rw [if_pos c14] at H
            have c14b0 : decide ((ji12) < (a0.size : Int)) = true := decide_eq_true c14
            clear c14
            by_cases c16 : x6_2.length < 17592186044416
            ·rw [if_pos c16] at H
             have LMc16 := Aside0.mk c16
             clear c16
             obtain ⟨y267, hy267⟩ : ∃ y_ : List Int, y_ = (x6_2 ++ [wrap64 (bt a0 (ji12))]) := ⟨_, rfl⟩
             replace H : (hopperref09_Parse.l0 k2 a0 a1 y267 (wrap64 ((ji12) + 1))) = some (r1, r2) := by first | (rw [hy267]; with_reducible exact H) | (have H2_ := (Option.bind_some _ _).symm.trans H; rw [hy267]; with_reducible exact H2_) | (have H2_ := (Option.bind_some _ _).symm.trans H; with_reducible exact H2_) | with_reducible exact H | (rw [hy267]; exact H) | exact H
             have Ny267 := Aside0.mk hy267
             clear hy267
             have H' := Aside0.mk H
             clear H
             have p9 : 0 ≤ (x7_2 : Int) := of_decide_eq_true (by first | (with_reducible assumption) | assumption)
             have q9 : x7_2 < (a0.size : Int) := of_decide_eq_true (by first | (with_reducible assumption) | assumption)
             have hx9 := bt_at a0 x7_2
             replace p9 := eq_true p9
             replace q9 := eq_true q9
             have p15 : 0 ≤ ((ji12) : Int) := of_decide_eq_true (by first | (with_reducible assumption) | assumption)
             have q15 : (ji12) < (a0.size : Int) := of_decide_eq_true (by first | (with_reducible assumption) | assumption)
             have hx15 := bt_at a0 (ji12)
             replace p15 := eq_true p15
             replace q15 := eq_true q15
             go_wp2_with (first | ((with_reducible refine gate_builtin (b := .append) (xs := #[.tmp 37, .tmp 42]) rfl ?_); (try (refine gate_guard (by rfl) ?_; dsimp only)); at_builtin; refine Kd.R_append (Kd.int .i64) (w0 := w) w.heap.size rfl (.tmp 37) (.tmp 42) 26 3 (.int .i64 0) 8 rfl Try.underlying26 info3 rfl (by decide) (by omega) u6 x6_2 (wrap64 (bt a0 (ji12))) [.int .i64 (wrap64 (bt a0 (ji12)))] (fun _ => True) (fun _ => False) rfl rfl ?aP (fun _ hk => hk.elim) ?aF ?aO ?aB ?aS ?aL ?_; (case aP => exact rfl); (case aB => exact (mvB HB.out)); (case aF => exact (fun _ _ => trivial)); (case aO => exact (mvR HO_6.out)); (case aS => exact (below_size (mvB HB.out))); (case aL => have := LMc16.out; omega); intro v268 w17 ho hb hg hat; rw [← Ny267.out] at ho; have n0_ := Aside0.mk (hb); have n1_ := Aside0.mk (ho); clear HB; clear HO_6; have HB := n0_; have HO269 := n1_; clear n0_ n1_; clear ho hb hg hat))
             go_roundg k2
             case measure => have := HJ2.out; have := HK2.out; omega
             case rel => exact ⟨(y267), (wrap64 ((ji12) + 1)), (by first | rfl | (simp; done) | (simp only [← hji12] <;> (first | rfl | simp)) | (simp [*]; done)), H', ⟨by have := HJ2.out; have := HK2.out; omega⟩, ⟨by (with_reducible repeat (first | apply Kd.R_alloc | apply Kd.R_drewN | apply Kd.R_drew)); exact HO269.out⟩, ⟨by repeat (first | (with_reducible first | exact HB.out | apply below_alloc | apply pw_below_drewN | apply below_drew1) | exact HB.out)⟩⟩
            ·rw [if_neg c16] at H
             exact absurd H (by simp)
           ·rw [if_neg c14] at H
            exact absurd H (by simp)
          ·rw [if_neg c13] at H
           exact absurd H (by simp)
        ·rw [if_neg c10] at H
         have c10b0 : ((wrap64 (bt a0 x7_2)) == a1) = false := beq_eq_false_iff_ne.mpr c10
         have c10b1 : ((wrap64 (bt a0 x7_2)) != a1) = true := bne_iff_ne.mpr c10
         by_cases c18 : (wrap64 (bt a0 x7_2)) = 37
         ·rw [if_pos c18] at H
          have c18b0 : ((wrap64 (bt a0 x7_2)) == 37) = true := beq_iff_eq.mpr c18
          have c18b1 : ((wrap64 (bt a0 x7_2)) != 37) = false := bne_eq_false_iff_eq.mpr c18
          clear c18
          by_cases c19 : x6_2.length < 17592186044416
          ·rw [if_pos c19] at H
           have LMc19 := Aside0.mk c19
           clear c19
           obtain ⟨y270, hy270⟩ : ∃ y_ : List Int, y_ = (x6_2 ++ [257]) := ⟨_, rfl⟩
           replace H : (hopperref09_Parse.l0 k2 a0 a1 y270 (wrap64 (x7_2 + 1))) = some (r1, r2) := by first | (rw [hy270]; with_reducible exact H) | (have H2_ := (Option.bind_some _ _).symm.trans H; rw [hy270]; with_reducible exact H2_) | (have H2_ := (Option.bind_some _ _).symm.trans H; with_reducible exact H2_) | with_reducible exact H | (rw [hy270]; exact H) | exact H
           have Ny270 := Aside0.mk hy270
           clear hy270
           have H' := Aside0.mk H
           clear H
           have p9 : 0 ≤ (x7_2 : Int) := of_decide_eq_true (by first | (with_reducible assumption) | assumption)
           have q9 : x7_2 < (a0.size : Int) := of_decide_eq_true (by first | (with_reducible assumption) | assumption)
           have hx9 := bt_at a0 x7_2
           replace p9 := eq_true p9
           replace q9 := eq_true q9
           go_wp2_with (first | ((with_reducible refine gate_builtin (b := .append) (xs := #[.tmp 48, .tmp 49]) rfl ?_); (try (refine gate_guard (by rfl) ?_; dsimp only)); at_builtin; refine Kd.R_append (Kd.int .i64) (w0 := w) w.heap.size rfl (.tmp 48) (.tmp 49) 26 3 (.int .i64 0) 8 rfl Try.underlying26 info3 rfl (by decide) (by omega) u6 x6_2 257 [.int .i64 257] (fun _ => True) (fun _ => False) rfl rfl ?aP (fun _ hk => hk.elim) ?aF ?aO ?aB ?aS ?aL ?_; (case aP => exact rfl); (case aB => exact (mvB HB.out)); (case aF => exact (fun _ _ => trivial)); (case aO => exact (mvR HO_6.out)); (case aS => exact (below_size (mvB HB.out))); (case aL => have := LMc19.out; omega); intro v271 w20 ho hb hg hat; rw [← Ny270.out] at ho; have n0_ := Aside0.mk (hb); have n1_ := Aside0.mk (ho); clear HB; clear HO_6; have HB := n0_; have HO272 := n1_; clear n0_ n1_; clear ho hb hg hat))
           go_roundg k2
           case measure => have := HJ2.out; have := HK2.out; omega
           case rel => exact ⟨(y270), (wrap64 (x7_2 + 1)), (by first | rfl | (simp; done) | (simp [*]; done)), H', ⟨by have := HJ2.out; have := HK2.out; omega⟩, ⟨by (with_reducible repeat (first | apply Kd.R_alloc | apply Kd.R_drewN | apply Kd.R_drew)); exact HO272.out⟩, ⟨by repeat (first | (with_reducible first | exact HB.out | apply below_alloc | apply pw_below_drewN | apply below_drew1) | exact HB.out)⟩⟩
          ·rw [if_neg c19] at H
           exact absurd H (by simp)
         ·rw [if_neg c18] at H
          have c18b0 : ((wrap64 (bt a0 x7_2)) == 37) = false := beq_eq_false_iff_ne.mpr c18
          have c18b1 : ((wrap64 (bt a0 x7_2)) != 37) = true := bne_iff_ne.mpr c18
          by_cases c21 : (wrap64 (bt a0 x7_2)) = 95
          ·rw [if_pos c21] at H
           have c21b0 : ((wrap64 (bt a0 x7_2)) == 95) = true := beq_iff_eq.mpr c21
           have c21b1 : ((wrap64 (bt a0 x7_2)) != 95) = false := bne_eq_false_iff_eq.mpr c21
           clear c21
           by_cases c22 : x6_2.length < 17592186044416
           ·rw [if_pos c22] at H
            have LMc22 := Aside0.mk c22
            clear c22
            obtain ⟨y273, hy273⟩ : ∃ y_ : List Int, y_ = (x6_2 ++ [256]) := ⟨_, rfl⟩
            replace H : (hopperref09_Parse.l0 k2 a0 a1 y273 (wrap64 (x7_2 + 1))) = some (r1, r2) := by first | (rw [hy273]; with_reducible exact H) | (have H2_ := (Option.bind_some _ _).symm.trans H; rw [hy273]; with_reducible exact H2_) | (have H2_ := (Option.bind_some _ _).symm.trans H; with_reducible exact H2_) | with_reducible exact H | (rw [hy273]; exact H) | exact H
            have Ny273 := Aside0.mk hy273
            clear hy273
            have H' := Aside0.mk H
            clear H
            have p9 : 0 ≤ (x7_2 : Int) := of_decide_eq_true (by first | (with_reducible assumption) | assumption)
            have q9 : x7_2 < (a0.size : Int) := of_decide_eq_true (by first | (with_reducible assumption) | assumption)
            have hx9 := bt_at a0 x7_2
            replace p9 := eq_true p9
            replace q9 := eq_true q9
            go_wp2_with (first | ((with_reducible refine gate_builtin (b := .append) (xs := #[.tmp 53, .tmp 54]) rfl ?_); (try (refine gate_guard (by rfl) ?_; dsimp only)); at_builtin; refine Kd.R_append (Kd.int .i64) (w0 := w) w.heap.size rfl (.tmp 53) (.tmp 54) 26 3 (.int .i64 0) 8 rfl Try.underlying26 info3 rfl (by decide) (by omega) u6 x6_2 256 [.int .i64 256] (fun _ => True) (fun _ => False) rfl rfl ?aP (fun _ hk => hk.elim) ?aF ?aO ?aB ?aS ?aL ?_; (case aP => exact rfl); (case aB => exact (mvB HB.out)); (case aF => exact (fun _ _ => trivial)); (case aO => exact (mvR HO_6.out)); (case aS => exact (below_size (mvB HB.out))); (case aL => have := LMc22.out; omega); intro v274 w23 ho hb hg hat; rw [← Ny273.out] at ho; have n0_ := Aside0.mk (hb); have n1_ := Aside0.mk (ho); clear HB; clear HO_6; have HB := n0_; have HO275 := n1_; clear n0_ n1_; clear ho hb hg hat))
            go_roundg k2
            case measure => have := HJ2.out; have := HK2.out; omega
            case rel => exact ⟨(y273), (wrap64 (x7_2 + 1)), (by first | rfl | (simp; done) | (simp [*]; done)), H', ⟨by have := HJ2.out; have := HK2.out; omega⟩, ⟨by (with_reducible repeat (first | apply Kd.R_alloc | apply Kd.R_drewN | apply Kd.R_drew)); exact HO275.out⟩, ⟨by repeat (first | (with_reducible first | exact HB.out | apply below_alloc | apply pw_below_drewN | apply below_drew1) | exact HB.out)⟩⟩
           ·rw [if_neg c22] at H
            exact absurd H (by simp)
          ·rw [if_neg c21] at H
           have c21b0 : ((wrap64 (bt a0 x7_2)) == 95) = false := beq_eq_false_iff_ne.mpr c21
           have c21b1 : ((wrap64 (bt a0 x7_2)) != 95) = true := bne_iff_ne.mpr c21
           by_cases c24 : x6_2.length < 17592186044416
           ·rw [if_pos c24] at H
            have LMc24 := Aside0.mk c24
            clear c24
            obtain ⟨y276, hy276⟩ : ∃ y_ : List Int, y_ = (x6_2 ++ [wrap64 (bt a0 x7_2)]) := ⟨_, rfl⟩
            replace H : (hopperref09_Parse.l0 k2 a0 a1 y276 (wrap64 (x7_2 + 1))) = some (r1, r2) := by first | (rw [hy276]; with_reducible exact H) | (have H2_ := (Option.bind_some _ _).symm.trans H; rw [hy276]; with_reducible exact H2_) | (have H2_ := (Option.bind_some _ _).symm.trans H; with_reducible exact H2_) | with_reducible exact H | (rw [hy276]; exact H) | exact H
            have Ny276 := Aside0.mk hy276
            clear hy276
            have H' := Aside0.mk H
            clear H
            have p9 : 0 ≤ (x7_2 : Int) := of_decide_eq_true (by first | (with_reducible assumption) | assumption)
            have q9 : x7_2 < (a0.size : Int) := of_decide_eq_true (by first | (with_reducible assumption) | assumption)
            have hx9 := bt_at a0 x7_2
            replace p9 := eq_true p9
            replace q9 := eq_true q9
            go_wp2_with (first | ((with_reducible refine gate_builtin (b := .append) (xs := #[.tmp 56, .tmp 58]) rfl ?_); (try (refine gate_guard (by rfl) ?_; dsimp only)); at_builtin; refine Kd.R_append (Kd.int .i64) (w0 := w) w.heap.size rfl (.tmp 56) (.tmp 58) 26 3 (.int .i64 0) 8 rfl Try.underlying26 info3 rfl (by decide) (by omega) u6 x6_2 (wrap64 (bt a0 x7_2)) [.int .i64 (wrap64 (bt a0 x7_2))] (fun _ => True) (fun _ => False) rfl rfl ?aP (fun _ hk => hk.elim) ?aF ?aO ?aB ?aS ?aL ?_; (case aP => exact rfl); (case aB => exact (mvB HB.out)); (case aF => exact (fun _ _ => trivial)); (case aO => exact (mvR HO_6.out)); (case aS => exact (below_size (mvB HB.out))); (case aL => have := LMc24.out; omega); intro v277 w25 ho hb hg hat; rw [← Ny276.out] at ho; have n0_ := Aside0.mk (hb); have n1_ := Aside0.mk (ho); clear HB; clear HO_6; have HB := n0_; have HO278 := n1_; clear n0_ n1_; clear ho hb hg hat))
            go_roundg k2
            case measure => have := HJ2.out; have := HK2.out; omega
            case rel => exact ⟨(y276), (wrap64 (x7_2 + 1)), (by first | rfl | (simp; done) | (simp [*]; done)), H', ⟨by have := HJ2.out; have := HK2.out; omega⟩, ⟨by (with_reducible repeat (first | apply Kd.R_alloc | apply Kd.R_drewN | apply Kd.R_drew)); exact HO278.out⟩, ⟨by repeat (first | (with_reducible first | exact HB.out | apply below_alloc | apply pw_below_drewN | apply below_drew1) | exact HB.out)⟩⟩
           ·rw [if_neg c24] at H
            exact absurd H (by simp)
       ·rw [if_neg c8] at H
        exact absurd H (by simp)
      ·rw [if_neg c7] at H
       have c7b0 : decide (x7_2 < (a0.size : Int)) = false := decide_eq_false c7
       clear c7
       simp only [Option.some.injEq, Prod.mk.injEq] at H
       obtain ⟨rfl, rfl⟩ := H
       go_wp2
       go_ret2
       exact ⟨_, by first | rfl | (simp [errW_none, errW_some] <;> rfl) | (simp [*, errW_none, errW_some] <;> rfl) | exact congrArg (fun b_ => Ending.returned (.bool b_)) (decide_eq_decide.2 (by unfold wrap64; omega)), by (with_reducible repeat (first | apply Kd.R_alloc | apply Kd.R_drewN | apply Kd.R_drew)); exact HO_6.out, by repeat (first | (with_reducible first | exact HB.out | apply below_alloc | apply pw_below_drewN | apply below_drew1) | exact HB.out)⟩

end Go.Proofs.Ytomccmodlkdcbaa.Q
