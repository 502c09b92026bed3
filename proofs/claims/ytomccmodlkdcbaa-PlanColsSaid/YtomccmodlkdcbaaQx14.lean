-- PRINTED by print.py (a twelfth state) out of the translation. Not trusted: Lean checks it.
import Derived.Test.YtomccmodlkdcbaaQx0
namespace Go.Proofs.Ytomccmodlkdcbaa.Q
open Go.RowKit Go.Proofs.YtomccmodlkdcbaaW.PrintWords Go.Proofs.YtomccmodlkdcbaaW.PrintLast Go.Proofs.YtomccmodlkdcbaaW.PrintMore
attribute [local go_sem] str_gtr str_geq str_leq max2_int min2_int max_two min_two max_three min_three max_four min_four   -- for this text's walks alone
set_option linter.unusedVariables false
set_option linter.unusedSimpArgs false

/-! ### hopperref20_Right: function 25 -/
-- told by hand
def r20a (p : S50) (deep : Int) : Bool := (decide (deep < 1) || (decide (p.f0 < 1) || (decide (8 < p.f0) || (((p.f0 != 1) && (p.f1 != 0)) || (((p.f0 != 2) && (!p.f2.toList.isEmpty)) || ((p.f0 != 6) && ((p.f3 != 0) || (p.f4 != 0))))))))
def r20n (p : S50) : Bool := ((decide (p.f0 ≤ 3) && ((p.f5.length : Int) != 0)) || ((((p.f0 == 4) || ((p.f0 == 6) || (p.f0 == 7))) && ((p.f5.length : Int) != 1)) || (((p.f0 == 5) || (p.f0 == 8)) && (decide (p.f5.length < 1) || decide (8 < p.f5.length)))))
def r20l (p : S50) (cols : Int) : Bool := (decide (p.f1 < 0) || (((p.f0 == 1) && decide (cols ≤ p.f1)) || (decide (4096 < p.f2.size) || (decide (p.f3 < 0) || decide (p.f4 < 0)))))
def refRightS : Nat → S50 → Int → Int → Option Bool
 | 0, _, _, _ => none
 | k + 1, p, cols, deep => if r20a p deep = true then some false else if r20n p = true then some false else if r20l p cols = true then some false else allE (fun q => refRightS k q cols (wrap64 (deep - 1))) p.f5
def hopperref20_Right.f (k : Nat) (a0_0 : Int) (a0_1 : Int) (a0_2 : ByteArray) (a0_3 : Int) (a0_4 : Int) (l0_5 : List (S50)) (a1 : Int) (a2 : Int) : Option Bool := refRightS k ⟨a0_0, a0_1, a0_2, a0_3, a0_4, l0_5⟩ a1 a2
set_option maxHeartbeats 8000000 in
set_option maxRecDepth 1000000 in
theorem hopperref20_Right.one (p : S50) (cs : List Value) (cols deep : Int) (w : World) (hK : k50.K w p cs) (ha : r20a p deep = true) :
  Calls Try.prog 25 #[.agg cs.toArray, .int .i64 cols, .int .i64 deep] w fun e w' => e = .returned (.bool false) ∧ Below w.heap.size w w' := by
 have HSZ := Aside0.mk (show ∀ W, (sizeOf 50).run Try.prog W = .ok 6 W from fun W => by first | exact Try.sizeOf50 | exact Try.sizeOf50 W | go_simp)
 have HAGG := Aside0.mk (show ∀ W, (isAgg 50).run Try.prog W = .ok true W from fun W => by first | exact Try.isAgg50 | exact Try.isAgg50 W | go_simp)
 have hup := Try.underlying50
 have HL6 := Aside0.mk (show cs.length = 6 from k50.K_len hK)
 obtain ⟨A5, c5, ecs, hl5, hk5⟩ := k50_open hK
 have HN5 := Aside0.mk hk5.2.1
 have H0 := Aside0.mk (show cs[0]? = some (.int .i64 p.f0) from by rw [ecs]; rfl)
 have H1 := Aside0.mk (show cs[1]? = some (.int .i64 p.f1) from by rw [ecs]; rfl)
 have H2 := Aside0.mk (show cs[2]? = some (.string p.f2) from by rw [ecs]; rfl)
 have H3 := Aside0.mk (show cs[3]? = some (.int .i64 p.f3) from by rw [ecs]; rfl)
 have H4 := Aside0.mk (show cs[4]? = some (.int .i64 p.f4) from by rw [ecs]; rfl)
 have H5 := Aside0.mk (show cs[5]? = some (.slice A5 p.f5.length c5) from by rw [ecs]; rfl)
 have HK5 := Aside0.mk hk5
 clear hK hk5 hl5 ecs
 go_enter Try.func25, Try.ntmps25
 go_upto_region 2 with (first
  | ((with_reducible refine gate_dst (N := 3) rfl ?_); refine box_all rfl rfl (cs := cs.toArray) rfl (fun W => by rw [List.size_toArray, HL6.out]; exact HSZ.out W) ?_; intro w1 hbx hbw; have BW := Aside0.mk hbw; have BX := Aside0.mk hbx; have hcv0 : w1.cell? ⟨w.heap.size, 0, none⟩ = some (.int .i64 p.f0) := blk_cells BX.out 0 _ H0.out; clear hbx hbw))
 clear hcv0
 go_cut [53] (fun s53 wc => s53 = .bool (r20a p deep) ∧ Aside0 (Below w.heap.size w wc) ∧ Aside0 (wc.heap[w.heap.size]? = some (.cells cs.toArray 50 (0, 0))))
 case first =>
  have hcv0 : w1.cell? ⟨w.heap.size, 0, none⟩ = some (.int .i64 p.f0) := blk_cells BX.out 0 _ H0.out; have hcv1 : w1.cell? ⟨w.heap.size, 1, none⟩ = some (.int .i64 p.f1) := blk_cells BX.out 1 _ H1.out; have hcv2 : w1.cell? ⟨w.heap.size, 2, none⟩ = some (.string p.f2) := blk_cells BX.out 2 _ H2.out; have hcv3 : w1.cell? ⟨w.heap.size, 3, none⟩ = some (.int .i64 p.f3) := blk_cells BX.out 3 _ H3.out; have hcv4 : w1.cell? ⟨w.heap.size, 4, none⟩ = some (.int .i64 p.f4) := blk_cells BX.out 4 _ H4.out; have hcv5 : w1.cell? ⟨w.heap.size, 5, none⟩ = some (.slice A5 p.f5.length c5) := blk_cells BX.out 5 _ H5.out
  cases qq20 : decide (deep < 1) with
  | true =>
   go_wp2
   go_meet
   case rel => exact ⟨by simp only [r20a, qq20] <;> rfl, BW, BX⟩
  | false =>
   cases qq21 : decide (p.f0 < 1) with
   | true =>
    go_wp2
    go_meet
    case rel => exact ⟨by simp only [r20a, qq20, qq21] <;> rfl, BW, BX⟩
   | false =>
    cases qq22 : decide (8 < p.f0) with
    | true =>
     go_wp2
     go_meet
     case rel => exact ⟨by simp only [r20a, qq20, qq21, qq22] <;> rfl, BW, BX⟩
    | false =>
     cases qq23 : (p.f0 != 1) with
     | true =>
      cases qq24 : (p.f1 != 0) with
      | true =>
       go_wp2
       go_meet
       case rel => exact ⟨by simp only [r20a, qq20, qq21, qq22, qq23, qq24] <;> rfl, BW, BX⟩
      | false =>
       cases qq25 : (p.f0 != 2) with
       | true =>
        cases qq26 : (!p.f2.toList.isEmpty) with
        | true =>
         go_wp2
         go_meet
         case rel => exact ⟨by simp only [r20a, qq20, qq21, qq22, qq23, qq24, qq25, qq26] <;> rfl, BW, BX⟩
        | false =>
         cases qq27 : (p.f0 != 6) with
         | true =>
          cases qq28 : (p.f3 != 0) with
          | true =>
           go_wp2
           go_meet
           case rel => exact ⟨by simp only [r20a, qq20, qq21, qq22, qq23, qq24, qq25, qq26, qq27, qq28] <;> rfl, BW, BX⟩
          | false =>
           cases qq29 : (p.f4 != 0) with
           | true =>
            go_wp2
            go_meet
            case rel => exact ⟨by simp only [r20a, qq20, qq21, qq22, qq23, qq24, qq25, qq26, qq27, qq28, qq29] <;> rfl, BW, BX⟩
           | false =>
            (exfalso; have hz_ := ha; simp only [r20a, qq20, qq21, qq22, qq23, qq24, qq25, qq26, qq27, qq28, qq29, Bool.or_true, Bool.true_or, Bool.false_or, Bool.or_false, Bool.and_true, Bool.true_and, Bool.false_and, Bool.and_false] at hz_ <;> cases hz_)
         | false =>
          (exfalso; have hz_ := ha; simp only [r20a, qq20, qq21, qq22, qq23, qq24, qq25, qq26, qq27, Bool.or_true, Bool.true_or, Bool.false_or, Bool.or_false, Bool.and_true, Bool.true_and, Bool.false_and, Bool.and_false] at hz_ <;> cases hz_)
       | false =>
        cases qq30 : (p.f0 != 6) with
        | true =>
         cases qq31 : (p.f3 != 0) with
         | true =>
          go_wp2
          go_meet
          case rel => exact ⟨by simp only [r20a, qq20, qq21, qq22, qq23, qq24, qq25, qq30, qq31] <;> rfl, BW, BX⟩
         | false =>
          cases qq32 : (p.f4 != 0) with
          | true =>
           go_wp2
           go_meet
           case rel => exact ⟨by simp only [r20a, qq20, qq21, qq22, qq23, qq24, qq25, qq30, qq31, qq32] <;> rfl, BW, BX⟩
          | false =>
           (exfalso; have hz_ := ha; simp only [r20a, qq20, qq21, qq22, qq23, qq24, qq25, qq30, qq31, qq32, Bool.or_true, Bool.true_or, Bool.false_or, Bool.or_false, Bool.and_true, Bool.true_and, Bool.false_and, Bool.and_false] at hz_ <;> cases hz_)
        | false =>
         (exfalso; have hz_ := ha; simp only [r20a, qq20, qq21, qq22, qq23, qq24, qq25, qq30, Bool.or_true, Bool.true_or, Bool.false_or, Bool.or_false, Bool.and_true, Bool.true_and, Bool.false_and, Bool.and_false] at hz_ <;> cases hz_)
     | false =>
      cases qq33 : (p.f0 != 2) with
      | true =>
       cases qq34 : (!p.f2.toList.isEmpty) with
       | true =>
        go_wp2
        go_meet
        case rel => exact ⟨by simp only [r20a, qq20, qq21, qq22, qq23, qq33, qq34] <;> rfl, BW, BX⟩
       | false =>
        cases qq35 : (p.f0 != 6) with
        | true =>
         cases qq36 : (p.f3 != 0) with
         | true =>
          go_wp2
          go_meet
          case rel => exact ⟨by simp only [r20a, qq20, qq21, qq22, qq23, qq33, qq34, qq35, qq36] <;> rfl, BW, BX⟩
         | false =>
          cases qq37 : (p.f4 != 0) with
          | true =>
           go_wp2
           go_meet
           case rel => exact ⟨by simp only [r20a, qq20, qq21, qq22, qq23, qq33, qq34, qq35, qq36, qq37] <;> rfl, BW, BX⟩
          | false =>
           (exfalso; have hz_ := ha; simp only [r20a, qq20, qq21, qq22, qq23, qq33, qq34, qq35, qq36, qq37, Bool.or_true, Bool.true_or, Bool.false_or, Bool.or_false, Bool.and_true, Bool.true_and, Bool.false_and, Bool.and_false] at hz_ <;> cases hz_)
        | false =>
         (exfalso; have hz_ := ha; simp only [r20a, qq20, qq21, qq22, qq23, qq33, qq34, qq35, Bool.or_true, Bool.true_or, Bool.false_or, Bool.or_false, Bool.and_true, Bool.true_and, Bool.false_and, Bool.and_false] at hz_ <;> cases hz_)
      | false =>
       cases qq38 : (p.f0 != 6) with
       | true =>
        cases qq39 : (p.f3 != 0) with
        | true =>
         go_wp2
         go_meet
         case rel => exact ⟨by simp only [r20a, qq20, qq21, qq22, qq23, qq33, qq38, qq39] <;> rfl, BW, BX⟩
        | false =>
         cases qq40 : (p.f4 != 0) with
         | true =>
          go_wp2
          go_meet
          case rel => exact ⟨by simp only [r20a, qq20, qq21, qq22, qq23, qq33, qq38, qq39, qq40] <;> rfl, BW, BX⟩
         | false =>
          (exfalso; have hz_ := ha; simp only [r20a, qq20, qq21, qq22, qq23, qq33, qq38, qq39, qq40, Bool.or_true, Bool.true_or, Bool.false_or, Bool.or_false, Bool.and_true, Bool.true_and, Bool.false_and, Bool.and_false] at hz_ <;> cases hz_)
       | false =>
        (exfalso; have hz_ := ha; simp only [r20a, qq20, qq21, qq22, qq23, qq33, qq38, Bool.or_true, Bool.true_or, Bool.false_or, Bool.or_false, Bool.and_true, Bool.true_and, Bool.false_and, Bool.and_false] at hz_ <;> cases hz_)
 case rest =>
  obtain ⟨rfl, BW2, BX2⟩ := hcut
  rw [ha]
  go_wp2
  go_ret
  exact ⟨rfl, BW2.out⟩
set_option maxHeartbeats 8000000 in
set_option maxRecDepth 1000000 in
theorem hopperref20_Right.two (p : S50) (cs : List Value) (cols deep : Int) (w : World) (hK : k50.K w p cs) (ha : r20a p deep = false) (hb : r20n p = true) :
  Calls Try.prog 25 #[.agg cs.toArray, .int .i64 cols, .int .i64 deep] w fun e w' => e = .returned (.bool false) ∧ Below w.heap.size w w' := by
 have HSZ := Aside0.mk (show ∀ W, (sizeOf 50).run Try.prog W = .ok 6 W from fun W => by first | exact Try.sizeOf50 | exact Try.sizeOf50 W | go_simp)
 have HAGG := Aside0.mk (show ∀ W, (isAgg 50).run Try.prog W = .ok true W from fun W => by first | exact Try.isAgg50 | exact Try.isAgg50 W | go_simp)
 have hup := Try.underlying50
 have HL6 := Aside0.mk (show cs.length = 6 from k50.K_len hK)
 obtain ⟨A5, c5, ecs, hl5, hk5⟩ := k50_open hK
 have HN5 := Aside0.mk hk5.2.1
 have H0 := Aside0.mk (show cs[0]? = some (.int .i64 p.f0) from by rw [ecs]; rfl)
 have H1 := Aside0.mk (show cs[1]? = some (.int .i64 p.f1) from by rw [ecs]; rfl)
 have H2 := Aside0.mk (show cs[2]? = some (.string p.f2) from by rw [ecs]; rfl)
 have H3 := Aside0.mk (show cs[3]? = some (.int .i64 p.f3) from by rw [ecs]; rfl)
 have H4 := Aside0.mk (show cs[4]? = some (.int .i64 p.f4) from by rw [ecs]; rfl)
 have H5 := Aside0.mk (show cs[5]? = some (.slice A5 p.f5.length c5) from by rw [ecs]; rfl)
 have HK5 := Aside0.mk hk5
 clear hK hk5 hl5 ecs
 have hk : p.f0 = 1 ∨ p.f0 = 2 ∨ p.f0 = 3 ∨ p.f0 = 4 ∨ p.f0 = 5 ∨ p.f0 = 6 ∨ p.f0 = 7 ∨ p.f0 = 8 := by
  have h_ := ha
  unfold r20a at h_
  simp only [Bool.or_eq_false_iff, decide_eq_false_iff_not] at h_
  omega
 have HK8 := Aside0.mk hk
 clear hk
 go_enter Try.func25, Try.ntmps25
 go_upto_region 2 with (first
  | ((with_reducible refine gate_dst (N := 3) rfl ?_); refine box_all rfl rfl (cs := cs.toArray) rfl (fun W => by rw [List.size_toArray, HL6.out]; exact HSZ.out W) ?_; intro w1 hbx hbw; have BW := Aside0.mk hbw; have BX := Aside0.mk hbx; have hcv0 : w1.cell? ⟨w.heap.size, 0, none⟩ = some (.int .i64 p.f0) := blk_cells BX.out 0 _ H0.out; clear hbx hbw))
 clear hcv0
 go_cut [53] (fun s53 wc => s53 = .bool (r20a p deep) ∧ Aside0 (Below w.heap.size w wc) ∧ Aside0 (wc.heap[w.heap.size]? = some (.cells cs.toArray 50 (0, 0))))
 case first =>
  have hcv0 : w1.cell? ⟨w.heap.size, 0, none⟩ = some (.int .i64 p.f0) := blk_cells BX.out 0 _ H0.out; have hcv1 : w1.cell? ⟨w.heap.size, 1, none⟩ = some (.int .i64 p.f1) := blk_cells BX.out 1 _ H1.out; have hcv2 : w1.cell? ⟨w.heap.size, 2, none⟩ = some (.string p.f2) := blk_cells BX.out 2 _ H2.out; have hcv3 : w1.cell? ⟨w.heap.size, 3, none⟩ = some (.int .i64 p.f3) := blk_cells BX.out 3 _ H3.out; have hcv4 : w1.cell? ⟨w.heap.size, 4, none⟩ = some (.int .i64 p.f4) := blk_cells BX.out 4 _ H4.out; have hcv5 : w1.cell? ⟨w.heap.size, 5, none⟩ = some (.slice A5 p.f5.length c5) := blk_cells BX.out 5 _ H5.out
  have hk := HK8.out
  rcases hk with hk | hk | hk | hk | hk | hk | hk | hk
  ·have hn0 : decide (p.f0 < 1) = false := by rw [hk]; rfl
   have hn1 : decide (8 < p.f0) = false := by rw [hk]; rfl
   have hn2 : (p.f0 != 1) = false := by rw [hk]; rfl
   have hn3 : (p.f0 != 2) = true := by rw [hk]; rfl
   have hn4 : (p.f0 != 6) = true := by rw [hk]; rfl
   clear hk
   cases qq41 : decide (deep < 1) with
   | true =>
    (exfalso; have hz_ := ha; simp only [r20a, qq41, Bool.or_true, Bool.true_or, Bool.false_or, Bool.or_false, Bool.and_true, Bool.true_and, Bool.false_and, Bool.and_false] at hz_ <;> cases hz_)
   | false =>
    cases qq42 : (!p.f2.toList.isEmpty) with
    | true =>
     (exfalso; have hz_ := ha; simp only [r20a, qq41, hn0, hn1, hn2, hn3, qq42, Bool.or_true, Bool.true_or, Bool.false_or, Bool.or_false, Bool.and_true, Bool.true_and, Bool.false_and, Bool.and_false] at hz_ <;> cases hz_)
    | false =>
     cases qq43 : (p.f3 != 0) with
     | true =>
      (exfalso; have hz_ := ha; simp only [r20a, qq41, hn0, hn1, hn2, hn3, qq42, hn4, qq43, Bool.or_true, Bool.true_or, Bool.false_or, Bool.or_false, Bool.and_true, Bool.true_and, Bool.false_and, Bool.and_false] at hz_ <;> cases hz_)
     | false =>
      cases qq44 : (p.f4 != 0) with
      | true =>
       (exfalso; have hz_ := ha; simp only [r20a, qq41, hn0, hn1, hn2, hn3, qq42, hn4, qq43, qq44, Bool.or_true, Bool.true_or, Bool.false_or, Bool.or_false, Bool.and_true, Bool.true_and, Bool.false_and, Bool.and_false] at hz_ <;> cases hz_)
      | false =>
       go_wp2
       go_meet
       case rel => exact ⟨by simp only [r20a, qq41, hn0, hn1, hn2, hn3, qq42, hn4, qq43, qq44] <;> rfl, BW, BX⟩
  ·have hn0 : decide (p.f0 < 1) = false := by rw [hk]; rfl
   have hn1 : decide (8 < p.f0) = false := by rw [hk]; rfl
   have hn2 : (p.f0 != 1) = true := by rw [hk]; rfl
   have hn3 : (p.f0 != 2) = false := by rw [hk]; rfl
   have hn4 : (p.f0 != 6) = true := by rw [hk]; rfl
   clear hk
   cases qq45 : decide (deep < 1) with
   | true =>
    (exfalso; have hz_ := ha; simp only [r20a, qq45, Bool.or_true, Bool.true_or, Bool.false_or, Bool.or_false, Bool.and_true, Bool.true_and, Bool.false_and, Bool.and_false] at hz_ <;> cases hz_)
   | false =>
    cases qq46 : (p.f1 != 0) with
    | true =>
     (exfalso; have hz_ := ha; simp only [r20a, qq45, hn0, hn1, hn2, qq46, Bool.or_true, Bool.true_or, Bool.false_or, Bool.or_false, Bool.and_true, Bool.true_and, Bool.false_and, Bool.and_false] at hz_ <;> cases hz_)
    | false =>
     cases qq47 : (p.f3 != 0) with
     | true =>
      (exfalso; have hz_ := ha; simp only [r20a, qq45, hn0, hn1, hn2, qq46, hn3, hn4, qq47, Bool.or_true, Bool.true_or, Bool.false_or, Bool.or_false, Bool.and_true, Bool.true_and, Bool.false_and, Bool.and_false] at hz_ <;> cases hz_)
     | false =>
      cases qq48 : (p.f4 != 0) with
      | true =>
       (exfalso; have hz_ := ha; simp only [r20a, qq45, hn0, hn1, hn2, qq46, hn3, hn4, qq47, qq48, Bool.or_true, Bool.true_or, Bool.false_or, Bool.or_false, Bool.and_true, Bool.true_and, Bool.false_and, Bool.and_false] at hz_ <;> cases hz_)
      | false =>
       go_wp2
       go_meet
       case rel => exact ⟨by simp only [r20a, qq45, hn0, hn1, hn2, qq46, hn3, hn4, qq47, qq48] <;> rfl, BW, BX⟩
  ·have hn0 : decide (p.f0 < 1) = false := by rw [hk]; rfl
   have hn1 : decide (8 < p.f0) = false := by rw [hk]; rfl
   have hn2 : (p.f0 != 1) = true := by rw [hk]; rfl
   have hn3 : (p.f0 != 2) = true := by rw [hk]; rfl
   have hn4 : (p.f0 != 6) = true := by rw [hk]; rfl
   clear hk
   cases qq49 : decide (deep < 1) with
   | true =>
    (exfalso; have hz_ := ha; simp only [r20a, qq49, Bool.or_true, Bool.true_or, Bool.false_or, Bool.or_false, Bool.and_true, Bool.true_and, Bool.false_and, Bool.and_false] at hz_ <;> cases hz_)
   | false =>
    cases qq50 : (p.f1 != 0) with
    | true =>
     (exfalso; have hz_ := ha; simp only [r20a, qq49, hn0, hn1, hn2, qq50, Bool.or_true, Bool.true_or, Bool.false_or, Bool.or_false, Bool.and_true, Bool.true_and, Bool.false_and, Bool.and_false] at hz_ <;> cases hz_)
    | false =>
     cases qq51 : (!p.f2.toList.isEmpty) with
     | true =>
      (exfalso; have hz_ := ha; simp only [r20a, qq49, hn0, hn1, hn2, qq50, hn3, qq51, Bool.or_true, Bool.true_or, Bool.false_or, Bool.or_false, Bool.and_true, Bool.true_and, Bool.false_and, Bool.and_false] at hz_ <;> cases hz_)
     | false =>
      cases qq52 : (p.f3 != 0) with
      | true =>
       (exfalso; have hz_ := ha; simp only [r20a, qq49, hn0, hn1, hn2, qq50, hn3, qq51, hn4, qq52, Bool.or_true, Bool.true_or, Bool.false_or, Bool.or_false, Bool.and_true, Bool.true_and, Bool.false_and, Bool.and_false] at hz_ <;> cases hz_)
      | false =>
       cases qq53 : (p.f4 != 0) with
       | true =>
        (exfalso; have hz_ := ha; simp only [r20a, qq49, hn0, hn1, hn2, qq50, hn3, qq51, hn4, qq52, qq53, Bool.or_true, Bool.true_or, Bool.false_or, Bool.or_false, Bool.and_true, Bool.true_and, Bool.false_and, Bool.and_false] at hz_ <;> cases hz_)
       | false =>
        go_wp2
        go_meet
        case rel => exact ⟨by simp only [r20a, qq49, hn0, hn1, hn2, qq50, hn3, qq51, hn4, qq52, qq53] <;> rfl, BW, BX⟩
  ·have hn0 : decide (p.f0 < 1) = false := by rw [hk]; rfl
   have hn1 : decide (8 < p.f0) = false := by rw [hk]; rfl
   have hn2 : (p.f0 != 1) = true := by rw [hk]; rfl
   have hn3 : (p.f0 != 2) = true := by rw [hk]; rfl
   have hn4 : (p.f0 != 6) = true := by rw [hk]; rfl
   clear hk
   cases qq54 : decide (deep < 1) with
   | true =>
    (exfalso; have hz_ := ha; simp only [r20a, qq54, Bool.or_true, Bool.true_or, Bool.false_or, Bool.or_false, Bool.and_true, Bool.true_and, Bool.false_and, Bool.and_false] at hz_ <;> cases hz_)
   | false =>
    cases qq55 : (p.f1 != 0) with
    | true =>
     (exfalso; have hz_ := ha; simp only [r20a, qq54, hn0, hn1, hn2, qq55, Bool.or_true, Bool.true_or, Bool.false_or, Bool.or_false, Bool.and_true, Bool.true_and, Bool.false_and, Bool.and_false] at hz_ <;> cases hz_)
    | false =>
     cases qq56 : (!p.f2.toList.isEmpty) with
     | true =>
      (exfalso; have hz_ := ha; simp only [r20a, qq54, hn0, hn1, hn2, qq55, hn3, qq56, Bool.or_true, Bool.true_or, Bool.false_or, Bool.or_false, Bool.and_true, Bool.true_and, Bool.false_and, Bool.and_false] at hz_ <;> cases hz_)
     | false =>
      cases qq57 : (p.f3 != 0) with
      | true =>
       (exfalso; have hz_ := ha; simp only [r20a, qq54, hn0, hn1, hn2, qq55, hn3, qq56, hn4, qq57, Bool.or_true, Bool.true_or, Bool.false_or, Bool.or_false, Bool.and_true, Bool.true_and, Bool.false_and, Bool.and_false] at hz_ <;> cases hz_)
      | false =>
       cases qq58 : (p.f4 != 0) with
       | true =>
        (exfalso; have hz_ := ha; simp only [r20a, qq54, hn0, hn1, hn2, qq55, hn3, qq56, hn4, qq57, qq58, Bool.or_true, Bool.true_or, Bool.false_or, Bool.or_false, Bool.and_true, Bool.true_and, Bool.false_and, Bool.and_false] at hz_ <;> cases hz_)
       | false =>
        go_wp2
        go_meet
        case rel => exact ⟨by simp only [r20a, qq54, hn0, hn1, hn2, qq55, hn3, qq56, hn4, qq57, qq58] <;> rfl, BW, BX⟩
  ·have hn0 : decide (p.f0 < 1) = false := by rw [hk]; rfl
   have hn1 : decide (8 < p.f0) = false := by rw [hk]; rfl
   have hn2 : (p.f0 != 1) = true := by rw [hk]; rfl
   have hn3 : (p.f0 != 2) = true := by rw [hk]; rfl
   have hn4 : (p.f0 != 6) = true := by rw [hk]; rfl
   clear hk
   cases qq59 : decide (deep < 1) with
   | true =>
    (exfalso; have hz_ := ha; simp only [r20a, qq59, Bool.or_true, Bool.true_or, Bool.false_or, Bool.or_false, Bool.and_true, Bool.true_and, Bool.false_and, Bool.and_false] at hz_ <;> cases hz_)
   | false =>
    cases qq60 : (p.f1 != 0) with
    | true =>
     (exfalso; have hz_ := ha; simp only [r20a, qq59, hn0, hn1, hn2, qq60, Bool.or_true, Bool.true_or, Bool.false_or, Bool.or_false, Bool.and_true, Bool.true_and, Bool.false_and, Bool.and_false] at hz_ <;> cases hz_)
    | false =>
     cases qq61 : (!p.f2.toList.isEmpty) with
     | true =>
      (exfalso; have hz_ := ha; simp only [r20a, qq59, hn0, hn1, hn2, qq60, hn3, qq61, Bool.or_true, Bool.true_or, Bool.false_or, Bool.or_false, Bool.and_true, Bool.true_and, Bool.false_and, Bool.and_false] at hz_ <;> cases hz_)
     | false =>
      cases qq62 : (p.f3 != 0) with
      | true =>
       (exfalso; have hz_ := ha; simp only [r20a, qq59, hn0, hn1, hn2, qq60, hn3, qq61, hn4, qq62, Bool.or_true, Bool.true_or, Bool.false_or, Bool.or_false, Bool.and_true, Bool.true_and, Bool.false_and, Bool.and_false] at hz_ <;> cases hz_)
      | false =>
       cases qq63 : (p.f4 != 0) with
       | true =>
        (exfalso; have hz_ := ha; simp only [r20a, qq59, hn0, hn1, hn2, qq60, hn3, qq61, hn4, qq62, qq63, Bool.or_true, Bool.true_or, Bool.false_or, Bool.or_false, Bool.and_true, Bool.true_and, Bool.false_and, Bool.and_false] at hz_ <;> cases hz_)
       | false =>
        go_wp2
        go_meet
        case rel => exact ⟨by simp only [r20a, qq59, hn0, hn1, hn2, qq60, hn3, qq61, hn4, qq62, qq63] <;> rfl, BW, BX⟩
  ·have hn0 : decide (p.f0 < 1) = false := by rw [hk]; rfl
   have hn1 : decide (8 < p.f0) = false := by rw [hk]; rfl
   have hn2 : (p.f0 != 1) = true := by rw [hk]; rfl
   have hn3 : (p.f0 != 2) = true := by rw [hk]; rfl
   have hn4 : (p.f0 != 6) = false := by rw [hk]; rfl
   clear hk
   cases qq64 : decide (deep < 1) with
   | true =>
    (exfalso; have hz_ := ha; simp only [r20a, qq64, Bool.or_true, Bool.true_or, Bool.false_or, Bool.or_false, Bool.and_true, Bool.true_and, Bool.false_and, Bool.and_false] at hz_ <;> cases hz_)
   | false =>
    cases qq65 : (p.f1 != 0) with
    | true =>
     (exfalso; have hz_ := ha; simp only [r20a, qq64, hn0, hn1, hn2, qq65, Bool.or_true, Bool.true_or, Bool.false_or, Bool.or_false, Bool.and_true, Bool.true_and, Bool.false_and, Bool.and_false] at hz_ <;> cases hz_)
    | false =>
     cases qq66 : (!p.f2.toList.isEmpty) with
     | true =>
      (exfalso; have hz_ := ha; simp only [r20a, qq64, hn0, hn1, hn2, qq65, hn3, qq66, Bool.or_true, Bool.true_or, Bool.false_or, Bool.or_false, Bool.and_true, Bool.true_and, Bool.false_and, Bool.and_false] at hz_ <;> cases hz_)
     | false =>
      go_wp2
      go_meet
      case rel => exact ⟨by simp only [r20a, qq64, hn0, hn1, hn2, qq65, hn3, qq66, hn4] <;> rfl, BW, BX⟩
  ·have hn0 : decide (p.f0 < 1) = false := by rw [hk]; rfl
   have hn1 : decide (8 < p.f0) = false := by rw [hk]; rfl
   have hn2 : (p.f0 != 1) = true := by rw [hk]; rfl
   have hn3 : (p.f0 != 2) = true := by rw [hk]; rfl
   have hn4 : (p.f0 != 6) = true := by rw [hk]; rfl
   clear hk
   cases qq67 : decide (deep < 1) with
   | true =>
    (exfalso; have hz_ := ha; simp only [r20a, qq67, Bool.or_true, Bool.true_or, Bool.false_or, Bool.or_false, Bool.and_true, Bool.true_and, Bool.false_and, Bool.and_false] at hz_ <;> cases hz_)
   | false =>
    cases qq68 : (p.f1 != 0) with
    | true =>
     (exfalso; have hz_ := ha; simp only [r20a, qq67, hn0, hn1, hn2, qq68, Bool.or_true, Bool.true_or, Bool.false_or, Bool.or_false, Bool.and_true, Bool.true_and, Bool.false_and, Bool.and_false] at hz_ <;> cases hz_)
    | false =>
     cases qq69 : (!p.f2.toList.isEmpty) with
     | true =>
      (exfalso; have hz_ := ha; simp only [r20a, qq67, hn0, hn1, hn2, qq68, hn3, qq69, Bool.or_true, Bool.true_or, Bool.false_or, Bool.or_false, Bool.and_true, Bool.true_and, Bool.false_and, Bool.and_false] at hz_ <;> cases hz_)
     | false =>
      cases qq70 : (p.f3 != 0) with
      | true =>
       (exfalso; have hz_ := ha; simp only [r20a, qq67, hn0, hn1, hn2, qq68, hn3, qq69, hn4, qq70, Bool.or_true, Bool.true_or, Bool.false_or, Bool.or_false, Bool.and_true, Bool.true_and, Bool.false_and, Bool.and_false] at hz_ <;> cases hz_)
      | false =>
       cases qq71 : (p.f4 != 0) with
       | true =>
        (exfalso; have hz_ := ha; simp only [r20a, qq67, hn0, hn1, hn2, qq68, hn3, qq69, hn4, qq70, qq71, Bool.or_true, Bool.true_or, Bool.false_or, Bool.or_false, Bool.and_true, Bool.true_and, Bool.false_and, Bool.and_false] at hz_ <;> cases hz_)
       | false =>
        go_wp2
        go_meet
        case rel => exact ⟨by simp only [r20a, qq67, hn0, hn1, hn2, qq68, hn3, qq69, hn4, qq70, qq71] <;> rfl, BW, BX⟩
  ·have hn0 : decide (p.f0 < 1) = false := by rw [hk]; rfl
   have hn1 : decide (8 < p.f0) = false := by rw [hk]; rfl
   have hn2 : (p.f0 != 1) = true := by rw [hk]; rfl
   have hn3 : (p.f0 != 2) = true := by rw [hk]; rfl
   have hn4 : (p.f0 != 6) = true := by rw [hk]; rfl
   clear hk
   cases qq72 : decide (deep < 1) with
   | true =>
    (exfalso; have hz_ := ha; simp only [r20a, qq72, Bool.or_true, Bool.true_or, Bool.false_or, Bool.or_false, Bool.and_true, Bool.true_and, Bool.false_and, Bool.and_false] at hz_ <;> cases hz_)
   | false =>
    cases qq73 : (p.f1 != 0) with
    | true =>
     (exfalso; have hz_ := ha; simp only [r20a, qq72, hn0, hn1, hn2, qq73, Bool.or_true, Bool.true_or, Bool.false_or, Bool.or_false, Bool.and_true, Bool.true_and, Bool.false_and, Bool.and_false] at hz_ <;> cases hz_)
    | false =>
     cases qq74 : (!p.f2.toList.isEmpty) with
     | true =>
      (exfalso; have hz_ := ha; simp only [r20a, qq72, hn0, hn1, hn2, qq73, hn3, qq74, Bool.or_true, Bool.true_or, Bool.false_or, Bool.or_false, Bool.and_true, Bool.true_and, Bool.false_and, Bool.and_false] at hz_ <;> cases hz_)
     | false =>
      cases qq75 : (p.f3 != 0) with
      | true =>
       (exfalso; have hz_ := ha; simp only [r20a, qq72, hn0, hn1, hn2, qq73, hn3, qq74, hn4, qq75, Bool.or_true, Bool.true_or, Bool.false_or, Bool.or_false, Bool.and_true, Bool.true_and, Bool.false_and, Bool.and_false] at hz_ <;> cases hz_)
      | false =>
       cases qq76 : (p.f4 != 0) with
       | true =>
        (exfalso; have hz_ := ha; simp only [r20a, qq72, hn0, hn1, hn2, qq73, hn3, qq74, hn4, qq75, qq76, Bool.or_true, Bool.true_or, Bool.false_or, Bool.or_false, Bool.and_true, Bool.true_and, Bool.false_and, Bool.and_false] at hz_ <;> cases hz_)
       | false =>
        go_wp2
        go_meet
        case rel => exact ⟨by simp only [r20a, qq72, hn0, hn1, hn2, qq73, hn3, qq74, hn4, qq75, qq76] <;> rfl, BW, BX⟩
 case rest =>
  clear BW BX
  obtain ⟨rfl, BW, BX⟩ := hcut
  rw [ha]
  have hcv5 : wc.cell? ⟨w.heap.size, 5, none⟩ = some (.slice A5 p.f5.length c5) := blk_cells BX.out 5 _ H5.out
  go_upto_region 5 with (fail)
  clear hcv5
  go_cut [94] (fun s94 wc => s94 = .bool (r20n p) ∧ Aside0 (Below w.heap.size w wc) ∧ Aside0 (wc.heap[w.heap.size]? = some (.cells cs.toArray 50 (0, 0))))
  case first =>
   have hk := HK8.out
   rcases hk with hk | hk | hk | hk | hk | hk | hk | hk
   ·have hn5 : decide (p.f0 ≤ 3) = true := by rw [hk]; rfl
    have hn6 : (p.f0 == 4) = false := by rw [hk]; rfl
    have hn7 : (p.f0 == 6) = false := by rw [hk]; rfl
    have hn8 : (p.f0 == 7) = false := by rw [hk]; rfl
    have hn9 : (p.f0 == 5) = false := by rw [hk]; rfl
    have hn10 : (p.f0 == 8) = false := by rw [hk]; rfl
    clear hk
    cases qq77 : ((p.f5.length : Int) != 0) with
    | true =>
     go_wp2
     go_meet
     case rel => exact ⟨by simp only [r20n, hn5, qq77] <;> rfl, BW, BX⟩
    | false =>
     (exfalso; have hz_ := hb; simp only [r20n, hn5, qq77, hn6, hn7, hn8, hn9, hn10, Bool.or_true, Bool.true_or, Bool.false_or, Bool.or_false, Bool.and_true, Bool.true_and, Bool.false_and, Bool.and_false] at hz_ <;> cases hz_)
   ·have hn5 : decide (p.f0 ≤ 3) = true := by rw [hk]; rfl
    have hn6 : (p.f0 == 4) = false := by rw [hk]; rfl
    have hn7 : (p.f0 == 6) = false := by rw [hk]; rfl
    have hn8 : (p.f0 == 7) = false := by rw [hk]; rfl
    have hn9 : (p.f0 == 5) = false := by rw [hk]; rfl
    have hn10 : (p.f0 == 8) = false := by rw [hk]; rfl
    clear hk
    cases qq78 : ((p.f5.length : Int) != 0) with
    | true =>
     go_wp2
     go_meet
     case rel => exact ⟨by simp only [r20n, hn5, qq78] <;> rfl, BW, BX⟩
    | false =>
     (exfalso; have hz_ := hb; simp only [r20n, hn5, qq78, hn6, hn7, hn8, hn9, hn10, Bool.or_true, Bool.true_or, Bool.false_or, Bool.or_false, Bool.and_true, Bool.true_and, Bool.false_and, Bool.and_false] at hz_ <;> cases hz_)
   ·have hn5 : decide (p.f0 ≤ 3) = true := by rw [hk]; rfl
    have hn6 : (p.f0 == 4) = false := by rw [hk]; rfl
    have hn7 : (p.f0 == 6) = false := by rw [hk]; rfl
    have hn8 : (p.f0 == 7) = false := by rw [hk]; rfl
    have hn9 : (p.f0 == 5) = false := by rw [hk]; rfl
    have hn10 : (p.f0 == 8) = false := by rw [hk]; rfl
    clear hk
    cases qq79 : ((p.f5.length : Int) != 0) with
    | true =>
     go_wp2
     go_meet
     case rel => exact ⟨by simp only [r20n, hn5, qq79] <;> rfl, BW, BX⟩
    | false =>
     (exfalso; have hz_ := hb; simp only [r20n, hn5, qq79, hn6, hn7, hn8, hn9, hn10, Bool.or_true, Bool.true_or, Bool.false_or, Bool.or_false, Bool.and_true, Bool.true_and, Bool.false_and, Bool.and_false] at hz_ <;> cases hz_)
   ·have hn5 : decide (p.f0 ≤ 3) = false := by rw [hk]; rfl
    have hn6 : (p.f0 == 4) = true := by rw [hk]; rfl
    have hn7 : (p.f0 == 6) = false := by rw [hk]; rfl
    have hn8 : (p.f0 == 7) = false := by rw [hk]; rfl
    have hn9 : (p.f0 == 5) = false := by rw [hk]; rfl
    have hn10 : (p.f0 == 8) = false := by rw [hk]; rfl
    clear hk
    cases qq80 : ((p.f5.length : Int) != 1) with
    | true =>
     go_wp2
     go_meet
     case rel => exact ⟨by simp only [r20n, hn5, hn6, qq80] <;> rfl, BW, BX⟩
    | false =>
     (exfalso; have hz_ := hb; simp only [r20n, hn5, hn6, qq80, hn9, hn10, Bool.or_true, Bool.true_or, Bool.false_or, Bool.or_false, Bool.and_true, Bool.true_and, Bool.false_and, Bool.and_false] at hz_ <;> cases hz_)
   ·have hn5 : decide (p.f0 ≤ 3) = false := by rw [hk]; rfl
    have hn6 : (p.f0 == 4) = false := by rw [hk]; rfl
    have hn7 : (p.f0 == 6) = false := by rw [hk]; rfl
    have hn8 : (p.f0 == 7) = false := by rw [hk]; rfl
    have hn9 : (p.f0 == 5) = true := by rw [hk]; rfl
    have hn10 : (p.f0 == 8) = false := by rw [hk]; rfl
    clear hk
    cases qq81 : decide (p.f5.length < 1) with
    | true =>
     have qq81i : decide ((p.f5.length : Int) < (1 : Int)) = true := by rw [← qq81]; exact decide_eq_decide.2 (by omega)
     go_wp2
     go_meet
     case rel => exact ⟨by simp only [r20n, hn5, hn6, hn7, hn8, hn9, qq81] <;> rfl, BW, BX⟩
    | false =>
     have qq81i : decide ((p.f5.length : Int) < (1 : Int)) = false := by rw [← qq81]; exact decide_eq_decide.2 (by omega)
     cases qq82 : decide (8 < p.f5.length) with
     | true =>
      have qq82i : decide ((8 : Int) < (p.f5.length : Int)) = true := by rw [← qq82]; exact decide_eq_decide.2 (by omega)
      go_wp2
      go_meet
      case rel => exact ⟨by simp only [r20n, hn5, hn6, hn7, hn8, hn9, qq81, qq82] <;> rfl, BW, BX⟩
     | false =>
      have qq82i : decide ((8 : Int) < (p.f5.length : Int)) = false := by rw [← qq82]; exact decide_eq_decide.2 (by omega)
      (exfalso; have hz_ := hb; simp only [r20n, hn5, hn6, hn7, hn8, hn9, qq81, qq82, Bool.or_true, Bool.true_or, Bool.false_or, Bool.or_false, Bool.and_true, Bool.true_and, Bool.false_and, Bool.and_false] at hz_ <;> cases hz_)
   ·have hn5 : decide (p.f0 ≤ 3) = false := by rw [hk]; rfl
    have hn6 : (p.f0 == 4) = false := by rw [hk]; rfl
    have hn7 : (p.f0 == 6) = true := by rw [hk]; rfl
    have hn8 : (p.f0 == 7) = false := by rw [hk]; rfl
    have hn9 : (p.f0 == 5) = false := by rw [hk]; rfl
    have hn10 : (p.f0 == 8) = false := by rw [hk]; rfl
    clear hk
    cases qq83 : ((p.f5.length : Int) != 1) with
    | true =>
     go_wp2
     go_meet
     case rel => exact ⟨by simp only [r20n, hn5, hn6, hn7, qq83] <;> rfl, BW, BX⟩
    | false =>
     (exfalso; have hz_ := hb; simp only [r20n, hn5, hn6, hn7, qq83, hn9, hn10, Bool.or_true, Bool.true_or, Bool.false_or, Bool.or_false, Bool.and_true, Bool.true_and, Bool.false_and, Bool.and_false] at hz_ <;> cases hz_)
   ·have hn5 : decide (p.f0 ≤ 3) = false := by rw [hk]; rfl
    have hn6 : (p.f0 == 4) = false := by rw [hk]; rfl
    have hn7 : (p.f0 == 6) = false := by rw [hk]; rfl
    have hn8 : (p.f0 == 7) = true := by rw [hk]; rfl
    have hn9 : (p.f0 == 5) = false := by rw [hk]; rfl
    have hn10 : (p.f0 == 8) = false := by rw [hk]; rfl
    clear hk
    cases qq84 : ((p.f5.length : Int) != 1) with
    | true =>
     go_wp2
     go_meet
     case rel => exact ⟨by simp only [r20n, hn5, hn6, hn7, hn8, qq84] <;> rfl, BW, BX⟩
    | false =>
     (exfalso; have hz_ := hb; simp only [r20n, hn5, hn6, hn7, hn8, qq84, hn9, hn10, Bool.or_true, Bool.true_or, Bool.false_or, Bool.or_false, Bool.and_true, Bool.true_and, Bool.false_and, Bool.and_false] at hz_ <;> cases hz_)
   ·have hn5 : decide (p.f0 ≤ 3) = false := by rw [hk]; rfl
    have hn6 : (p.f0 == 4) = false := by rw [hk]; rfl
    have hn7 : (p.f0 == 6) = false := by rw [hk]; rfl
    have hn8 : (p.f0 == 7) = false := by rw [hk]; rfl
    have hn9 : (p.f0 == 5) = false := by rw [hk]; rfl
    have hn10 : (p.f0 == 8) = true := by rw [hk]; rfl
    clear hk
    cases qq85 : decide (p.f5.length < 1) with
    | true =>
     have qq85i : decide ((p.f5.length : Int) < (1 : Int)) = true := by rw [← qq85]; exact decide_eq_decide.2 (by omega)
     go_wp2
     go_meet
     case rel => exact ⟨by simp only [r20n, hn5, hn6, hn7, hn8, hn9, hn10, qq85] <;> rfl, BW, BX⟩
    | false =>
     have qq85i : decide ((p.f5.length : Int) < (1 : Int)) = false := by rw [← qq85]; exact decide_eq_decide.2 (by omega)
     cases qq86 : decide (8 < p.f5.length) with
     | true =>
      have qq86i : decide ((8 : Int) < (p.f5.length : Int)) = true := by rw [← qq86]; exact decide_eq_decide.2 (by omega)
      go_wp2
      go_meet
      case rel => exact ⟨by simp only [r20n, hn5, hn6, hn7, hn8, hn9, hn10, qq85, qq86] <;> rfl, BW, BX⟩
     | false =>
      have qq86i : decide ((8 : Int) < (p.f5.length : Int)) = false := by rw [← qq86]; exact decide_eq_decide.2 (by omega)
      (exfalso; have hz_ := hb; simp only [r20n, hn5, hn6, hn7, hn8, hn9, hn10, qq85, qq86, Bool.or_true, Bool.true_or, Bool.false_or, Bool.or_false, Bool.and_true, Bool.true_and, Bool.false_and, Bool.and_false] at hz_ <;> cases hz_)
  case rest =>
   obtain ⟨rfl, BW2, BX2⟩ := hcut
   rw [hb]
   go_wp2
   go_ret
   exact ⟨rfl, BW2.out⟩
set_option maxHeartbeats 8000000 in
set_option maxRecDepth 1000000 in
theorem hopperref20_Right.three (p : S50) (cs : List Value) (cols deep : Int) (w : World) (hK : k50.K w p cs) (ha : r20a p deep = false) (hb : r20n p = false) (hc : r20l p cols = true) :
  Calls Try.prog 25 #[.agg cs.toArray, .int .i64 cols, .int .i64 deep] w fun e w' => e = .returned (.bool false) ∧ Below w.heap.size w w' := by
 have HSZ := Aside0.mk (show ∀ W, (sizeOf 50).run Try.prog W = .ok 6 W from fun W => by first | exact Try.sizeOf50 | exact Try.sizeOf50 W | go_simp)
 have HAGG := Aside0.mk (show ∀ W, (isAgg 50).run Try.prog W = .ok true W from fun W => by first | exact Try.isAgg50 | exact Try.isAgg50 W | go_simp)
 have hup := Try.underlying50
 have HL6 := Aside0.mk (show cs.length = 6 from k50.K_len hK)
 obtain ⟨A5, c5, ecs, hl5, hk5⟩ := k50_open hK
 have HN5 := Aside0.mk hk5.2.1
 have H0 := Aside0.mk (show cs[0]? = some (.int .i64 p.f0) from by rw [ecs]; rfl)
 have H1 := Aside0.mk (show cs[1]? = some (.int .i64 p.f1) from by rw [ecs]; rfl)
 have H2 := Aside0.mk (show cs[2]? = some (.string p.f2) from by rw [ecs]; rfl)
 have H3 := Aside0.mk (show cs[3]? = some (.int .i64 p.f3) from by rw [ecs]; rfl)
 have H4 := Aside0.mk (show cs[4]? = some (.int .i64 p.f4) from by rw [ecs]; rfl)
 have H5 := Aside0.mk (show cs[5]? = some (.slice A5 p.f5.length c5) from by rw [ecs]; rfl)
 have HK5 := Aside0.mk hk5
 clear hK hk5 hl5 ecs
 have hk : p.f0 = 1 ∨ p.f0 = 2 ∨ p.f0 = 3 ∨ p.f0 = 4 ∨ p.f0 = 5 ∨ p.f0 = 6 ∨ p.f0 = 7 ∨ p.f0 = 8 := by
  have h_ := ha
  unfold r20a at h_
  simp only [Bool.or_eq_false_iff, decide_eq_false_iff_not] at h_
  omega
 have HK8 := Aside0.mk hk
 clear hk
 go_enter Try.func25, Try.ntmps25
 go_upto_region 2 with (first
  | ((with_reducible refine gate_dst (N := 3) rfl ?_); refine box_all rfl rfl (cs := cs.toArray) rfl (fun W => by rw [List.size_toArray, HL6.out]; exact HSZ.out W) ?_; intro w1 hbx hbw; have BW := Aside0.mk hbw; have BX := Aside0.mk hbx; have hcv0 : w1.cell? ⟨w.heap.size, 0, none⟩ = some (.int .i64 p.f0) := blk_cells BX.out 0 _ H0.out; clear hbx hbw))
 clear hcv0
 go_cut [53] (fun s53 wc => s53 = .bool (r20a p deep) ∧ Aside0 (Below w.heap.size w wc) ∧ Aside0 (wc.heap[w.heap.size]? = some (.cells cs.toArray 50 (0, 0))))
 case first =>
  have hcv0 : w1.cell? ⟨w.heap.size, 0, none⟩ = some (.int .i64 p.f0) := blk_cells BX.out 0 _ H0.out; have hcv1 : w1.cell? ⟨w.heap.size, 1, none⟩ = some (.int .i64 p.f1) := blk_cells BX.out 1 _ H1.out; have hcv2 : w1.cell? ⟨w.heap.size, 2, none⟩ = some (.string p.f2) := blk_cells BX.out 2 _ H2.out; have hcv3 : w1.cell? ⟨w.heap.size, 3, none⟩ = some (.int .i64 p.f3) := blk_cells BX.out 3 _ H3.out; have hcv4 : w1.cell? ⟨w.heap.size, 4, none⟩ = some (.int .i64 p.f4) := blk_cells BX.out 4 _ H4.out; have hcv5 : w1.cell? ⟨w.heap.size, 5, none⟩ = some (.slice A5 p.f5.length c5) := blk_cells BX.out 5 _ H5.out
  have hk := HK8.out
  rcases hk with hk | hk | hk | hk | hk | hk | hk | hk
  ·have hn0 : decide (p.f0 < 1) = false := by rw [hk]; rfl
   have hn1 : decide (8 < p.f0) = false := by rw [hk]; rfl
   have hn2 : (p.f0 != 1) = false := by rw [hk]; rfl
   have hn3 : (p.f0 != 2) = true := by rw [hk]; rfl
   have hn4 : (p.f0 != 6) = true := by rw [hk]; rfl
   clear hk
   cases qq41 : decide (deep < 1) with
   | true =>
    (exfalso; have hz_ := ha; simp only [r20a, qq41, Bool.or_true, Bool.true_or, Bool.false_or, Bool.or_false, Bool.and_true, Bool.true_and, Bool.false_and, Bool.and_false] at hz_ <;> cases hz_)
   | false =>
    cases qq42 : (!p.f2.toList.isEmpty) with
    | true =>
     (exfalso; have hz_ := ha; simp only [r20a, qq41, hn0, hn1, hn2, hn3, qq42, Bool.or_true, Bool.true_or, Bool.false_or, Bool.or_false, Bool.and_true, Bool.true_and, Bool.false_and, Bool.and_false] at hz_ <;> cases hz_)
    | false =>
     cases qq43 : (p.f3 != 0) with
     | true =>
      (exfalso; have hz_ := ha; simp only [r20a, qq41, hn0, hn1, hn2, hn3, qq42, hn4, qq43, Bool.or_true, Bool.true_or, Bool.false_or, Bool.or_false, Bool.and_true, Bool.true_and, Bool.false_and, Bool.and_false] at hz_ <;> cases hz_)
     | false =>
      cases qq44 : (p.f4 != 0) with
      | true =>
       (exfalso; have hz_ := ha; simp only [r20a, qq41, hn0, hn1, hn2, hn3, qq42, hn4, qq43, qq44, Bool.or_true, Bool.true_or, Bool.false_or, Bool.or_false, Bool.and_true, Bool.true_and, Bool.false_and, Bool.and_false] at hz_ <;> cases hz_)
      | false =>
       go_wp2
       go_meet
       case rel => exact ⟨by simp only [r20a, qq41, hn0, hn1, hn2, hn3, qq42, hn4, qq43, qq44] <;> rfl, BW, BX⟩
  ·have hn0 : decide (p.f0 < 1) = false := by rw [hk]; rfl
   have hn1 : decide (8 < p.f0) = false := by rw [hk]; rfl
   have hn2 : (p.f0 != 1) = true := by rw [hk]; rfl
   have hn3 : (p.f0 != 2) = false := by rw [hk]; rfl
   have hn4 : (p.f0 != 6) = true := by rw [hk]; rfl
   clear hk
   cases qq45 : decide (deep < 1) with
   | true =>
    (exfalso; have hz_ := ha; simp only [r20a, qq45, Bool.or_true, Bool.true_or, Bool.false_or, Bool.or_false, Bool.and_true, Bool.true_and, Bool.false_and, Bool.and_false] at hz_ <;> cases hz_)
   | false =>
    cases qq46 : (p.f1 != 0) with
    | true =>
     (exfalso; have hz_ := ha; simp only [r20a, qq45, hn0, hn1, hn2, qq46, Bool.or_true, Bool.true_or, Bool.false_or, Bool.or_false, Bool.and_true, Bool.true_and, Bool.false_and, Bool.and_false] at hz_ <;> cases hz_)
    | false =>
     cases qq47 : (p.f3 != 0) with
     | true =>
      (exfalso; have hz_ := ha; simp only [r20a, qq45, hn0, hn1, hn2, qq46, hn3, hn4, qq47, Bool.or_true, Bool.true_or, Bool.false_or, Bool.or_false, Bool.and_true, Bool.true_and, Bool.false_and, Bool.and_false] at hz_ <;> cases hz_)
     | false =>
      cases qq48 : (p.f4 != 0) with
      | true =>
       (exfalso; have hz_ := ha; simp only [r20a, qq45, hn0, hn1, hn2, qq46, hn3, hn4, qq47, qq48, Bool.or_true, Bool.true_or, Bool.false_or, Bool.or_false, Bool.and_true, Bool.true_and, Bool.false_and, Bool.and_false] at hz_ <;> cases hz_)
      | false =>
       go_wp2
       go_meet
       case rel => exact ⟨by simp only [r20a, qq45, hn0, hn1, hn2, qq46, hn3, hn4, qq47, qq48] <;> rfl, BW, BX⟩
  ·have hn0 : decide (p.f0 < 1) = false := by rw [hk]; rfl
   have hn1 : decide (8 < p.f0) = false := by rw [hk]; rfl
   have hn2 : (p.f0 != 1) = true := by rw [hk]; rfl
   have hn3 : (p.f0 != 2) = true := by rw [hk]; rfl
   have hn4 : (p.f0 != 6) = true := by rw [hk]; rfl
   clear hk
   cases qq49 : decide (deep < 1) with
   | true =>
    (exfalso; have hz_ := ha; simp only [r20a, qq49, Bool.or_true, Bool.true_or, Bool.false_or, Bool.or_false, Bool.and_true, Bool.true_and, Bool.false_and, Bool.and_false] at hz_ <;> cases hz_)
   | false =>
    cases qq50 : (p.f1 != 0) with
    | true =>
     (exfalso; have hz_ := ha; simp only [r20a, qq49, hn0, hn1, hn2, qq50, Bool.or_true, Bool.true_or, Bool.false_or, Bool.or_false, Bool.and_true, Bool.true_and, Bool.false_and, Bool.and_false] at hz_ <;> cases hz_)
    | false =>
     cases qq51 : (!p.f2.toList.isEmpty) with
     | true =>
      (exfalso; have hz_ := ha; simp only [r20a, qq49, hn0, hn1, hn2, qq50, hn3, qq51, Bool.or_true, Bool.true_or, Bool.false_or, Bool.or_false, Bool.and_true, Bool.true_and, Bool.false_and, Bool.and_false] at hz_ <;> cases hz_)
     | false =>
      cases qq52 : (p.f3 != 0) with
      | true =>
       (exfalso; have hz_ := ha; simp only [r20a, qq49, hn0, hn1, hn2, qq50, hn3, qq51, hn4, qq52, Bool.or_true, Bool.true_or, Bool.false_or, Bool.or_false, Bool.and_true, Bool.true_and, Bool.false_and, Bool.and_false] at hz_ <;> cases hz_)
      | false =>
       cases qq53 : (p.f4 != 0) with
       | true =>
        (exfalso; have hz_ := ha; simp only [r20a, qq49, hn0, hn1, hn2, qq50, hn3, qq51, hn4, qq52, qq53, Bool.or_true, Bool.true_or, Bool.false_or, Bool.or_false, Bool.and_true, Bool.true_and, Bool.false_and, Bool.and_false] at hz_ <;> cases hz_)
       | false =>
        go_wp2
        go_meet
        case rel => exact ⟨by simp only [r20a, qq49, hn0, hn1, hn2, qq50, hn3, qq51, hn4, qq52, qq53] <;> rfl, BW, BX⟩
  ·have hn0 : decide (p.f0 < 1) = false := by rw [hk]; rfl
   have hn1 : decide (8 < p.f0) = false := by rw [hk]; rfl
   have hn2 : (p.f0 != 1) = true := by rw [hk]; rfl
   have hn3 : (p.f0 != 2) = true := by rw [hk]; rfl
   have hn4 : (p.f0 != 6) = true := by rw [hk]; rfl
   clear hk
   cases qq54 : decide (deep < 1) with
   | true =>
    (exfalso; have hz_ := ha; simp only [r20a, qq54, Bool.or_true, Bool.true_or, Bool.false_or, Bool.or_false, Bool.and_true, Bool.true_and, Bool.false_and, Bool.and_false] at hz_ <;> cases hz_)
   | false =>
    cases qq55 : (p.f1 != 0) with
    | true =>
     (exfalso; have hz_ := ha; simp only [r20a, qq54, hn0, hn1, hn2, qq55, Bool.or_true, Bool.true_or, Bool.false_or, Bool.or_false, Bool.and_true, Bool.true_and, Bool.false_and, Bool.and_false] at hz_ <;> cases hz_)
    | false =>
     cases qq56 : (!p.f2.toList.isEmpty) with
     | true =>
      (exfalso; have hz_ := ha; simp only [r20a, qq54, hn0, hn1, hn2, qq55, hn3, qq56, Bool.or_true, Bool.true_or, Bool.false_or, Bool.or_false, Bool.and_true, Bool.true_and, Bool.false_and, Bool.and_false] at hz_ <;> cases hz_)
     | false =>
      cases qq57 : (p.f3 != 0) with
      | true =>
       (exfalso; have hz_ := ha; simp only [r20a, qq54, hn0, hn1, hn2, qq55, hn3, qq56, hn4, qq57, Bool.or_true, Bool.true_or, Bool.false_or, Bool.or_false, Bool.and_true, Bool.true_and, Bool.false_and, Bool.and_false] at hz_ <;> cases hz_)
      | false =>
       cases qq58 : (p.f4 != 0) with
       | true =>
        (exfalso; have hz_ := ha; simp only [r20a, qq54, hn0, hn1, hn2, qq55, hn3, qq56, hn4, qq57, qq58, Bool.or_true, Bool.true_or, Bool.false_or, Bool.or_false, Bool.and_true, Bool.true_and, Bool.false_and, Bool.and_false] at hz_ <;> cases hz_)
       | false =>
        go_wp2
        go_meet
        case rel => exact ⟨by simp only [r20a, qq54, hn0, hn1, hn2, qq55, hn3, qq56, hn4, qq57, qq58] <;> rfl, BW, BX⟩
  ·have hn0 : decide (p.f0 < 1) = false := by rw [hk]; rfl
   have hn1 : decide (8 < p.f0) = false := by rw [hk]; rfl
   have hn2 : (p.f0 != 1) = true := by rw [hk]; rfl
   have hn3 : (p.f0 != 2) = true := by rw [hk]; rfl
   have hn4 : (p.f0 != 6) = true := by rw [hk]; rfl
   clear hk
   cases qq59 : decide (deep < 1) with
   | true =>
    (exfalso; have hz_ := ha; simp only [r20a, qq59, Bool.or_true, Bool.true_or, Bool.false_or, Bool.or_false, Bool.and_true, Bool.true_and, Bool.false_and, Bool.and_false] at hz_ <;> cases hz_)
   | false =>
    cases qq60 : (p.f1 != 0) with
    | true =>
     (exfalso; have hz_ := ha; simp only [r20a, qq59, hn0, hn1, hn2, qq60, Bool.or_true, Bool.true_or, Bool.false_or, Bool.or_false, Bool.and_true, Bool.true_and, Bool.false_and, Bool.and_false] at hz_ <;> cases hz_)
    | false =>
     cases qq61 : (!p.f2.toList.isEmpty) with
     | true =>
      (exfalso; have hz_ := ha; simp only [r20a, qq59, hn0, hn1, hn2, qq60, hn3, qq61, Bool.or_true, Bool.true_or, Bool.false_or, Bool.or_false, Bool.and_true, Bool.true_and, Bool.false_and, Bool.and_false] at hz_ <;> cases hz_)
     | false =>
      cases qq62 : (p.f3 != 0) with
      | true =>
       (exfalso; have hz_ := ha; simp only [r20a, qq59, hn0, hn1, hn2, qq60, hn3, qq61, hn4, qq62, Bool.or_true, Bool.true_or, Bool.false_or, Bool.or_false, Bool.and_true, Bool.true_and, Bool.false_and, Bool.and_false] at hz_ <;> cases hz_)
      | false =>
       cases qq63 : (p.f4 != 0) with
       | true =>
        (exfalso; have hz_ := ha; simp only [r20a, qq59, hn0, hn1, hn2, qq60, hn3, qq61, hn4, qq62, qq63, Bool.or_true, Bool.true_or, Bool.false_or, Bool.or_false, Bool.and_true, Bool.true_and, Bool.false_and, Bool.and_false] at hz_ <;> cases hz_)
       | false =>
        go_wp2
        go_meet
        case rel => exact ⟨by simp only [r20a, qq59, hn0, hn1, hn2, qq60, hn3, qq61, hn4, qq62, qq63] <;> rfl, BW, BX⟩
  ·have hn0 : decide (p.f0 < 1) = false := by rw [hk]; rfl
   have hn1 : decide (8 < p.f0) = false := by rw [hk]; rfl
   have hn2 : (p.f0 != 1) = true := by rw [hk]; rfl
   have hn3 : (p.f0 != 2) = true := by rw [hk]; rfl
   have hn4 : (p.f0 != 6) = false := by rw [hk]; rfl
   clear hk
   cases qq64 : decide (deep < 1) with
   | true =>
    (exfalso; have hz_ := ha; simp only [r20a, qq64, Bool.or_true, Bool.true_or, Bool.false_or, Bool.or_false, Bool.and_true, Bool.true_and, Bool.false_and, Bool.and_false] at hz_ <;> cases hz_)
   | false =>
    cases qq65 : (p.f1 != 0) with
    | true =>
     (exfalso; have hz_ := ha; simp only [r20a, qq64, hn0, hn1, hn2, qq65, Bool.or_true, Bool.true_or, Bool.false_or, Bool.or_false, Bool.and_true, Bool.true_and, Bool.false_and, Bool.and_false] at hz_ <;> cases hz_)
    | false =>
     cases qq66 : (!p.f2.toList.isEmpty) with
     | true =>
      (exfalso; have hz_ := ha; simp only [r20a, qq64, hn0, hn1, hn2, qq65, hn3, qq66, Bool.or_true, Bool.true_or, Bool.false_or, Bool.or_false, Bool.and_true, Bool.true_and, Bool.false_and, Bool.and_false] at hz_ <;> cases hz_)
     | false =>
      go_wp2
      go_meet
      case rel => exact ⟨by simp only [r20a, qq64, hn0, hn1, hn2, qq65, hn3, qq66, hn4] <;> rfl, BW, BX⟩
  ·have hn0 : decide (p.f0 < 1) = false := by rw [hk]; rfl
   have hn1 : decide (8 < p.f0) = false := by rw [hk]; rfl
   have hn2 : (p.f0 != 1) = true := by rw [hk]; rfl
   have hn3 : (p.f0 != 2) = true := by rw [hk]; rfl
   have hn4 : (p.f0 != 6) = true := by rw [hk]; rfl
   clear hk
   cases qq67 : decide (deep < 1) with
   | true =>
    (exfalso; have hz_ := ha; simp only [r20a, qq67, Bool.or_true, Bool.true_or, Bool.false_or, Bool.or_false, Bool.and_true, Bool.true_and, Bool.false_and, Bool.and_false] at hz_ <;> cases hz_)
   | false =>
    cases qq68 : (p.f1 != 0) with
    | true =>
     (exfalso; have hz_ := ha; simp only [r20a, qq67, hn0, hn1, hn2, qq68, Bool.or_true, Bool.true_or, Bool.false_or, Bool.or_false, Bool.and_true, Bool.true_and, Bool.false_and, Bool.and_false] at hz_ <;> cases hz_)
    | false =>
     cases qq69 : (!p.f2.toList.isEmpty) with
     | true =>
      (exfalso; have hz_ := ha; simp only [r20a, qq67, hn0, hn1, hn2, qq68, hn3, qq69, Bool.or_true, Bool.true_or, Bool.false_or, Bool.or_false, Bool.and_true, Bool.true_and, Bool.false_and, Bool.and_false] at hz_ <;> cases hz_)
     | false =>
      cases qq70 : (p.f3 != 0) with
      | true =>
       (exfalso; have hz_ := ha; simp only [r20a, qq67, hn0, hn1, hn2, qq68, hn3, qq69, hn4, qq70, Bool.or_true, Bool.true_or, Bool.false_or, Bool.or_false, Bool.and_true, Bool.true_and, Bool.false_and, Bool.and_false] at hz_ <;> cases hz_)
      | false =>
       cases qq71 : (p.f4 != 0) with
       | true =>
        (exfalso; have hz_ := ha; simp only [r20a, qq67, hn0, hn1, hn2, qq68, hn3, qq69, hn4, qq70, qq71, Bool.or_true, Bool.true_or, Bool.false_or, Bool.or_false, Bool.and_true, Bool.true_and, Bool.false_and, Bool.and_false] at hz_ <;> cases hz_)
       | false =>
        go_wp2
        go_meet
        case rel => exact ⟨by simp only [r20a, qq67, hn0, hn1, hn2, qq68, hn3, qq69, hn4, qq70, qq71] <;> rfl, BW, BX⟩
  ·have hn0 : decide (p.f0 < 1) = false := by rw [hk]; rfl
   have hn1 : decide (8 < p.f0) = false := by rw [hk]; rfl
   have hn2 : (p.f0 != 1) = true := by rw [hk]; rfl
   have hn3 : (p.f0 != 2) = true := by rw [hk]; rfl
   have hn4 : (p.f0 != 6) = true := by rw [hk]; rfl
   clear hk
   cases qq72 : decide (deep < 1) with
   | true =>
    (exfalso; have hz_ := ha; simp only [r20a, qq72, Bool.or_true, Bool.true_or, Bool.false_or, Bool.or_false, Bool.and_true, Bool.true_and, Bool.false_and, Bool.and_false] at hz_ <;> cases hz_)
   | false =>
    cases qq73 : (p.f1 != 0) with
    | true =>
     (exfalso; have hz_ := ha; simp only [r20a, qq72, hn0, hn1, hn2, qq73, Bool.or_true, Bool.true_or, Bool.false_or, Bool.or_false, Bool.and_true, Bool.true_and, Bool.false_and, Bool.and_false] at hz_ <;> cases hz_)
    | false =>
     cases qq74 : (!p.f2.toList.isEmpty) with
     | true =>
      (exfalso; have hz_ := ha; simp only [r20a, qq72, hn0, hn1, hn2, qq73, hn3, qq74, Bool.or_true, Bool.true_or, Bool.false_or, Bool.or_false, Bool.and_true, Bool.true_and, Bool.false_and, Bool.and_false] at hz_ <;> cases hz_)
     | false =>
      cases qq75 : (p.f3 != 0) with
      | true =>
       (exfalso; have hz_ := ha; simp only [r20a, qq72, hn0, hn1, hn2, qq73, hn3, qq74, hn4, qq75, Bool.or_true, Bool.true_or, Bool.false_or, Bool.or_false, Bool.and_true, Bool.true_and, Bool.false_and, Bool.and_false] at hz_ <;> cases hz_)
      | false =>
       cases qq76 : (p.f4 != 0) with
       | true =>
        (exfalso; have hz_ := ha; simp only [r20a, qq72, hn0, hn1, hn2, qq73, hn3, qq74, hn4, qq75, qq76, Bool.or_true, Bool.true_or, Bool.false_or, Bool.or_false, Bool.and_true, Bool.true_and, Bool.false_and, Bool.and_false] at hz_ <;> cases hz_)
       | false =>
        go_wp2
        go_meet
        case rel => exact ⟨by simp only [r20a, qq72, hn0, hn1, hn2, qq73, hn3, qq74, hn4, qq75, qq76] <;> rfl, BW, BX⟩
 case rest =>
  clear BW BX
  obtain ⟨rfl, BW, BX⟩ := hcut
  rw [ha]
  have hcv5 : wc.cell? ⟨w.heap.size, 5, none⟩ = some (.slice A5 p.f5.length c5) := blk_cells BX.out 5 _ H5.out
  go_upto_region 5 with (fail)
  clear hcv5
  go_cut [94] (fun s94 wc => s94 = .bool (r20n p) ∧ Aside0 (Below w.heap.size w wc) ∧ Aside0 (wc.heap[w.heap.size]? = some (.cells cs.toArray 50 (0, 0))))
  case first =>
   have hk := HK8.out
   rcases hk with hk | hk | hk | hk | hk | hk | hk | hk
   ·have hn5 : decide (p.f0 ≤ 3) = true := by rw [hk]; rfl
    have hn6 : (p.f0 == 4) = false := by rw [hk]; rfl
    have hn7 : (p.f0 == 6) = false := by rw [hk]; rfl
    have hn8 : (p.f0 == 7) = false := by rw [hk]; rfl
    have hn9 : (p.f0 == 5) = false := by rw [hk]; rfl
    have hn10 : (p.f0 == 8) = false := by rw [hk]; rfl
    clear hk
    cases qq87 : ((p.f5.length : Int) != 0) with
    | true =>
     (exfalso; have hz_ := hb; simp only [r20n, hn5, qq87, Bool.or_true, Bool.true_or, Bool.false_or, Bool.or_false, Bool.and_true, Bool.true_and, Bool.false_and, Bool.and_false] at hz_ <;> cases hz_)
    | false =>
     go_wp2
     go_meet
     case rel => exact ⟨by simp only [r20n, hn5, qq87, hn6, hn7, hn8, hn9, hn10] <;> rfl, BW, BX⟩
   ·have hn5 : decide (p.f0 ≤ 3) = true := by rw [hk]; rfl
    have hn6 : (p.f0 == 4) = false := by rw [hk]; rfl
    have hn7 : (p.f0 == 6) = false := by rw [hk]; rfl
    have hn8 : (p.f0 == 7) = false := by rw [hk]; rfl
    have hn9 : (p.f0 == 5) = false := by rw [hk]; rfl
    have hn10 : (p.f0 == 8) = false := by rw [hk]; rfl
    clear hk
    cases qq88 : ((p.f5.length : Int) != 0) with
    | true =>
     (exfalso; have hz_ := hb; simp only [r20n, hn5, qq88, Bool.or_true, Bool.true_or, Bool.false_or, Bool.or_false, Bool.and_true, Bool.true_and, Bool.false_and, Bool.and_false] at hz_ <;> cases hz_)
    | false =>
     go_wp2
     go_meet
     case rel => exact ⟨by simp only [r20n, hn5, qq88, hn6, hn7, hn8, hn9, hn10] <;> rfl, BW, BX⟩
   ·have hn5 : decide (p.f0 ≤ 3) = true := by rw [hk]; rfl
    have hn6 : (p.f0 == 4) = false := by rw [hk]; rfl
    have hn7 : (p.f0 == 6) = false := by rw [hk]; rfl
    have hn8 : (p.f0 == 7) = false := by rw [hk]; rfl
    have hn9 : (p.f0 == 5) = false := by rw [hk]; rfl
    have hn10 : (p.f0 == 8) = false := by rw [hk]; rfl
    clear hk
    cases qq89 : ((p.f5.length : Int) != 0) with
    | true =>
     (exfalso; have hz_ := hb; simp only [r20n, hn5, qq89, Bool.or_true, Bool.true_or, Bool.false_or, Bool.or_false, Bool.and_true, Bool.true_and, Bool.false_and, Bool.and_false] at hz_ <;> cases hz_)
    | false =>
     go_wp2
     go_meet
     case rel => exact ⟨by simp only [r20n, hn5, qq89, hn6, hn7, hn8, hn9, hn10] <;> rfl, BW, BX⟩
   ·have hn5 : decide (p.f0 ≤ 3) = false := by rw [hk]; rfl
    have hn6 : (p.f0 == 4) = true := by rw [hk]; rfl
    have hn7 : (p.f0 == 6) = false := by rw [hk]; rfl
    have hn8 : (p.f0 == 7) = false := by rw [hk]; rfl
    have hn9 : (p.f0 == 5) = false := by rw [hk]; rfl
    have hn10 : (p.f0 == 8) = false := by rw [hk]; rfl
    clear hk
    cases qq90 : ((p.f5.length : Int) != 1) with
    | true =>
     (exfalso; have hz_ := hb; simp only [r20n, hn5, hn6, qq90, Bool.or_true, Bool.true_or, Bool.false_or, Bool.or_false, Bool.and_true, Bool.true_and, Bool.false_and, Bool.and_false] at hz_ <;> cases hz_)
    | false =>
     go_wp2
     go_meet
     case rel => exact ⟨by simp only [r20n, hn5, hn6, qq90, hn9, hn10] <;> rfl, BW, BX⟩
   ·have hn5 : decide (p.f0 ≤ 3) = false := by rw [hk]; rfl
    have hn6 : (p.f0 == 4) = false := by rw [hk]; rfl
    have hn7 : (p.f0 == 6) = false := by rw [hk]; rfl
    have hn8 : (p.f0 == 7) = false := by rw [hk]; rfl
    have hn9 : (p.f0 == 5) = true := by rw [hk]; rfl
    have hn10 : (p.f0 == 8) = false := by rw [hk]; rfl
    clear hk
    cases qq91 : decide (p.f5.length < 1) with
    | true =>
     have qq91i : decide ((p.f5.length : Int) < (1 : Int)) = true := by rw [← qq91]; exact decide_eq_decide.2 (by omega)
     (exfalso; have hz_ := hb; simp only [r20n, hn5, hn6, hn7, hn8, hn9, qq91, Bool.or_true, Bool.true_or, Bool.false_or, Bool.or_false, Bool.and_true, Bool.true_and, Bool.false_and, Bool.and_false] at hz_ <;> cases hz_)
    | false =>
     have qq91i : decide ((p.f5.length : Int) < (1 : Int)) = false := by rw [← qq91]; exact decide_eq_decide.2 (by omega)
     cases qq92 : decide (8 < p.f5.length) with
     | true =>
      have qq92i : decide ((8 : Int) < (p.f5.length : Int)) = true := by rw [← qq92]; exact decide_eq_decide.2 (by omega)
      (exfalso; have hz_ := hb; simp only [r20n, hn5, hn6, hn7, hn8, hn9, qq91, qq92, Bool.or_true, Bool.true_or, Bool.false_or, Bool.or_false, Bool.and_true, Bool.true_and, Bool.false_and, Bool.and_false] at hz_ <;> cases hz_)
     | false =>
      have qq92i : decide ((8 : Int) < (p.f5.length : Int)) = false := by rw [← qq92]; exact decide_eq_decide.2 (by omega)
      go_wp2
      go_meet
      case rel => exact ⟨by simp only [r20n, hn5, hn6, hn7, hn8, hn9, qq91, qq92] <;> rfl, BW, BX⟩
   ·have hn5 : decide (p.f0 ≤ 3) = false := by rw [hk]; rfl
    have hn6 : (p.f0 == 4) = false := by rw [hk]; rfl
    have hn7 : (p.f0 == 6) = true := by rw [hk]; rfl
    have hn8 : (p.f0 == 7) = false := by rw [hk]; rfl
    have hn9 : (p.f0 == 5) = false := by rw [hk]; rfl
    have hn10 : (p.f0 == 8) = false := by rw [hk]; rfl
    clear hk
    cases qq93 : ((p.f5.length : Int) != 1) with
    | true =>
     (exfalso; have hz_ := hb; simp only [r20n, hn5, hn6, hn7, qq93, Bool.or_true, Bool.true_or, Bool.false_or, Bool.or_false, Bool.and_true, Bool.true_and, Bool.false_and, Bool.and_false] at hz_ <;> cases hz_)
    | false =>
     go_wp2
     go_meet
     case rel => exact ⟨by simp only [r20n, hn5, hn6, hn7, qq93, hn9, hn10] <;> rfl, BW, BX⟩
   ·have hn5 : decide (p.f0 ≤ 3) = false := by rw [hk]; rfl
    have hn6 : (p.f0 == 4) = false := by rw [hk]; rfl
    have hn7 : (p.f0 == 6) = false := by rw [hk]; rfl
    have hn8 : (p.f0 == 7) = true := by rw [hk]; rfl
    have hn9 : (p.f0 == 5) = false := by rw [hk]; rfl
    have hn10 : (p.f0 == 8) = false := by rw [hk]; rfl
    clear hk
    cases qq94 : ((p.f5.length : Int) != 1) with
    | true =>
     (exfalso; have hz_ := hb; simp only [r20n, hn5, hn6, hn7, hn8, qq94, Bool.or_true, Bool.true_or, Bool.false_or, Bool.or_false, Bool.and_true, Bool.true_and, Bool.false_and, Bool.and_false] at hz_ <;> cases hz_)
    | false =>
     go_wp2
     go_meet
     case rel => exact ⟨by simp only [r20n, hn5, hn6, hn7, hn8, qq94, hn9, hn10] <;> rfl, BW, BX⟩
   ·have hn5 : decide (p.f0 ≤ 3) = false := by rw [hk]; rfl
    have hn6 : (p.f0 == 4) = false := by rw [hk]; rfl
    have hn7 : (p.f0 == 6) = false := by rw [hk]; rfl
    have hn8 : (p.f0 == 7) = false := by rw [hk]; rfl
    have hn9 : (p.f0 == 5) = false := by rw [hk]; rfl
    have hn10 : (p.f0 == 8) = true := by rw [hk]; rfl
    clear hk
    cases qq95 : decide (p.f5.length < 1) with
    | true =>
     have qq95i : decide ((p.f5.length : Int) < (1 : Int)) = true := by rw [← qq95]; exact decide_eq_decide.2 (by omega)
     (exfalso; have hz_ := hb; simp only [r20n, hn5, hn6, hn7, hn8, hn9, hn10, qq95, Bool.or_true, Bool.true_or, Bool.false_or, Bool.or_false, Bool.and_true, Bool.true_and, Bool.false_and, Bool.and_false] at hz_ <;> cases hz_)
    | false =>
     have qq95i : decide ((p.f5.length : Int) < (1 : Int)) = false := by rw [← qq95]; exact decide_eq_decide.2 (by omega)
     cases qq96 : decide (8 < p.f5.length) with
     | true =>
      have qq96i : decide ((8 : Int) < (p.f5.length : Int)) = true := by rw [← qq96]; exact decide_eq_decide.2 (by omega)
      (exfalso; have hz_ := hb; simp only [r20n, hn5, hn6, hn7, hn8, hn9, hn10, qq95, qq96, Bool.or_true, Bool.true_or, Bool.false_or, Bool.or_false, Bool.and_true, Bool.true_and, Bool.false_and, Bool.and_false] at hz_ <;> cases hz_)
     | false =>
      have qq96i : decide ((8 : Int) < (p.f5.length : Int)) = false := by rw [← qq96]; exact decide_eq_decide.2 (by omega)
      go_wp2
      go_meet
      case rel => exact ⟨by simp only [r20n, hn5, hn6, hn7, hn8, hn9, hn10, qq95, qq96] <;> rfl, BW, BX⟩
  case rest =>
   clear BW BX
   obtain ⟨rfl, BW, BX⟩ := hcut
   rw [hb]
   go_upto_region 7 with (fail)
   go_cut [123] (fun s123 wc => s123 = .bool (r20l p cols) ∧ Aside0 (Below w.heap.size w wc) ∧ Aside0 (wc.heap[w.heap.size]? = some (.cells cs.toArray 50 (0, 0))))
   case first =>
    have hcv0 : wc.cell? ⟨w.heap.size, 0, none⟩ = some (.int .i64 p.f0) := blk_cells BX.out 0 _ H0.out; have hcv1 : wc.cell? ⟨w.heap.size, 1, none⟩ = some (.int .i64 p.f1) := blk_cells BX.out 1 _ H1.out; have hcv2 : wc.cell? ⟨w.heap.size, 2, none⟩ = some (.string p.f2) := blk_cells BX.out 2 _ H2.out; have hcv3 : wc.cell? ⟨w.heap.size, 3, none⟩ = some (.int .i64 p.f3) := blk_cells BX.out 3 _ H3.out; have hcv4 : wc.cell? ⟨w.heap.size, 4, none⟩ = some (.int .i64 p.f4) := blk_cells BX.out 4 _ H4.out; have hcv5 : wc.cell? ⟨w.heap.size, 5, none⟩ = some (.slice A5 p.f5.length c5) := blk_cells BX.out 5 _ H5.out
    cases qq97 : decide (p.f1 < 0) with
    | true =>
     go_wp2
     go_meet
     case rel => exact ⟨by simp only [r20l, qq97] <;> rfl, BW, BX⟩
    | false =>
     cases qq98 : (p.f0 == 1) with
     | true =>
      cases qq99 : decide (cols ≤ p.f1) with
      | true =>
       go_wp2
       go_meet
       case rel => exact ⟨by simp only [r20l, qq97, qq98, qq99] <;> rfl, BW, BX⟩
      | false =>
       cases qq100 : decide (4096 < p.f2.size) with
       | true =>
        have qq100i : decide ((4096 : Int) < (p.f2.size : Int)) = true := by rw [← qq100]; exact decide_eq_decide.2 (by omega)
        go_wp2
        go_meet
        case rel => exact ⟨by simp only [r20l, qq97, qq98, qq99, qq100] <;> rfl, BW, BX⟩
       | false =>
        have qq100i : decide ((4096 : Int) < (p.f2.size : Int)) = false := by rw [← qq100]; exact decide_eq_decide.2 (by omega)
        cases qq101 : decide (p.f3 < 0) with
        | true =>
         go_wp2
         go_meet
         case rel => exact ⟨by simp only [r20l, qq97, qq98, qq99, qq100, qq101] <;> rfl, BW, BX⟩
        | false =>
         cases qq102 : decide (p.f4 < 0) with
         | true =>
          go_wp2
          go_meet
          case rel => exact ⟨by simp only [r20l, qq97, qq98, qq99, qq100, qq101, qq102] <;> rfl, BW, BX⟩
         | false =>
          (exfalso; have hz_ := hc; simp only [r20l, qq97, qq98, qq99, qq100, qq101, qq102, Bool.or_true, Bool.true_or, Bool.false_or, Bool.or_false, Bool.and_true, Bool.true_and, Bool.false_and, Bool.and_false] at hz_ <;> cases hz_)
     | false =>
      cases qq103 : decide (4096 < p.f2.size) with
      | true =>
       have qq103i : decide ((4096 : Int) < (p.f2.size : Int)) = true := by rw [← qq103]; exact decide_eq_decide.2 (by omega)
       go_wp2
       go_meet
       case rel => exact ⟨by simp only [r20l, qq97, qq98, qq103] <;> rfl, BW, BX⟩
      | false =>
       have qq103i : decide ((4096 : Int) < (p.f2.size : Int)) = false := by rw [← qq103]; exact decide_eq_decide.2 (by omega)
       cases qq104 : decide (p.f3 < 0) with
       | true =>
        go_wp2
        go_meet
        case rel => exact ⟨by simp only [r20l, qq97, qq98, qq103, qq104] <;> rfl, BW, BX⟩
       | false =>
        cases qq105 : decide (p.f4 < 0) with
        | true =>
         go_wp2
         go_meet
         case rel => exact ⟨by simp only [r20l, qq97, qq98, qq103, qq104, qq105] <;> rfl, BW, BX⟩
        | false =>
         (exfalso; have hz_ := hc; simp only [r20l, qq97, qq98, qq103, qq104, qq105, Bool.or_true, Bool.true_or, Bool.false_or, Bool.or_false, Bool.and_true, Bool.true_and, Bool.false_and, Bool.and_false] at hz_ <;> cases hz_)
   case rest =>
    obtain ⟨rfl, BW2, BX2⟩ := hcut
    rw [hc]
    go_wp2
    go_ret
    exact ⟨rfl, BW2.out⟩
set_option maxHeartbeats 8000000 in
set_option maxRecDepth 1000000 in
theorem hopperref20_Right.four (p : S50) (cs : List Value) (cols deep : Int) (k : Nat) (r : Bool) (w : World) (hK : k50.K w p cs) (ha : r20a p deep = false) (hb : r20n p = false) (hc : r20l p cols = false) (IH : Aside0 (∀ (p : S50) (cs : List Value) (cols deep : Int) (r : Bool) (w : World), k50.K w p cs → refRightS k p cols deep = some r → Calls Try.prog 25 #[.agg cs.toArray, .int .i64 cols, .int .i64 deep] w fun e w' => e = .returned (.bool r) ∧ Below w.heap.size w w')) (HAL : Aside0 (allE (fun q => refRightS k q cols (wrap64 (deep - 1))) p.f5 = some r)) :
  Calls Try.prog 25 #[.agg cs.toArray, .int .i64 cols, .int .i64 deep] w fun e w' => e = .returned (.bool r) ∧ Below w.heap.size w w' := by
 have HSZ := Aside0.mk (show ∀ W, (sizeOf 50).run Try.prog W = .ok 6 W from fun W => by first | exact Try.sizeOf50 | exact Try.sizeOf50 W | go_simp)
 have HAGG := Aside0.mk (show ∀ W, (isAgg 50).run Try.prog W = .ok true W from fun W => by first | exact Try.isAgg50 | exact Try.isAgg50 W | go_simp)
 have hup := Try.underlying50
 have HL6 := Aside0.mk (show cs.length = 6 from k50.K_len hK)
 obtain ⟨A5, c5, ecs, hl5, hk5⟩ := k50_open hK
 have HN5 := Aside0.mk hk5.2.1
 have H0 := Aside0.mk (show cs[0]? = some (.int .i64 p.f0) from by rw [ecs]; rfl)
 have H1 := Aside0.mk (show cs[1]? = some (.int .i64 p.f1) from by rw [ecs]; rfl)
 have H2 := Aside0.mk (show cs[2]? = some (.string p.f2) from by rw [ecs]; rfl)
 have H3 := Aside0.mk (show cs[3]? = some (.int .i64 p.f3) from by rw [ecs]; rfl)
 have H4 := Aside0.mk (show cs[4]? = some (.int .i64 p.f4) from by rw [ecs]; rfl)
 have H5 := Aside0.mk (show cs[5]? = some (.slice A5 p.f5.length c5) from by rw [ecs]; rfl)
 have HK5 := Aside0.mk hk5
 clear hK hk5 hl5 ecs
 have hk : p.f0 = 1 ∨ p.f0 = 2 ∨ p.f0 = 3 ∨ p.f0 = 4 ∨ p.f0 = 5 ∨ p.f0 = 6 ∨ p.f0 = 7 ∨ p.f0 = 8 := by
  have h_ := ha
  unfold r20a at h_
  simp only [Bool.or_eq_false_iff, decide_eq_false_iff_not] at h_
  omega
 have HK8 := Aside0.mk hk
 clear hk
 go_enter Try.func25, Try.ntmps25
 go_upto_region 2 with (first
  | ((with_reducible refine gate_dst (N := 3) rfl ?_); refine box_all rfl rfl (cs := cs.toArray) rfl (fun W => by rw [List.size_toArray, HL6.out]; exact HSZ.out W) ?_; intro w1 hbx hbw; have BW := Aside0.mk hbw; have BX := Aside0.mk hbx; have hcv0 : w1.cell? ⟨w.heap.size, 0, none⟩ = some (.int .i64 p.f0) := blk_cells BX.out 0 _ H0.out; clear hbx hbw))
 clear hcv0
 go_cut [53] (fun s53 wc => s53 = .bool (r20a p deep) ∧ Aside0 (Below w.heap.size w wc) ∧ Aside0 (wc.heap[w.heap.size]? = some (.cells cs.toArray 50 (0, 0))))
 case first =>
  have hcv0 : w1.cell? ⟨w.heap.size, 0, none⟩ = some (.int .i64 p.f0) := blk_cells BX.out 0 _ H0.out; have hcv1 : w1.cell? ⟨w.heap.size, 1, none⟩ = some (.int .i64 p.f1) := blk_cells BX.out 1 _ H1.out; have hcv2 : w1.cell? ⟨w.heap.size, 2, none⟩ = some (.string p.f2) := blk_cells BX.out 2 _ H2.out; have hcv3 : w1.cell? ⟨w.heap.size, 3, none⟩ = some (.int .i64 p.f3) := blk_cells BX.out 3 _ H3.out; have hcv4 : w1.cell? ⟨w.heap.size, 4, none⟩ = some (.int .i64 p.f4) := blk_cells BX.out 4 _ H4.out; have hcv5 : w1.cell? ⟨w.heap.size, 5, none⟩ = some (.slice A5 p.f5.length c5) := blk_cells BX.out 5 _ H5.out
  have hk := HK8.out
  rcases hk with hk | hk | hk | hk | hk | hk | hk | hk
  ·have hn0 : decide (p.f0 < 1) = false := by rw [hk]; rfl
   have hn1 : decide (8 < p.f0) = false := by rw [hk]; rfl
   have hn2 : (p.f0 != 1) = false := by rw [hk]; rfl
   have hn3 : (p.f0 != 2) = true := by rw [hk]; rfl
   have hn4 : (p.f0 != 6) = true := by rw [hk]; rfl
   clear hk
   cases qq41 : decide (deep < 1) with
   | true =>
    (exfalso; have hz_ := ha; simp only [r20a, qq41, Bool.or_true, Bool.true_or, Bool.false_or, Bool.or_false, Bool.and_true, Bool.true_and, Bool.false_and, Bool.and_false] at hz_ <;> cases hz_)
   | false =>
    cases qq42 : (!p.f2.toList.isEmpty) with
    | true =>
     (exfalso; have hz_ := ha; simp only [r20a, qq41, hn0, hn1, hn2, hn3, qq42, Bool.or_true, Bool.true_or, Bool.false_or, Bool.or_false, Bool.and_true, Bool.true_and, Bool.false_and, Bool.and_false] at hz_ <;> cases hz_)
    | false =>
     cases qq43 : (p.f3 != 0) with
     | true =>
      (exfalso; have hz_ := ha; simp only [r20a, qq41, hn0, hn1, hn2, hn3, qq42, hn4, qq43, Bool.or_true, Bool.true_or, Bool.false_or, Bool.or_false, Bool.and_true, Bool.true_and, Bool.false_and, Bool.and_false] at hz_ <;> cases hz_)
     | false =>
      cases qq44 : (p.f4 != 0) with
      | true =>
       (exfalso; have hz_ := ha; simp only [r20a, qq41, hn0, hn1, hn2, hn3, qq42, hn4, qq43, qq44, Bool.or_true, Bool.true_or, Bool.false_or, Bool.or_false, Bool.and_true, Bool.true_and, Bool.false_and, Bool.and_false] at hz_ <;> cases hz_)
      | false =>
       go_wp2
       go_meet
       case rel => exact ⟨by simp only [r20a, qq41, hn0, hn1, hn2, hn3, qq42, hn4, qq43, qq44] <;> rfl, BW, BX⟩
  ·have hn0 : decide (p.f0 < 1) = false := by rw [hk]; rfl
   have hn1 : decide (8 < p.f0) = false := by rw [hk]; rfl
   have hn2 : (p.f0 != 1) = true := by rw [hk]; rfl
   have hn3 : (p.f0 != 2) = false := by rw [hk]; rfl
   have hn4 : (p.f0 != 6) = true := by rw [hk]; rfl
   clear hk
   cases qq45 : decide (deep < 1) with
   | true =>
    (exfalso; have hz_ := ha; simp only [r20a, qq45, Bool.or_true, Bool.true_or, Bool.false_or, Bool.or_false, Bool.and_true, Bool.true_and, Bool.false_and, Bool.and_false] at hz_ <;> cases hz_)
   | false =>
    cases qq46 : (p.f1 != 0) with
    | true =>
     (exfalso; have hz_ := ha; simp only [r20a, qq45, hn0, hn1, hn2, qq46, Bool.or_true, Bool.true_or, Bool.false_or, Bool.or_false, Bool.and_true, Bool.true_and, Bool.false_and, Bool.and_false] at hz_ <;> cases hz_)
    | false =>
     cases qq47 : (p.f3 != 0) with
     | true =>
      (exfalso; have hz_ := ha; simp only [r20a, qq45, hn0, hn1, hn2, qq46, hn3, hn4, qq47, Bool.or_true, Bool.true_or, Bool.false_or, Bool.or_false, Bool.and_true, Bool.true_and, Bool.false_and, Bool.and_false] at hz_ <;> cases hz_)
     | false =>
      cases qq48 : (p.f4 != 0) with
      | true =>
       (exfalso; have hz_ := ha; simp only [r20a, qq45, hn0, hn1, hn2, qq46, hn3, hn4, qq47, qq48, Bool.or_true, Bool.true_or, Bool.false_or, Bool.or_false, Bool.and_true, Bool.true_and, Bool.false_and, Bool.and_false] at hz_ <;> cases hz_)
      | false =>
       go_wp2
       go_meet
       case rel => exact ⟨by simp only [r20a, qq45, hn0, hn1, hn2, qq46, hn3, hn4, qq47, qq48] <;> rfl, BW, BX⟩
  ·have hn0 : decide (p.f0 < 1) = false := by rw [hk]; rfl
   have hn1 : decide (8 < p.f0) = false := by rw [hk]; rfl
   have hn2 : (p.f0 != 1) = true := by rw [hk]; rfl
   have hn3 : (p.f0 != 2) = true := by rw [hk]; rfl
   have hn4 : (p.f0 != 6) = true := by rw [hk]; rfl
   clear hk
   cases qq49 : decide (deep < 1) with
   | true =>
    (exfalso; have hz_ := ha; simp only [r20a, qq49, Bool.or_true, Bool.true_or, Bool.false_or, Bool.or_false, Bool.and_true, Bool.true_and, Bool.false_and, Bool.and_false] at hz_ <;> cases hz_)
   | false =>
    cases qq50 : (p.f1 != 0) with
    | true =>
     (exfalso; have hz_ := ha; simp only [r20a, qq49, hn0, hn1, hn2, qq50, Bool.or_true, Bool.true_or, Bool.false_or, Bool.or_false, Bool.and_true, Bool.true_and, Bool.false_and, Bool.and_false] at hz_ <;> cases hz_)
    | false =>
     cases qq51 : (!p.f2.toList.isEmpty) with
     | true =>
      (exfalso; have hz_ := ha; simp only [r20a, qq49, hn0, hn1, hn2, qq50, hn3, qq51, Bool.or_true, Bool.true_or, Bool.false_or, Bool.or_false, Bool.and_true, Bool.true_and, Bool.false_and, Bool.and_false] at hz_ <;> cases hz_)
     | false =>
      cases qq52 : (p.f3 != 0) with
      | true =>
       (exfalso; have hz_ := ha; simp only [r20a, qq49, hn0, hn1, hn2, qq50, hn3, qq51, hn4, qq52, Bool.or_true, Bool.true_or, Bool.false_or, Bool.or_false, Bool.and_true, Bool.true_and, Bool.false_and, Bool.and_false] at hz_ <;> cases hz_)
      | false =>
       cases qq53 : (p.f4 != 0) with
       | true =>
        (exfalso; have hz_ := ha; simp only [r20a, qq49, hn0, hn1, hn2, qq50, hn3, qq51, hn4, qq52, qq53, Bool.or_true, Bool.true_or, Bool.false_or, Bool.or_false, Bool.and_true, Bool.true_and, Bool.false_and, Bool.and_false] at hz_ <;> cases hz_)
       | false =>
        go_wp2
        go_meet
        case rel => exact ⟨by simp only [r20a, qq49, hn0, hn1, hn2, qq50, hn3, qq51, hn4, qq52, qq53] <;> rfl, BW, BX⟩
  ·have hn0 : decide (p.f0 < 1) = false := by rw [hk]; rfl
   have hn1 : decide (8 < p.f0) = false := by rw [hk]; rfl
   have hn2 : (p.f0 != 1) = true := by rw [hk]; rfl
   have hn3 : (p.f0 != 2) = true := by rw [hk]; rfl
   have hn4 : (p.f0 != 6) = true := by rw [hk]; rfl
   clear hk
   cases qq54 : decide (deep < 1) with
   | true =>
    (exfalso; have hz_ := ha; simp only [r20a, qq54, Bool.or_true, Bool.true_or, Bool.false_or, Bool.or_false, Bool.and_true, Bool.true_and, Bool.false_and, Bool.and_false] at hz_ <;> cases hz_)
   | false =>
    cases qq55 : (p.f1 != 0) with
    | true =>
     (exfalso; have hz_ := ha; simp only [r20a, qq54, hn0, hn1, hn2, qq55, Bool.or_true, Bool.true_or, Bool.false_or, Bool.or_false, Bool.and_true, Bool.true_and, Bool.false_and, Bool.and_false] at hz_ <;> cases hz_)
    | false =>
     cases qq56 : (!p.f2.toList.isEmpty) with
     | true =>
      (exfalso; have hz_ := ha; simp only [r20a, qq54, hn0, hn1, hn2, qq55, hn3, qq56, Bool.or_true, Bool.true_or, Bool.false_or, Bool.or_false, Bool.and_true, Bool.true_and, Bool.false_and, Bool.and_false] at hz_ <;> cases hz_)
     | false =>
      cases qq57 : (p.f3 != 0) with
      | true =>
       (exfalso; have hz_ := ha; simp only [r20a, qq54, hn0, hn1, hn2, qq55, hn3, qq56, hn4, qq57, Bool.or_true, Bool.true_or, Bool.false_or, Bool.or_false, Bool.and_true, Bool.true_and, Bool.false_and, Bool.and_false] at hz_ <;> cases hz_)
      | false =>
       cases qq58 : (p.f4 != 0) with
       | true =>
        (exfalso; have hz_ := ha; simp only [r20a, qq54, hn0, hn1, hn2, qq55, hn3, qq56, hn4, qq57, qq58, Bool.or_true, Bool.true_or, Bool.false_or, Bool.or_false, Bool.and_true, Bool.true_and, Bool.false_and, Bool.and_false] at hz_ <;> cases hz_)
       | false =>
        go_wp2
        go_meet
        case rel => exact ⟨by simp only [r20a, qq54, hn0, hn1, hn2, qq55, hn3, qq56, hn4, qq57, qq58] <;> rfl, BW, BX⟩
  ·have hn0 : decide (p.f0 < 1) = false := by rw [hk]; rfl
   have hn1 : decide (8 < p.f0) = false := by rw [hk]; rfl
   have hn2 : (p.f0 != 1) = true := by rw [hk]; rfl
   have hn3 : (p.f0 != 2) = true := by rw [hk]; rfl
   have hn4 : (p.f0 != 6) = true := by rw [hk]; rfl
   clear hk
   cases qq59 : decide (deep < 1) with
   | true =>
    (exfalso; have hz_ := ha; simp only [r20a, qq59, Bool.or_true, Bool.true_or, Bool.false_or, Bool.or_false, Bool.and_true, Bool.true_and, Bool.false_and, Bool.and_false] at hz_ <;> cases hz_)
   | false =>
    cases qq60 : (p.f1 != 0) with
    | true =>
     (exfalso; have hz_ := ha; simp only [r20a, qq59, hn0, hn1, hn2, qq60, Bool.or_true, Bool.true_or, Bool.false_or, Bool.or_false, Bool.and_true, Bool.true_and, Bool.false_and, Bool.and_false] at hz_ <;> cases hz_)
    | false =>
     cases qq61 : (!p.f2.toList.isEmpty) with
     | true =>
      (exfalso; have hz_ := ha; simp only [r20a, qq59, hn0, hn1, hn2, qq60, hn3, qq61, Bool.or_true, Bool.true_or, Bool.false_or, Bool.or_false, Bool.and_true, Bool.true_and, Bool.false_and, Bool.and_false] at hz_ <;> cases hz_)
     | false =>
      cases qq62 : (p.f3 != 0) with
      | true =>
       (exfalso; have hz_ := ha; simp only [r20a, qq59, hn0, hn1, hn2, qq60, hn3, qq61, hn4, qq62, Bool.or_true, Bool.true_or, Bool.false_or, Bool.or_false, Bool.and_true, Bool.true_and, Bool.false_and, Bool.and_false] at hz_ <;> cases hz_)
      | false =>
       cases qq63 : (p.f4 != 0) with
       | true =>
        (exfalso; have hz_ := ha; simp only [r20a, qq59, hn0, hn1, hn2, qq60, hn3, qq61, hn4, qq62, qq63, Bool.or_true, Bool.true_or, Bool.false_or, Bool.or_false, Bool.and_true, Bool.true_and, Bool.false_and, Bool.and_false] at hz_ <;> cases hz_)
       | false =>
        go_wp2
        go_meet
        case rel => exact ⟨by simp only [r20a, qq59, hn0, hn1, hn2, qq60, hn3, qq61, hn4, qq62, qq63] <;> rfl, BW, BX⟩
  ·have hn0 : decide (p.f0 < 1) = false := by rw [hk]; rfl
   have hn1 : decide (8 < p.f0) = false := by rw [hk]; rfl
   have hn2 : (p.f0 != 1) = true := by rw [hk]; rfl
   have hn3 : (p.f0 != 2) = true := by rw [hk]; rfl
   have hn4 : (p.f0 != 6) = false := by rw [hk]; rfl
   clear hk
   cases qq64 : decide (deep < 1) with
   | true =>
    (exfalso; have hz_ := ha; simp only [r20a, qq64, Bool.or_true, Bool.true_or, Bool.false_or, Bool.or_false, Bool.and_true, Bool.true_and, Bool.false_and, Bool.and_false] at hz_ <;> cases hz_)
   | false =>
    cases qq65 : (p.f1 != 0) with
    | true =>
     (exfalso; have hz_ := ha; simp only [r20a, qq64, hn0, hn1, hn2, qq65, Bool.or_true, Bool.true_or, Bool.false_or, Bool.or_false, Bool.and_true, Bool.true_and, Bool.false_and, Bool.and_false] at hz_ <;> cases hz_)
    | false =>
     cases qq66 : (!p.f2.toList.isEmpty) with
     | true =>
      (exfalso; have hz_ := ha; simp only [r20a, qq64, hn0, hn1, hn2, qq65, hn3, qq66, Bool.or_true, Bool.true_or, Bool.false_or, Bool.or_false, Bool.and_true, Bool.true_and, Bool.false_and, Bool.and_false] at hz_ <;> cases hz_)
     | false =>
      go_wp2
      go_meet
      case rel => exact ⟨by simp only [r20a, qq64, hn0, hn1, hn2, qq65, hn3, qq66, hn4] <;> rfl, BW, BX⟩
  ·have hn0 : decide (p.f0 < 1) = false := by rw [hk]; rfl
   have hn1 : decide (8 < p.f0) = false := by rw [hk]; rfl
   have hn2 : (p.f0 != 1) = true := by rw [hk]; rfl
   have hn3 : (p.f0 != 2) = true := by rw [hk]; rfl
   have hn4 : (p.f0 != 6) = true := by rw [hk]; rfl
   clear hk
   cases qq67 : decide (deep < 1) with
   | true =>
    (exfalso; have hz_ := ha; simp only [r20a, qq67, Bool.or_true, Bool.true_or, Bool.false_or, Bool.or_false, Bool.and_true, Bool.true_and, Bool.false_and, Bool.and_false] at hz_ <;> cases hz_)
   | false =>
    cases qq68 : (p.f1 != 0) with
    | true =>
     (exfalso; have hz_ := ha; simp only [r20a, qq67, hn0, hn1, hn2, qq68, Bool.or_true, Bool.true_or, Bool.false_or, Bool.or_false, Bool.and_true, Bool.true_and, Bool.false_and, Bool.and_false] at hz_ <;> cases hz_)
    | false =>
     cases qq69 : (!p.f2.toList.isEmpty) with
     | true =>
      (exfalso; have hz_ := ha; simp only [r20a, qq67, hn0, hn1, hn2, qq68, hn3, qq69, Bool.or_true, Bool.true_or, Bool.false_or, Bool.or_false, Bool.and_true, Bool.true_and, Bool.false_and, Bool.and_false] at hz_ <;> cases hz_)
     | false =>
      cases qq70 : (p.f3 != 0) with
      | true =>
       (exfalso; have hz_ := ha; simp only [r20a, qq67, hn0, hn1, hn2, qq68, hn3, qq69, hn4, qq70, Bool.or_true, Bool.true_or, Bool.false_or, Bool.or_false, Bool.and_true, Bool.true_and, Bool.false_and, Bool.and_false] at hz_ <;> cases hz_)
      | false =>
       cases qq71 : (p.f4 != 0) with
       | true =>
        (exfalso; have hz_ := ha; simp only [r20a, qq67, hn0, hn1, hn2, qq68, hn3, qq69, hn4, qq70, qq71, Bool.or_true, Bool.true_or, Bool.false_or, Bool.or_false, Bool.and_true, Bool.true_and, Bool.false_and, Bool.and_false] at hz_ <;> cases hz_)
       | false =>
        go_wp2
        go_meet
        case rel => exact ⟨by simp only [r20a, qq67, hn0, hn1, hn2, qq68, hn3, qq69, hn4, qq70, qq71] <;> rfl, BW, BX⟩
  ·have hn0 : decide (p.f0 < 1) = false := by rw [hk]; rfl
   have hn1 : decide (8 < p.f0) = false := by rw [hk]; rfl
   have hn2 : (p.f0 != 1) = true := by rw [hk]; rfl
   have hn3 : (p.f0 != 2) = true := by rw [hk]; rfl
   have hn4 : (p.f0 != 6) = true := by rw [hk]; rfl
   clear hk
   cases qq72 : decide (deep < 1) with
   | true =>
    (exfalso; have hz_ := ha; simp only [r20a, qq72, Bool.or_true, Bool.true_or, Bool.false_or, Bool.or_false, Bool.and_true, Bool.true_and, Bool.false_and, Bool.and_false] at hz_ <;> cases hz_)
   | false =>
    cases qq73 : (p.f1 != 0) with
    | true =>
     (exfalso; have hz_ := ha; simp only [r20a, qq72, hn0, hn1, hn2, qq73, Bool.or_true, Bool.true_or, Bool.false_or, Bool.or_false, Bool.and_true, Bool.true_and, Bool.false_and, Bool.and_false] at hz_ <;> cases hz_)
    | false =>
     cases qq74 : (!p.f2.toList.isEmpty) with
     | true =>
      (exfalso; have hz_ := ha; simp only [r20a, qq72, hn0, hn1, hn2, qq73, hn3, qq74, Bool.or_true, Bool.true_or, Bool.false_or, Bool.or_false, Bool.and_true, Bool.true_and, Bool.false_and, Bool.and_false] at hz_ <;> cases hz_)
     | false =>
      cases qq75 : (p.f3 != 0) with
      | true =>
       (exfalso; have hz_ := ha; simp only [r20a, qq72, hn0, hn1, hn2, qq73, hn3, qq74, hn4, qq75, Bool.or_true, Bool.true_or, Bool.false_or, Bool.or_false, Bool.and_true, Bool.true_and, Bool.false_and, Bool.and_false] at hz_ <;> cases hz_)
      | false =>
       cases qq76 : (p.f4 != 0) with
       | true =>
        (exfalso; have hz_ := ha; simp only [r20a, qq72, hn0, hn1, hn2, qq73, hn3, qq74, hn4, qq75, qq76, Bool.or_true, Bool.true_or, Bool.false_or, Bool.or_false, Bool.and_true, Bool.true_and, Bool.false_and, Bool.and_false] at hz_ <;> cases hz_)
       | false =>
        go_wp2
        go_meet
        case rel => exact ⟨by simp only [r20a, qq72, hn0, hn1, hn2, qq73, hn3, qq74, hn4, qq75, qq76] <;> rfl, BW, BX⟩
 case rest =>
  clear BW BX
  obtain ⟨rfl, BW, BX⟩ := hcut
  rw [ha]
  have hcv5 : wc.cell? ⟨w.heap.size, 5, none⟩ = some (.slice A5 p.f5.length c5) := blk_cells BX.out 5 _ H5.out
  go_upto_region 5 with (fail)
  clear hcv5
  go_cut [94] (fun s94 wc => s94 = .bool (r20n p) ∧ Aside0 (Below w.heap.size w wc) ∧ Aside0 (wc.heap[w.heap.size]? = some (.cells cs.toArray 50 (0, 0))))
  case first =>
   have hk := HK8.out
   rcases hk with hk | hk | hk | hk | hk | hk | hk | hk
   ·have hn5 : decide (p.f0 ≤ 3) = true := by rw [hk]; rfl
    have hn6 : (p.f0 == 4) = false := by rw [hk]; rfl
    have hn7 : (p.f0 == 6) = false := by rw [hk]; rfl
    have hn8 : (p.f0 == 7) = false := by rw [hk]; rfl
    have hn9 : (p.f0 == 5) = false := by rw [hk]; rfl
    have hn10 : (p.f0 == 8) = false := by rw [hk]; rfl
    clear hk
    cases qq87 : ((p.f5.length : Int) != 0) with
    | true =>
     (exfalso; have hz_ := hb; simp only [r20n, hn5, qq87, Bool.or_true, Bool.true_or, Bool.false_or, Bool.or_false, Bool.and_true, Bool.true_and, Bool.false_and, Bool.and_false] at hz_ <;> cases hz_)
    | false =>
     go_wp2
     go_meet
     case rel => exact ⟨by simp only [r20n, hn5, qq87, hn6, hn7, hn8, hn9, hn10] <;> rfl, BW, BX⟩
   ·have hn5 : decide (p.f0 ≤ 3) = true := by rw [hk]; rfl
    have hn6 : (p.f0 == 4) = false := by rw [hk]; rfl
    have hn7 : (p.f0 == 6) = false := by rw [hk]; rfl
    have hn8 : (p.f0 == 7) = false := by rw [hk]; rfl
    have hn9 : (p.f0 == 5) = false := by rw [hk]; rfl
    have hn10 : (p.f0 == 8) = false := by rw [hk]; rfl
    clear hk
    cases qq88 : ((p.f5.length : Int) != 0) with
    | true =>
     (exfalso; have hz_ := hb; simp only [r20n, hn5, qq88, Bool.or_true, Bool.true_or, Bool.false_or, Bool.or_false, Bool.and_true, Bool.true_and, Bool.false_and, Bool.and_false] at hz_ <;> cases hz_)
    | false =>
     go_wp2
     go_meet
     case rel => exact ⟨by simp only [r20n, hn5, qq88, hn6, hn7, hn8, hn9, hn10] <;> rfl, BW, BX⟩
   ·have hn5 : decide (p.f0 ≤ 3) = true := by rw [hk]; rfl
    have hn6 : (p.f0 == 4) = false := by rw [hk]; rfl
    have hn7 : (p.f0 == 6) = false := by rw [hk]; rfl
    have hn8 : (p.f0 == 7) = false := by rw [hk]; rfl
    have hn9 : (p.f0 == 5) = false := by rw [hk]; rfl
    have hn10 : (p.f0 == 8) = false := by rw [hk]; rfl
    clear hk
    cases qq89 : ((p.f5.length : Int) != 0) with
    | true =>
     (exfalso; have hz_ := hb; simp only [r20n, hn5, qq89, Bool.or_true, Bool.true_or, Bool.false_or, Bool.or_false, Bool.and_true, Bool.true_and, Bool.false_and, Bool.and_false] at hz_ <;> cases hz_)
    | false =>
     go_wp2
     go_meet
     case rel => exact ⟨by simp only [r20n, hn5, qq89, hn6, hn7, hn8, hn9, hn10] <;> rfl, BW, BX⟩
   ·have hn5 : decide (p.f0 ≤ 3) = false := by rw [hk]; rfl
    have hn6 : (p.f0 == 4) = true := by rw [hk]; rfl
    have hn7 : (p.f0 == 6) = false := by rw [hk]; rfl
    have hn8 : (p.f0 == 7) = false := by rw [hk]; rfl
    have hn9 : (p.f0 == 5) = false := by rw [hk]; rfl
    have hn10 : (p.f0 == 8) = false := by rw [hk]; rfl
    clear hk
    cases qq90 : ((p.f5.length : Int) != 1) with
    | true =>
     (exfalso; have hz_ := hb; simp only [r20n, hn5, hn6, qq90, Bool.or_true, Bool.true_or, Bool.false_or, Bool.or_false, Bool.and_true, Bool.true_and, Bool.false_and, Bool.and_false] at hz_ <;> cases hz_)
    | false =>
     go_wp2
     go_meet
     case rel => exact ⟨by simp only [r20n, hn5, hn6, qq90, hn9, hn10] <;> rfl, BW, BX⟩
   ·have hn5 : decide (p.f0 ≤ 3) = false := by rw [hk]; rfl
    have hn6 : (p.f0 == 4) = false := by rw [hk]; rfl
    have hn7 : (p.f0 == 6) = false := by rw [hk]; rfl
    have hn8 : (p.f0 == 7) = false := by rw [hk]; rfl
    have hn9 : (p.f0 == 5) = true := by rw [hk]; rfl
    have hn10 : (p.f0 == 8) = false := by rw [hk]; rfl
    clear hk
    cases qq91 : decide (p.f5.length < 1) with
    | true =>
     have qq91i : decide ((p.f5.length : Int) < (1 : Int)) = true := by rw [← qq91]; exact decide_eq_decide.2 (by omega)
     (exfalso; have hz_ := hb; simp only [r20n, hn5, hn6, hn7, hn8, hn9, qq91, Bool.or_true, Bool.true_or, Bool.false_or, Bool.or_false, Bool.and_true, Bool.true_and, Bool.false_and, Bool.and_false] at hz_ <;> cases hz_)
    | false =>
     have qq91i : decide ((p.f5.length : Int) < (1 : Int)) = false := by rw [← qq91]; exact decide_eq_decide.2 (by omega)
     cases qq92 : decide (8 < p.f5.length) with
     | true =>
      have qq92i : decide ((8 : Int) < (p.f5.length : Int)) = true := by rw [← qq92]; exact decide_eq_decide.2 (by omega)
      (exfalso; have hz_ := hb; simp only [r20n, hn5, hn6, hn7, hn8, hn9, qq91, qq92, Bool.or_true, Bool.true_or, Bool.false_or, Bool.or_false, Bool.and_true, Bool.true_and, Bool.false_and, Bool.and_false] at hz_ <;> cases hz_)
     | false =>
      have qq92i : decide ((8 : Int) < (p.f5.length : Int)) = false := by rw [← qq92]; exact decide_eq_decide.2 (by omega)
      go_wp2
      go_meet
      case rel => exact ⟨by simp only [r20n, hn5, hn6, hn7, hn8, hn9, qq91, qq92] <;> rfl, BW, BX⟩
   ·have hn5 : decide (p.f0 ≤ 3) = false := by rw [hk]; rfl
    have hn6 : (p.f0 == 4) = false := by rw [hk]; rfl
    have hn7 : (p.f0 == 6) = true := by rw [hk]; rfl
    have hn8 : (p.f0 == 7) = false := by rw [hk]; rfl
    have hn9 : (p.f0 == 5) = false := by rw [hk]; rfl
    have hn10 : (p.f0 == 8) = false := by rw [hk]; rfl
    clear hk
    cases qq93 : ((p.f5.length : Int) != 1) with
    | true =>
     (exfalso; have hz_ := hb; simp only [r20n, hn5, hn6, hn7, qq93, Bool.or_true, Bool.true_or, Bool.false_or, Bool.or_false, Bool.and_true, Bool.true_and, Bool.false_and, Bool.and_false] at hz_ <;> cases hz_)
    | false =>
     go_wp2
     go_meet
     case rel => exact ⟨by simp only [r20n, hn5, hn6, hn7, qq93, hn9, hn10] <;> rfl, BW, BX⟩
   ·have hn5 : decide (p.f0 ≤ 3) = false := by rw [hk]; rfl
    have hn6 : (p.f0 == 4) = false := by rw [hk]; rfl
    have hn7 : (p.f0 == 6) = false := by rw [hk]; rfl
    have hn8 : (p.f0 == 7) = true := by rw [hk]; rfl
    have hn9 : (p.f0 == 5) = false := by rw [hk]; rfl
    have hn10 : (p.f0 == 8) = false := by rw [hk]; rfl
    clear hk
    cases qq94 : ((p.f5.length : Int) != 1) with
    | true =>
     (exfalso; have hz_ := hb; simp only [r20n, hn5, hn6, hn7, hn8, qq94, Bool.or_true, Bool.true_or, Bool.false_or, Bool.or_false, Bool.and_true, Bool.true_and, Bool.false_and, Bool.and_false] at hz_ <;> cases hz_)
    | false =>
     go_wp2
     go_meet
     case rel => exact ⟨by simp only [r20n, hn5, hn6, hn7, hn8, qq94, hn9, hn10] <;> rfl, BW, BX⟩
   ·have hn5 : decide (p.f0 ≤ 3) = false := by rw [hk]; rfl
    have hn6 : (p.f0 == 4) = false := by rw [hk]; rfl
    have hn7 : (p.f0 == 6) = false := by rw [hk]; rfl
    have hn8 : (p.f0 == 7) = false := by rw [hk]; rfl
    have hn9 : (p.f0 == 5) = false := by rw [hk]; rfl
    have hn10 : (p.f0 == 8) = true := by rw [hk]; rfl
    clear hk
    cases qq95 : decide (p.f5.length < 1) with
    | true =>
     have qq95i : decide ((p.f5.length : Int) < (1 : Int)) = true := by rw [← qq95]; exact decide_eq_decide.2 (by omega)
     (exfalso; have hz_ := hb; simp only [r20n, hn5, hn6, hn7, hn8, hn9, hn10, qq95, Bool.or_true, Bool.true_or, Bool.false_or, Bool.or_false, Bool.and_true, Bool.true_and, Bool.false_and, Bool.and_false] at hz_ <;> cases hz_)
    | false =>
     have qq95i : decide ((p.f5.length : Int) < (1 : Int)) = false := by rw [← qq95]; exact decide_eq_decide.2 (by omega)
     cases qq96 : decide (8 < p.f5.length) with
     | true =>
      have qq96i : decide ((8 : Int) < (p.f5.length : Int)) = true := by rw [← qq96]; exact decide_eq_decide.2 (by omega)
      (exfalso; have hz_ := hb; simp only [r20n, hn5, hn6, hn7, hn8, hn9, hn10, qq95, qq96, Bool.or_true, Bool.true_or, Bool.false_or, Bool.or_false, Bool.and_true, Bool.true_and, Bool.false_and, Bool.and_false] at hz_ <;> cases hz_)
     | false =>
      have qq96i : decide ((8 : Int) < (p.f5.length : Int)) = false := by rw [← qq96]; exact decide_eq_decide.2 (by omega)
      go_wp2
      go_meet
      case rel => exact ⟨by simp only [r20n, hn5, hn6, hn7, hn8, hn9, hn10, qq95, qq96] <;> rfl, BW, BX⟩
  case rest =>
   clear BW BX
   obtain ⟨rfl, BW, BX⟩ := hcut
   rw [hb]
   go_upto_region 7 with (fail)
   go_cut [123] (fun s123 wc => s123 = .bool (r20l p cols) ∧ Aside0 (Below w.heap.size w wc) ∧ Aside0 (wc.heap[w.heap.size]? = some (.cells cs.toArray 50 (0, 0))))
   case first =>
    have hcv0 : wc.cell? ⟨w.heap.size, 0, none⟩ = some (.int .i64 p.f0) := blk_cells BX.out 0 _ H0.out; have hcv1 : wc.cell? ⟨w.heap.size, 1, none⟩ = some (.int .i64 p.f1) := blk_cells BX.out 1 _ H1.out; have hcv2 : wc.cell? ⟨w.heap.size, 2, none⟩ = some (.string p.f2) := blk_cells BX.out 2 _ H2.out; have hcv3 : wc.cell? ⟨w.heap.size, 3, none⟩ = some (.int .i64 p.f3) := blk_cells BX.out 3 _ H3.out; have hcv4 : wc.cell? ⟨w.heap.size, 4, none⟩ = some (.int .i64 p.f4) := blk_cells BX.out 4 _ H4.out; have hcv5 : wc.cell? ⟨w.heap.size, 5, none⟩ = some (.slice A5 p.f5.length c5) := blk_cells BX.out 5 _ H5.out
    cases qq106 : decide (p.f1 < 0) with
    | true =>
     (exfalso; have hz_ := hc; simp only [r20l, qq106, Bool.or_true, Bool.true_or, Bool.false_or, Bool.or_false, Bool.and_true, Bool.true_and, Bool.false_and, Bool.and_false] at hz_ <;> cases hz_)
    | false =>
     cases qq107 : (p.f0 == 1) with
     | true =>
      cases qq108 : decide (cols ≤ p.f1) with
      | true =>
       (exfalso; have hz_ := hc; simp only [r20l, qq106, qq107, qq108, Bool.or_true, Bool.true_or, Bool.false_or, Bool.or_false, Bool.and_true, Bool.true_and, Bool.false_and, Bool.and_false] at hz_ <;> cases hz_)
      | false =>
       cases qq109 : decide (4096 < p.f2.size) with
       | true =>
        have qq109i : decide ((4096 : Int) < (p.f2.size : Int)) = true := by rw [← qq109]; exact decide_eq_decide.2 (by omega)
        (exfalso; have hz_ := hc; simp only [r20l, qq106, qq107, qq108, qq109, Bool.or_true, Bool.true_or, Bool.false_or, Bool.or_false, Bool.and_true, Bool.true_and, Bool.false_and, Bool.and_false] at hz_ <;> cases hz_)
       | false =>
        have qq109i : decide ((4096 : Int) < (p.f2.size : Int)) = false := by rw [← qq109]; exact decide_eq_decide.2 (by omega)
        cases qq110 : decide (p.f3 < 0) with
        | true =>
         (exfalso; have hz_ := hc; simp only [r20l, qq106, qq107, qq108, qq109, qq110, Bool.or_true, Bool.true_or, Bool.false_or, Bool.or_false, Bool.and_true, Bool.true_and, Bool.false_and, Bool.and_false] at hz_ <;> cases hz_)
        | false =>
         cases qq111 : decide (p.f4 < 0) with
         | true =>
          (exfalso; have hz_ := hc; simp only [r20l, qq106, qq107, qq108, qq109, qq110, qq111, Bool.or_true, Bool.true_or, Bool.false_or, Bool.or_false, Bool.and_true, Bool.true_and, Bool.false_and, Bool.and_false] at hz_ <;> cases hz_)
         | false =>
          go_wp2
          go_meet
          case rel => exact ⟨by simp only [r20l, qq106, qq107, qq108, qq109, qq110, qq111] <;> rfl, BW, BX⟩
     | false =>
      cases qq112 : decide (4096 < p.f2.size) with
      | true =>
       have qq112i : decide ((4096 : Int) < (p.f2.size : Int)) = true := by rw [← qq112]; exact decide_eq_decide.2 (by omega)
       (exfalso; have hz_ := hc; simp only [r20l, qq106, qq107, qq112, Bool.or_true, Bool.true_or, Bool.false_or, Bool.or_false, Bool.and_true, Bool.true_and, Bool.false_and, Bool.and_false] at hz_ <;> cases hz_)
      | false =>
       have qq112i : decide ((4096 : Int) < (p.f2.size : Int)) = false := by rw [← qq112]; exact decide_eq_decide.2 (by omega)
       cases qq113 : decide (p.f3 < 0) with
       | true =>
        (exfalso; have hz_ := hc; simp only [r20l, qq106, qq107, qq112, qq113, Bool.or_true, Bool.true_or, Bool.false_or, Bool.or_false, Bool.and_true, Bool.true_and, Bool.false_and, Bool.and_false] at hz_ <;> cases hz_)
       | false =>
        cases qq114 : decide (p.f4 < 0) with
        | true =>
         (exfalso; have hz_ := hc; simp only [r20l, qq106, qq107, qq112, qq113, qq114, Bool.or_true, Bool.true_or, Bool.false_or, Bool.or_false, Bool.and_true, Bool.true_and, Bool.false_and, Bool.and_false] at hz_ <;> cases hz_)
        | false =>
         go_wp2
         go_meet
         case rel => exact ⟨by simp only [r20l, qq106, qq107, qq112, qq113, qq114] <;> rfl, BW, BX⟩
   case rest =>
    clear BW BX
    obtain ⟨rfl, BW, BX⟩ := hcut
    rw [hc]
    clear ha hb hc
    go_upto_if 126 with (fail)
    go_loopg [9] p.f5.length (fun gg s9 wr => ∃ (i : Nat), s9 = .int .i64 i ∧ i ≤ p.f5.length ∧ p.f5.length - i ≤ gg ∧ Aside0 (allE (fun q => refRightS k q cols (wrap64 (deep - 1))) (p.f5.drop i) = some r) ∧ Aside0 (Below w.heap.size w wr) ∧ Aside0 (wr.heap[w.heap.size]? = some (.cells cs.toArray 50 (0, 0))))
    case atStart => exact ⟨0, by first | rfl | simp, Nat.zero_le _, by omega, HAL, BW, BX⟩
    case round =>
     clear HAL BW BX
     obtain ⟨i, rfl, hin, hg0, HTS, HB, BX⟩ := hrel
     have hcv5 : wr.cell? ⟨w.heap.size, 5, none⟩ = some (.slice A5 p.f5.length c5) := blk_cells BX.out 5 _ H5.out
     have hn := HN5.out
     by_cases hlt : i < p.f5.length
     ·have hltz : (i : Int) < (p.f5.length : Int) := by omega
      have hi0 : (0 : Int) ≤ (i : Int) := by omega
      have hks := HTS.out
      rw [drop_getE z50 p.f5 i hlt] at hks
      simp only [allE] at hks
      obtain ⟨t, ht, hks⟩ := Option.bind_eq_some_iff.1 hks
      obtain ⟨ad, c, e17, hcl, hKu, hcell⟩ := Kd.C_elem HK5.out z50 i hlt
      replace hcell : ∀ j v, c[j]? = some v → w.cell? ((ad.add (i * 6)).add j) = some v := hcell
      replace hcl : c.length = 6 := hcl
      subst e17
      have HCALL := Aside0.mk (fun W (hb : Below w.heap.size w W) => IH.out (p.f5.getD i z50) c cols (wrap64 (deep - 1)) t W (k50.K_below hb hKu) ht)
      have HCL := Aside0.mk hcl
      have HCELL := Aside0.mk (show ∀ j v, c[j]? = some v → wr.cell? ((ad.add (i * 6)).add j) = some v from fun j v hj => (HB.out.cell (World.block_lt_of_cell? w _ (hcell j v hj))).trans (hcell j v hj))
      clear hKu ht HTS hcl hcell hn
      cases t with
      | true =>
       rw [if_pos rfl] at hks
       have HTS2 := Aside0.mk hks
       clear hks
       go_wp2_with (first
        | ((with_reducible refine gate_dst (N := 133) rfl ?_); refine load_all rfl rfl (cs := c) rfl HAGG.out (fun W => by rw [HCL.out]; exact HSZ.out W) HCELL.out ?_)
        | (go_at_call 25; refine (HCALL.out _ HB.out).mono ?_; rintro e w4 ⟨rfl, hb4⟩; have HB4 := Aside0.mk (below_step HB.out hb4); have BX4 := Aside0.mk (blk_keep hb4 BX.out); clear hb4))
       go_roundg (p.f5.length - (i + 1))
       case measure => omega
       case rel => have hN := HN5.out; exact ⟨i + 1, by first | go_num | (congr 1; unfold wrap64; omega), by omega, by omega, HTS2, HB4, BX4⟩
      | false =>
       rw [if_neg (by decide)] at hks
       obtain rfl := Option.some.inj hks
       clear hks
       go_wp2_with (first
        | ((with_reducible refine gate_dst (N := 133) rfl ?_); refine load_all rfl rfl (cs := c) rfl HAGG.out (fun W => by rw [HCL.out]; exact HSZ.out W) HCELL.out ?_)
        | (go_at_call 25; refine (HCALL.out _ HB.out).mono ?_; rintro e w4 ⟨rfl, hb4⟩; have HB4 := Aside0.mk (below_step HB.out hb4); clear hb4))
       go_ret
       exact ⟨rfl, HB4.out⟩
     ·have hltz : ¬ (i : Int) < (p.f5.length : Int) := by omega
      have hks := HTS.out
      rw [List.drop_of_length_le (by omega)] at hks
      simp only [allE] at hks
      obtain rfl := Option.some.inj hks
      clear hks HTS hn
      go_wp2
      go_ret
      exact ⟨rfl, HB.out⟩
theorem hopperref20_Right.core (k : Nat) : ∀ (p : S50) (cs : List Value) (cols deep : Int) (r : Bool) (w : World), k50.K w p cs → refRightS k p cols deep = some r →
  Calls Try.prog 25 #[.agg cs.toArray, .int .i64 cols, .int .i64 deep] w fun e w' => e = .returned (.bool r) ∧ Below w.heap.size w w' := by
 induction k with
 | zero => intro p cs cols deep r w _ h; cases h
 | succ k ih =>
 intro p cs cols deep r w hK h
 unfold refRightS at h
 cases ha : r20a p deep with
 | true => rw [ha, if_pos rfl] at h; obtain rfl := Option.some.inj h; exact hopperref20_Right.one p cs cols deep w hK ha
 | false =>
 rw [ha, if_neg Bool.false_ne_true] at h
 cases hb : r20n p with
 | true => rw [hb, if_pos rfl] at h; obtain rfl := Option.some.inj h; exact hopperref20_Right.two p cs cols deep w hK ha hb
 | false =>
 rw [hb, if_neg Bool.false_ne_true] at h
 cases hc : r20l p cols with
 | true => rw [hc, if_pos rfl] at h; obtain rfl := Option.some.inj h; exact hopperref20_Right.three p cs cols deep w hK ha hb hc
 | false =>
 rw [hc, if_neg Bool.false_ne_true] at h
 exact hopperref20_Right.four p cs cols deep k r w hK ha hb hc ⟨ih⟩ ⟨h⟩
theorem hopperref20_Right.calls (k : Nat) (a0_0 : Int) (a0_1 : Int) (a0_2 : ByteArray) (a0_3 : Int) (a0_4 : Int) (A0_5 : Option Addr) (c0_5 : Nat) (l0_5 : List (S50)) (a1 : Int) (a2 : Int) (r : Bool) (w : World) (hr0_5 : Kd.C k50 w A0_5 l0_5.length l0_5) (hc0_5 : l0_5.length ≤ c0_5) (h : hopperref20_Right.f k a0_0 a0_1 a0_2 a0_3 a0_4 l0_5 a1 a2 = some r) :
  Calls Try.prog 25 #[.agg #[.int .i64 a0_0, .int .i64 a0_1, .string a0_2, .int .i64 a0_3, .int .i64 a0_4, .slice A0_5 l0_5.length c0_5], .int .i64 a1, .int .i64 a2] w fun e w' => e = .returned (.bool r) ∧ Below w.heap.size w w' :=
 hopperref20_Right.core k ⟨a0_0, a0_1, a0_2, a0_3, a0_4, l0_5⟩ _ a1 a2 r w (k50_mk w ⟨a0_0, a0_1, a0_2, a0_3, a0_4, l0_5⟩ hc0_5 hr0_5) h

end Go.Proofs.Ytomccmodlkdcbaa.Q
