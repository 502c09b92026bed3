-- PRINTED by print.py (a twelfth state) out of the translation. Not trusted: Lean checks it.
import Derived.Test.YtomccmodlkdcbaaQx0
import Derived.Test.YtomccmodlkdcbaaQx10
namespace Go.Proofs.Ytomccmodlkdcbaa.Q
open Go.RowKit Go.Proofs.YtomccmodlkdcbaaW.PrintWords Go.Proofs.YtomccmodlkdcbaaW.PrintLast Go.Proofs.YtomccmodlkdcbaaW.PrintMore
attribute [local go_sem] str_gtr str_geq str_leq max2_int min2_int max_two min_two max_three min_three max_four min_four   -- for this text's walks alone
set_option linter.unusedVariables false
set_option linter.unusedSimpArgs false

/-! ### hopperref20_Small: function 21 -/
set_option maxRecDepth 100000 in
mutual
def hopperref20_Small.j0 : Nat → Int → Bool → Int → Int → ByteArray → Int → Int → List (S50) → Option (Bool)
 | 0, _, _, _, _, _, _, _, _ => none
 | k + 1, x1, x24, x261000, x261001, x261002, x261003, x261004, x261005 => if x24 = true then (some false) else (hopperref20_Small.l0 k x1 0 x261000 x261001 x261002 x261003 x261004 x261005)
def hopperref20_Small.l0 : Nat → Int → Int → Int → Int → ByteArray → Int → Int → List (S50) → Option (Bool)
 | 0, _, _, _, _, _, _, _, _ => none
 | k + 1, x1, x5, x261000, x261001, x261002, x261003, x261004, x261005 => if x5 < (x261005.length : Int) then (if 0 ≤ x5 then ((hopperref20_Small.f k ((rd_T50 x261005 x5).f0) ((rd_T50 x261005 x5).f1) ((rd_T50 x261005 x5).f2) ((rd_T50 x261005 x5).f3) ((rd_T50 x261005 x5).f4) ((rd_T50 x261005 x5).f5) (wrap64 (x1 - 1))).bind fun t263 => (if t263 = true then (hopperref20_Small.l0 k x1 (wrap64 (x5 + 1)) x261000 x261001 x261002 x261003 x261004 x261005) else (some false))) else (none)) else (some true)
def hopperref20_Small.f : Nat → Int → Int → ByteArray → Int → Int → List (S50) → Int → Option (Bool)
 | 0, _, _, _, _, _, _, _ => none
 | k + 1, a0_0, a0_1, a0_2, a0_3, a0_4, l0_5, a1 => if a1 < 0 then (hopperref20_Small.j0 k a1 true a0_0 a0_1 a0_2 a0_3 a0_4 l0_5) else (if (a0_2.size : Int) > 5000 then (hopperref20_Small.j0 k a1 true a0_0 a0_1 a0_2 a0_3 a0_4 l0_5) else (if (l0_5.length : Int) > 20 then (hopperref20_Small.j0 k a1 true a0_0 a0_1 a0_2 a0_3 a0_4 l0_5) else ((hopperref20_Size.f k a0_0 a0_1 a0_2 a0_3 a0_4 l0_5 100).bind fun t261 => (hopperref20_Small.j0 k a1 (decide (t261 > 60)) a0_0 a0_1 a0_2 a0_3 a0_4 l0_5))))
end
set_option maxHeartbeats 8000000 in
set_option maxRecDepth 100000 in
theorem hopperref20_Small.calls (k : Nat) : ∀ (a0_0 : Int) (a0_1 : Int) (a0_2 : ByteArray) (a0_3 : Int) (a0_4 : Int) (A0_5 : Option Addr) (c0_5 : Nat) (l0_5 : List (S50)) (a1 : Int) (r : Bool) (w : World) (hr0_5 : Kd.C k50 w A0_5 l0_5.length l0_5) (hc0_5 : l0_5.length ≤ c0_5) (h : hopperref20_Small.f k a0_0 a0_1 a0_2 a0_3 a0_4 l0_5 a1 = some r),
  Calls Try.prog 21 #[.agg #[.int .i64 a0_0, .int .i64 a0_1, .string a0_2, .int .i64 a0_3, .int .i64 a0_4, .slice A0_5 l0_5.length c0_5], .int .i64 a1] w fun e w' => e = .returned (.bool r) ∧ Below w.heap.size w w' := by
 induction k using Nat.strongRecOn with
 | _ k ih =>
 intro a0_0 a0_1 a0_2 a0_3 a0_4 A0_5 c0_5 l0_5 a1 r w hr0_5 hc0_5 h
 cases k with
 | zero => exact absurd h (by simp [hopperref20_Small.f])
 | succ k =>
 simp only [hopperref20_Small.f] at h
 have hu50 := Try.underlying50
 have HR0_5 := Aside0.mk hr0_5
 have HC0_5 := Aside0.mk hc0_5
 clear hr0_5 hc0_5
 have HB := Aside0.mk (Below.refl w.heap.size w)
 have H : (if a1 < 0 then (hopperref20_Small.j0 k a1 true a0_0 a0_1 a0_2 a0_3 a0_4 l0_5) else (if (a0_2.size : Int) > 5000 then (hopperref20_Small.j0 k a1 true a0_0 a0_1 a0_2 a0_3 a0_4 l0_5) else (if (l0_5.length : Int) > 20 then (hopperref20_Small.j0 k a1 true a0_0 a0_1 a0_2 a0_3 a0_4 l0_5) else ((hopperref20_Size.f k a0_0 a0_1 a0_2 a0_3 a0_4 l0_5 100).bind fun t261 => (hopperref20_Small.j0 k a1 (decide (t261 > 60)) a0_0 a0_1 a0_2 a0_3 a0_4 l0_5))))) = some r := h
 clear h
 have HC3 := Aside0.mk H
 clear H
 go_enter Try.func21, Try.ntmps21
 go_upto_region 1 with (first | ((with_reducible refine gate_dst (N := 2) rfl ?_); (try (refine gate_guard (by rfl) ?_; dsimp only)); refine box_event ?hg (N := 2) ?hd (cs := #[.int .i64 a0_0, .int .i64 a0_1, .string a0_2, .int .i64 a0_3, .int .i64 a0_4, .slice A0_5 l0_5.length c0_5]) (t := 50) ?hr ?_; (case hd => rfl); (case hg => rfl); (case hr => first | (go_simp; done) | (go_simp; rfl) | (go_simp; simp (disch := omega) only [Go.u8_and63, Go.u8_and31, Go.u8_and15, Go.u8_and7, Go.u8_or128, Go.u8_or192, Go.u8_or224, Go.u8_or240, m64]; done)); intro gb260 hg w4 hbox hb; have n0_ := Aside0.mk (below_step (mvB HB.out) hb); have n1_ := Aside0.mk (hbox); have n2_ := Aside0.mk ((by rw [hg]; exact (below_size (mvB HB.out)) : w.heap.size ≤ gb260)); have n3_ := Aside0.mk ((by rw [hg]; exact (below_size (mvB HB.out)) : w.heap.size ≤ gb260)); clear HB; have HB := n0_; have BK260 := n1_; have GW260 := n2_; have GE260 := n3_; clear n0_ n1_ n2_ n3_; clear hb hbox hg))
 (try simp only [Act.put, List.setIfInBounds_toArray, List.set_cons_zero, List.set_cons_succ])
 go_cut [24] (fun v24 wc => ∃ (kq : Nat) (x24_2 : Bool), v24 = .bool x24_2 ∧ Aside0 (hopperref20_Small.j0 kq a1 x24_2 a0_0 a0_1 a0_2 a0_3 a0_4 l0_5 = some r) ∧ Aside0 (kq ≤ k) ∧ Aside0 (wc.heap[gb260]? = some (.cells #[.int .i64 a0_0, .int .i64 a0_1, .string a0_2, .int .i64 a0_3, .int .i64 a0_4, (.slice A0_5 l0_5.length c0_5)] 50 (0, 0))) ∧ Aside0 (Below w.heap.size w wc))
 case first =>
  have H := HC3.out
  clear HC3
  by_cases c5 : a1 < 0
  ·rw [if_pos c5] at H
   have c5b0 : decide (a1 < 0) = true := decide_eq_true c5
   clear c5
   (first | rw [c5b0] | (simp only [i64_w, i32_w]; rw [c5b0]) | skip)
   have H' := Aside0.mk H
   clear H
   go_wp2
   go_meet
   case rel => exact ⟨_, (true), (by first | rfl | (simp; done) | (simp [*]; done)), H', ⟨by first | omega | exact Nat.le_refl _⟩, ⟨by (with_reducible repeat (first | refine blk_drewN ?_ _ | refine blk_drew ?_ | refine blk_alloc ?_ _)); exact BK260.out⟩, ⟨by repeat (first | (with_reducible first | exact HB.out | apply below_alloc | apply pw_below_drewN | apply below_drew1 | refine below_set ?_ GE260.out) | exact HB.out)⟩⟩
  ·rw [if_neg c5] at H
   have c5b0 : decide (a1 < 0) = false := decide_eq_false c5
   clear c5
   (first | rw [c5b0] | (simp only [i64_w, i32_w]; rw [c5b0]) | skip)
   by_cases c6 : (a0_2.size : Int) > 5000
   ·rw [if_pos c6] at H
    have c6b0 : decide (5000 < (a0_2.size : Int)) = true := decide_eq_true c6
    have c6b1 : decide (5000 < a0_2.size) = true := decide_eq_true (by omega)
    clear c6
    have H' := Aside0.mk H
    clear H
    have hcz7_0 : w4.cell? ⟨gb260, 0, none⟩ = some (.int .i64 a0_0) := (blk_cell BK260.out 0).trans rfl
    have hcz7_1 : w4.cell? ⟨gb260, 1, none⟩ = some (.int .i64 a0_1) := (blk_cell BK260.out 1).trans rfl
    have hcz7_2 : w4.cell? ⟨gb260, 2, none⟩ = some (.string a0_2) := (blk_cell BK260.out 2).trans rfl
    have hcz7_3 : w4.cell? ⟨gb260, 3, none⟩ = some (.int .i64 a0_3) := (blk_cell BK260.out 3).trans rfl
    have hcz7_4 : w4.cell? ⟨gb260, 4, none⟩ = some (.int .i64 a0_4) := (blk_cell BK260.out 4).trans rfl
    have hcz7_5 : w4.cell? ⟨gb260, 5, none⟩ = some (.slice A0_5 l0_5.length c0_5) := (blk_cell BK260.out 5).trans rfl
    have hfz7_0 := blk_frozen BK260.out 0
    have hfz7_1 := blk_frozen BK260.out 1
    have hfz7_2 := blk_frozen BK260.out 2
    have hfz7_3 := blk_frozen BK260.out 3
    have hfz7_4 := blk_frozen BK260.out 4
    have hfz7_5 := blk_frozen BK260.out 5
    go_wp2
    go_meet
    case rel => exact ⟨_, (true), (by first | rfl | (simp; done) | (simp [*]; done)), H', ⟨by first | omega | exact Nat.le_refl _⟩, ⟨by (with_reducible repeat (first | refine blk_drewN ?_ _ | refine blk_drew ?_ | refine blk_alloc ?_ _)); exact BK260.out⟩, ⟨by repeat (first | (with_reducible first | exact HB.out | apply below_alloc | apply pw_below_drewN | apply below_drew1 | refine below_set ?_ GE260.out) | exact HB.out)⟩⟩
   ·rw [if_neg c6] at H
    have c6b0 : decide (5000 < (a0_2.size : Int)) = false := decide_eq_false c6
    have c6b1 : decide (5000 < a0_2.size) = false := decide_eq_false (by omega)
    clear c6
    by_cases c8 : (l0_5.length : Int) > 20
    ·rw [if_pos c8] at H
     have c8b0 : decide (20 < (l0_5.length : Int)) = true := decide_eq_true c8
     have c8b1 : decide (20 < l0_5.length) = true := decide_eq_true (by omega)
     clear c8
     have H' := Aside0.mk H
     clear H
     have hcz9_0 : w4.cell? ⟨gb260, 0, none⟩ = some (.int .i64 a0_0) := (blk_cell BK260.out 0).trans rfl
     have hcz9_1 : w4.cell? ⟨gb260, 1, none⟩ = some (.int .i64 a0_1) := (blk_cell BK260.out 1).trans rfl
     have hcz9_2 : w4.cell? ⟨gb260, 2, none⟩ = some (.string a0_2) := (blk_cell BK260.out 2).trans rfl
     have hcz9_3 : w4.cell? ⟨gb260, 3, none⟩ = some (.int .i64 a0_3) := (blk_cell BK260.out 3).trans rfl
     have hcz9_4 : w4.cell? ⟨gb260, 4, none⟩ = some (.int .i64 a0_4) := (blk_cell BK260.out 4).trans rfl
     have hcz9_5 : w4.cell? ⟨gb260, 5, none⟩ = some (.slice A0_5 l0_5.length c0_5) := (blk_cell BK260.out 5).trans rfl
     have hfz9_0 := blk_frozen BK260.out 0
     have hfz9_1 := blk_frozen BK260.out 1
     have hfz9_2 := blk_frozen BK260.out 2
     have hfz9_3 := blk_frozen BK260.out 3
     have hfz9_4 := blk_frozen BK260.out 4
     have hfz9_5 := blk_frozen BK260.out 5
     go_wp2
     go_meet
     case rel => exact ⟨_, (true), (by first | rfl | (simp; done) | (simp [*]; done)), H', ⟨by first | omega | exact Nat.le_refl _⟩, ⟨by (with_reducible repeat (first | refine blk_drewN ?_ _ | refine blk_drew ?_ | refine blk_alloc ?_ _)); exact BK260.out⟩, ⟨by repeat (first | (with_reducible first | exact HB.out | apply below_alloc | apply pw_below_drewN | apply below_drew1 | refine below_set ?_ GE260.out) | exact HB.out)⟩⟩
    ·rw [if_neg c8] at H
     have c8b0 : decide (20 < (l0_5.length : Int)) = false := decide_eq_false c8
     have c8b1 : decide (20 < l0_5.length) = false := decide_eq_false (by omega)
     clear c8
     replace H := Option.bind_eq_some_iff.mp H
     obtain ⟨t261, A100, H⟩ := H
     replace H : (hopperref20_Small.j0 k a1 (decide (t261 > 60)) a0_0 a0_1 a0_2 a0_3 a0_4 l0_5) = some r := H
     have A10 := Aside0.mk A100
     clear A100
     have H' := Aside0.mk H
     clear H
     have hcz11_0 : w4.cell? ⟨gb260, 0, none⟩ = some (.int .i64 a0_0) := (blk_cell BK260.out 0).trans rfl
     have hcz11_1 : w4.cell? ⟨gb260, 1, none⟩ = some (.int .i64 a0_1) := (blk_cell BK260.out 1).trans rfl
     have hcz11_2 : w4.cell? ⟨gb260, 2, none⟩ = some (.string a0_2) := (blk_cell BK260.out 2).trans rfl
     have hcz11_3 : w4.cell? ⟨gb260, 3, none⟩ = some (.int .i64 a0_3) := (blk_cell BK260.out 3).trans rfl
     have hcz11_4 : w4.cell? ⟨gb260, 4, none⟩ = some (.int .i64 a0_4) := (blk_cell BK260.out 4).trans rfl
     have hcz11_5 : w4.cell? ⟨gb260, 5, none⟩ = some (.slice A0_5 l0_5.length c0_5) := (blk_cell BK260.out 5).trans rfl
     have hfz11_0 := blk_frozen BK260.out 0
     have hfz11_1 := blk_frozen BK260.out 1
     have hfz11_2 := blk_frozen BK260.out 2
     have hfz11_3 := blk_frozen BK260.out 3
     have hfz11_4 := blk_frozen BK260.out 4
     have hfz11_5 := blk_frozen BK260.out 5
     go_wp2_with (first | (go_at_call 33; (with_reducible refine (hopperref20_Size.calls k a0_0 a0_1 a0_2 a0_3 a0_4 _ _ l0_5 100 t261 _ ?side1 ?side2 A10.out).mono ?_); (case side1 => repeat (first | exact (Kd.C_below HR0_5.out HB.out) | (with_reducible refine Kd.C_alloc ?_ _) | (with_reducible refine Kd.C_drewN ?_ _) | (with_reducible refine Kd.C_drew ?_))); (case side2 => exact HC0_5.out); rintro e w12 ⟨rfl, hb⟩; have n0_ := Aside0.mk (blk_below (g := gb260) (o := .cells #[.int .i64 a0_0, .int .i64 a0_1, .string a0_2, .int .i64 a0_3, .int .i64 a0_4, .slice A0_5 l0_5.length c0_5] 50 (0, 0)) (by (with_reducible repeat (first | refine blk_drewN ?_ _ | refine blk_drew ?_ | refine blk_alloc ?_ _)); exact BK260.out) hb); have n1_ := Aside0.mk (below_step (by repeat (first | (with_reducible first | exact HB.out | apply below_alloc | apply pw_below_drewN | apply below_drew1 | refine below_set ?_ GE260.out) | exact HB.out)) hb); clear BK260; clear HB; have BK260 := n0_; have HB := n1_; clear n0_ n1_; (try clear hb); (try clear hb2); (try clear hk); (try clear hi)))
     go_meet
     case rel => exact ⟨_, (decide (t261 > 60)), (by first | rfl | (simp; done) | (simp [*]; done)), H', ⟨by first | omega | exact Nat.le_refl _⟩, ⟨by (with_reducible repeat (first | refine blk_drewN ?_ _ | refine blk_drew ?_ | refine blk_alloc ?_ _)); exact BK260.out⟩, ⟨by repeat (first | (with_reducible first | exact HB.out | apply below_alloc | apply pw_below_drewN | apply below_drew1 | refine below_set ?_ GE260.out) | exact HB.out)⟩⟩
 case rest =>
  clear HC3
  try clear c2
  try clear p2
  try clear c5
  try clear c5b0
  try clear c6
  try clear c6b0
  try clear c6b1
  try clear c8
  try clear c8b0
  try clear c8b1
  try clear hcz11_0
  try clear hcz11_1
  try clear hcz11_2
  try clear hcz11_3
  try clear hcz11_4
  try clear hcz11_5
  try clear hcz7_0
  try clear hcz7_1
  try clear hcz7_2
  try clear hcz7_3
  try clear hcz7_4
  try clear hcz7_5
  try clear hcz9_0
  try clear hcz9_1
  try clear hcz9_2
  try clear hcz9_3
  try clear hcz9_4
  try clear hcz9_5
  try clear hfz11_0
  try clear hfz11_1
  try clear hfz11_2
  try clear hfz11_3
  try clear hfz11_4
  try clear hfz11_5
  try clear hfz7_0
  try clear hfz7_1
  try clear hfz7_2
  try clear hfz7_3
  try clear hfz7_4
  try clear hfz7_5
  try clear hfz9_0
  try clear hfz9_1
  try clear hfz9_2
  try clear hfz9_3
  try clear hfz9_4
  try clear hfz9_5
  obtain ⟨kq, x24_2, rfl, HA, HJ2, BK260, HB⟩ := hcut
  cases kq with
  | zero => exact absurd HA.out (by simp [hopperref20_Small.j0])
  | succ kj2 =>
   have H := HA.out
   clear HA
   simp only [hopperref20_Small.j0] at H
   by_cases c13 : x24_2 = true
   ·subst c13
    have H1 : (some false) = some r := by rw [if_pos rfl] at H; exact H
    clear H
    have H := H1
    clear H1
    obtain rfl := Option.some.inj H
    go_wp2
    go_ret
    exact ⟨by first | rfl | (simp [errW_none, errW_some] <;> rfl) | (simp [*, errW_none, errW_some] <;> rfl) | exact congrArg (fun b_ => Ending.returned (.bool b_)) (decide_eq_decide.2 (by unfold wrap64; omega)), by repeat (first | (with_reducible first | exact HB.out | apply below_alloc | apply pw_below_drewN | apply below_drew1 | refine below_set ?_ GE260.out) | exact HB.out)⟩
   ·replace c13 := Bool.eq_false_iff.mpr c13
    subst c13
    have H1 : (hopperref20_Small.l0 kj2 a1 0 a0_0 a0_1 a0_2 a0_3 a0_4 l0_5) = some r := by rw [if_neg (show ¬ (false = true) by decide)] at H; exact H
    clear H
    have H := H1
    clear H1
    have H' := Aside0.mk H
    clear H
    go_wp2
    go_loopg [5] kj2 (fun kq v5 w' => ∃ (x5_2 : Int), v5 = .int .i64 x5_2 ∧ Aside0 (hopperref20_Small.l0 kq a1 x5_2 a0_0 a0_1 a0_2 a0_3 a0_4 l0_5 = some r) ∧ Aside0 (kq ≤ kj2) ∧ Aside0 (w'.heap[gb260]? = some (.cells #[.int .i64 a0_0, .int .i64 a0_1, .string a0_2, .int .i64 a0_3, .int .i64 a0_4, (.slice A0_5 l0_5.length c0_5)] 50 (0, 0))) ∧ Aside0 (Below w.heap.size w w'))
    case atStart => exact ⟨(0), (by first | rfl | (simp; done) | (simp [*]; done)), H', ⟨Nat.le_refl _⟩, ⟨by (with_reducible repeat (first | refine blk_drewN ?_ _ | refine blk_drew ?_ | refine blk_alloc ?_ _)); exact BK260.out⟩, ⟨by repeat (first | (with_reducible first | exact HB.out | apply below_alloc | apply pw_below_drewN | apply below_drew1 | refine below_set ?_ GE260.out) | exact HB.out)⟩⟩
    case round =>
     clear H'
     try clear c1
     try clear c2
     try clear p2
     try clear c5
     try clear c5b0
     try clear c6
     try clear c6b0
     try clear c6b1
     try clear p6
     try clear c8
     try clear c8b0
     try clear c8b1
     try clear c13
     try clear hcz11_0
     try clear hcz11_1
     try clear hcz11_2
     try clear hcz11_3
     try clear hcz11_4
     try clear hcz11_5
     try clear hcz7_0
     try clear hcz7_1
     try clear hcz7_2
     try clear hcz7_3
     try clear hcz7_4
     try clear hcz7_5
     try clear hcz9_0
     try clear hcz9_1
     try clear hcz9_2
     try clear hcz9_3
     try clear hcz9_4
     try clear hcz9_5
     try clear hfz11_0
     try clear hfz11_1
     try clear hfz11_2
     try clear hfz11_3
     try clear hfz11_4
     try clear hfz11_5
     try clear hfz7_0
     try clear hfz7_1
     try clear hfz7_2
     try clear hfz7_3
     try clear hfz7_4
     try clear hfz7_5
     try clear hfz9_0
     try clear hfz9_1
     try clear hfz9_2
     try clear hfz9_3
     try clear hfz9_4
     try clear hfz9_5
     try clear p2
     obtain ⟨x5_2, rfl, HA, HK2, BK260, HB⟩ := hrel
     cases gk with
     | zero => exact absurd HA.out (by simp [hopperref20_Small.l0])
     | succ k2 =>
      have H := HA.out
      clear HA
      simp only [hopperref20_Small.l0] at H
      by_cases c14 : x5_2 < (l0_5.length : Int)
      ·rw [if_pos c14] at H
       have c14b0 : decide (x5_2 < (l0_5.length : Int)) = true := decide_eq_true c14
       clear c14
       by_cases c15 : 0 ≤ x5_2
       ·rw [if_pos c15] at H
        have c15b0 : decide (0 ≤ x5_2) = true := decide_eq_true c15
        clear c15
        replace H := Option.bind_eq_some_iff.mp H
        obtain ⟨t263, A160, H⟩ := H
        replace H : (if t263 = true then (hopperref20_Small.l0 k2 a1 (wrap64 (x5_2 + 1)) a0_0 a0_1 a0_2 a0_3 a0_4 l0_5) else (some false)) = some r := H
        have A16 := Aside0.mk A160
        clear A160
        by_cases c17 : t263 = true
        ·subst c17
         have H1 : (hopperref20_Small.l0 k2 a1 (wrap64 (x5_2 + 1)) a0_0 a0_1 a0_2 a0_3 a0_4 l0_5) = some r := by rw [if_pos rfl] at H; exact H
         clear H
         have H := H1
         clear H1
         have H' := Aside0.mk H
         clear H
         have hcz18_0 : wr.cell? ⟨gb260, 0, none⟩ = some (.int .i64 a0_0) := (blk_cell BK260.out 0).trans rfl
         have hcz18_1 : wr.cell? ⟨gb260, 1, none⟩ = some (.int .i64 a0_1) := (blk_cell BK260.out 1).trans rfl
         have hcz18_2 : wr.cell? ⟨gb260, 2, none⟩ = some (.string a0_2) := (blk_cell BK260.out 2).trans rfl
         have hcz18_3 : wr.cell? ⟨gb260, 3, none⟩ = some (.int .i64 a0_3) := (blk_cell BK260.out 3).trans rfl
         have hcz18_4 : wr.cell? ⟨gb260, 4, none⟩ = some (.int .i64 a0_4) := (blk_cell BK260.out 4).trans rfl
         have hcz18_5 : wr.cell? ⟨gb260, 5, none⟩ = some (.slice A0_5 l0_5.length c0_5) := (blk_cell BK260.out 5).trans rfl
         have hfz18_0 := blk_frozen BK260.out 0
         have hfz18_1 := blk_frozen BK260.out 1
         have hfz18_2 := blk_frozen BK260.out 2
         have hfz18_3 := blk_frozen BK260.out 3
         have hfz18_4 := blk_frozen BK260.out 4
         have hfz18_5 := blk_frozen BK260.out 5
         have p262 : 0 ≤ (x5_2 : Int) := of_decide_eq_true (by first | (with_reducible assumption) | assumption)
         have q262 : x5_2 < (l0_5.length : Int) := of_decide_eq_true (by first | (with_reducible assumption) | assumption)
         obtain ⟨ad262, A262_5, c262_5, e262, hx262_0, hx262_1, hx262_2, hx262_3, hx262_4, hx262_5, hl262_5, hi262_5⟩ := at_T50 HR0_5.out x5_2 p262 q262
         cases e262
         replace hx262_0 := (HB.out.cell (World.block_lt_of_cell? w _ hx262_0)).trans hx262_0
         replace hx262_1 := (HB.out.cell (World.block_lt_of_cell? w _ hx262_1)).trans hx262_1
         replace hx262_2 := (HB.out.cell (World.block_lt_of_cell? w _ hx262_2)).trans hx262_2
         replace hx262_3 := (HB.out.cell (World.block_lt_of_cell? w _ hx262_3)).trans hx262_3
         replace hx262_4 := (HB.out.cell (World.block_lt_of_cell? w _ hx262_4)).trans hx262_4
         replace hx262_5 := (HB.out.cell (World.block_lt_of_cell? w _ hx262_5)).trans hx262_5
         have HR262_5 := Aside0.mk hi262_5
         have HC262_5 := Aside0.mk hl262_5
         clear hi262_5 hl262_5
         replace p262 := eq_true p262
         replace q262 := eq_true q262
         go_wp2_with (first | ((with_reducible refine gate_callee (f := 21) rfl ?_); refine goesL_ (some 39) rfl rfl Try.func21 (by kernel_rfl) rfl #[.agg #[.int .i64 ((rd_T50 l0_5 x5_2).f0), .int .i64 ((rd_T50 l0_5 x5_2).f1), .string ((rd_T50 l0_5 x5_2).f2), .int .i64 ((rd_T50 l0_5 x5_2).f3), .int .i64 ((rd_T50 l0_5 x5_2).f4), .slice A262_5 ((rd_T50 l0_5 x5_2).f5).length c262_5], .int .i64 (wrap64 (a1 - 1))] rfl (by (try simp only [List.map_toArray, List.map_cons, List.map_nil]); first | done | rfl | (simp only [List.length_drop, List.length_take]; rfl)) ?_; (with_reducible refine (ih k2 (by have := HJ2.out; have := HK2.out; omega) ((rd_T50 l0_5 x5_2).f0) ((rd_T50 l0_5 x5_2).f1) ((rd_T50 l0_5 x5_2).f2) ((rd_T50 l0_5 x5_2).f3) ((rd_T50 l0_5 x5_2).f4) _ _ ((rd_T50 l0_5 x5_2).f5) (wrap64 (a1 - 1)) true _ ?side1 ?side2 A16.out).mono ?_); (case side1 => repeat (first | exact (Kd.C_below HR262_5.out HB.out) | (with_reducible refine Kd.C_alloc ?_ _) | (with_reducible refine Kd.C_drewN ?_ _) | (with_reducible refine Kd.C_drew ?_))); (case side2 => exact HC262_5.out); rintro e w19 ⟨rfl, hb⟩; refine ⟨_, rfl, ?_⟩; have n0_ := Aside0.mk (blk_below (g := gb260) (o := .cells #[.int .i64 a0_0, .int .i64 a0_1, .string a0_2, .int .i64 a0_3, .int .i64 a0_4, .slice (some ad262) l0_5.length c0_5] 50 (0, 0)) (by (with_reducible repeat (first | refine blk_drewN ?_ _ | refine blk_drew ?_ | refine blk_alloc ?_ _)); exact BK260.out) hb); have n1_ := Aside0.mk (below_step (by repeat (first | (with_reducible first | exact HB.out | apply below_alloc | apply pw_below_drewN | apply below_drew1 | refine below_set ?_ GE260.out) | exact HB.out)) hb); clear BK260; clear HB; have BK260 := n0_; have HB := n1_; clear n0_ n1_; (try clear hb); (try clear hb2); (try clear hk); (try clear hi)))
         go_roundg k2
         case measure => have := HJ2.out; have := HK2.out; omega
         case rel => exact ⟨(wrap64 (x5_2 + 1)), (by first | rfl | (simp; done) | (simp [*]; done)), H', ⟨by have := HJ2.out; have := HK2.out; omega⟩, ⟨by (with_reducible repeat (first | refine blk_drewN ?_ _ | refine blk_drew ?_ | refine blk_alloc ?_ _)); exact BK260.out⟩, ⟨by repeat (first | (with_reducible first | exact HB.out | apply below_alloc | apply pw_below_drewN | apply below_drew1 | refine below_set ?_ GE260.out) | exact HB.out)⟩⟩
        ·replace c17 := Bool.eq_false_iff.mpr c17
         subst c17
         have H1 : (some false) = some r := by rw [if_neg (show ¬ (false = true) by decide)] at H; exact H
         clear H
         have H := H1
         clear H1
         obtain rfl := Option.some.inj H
         have hcz20_0 : wr.cell? ⟨gb260, 0, none⟩ = some (.int .i64 a0_0) := (blk_cell BK260.out 0).trans rfl
         have hcz20_1 : wr.cell? ⟨gb260, 1, none⟩ = some (.int .i64 a0_1) := (blk_cell BK260.out 1).trans rfl
         have hcz20_2 : wr.cell? ⟨gb260, 2, none⟩ = some (.string a0_2) := (blk_cell BK260.out 2).trans rfl
         have hcz20_3 : wr.cell? ⟨gb260, 3, none⟩ = some (.int .i64 a0_3) := (blk_cell BK260.out 3).trans rfl
         have hcz20_4 : wr.cell? ⟨gb260, 4, none⟩ = some (.int .i64 a0_4) := (blk_cell BK260.out 4).trans rfl
         have hcz20_5 : wr.cell? ⟨gb260, 5, none⟩ = some (.slice A0_5 l0_5.length c0_5) := (blk_cell BK260.out 5).trans rfl
         have hfz20_0 := blk_frozen BK260.out 0
         have hfz20_1 := blk_frozen BK260.out 1
         have hfz20_2 := blk_frozen BK260.out 2
         have hfz20_3 := blk_frozen BK260.out 3
         have hfz20_4 := blk_frozen BK260.out 4
         have hfz20_5 := blk_frozen BK260.out 5
         have p262 : 0 ≤ (x5_2 : Int) := of_decide_eq_true (by first | (with_reducible assumption) | assumption)
         have q262 : x5_2 < (l0_5.length : Int) := of_decide_eq_true (by first | (with_reducible assumption) | assumption)
         obtain ⟨ad262, A262_5, c262_5, e262, hx262_0, hx262_1, hx262_2, hx262_3, hx262_4, hx262_5, hl262_5, hi262_5⟩ := at_T50 HR0_5.out x5_2 p262 q262
         cases e262
         replace hx262_0 := (HB.out.cell (World.block_lt_of_cell? w _ hx262_0)).trans hx262_0
         replace hx262_1 := (HB.out.cell (World.block_lt_of_cell? w _ hx262_1)).trans hx262_1
         replace hx262_2 := (HB.out.cell (World.block_lt_of_cell? w _ hx262_2)).trans hx262_2
         replace hx262_3 := (HB.out.cell (World.block_lt_of_cell? w _ hx262_3)).trans hx262_3
         replace hx262_4 := (HB.out.cell (World.block_lt_of_cell? w _ hx262_4)).trans hx262_4
         replace hx262_5 := (HB.out.cell (World.block_lt_of_cell? w _ hx262_5)).trans hx262_5
         have HR262_5 := Aside0.mk hi262_5
         have HC262_5 := Aside0.mk hl262_5
         clear hi262_5 hl262_5
         replace p262 := eq_true p262
         replace q262 := eq_true q262
         go_wp2_with (first | ((with_reducible refine gate_callee (f := 21) rfl ?_); refine goesL_ (some 39) rfl rfl Try.func21 (by kernel_rfl) rfl #[.agg #[.int .i64 ((rd_T50 l0_5 x5_2).f0), .int .i64 ((rd_T50 l0_5 x5_2).f1), .string ((rd_T50 l0_5 x5_2).f2), .int .i64 ((rd_T50 l0_5 x5_2).f3), .int .i64 ((rd_T50 l0_5 x5_2).f4), .slice A262_5 ((rd_T50 l0_5 x5_2).f5).length c262_5], .int .i64 (wrap64 (a1 - 1))] rfl (by (try simp only [List.map_toArray, List.map_cons, List.map_nil]); first | done | rfl | (simp only [List.length_drop, List.length_take]; rfl)) ?_; (with_reducible refine (ih k2 (by have := HJ2.out; have := HK2.out; omega) ((rd_T50 l0_5 x5_2).f0) ((rd_T50 l0_5 x5_2).f1) ((rd_T50 l0_5 x5_2).f2) ((rd_T50 l0_5 x5_2).f3) ((rd_T50 l0_5 x5_2).f4) _ _ ((rd_T50 l0_5 x5_2).f5) (wrap64 (a1 - 1)) false _ ?side1 ?side2 A16.out).mono ?_); (case side1 => repeat (first | exact (Kd.C_below HR262_5.out HB.out) | (with_reducible refine Kd.C_alloc ?_ _) | (with_reducible refine Kd.C_drewN ?_ _) | (with_reducible refine Kd.C_drew ?_))); (case side2 => exact HC262_5.out); rintro e w21 ⟨rfl, hb⟩; refine ⟨_, rfl, ?_⟩; have n0_ := Aside0.mk (blk_below (g := gb260) (o := .cells #[.int .i64 a0_0, .int .i64 a0_1, .string a0_2, .int .i64 a0_3, .int .i64 a0_4, .slice (some ad262) l0_5.length c0_5] 50 (0, 0)) (by (with_reducible repeat (first | refine blk_drewN ?_ _ | refine blk_drew ?_ | refine blk_alloc ?_ _)); exact BK260.out) hb); have n1_ := Aside0.mk (below_step (by repeat (first | (with_reducible first | exact HB.out | apply below_alloc | apply pw_below_drewN | apply below_drew1 | refine below_set ?_ GE260.out) | exact HB.out)) hb); clear BK260; clear HB; have BK260 := n0_; have HB := n1_; clear n0_ n1_; (try clear hb); (try clear hb2); (try clear hk); (try clear hi)))
         go_ret
         exact ⟨by first | rfl | (simp [errW_none, errW_some] <;> rfl) | (simp [*, errW_none, errW_some] <;> rfl) | exact congrArg (fun b_ => Ending.returned (.bool b_)) (decide_eq_decide.2 (by unfold wrap64; omega)), by repeat (first | (with_reducible first | exact HB.out | apply below_alloc | apply pw_below_drewN | apply below_drew1 | refine below_set ?_ GE260.out) | exact HB.out)⟩
       ·rw [if_neg c15] at H
        exact absurd H (by simp)
      ·rw [if_neg c14] at H
       have c14b0 : decide (x5_2 < (l0_5.length : Int)) = false := decide_eq_false c14
       clear c14
       obtain rfl := Option.some.inj H
       have hcz22_0 : wr.cell? ⟨gb260, 0, none⟩ = some (.int .i64 a0_0) := (blk_cell BK260.out 0).trans rfl
       have hcz22_1 : wr.cell? ⟨gb260, 1, none⟩ = some (.int .i64 a0_1) := (blk_cell BK260.out 1).trans rfl
       have hcz22_2 : wr.cell? ⟨gb260, 2, none⟩ = some (.string a0_2) := (blk_cell BK260.out 2).trans rfl
       have hcz22_3 : wr.cell? ⟨gb260, 3, none⟩ = some (.int .i64 a0_3) := (blk_cell BK260.out 3).trans rfl
       have hcz22_4 : wr.cell? ⟨gb260, 4, none⟩ = some (.int .i64 a0_4) := (blk_cell BK260.out 4).trans rfl
       have hcz22_5 : wr.cell? ⟨gb260, 5, none⟩ = some (.slice A0_5 l0_5.length c0_5) := (blk_cell BK260.out 5).trans rfl
       have hfz22_0 := blk_frozen BK260.out 0
       have hfz22_1 := blk_frozen BK260.out 1
       have hfz22_2 := blk_frozen BK260.out 2
       have hfz22_3 := blk_frozen BK260.out 3
       have hfz22_4 := blk_frozen BK260.out 4
       have hfz22_5 := blk_frozen BK260.out 5
       go_wp2
       go_ret
       exact ⟨by first | rfl | (simp [errW_none, errW_some] <;> rfl) | (simp [*, errW_none, errW_some] <;> rfl) | exact congrArg (fun b_ => Ending.returned (.bool b_)) (decide_eq_decide.2 (by unfold wrap64; omega)), by repeat (first | (with_reducible first | exact HB.out | apply below_alloc | apply pw_below_drewN | apply below_drew1 | refine below_set ?_ GE260.out) | exact HB.out)⟩

/-! ### hopperref25_Small: function 10 -/
-- told by hand
/-- What a plan's cells are. -/
theorem all_at (p : S31) (cs : List Value) (w : World) (hK : k31.K w p cs) : ∃ A8 c8 A9 c9 A10 c10 A12 c12 A13 c13 A14 c14 A17 c17 cp, cs[1]? = some (.string p.f1) ∧ cs[8]? = some (.slice A8 p.f3.length c8) ∧ cs[9]? = some (.slice A9 p.f4.length c9) ∧ cs[10]? = some (.slice A10 p.f5.length c10) ∧ cs[12]? = some (.slice A12 p.f7.length c12) ∧ cs[13]? = some (.slice A13 p.f8.length c13) ∧ cs[14]? = some (.slice A14 p.f9.length c14) ∧ cs[17]? = some (.slice A17 p.f12.length c17) ∧
  cp.length = 6 ∧ k24.K w p.f2 cp ∧ (∀ j v, cp[j]? = some v → cs[2 + j]? = some v) ∧ Kd.C k50 w A8 p.f3.length p.f3 ∧ Kd.C k31 w A17 p.f12.length p.f12 := by
 obtain ⟨A7, c7, A8, c8, A9, c9, A10, c10, A12, c12, A13, c13, A14, c14, A17, c17, e_, l7, g7, l8, g8, l9, g9, l10, g10, l12, g12, l13, g13, l14, g14, l17, g17⟩ := k31_open hK
 subst e_
 refine ⟨A8, c8, A9, c9, A10, c10, A12, c12, A13, c13, A14, c14, A17, c17, [.int .i64 p.f2.f0, .int .i64 p.f2.f1, .string p.f2.f2, .int .i64 p.f2.f3, .int .i64 p.f2.f4, .slice A7 p.f2.f5.length c7], rfl, rfl, rfl, rfl, rfl, rfl, rfl, rfl, rfl, k24_mk w p.f2 l7 g7, ?_, g8, g17⟩
 intro j v hj
 match j, hj with
 | 0, hj => exact hj
 | 1, hj => exact hj
 | 2, hj => exact hj
 | 3, hj => exact hj
 | 4, hj => exact hj
 | 5, hj => exact hj
 | j + 6, hj => simp at hj
def predSm (k : Nat) (p : S24) (d : Int) : Option Bool := hopperref16_Small.f k p.f0 p.f1 p.f2 p.f3 p.f4 p.f5 d
def exprSm (k : Nat) (x : S50) (d : Int) : Option Bool := hopperref20_Small.f k x.f0 x.f1 x.f2 x.f3 x.f4 x.f5 d
theorem predSm_at (k : Nat) (p : S24) (cs : List Value) (d : Int) (r : Bool) (w : World) (hK : k24.K w p cs) (h : predSm k p d = some r) : Calls Try.prog 20 #[.agg cs.toArray, .int .i64 d] w fun e w' => e = .returned (.bool r) ∧ Below w.heap.size w w' := by
 obtain ⟨A5, c5, e_, l5, g5⟩ := k24_open hK
 subst e_
 exact hopperref16_Small.calls k p.f0 p.f1 p.f2 p.f3 p.f4 _ _ p.f5 d r w g5 l5 h
theorem exprSm_at (k : Nat) (p : S50) (cs : List Value) (d : Int) (r : Bool) (w : World) (hK : k50.K w p cs) (h : exprSm k p d = some r) : Calls Try.prog 21 #[.agg cs.toArray, .int .i64 d] w fun e w' => e = .returned (.bool r) ∧ Below w.heap.size w w' := by
 obtain ⟨A5, c5, e_, l5, g5⟩ := k50_open hK
 subst e_
 exact hopperref20_Small.calls k p.f0 p.f1 p.f2 p.f3 p.f4 _ _ p.f5 d r w g5 l5 h
theorem expr_get (w : World) (A : Option Addr) (n : Nat) (xs : List S50) (h : Kd.C k50 w A n xs) (i : Nat) (hi : i < n) : ∃ ad c, A = some ad ∧ c.length = 6 ∧ k50.K w (xs.getD i z50) c ∧ ∀ j v, c[j]? = some v → w.cell? ((ad.add (i * 6)).add j) = some v := by
 obtain ⟨ad, c, e, hl, hK, hc0⟩ := Kd.C_get h z50 (i : Int) (by omega) (by omega)
 replace hK : k50.K w (xs.getD ((i : Int)).toNat z50) c := hK
 rw [show ((i : Int)).toNat = i by omega] at hK hc0
 exact ⟨ad, c, e, hl, hK, fun j v hj => by rw [addr_add]; exact hc0 j v hj⟩
theorem drop_get50 (l : List S50) (i : Nat) (h : i < l.length) : l.drop i = l.getD i z50 :: l.drop (i + 1) := by
 rw [List.drop_eq_getElem_cons h, List.getD_eq_getElem?_getD, List.getElem?_eq_getElem h]; rfl
def smallP : Nat → S31 → Int → Option Bool
 | 0, _, _ => none
 | k + 1, p, d => if d < 0 then some false else if 5 < p.f12.length then some false else (sizeP k p 60).bind fun n => if 40 < n then some false else (predSm k p.f2 20).bind fun b => if b = false then some false else
  if 12 < p.f3.length then some false else if 20 < p.f4.length then some false else if 20 < p.f5.length then some false else if 20 < p.f7.length then some false else if 20 < p.f8.length then some false else if 20 < p.f9.length then some false else if 100 < p.f1.size then some false else
  (allE (fun x => exprSm k x 20) p.f3).bind fun b => if b = true then allE (fun q => smallP k q (wrap64 (d - 1))) p.f12 else some false
def hopperref25_Small.f (k : Nat) (a0_0 : Int) (a0_1 : ByteArray) (a0_2 : Int) (a0_3 : Int) (a0_4 : ByteArray) (a0_5 : Int) (a0_6 : Int) (l0_7 : List S24) (l0_8 : List S50) (l0_9 : List Int) (l0_10 : List S72) (a0_11 : Int) (l0_12 : List Int) (l0_13 : List Int) (l0_14 : List S52) (a0_15 : Int) (a0_16 : Int) (l0_17 : List S31) (a1 : Int) : Option Bool := smallP k ⟨a0_0, a0_1, ⟨a0_2, a0_3, a0_4, a0_5, a0_6, l0_7⟩, l0_8, l0_9, l0_10, a0_11, l0_12, l0_13, l0_14, a0_15, a0_16, l0_17⟩ a1
set_option maxHeartbeats 8000000 in
set_option maxRecDepth 1000000 in
theorem hopperref25_Small.core (k : Nat) : ∀ (p : S31) (cs : List Value) (d : Int) (r : Bool) (w : World), k31.K w p cs → smallP k p d = some r →
  Calls Try.prog 10 #[.agg cs.toArray, .int .i64 d] w fun e w' => e = .returned (.bool r) ∧ Below w.heap.size w w' := by
 have hagg : ∀ W, (isAgg 31).run Try.prog W = .ok true W := fun W => by first | exact Try.isAgg31 | exact Try.isAgg31 W | go_simp
 have hsz18 : ∀ W, (sizeOf 31).run Try.prog W = .ok 18 W := fun W => by first | exact Try.sizeOf31 | exact Try.sizeOf31 W | go_simp
 have HAGG := Aside0.mk hagg
 have HSZ := Aside0.mk hsz18
 clear hagg hsz18
 have hagg24 : ∀ W, (isAgg 24).run Try.prog W = .ok true W := fun W => by first | exact Try.isAgg24 | exact Try.isAgg24 W | go_simp
 have hsz24 : ∀ W, (sizeOf 24).run Try.prog W = .ok 6 W := fun W => by first | exact Try.sizeOf24 | exact Try.sizeOf24 W | go_simp
 have hagg50 : ∀ W, (isAgg 50).run Try.prog W = .ok true W := fun W => by first | exact Try.isAgg50 | exact Try.isAgg50 W | go_simp
 have hsz50 : ∀ W, (sizeOf 50).run Try.prog W = .ok 6 W := fun W => by first | exact Try.sizeOf50 | exact Try.sizeOf50 W | go_simp
 have HAGG24 := Aside0.mk hagg24
 have HSZ24 := Aside0.mk hsz24
 have HAGG50 := Aside0.mk hagg50
 have HSZ50 := Aside0.mk hsz50
 clear hagg24 hsz24 hagg50 hsz50
 induction k with
 | zero => intro p cs d r w _ h; cases h
 | succ k ih =>
 intro p cs d r w hK h
 have hu31 := Try.underlying31
 unfold smallP at h
 obtain ⟨A8, c8, A9, c9, A10, c10, A12, c12, A13, c13, A14, c14, A17, c17, cp, h1, h8, h9, h10, h12, h13, h14, h17, hlp, hkp, hcp, hk8, hk17⟩ := all_at p cs w hK
 have hn : p.f12.length ≤ 9223372036854775807 := hk17.2.1
 have hn8 : p.f3.length ≤ 9223372036854775807 := hk8.2.1
 have HL18 := Aside0.mk (show cs.length = 18 from k31.K_len hK)
 have HK := Aside0.mk hK
 have HK17 := Aside0.mk hk17
 have HK8 := Aside0.mk hk8
 have HKP := Aside0.mk hkp
 have HLP := Aside0.mk hlp
 have HCP := Aside0.mk hcp
 have IH := Aside0.mk ih
 have H1 := Aside0.mk h1
 have H8 := Aside0.mk h8
 have H9 := Aside0.mk h9
 have H10 := Aside0.mk h10
 have H12 := Aside0.mk h12
 have H13 := Aside0.mk h13
 have H14 := Aside0.mk h14
 have H17 := Aside0.mk h17
 have HN := Aside0.mk hn
 have HN8 := Aside0.mk hn8
 clear hK hk17 hk8 hkp hlp hcp ih h1 h8 h9 h10 h12 h13 h14 h17 hn hn8
 by_cases q0 : d < 0
 ·rw [if_pos q0] at h
  obtain rfl := Option.some.inj h
  clear h
  have q0n : decide (d < 0) = true := decide_eq_true q0
  have q0i : decide (d < 0) = true := decide_eq_true (by omega)
  go_enter Try.func10, Try.ntmps10
  go_wp2_with (first | ((with_reducible refine gate_dst (N := 2) rfl ?_); refine box_all rfl rfl (cs := cs.toArray) rfl (fun W => by rw [List.size_toArray, HL18.out]; exact HSZ.out W) ?_; intro w1 hbx hbw; have BW1 := Aside0.mk hbw; have BX1 := Aside0.mk hbx; have hcv8 : w1.cell? ⟨w.heap.size, 8, none⟩ = some (.slice A8 p.f3.length c8) := blk_cells BX1.out 8 _ H8.out; have hcv9 : w1.cell? ⟨w.heap.size, 9, none⟩ = some (.slice A9 p.f4.length c9) := blk_cells BX1.out 9 _ H9.out; have hcv10 : w1.cell? ⟨w.heap.size, 10, none⟩ = some (.slice A10 p.f5.length c10) := blk_cells BX1.out 10 _ H10.out; have hcv12 : w1.cell? ⟨w.heap.size, 12, none⟩ = some (.slice A12 p.f7.length c12) := blk_cells BX1.out 12 _ H12.out; have hcv13 : w1.cell? ⟨w.heap.size, 13, none⟩ = some (.slice A13 p.f8.length c13) := blk_cells BX1.out 13 _ H13.out; have hcv14 : w1.cell? ⟨w.heap.size, 14, none⟩ = some (.slice A14 p.f9.length c14) := blk_cells BX1.out 14 _ H14.out; have hcv17 : w1.cell? ⟨w.heap.size, 17, none⟩ = some (.slice A17 p.f12.length c17) := blk_cells BX1.out 17 _ H17.out; have hcv1 : w1.cell? ⟨w.heap.size, 1, none⟩ = some (.string p.f1) := blk_cells BX1.out 1 _ H1.out; clear hbx hbw) | ((with_reducible refine gate_dst (N := 16) rfl ?_); (try (refine gate_guard (by rfl) ?_; dsimp only)); refine load_all rfl rfl (cs := cs) rfl HAGG.out (fun W => by rw [HL18.out]; exact HSZ.out W) (blk_cells BX1.out) ?_) | (go_at_call 19; refine (HSZC.out _ BW1.out).mono ?_; rintro e w4 ⟨rfl, hb4⟩; have HB4 := Aside0.mk (below_step BW1.out hb4); have BX4 := Aside0.mk ((hb4.block w.heap.size (Array.getElem?_eq_some_iff.1 BX1.out).1).trans BX1.out); clear hb4 BW1 BX1 HSZC; clear hcv8 hcv9 hcv10 hcv12 hcv13 hcv14 hcv17 hcv1; have hcv8 : w4.cell? ⟨w.heap.size, 8, none⟩ = some (.slice A8 p.f3.length c8) := blk_cells BX4.out 8 _ H8.out; have hcv9 : w4.cell? ⟨w.heap.size, 9, none⟩ = some (.slice A9 p.f4.length c9) := blk_cells BX4.out 9 _ H9.out; have hcv10 : w4.cell? ⟨w.heap.size, 10, none⟩ = some (.slice A10 p.f5.length c10) := blk_cells BX4.out 10 _ H10.out; have hcv12 : w4.cell? ⟨w.heap.size, 12, none⟩ = some (.slice A12 p.f7.length c12) := blk_cells BX4.out 12 _ H12.out; have hcv13 : w4.cell? ⟨w.heap.size, 13, none⟩ = some (.slice A13 p.f8.length c13) := blk_cells BX4.out 13 _ H13.out; have hcv14 : w4.cell? ⟨w.heap.size, 14, none⟩ = some (.slice A14 p.f9.length c14) := blk_cells BX4.out 14 _ H14.out; have hcv17 : w4.cell? ⟨w.heap.size, 17, none⟩ = some (.slice A17 p.f12.length c17) := blk_cells BX4.out 17 _ H17.out; have hcv1 : w4.cell? ⟨w.heap.size, 1, none⟩ = some (.string p.f1) := blk_cells BX4.out 1 _ H1.out) | ((with_reducible refine gate_dst (N := 22) rfl ?_); (try (refine gate_guard (by rfl) ?_; dsimp only)); refine load_all rfl rfl (cs := cp) rfl HAGG24.out (fun W => by rw [HLP.out]; exact HSZ24.out W) (blk_cells_off BX4.out HCP.out) ?_) | (go_at_call 20; refine (HPSC.out _ HB4.out).mono ?_; rintro e w5 ⟨rfl, hb5⟩; have HB5 := Aside0.mk (below_step HB4.out hb5); have BX5 := Aside0.mk ((hb5.block w.heap.size (Array.getElem?_eq_some_iff.1 BX4.out).1).trans BX4.out); clear hb5 HB4 BX4 HPSC; clear hcv8 hcv9 hcv10 hcv12 hcv13 hcv14 hcv17 hcv1; have hcv8 : w5.cell? ⟨w.heap.size, 8, none⟩ = some (.slice A8 p.f3.length c8) := blk_cells BX5.out 8 _ H8.out; have hcv9 : w5.cell? ⟨w.heap.size, 9, none⟩ = some (.slice A9 p.f4.length c9) := blk_cells BX5.out 9 _ H9.out; have hcv10 : w5.cell? ⟨w.heap.size, 10, none⟩ = some (.slice A10 p.f5.length c10) := blk_cells BX5.out 10 _ H10.out; have hcv12 : w5.cell? ⟨w.heap.size, 12, none⟩ = some (.slice A12 p.f7.length c12) := blk_cells BX5.out 12 _ H12.out; have hcv13 : w5.cell? ⟨w.heap.size, 13, none⟩ = some (.slice A13 p.f8.length c13) := blk_cells BX5.out 13 _ H13.out; have hcv14 : w5.cell? ⟨w.heap.size, 14, none⟩ = some (.slice A14 p.f9.length c14) := blk_cells BX5.out 14 _ H14.out; have hcv17 : w5.cell? ⟨w.heap.size, 17, none⟩ = some (.slice A17 p.f12.length c17) := blk_cells BX5.out 17 _ H17.out; have hcv1 : w5.cell? ⟨w.heap.size, 1, none⟩ = some (.string p.f1) := blk_cells BX5.out 1 _ H1.out))
  go_ret
  exact ⟨rfl, BW1.out⟩
 rw [if_neg q0] at h
 have q0n : decide (d < 0) = false := decide_eq_false q0
 have q0i : decide (d < 0) = false := decide_eq_false (by omega)
 by_cases q1 : 5 < p.f12.length
 ·rw [if_pos q1] at h
  obtain rfl := Option.some.inj h
  clear h
  have q1n : decide (5 < p.f12.length) = true := decide_eq_true q1
  have q1i : decide ((5 : Int) < (p.f12.length : Int)) = true := decide_eq_true (by omega)
  go_enter Try.func10, Try.ntmps10
  go_wp2_with (first | ((with_reducible refine gate_dst (N := 2) rfl ?_); refine box_all rfl rfl (cs := cs.toArray) rfl (fun W => by rw [List.size_toArray, HL18.out]; exact HSZ.out W) ?_; intro w1 hbx hbw; have BW1 := Aside0.mk hbw; have BX1 := Aside0.mk hbx; have hcv8 : w1.cell? ⟨w.heap.size, 8, none⟩ = some (.slice A8 p.f3.length c8) := blk_cells BX1.out 8 _ H8.out; have hcv9 : w1.cell? ⟨w.heap.size, 9, none⟩ = some (.slice A9 p.f4.length c9) := blk_cells BX1.out 9 _ H9.out; have hcv10 : w1.cell? ⟨w.heap.size, 10, none⟩ = some (.slice A10 p.f5.length c10) := blk_cells BX1.out 10 _ H10.out; have hcv12 : w1.cell? ⟨w.heap.size, 12, none⟩ = some (.slice A12 p.f7.length c12) := blk_cells BX1.out 12 _ H12.out; have hcv13 : w1.cell? ⟨w.heap.size, 13, none⟩ = some (.slice A13 p.f8.length c13) := blk_cells BX1.out 13 _ H13.out; have hcv14 : w1.cell? ⟨w.heap.size, 14, none⟩ = some (.slice A14 p.f9.length c14) := blk_cells BX1.out 14 _ H14.out; have hcv17 : w1.cell? ⟨w.heap.size, 17, none⟩ = some (.slice A17 p.f12.length c17) := blk_cells BX1.out 17 _ H17.out; have hcv1 : w1.cell? ⟨w.heap.size, 1, none⟩ = some (.string p.f1) := blk_cells BX1.out 1 _ H1.out; clear hbx hbw) | ((with_reducible refine gate_dst (N := 16) rfl ?_); (try (refine gate_guard (by rfl) ?_; dsimp only)); refine load_all rfl rfl (cs := cs) rfl HAGG.out (fun W => by rw [HL18.out]; exact HSZ.out W) (blk_cells BX1.out) ?_) | (go_at_call 19; refine (HSZC.out _ BW1.out).mono ?_; rintro e w4 ⟨rfl, hb4⟩; have HB4 := Aside0.mk (below_step BW1.out hb4); have BX4 := Aside0.mk ((hb4.block w.heap.size (Array.getElem?_eq_some_iff.1 BX1.out).1).trans BX1.out); clear hb4 BW1 BX1 HSZC; clear hcv8 hcv9 hcv10 hcv12 hcv13 hcv14 hcv17 hcv1; have hcv8 : w4.cell? ⟨w.heap.size, 8, none⟩ = some (.slice A8 p.f3.length c8) := blk_cells BX4.out 8 _ H8.out; have hcv9 : w4.cell? ⟨w.heap.size, 9, none⟩ = some (.slice A9 p.f4.length c9) := blk_cells BX4.out 9 _ H9.out; have hcv10 : w4.cell? ⟨w.heap.size, 10, none⟩ = some (.slice A10 p.f5.length c10) := blk_cells BX4.out 10 _ H10.out; have hcv12 : w4.cell? ⟨w.heap.size, 12, none⟩ = some (.slice A12 p.f7.length c12) := blk_cells BX4.out 12 _ H12.out; have hcv13 : w4.cell? ⟨w.heap.size, 13, none⟩ = some (.slice A13 p.f8.length c13) := blk_cells BX4.out 13 _ H13.out; have hcv14 : w4.cell? ⟨w.heap.size, 14, none⟩ = some (.slice A14 p.f9.length c14) := blk_cells BX4.out 14 _ H14.out; have hcv17 : w4.cell? ⟨w.heap.size, 17, none⟩ = some (.slice A17 p.f12.length c17) := blk_cells BX4.out 17 _ H17.out; have hcv1 : w4.cell? ⟨w.heap.size, 1, none⟩ = some (.string p.f1) := blk_cells BX4.out 1 _ H1.out) | ((with_reducible refine gate_dst (N := 22) rfl ?_); (try (refine gate_guard (by rfl) ?_; dsimp only)); refine load_all rfl rfl (cs := cp) rfl HAGG24.out (fun W => by rw [HLP.out]; exact HSZ24.out W) (blk_cells_off BX4.out HCP.out) ?_) | (go_at_call 20; refine (HPSC.out _ HB4.out).mono ?_; rintro e w5 ⟨rfl, hb5⟩; have HB5 := Aside0.mk (below_step HB4.out hb5); have BX5 := Aside0.mk ((hb5.block w.heap.size (Array.getElem?_eq_some_iff.1 BX4.out).1).trans BX4.out); clear hb5 HB4 BX4 HPSC; clear hcv8 hcv9 hcv10 hcv12 hcv13 hcv14 hcv17 hcv1; have hcv8 : w5.cell? ⟨w.heap.size, 8, none⟩ = some (.slice A8 p.f3.length c8) := blk_cells BX5.out 8 _ H8.out; have hcv9 : w5.cell? ⟨w.heap.size, 9, none⟩ = some (.slice A9 p.f4.length c9) := blk_cells BX5.out 9 _ H9.out; have hcv10 : w5.cell? ⟨w.heap.size, 10, none⟩ = some (.slice A10 p.f5.length c10) := blk_cells BX5.out 10 _ H10.out; have hcv12 : w5.cell? ⟨w.heap.size, 12, none⟩ = some (.slice A12 p.f7.length c12) := blk_cells BX5.out 12 _ H12.out; have hcv13 : w5.cell? ⟨w.heap.size, 13, none⟩ = some (.slice A13 p.f8.length c13) := blk_cells BX5.out 13 _ H13.out; have hcv14 : w5.cell? ⟨w.heap.size, 14, none⟩ = some (.slice A14 p.f9.length c14) := blk_cells BX5.out 14 _ H14.out; have hcv17 : w5.cell? ⟨w.heap.size, 17, none⟩ = some (.slice A17 p.f12.length c17) := blk_cells BX5.out 17 _ H17.out; have hcv1 : w5.cell? ⟨w.heap.size, 1, none⟩ = some (.string p.f1) := blk_cells BX5.out 1 _ H1.out))
  go_ret
  exact ⟨rfl, BW1.out⟩
 rw [if_neg q1] at h
 have q1n : decide (5 < p.f12.length) = false := decide_eq_false q1
 have q1i : decide ((5 : Int) < (p.f12.length : Int)) = false := decide_eq_false (by omega)
 obtain ⟨n, hsn, h⟩ := Option.bind_eq_some_iff.1 h
 have HSZC := Aside0.mk (fun W (hb : Below w.heap.size w W) => hopperref25_Size.core k p cs 60 n W (k31.K_below hb HK.out) hsn)
 clear hsn
 by_cases q2 : 40 < n
 ·rw [if_pos q2] at h
  obtain rfl := Option.some.inj h
  clear h
  have q2n : decide (40 < n) = true := decide_eq_true q2
  have q2i : decide ((40 : Int) < (n : Int)) = true := decide_eq_true (by omega)
  go_enter Try.func10, Try.ntmps10
  go_wp2_with (first | ((with_reducible refine gate_dst (N := 2) rfl ?_); refine box_all rfl rfl (cs := cs.toArray) rfl (fun W => by rw [List.size_toArray, HL18.out]; exact HSZ.out W) ?_; intro w1 hbx hbw; have BW1 := Aside0.mk hbw; have BX1 := Aside0.mk hbx; have hcv8 : w1.cell? ⟨w.heap.size, 8, none⟩ = some (.slice A8 p.f3.length c8) := blk_cells BX1.out 8 _ H8.out; have hcv9 : w1.cell? ⟨w.heap.size, 9, none⟩ = some (.slice A9 p.f4.length c9) := blk_cells BX1.out 9 _ H9.out; have hcv10 : w1.cell? ⟨w.heap.size, 10, none⟩ = some (.slice A10 p.f5.length c10) := blk_cells BX1.out 10 _ H10.out; have hcv12 : w1.cell? ⟨w.heap.size, 12, none⟩ = some (.slice A12 p.f7.length c12) := blk_cells BX1.out 12 _ H12.out; have hcv13 : w1.cell? ⟨w.heap.size, 13, none⟩ = some (.slice A13 p.f8.length c13) := blk_cells BX1.out 13 _ H13.out; have hcv14 : w1.cell? ⟨w.heap.size, 14, none⟩ = some (.slice A14 p.f9.length c14) := blk_cells BX1.out 14 _ H14.out; have hcv17 : w1.cell? ⟨w.heap.size, 17, none⟩ = some (.slice A17 p.f12.length c17) := blk_cells BX1.out 17 _ H17.out; have hcv1 : w1.cell? ⟨w.heap.size, 1, none⟩ = some (.string p.f1) := blk_cells BX1.out 1 _ H1.out; clear hbx hbw) | ((with_reducible refine gate_dst (N := 16) rfl ?_); (try (refine gate_guard (by rfl) ?_; dsimp only)); refine load_all rfl rfl (cs := cs) rfl HAGG.out (fun W => by rw [HL18.out]; exact HSZ.out W) (blk_cells BX1.out) ?_) | (go_at_call 19; refine (HSZC.out _ BW1.out).mono ?_; rintro e w4 ⟨rfl, hb4⟩; have HB4 := Aside0.mk (below_step BW1.out hb4); have BX4 := Aside0.mk ((hb4.block w.heap.size (Array.getElem?_eq_some_iff.1 BX1.out).1).trans BX1.out); clear hb4 BW1 BX1 HSZC; clear hcv8 hcv9 hcv10 hcv12 hcv13 hcv14 hcv17 hcv1; have hcv8 : w4.cell? ⟨w.heap.size, 8, none⟩ = some (.slice A8 p.f3.length c8) := blk_cells BX4.out 8 _ H8.out; have hcv9 : w4.cell? ⟨w.heap.size, 9, none⟩ = some (.slice A9 p.f4.length c9) := blk_cells BX4.out 9 _ H9.out; have hcv10 : w4.cell? ⟨w.heap.size, 10, none⟩ = some (.slice A10 p.f5.length c10) := blk_cells BX4.out 10 _ H10.out; have hcv12 : w4.cell? ⟨w.heap.size, 12, none⟩ = some (.slice A12 p.f7.length c12) := blk_cells BX4.out 12 _ H12.out; have hcv13 : w4.cell? ⟨w.heap.size, 13, none⟩ = some (.slice A13 p.f8.length c13) := blk_cells BX4.out 13 _ H13.out; have hcv14 : w4.cell? ⟨w.heap.size, 14, none⟩ = some (.slice A14 p.f9.length c14) := blk_cells BX4.out 14 _ H14.out; have hcv17 : w4.cell? ⟨w.heap.size, 17, none⟩ = some (.slice A17 p.f12.length c17) := blk_cells BX4.out 17 _ H17.out; have hcv1 : w4.cell? ⟨w.heap.size, 1, none⟩ = some (.string p.f1) := blk_cells BX4.out 1 _ H1.out) | ((with_reducible refine gate_dst (N := 22) rfl ?_); (try (refine gate_guard (by rfl) ?_; dsimp only)); refine load_all rfl rfl (cs := cp) rfl HAGG24.out (fun W => by rw [HLP.out]; exact HSZ24.out W) (blk_cells_off BX4.out HCP.out) ?_) | (go_at_call 20; refine (HPSC.out _ HB4.out).mono ?_; rintro e w5 ⟨rfl, hb5⟩; have HB5 := Aside0.mk (below_step HB4.out hb5); have BX5 := Aside0.mk ((hb5.block w.heap.size (Array.getElem?_eq_some_iff.1 BX4.out).1).trans BX4.out); clear hb5 HB4 BX4 HPSC; clear hcv8 hcv9 hcv10 hcv12 hcv13 hcv14 hcv17 hcv1; have hcv8 : w5.cell? ⟨w.heap.size, 8, none⟩ = some (.slice A8 p.f3.length c8) := blk_cells BX5.out 8 _ H8.out; have hcv9 : w5.cell? ⟨w.heap.size, 9, none⟩ = some (.slice A9 p.f4.length c9) := blk_cells BX5.out 9 _ H9.out; have hcv10 : w5.cell? ⟨w.heap.size, 10, none⟩ = some (.slice A10 p.f5.length c10) := blk_cells BX5.out 10 _ H10.out; have hcv12 : w5.cell? ⟨w.heap.size, 12, none⟩ = some (.slice A12 p.f7.length c12) := blk_cells BX5.out 12 _ H12.out; have hcv13 : w5.cell? ⟨w.heap.size, 13, none⟩ = some (.slice A13 p.f8.length c13) := blk_cells BX5.out 13 _ H13.out; have hcv14 : w5.cell? ⟨w.heap.size, 14, none⟩ = some (.slice A14 p.f9.length c14) := blk_cells BX5.out 14 _ H14.out; have hcv17 : w5.cell? ⟨w.heap.size, 17, none⟩ = some (.slice A17 p.f12.length c17) := blk_cells BX5.out 17 _ H17.out; have hcv1 : w5.cell? ⟨w.heap.size, 1, none⟩ = some (.string p.f1) := blk_cells BX5.out 1 _ H1.out))
  go_ret
  exact ⟨rfl, HB4.out⟩
 rw [if_neg q2] at h
 have q2n : decide (40 < n) = false := decide_eq_false q2
 have q2i : decide ((40 : Int) < (n : Int)) = false := decide_eq_false (by omega)
 obtain ⟨b, hpb, h⟩ := Option.bind_eq_some_iff.1 h
 have HPSC := Aside0.mk (fun W (hb : Below w.heap.size w W) => predSm_at k p.f2 cp 20 b W (k24.K_below hb HKP.out) hpb)
 clear hpb
 cases b with
 | false =>
  rw [if_pos rfl] at h
  obtain rfl := Option.some.inj h
  clear h
  go_enter Try.func10, Try.ntmps10
  go_wp2_with (first | ((with_reducible refine gate_dst (N := 2) rfl ?_); refine box_all rfl rfl (cs := cs.toArray) rfl (fun W => by rw [List.size_toArray, HL18.out]; exact HSZ.out W) ?_; intro w1 hbx hbw; have BW1 := Aside0.mk hbw; have BX1 := Aside0.mk hbx; have hcv8 : w1.cell? ⟨w.heap.size, 8, none⟩ = some (.slice A8 p.f3.length c8) := blk_cells BX1.out 8 _ H8.out; have hcv9 : w1.cell? ⟨w.heap.size, 9, none⟩ = some (.slice A9 p.f4.length c9) := blk_cells BX1.out 9 _ H9.out; have hcv10 : w1.cell? ⟨w.heap.size, 10, none⟩ = some (.slice A10 p.f5.length c10) := blk_cells BX1.out 10 _ H10.out; have hcv12 : w1.cell? ⟨w.heap.size, 12, none⟩ = some (.slice A12 p.f7.length c12) := blk_cells BX1.out 12 _ H12.out; have hcv13 : w1.cell? ⟨w.heap.size, 13, none⟩ = some (.slice A13 p.f8.length c13) := blk_cells BX1.out 13 _ H13.out; have hcv14 : w1.cell? ⟨w.heap.size, 14, none⟩ = some (.slice A14 p.f9.length c14) := blk_cells BX1.out 14 _ H14.out; have hcv17 : w1.cell? ⟨w.heap.size, 17, none⟩ = some (.slice A17 p.f12.length c17) := blk_cells BX1.out 17 _ H17.out; have hcv1 : w1.cell? ⟨w.heap.size, 1, none⟩ = some (.string p.f1) := blk_cells BX1.out 1 _ H1.out; clear hbx hbw) | ((with_reducible refine gate_dst (N := 16) rfl ?_); (try (refine gate_guard (by rfl) ?_; dsimp only)); refine load_all rfl rfl (cs := cs) rfl HAGG.out (fun W => by rw [HL18.out]; exact HSZ.out W) (blk_cells BX1.out) ?_) | (go_at_call 19; refine (HSZC.out _ BW1.out).mono ?_; rintro e w4 ⟨rfl, hb4⟩; have HB4 := Aside0.mk (below_step BW1.out hb4); have BX4 := Aside0.mk ((hb4.block w.heap.size (Array.getElem?_eq_some_iff.1 BX1.out).1).trans BX1.out); clear hb4 BW1 BX1 HSZC; clear hcv8 hcv9 hcv10 hcv12 hcv13 hcv14 hcv17 hcv1; have hcv8 : w4.cell? ⟨w.heap.size, 8, none⟩ = some (.slice A8 p.f3.length c8) := blk_cells BX4.out 8 _ H8.out; have hcv9 : w4.cell? ⟨w.heap.size, 9, none⟩ = some (.slice A9 p.f4.length c9) := blk_cells BX4.out 9 _ H9.out; have hcv10 : w4.cell? ⟨w.heap.size, 10, none⟩ = some (.slice A10 p.f5.length c10) := blk_cells BX4.out 10 _ H10.out; have hcv12 : w4.cell? ⟨w.heap.size, 12, none⟩ = some (.slice A12 p.f7.length c12) := blk_cells BX4.out 12 _ H12.out; have hcv13 : w4.cell? ⟨w.heap.size, 13, none⟩ = some (.slice A13 p.f8.length c13) := blk_cells BX4.out 13 _ H13.out; have hcv14 : w4.cell? ⟨w.heap.size, 14, none⟩ = some (.slice A14 p.f9.length c14) := blk_cells BX4.out 14 _ H14.out; have hcv17 : w4.cell? ⟨w.heap.size, 17, none⟩ = some (.slice A17 p.f12.length c17) := blk_cells BX4.out 17 _ H17.out; have hcv1 : w4.cell? ⟨w.heap.size, 1, none⟩ = some (.string p.f1) := blk_cells BX4.out 1 _ H1.out) | ((with_reducible refine gate_dst (N := 22) rfl ?_); (try (refine gate_guard (by rfl) ?_; dsimp only)); refine load_all rfl rfl (cs := cp) rfl HAGG24.out (fun W => by rw [HLP.out]; exact HSZ24.out W) (blk_cells_off BX4.out HCP.out) ?_) | (go_at_call 20; refine (HPSC.out _ HB4.out).mono ?_; rintro e w5 ⟨rfl, hb5⟩; have HB5 := Aside0.mk (below_step HB4.out hb5); have BX5 := Aside0.mk ((hb5.block w.heap.size (Array.getElem?_eq_some_iff.1 BX4.out).1).trans BX4.out); clear hb5 HB4 BX4 HPSC; clear hcv8 hcv9 hcv10 hcv12 hcv13 hcv14 hcv17 hcv1; have hcv8 : w5.cell? ⟨w.heap.size, 8, none⟩ = some (.slice A8 p.f3.length c8) := blk_cells BX5.out 8 _ H8.out; have hcv9 : w5.cell? ⟨w.heap.size, 9, none⟩ = some (.slice A9 p.f4.length c9) := blk_cells BX5.out 9 _ H9.out; have hcv10 : w5.cell? ⟨w.heap.size, 10, none⟩ = some (.slice A10 p.f5.length c10) := blk_cells BX5.out 10 _ H10.out; have hcv12 : w5.cell? ⟨w.heap.size, 12, none⟩ = some (.slice A12 p.f7.length c12) := blk_cells BX5.out 12 _ H12.out; have hcv13 : w5.cell? ⟨w.heap.size, 13, none⟩ = some (.slice A13 p.f8.length c13) := blk_cells BX5.out 13 _ H13.out; have hcv14 : w5.cell? ⟨w.heap.size, 14, none⟩ = some (.slice A14 p.f9.length c14) := blk_cells BX5.out 14 _ H14.out; have hcv17 : w5.cell? ⟨w.heap.size, 17, none⟩ = some (.slice A17 p.f12.length c17) := blk_cells BX5.out 17 _ H17.out; have hcv1 : w5.cell? ⟨w.heap.size, 1, none⟩ = some (.string p.f1) := blk_cells BX5.out 1 _ H1.out))
  go_ret
  exact ⟨rfl, HB5.out⟩
 | true =>
 rw [if_neg (by decide)] at h
 by_cases q3 : 12 < p.f3.length
 ·rw [if_pos q3] at h
  obtain rfl := Option.some.inj h
  clear h
  have q3n : decide (12 < p.f3.length) = true := decide_eq_true q3
  have q3i : decide ((12 : Int) < (p.f3.length : Int)) = true := decide_eq_true (by omega)
  go_enter Try.func10, Try.ntmps10
  go_wp2_with (first | ((with_reducible refine gate_dst (N := 2) rfl ?_); refine box_all rfl rfl (cs := cs.toArray) rfl (fun W => by rw [List.size_toArray, HL18.out]; exact HSZ.out W) ?_; intro w1 hbx hbw; have BW1 := Aside0.mk hbw; have BX1 := Aside0.mk hbx; have hcv8 : w1.cell? ⟨w.heap.size, 8, none⟩ = some (.slice A8 p.f3.length c8) := blk_cells BX1.out 8 _ H8.out; have hcv9 : w1.cell? ⟨w.heap.size, 9, none⟩ = some (.slice A9 p.f4.length c9) := blk_cells BX1.out 9 _ H9.out; have hcv10 : w1.cell? ⟨w.heap.size, 10, none⟩ = some (.slice A10 p.f5.length c10) := blk_cells BX1.out 10 _ H10.out; have hcv12 : w1.cell? ⟨w.heap.size, 12, none⟩ = some (.slice A12 p.f7.length c12) := blk_cells BX1.out 12 _ H12.out; have hcv13 : w1.cell? ⟨w.heap.size, 13, none⟩ = some (.slice A13 p.f8.length c13) := blk_cells BX1.out 13 _ H13.out; have hcv14 : w1.cell? ⟨w.heap.size, 14, none⟩ = some (.slice A14 p.f9.length c14) := blk_cells BX1.out 14 _ H14.out; have hcv17 : w1.cell? ⟨w.heap.size, 17, none⟩ = some (.slice A17 p.f12.length c17) := blk_cells BX1.out 17 _ H17.out; have hcv1 : w1.cell? ⟨w.heap.size, 1, none⟩ = some (.string p.f1) := blk_cells BX1.out 1 _ H1.out; clear hbx hbw) | ((with_reducible refine gate_dst (N := 16) rfl ?_); (try (refine gate_guard (by rfl) ?_; dsimp only)); refine load_all rfl rfl (cs := cs) rfl HAGG.out (fun W => by rw [HL18.out]; exact HSZ.out W) (blk_cells BX1.out) ?_) | (go_at_call 19; refine (HSZC.out _ BW1.out).mono ?_; rintro e w4 ⟨rfl, hb4⟩; have HB4 := Aside0.mk (below_step BW1.out hb4); have BX4 := Aside0.mk ((hb4.block w.heap.size (Array.getElem?_eq_some_iff.1 BX1.out).1).trans BX1.out); clear hb4 BW1 BX1 HSZC; clear hcv8 hcv9 hcv10 hcv12 hcv13 hcv14 hcv17 hcv1; have hcv8 : w4.cell? ⟨w.heap.size, 8, none⟩ = some (.slice A8 p.f3.length c8) := blk_cells BX4.out 8 _ H8.out; have hcv9 : w4.cell? ⟨w.heap.size, 9, none⟩ = some (.slice A9 p.f4.length c9) := blk_cells BX4.out 9 _ H9.out; have hcv10 : w4.cell? ⟨w.heap.size, 10, none⟩ = some (.slice A10 p.f5.length c10) := blk_cells BX4.out 10 _ H10.out; have hcv12 : w4.cell? ⟨w.heap.size, 12, none⟩ = some (.slice A12 p.f7.length c12) := blk_cells BX4.out 12 _ H12.out; have hcv13 : w4.cell? ⟨w.heap.size, 13, none⟩ = some (.slice A13 p.f8.length c13) := blk_cells BX4.out 13 _ H13.out; have hcv14 : w4.cell? ⟨w.heap.size, 14, none⟩ = some (.slice A14 p.f9.length c14) := blk_cells BX4.out 14 _ H14.out; have hcv17 : w4.cell? ⟨w.heap.size, 17, none⟩ = some (.slice A17 p.f12.length c17) := blk_cells BX4.out 17 _ H17.out; have hcv1 : w4.cell? ⟨w.heap.size, 1, none⟩ = some (.string p.f1) := blk_cells BX4.out 1 _ H1.out) | ((with_reducible refine gate_dst (N := 22) rfl ?_); (try (refine gate_guard (by rfl) ?_; dsimp only)); refine load_all rfl rfl (cs := cp) rfl HAGG24.out (fun W => by rw [HLP.out]; exact HSZ24.out W) (blk_cells_off BX4.out HCP.out) ?_) | (go_at_call 20; refine (HPSC.out _ HB4.out).mono ?_; rintro e w5 ⟨rfl, hb5⟩; have HB5 := Aside0.mk (below_step HB4.out hb5); have BX5 := Aside0.mk ((hb5.block w.heap.size (Array.getElem?_eq_some_iff.1 BX4.out).1).trans BX4.out); clear hb5 HB4 BX4 HPSC; clear hcv8 hcv9 hcv10 hcv12 hcv13 hcv14 hcv17 hcv1; have hcv8 : w5.cell? ⟨w.heap.size, 8, none⟩ = some (.slice A8 p.f3.length c8) := blk_cells BX5.out 8 _ H8.out; have hcv9 : w5.cell? ⟨w.heap.size, 9, none⟩ = some (.slice A9 p.f4.length c9) := blk_cells BX5.out 9 _ H9.out; have hcv10 : w5.cell? ⟨w.heap.size, 10, none⟩ = some (.slice A10 p.f5.length c10) := blk_cells BX5.out 10 _ H10.out; have hcv12 : w5.cell? ⟨w.heap.size, 12, none⟩ = some (.slice A12 p.f7.length c12) := blk_cells BX5.out 12 _ H12.out; have hcv13 : w5.cell? ⟨w.heap.size, 13, none⟩ = some (.slice A13 p.f8.length c13) := blk_cells BX5.out 13 _ H13.out; have hcv14 : w5.cell? ⟨w.heap.size, 14, none⟩ = some (.slice A14 p.f9.length c14) := blk_cells BX5.out 14 _ H14.out; have hcv17 : w5.cell? ⟨w.heap.size, 17, none⟩ = some (.slice A17 p.f12.length c17) := blk_cells BX5.out 17 _ H17.out; have hcv1 : w5.cell? ⟨w.heap.size, 1, none⟩ = some (.string p.f1) := blk_cells BX5.out 1 _ H1.out))
  go_ret
  exact ⟨rfl, HB5.out⟩
 rw [if_neg q3] at h
 have q3n : decide (12 < p.f3.length) = false := decide_eq_false q3
 have q3i : decide ((12 : Int) < (p.f3.length : Int)) = false := decide_eq_false (by omega)
 by_cases q4 : 20 < p.f4.length
 ·rw [if_pos q4] at h
  obtain rfl := Option.some.inj h
  clear h
  have q4n : decide (20 < p.f4.length) = true := decide_eq_true q4
  have q4i : decide ((20 : Int) < (p.f4.length : Int)) = true := decide_eq_true (by omega)
  go_enter Try.func10, Try.ntmps10
  go_wp2_with (first | ((with_reducible refine gate_dst (N := 2) rfl ?_); refine box_all rfl rfl (cs := cs.toArray) rfl (fun W => by rw [List.size_toArray, HL18.out]; exact HSZ.out W) ?_; intro w1 hbx hbw; have BW1 := Aside0.mk hbw; have BX1 := Aside0.mk hbx; have hcv8 : w1.cell? ⟨w.heap.size, 8, none⟩ = some (.slice A8 p.f3.length c8) := blk_cells BX1.out 8 _ H8.out; have hcv9 : w1.cell? ⟨w.heap.size, 9, none⟩ = some (.slice A9 p.f4.length c9) := blk_cells BX1.out 9 _ H9.out; have hcv10 : w1.cell? ⟨w.heap.size, 10, none⟩ = some (.slice A10 p.f5.length c10) := blk_cells BX1.out 10 _ H10.out; have hcv12 : w1.cell? ⟨w.heap.size, 12, none⟩ = some (.slice A12 p.f7.length c12) := blk_cells BX1.out 12 _ H12.out; have hcv13 : w1.cell? ⟨w.heap.size, 13, none⟩ = some (.slice A13 p.f8.length c13) := blk_cells BX1.out 13 _ H13.out; have hcv14 : w1.cell? ⟨w.heap.size, 14, none⟩ = some (.slice A14 p.f9.length c14) := blk_cells BX1.out 14 _ H14.out; have hcv17 : w1.cell? ⟨w.heap.size, 17, none⟩ = some (.slice A17 p.f12.length c17) := blk_cells BX1.out 17 _ H17.out; have hcv1 : w1.cell? ⟨w.heap.size, 1, none⟩ = some (.string p.f1) := blk_cells BX1.out 1 _ H1.out; clear hbx hbw) | ((with_reducible refine gate_dst (N := 16) rfl ?_); (try (refine gate_guard (by rfl) ?_; dsimp only)); refine load_all rfl rfl (cs := cs) rfl HAGG.out (fun W => by rw [HL18.out]; exact HSZ.out W) (blk_cells BX1.out) ?_) | (go_at_call 19; refine (HSZC.out _ BW1.out).mono ?_; rintro e w4 ⟨rfl, hb4⟩; have HB4 := Aside0.mk (below_step BW1.out hb4); have BX4 := Aside0.mk ((hb4.block w.heap.size (Array.getElem?_eq_some_iff.1 BX1.out).1).trans BX1.out); clear hb4 BW1 BX1 HSZC; clear hcv8 hcv9 hcv10 hcv12 hcv13 hcv14 hcv17 hcv1; have hcv8 : w4.cell? ⟨w.heap.size, 8, none⟩ = some (.slice A8 p.f3.length c8) := blk_cells BX4.out 8 _ H8.out; have hcv9 : w4.cell? ⟨w.heap.size, 9, none⟩ = some (.slice A9 p.f4.length c9) := blk_cells BX4.out 9 _ H9.out; have hcv10 : w4.cell? ⟨w.heap.size, 10, none⟩ = some (.slice A10 p.f5.length c10) := blk_cells BX4.out 10 _ H10.out; have hcv12 : w4.cell? ⟨w.heap.size, 12, none⟩ = some (.slice A12 p.f7.length c12) := blk_cells BX4.out 12 _ H12.out; have hcv13 : w4.cell? ⟨w.heap.size, 13, none⟩ = some (.slice A13 p.f8.length c13) := blk_cells BX4.out 13 _ H13.out; have hcv14 : w4.cell? ⟨w.heap.size, 14, none⟩ = some (.slice A14 p.f9.length c14) := blk_cells BX4.out 14 _ H14.out; have hcv17 : w4.cell? ⟨w.heap.size, 17, none⟩ = some (.slice A17 p.f12.length c17) := blk_cells BX4.out 17 _ H17.out; have hcv1 : w4.cell? ⟨w.heap.size, 1, none⟩ = some (.string p.f1) := blk_cells BX4.out 1 _ H1.out) | ((with_reducible refine gate_dst (N := 22) rfl ?_); (try (refine gate_guard (by rfl) ?_; dsimp only)); refine load_all rfl rfl (cs := cp) rfl HAGG24.out (fun W => by rw [HLP.out]; exact HSZ24.out W) (blk_cells_off BX4.out HCP.out) ?_) | (go_at_call 20; refine (HPSC.out _ HB4.out).mono ?_; rintro e w5 ⟨rfl, hb5⟩; have HB5 := Aside0.mk (below_step HB4.out hb5); have BX5 := Aside0.mk ((hb5.block w.heap.size (Array.getElem?_eq_some_iff.1 BX4.out).1).trans BX4.out); clear hb5 HB4 BX4 HPSC; clear hcv8 hcv9 hcv10 hcv12 hcv13 hcv14 hcv17 hcv1; have hcv8 : w5.cell? ⟨w.heap.size, 8, none⟩ = some (.slice A8 p.f3.length c8) := blk_cells BX5.out 8 _ H8.out; have hcv9 : w5.cell? ⟨w.heap.size, 9, none⟩ = some (.slice A9 p.f4.length c9) := blk_cells BX5.out 9 _ H9.out; have hcv10 : w5.cell? ⟨w.heap.size, 10, none⟩ = some (.slice A10 p.f5.length c10) := blk_cells BX5.out 10 _ H10.out; have hcv12 : w5.cell? ⟨w.heap.size, 12, none⟩ = some (.slice A12 p.f7.length c12) := blk_cells BX5.out 12 _ H12.out; have hcv13 : w5.cell? ⟨w.heap.size, 13, none⟩ = some (.slice A13 p.f8.length c13) := blk_cells BX5.out 13 _ H13.out; have hcv14 : w5.cell? ⟨w.heap.size, 14, none⟩ = some (.slice A14 p.f9.length c14) := blk_cells BX5.out 14 _ H14.out; have hcv17 : w5.cell? ⟨w.heap.size, 17, none⟩ = some (.slice A17 p.f12.length c17) := blk_cells BX5.out 17 _ H17.out; have hcv1 : w5.cell? ⟨w.heap.size, 1, none⟩ = some (.string p.f1) := blk_cells BX5.out 1 _ H1.out))
  go_ret
  exact ⟨rfl, HB5.out⟩
 rw [if_neg q4] at h
 have q4n : decide (20 < p.f4.length) = false := decide_eq_false q4
 have q4i : decide ((20 : Int) < (p.f4.length : Int)) = false := decide_eq_false (by omega)
 by_cases q5 : 20 < p.f5.length
 ·rw [if_pos q5] at h
  obtain rfl := Option.some.inj h
  clear h
  have q5n : decide (20 < p.f5.length) = true := decide_eq_true q5
  have q5i : decide ((20 : Int) < (p.f5.length : Int)) = true := decide_eq_true (by omega)
  go_enter Try.func10, Try.ntmps10
  go_wp2_with (first | ((with_reducible refine gate_dst (N := 2) rfl ?_); refine box_all rfl rfl (cs := cs.toArray) rfl (fun W => by rw [List.size_toArray, HL18.out]; exact HSZ.out W) ?_; intro w1 hbx hbw; have BW1 := Aside0.mk hbw; have BX1 := Aside0.mk hbx; have hcv8 : w1.cell? ⟨w.heap.size, 8, none⟩ = some (.slice A8 p.f3.length c8) := blk_cells BX1.out 8 _ H8.out; have hcv9 : w1.cell? ⟨w.heap.size, 9, none⟩ = some (.slice A9 p.f4.length c9) := blk_cells BX1.out 9 _ H9.out; have hcv10 : w1.cell? ⟨w.heap.size, 10, none⟩ = some (.slice A10 p.f5.length c10) := blk_cells BX1.out 10 _ H10.out; have hcv12 : w1.cell? ⟨w.heap.size, 12, none⟩ = some (.slice A12 p.f7.length c12) := blk_cells BX1.out 12 _ H12.out; have hcv13 : w1.cell? ⟨w.heap.size, 13, none⟩ = some (.slice A13 p.f8.length c13) := blk_cells BX1.out 13 _ H13.out; have hcv14 : w1.cell? ⟨w.heap.size, 14, none⟩ = some (.slice A14 p.f9.length c14) := blk_cells BX1.out 14 _ H14.out; have hcv17 : w1.cell? ⟨w.heap.size, 17, none⟩ = some (.slice A17 p.f12.length c17) := blk_cells BX1.out 17 _ H17.out; have hcv1 : w1.cell? ⟨w.heap.size, 1, none⟩ = some (.string p.f1) := blk_cells BX1.out 1 _ H1.out; clear hbx hbw) | ((with_reducible refine gate_dst (N := 16) rfl ?_); (try (refine gate_guard (by rfl) ?_; dsimp only)); refine load_all rfl rfl (cs := cs) rfl HAGG.out (fun W => by rw [HL18.out]; exact HSZ.out W) (blk_cells BX1.out) ?_) | (go_at_call 19; refine (HSZC.out _ BW1.out).mono ?_; rintro e w4 ⟨rfl, hb4⟩; have HB4 := Aside0.mk (below_step BW1.out hb4); have BX4 := Aside0.mk ((hb4.block w.heap.size (Array.getElem?_eq_some_iff.1 BX1.out).1).trans BX1.out); clear hb4 BW1 BX1 HSZC; clear hcv8 hcv9 hcv10 hcv12 hcv13 hcv14 hcv17 hcv1; have hcv8 : w4.cell? ⟨w.heap.size, 8, none⟩ = some (.slice A8 p.f3.length c8) := blk_cells BX4.out 8 _ H8.out; have hcv9 : w4.cell? ⟨w.heap.size, 9, none⟩ = some (.slice A9 p.f4.length c9) := blk_cells BX4.out 9 _ H9.out; have hcv10 : w4.cell? ⟨w.heap.size, 10, none⟩ = some (.slice A10 p.f5.length c10) := blk_cells BX4.out 10 _ H10.out; have hcv12 : w4.cell? ⟨w.heap.size, 12, none⟩ = some (.slice A12 p.f7.length c12) := blk_cells BX4.out 12 _ H12.out; have hcv13 : w4.cell? ⟨w.heap.size, 13, none⟩ = some (.slice A13 p.f8.length c13) := blk_cells BX4.out 13 _ H13.out; have hcv14 : w4.cell? ⟨w.heap.size, 14, none⟩ = some (.slice A14 p.f9.length c14) := blk_cells BX4.out 14 _ H14.out; have hcv17 : w4.cell? ⟨w.heap.size, 17, none⟩ = some (.slice A17 p.f12.length c17) := blk_cells BX4.out 17 _ H17.out; have hcv1 : w4.cell? ⟨w.heap.size, 1, none⟩ = some (.string p.f1) := blk_cells BX4.out 1 _ H1.out) | ((with_reducible refine gate_dst (N := 22) rfl ?_); (try (refine gate_guard (by rfl) ?_; dsimp only)); refine load_all rfl rfl (cs := cp) rfl HAGG24.out (fun W => by rw [HLP.out]; exact HSZ24.out W) (blk_cells_off BX4.out HCP.out) ?_) | (go_at_call 20; refine (HPSC.out _ HB4.out).mono ?_; rintro e w5 ⟨rfl, hb5⟩; have HB5 := Aside0.mk (below_step HB4.out hb5); have BX5 := Aside0.mk ((hb5.block w.heap.size (Array.getElem?_eq_some_iff.1 BX4.out).1).trans BX4.out); clear hb5 HB4 BX4 HPSC; clear hcv8 hcv9 hcv10 hcv12 hcv13 hcv14 hcv17 hcv1; have hcv8 : w5.cell? ⟨w.heap.size, 8, none⟩ = some (.slice A8 p.f3.length c8) := blk_cells BX5.out 8 _ H8.out; have hcv9 : w5.cell? ⟨w.heap.size, 9, none⟩ = some (.slice A9 p.f4.length c9) := blk_cells BX5.out 9 _ H9.out; have hcv10 : w5.cell? ⟨w.heap.size, 10, none⟩ = some (.slice A10 p.f5.length c10) := blk_cells BX5.out 10 _ H10.out; have hcv12 : w5.cell? ⟨w.heap.size, 12, none⟩ = some (.slice A12 p.f7.length c12) := blk_cells BX5.out 12 _ H12.out; have hcv13 : w5.cell? ⟨w.heap.size, 13, none⟩ = some (.slice A13 p.f8.length c13) := blk_cells BX5.out 13 _ H13.out; have hcv14 : w5.cell? ⟨w.heap.size, 14, none⟩ = some (.slice A14 p.f9.length c14) := blk_cells BX5.out 14 _ H14.out; have hcv17 : w5.cell? ⟨w.heap.size, 17, none⟩ = some (.slice A17 p.f12.length c17) := blk_cells BX5.out 17 _ H17.out; have hcv1 : w5.cell? ⟨w.heap.size, 1, none⟩ = some (.string p.f1) := blk_cells BX5.out 1 _ H1.out))
  go_ret
  exact ⟨rfl, HB5.out⟩
 rw [if_neg q5] at h
 have q5n : decide (20 < p.f5.length) = false := decide_eq_false q5
 have q5i : decide ((20 : Int) < (p.f5.length : Int)) = false := decide_eq_false (by omega)
 by_cases q6 : 20 < p.f7.length
 ·rw [if_pos q6] at h
  obtain rfl := Option.some.inj h
  clear h
  have q6n : decide (20 < p.f7.length) = true := decide_eq_true q6
  have q6i : decide ((20 : Int) < (p.f7.length : Int)) = true := decide_eq_true (by omega)
  go_enter Try.func10, Try.ntmps10
  go_wp2_with (first | ((with_reducible refine gate_dst (N := 2) rfl ?_); refine box_all rfl rfl (cs := cs.toArray) rfl (fun W => by rw [List.size_toArray, HL18.out]; exact HSZ.out W) ?_; intro w1 hbx hbw; have BW1 := Aside0.mk hbw; have BX1 := Aside0.mk hbx; have hcv8 : w1.cell? ⟨w.heap.size, 8, none⟩ = some (.slice A8 p.f3.length c8) := blk_cells BX1.out 8 _ H8.out; have hcv9 : w1.cell? ⟨w.heap.size, 9, none⟩ = some (.slice A9 p.f4.length c9) := blk_cells BX1.out 9 _ H9.out; have hcv10 : w1.cell? ⟨w.heap.size, 10, none⟩ = some (.slice A10 p.f5.length c10) := blk_cells BX1.out 10 _ H10.out; have hcv12 : w1.cell? ⟨w.heap.size, 12, none⟩ = some (.slice A12 p.f7.length c12) := blk_cells BX1.out 12 _ H12.out; have hcv13 : w1.cell? ⟨w.heap.size, 13, none⟩ = some (.slice A13 p.f8.length c13) := blk_cells BX1.out 13 _ H13.out; have hcv14 : w1.cell? ⟨w.heap.size, 14, none⟩ = some (.slice A14 p.f9.length c14) := blk_cells BX1.out 14 _ H14.out; have hcv17 : w1.cell? ⟨w.heap.size, 17, none⟩ = some (.slice A17 p.f12.length c17) := blk_cells BX1.out 17 _ H17.out; have hcv1 : w1.cell? ⟨w.heap.size, 1, none⟩ = some (.string p.f1) := blk_cells BX1.out 1 _ H1.out; clear hbx hbw) | ((with_reducible refine gate_dst (N := 16) rfl ?_); (try (refine gate_guard (by rfl) ?_; dsimp only)); refine load_all rfl rfl (cs := cs) rfl HAGG.out (fun W => by rw [HL18.out]; exact HSZ.out W) (blk_cells BX1.out) ?_) | (go_at_call 19; refine (HSZC.out _ BW1.out).mono ?_; rintro e w4 ⟨rfl, hb4⟩; have HB4 := Aside0.mk (below_step BW1.out hb4); have BX4 := Aside0.mk ((hb4.block w.heap.size (Array.getElem?_eq_some_iff.1 BX1.out).1).trans BX1.out); clear hb4 BW1 BX1 HSZC; clear hcv8 hcv9 hcv10 hcv12 hcv13 hcv14 hcv17 hcv1; have hcv8 : w4.cell? ⟨w.heap.size, 8, none⟩ = some (.slice A8 p.f3.length c8) := blk_cells BX4.out 8 _ H8.out; have hcv9 : w4.cell? ⟨w.heap.size, 9, none⟩ = some (.slice A9 p.f4.length c9) := blk_cells BX4.out 9 _ H9.out; have hcv10 : w4.cell? ⟨w.heap.size, 10, none⟩ = some (.slice A10 p.f5.length c10) := blk_cells BX4.out 10 _ H10.out; have hcv12 : w4.cell? ⟨w.heap.size, 12, none⟩ = some (.slice A12 p.f7.length c12) := blk_cells BX4.out 12 _ H12.out; have hcv13 : w4.cell? ⟨w.heap.size, 13, none⟩ = some (.slice A13 p.f8.length c13) := blk_cells BX4.out 13 _ H13.out; have hcv14 : w4.cell? ⟨w.heap.size, 14, none⟩ = some (.slice A14 p.f9.length c14) := blk_cells BX4.out 14 _ H14.out; have hcv17 : w4.cell? ⟨w.heap.size, 17, none⟩ = some (.slice A17 p.f12.length c17) := blk_cells BX4.out 17 _ H17.out; have hcv1 : w4.cell? ⟨w.heap.size, 1, none⟩ = some (.string p.f1) := blk_cells BX4.out 1 _ H1.out) | ((with_reducible refine gate_dst (N := 22) rfl ?_); (try (refine gate_guard (by rfl) ?_; dsimp only)); refine load_all rfl rfl (cs := cp) rfl HAGG24.out (fun W => by rw [HLP.out]; exact HSZ24.out W) (blk_cells_off BX4.out HCP.out) ?_) | (go_at_call 20; refine (HPSC.out _ HB4.out).mono ?_; rintro e w5 ⟨rfl, hb5⟩; have HB5 := Aside0.mk (below_step HB4.out hb5); have BX5 := Aside0.mk ((hb5.block w.heap.size (Array.getElem?_eq_some_iff.1 BX4.out).1).trans BX4.out); clear hb5 HB4 BX4 HPSC; clear hcv8 hcv9 hcv10 hcv12 hcv13 hcv14 hcv17 hcv1; have hcv8 : w5.cell? ⟨w.heap.size, 8, none⟩ = some (.slice A8 p.f3.length c8) := blk_cells BX5.out 8 _ H8.out; have hcv9 : w5.cell? ⟨w.heap.size, 9, none⟩ = some (.slice A9 p.f4.length c9) := blk_cells BX5.out 9 _ H9.out; have hcv10 : w5.cell? ⟨w.heap.size, 10, none⟩ = some (.slice A10 p.f5.length c10) := blk_cells BX5.out 10 _ H10.out; have hcv12 : w5.cell? ⟨w.heap.size, 12, none⟩ = some (.slice A12 p.f7.length c12) := blk_cells BX5.out 12 _ H12.out; have hcv13 : w5.cell? ⟨w.heap.size, 13, none⟩ = some (.slice A13 p.f8.length c13) := blk_cells BX5.out 13 _ H13.out; have hcv14 : w5.cell? ⟨w.heap.size, 14, none⟩ = some (.slice A14 p.f9.length c14) := blk_cells BX5.out 14 _ H14.out; have hcv17 : w5.cell? ⟨w.heap.size, 17, none⟩ = some (.slice A17 p.f12.length c17) := blk_cells BX5.out 17 _ H17.out; have hcv1 : w5.cell? ⟨w.heap.size, 1, none⟩ = some (.string p.f1) := blk_cells BX5.out 1 _ H1.out))
  go_ret
  exact ⟨rfl, HB5.out⟩
 rw [if_neg q6] at h
 have q6n : decide (20 < p.f7.length) = false := decide_eq_false q6
 have q6i : decide ((20 : Int) < (p.f7.length : Int)) = false := decide_eq_false (by omega)
 by_cases q7 : 20 < p.f8.length
 ·rw [if_pos q7] at h
  obtain rfl := Option.some.inj h
  clear h
  have q7n : decide (20 < p.f8.length) = true := decide_eq_true q7
  have q7i : decide ((20 : Int) < (p.f8.length : Int)) = true := decide_eq_true (by omega)
  go_enter Try.func10, Try.ntmps10
  go_wp2_with (first | ((with_reducible refine gate_dst (N := 2) rfl ?_); refine box_all rfl rfl (cs := cs.toArray) rfl (fun W => by rw [List.size_toArray, HL18.out]; exact HSZ.out W) ?_; intro w1 hbx hbw; have BW1 := Aside0.mk hbw; have BX1 := Aside0.mk hbx; have hcv8 : w1.cell? ⟨w.heap.size, 8, none⟩ = some (.slice A8 p.f3.length c8) := blk_cells BX1.out 8 _ H8.out; have hcv9 : w1.cell? ⟨w.heap.size, 9, none⟩ = some (.slice A9 p.f4.length c9) := blk_cells BX1.out 9 _ H9.out; have hcv10 : w1.cell? ⟨w.heap.size, 10, none⟩ = some (.slice A10 p.f5.length c10) := blk_cells BX1.out 10 _ H10.out; have hcv12 : w1.cell? ⟨w.heap.size, 12, none⟩ = some (.slice A12 p.f7.length c12) := blk_cells BX1.out 12 _ H12.out; have hcv13 : w1.cell? ⟨w.heap.size, 13, none⟩ = some (.slice A13 p.f8.length c13) := blk_cells BX1.out 13 _ H13.out; have hcv14 : w1.cell? ⟨w.heap.size, 14, none⟩ = some (.slice A14 p.f9.length c14) := blk_cells BX1.out 14 _ H14.out; have hcv17 : w1.cell? ⟨w.heap.size, 17, none⟩ = some (.slice A17 p.f12.length c17) := blk_cells BX1.out 17 _ H17.out; have hcv1 : w1.cell? ⟨w.heap.size, 1, none⟩ = some (.string p.f1) := blk_cells BX1.out 1 _ H1.out; clear hbx hbw) | ((with_reducible refine gate_dst (N := 16) rfl ?_); (try (refine gate_guard (by rfl) ?_; dsimp only)); refine load_all rfl rfl (cs := cs) rfl HAGG.out (fun W => by rw [HL18.out]; exact HSZ.out W) (blk_cells BX1.out) ?_) | (go_at_call 19; refine (HSZC.out _ BW1.out).mono ?_; rintro e w4 ⟨rfl, hb4⟩; have HB4 := Aside0.mk (below_step BW1.out hb4); have BX4 := Aside0.mk ((hb4.block w.heap.size (Array.getElem?_eq_some_iff.1 BX1.out).1).trans BX1.out); clear hb4 BW1 BX1 HSZC; clear hcv8 hcv9 hcv10 hcv12 hcv13 hcv14 hcv17 hcv1; have hcv8 : w4.cell? ⟨w.heap.size, 8, none⟩ = some (.slice A8 p.f3.length c8) := blk_cells BX4.out 8 _ H8.out; have hcv9 : w4.cell? ⟨w.heap.size, 9, none⟩ = some (.slice A9 p.f4.length c9) := blk_cells BX4.out 9 _ H9.out; have hcv10 : w4.cell? ⟨w.heap.size, 10, none⟩ = some (.slice A10 p.f5.length c10) := blk_cells BX4.out 10 _ H10.out; have hcv12 : w4.cell? ⟨w.heap.size, 12, none⟩ = some (.slice A12 p.f7.length c12) := blk_cells BX4.out 12 _ H12.out; have hcv13 : w4.cell? ⟨w.heap.size, 13, none⟩ = some (.slice A13 p.f8.length c13) := blk_cells BX4.out 13 _ H13.out; have hcv14 : w4.cell? ⟨w.heap.size, 14, none⟩ = some (.slice A14 p.f9.length c14) := blk_cells BX4.out 14 _ H14.out; have hcv17 : w4.cell? ⟨w.heap.size, 17, none⟩ = some (.slice A17 p.f12.length c17) := blk_cells BX4.out 17 _ H17.out; have hcv1 : w4.cell? ⟨w.heap.size, 1, none⟩ = some (.string p.f1) := blk_cells BX4.out 1 _ H1.out) | ((with_reducible refine gate_dst (N := 22) rfl ?_); (try (refine gate_guard (by rfl) ?_; dsimp only)); refine load_all rfl rfl (cs := cp) rfl HAGG24.out (fun W => by rw [HLP.out]; exact HSZ24.out W) (blk_cells_off BX4.out HCP.out) ?_) | (go_at_call 20; refine (HPSC.out _ HB4.out).mono ?_; rintro e w5 ⟨rfl, hb5⟩; have HB5 := Aside0.mk (below_step HB4.out hb5); have BX5 := Aside0.mk ((hb5.block w.heap.size (Array.getElem?_eq_some_iff.1 BX4.out).1).trans BX4.out); clear hb5 HB4 BX4 HPSC; clear hcv8 hcv9 hcv10 hcv12 hcv13 hcv14 hcv17 hcv1; have hcv8 : w5.cell? ⟨w.heap.size, 8, none⟩ = some (.slice A8 p.f3.length c8) := blk_cells BX5.out 8 _ H8.out; have hcv9 : w5.cell? ⟨w.heap.size, 9, none⟩ = some (.slice A9 p.f4.length c9) := blk_cells BX5.out 9 _ H9.out; have hcv10 : w5.cell? ⟨w.heap.size, 10, none⟩ = some (.slice A10 p.f5.length c10) := blk_cells BX5.out 10 _ H10.out; have hcv12 : w5.cell? ⟨w.heap.size, 12, none⟩ = some (.slice A12 p.f7.length c12) := blk_cells BX5.out 12 _ H12.out; have hcv13 : w5.cell? ⟨w.heap.size, 13, none⟩ = some (.slice A13 p.f8.length c13) := blk_cells BX5.out 13 _ H13.out; have hcv14 : w5.cell? ⟨w.heap.size, 14, none⟩ = some (.slice A14 p.f9.length c14) := blk_cells BX5.out 14 _ H14.out; have hcv17 : w5.cell? ⟨w.heap.size, 17, none⟩ = some (.slice A17 p.f12.length c17) := blk_cells BX5.out 17 _ H17.out; have hcv1 : w5.cell? ⟨w.heap.size, 1, none⟩ = some (.string p.f1) := blk_cells BX5.out 1 _ H1.out))
  go_ret
  exact ⟨rfl, HB5.out⟩
 rw [if_neg q7] at h
 have q7n : decide (20 < p.f8.length) = false := decide_eq_false q7
 have q7i : decide ((20 : Int) < (p.f8.length : Int)) = false := decide_eq_false (by omega)
 by_cases q8 : 20 < p.f9.length
 ·rw [if_pos q8] at h
  obtain rfl := Option.some.inj h
  clear h
  have q8n : decide (20 < p.f9.length) = true := decide_eq_true q8
  have q8i : decide ((20 : Int) < (p.f9.length : Int)) = true := decide_eq_true (by omega)
  go_enter Try.func10, Try.ntmps10
  go_wp2_with (first | ((with_reducible refine gate_dst (N := 2) rfl ?_); refine box_all rfl rfl (cs := cs.toArray) rfl (fun W => by rw [List.size_toArray, HL18.out]; exact HSZ.out W) ?_; intro w1 hbx hbw; have BW1 := Aside0.mk hbw; have BX1 := Aside0.mk hbx; have hcv8 : w1.cell? ⟨w.heap.size, 8, none⟩ = some (.slice A8 p.f3.length c8) := blk_cells BX1.out 8 _ H8.out; have hcv9 : w1.cell? ⟨w.heap.size, 9, none⟩ = some (.slice A9 p.f4.length c9) := blk_cells BX1.out 9 _ H9.out; have hcv10 : w1.cell? ⟨w.heap.size, 10, none⟩ = some (.slice A10 p.f5.length c10) := blk_cells BX1.out 10 _ H10.out; have hcv12 : w1.cell? ⟨w.heap.size, 12, none⟩ = some (.slice A12 p.f7.length c12) := blk_cells BX1.out 12 _ H12.out; have hcv13 : w1.cell? ⟨w.heap.size, 13, none⟩ = some (.slice A13 p.f8.length c13) := blk_cells BX1.out 13 _ H13.out; have hcv14 : w1.cell? ⟨w.heap.size, 14, none⟩ = some (.slice A14 p.f9.length c14) := blk_cells BX1.out 14 _ H14.out; have hcv17 : w1.cell? ⟨w.heap.size, 17, none⟩ = some (.slice A17 p.f12.length c17) := blk_cells BX1.out 17 _ H17.out; have hcv1 : w1.cell? ⟨w.heap.size, 1, none⟩ = some (.string p.f1) := blk_cells BX1.out 1 _ H1.out; clear hbx hbw) | ((with_reducible refine gate_dst (N := 16) rfl ?_); (try (refine gate_guard (by rfl) ?_; dsimp only)); refine load_all rfl rfl (cs := cs) rfl HAGG.out (fun W => by rw [HL18.out]; exact HSZ.out W) (blk_cells BX1.out) ?_) | (go_at_call 19; refine (HSZC.out _ BW1.out).mono ?_; rintro e w4 ⟨rfl, hb4⟩; have HB4 := Aside0.mk (below_step BW1.out hb4); have BX4 := Aside0.mk ((hb4.block w.heap.size (Array.getElem?_eq_some_iff.1 BX1.out).1).trans BX1.out); clear hb4 BW1 BX1 HSZC; clear hcv8 hcv9 hcv10 hcv12 hcv13 hcv14 hcv17 hcv1; have hcv8 : w4.cell? ⟨w.heap.size, 8, none⟩ = some (.slice A8 p.f3.length c8) := blk_cells BX4.out 8 _ H8.out; have hcv9 : w4.cell? ⟨w.heap.size, 9, none⟩ = some (.slice A9 p.f4.length c9) := blk_cells BX4.out 9 _ H9.out; have hcv10 : w4.cell? ⟨w.heap.size, 10, none⟩ = some (.slice A10 p.f5.length c10) := blk_cells BX4.out 10 _ H10.out; have hcv12 : w4.cell? ⟨w.heap.size, 12, none⟩ = some (.slice A12 p.f7.length c12) := blk_cells BX4.out 12 _ H12.out; have hcv13 : w4.cell? ⟨w.heap.size, 13, none⟩ = some (.slice A13 p.f8.length c13) := blk_cells BX4.out 13 _ H13.out; have hcv14 : w4.cell? ⟨w.heap.size, 14, none⟩ = some (.slice A14 p.f9.length c14) := blk_cells BX4.out 14 _ H14.out; have hcv17 : w4.cell? ⟨w.heap.size, 17, none⟩ = some (.slice A17 p.f12.length c17) := blk_cells BX4.out 17 _ H17.out; have hcv1 : w4.cell? ⟨w.heap.size, 1, none⟩ = some (.string p.f1) := blk_cells BX4.out 1 _ H1.out) | ((with_reducible refine gate_dst (N := 22) rfl ?_); (try (refine gate_guard (by rfl) ?_; dsimp only)); refine load_all rfl rfl (cs := cp) rfl HAGG24.out (fun W => by rw [HLP.out]; exact HSZ24.out W) (blk_cells_off BX4.out HCP.out) ?_) | (go_at_call 20; refine (HPSC.out _ HB4.out).mono ?_; rintro e w5 ⟨rfl, hb5⟩; have HB5 := Aside0.mk (below_step HB4.out hb5); have BX5 := Aside0.mk ((hb5.block w.heap.size (Array.getElem?_eq_some_iff.1 BX4.out).1).trans BX4.out); clear hb5 HB4 BX4 HPSC; clear hcv8 hcv9 hcv10 hcv12 hcv13 hcv14 hcv17 hcv1; have hcv8 : w5.cell? ⟨w.heap.size, 8, none⟩ = some (.slice A8 p.f3.length c8) := blk_cells BX5.out 8 _ H8.out; have hcv9 : w5.cell? ⟨w.heap.size, 9, none⟩ = some (.slice A9 p.f4.length c9) := blk_cells BX5.out 9 _ H9.out; have hcv10 : w5.cell? ⟨w.heap.size, 10, none⟩ = some (.slice A10 p.f5.length c10) := blk_cells BX5.out 10 _ H10.out; have hcv12 : w5.cell? ⟨w.heap.size, 12, none⟩ = some (.slice A12 p.f7.length c12) := blk_cells BX5.out 12 _ H12.out; have hcv13 : w5.cell? ⟨w.heap.size, 13, none⟩ = some (.slice A13 p.f8.length c13) := blk_cells BX5.out 13 _ H13.out; have hcv14 : w5.cell? ⟨w.heap.size, 14, none⟩ = some (.slice A14 p.f9.length c14) := blk_cells BX5.out 14 _ H14.out; have hcv17 : w5.cell? ⟨w.heap.size, 17, none⟩ = some (.slice A17 p.f12.length c17) := blk_cells BX5.out 17 _ H17.out; have hcv1 : w5.cell? ⟨w.heap.size, 1, none⟩ = some (.string p.f1) := blk_cells BX5.out 1 _ H1.out))
  go_ret
  exact ⟨rfl, HB5.out⟩
 rw [if_neg q8] at h
 have q8n : decide (20 < p.f9.length) = false := decide_eq_false q8
 have q8i : decide ((20 : Int) < (p.f9.length : Int)) = false := decide_eq_false (by omega)
 by_cases q9 : 100 < p.f1.size
 ·rw [if_pos q9] at h
  obtain rfl := Option.some.inj h
  clear h
  have q9n : decide (100 < p.f1.size) = true := decide_eq_true q9
  have q9i : decide ((100 : Int) < (p.f1.size : Int)) = true := decide_eq_true (by omega)
  go_enter Try.func10, Try.ntmps10
  go_wp2_with (first | ((with_reducible refine gate_dst (N := 2) rfl ?_); refine box_all rfl rfl (cs := cs.toArray) rfl (fun W => by rw [List.size_toArray, HL18.out]; exact HSZ.out W) ?_; intro w1 hbx hbw; have BW1 := Aside0.mk hbw; have BX1 := Aside0.mk hbx; have hcv8 : w1.cell? ⟨w.heap.size, 8, none⟩ = some (.slice A8 p.f3.length c8) := blk_cells BX1.out 8 _ H8.out; have hcv9 : w1.cell? ⟨w.heap.size, 9, none⟩ = some (.slice A9 p.f4.length c9) := blk_cells BX1.out 9 _ H9.out; have hcv10 : w1.cell? ⟨w.heap.size, 10, none⟩ = some (.slice A10 p.f5.length c10) := blk_cells BX1.out 10 _ H10.out; have hcv12 : w1.cell? ⟨w.heap.size, 12, none⟩ = some (.slice A12 p.f7.length c12) := blk_cells BX1.out 12 _ H12.out; have hcv13 : w1.cell? ⟨w.heap.size, 13, none⟩ = some (.slice A13 p.f8.length c13) := blk_cells BX1.out 13 _ H13.out; have hcv14 : w1.cell? ⟨w.heap.size, 14, none⟩ = some (.slice A14 p.f9.length c14) := blk_cells BX1.out 14 _ H14.out; have hcv17 : w1.cell? ⟨w.heap.size, 17, none⟩ = some (.slice A17 p.f12.length c17) := blk_cells BX1.out 17 _ H17.out; have hcv1 : w1.cell? ⟨w.heap.size, 1, none⟩ = some (.string p.f1) := blk_cells BX1.out 1 _ H1.out; clear hbx hbw) | ((with_reducible refine gate_dst (N := 16) rfl ?_); (try (refine gate_guard (by rfl) ?_; dsimp only)); refine load_all rfl rfl (cs := cs) rfl HAGG.out (fun W => by rw [HL18.out]; exact HSZ.out W) (blk_cells BX1.out) ?_) | (go_at_call 19; refine (HSZC.out _ BW1.out).mono ?_; rintro e w4 ⟨rfl, hb4⟩; have HB4 := Aside0.mk (below_step BW1.out hb4); have BX4 := Aside0.mk ((hb4.block w.heap.size (Array.getElem?_eq_some_iff.1 BX1.out).1).trans BX1.out); clear hb4 BW1 BX1 HSZC; clear hcv8 hcv9 hcv10 hcv12 hcv13 hcv14 hcv17 hcv1; have hcv8 : w4.cell? ⟨w.heap.size, 8, none⟩ = some (.slice A8 p.f3.length c8) := blk_cells BX4.out 8 _ H8.out; have hcv9 : w4.cell? ⟨w.heap.size, 9, none⟩ = some (.slice A9 p.f4.length c9) := blk_cells BX4.out 9 _ H9.out; have hcv10 : w4.cell? ⟨w.heap.size, 10, none⟩ = some (.slice A10 p.f5.length c10) := blk_cells BX4.out 10 _ H10.out; have hcv12 : w4.cell? ⟨w.heap.size, 12, none⟩ = some (.slice A12 p.f7.length c12) := blk_cells BX4.out 12 _ H12.out; have hcv13 : w4.cell? ⟨w.heap.size, 13, none⟩ = some (.slice A13 p.f8.length c13) := blk_cells BX4.out 13 _ H13.out; have hcv14 : w4.cell? ⟨w.heap.size, 14, none⟩ = some (.slice A14 p.f9.length c14) := blk_cells BX4.out 14 _ H14.out; have hcv17 : w4.cell? ⟨w.heap.size, 17, none⟩ = some (.slice A17 p.f12.length c17) := blk_cells BX4.out 17 _ H17.out; have hcv1 : w4.cell? ⟨w.heap.size, 1, none⟩ = some (.string p.f1) := blk_cells BX4.out 1 _ H1.out) | ((with_reducible refine gate_dst (N := 22) rfl ?_); (try (refine gate_guard (by rfl) ?_; dsimp only)); refine load_all rfl rfl (cs := cp) rfl HAGG24.out (fun W => by rw [HLP.out]; exact HSZ24.out W) (blk_cells_off BX4.out HCP.out) ?_) | (go_at_call 20; refine (HPSC.out _ HB4.out).mono ?_; rintro e w5 ⟨rfl, hb5⟩; have HB5 := Aside0.mk (below_step HB4.out hb5); have BX5 := Aside0.mk ((hb5.block w.heap.size (Array.getElem?_eq_some_iff.1 BX4.out).1).trans BX4.out); clear hb5 HB4 BX4 HPSC; clear hcv8 hcv9 hcv10 hcv12 hcv13 hcv14 hcv17 hcv1; have hcv8 : w5.cell? ⟨w.heap.size, 8, none⟩ = some (.slice A8 p.f3.length c8) := blk_cells BX5.out 8 _ H8.out; have hcv9 : w5.cell? ⟨w.heap.size, 9, none⟩ = some (.slice A9 p.f4.length c9) := blk_cells BX5.out 9 _ H9.out; have hcv10 : w5.cell? ⟨w.heap.size, 10, none⟩ = some (.slice A10 p.f5.length c10) := blk_cells BX5.out 10 _ H10.out; have hcv12 : w5.cell? ⟨w.heap.size, 12, none⟩ = some (.slice A12 p.f7.length c12) := blk_cells BX5.out 12 _ H12.out; have hcv13 : w5.cell? ⟨w.heap.size, 13, none⟩ = some (.slice A13 p.f8.length c13) := blk_cells BX5.out 13 _ H13.out; have hcv14 : w5.cell? ⟨w.heap.size, 14, none⟩ = some (.slice A14 p.f9.length c14) := blk_cells BX5.out 14 _ H14.out; have hcv17 : w5.cell? ⟨w.heap.size, 17, none⟩ = some (.slice A17 p.f12.length c17) := blk_cells BX5.out 17 _ H17.out; have hcv1 : w5.cell? ⟨w.heap.size, 1, none⟩ = some (.string p.f1) := blk_cells BX5.out 1 _ H1.out))
  go_ret
  exact ⟨rfl, HB5.out⟩
 rw [if_neg q9] at h
 have q9n : decide (100 < p.f1.size) = false := decide_eq_false q9
 have q9i : decide ((100 : Int) < (p.f1.size : Int)) = false := decide_eq_false (by omega)
 obtain ⟨b, hab, h⟩ := Option.bind_eq_some_iff.1 h
 have HAB := Aside0.mk hab
 have HH := Aside0.mk h
 clear hab h
 go_enter Try.func10, Try.ntmps10
 go_upto_if 68 with (first | ((with_reducible refine gate_dst (N := 2) rfl ?_); refine box_all rfl rfl (cs := cs.toArray) rfl (fun W => by rw [List.size_toArray, HL18.out]; exact HSZ.out W) ?_; intro w1 hbx hbw; have BW1 := Aside0.mk hbw; have BX1 := Aside0.mk hbx; have hcv8 : w1.cell? ⟨w.heap.size, 8, none⟩ = some (.slice A8 p.f3.length c8) := blk_cells BX1.out 8 _ H8.out; have hcv9 : w1.cell? ⟨w.heap.size, 9, none⟩ = some (.slice A9 p.f4.length c9) := blk_cells BX1.out 9 _ H9.out; have hcv10 : w1.cell? ⟨w.heap.size, 10, none⟩ = some (.slice A10 p.f5.length c10) := blk_cells BX1.out 10 _ H10.out; have hcv12 : w1.cell? ⟨w.heap.size, 12, none⟩ = some (.slice A12 p.f7.length c12) := blk_cells BX1.out 12 _ H12.out; have hcv13 : w1.cell? ⟨w.heap.size, 13, none⟩ = some (.slice A13 p.f8.length c13) := blk_cells BX1.out 13 _ H13.out; have hcv14 : w1.cell? ⟨w.heap.size, 14, none⟩ = some (.slice A14 p.f9.length c14) := blk_cells BX1.out 14 _ H14.out; have hcv17 : w1.cell? ⟨w.heap.size, 17, none⟩ = some (.slice A17 p.f12.length c17) := blk_cells BX1.out 17 _ H17.out; have hcv1 : w1.cell? ⟨w.heap.size, 1, none⟩ = some (.string p.f1) := blk_cells BX1.out 1 _ H1.out; clear hbx hbw) | ((with_reducible refine gate_dst (N := 16) rfl ?_); (try (refine gate_guard (by rfl) ?_; dsimp only)); refine load_all rfl rfl (cs := cs) rfl HAGG.out (fun W => by rw [HL18.out]; exact HSZ.out W) (blk_cells BX1.out) ?_) | (go_at_call 19; refine (HSZC.out _ BW1.out).mono ?_; rintro e w4 ⟨rfl, hb4⟩; have HB4 := Aside0.mk (below_step BW1.out hb4); have BX4 := Aside0.mk ((hb4.block w.heap.size (Array.getElem?_eq_some_iff.1 BX1.out).1).trans BX1.out); clear hb4 BW1 BX1 HSZC; clear hcv8 hcv9 hcv10 hcv12 hcv13 hcv14 hcv17 hcv1; have hcv8 : w4.cell? ⟨w.heap.size, 8, none⟩ = some (.slice A8 p.f3.length c8) := blk_cells BX4.out 8 _ H8.out; have hcv9 : w4.cell? ⟨w.heap.size, 9, none⟩ = some (.slice A9 p.f4.length c9) := blk_cells BX4.out 9 _ H9.out; have hcv10 : w4.cell? ⟨w.heap.size, 10, none⟩ = some (.slice A10 p.f5.length c10) := blk_cells BX4.out 10 _ H10.out; have hcv12 : w4.cell? ⟨w.heap.size, 12, none⟩ = some (.slice A12 p.f7.length c12) := blk_cells BX4.out 12 _ H12.out; have hcv13 : w4.cell? ⟨w.heap.size, 13, none⟩ = some (.slice A13 p.f8.length c13) := blk_cells BX4.out 13 _ H13.out; have hcv14 : w4.cell? ⟨w.heap.size, 14, none⟩ = some (.slice A14 p.f9.length c14) := blk_cells BX4.out 14 _ H14.out; have hcv17 : w4.cell? ⟨w.heap.size, 17, none⟩ = some (.slice A17 p.f12.length c17) := blk_cells BX4.out 17 _ H17.out; have hcv1 : w4.cell? ⟨w.heap.size, 1, none⟩ = some (.string p.f1) := blk_cells BX4.out 1 _ H1.out) | ((with_reducible refine gate_dst (N := 22) rfl ?_); (try (refine gate_guard (by rfl) ?_; dsimp only)); refine load_all rfl rfl (cs := cp) rfl HAGG24.out (fun W => by rw [HLP.out]; exact HSZ24.out W) (blk_cells_off BX4.out HCP.out) ?_) | (go_at_call 20; refine (HPSC.out _ HB4.out).mono ?_; rintro e w5 ⟨rfl, hb5⟩; have HB5 := Aside0.mk (below_step HB4.out hb5); have BX5 := Aside0.mk ((hb5.block w.heap.size (Array.getElem?_eq_some_iff.1 BX4.out).1).trans BX4.out); clear hb5 HB4 BX4 HPSC; clear hcv8 hcv9 hcv10 hcv12 hcv13 hcv14 hcv17 hcv1; have hcv8 : w5.cell? ⟨w.heap.size, 8, none⟩ = some (.slice A8 p.f3.length c8) := blk_cells BX5.out 8 _ H8.out; have hcv9 : w5.cell? ⟨w.heap.size, 9, none⟩ = some (.slice A9 p.f4.length c9) := blk_cells BX5.out 9 _ H9.out; have hcv10 : w5.cell? ⟨w.heap.size, 10, none⟩ = some (.slice A10 p.f5.length c10) := blk_cells BX5.out 10 _ H10.out; have hcv12 : w5.cell? ⟨w.heap.size, 12, none⟩ = some (.slice A12 p.f7.length c12) := blk_cells BX5.out 12 _ H12.out; have hcv13 : w5.cell? ⟨w.heap.size, 13, none⟩ = some (.slice A13 p.f8.length c13) := blk_cells BX5.out 13 _ H13.out; have hcv14 : w5.cell? ⟨w.heap.size, 14, none⟩ = some (.slice A14 p.f9.length c14) := blk_cells BX5.out 14 _ H14.out; have hcv17 : w5.cell? ⟨w.heap.size, 17, none⟩ = some (.slice A17 p.f12.length c17) := blk_cells BX5.out 17 _ H17.out; have hcv1 : w5.cell? ⟨w.heap.size, 1, none⟩ = some (.string p.f1) := blk_cells BX5.out 1 _ H1.out))
 clear hcv8 hcv9 hcv10 hcv12 hcv13 hcv14 hcv17 hcv1
 go_loopg [5] p.f3.length (fun gg s5 wr => ∃ (i : Nat), s5 = .int .i64 i ∧ i ≤ p.f3.length ∧ p.f3.length - i ≤ gg ∧ Aside0 (allE (fun x => exprSm k x 20) (p.f3.drop i) = some b) ∧ Aside0 (Below w.heap.size w wr) ∧ Aside0 (wr.heap[w.heap.size]? = some (.cells cs.toArray 31 (0, 0))))
 case atStart => exact ⟨0, rfl, Nat.zero_le _, by omega, HAB, HB5, BX5⟩
 case round =>
  clear HAB HB5 BX5
  obtain ⟨i, rfl, hin, hg0, HTS, HB, BX⟩ := hrel
  have hcv8 : wr.cell? ⟨w.heap.size, 8, none⟩ = some (.slice A8 p.f3.length c8) := blk_cells BX.out 8 _ H8.out
  have hn8 := HN8.out
  by_cases hlt : i < p.f3.length
  ·have hltz : (i : Int) < (p.f3.length : Int) := by omega
   have hi0 : (0 : Int) ≤ (i : Int) := by omega
   have hks := HTS.out
   rw [drop_get50 p.f3 i hlt] at hks
   simp only [allE] at hks
   obtain ⟨t, ht, hks⟩ := Option.bind_eq_some_iff.1 hks
   obtain ⟨ad, c, e17, hcl, hKu, hcell⟩ := expr_get w A8 _ p.f3 HK8.out i hlt
   subst e17
   have HCALL := Aside0.mk (fun W (hb : Below w.heap.size w W) => exprSm_at k (p.f3.getD i z50) c 20 t W (k50.K_below hb hKu) ht)
   have HCL := Aside0.mk hcl
   have HCELL := Aside0.mk (show ∀ j v, c[j]? = some v → wr.cell? ((ad.add (i * 6)).add j) = some v from fun j v hj => (HB.out.cell (World.block_lt_of_cell? w _ (hcell j v hj))).trans (hcell j v hj))
   clear hKu ht HTS hcl hcell hn8
   cases t with
   | true =>
    rw [if_pos rfl] at hks
    have HTS2 := Aside0.mk hks
    clear hks
    go_wp2_with (first
     | ((with_reducible refine gate_dst (N := 79) rfl ?_); (try (refine gate_guard (by rfl) ?_; dsimp only)); refine load_all rfl rfl (cs := c) rfl HAGG50.out (fun W => by rw [HCL.out]; exact HSZ50.out W) HCELL.out ?_)
     | (go_at_call 21; refine (HCALL.out _ HB.out).mono ?_; rintro e w4 ⟨rfl, hb4⟩; have HB4 := Aside0.mk (below_step HB.out hb4); have BX4 := Aside0.mk ((hb4.block w.heap.size (Array.getElem?_eq_some_iff.1 BX.out).1).trans BX.out); clear hb4))
    go_roundg (p.f3.length - (i + 1))
    case measure => omega
    case rel => have hN := HN8.out; exact ⟨i + 1, by first | go_num | (congr 1; unfold wrap64; omega), by omega, by omega, HTS2, HB4, BX4⟩
   | false =>
    rw [if_neg (by decide)] at hks
    obtain rfl := Option.some.inj hks
    have hH := HH.out
    rw [if_neg (by decide)] at hH
    obtain rfl := Option.some.inj hH
    clear hks hH HH
    go_wp2_with (first
     | ((with_reducible refine gate_dst (N := 79) rfl ?_); (try (refine gate_guard (by rfl) ?_; dsimp only)); refine load_all rfl rfl (cs := c) rfl HAGG50.out (fun W => by rw [HCL.out]; exact HSZ50.out W) HCELL.out ?_)
     | (go_at_call 21; refine (HCALL.out _ HB.out).mono ?_; rintro e w4 ⟨rfl, hb4⟩; have HB4 := Aside0.mk (below_step HB.out hb4); clear hb4))
    go_ret
    exact ⟨rfl, HB4.out⟩
  ·have hltz : ¬ (i : Int) < (p.f3.length : Int) := by omega
   have hks := HTS.out
   rw [List.drop_of_length_le (by omega)] at hks
   simp only [allE] at hks
   obtain rfl := Option.some.inj hks
   have hH := HH.out
   rw [if_pos rfl] at hH
   have HAL := Aside0.mk hH
   clear hks hH HH HTS hn8
   go_upto_if 82 with (fail)
   clear hcv8
   go_loopg [6] p.f12.length (fun gg s6 wr => ∃ (i : Nat), s6 = .int .i64 i ∧ i ≤ p.f12.length ∧ p.f12.length - i ≤ gg ∧ Aside0 (allE (fun q => smallP k q (wrap64 (d - 1))) (p.f12.drop i) = some r) ∧ Aside0 (Below w.heap.size w wr) ∧ Aside0 (wr.heap[w.heap.size]? = some (.cells cs.toArray 31 (0, 0))))
   case atStart => exact ⟨0, rfl, Nat.zero_le _, by omega, HAL, HB, BX⟩
   case round =>
    clear HAL HB BX hlt hltz hin hg0
    obtain ⟨i, rfl, hin, hg0, HTS, HB, BX⟩ := hrel
    have hcv17 : wr.cell? ⟨w.heap.size, 17, none⟩ = some (.slice A17 p.f12.length c17) := blk_cells BX.out 17 _ H17.out
    have hn := HN.out
    by_cases hlt : i < p.f12.length
    ·have hltz : (i : Int) < (p.f12.length : Int) := by omega
     have hi0 : (0 : Int) ≤ (i : Int) := by omega
     have hks := HTS.out
     rw [drop_getS p.f12 i hlt] at hks
     simp only [allE] at hks
     obtain ⟨t, ht, hks⟩ := Option.bind_eq_some_iff.1 hks
     obtain ⟨ad, c, e17, hcl, hKu, hcell⟩ := kid_getS w A17 _ p.f12 HK17.out i hlt
     subst e17
     have HCALL := Aside0.mk (fun W (hb : Below w.heap.size w W) => IH.out (p.f12.getD i z31) c (wrap64 (d - 1)) t W (k31.K_below hb hKu) ht)
     have HCL := Aside0.mk hcl
     have HCELL := Aside0.mk (show ∀ j v, c[j]? = some v → wr.cell? ((ad.add (i * 18)).add j) = some v from fun j v hj => (HB.out.cell (World.block_lt_of_cell? w _ (hcell j v hj))).trans (hcell j v hj))
     clear hKu ht HTS hcl hcell hn
     cases t with
     | true =>
      rw [if_pos rfl] at hks
      have HTS2 := Aside0.mk hks
      clear hks
      go_wp2_with (first
       | ((with_reducible refine gate_dst (N := 93) rfl ?_); (try (refine gate_guard (by rfl) ?_; dsimp only)); refine load_all rfl rfl (cs := c) rfl HAGG.out (fun W => by rw [HCL.out]; exact HSZ.out W) HCELL.out ?_)
       | (go_at_call 10; refine (HCALL.out _ HB.out).mono ?_; rintro e w4 ⟨rfl, hb4⟩; have HB4 := Aside0.mk (below_step HB.out hb4); have BX4 := Aside0.mk ((hb4.block w.heap.size (Array.getElem?_eq_some_iff.1 BX.out).1).trans BX.out); clear hb4))
      go_roundg (p.f12.length - (i + 1))
      case measure => omega
      case rel => have hN := HN.out; exact ⟨i + 1, by first | go_num | (congr 1; unfold wrap64; omega), by omega, by omega, HTS2, HB4, BX4⟩
     | false =>
      rw [if_neg (by decide)] at hks
      obtain rfl := Option.some.inj hks
      clear hks
      go_wp2_with (first
       | ((with_reducible refine gate_dst (N := 93) rfl ?_); (try (refine gate_guard (by rfl) ?_; dsimp only)); refine load_all rfl rfl (cs := c) rfl HAGG.out (fun W => by rw [HCL.out]; exact HSZ.out W) HCELL.out ?_)
       | (go_at_call 10; refine (HCALL.out _ HB.out).mono ?_; rintro e w4 ⟨rfl, hb4⟩; have HB4 := Aside0.mk (below_step HB.out hb4); clear hb4))
      go_ret
      exact ⟨rfl, HB4.out⟩
    ·have hltz : ¬ (i : Int) < (p.f12.length : Int) := by omega
     have hks := HTS.out
     rw [List.drop_of_length_le (by omega)] at hks
     simp only [allE] at hks
     obtain rfl := Option.some.inj hks
     clear hks HTS hn
     go_wp2
     go_ret
     exact ⟨rfl, HB.out⟩
theorem hopperref25_Small.calls (k : Nat) (a0_0 : Int) (a0_1 : ByteArray) (a0_2 : Int) (a0_3 : Int) (a0_4 : ByteArray) (a0_5 : Int) (a0_6 : Int) (A0_7 : Option Addr) (c0_7 : Nat) (l0_7 : List (S24)) (A0_8 : Option Addr) (c0_8 : Nat) (l0_8 : List (S50)) (A0_9 : Option Addr) (c0_9 : Nat) (l0_9 : List Int) (A0_10 : Option Addr) (c0_10 : Nat) (l0_10 : List (S72)) (a0_11 : Int) (A0_12 : Option Addr) (c0_12 : Nat) (l0_12 : List Int) (A0_13 : Option Addr) (c0_13 : Nat) (l0_13 : List Int) (A0_14 : Option Addr) (c0_14 : Nat) (l0_14 : List (S52)) (a0_15 : Int) (a0_16 : Int) (A0_17 : Option Addr) (c0_17 : Nat) (l0_17 : List (S31)) (a1 : Int) (r : Bool) (w : World) (hr0_7 : Kd.C k24 w A0_7 l0_7.length l0_7) (hc0_7 : l0_7.length ≤ c0_7) (hr0_8 : Kd.C k50 w A0_8 l0_8.length l0_8) (hc0_8 : l0_8.length ≤ c0_8) (hr0_9 : Kd.C (Kd.int .i64) w A0_9 l0_9.length l0_9) (hc0_9 : l0_9.length ≤ c0_9) (hr0_10 : Kd.C k72 w A0_10 l0_10.length l0_10) (hc0_10 : l0_10.length ≤ c0_10) (hr0_12 : Kd.C (Kd.int .i64) w A0_12 l0_12.length l0_12) (hc0_12 : l0_12.length ≤ c0_12) (hr0_13 : Kd.C (Kd.int .i64) w A0_13 l0_13.length l0_13) (hc0_13 : l0_13.length ≤ c0_13) (hr0_14 : Kd.C k52 w A0_14 l0_14.length l0_14) (hc0_14 : l0_14.length ≤ c0_14) (hr0_17 : Kd.C k31 w A0_17 l0_17.length l0_17) (hc0_17 : l0_17.length ≤ c0_17) (h : hopperref25_Small.f k a0_0 a0_1 a0_2 a0_3 a0_4 a0_5 a0_6 l0_7 l0_8 l0_9 l0_10 a0_11 l0_12 l0_13 l0_14 a0_15 a0_16 l0_17 a1 = some r) :
  Calls Try.prog 10 #[.agg #[.int .i64 a0_0, .string a0_1, .int .i64 a0_2, .int .i64 a0_3, .string a0_4, .int .i64 a0_5, .int .i64 a0_6, .slice A0_7 l0_7.length c0_7, .slice A0_8 l0_8.length c0_8, .slice A0_9 l0_9.length c0_9, .slice A0_10 l0_10.length c0_10, .int .i64 a0_11, .slice A0_12 l0_12.length c0_12, .slice A0_13 l0_13.length c0_13, .slice A0_14 l0_14.length c0_14, .int .i64 a0_15, .int .i64 a0_16, .slice A0_17 l0_17.length c0_17], .int .i64 a1] w fun e w' => e = .returned (.bool r) ∧ Below w.heap.size w w' :=
 hopperref25_Small.core k ⟨a0_0, a0_1, ⟨a0_2, a0_3, a0_4, a0_5, a0_6, l0_7⟩, l0_8, l0_9, l0_10, a0_11, l0_12, l0_13, l0_14, a0_15, a0_16, l0_17⟩ _ a1 r w (k31_mk w ⟨a0_0, a0_1, ⟨a0_2, a0_3, a0_4, a0_5, a0_6, l0_7⟩, l0_8, l0_9, l0_10, a0_11, l0_12, l0_13, l0_14, a0_15, a0_16, l0_17⟩ hc0_7 hr0_7 hc0_8 hr0_8 hc0_9 hr0_9 hc0_10 hr0_10 hc0_12 hr0_12 hc0_13 hr0_13 hc0_14 hr0_14 hc0_17 hr0_17) h

end Go.Proofs.Ytomccmodlkdcbaa.Q
