-- PRINTED by print.py (a twelfth state) out of the translation. Not trusted: Lean checks it.
import Derived.Test.YtdojgfkcpaeacaaDoorQx0
import Derived.Test.YtdojgfkcpaeacaaDoorQx18
namespace Go.Proofs.YtdojgfkcpaeacaaDoor.Q
open Go.RowKit Go.Proofs.YtdojgfkcpaeacaaDoorW.PrintWords Go.Proofs.YtdojgfkcpaeacaaDoorW.PrintLast Go.Proofs.YtdojgfkcpaeacaaDoorW.PrintMore
attribute [local go_sem] str_gtr str_geq str_leq max2_int min2_int max_two min_two max_three min_three max_four min_four   -- for this text's walks alone
set_option linter.unusedVariables false
set_option linter.unusedSimpArgs false

/-! ### hopperref24_Compare: function 13 -/
set_option maxRecDepth 100000 in
mutual
def hopperref24_Compare.l0 : Nat → List (S36) → List (S36) → List (S39) → Int → Option (Int)
  | 0, _, _, _, _ => none
  | k + 1, x0, x1, x2, x7 => if x7 < (x2.length : Int) then (if 0 ≤ x7 then (if 0 ≤ ((rd_T39 x2 x7).f0) then (if ((rd_T39 x2 x7).f0) < (x0.length : Int) then (if ((rd_T39 x2 x7).f0) < (x1.length : Int) then (if (rd_T36 x0 ((rd_T39 x2 x7).f0)).f0 = true then (hopperref24_Compare.j1 k x0 x1 x2 x7 0 (!((rd_T36 x1 ((rd_T39 x2 x7).f0)).f0)) ((rd_T36 x0 ((rd_T39 x2 x7).f0)).f0) ((rd_T36 x0 ((rd_T39 x2 x7).f0)).f1) ((rd_T36 x1 ((rd_T39 x2 x7).f0)).f0) ((rd_T36 x1 ((rd_T39 x2 x7).f0)).f1)) else (hopperref24_Compare.j1 k x0 x1 x2 x7 0 false ((rd_T36 x0 ((rd_T39 x2 x7).f0)).f0) ((rd_T36 x0 ((rd_T39 x2 x7).f0)).f1) ((rd_T36 x1 ((rd_T39 x2 x7).f0)).f0) ((rd_T36 x1 ((rd_T39 x2 x7).f0)).f1))) else (none)) else (none)) else (none)) else (none)) else (some 0)
def hopperref24_Compare.j1 : Nat → List (S36) → List (S36) → List (S39) → Int → Int → Bool → Bool → ByteArray → Bool → ByteArray → Option (Int)
  | 0, _, _, _, _, _, _, _, _, _, _ => none
  | k + 1, x0, x1, x2, x7, x10, x39, x247000, x247001, x250000, x250001 => if x39 = true then (hopperref24_Compare.j2 k x0 x1 x2 x7 (-1) x247000 x247001 x250000 x250001) else (hopperref24_Compare.j2 k x0 x1 x2 x7 x10 x247000 x247001 x250000 x250001)
def hopperref24_Compare.j2 : Nat → List (S36) → List (S36) → List (S39) → Int → Int → Bool → ByteArray → Bool → ByteArray → Option (Int)
  | 0, _, _, _, _, _, _, _, _, _ => none
  | k + 1, x0, x1, x2, x7, x10, x247000, x247001, x250000, x250001 => if x247000 = true then (hopperref24_Compare.j3 k x0 x1 x2 x7 x10 false x247000 x247001 x250000 x250001) else (hopperref24_Compare.j3 k x0 x1 x2 x7 x10 x250000 x247000 x247001 x250000 x250001)
def hopperref24_Compare.j3 : Nat → List (S36) → List (S36) → List (S39) → Int → Int → Bool → Bool → ByteArray → Bool → ByteArray → Option (Int)
  | 0, _, _, _, _, _, _, _, _, _, _ => none
  | k + 1, x0, x1, x2, x7, x10, x46, x247000, x247001, x250000, x250001 => if x46 = true then (hopperref24_Compare.j4 k x0 x1 x2 x7 1 x247000 x247001 x250000 x250001) else (hopperref24_Compare.j4 k x0 x1 x2 x7 x10 x247000 x247001 x250000 x250001)
def hopperref24_Compare.j4 : Nat → List (S36) → List (S36) → List (S39) → Int → Int → Bool → ByteArray → Bool → ByteArray → Option (Int)
  | 0, _, _, _, _, _, _, _, _, _ => none
  | k + 1, x0, x1, x2, x7, x10, x247000, x247001, x250000, x250001 => if x247000 = true then (hopperref24_Compare.j5 k x0 x1 x2 x7 x10 false x247000 x247001 x250000 x250001) else (hopperref24_Compare.j5 k x0 x1 x2 x7 x10 (!x250000) x247000 x247001 x250000 x250001)
def hopperref24_Compare.j5 : Nat → List (S36) → List (S36) → List (S39) → Int → Int → Bool → Bool → ByteArray → Bool → ByteArray → Option (Int)
  | 0, _, _, _, _, _, _, _, _, _, _ => none
  | k + 1, x0, x1, x2, x7, x10, x54, x247000, x247001, x250000, x250001 => if x54 = true then (if 0 ≤ x7 then (if x7 < (x2.length : Int) then ((hopperref16_Compare.f k x247001 x250001 ((rd_T39 x2 x7).f1)).bind fun t251 => (hopperref24_Compare.j6 k x0 x1 x2 x7 t251)) else (none)) else (none)) else (hopperref24_Compare.j6 k x0 x1 x2 x7 x10)
def hopperref24_Compare.j6 : Nat → List (S36) → List (S36) → List (S39) → Int → Int → Option (Int)
  | 0, _, _, _, _, _ => none
  | k + 1, x0, x1, x2, x7, x10 => if 0 ≤ x7 then (if x7 < (x2.length : Int) then (if (rd_T39 x2 x7).f2 = true then (if (wrap64 (-x10)) = 0 then (hopperref24_Compare.l0 k x0 x1 x2 (wrap64 (x7 + 1))) else (some (wrap64 (-x10)))) else (if x10 = 0 then (hopperref24_Compare.l0 k x0 x1 x2 (wrap64 (x7 + 1))) else (some x10))) else (none)) else (none)
end
def hopperref24_Compare.f (k : Nat) (l0 : List (S36)) (l1 : List (S36)) (l2 : List (S39)) : Option (Int) := hopperref24_Compare.l0 k l0 l1 l2 0
def hopperref24_Compare.T12 : Bool × List (List Nat × List Nat) := (true, [([], []), ([0], [0]), ([], []), ([2], [2]), ([], []), ([], []), ([4, 5], [4, 5]), ([6], [6]), ([7], [7]), ([1, 3, 8], [1, 3, 8]), ([9, 9, 0, 1, 2, 3, 4, 5, 6, 7, 8, 9], [9])])
def hopperref24_Compare.B12 : List Nat := [0, 1, 0, 4, 0, 0, 48, 112, 240, 511, 1023]
theorem hopperref24_Compare.tab12 : rtab .any (opsOf Tryd.f13 12) = hopperref24_Compare.T12 := by kernel_rfl
theorem hopperref24_Compare.bits12 : waitsOk hopperref24_Compare.T12.2 hopperref24_Compare.B12 = true := by kernel_rfl
set_option maxHeartbeats 8000000 in
set_option maxRecDepth 100000 in
theorem hopperref24_Compare.calls (k : Nat) (A0 : Option Addr) (c0 : Nat) (l0 : List (S36)) (A1 : Option Addr) (c1 : Nat) (l1 : List (S36)) (A2 : Option Addr) (c2 : Nat) (l2 : List (S39)) (r : Int) (w : World) (hr0 : Kd.C k36 w A0 l0.length l0) (hc0 : l0.length ≤ c0) (hr1 : Kd.C k36 w A1 l1.length l1) (hc1 : l1.length ≤ c1) (hr2 : Kd.C k39 w A2 l2.length l2) (hc2 : l2.length ≤ c2) (h : hopperref24_Compare.f k l0 l1 l2 = some r) :
    Calls Tryd.prog 13 #[.slice A0 l0.length c0, .slice A1 l1.length c1, .slice A2 l2.length c2] w fun e w' => e = .returned (.int .i64 r) ∧ Below w.heap.size w w' := by
  have hu36 := Tryd.underlying36
  have HR0 := Aside0.mk hr0
  have HC0 := Aside0.mk hc0
  clear hr0 hc0
  have HR1 := Aside0.mk hr1
  have HC1 := Aside0.mk hc1
  clear hr1 hc1
  have HR2 := Aside0.mk hr2
  have HC2 := Aside0.mk hc2
  clear hr2 hc2
  have HB := Aside0.mk (Below.refl w.heap.size w)
  have H : (hopperref24_Compare.l0 k l0 l1 l2 0) = some r := h
  clear h
  have H' := Aside0.mk H
  clear H
  go_enter Tryd.func13, Tryd.ntmps13
  go_wp2
  go_loopg [7] k (fun kq v7 w' => ∃ (x7_1 : Int), v7 = .int .i64 x7_1 ∧ Aside0 (hopperref24_Compare.l0 kq l0 l1 l2 x7_1 = some r) ∧ Aside0 (kq ≤ k) ∧ Aside0 (Below w.heap.size w w'))
  case atStart => exact ⟨(0), (by first | rfl | (simp; done) | (simp [*]; done)), H', ⟨Nat.le_refl _⟩, ⟨by repeat (first | (with_reducible first | exact HB.out | apply below_alloc | apply pw_below_drewN | apply below_drew1) | exact HB.out)⟩⟩
  case round =>
    clear H'
    try clear c1
    try clear c2
    try clear p2
    obtain ⟨x7_1, rfl, HA, HK1, HB⟩ := hrel
    cases gk with
    | zero => exact absurd HA.out (by simp [hopperref24_Compare.l0])
    | succ k1 =>
      have H := HA.out
      clear HA
      simp only [hopperref24_Compare.l0] at H
      by_cases c4 : x7_1 < (l2.length : Int)
      · rw [if_pos c4] at H
        have c4b0 : decide (x7_1 < (l2.length : Int)) = true := decide_eq_true c4
        clear c4
        by_cases c5 : 0 ≤ x7_1
        · rw [if_pos c5] at H
          have c5b0 : decide (0 ≤ x7_1) = true := decide_eq_true c5
          clear c5
          by_cases c6 : 0 ≤ ((rd_T39 l2 x7_1).f0)
          · rw [if_pos c6] at H
            have c6b0 : decide (0 ≤ ((rd_T39 l2 x7_1).f0)) = true := decide_eq_true c6
            clear c6
            by_cases c7 : ((rd_T39 l2 x7_1).f0) < (l0.length : Int)
            · rw [if_pos c7] at H
              have c7b0 : decide (((rd_T39 l2 x7_1).f0) < (l0.length : Int)) = true := decide_eq_true c7
              clear c7
              by_cases c8 : ((rd_T39 l2 x7_1).f0) < (l1.length : Int)
              · rw [if_pos c8] at H
                have c8b0 : decide (((rd_T39 l2 x7_1).f0) < (l1.length : Int)) = true := decide_eq_true c8
                clear c8
                have HC9 := Aside0.mk H
                clear H
                have p244 : 0 ≤ (x7_1 : Int) := of_decide_eq_true (by first | (with_reducible assumption) | assumption)
                have q244 : x7_1 < (l2.length : Int) := of_decide_eq_true (by first | (with_reducible assumption) | assumption)
                obtain ⟨ad244, e244, hx244_0, hx244_1, hx244_2⟩ := at_T39 HR2.out x7_1 p244 q244
                cases e244
                replace hx244_0 := (HB.out.cell (World.block_lt_of_cell? w _ hx244_0)).trans hx244_0
                replace hx244_1 := (HB.out.cell (World.block_lt_of_cell? w _ hx244_1)).trans hx244_1
                replace hx244_2 := (HB.out.cell (World.block_lt_of_cell? w _ hx244_2)).trans hx244_2
                replace p244 := eq_true p244
                replace q244 := eq_true q244
                have p245 : 0 ≤ (((rd_T39 l2 x7_1).f0) : Int) := of_decide_eq_true (by first | (with_reducible assumption) | assumption)
                have q245 : ((rd_T39 l2 x7_1).f0) < (l0.length : Int) := of_decide_eq_true (by first | (with_reducible assumption) | assumption)
                obtain ⟨ad245, e245, hx245_0, hx245_1⟩ := at_T36 HR0.out ((rd_T39 l2 x7_1).f0) p245 q245
                cases e245
                replace hx245_0 := (HB.out.cell (World.block_lt_of_cell? w _ hx245_0)).trans hx245_0
                replace hx245_1 := (HB.out.cell (World.block_lt_of_cell? w _ hx245_1)).trans hx245_1
                replace p245 := eq_true p245
                replace q245 := eq_true q245
                go_upto_region 7 with (first | ((with_reducible refine gate_dst (N := 8) rfl ?_); refine box_event ?hg (N := 8) ?hd (cs := #[.bool false, .string (⟨#[]⟩ : ByteArray)]) (t := 36) ?hr ?_; (case hd => rfl); (case hg => rfl); (case hr => first | (go_simp; done) | (go_simp; rfl) | (go_simp; simp (disch := omega) only [Go.u8_and63, Go.u8_and31, Go.u8_and15, Go.u8_and7, Go.u8_or128, Go.u8_or192, Go.u8_or224, Go.u8_or240, m64]; done)); intro gb246 hg w10 hbox hb; have n0_ := Aside0.mk (below_step (mvB HB.out) hb); have n1_ := Aside0.mk (hbox); have n2_ := Aside0.mk ((by rw [hg]; exact (below_size (mvB HB.out)) : w.heap.size ≤ gb246)); have n3_ := Aside0.mk ((by rw [hg]; exact (below_size (mvB HB.out)) : w.heap.size ≤ gb246)); clear HB; have HB := n0_; have BK246 := n1_; have GW246 := n2_; have GE246 := n3_; clear n0_ n1_ n2_ n3_; clear hb hbox hg; have hcz11_0 : w10.cell? ⟨gb246, 0, none⟩ = some (.bool false) := (blk_cell BK246.out 0).trans rfl; have hcz11_1 : w10.cell? ⟨gb246, 1, none⟩ = some (.string (⟨#[]⟩ : ByteArray)) := (blk_cell BK246.out 1).trans rfl; have hfz11_0 := blk_frozen BK246.out 0; have hfz11_1 := blk_frozen BK246.out 1; have p247 : 0 ≤ (x7_1 : Int) := of_decide_eq_true (by first | (with_reducible assumption) | assumption); have q247 : x7_1 < (l2.length : Int) := of_decide_eq_true (by first | (with_reducible assumption) | assumption); obtain ⟨ad247, e247, hx247_0, hx247_1, hx247_2⟩ := at_T39 HR2.out x7_1 p247 q247; obtain rfl : ad244 = ad247 := (by injection e247); have hn247_0 : ad244.block ≠ gb246 := Nat.ne_of_lt (Nat.lt_of_lt_of_le (by have := World.block_lt_of_cell? _ _ hx247_0; first | rwa [add_block] at this | exact this) GW246.out); have hn247_1 : ad244.block ≠ gb246 := Nat.ne_of_lt (Nat.lt_of_lt_of_le (by have := World.block_lt_of_cell? _ _ hx247_0; first | rwa [add_block] at this | exact this) GW246.out); replace hx247_0 := (HB.out.cell (World.block_lt_of_cell? w _ hx247_0)).trans hx247_0; replace hx247_1 := (HB.out.cell (World.block_lt_of_cell? w _ hx247_1)).trans hx247_1; replace hx247_2 := (HB.out.cell (World.block_lt_of_cell? w _ hx247_2)).trans hx247_2; replace hx247_0 := (cell_far (p := ⟨gb246, 0, none⟩) (by first | (rw [add_block]; exact hn247_0) | (show (Addr.add _ _).block ≠ _; rw [add_block]; exact hn247_0) | exact hn247_0) (.bool ((rd_T36 l0 ((rd_T39 l2 x7_1).f0)).f0))).trans hx247_0; replace hx247_1 := (cell_far (p := ⟨gb246, 0, none⟩) (by first | (rw [add_block]; exact hn247_0) | (show (Addr.add _ _).block ≠ _; rw [add_block]; exact hn247_0) | exact hn247_0) (.bool ((rd_T36 l0 ((rd_T39 l2 x7_1).f0)).f0))).trans hx247_1; replace hx247_2 := (cell_far (p := ⟨gb246, 0, none⟩) (by first | (rw [add_block]; exact hn247_0) | (show (Addr.add _ _).block ≠ _; rw [add_block]; exact hn247_0) | exact hn247_0) (.bool ((rd_T36 l0 ((rd_T39 l2 x7_1).f0)).f0))).trans hx247_2; replace hx247_0 := (cell_far (p := ⟨gb246, 1, none⟩) (by first | (rw [add_block]; exact hn247_1) | (show (Addr.add _ _).block ≠ _; rw [add_block]; exact hn247_1) | exact hn247_1) (.string ((rd_T36 l0 ((rd_T39 l2 x7_1).f0)).f1))).trans hx247_0; replace hx247_1 := (cell_far (p := ⟨gb246, 1, none⟩) (by first | (rw [add_block]; exact hn247_1) | (show (Addr.add _ _).block ≠ _; rw [add_block]; exact hn247_1) | exact hn247_1) (.string ((rd_T36 l0 ((rd_T39 l2 x7_1).f0)).f1))).trans hx247_1; replace hx247_2 := (cell_far (p := ⟨gb246, 1, none⟩) (by first | (rw [add_block]; exact hn247_1) | (show (Addr.add _ _).block ≠ _; rw [add_block]; exact hn247_1) | exact hn247_1) (.string ((rd_T36 l0 ((rd_T39 l2 x7_1).f0)).f1))).trans hx247_2; clear hn247_0; clear hn247_1; replace p247 := eq_true p247; replace q247 := eq_true q247; have p248 : 0 ≤ (((rd_T39 l2 x7_1).f0) : Int) := of_decide_eq_true (by first | (with_reducible assumption) | assumption); have q248 : ((rd_T39 l2 x7_1).f0) < (l1.length : Int) := of_decide_eq_true (by first | (with_reducible assumption) | assumption); obtain ⟨ad248, e248, hx248_0, hx248_1⟩ := at_T36 HR1.out ((rd_T39 l2 x7_1).f0) p248 q248; cases e248; have hn248_0 : ad248.block ≠ gb246 := Nat.ne_of_lt (Nat.lt_of_lt_of_le (by have := World.block_lt_of_cell? _ _ hx248_0; first | rwa [add_block] at this | exact this) GW246.out); have hn248_1 : ad248.block ≠ gb246 := Nat.ne_of_lt (Nat.lt_of_lt_of_le (by have := World.block_lt_of_cell? _ _ hx248_0; first | rwa [add_block] at this | exact this) GW246.out); replace hx248_0 := (HB.out.cell (World.block_lt_of_cell? w _ hx248_0)).trans hx248_0; replace hx248_1 := (HB.out.cell (World.block_lt_of_cell? w _ hx248_1)).trans hx248_1; replace hx248_0 := (cell_far (p := ⟨gb246, 0, none⟩) (by first | (rw [add_block]; exact hn248_0) | (show (Addr.add _ _).block ≠ _; rw [add_block]; exact hn248_0) | exact hn248_0) (.bool ((rd_T36 l0 ((rd_T39 l2 x7_1).f0)).f0))).trans hx248_0; replace hx248_1 := (cell_far (p := ⟨gb246, 0, none⟩) (by first | (rw [add_block]; exact hn248_0) | (show (Addr.add _ _).block ≠ _; rw [add_block]; exact hn248_0) | exact hn248_0) (.bool ((rd_T36 l0 ((rd_T39 l2 x7_1).f0)).f0))).trans hx248_1; replace hx248_0 := (cell_far (p := ⟨gb246, 1, none⟩) (by first | (rw [add_block]; exact hn248_1) | (show (Addr.add _ _).block ≠ _; rw [add_block]; exact hn248_1) | exact hn248_1) (.string ((rd_T36 l0 ((rd_T39 l2 x7_1).f0)).f1))).trans hx248_0; replace hx248_1 := (cell_far (p := ⟨gb246, 1, none⟩) (by first | (rw [add_block]; exact hn248_1) | (show (Addr.add _ _).block ≠ _; rw [add_block]; exact hn248_1) | exact hn248_1) (.string ((rd_T36 l0 ((rd_T39 l2 x7_1).f0)).f1))).trans hx248_1; clear hn248_0; clear hn248_1; replace p248 := eq_true p248; replace q248 := eq_true q248) | ((with_reducible refine gate_dst (N := 9) rfl ?_); refine box_event ?hg (N := 9) ?hd (cs := #[.bool false, .string (⟨#[]⟩ : ByteArray)]) (t := 36) ?hr ?_; (case hd => rfl); (case hg => rfl); (case hr => first | (go_simp; done) | (go_simp; rfl) | (go_simp; simp (disch := omega) only [Go.u8_and63, Go.u8_and31, Go.u8_and15, Go.u8_and7, Go.u8_or128, Go.u8_or192, Go.u8_or224, Go.u8_or240, m64]; done)); intro gb249 hg w12 hbox hb; have n0_ := Aside0.mk (blk_below (g := gb246) (o := .cells #[.bool ((rd_T36 l0 ((rd_T39 l2 x7_1).f0)).f0), .string ((rd_T36 l0 ((rd_T39 l2 x7_1).f0)).f1)] 36 (0, 0)) (by (with_reducible repeat (first | refine blk_drewN ?_ _ | refine blk_drew ?_ | refine blk_alloc ?_ _)); refine blk_put (cs := #[.bool ((rd_T36 l0 ((rd_T39 l2 x7_1).f0)).f0), .string (⟨#[]⟩ : ByteArray)]) ?_ 1 _ rfl; (with_reducible repeat (first | refine blk_drewN ?_ _ | refine blk_drew ?_ | refine blk_alloc ?_ _)); refine blk_put (cs := #[.bool false, .string (⟨#[]⟩ : ByteArray)]) ?_ 0 _ rfl; (with_reducible repeat (first | refine blk_drewN ?_ _ | refine blk_drew ?_ | refine blk_alloc ?_ _)); exact BK246.out) hb); have n1_ := Aside0.mk (below_step (by repeat (first | (with_reducible first | exact HB.out | apply below_alloc | apply pw_below_drewN | apply below_drew1 | refine below_set ?_ GE246.out) | exact HB.out)) hb); have n2_ := Aside0.mk (hbox); have n3_ := Aside0.mk ((by rw [hg]; exact (below_size (by repeat (first | (with_reducible first | exact HB.out | apply below_alloc | apply pw_below_drewN | apply below_drew1 | refine below_set ?_ GE246.out) | exact HB.out))) : w.heap.size ≤ gb249)); have n4_ := Aside0.mk ((by rw [hg]; exact (below_size (by repeat (first | (with_reducible first | exact HB.out | apply below_alloc | apply pw_below_drewN | apply below_drew1 | refine below_set ?_ GE246.out) | exact HB.out))) : w.heap.size ≤ gb249)); have n5_ := Aside0.mk ((by rw [hg]; exact Nat.ne_of_lt (blk_lt (g := gb246) (o := .cells #[.bool ((rd_T36 l0 ((rd_T39 l2 x7_1).f0)).f0), .string ((rd_T36 l0 ((rd_T39 l2 x7_1).f0)).f1)] 36 (0, 0)) (by (with_reducible repeat (first | refine blk_drewN ?_ _ | refine blk_drew ?_ | refine blk_alloc ?_ _)); refine blk_put (cs := #[.bool ((rd_T36 l0 ((rd_T39 l2 x7_1).f0)).f0), .string (⟨#[]⟩ : ByteArray)]) ?_ 1 _ rfl; (with_reducible repeat (first | refine blk_drewN ?_ _ | refine blk_drew ?_ | refine blk_alloc ?_ _)); refine blk_put (cs := #[.bool false, .string (⟨#[]⟩ : ByteArray)]) ?_ 0 _ rfl; (with_reducible repeat (first | refine blk_drewN ?_ _ | refine blk_drew ?_ | refine blk_alloc ?_ _)); exact BK246.out)) : gb246 ≠ gb249)); have n6_ := Aside0.mk ((by rw [hg]; exact Nat.ne_of_gt (blk_lt (g := gb246) (o := .cells #[.bool ((rd_T36 l0 ((rd_T39 l2 x7_1).f0)).f0), .string ((rd_T36 l0 ((rd_T39 l2 x7_1).f0)).f1)] 36 (0, 0)) (by (with_reducible repeat (first | refine blk_drewN ?_ _ | refine blk_drew ?_ | refine blk_alloc ?_ _)); refine blk_put (cs := #[.bool ((rd_T36 l0 ((rd_T39 l2 x7_1).f0)).f0), .string (⟨#[]⟩ : ByteArray)]) ?_ 1 _ rfl; (with_reducible repeat (first | refine blk_drewN ?_ _ | refine blk_drew ?_ | refine blk_alloc ?_ _)); refine blk_put (cs := #[.bool false, .string (⟨#[]⟩ : ByteArray)]) ?_ 0 _ rfl; (with_reducible repeat (first | refine blk_drewN ?_ _ | refine blk_drew ?_ | refine blk_alloc ?_ _)); exact BK246.out)) : gb249 ≠ gb246)); clear BK246; clear HB; have BK246 := n0_; have HB := n1_; have BK249 := n2_; have GW249 := n3_; have GE249 := n4_; have NB246_249 := n5_; have NB249_246 := n6_; clear n0_ n1_ n2_ n3_ n4_ n5_ n6_; clear hb hbox hg; have hnb13 := NB249_246.out; have hnc13 := NB246_249.out; have hcz14_0 : w12.cell? ⟨gb249, 0, none⟩ = some (.bool false) := (blk_cell BK249.out 0).trans rfl; have hcz14_1 : w12.cell? ⟨gb249, 1, none⟩ = some (.string (⟨#[]⟩ : ByteArray)) := (blk_cell BK249.out 1).trans rfl; have hfz14_0 := blk_frozen BK249.out 0; have hfz14_1 := blk_frozen BK249.out 1))
                (try simp only [Act.put, List.setIfInBounds_toArray, List.set_cons_zero, List.set_cons_succ])
                go_cut [39] (fun v39 wc => ∃ (kq : Nat) (x39_8 : Bool), v39 = .bool x39_8 ∧ Aside0 (hopperref24_Compare.j1 kq l0 l1 l2 x7_1 0 x39_8 ((rd_T36 l0 ((rd_T39 l2 x7_1).f0)).f0) ((rd_T36 l0 ((rd_T39 l2 x7_1).f0)).f1) ((rd_T36 l1 ((rd_T39 l2 x7_1).f0)).f0) ((rd_T36 l1 ((rd_T39 l2 x7_1).f0)).f1) = some r) ∧ Aside0 (kq ≤ k1) ∧ Aside0 (wc.heap[gb246]? = some (.cells #[.bool ((rd_T36 l0 ((rd_T39 l2 x7_1).f0)).f0), .string ((rd_T36 l0 ((rd_T39 l2 x7_1).f0)).f1)] 36 (0, 0))) ∧ Aside0 (wc.heap[gb249]? = some (.cells #[.bool ((rd_T36 l1 ((rd_T39 l2 x7_1).f0)).f0), .string ((rd_T36 l1 ((rd_T39 l2 x7_1).f0)).f1)] 36 (0, 0))) ∧ Aside0 (Below w.heap.size w wc))
                case first =>
                  have H := HC9.out
                  clear HC9
                  obtain ⟨bq15, hbq15⟩ : ∃ b_ : Bool, b_ = ((rd_T36 l0 ((rd_T39 l2 x7_1).f0)).f0) := ⟨_, rfl⟩
                  replace H : (if bq15 = true then (hopperref24_Compare.j1 k1 l0 l1 l2 x7_1 0 (!((rd_T36 l1 ((rd_T39 l2 x7_1).f0)).f0)) bq15 ((rd_T36 l0 ((rd_T39 l2 x7_1).f0)).f1) ((rd_T36 l1 ((rd_T39 l2 x7_1).f0)).f0) ((rd_T36 l1 ((rd_T39 l2 x7_1).f0)).f1)) else (hopperref24_Compare.j1 k1 l0 l1 l2 x7_1 0 false bq15 ((rd_T36 l0 ((rd_T39 l2 x7_1).f0)).f1) ((rd_T36 l1 ((rd_T39 l2 x7_1).f0)).f0) ((rd_T36 l1 ((rd_T39 l2 x7_1).f0)).f1))) = some r := by rw [← hbq15] at H; exact H
                  have Nbq15 := Aside0.mk hbq15
                  clear hbq15
                  (try rw [← Nbq15.out])
                  by_cases c16 : bq15 = true
                  · subst c16
                    have H1 : (hopperref24_Compare.j1 k1 l0 l1 l2 x7_1 0 (!((rd_T36 l1 ((rd_T39 l2 x7_1).f0)).f0)) true ((rd_T36 l0 ((rd_T39 l2 x7_1).f0)).f1) ((rd_T36 l1 ((rd_T39 l2 x7_1).f0)).f0) ((rd_T36 l1 ((rd_T39 l2 x7_1).f0)).f1)) = some r := by rw [if_pos rfl] at H; exact H
                    clear H
                    have H := H1
                    clear H1
                    have H' := Aside0.mk H
                    clear H
                    have hnb17 := NB246_249.out
                    have hnc17 := NB249_246.out
                    have hcz18_0 : w12.cell? ⟨gb246, 0, none⟩ = some (.bool true) := (blk_cell BK246.out 0).trans (by first | rfl | (simp [← Nbq15.out]; done))
                    have hcz18_1 : w12.cell? ⟨gb246, 1, none⟩ = some (.string ((rd_T36 l0 ((rd_T39 l2 x7_1).f0)).f1)) := (blk_cell BK246.out 1).trans (by first | rfl | (simp [← Nbq15.out]; done))
                    have hfz18_0 := blk_frozen BK246.out 0
                    have hfz18_1 := blk_frozen BK246.out 1
                    have hcz19_0 : w12.cell? ⟨gb249, 0, none⟩ = some (.bool false) := (blk_cell BK249.out 0).trans (by first | rfl | (simp [← Nbq15.out]; done))
                    have hcz19_1 : w12.cell? ⟨gb249, 1, none⟩ = some (.string (⟨#[]⟩ : ByteArray)) := (blk_cell BK249.out 1).trans (by first | rfl | (simp [← Nbq15.out]; done))
                    have hfz19_0 := blk_frozen BK249.out 0
                    have hfz19_1 := blk_frozen BK249.out 1
                    go_wp2
                    go_meet
                    case rel => exact ⟨_, (!((rd_T36 l1 ((rd_T39 l2 x7_1).f0)).f0)), (by first | rfl | (simp; done) | (simp [*]; done)), (by first | exact H' | (rw [← Nbq15.out]; exact H')), ⟨by have := HK1.out; first | omega | exact Nat.le_refl _⟩, ⟨by (with_reducible repeat (first | refine blk_drewN ?_ _ | refine blk_drew ?_ | refine blk_alloc ?_ _)); refine blk_far ?_ NB246_249.out _; (with_reducible repeat (first | refine blk_drewN ?_ _ | refine blk_drew ?_ | refine blk_alloc ?_ _)); refine blk_far ?_ NB246_249.out _; (with_reducible repeat (first | refine blk_drewN ?_ _ | refine blk_drew ?_ | refine blk_alloc ?_ _)); exact BK246.out⟩, ⟨by (with_reducible repeat (first | refine blk_drewN ?_ _ | refine blk_drew ?_ | refine blk_alloc ?_ _)); refine blk_put (cs := #[.bool ((rd_T36 l1 ((rd_T39 l2 x7_1).f0)).f0), .string (⟨#[]⟩ : ByteArray)]) ?_ 1 _ rfl; (with_reducible repeat (first | refine blk_drewN ?_ _ | refine blk_drew ?_ | refine blk_alloc ?_ _)); refine blk_put (cs := #[.bool false, .string (⟨#[]⟩ : ByteArray)]) ?_ 0 _ rfl; (with_reducible repeat (first | refine blk_drewN ?_ _ | refine blk_drew ?_ | refine blk_alloc ?_ _)); exact BK249.out⟩, ⟨by repeat (first | (with_reducible first | exact HB.out | apply below_alloc | apply pw_below_drewN | apply below_drew1 | refine below_set ?_ GE246.out | refine below_set ?_ GE249.out) | exact HB.out)⟩⟩
                  · replace c16 := Bool.eq_false_iff.mpr c16
                    subst c16
                    have H1 : (hopperref24_Compare.j1 k1 l0 l1 l2 x7_1 0 false false ((rd_T36 l0 ((rd_T39 l2 x7_1).f0)).f1) ((rd_T36 l1 ((rd_T39 l2 x7_1).f0)).f0) ((rd_T36 l1 ((rd_T39 l2 x7_1).f0)).f1)) = some r := by rw [if_neg (show ¬ (false = true) by decide)] at H; exact H
                    clear H
                    have H := H1
                    clear H1
                    have H' := Aside0.mk H
                    clear H
                    have hnb20 := NB246_249.out
                    have hnc20 := NB249_246.out
                    have hcz21_0 : w12.cell? ⟨gb246, 0, none⟩ = some (.bool false) := (blk_cell BK246.out 0).trans (by first | rfl | (simp [← Nbq15.out]; done))
                    have hcz21_1 : w12.cell? ⟨gb246, 1, none⟩ = some (.string ((rd_T36 l0 ((rd_T39 l2 x7_1).f0)).f1)) := (blk_cell BK246.out 1).trans (by first | rfl | (simp [← Nbq15.out]; done))
                    have hfz21_0 := blk_frozen BK246.out 0
                    have hfz21_1 := blk_frozen BK246.out 1
                    go_wp2
                    go_meet
                    case rel => exact ⟨_, (false), (by first | rfl | (simp; done) | (simp [*]; done)), (by first | exact H' | (rw [← Nbq15.out]; exact H')), ⟨by have := HK1.out; first | omega | exact Nat.le_refl _⟩, ⟨by (with_reducible repeat (first | refine blk_drewN ?_ _ | refine blk_drew ?_ | refine blk_alloc ?_ _)); refine blk_far ?_ NB246_249.out _; (with_reducible repeat (first | refine blk_drewN ?_ _ | refine blk_drew ?_ | refine blk_alloc ?_ _)); refine blk_far ?_ NB246_249.out _; (with_reducible repeat (first | refine blk_drewN ?_ _ | refine blk_drew ?_ | refine blk_alloc ?_ _)); exact BK246.out⟩, ⟨by (with_reducible repeat (first | refine blk_drewN ?_ _ | refine blk_drew ?_ | refine blk_alloc ?_ _)); refine blk_put (cs := #[.bool ((rd_T36 l1 ((rd_T39 l2 x7_1).f0)).f0), .string (⟨#[]⟩ : ByteArray)]) ?_ 1 _ rfl; (with_reducible repeat (first | refine blk_drewN ?_ _ | refine blk_drew ?_ | refine blk_alloc ?_ _)); refine blk_put (cs := #[.bool false, .string (⟨#[]⟩ : ByteArray)]) ?_ 0 _ rfl; (with_reducible repeat (first | refine blk_drewN ?_ _ | refine blk_drew ?_ | refine blk_alloc ?_ _)); exact BK249.out⟩, ⟨by repeat (first | (with_reducible first | exact HB.out | apply below_alloc | apply pw_below_drewN | apply below_drew1 | refine below_set ?_ GE246.out | refine below_set ?_ GE249.out) | exact HB.out)⟩⟩
                case rest =>
                  clear HC9
                  try clear c1
                  try clear q1
                  try clear c2
                  try clear p2
                  try clear q2
                  try clear hx2
                  try clear c4
                  try clear c4b0
                  try clear c5
                  try clear c5b0
                  try clear c6
                  try clear c6b0
                  try clear c7
                  try clear c7b0
                  try clear c8
                  try clear c8b0
                  try clear c13
                  try clear q15
                  try clear c16
                  try clear c17
                  try clear c20
                  try clear hcz11_0
                  try clear hcz11_1
                  try clear hcz14_0
                  try clear hcz14_1
                  try clear hcz18_0
                  try clear hcz18_1
                  try clear hcz19_0
                  try clear hcz19_1
                  try clear hcz21_0
                  try clear hcz21_1
                  try clear hfz11_0
                  try clear hfz11_1
                  try clear hfz14_0
                  try clear hfz14_1
                  try clear hfz18_0
                  try clear hfz18_1
                  try clear hfz19_0
                  try clear hfz19_1
                  try clear hfz21_0
                  try clear hfz21_1
                  try clear hx244_0
                  try clear hx244_1
                  try clear hx244_2
                  try clear hx245_0
                  try clear hx245_1
                  try clear hx247_0
                  try clear hx247_1
                  try clear hx247_2
                  try clear hx248_0
                  try clear hx248_1
                  try clear p2
                  try clear p244
                  try clear p245
                  try clear p247
                  try clear p248
                  try clear q244
                  try clear q245
                  try clear q247
                  try clear q248
                  obtain ⟨kq, x39_8, rfl, HA, HJ8, BK246, BK249, HB⟩ := hcut
                  cases kq with
                  | zero => exact absurd HA.out (by simp [hopperref24_Compare.j1])
                  | succ kj8 =>
                    have H := HA.out
                    clear HA
                    simp only [hopperref24_Compare.j1] at H
                    have HC22 := Aside0.mk H
                    clear H
                    go_upto_if 39 with (fail)
                    go_cut [10] (fun v10 wc => ∃ (kq : Nat) (x10_21 : Int), v10 = .int .i64 x10_21 ∧ Aside0 (hopperref24_Compare.j2 kq l0 l1 l2 x7_1 x10_21 ((rd_T36 l0 ((rd_T39 l2 x7_1).f0)).f0) ((rd_T36 l0 ((rd_T39 l2 x7_1).f0)).f1) ((rd_T36 l1 ((rd_T39 l2 x7_1).f0)).f0) ((rd_T36 l1 ((rd_T39 l2 x7_1).f0)).f1) = some r) ∧ Aside0 (kq ≤ kj8) ∧ Aside0 (wc.heap[gb246]? = some (.cells #[.bool ((rd_T36 l0 ((rd_T39 l2 x7_1).f0)).f0), .string ((rd_T36 l0 ((rd_T39 l2 x7_1).f0)).f1)] 36 (0, 0))) ∧ Aside0 (wc.heap[gb249]? = some (.cells #[.bool ((rd_T36 l1 ((rd_T39 l2 x7_1).f0)).f0), .string ((rd_T36 l1 ((rd_T39 l2 x7_1).f0)).f1)] 36 (0, 0))) ∧ Aside0 (Below w.heap.size w wc))
                    case first =>
                      have H := HC22.out
                      clear HC22
                      by_cases c23 : x39_8 = true
                      · subst c23
                        have H1 : (hopperref24_Compare.j2 kj8 l0 l1 l2 x7_1 (-1) ((rd_T36 l0 ((rd_T39 l2 x7_1).f0)).f0) ((rd_T36 l0 ((rd_T39 l2 x7_1).f0)).f1) ((rd_T36 l1 ((rd_T39 l2 x7_1).f0)).f0) ((rd_T36 l1 ((rd_T39 l2 x7_1).f0)).f1)) = some r := by rw [if_pos rfl] at H; exact H
                        clear H
                        have H := H1
                        clear H1
                        have H' := Aside0.mk H
                        clear H
                        go_wp2
                        go_meet
                        case rel => exact ⟨_, ((-1)), (by first | rfl | (simp; done) | (simp [*]; done)), (by first | exact H' | (rw [← Nbq15.out]; exact H')), ⟨by have := HK1.out; have := HJ8.out; first | omega | exact Nat.le_refl _⟩, ⟨by (with_reducible repeat (first | refine blk_drewN ?_ _ | refine blk_drew ?_ | refine blk_alloc ?_ _)); exact BK246.out⟩, ⟨by (with_reducible repeat (first | refine blk_drewN ?_ _ | refine blk_drew ?_ | refine blk_alloc ?_ _)); exact BK249.out⟩, ⟨by repeat (first | (with_reducible first | exact HB.out | apply below_alloc | apply pw_below_drewN | apply below_drew1 | refine below_set ?_ GE246.out | refine below_set ?_ GE249.out) | exact HB.out)⟩⟩
                      · replace c23 := Bool.eq_false_iff.mpr c23
                        subst c23
                        have H1 : (hopperref24_Compare.j2 kj8 l0 l1 l2 x7_1 0 ((rd_T36 l0 ((rd_T39 l2 x7_1).f0)).f0) ((rd_T36 l0 ((rd_T39 l2 x7_1).f0)).f1) ((rd_T36 l1 ((rd_T39 l2 x7_1).f0)).f0) ((rd_T36 l1 ((rd_T39 l2 x7_1).f0)).f1)) = some r := by rw [if_neg (show ¬ (false = true) by decide)] at H; exact H
                        clear H
                        have H := H1
                        clear H1
                        have H' := Aside0.mk H
                        clear H
                        go_wp2
                        go_meet
                        case rel => exact ⟨_, (0), (by first | rfl | (simp; done) | (simp [*]; done)), (by first | exact H' | (rw [← Nbq15.out]; exact H')), ⟨by have := HK1.out; have := HJ8.out; first | omega | exact Nat.le_refl _⟩, ⟨by (with_reducible repeat (first | refine blk_drewN ?_ _ | refine blk_drew ?_ | refine blk_alloc ?_ _)); exact BK246.out⟩, ⟨by (with_reducible repeat (first | refine blk_drewN ?_ _ | refine blk_drew ?_ | refine blk_alloc ?_ _)); exact BK249.out⟩, ⟨by repeat (first | (with_reducible first | exact HB.out | apply below_alloc | apply pw_below_drewN | apply below_drew1 | refine below_set ?_ GE246.out | refine below_set ?_ GE249.out) | exact HB.out)⟩⟩
                    case rest =>
                      clear HC22
                      try clear c1
                      try clear q1
                      try clear c2
                      try clear p2
                      try clear q2
                      try clear hx2
                      try clear c4
                      try clear c4b0
                      try clear c5
                      try clear c5b0
                      try clear c6
                      try clear c6b0
                      try clear c7
                      try clear c7b0
                      try clear c8
                      try clear c8b0
                      try clear c13
                      try clear q15
                      try clear c16
                      try clear c17
                      try clear c20
                      try clear c23
                      try clear hcz11_0
                      try clear hcz11_1
                      try clear hcz14_0
                      try clear hcz14_1
                      try clear hcz18_0
                      try clear hcz18_1
                      try clear hcz19_0
                      try clear hcz19_1
                      try clear hcz21_0
                      try clear hcz21_1
                      try clear hfz11_0
                      try clear hfz11_1
                      try clear hfz14_0
                      try clear hfz14_1
                      try clear hfz18_0
                      try clear hfz18_1
                      try clear hfz19_0
                      try clear hfz19_1
                      try clear hfz21_0
                      try clear hfz21_1
                      try clear hx244_0
                      try clear hx244_1
                      try clear hx244_2
                      try clear hx245_0
                      try clear hx245_1
                      try clear hx247_0
                      try clear hx247_1
                      try clear hx247_2
                      try clear hx248_0
                      try clear hx248_1
                      try clear p2
                      try clear p244
                      try clear p245
                      try clear p247
                      try clear p248
                      try clear q1
                      try clear q15
                      try clear q2
                      try clear q244
                      try clear q245
                      try clear q247
                      try clear q248
                      obtain ⟨kq, x10_21, rfl, HA, HJ21, BK246, BK249, HB⟩ := hcut
                      cases kq with
                      | zero => exact absurd HA.out (by simp [hopperref24_Compare.j2])
                      | succ kj21 =>
                        have H := HA.out
                        clear HA
                        simp only [hopperref24_Compare.j2] at H
                        have HC24 := Aside0.mk H
                        clear H
                        go_upto_region 9 with (fail)
                        go_cut [46] (fun v46 wc => ∃ (kq : Nat) (x46_23 : Bool), v46 = .bool x46_23 ∧ Aside0 (hopperref24_Compare.j3 kq l0 l1 l2 x7_1 x10_21 x46_23 ((rd_T36 l0 ((rd_T39 l2 x7_1).f0)).f0) ((rd_T36 l0 ((rd_T39 l2 x7_1).f0)).f1) ((rd_T36 l1 ((rd_T39 l2 x7_1).f0)).f0) ((rd_T36 l1 ((rd_T39 l2 x7_1).f0)).f1) = some r) ∧ Aside0 (kq ≤ kj21) ∧ Aside0 (wc.heap[gb246]? = some (.cells #[.bool ((rd_T36 l0 ((rd_T39 l2 x7_1).f0)).f0), .string ((rd_T36 l0 ((rd_T39 l2 x7_1).f0)).f1)] 36 (0, 0))) ∧ Aside0 (wc.heap[gb249]? = some (.cells #[.bool ((rd_T36 l1 ((rd_T39 l2 x7_1).f0)).f0), .string ((rd_T36 l1 ((rd_T39 l2 x7_1).f0)).f1)] 36 (0, 0))) ∧ Aside0 (Below w.heap.size w wc))
                        case first =>
                          have H := HC24.out
                          clear HC24
                          by_cases c25 : ((rd_T36 l0 ((rd_T39 l2 x7_1).f0)).f0) = true
                          · rw [if_pos c25] at H
                            have c25b0 : ((rd_T36 l0 ((rd_T39 l2 x7_1).f0)).f0) = true := c25
                            clear c25
                            (first | rw [c25b0] | (simp only [i64_w, i32_w]; rw [c25b0]) | skip)
                            have H' := Aside0.mk H
                            clear H
                            have hnb26 := NB246_249.out
                            have hnc26 := NB249_246.out
                            have hcz27_0 : wc.cell? ⟨gb246, 0, none⟩ = some (.bool ((rd_T36 l0 ((rd_T39 l2 x7_1).f0)).f0)) := (blk_cell BK246.out 0).trans (by first | rfl | (simp [← Nbq15.out]; done))
                            have hcz27_1 : wc.cell? ⟨gb246, 1, none⟩ = some (.string ((rd_T36 l0 ((rd_T39 l2 x7_1).f0)).f1)) := (blk_cell BK246.out 1).trans (by first | rfl | (simp [← Nbq15.out]; done))
                            have hfz27_0 := blk_frozen BK246.out 0
                            have hfz27_1 := blk_frozen BK246.out 1
                            go_wp2
                            go_meet
                            case rel => exact ⟨_, (false), (by first | rfl | (simp; done) | (simp [*]; done)), (by first | exact H' | (rw [← Nbq15.out]; exact H')), ⟨by have := HK1.out; have := HJ8.out; have := HJ21.out; first | omega | exact Nat.le_refl _⟩, ⟨by (with_reducible repeat (first | refine blk_drewN ?_ _ | refine blk_drew ?_ | refine blk_alloc ?_ _)); exact BK246.out⟩, ⟨by (with_reducible repeat (first | refine blk_drewN ?_ _ | refine blk_drew ?_ | refine blk_alloc ?_ _)); exact BK249.out⟩, ⟨by repeat (first | (with_reducible first | exact HB.out | apply below_alloc | apply pw_below_drewN | apply below_drew1 | refine below_set ?_ GE246.out | refine below_set ?_ GE249.out) | exact HB.out)⟩⟩
                          · rw [if_neg c25] at H
                            have c25b0 : ((rd_T36 l0 ((rd_T39 l2 x7_1).f0)).f0) = false := by simpa using c25
                            clear c25
                            (first | rw [c25b0] | (simp only [i64_w, i32_w]; rw [c25b0]) | skip)
                            have H' := Aside0.mk H
                            clear H
                            have hnb28 := NB246_249.out
                            have hnc28 := NB249_246.out
                            have hcz29_0 : wc.cell? ⟨gb246, 0, none⟩ = some (.bool ((rd_T36 l0 ((rd_T39 l2 x7_1).f0)).f0)) := (blk_cell BK246.out 0).trans (by first | rfl | (simp [← Nbq15.out]; done))
                            have hcz29_1 : wc.cell? ⟨gb246, 1, none⟩ = some (.string ((rd_T36 l0 ((rd_T39 l2 x7_1).f0)).f1)) := (blk_cell BK246.out 1).trans (by first | rfl | (simp [← Nbq15.out]; done))
                            have hfz29_0 := blk_frozen BK246.out 0
                            have hfz29_1 := blk_frozen BK246.out 1
                            have hcz30_0 : wc.cell? ⟨gb249, 0, none⟩ = some (.bool ((rd_T36 l1 ((rd_T39 l2 x7_1).f0)).f0)) := (blk_cell BK249.out 0).trans (by first | rfl | (simp [← Nbq15.out]; done))
                            have hcz30_1 : wc.cell? ⟨gb249, 1, none⟩ = some (.string ((rd_T36 l1 ((rd_T39 l2 x7_1).f0)).f1)) := (blk_cell BK249.out 1).trans (by first | rfl | (simp [← Nbq15.out]; done))
                            have hfz30_0 := blk_frozen BK249.out 0
                            have hfz30_1 := blk_frozen BK249.out 1
                            go_wp2
                            go_meet
                            case rel => exact ⟨_, (((rd_T36 l1 ((rd_T39 l2 x7_1).f0)).f0)), (by first | rfl | (simp; done) | (simp [*]; done)), (by first | exact H' | (rw [← Nbq15.out]; exact H')), ⟨by have := HK1.out; have := HJ8.out; have := HJ21.out; first | omega | exact Nat.le_refl _⟩, ⟨by (with_reducible repeat (first | refine blk_drewN ?_ _ | refine blk_drew ?_ | refine blk_alloc ?_ _)); exact BK246.out⟩, ⟨by (with_reducible repeat (first | refine blk_drewN ?_ _ | refine blk_drew ?_ | refine blk_alloc ?_ _)); exact BK249.out⟩, ⟨by repeat (first | (with_reducible first | exact HB.out | apply below_alloc | apply pw_below_drewN | apply below_drew1 | refine below_set ?_ GE246.out | refine below_set ?_ GE249.out) | exact HB.out)⟩⟩
                        case rest =>
                          clear HC24
                          try clear c1
                          try clear q1
                          try clear c2
                          try clear p2
                          try clear q2
                          try clear hx2
                          try clear c4
                          try clear c4b0
                          try clear c5
                          try clear c5b0
                          try clear c6
                          try clear c6b0
                          try clear c7
                          try clear c7b0
                          try clear c8
                          try clear c8b0
                          try clear c13
                          try clear q15
                          try clear c16
                          try clear c17
                          try clear c20
                          try clear c23
                          try clear p24
                          try clear q24
                          try clear hx24
                          try clear c25
                          try clear c25b0
                          try clear c26
                          try clear c28
                          try clear hcz11_0
                          try clear hcz11_1
                          try clear hcz14_0
                          try clear hcz14_1
                          try clear hcz18_0
                          try clear hcz18_1
                          try clear hcz19_0
                          try clear hcz19_1
                          try clear hcz21_0
                          try clear hcz21_1
                          try clear hcz27_0
                          try clear hcz27_1
                          try clear hcz29_0
                          try clear hcz29_1
                          try clear hcz30_0
                          try clear hcz30_1
                          try clear hfz11_0
                          try clear hfz11_1
                          try clear hfz14_0
                          try clear hfz14_1
                          try clear hfz18_0
                          try clear hfz18_1
                          try clear hfz19_0
                          try clear hfz19_1
                          try clear hfz21_0
                          try clear hfz21_1
                          try clear hfz27_0
                          try clear hfz27_1
                          try clear hfz29_0
                          try clear hfz29_1
                          try clear hfz30_0
                          try clear hfz30_1
                          try clear hx244_0
                          try clear hx244_1
                          try clear hx244_2
                          try clear hx245_0
                          try clear hx245_1
                          try clear hx247_0
                          try clear hx247_1
                          try clear hx247_2
                          try clear hx248_0
                          try clear hx248_1
                          try clear p2
                          try clear p244
                          try clear p245
                          try clear p247
                          try clear p248
                          try clear q1
                          try clear q15
                          try clear q2
                          try clear q244
                          try clear q245
                          try clear q247
                          try clear q248
                          obtain ⟨kq, x46_23, rfl, HA, HJ23, BK246, BK249, HB⟩ := hcut
                          cases kq with
                          | zero => exact absurd HA.out (by simp [hopperref24_Compare.j3])
                          | succ kj23 =>
                            have H := HA.out
                            clear HA
                            simp only [hopperref24_Compare.j3] at H
                            have HC31 := Aside0.mk H
                            clear H
                            go_upto_if 46 with (fail)
                            go_cut [10] (fun v10 wc => ∃ (kq : Nat) (x10_30 : Int), v10 = .int .i64 x10_30 ∧ Aside0 (hopperref24_Compare.j4 kq l0 l1 l2 x7_1 x10_30 ((rd_T36 l0 ((rd_T39 l2 x7_1).f0)).f0) ((rd_T36 l0 ((rd_T39 l2 x7_1).f0)).f1) ((rd_T36 l1 ((rd_T39 l2 x7_1).f0)).f0) ((rd_T36 l1 ((rd_T39 l2 x7_1).f0)).f1) = some r) ∧ Aside0 (kq ≤ kj23) ∧ Aside0 (wc.heap[gb246]? = some (.cells #[.bool ((rd_T36 l0 ((rd_T39 l2 x7_1).f0)).f0), .string ((rd_T36 l0 ((rd_T39 l2 x7_1).f0)).f1)] 36 (0, 0))) ∧ Aside0 (wc.heap[gb249]? = some (.cells #[.bool ((rd_T36 l1 ((rd_T39 l2 x7_1).f0)).f0), .string ((rd_T36 l1 ((rd_T39 l2 x7_1).f0)).f1)] 36 (0, 0))) ∧ Aside0 (Below w.heap.size w wc))
                            case first =>
                              have H := HC31.out
                              clear HC31
                              by_cases c32 : x46_23 = true
                              · subst c32
                                have H1 : (hopperref24_Compare.j4 kj23 l0 l1 l2 x7_1 1 ((rd_T36 l0 ((rd_T39 l2 x7_1).f0)).f0) ((rd_T36 l0 ((rd_T39 l2 x7_1).f0)).f1) ((rd_T36 l1 ((rd_T39 l2 x7_1).f0)).f0) ((rd_T36 l1 ((rd_T39 l2 x7_1).f0)).f1)) = some r := by rw [if_pos rfl] at H; exact H
                                clear H
                                have H := H1
                                clear H1
                                have H' := Aside0.mk H
                                clear H
                                go_wp2
                                go_meet
                                case rel => exact ⟨_, (1), (by first | rfl | (simp; done) | (simp [*]; done)), (by first | exact H' | (rw [← Nbq15.out]; exact H')), ⟨by have := HK1.out; have := HJ8.out; have := HJ21.out; have := HJ23.out; first | omega | exact Nat.le_refl _⟩, ⟨by (with_reducible repeat (first | refine blk_drewN ?_ _ | refine blk_drew ?_ | refine blk_alloc ?_ _)); exact BK246.out⟩, ⟨by (with_reducible repeat (first | refine blk_drewN ?_ _ | refine blk_drew ?_ | refine blk_alloc ?_ _)); exact BK249.out⟩, ⟨by repeat (first | (with_reducible first | exact HB.out | apply below_alloc | apply pw_below_drewN | apply below_drew1 | refine below_set ?_ GE246.out | refine below_set ?_ GE249.out) | exact HB.out)⟩⟩
                              · replace c32 := Bool.eq_false_iff.mpr c32
                                subst c32
                                have H1 : (hopperref24_Compare.j4 kj23 l0 l1 l2 x7_1 x10_21 ((rd_T36 l0 ((rd_T39 l2 x7_1).f0)).f0) ((rd_T36 l0 ((rd_T39 l2 x7_1).f0)).f1) ((rd_T36 l1 ((rd_T39 l2 x7_1).f0)).f0) ((rd_T36 l1 ((rd_T39 l2 x7_1).f0)).f1)) = some r := by rw [if_neg (show ¬ (false = true) by decide)] at H; exact H
                                clear H
                                have H := H1
                                clear H1
                                have H' := Aside0.mk H
                                clear H
                                go_wp2
                                go_meet
                                case rel => exact ⟨_, (x10_21), (by first | rfl | (simp; done) | (simp [*]; done)), (by first | exact H' | (rw [← Nbq15.out]; exact H')), ⟨by have := HK1.out; have := HJ8.out; have := HJ21.out; have := HJ23.out; first | omega | exact Nat.le_refl _⟩, ⟨by (with_reducible repeat (first | refine blk_drewN ?_ _ | refine blk_drew ?_ | refine blk_alloc ?_ _)); exact BK246.out⟩, ⟨by (with_reducible repeat (first | refine blk_drewN ?_ _ | refine blk_drew ?_ | refine blk_alloc ?_ _)); exact BK249.out⟩, ⟨by repeat (first | (with_reducible first | exact HB.out | apply below_alloc | apply pw_below_drewN | apply below_drew1 | refine below_set ?_ GE246.out | refine below_set ?_ GE249.out) | exact HB.out)⟩⟩
                            case rest =>
                              clear HC31
                              try clear c1
                              try clear q1
                              try clear c2
                              try clear p2
                              try clear q2
                              try clear hx2
                              try clear c3
                              try clear c4
                              try clear c4b0
                              try clear c5
                              try clear c5b0
                              try clear c6
                              try clear c6b0
                              try clear c7
                              try clear c7b0
                              try clear c8
                              try clear c8b0
                              try clear c13
                              try clear q15
                              try clear c16
                              try clear c17
                              try clear c20
                              try clear c23
                              try clear p24
                              try clear q24
                              try clear hx24
                              try clear c25
                              try clear c25b0
                              try clear c26
                              try clear c28
                              try clear c32
                              try clear hcz11_0
                              try clear hcz11_1
                              try clear hcz14_0
                              try clear hcz14_1
                              try clear hcz18_0
                              try clear hcz18_1
                              try clear hcz19_0
                              try clear hcz19_1
                              try clear hcz21_0
                              try clear hcz21_1
                              try clear hcz27_0
                              try clear hcz27_1
                              try clear hcz29_0
                              try clear hcz29_1
                              try clear hcz30_0
                              try clear hcz30_1
                              try clear hfz11_0
                              try clear hfz11_1
                              try clear hfz14_0
                              try clear hfz14_1
                              try clear hfz18_0
                              try clear hfz18_1
                              try clear hfz19_0
                              try clear hfz19_1
                              try clear hfz21_0
                              try clear hfz21_1
                              try clear hfz27_0
                              try clear hfz27_1
                              try clear hfz29_0
                              try clear hfz29_1
                              try clear hfz30_0
                              try clear hfz30_1
                              try clear hx244_0
                              try clear hx244_1
                              try clear hx244_2
                              try clear hx245_0
                              try clear hx245_1
                              try clear hx247_0
                              try clear hx247_1
                              try clear hx247_2
                              try clear hx248_0
                              try clear hx248_1
                              try clear p2
                              try clear p24
                              try clear p244
                              try clear p245
                              try clear p247
                              try clear p248
                              try clear q1
                              try clear q15
                              try clear q2
                              try clear q24
                              try clear q244
                              try clear q245
                              try clear q247
                              try clear q248
                              obtain ⟨kq, x10_30, rfl, HA, HJ30, BK246, BK249, HB⟩ := hcut
                              cases kq with
                              | zero => exact absurd HA.out (by simp [hopperref24_Compare.j4])
                              | succ kj30 =>
                                have H := HA.out
                                clear HA
                                simp only [hopperref24_Compare.j4] at H
                                have HC33 := Aside0.mk H
                                clear H
                                go_upto_region 11 with (fail)
                                go_cut [54] (fun v54 wc => ∃ (kq : Nat) (x54_32 : Bool), v54 = .bool x54_32 ∧ Aside0 (hopperref24_Compare.j5 kq l0 l1 l2 x7_1 x10_30 x54_32 ((rd_T36 l0 ((rd_T39 l2 x7_1).f0)).f0) ((rd_T36 l0 ((rd_T39 l2 x7_1).f0)).f1) ((rd_T36 l1 ((rd_T39 l2 x7_1).f0)).f0) ((rd_T36 l1 ((rd_T39 l2 x7_1).f0)).f1) = some r) ∧ Aside0 (kq ≤ kj30) ∧ Aside0 (wc.heap[gb246]? = some (.cells #[.bool ((rd_T36 l0 ((rd_T39 l2 x7_1).f0)).f0), .string ((rd_T36 l0 ((rd_T39 l2 x7_1).f0)).f1)] 36 (0, 0))) ∧ Aside0 (wc.heap[gb249]? = some (.cells #[.bool ((rd_T36 l1 ((rd_T39 l2 x7_1).f0)).f0), .string ((rd_T36 l1 ((rd_T39 l2 x7_1).f0)).f1)] 36 (0, 0))) ∧ Aside0 (Below w.heap.size w wc))
                                case first =>
                                  have H := HC33.out
                                  clear HC33
                                  by_cases c34 : ((rd_T36 l0 ((rd_T39 l2 x7_1).f0)).f0) = true
                                  · rw [if_pos c34] at H
                                    have c34b0 : ((rd_T36 l0 ((rd_T39 l2 x7_1).f0)).f0) = true := c34
                                    clear c34
                                    (first | rw [c34b0] | (simp only [i64_w, i32_w]; rw [c34b0]) | skip)
                                    have H' := Aside0.mk H
                                    clear H
                                    have hnb35 := NB246_249.out
                                    have hnc35 := NB249_246.out
                                    have hcz36_0 : wc.cell? ⟨gb246, 0, none⟩ = some (.bool ((rd_T36 l0 ((rd_T39 l2 x7_1).f0)).f0)) := (blk_cell BK246.out 0).trans (by first | rfl | (simp [← Nbq15.out]; done))
                                    have hcz36_1 : wc.cell? ⟨gb246, 1, none⟩ = some (.string ((rd_T36 l0 ((rd_T39 l2 x7_1).f0)).f1)) := (blk_cell BK246.out 1).trans (by first | rfl | (simp [← Nbq15.out]; done))
                                    have hfz36_0 := blk_frozen BK246.out 0
                                    have hfz36_1 := blk_frozen BK246.out 1
                                    go_wp2
                                    go_meet
                                    case rel => exact ⟨_, (false), (by first | rfl | (simp; done) | (simp [*]; done)), (by first | exact H' | (rw [← Nbq15.out]; exact H')), ⟨by have := HK1.out; have := HJ8.out; have := HJ21.out; have := HJ23.out; have := HJ30.out; first | omega | exact Nat.le_refl _⟩, ⟨by (with_reducible repeat (first | refine blk_drewN ?_ _ | refine blk_drew ?_ | refine blk_alloc ?_ _)); exact BK246.out⟩, ⟨by (with_reducible repeat (first | refine blk_drewN ?_ _ | refine blk_drew ?_ | refine blk_alloc ?_ _)); exact BK249.out⟩, ⟨by repeat (first | (with_reducible first | exact HB.out | apply below_alloc | apply pw_below_drewN | apply below_drew1 | refine below_set ?_ GE246.out | refine below_set ?_ GE249.out) | exact HB.out)⟩⟩
                                  · rw [if_neg c34] at H
                                    have c34b0 : ((rd_T36 l0 ((rd_T39 l2 x7_1).f0)).f0) = false := by simpa using c34
                                    clear c34
                                    (first | rw [c34b0] | (simp only [i64_w, i32_w]; rw [c34b0]) | skip)
                                    have H' := Aside0.mk H
                                    clear H
                                    have hnb37 := NB246_249.out
                                    have hnc37 := NB249_246.out
                                    have hcz38_0 : wc.cell? ⟨gb246, 0, none⟩ = some (.bool ((rd_T36 l0 ((rd_T39 l2 x7_1).f0)).f0)) := (blk_cell BK246.out 0).trans (by first | rfl | (simp [← Nbq15.out]; done))
                                    have hcz38_1 : wc.cell? ⟨gb246, 1, none⟩ = some (.string ((rd_T36 l0 ((rd_T39 l2 x7_1).f0)).f1)) := (blk_cell BK246.out 1).trans (by first | rfl | (simp [← Nbq15.out]; done))
                                    have hfz38_0 := blk_frozen BK246.out 0
                                    have hfz38_1 := blk_frozen BK246.out 1
                                    have hcz39_0 : wc.cell? ⟨gb249, 0, none⟩ = some (.bool ((rd_T36 l1 ((rd_T39 l2 x7_1).f0)).f0)) := (blk_cell BK249.out 0).trans (by first | rfl | (simp [← Nbq15.out]; done))
                                    have hcz39_1 : wc.cell? ⟨gb249, 1, none⟩ = some (.string ((rd_T36 l1 ((rd_T39 l2 x7_1).f0)).f1)) := (blk_cell BK249.out 1).trans (by first | rfl | (simp [← Nbq15.out]; done))
                                    have hfz39_0 := blk_frozen BK249.out 0
                                    have hfz39_1 := blk_frozen BK249.out 1
                                    go_wp2
                                    go_meet
                                    case rel => exact ⟨_, (!((rd_T36 l1 ((rd_T39 l2 x7_1).f0)).f0)), (by first | rfl | (simp; done) | (simp [*]; done)), (by first | exact H' | (rw [← Nbq15.out]; exact H')), ⟨by have := HK1.out; have := HJ8.out; have := HJ21.out; have := HJ23.out; have := HJ30.out; first | omega | exact Nat.le_refl _⟩, ⟨by (with_reducible repeat (first | refine blk_drewN ?_ _ | refine blk_drew ?_ | refine blk_alloc ?_ _)); exact BK246.out⟩, ⟨by (with_reducible repeat (first | refine blk_drewN ?_ _ | refine blk_drew ?_ | refine blk_alloc ?_ _)); exact BK249.out⟩, ⟨by repeat (first | (with_reducible first | exact HB.out | apply below_alloc | apply pw_below_drewN | apply below_drew1 | refine below_set ?_ GE246.out | refine below_set ?_ GE249.out) | exact HB.out)⟩⟩
                                case rest =>
                                  clear HC33
                                  try clear c1
                                  try clear q1
                                  try clear c2
                                  try clear p2
                                  try clear q2
                                  try clear hx2
                                  try clear c3
                                  try clear c4
                                  try clear c4b0
                                  try clear c5
                                  try clear c5b0
                                  try clear c6
                                  try clear c6b0
                                  try clear c7
                                  try clear c7b0
                                  try clear c8
                                  try clear c8b0
                                  try clear c13
                                  try clear q15
                                  try clear c16
                                  try clear c17
                                  try clear c20
                                  try clear c23
                                  try clear p24
                                  try clear q24
                                  try clear hx24
                                  try clear c25
                                  try clear c25b0
                                  try clear c26
                                  try clear c28
                                  try clear c32
                                  try clear c34
                                  try clear c34b0
                                  try clear c35
                                  try clear c37
                                  try clear hcz11_0
                                  try clear hcz11_1
                                  try clear hcz14_0
                                  try clear hcz14_1
                                  try clear hcz18_0
                                  try clear hcz18_1
                                  try clear hcz19_0
                                  try clear hcz19_1
                                  try clear hcz21_0
                                  try clear hcz21_1
                                  try clear hcz27_0
                                  try clear hcz27_1
                                  try clear hcz29_0
                                  try clear hcz29_1
                                  try clear hcz30_0
                                  try clear hcz30_1
                                  try clear hcz36_0
                                  try clear hcz36_1
                                  try clear hcz38_0
                                  try clear hcz38_1
                                  try clear hcz39_0
                                  try clear hcz39_1
                                  try clear hfz11_0
                                  try clear hfz11_1
                                  try clear hfz14_0
                                  try clear hfz14_1
                                  try clear hfz18_0
                                  try clear hfz18_1
                                  try clear hfz19_0
                                  try clear hfz19_1
                                  try clear hfz21_0
                                  try clear hfz21_1
                                  try clear hfz27_0
                                  try clear hfz27_1
                                  try clear hfz29_0
                                  try clear hfz29_1
                                  try clear hfz30_0
                                  try clear hfz30_1
                                  try clear hfz36_0
                                  try clear hfz36_1
                                  try clear hfz38_0
                                  try clear hfz38_1
                                  try clear hfz39_0
                                  try clear hfz39_1
                                  try clear hx244_0
                                  try clear hx244_1
                                  try clear hx244_2
                                  try clear hx245_0
                                  try clear hx245_1
                                  try clear hx247_0
                                  try clear hx247_1
                                  try clear hx247_2
                                  try clear hx248_0
                                  try clear hx248_1
                                  try clear p2
                                  try clear p24
                                  try clear p244
                                  try clear p245
                                  try clear p247
                                  try clear p248
                                  try clear q1
                                  try clear q15
                                  try clear q2
                                  try clear q24
                                  try clear q244
                                  try clear q245
                                  try clear q247
                                  try clear q248
                                  obtain ⟨kq, x54_32, rfl, HA, HJ32, BK246, BK249, HB⟩ := hcut
                                  cases kq with
                                  | zero => exact absurd HA.out (by simp [hopperref24_Compare.j5])
                                  | succ kj32 =>
                                    have H := HA.out
                                    clear HA
                                    simp only [hopperref24_Compare.j5] at H
                                    have HC40 := Aside0.mk H
                                    clear H
                                    go_upto_if 54 with (fail)
                                    go_cut [10] (fun v10 wc => ∃ (kq : Nat) (x10_39 : Int), v10 = .int .i64 x10_39 ∧ Aside0 (hopperref24_Compare.j6 kq l0 l1 l2 x7_1 x10_39 = some r) ∧ Aside0 (kq ≤ kj32) ∧ Aside0 (wc.heap[gb246]? = some (.cells #[.bool ((rd_T36 l0 ((rd_T39 l2 x7_1).f0)).f0), .string ((rd_T36 l0 ((rd_T39 l2 x7_1).f0)).f1)] 36 (0, 0))) ∧ Aside0 (wc.heap[gb249]? = some (.cells #[.bool ((rd_T36 l1 ((rd_T39 l2 x7_1).f0)).f0), .string ((rd_T36 l1 ((rd_T39 l2 x7_1).f0)).f1)] 36 (0, 0))) ∧ Aside0 (Below w.heap.size w wc))
                                    case first =>
                                      have H := HC40.out
                                      clear HC40
                                      by_cases c41 : x54_32 = true
                                      · subst c41
                                        have H1 : (if 0 ≤ x7_1 then (if x7_1 < (l2.length : Int) then ((hopperref16_Compare.f kj32 ((rd_T36 l0 ((rd_T39 l2 x7_1).f0)).f1) ((rd_T36 l1 ((rd_T39 l2 x7_1).f0)).f1) ((rd_T39 l2 x7_1).f1)).bind fun t251 => (hopperref24_Compare.j6 kj32 l0 l1 l2 x7_1 t251)) else (none)) else (none)) = some r := by rw [if_pos rfl] at H; exact H
                                        clear H
                                        have H := H1
                                        clear H1
                                        by_cases c42 : 0 ≤ x7_1
                                        · rw [if_pos c42] at H
                                          have c42b0 : decide (0 ≤ x7_1) = true := decide_eq_true c42
                                          clear c42
                                          (first | rw [c42b0] | (simp only [i64_w, i32_w]; rw [c42b0]) | skip)
                                          by_cases c43 : x7_1 < (l2.length : Int)
                                          · rw [if_pos c43] at H
                                            have c43b0 : decide (x7_1 < (l2.length : Int)) = true := decide_eq_true c43
                                            clear c43
                                            replace H := Option.bind_eq_some_iff.mp H
                                            obtain ⟨t251, A440, H⟩ := H
                                            replace H : (hopperref24_Compare.j6 kj32 l0 l1 l2 x7_1 t251) = some r := H
                                            have A44 := Aside0.mk A440
                                            clear A440
                                            have H' := Aside0.mk H
                                            clear H
                                            try go_wp2
                                            have n0_ := Aside0.mk (blk_drew BK246.out)
                                            have n1_ := Aside0.mk (blk_drew BK249.out)
                                            have n2_ := Aside0.mk (below_drew1 HB.out)
                                            clear BK246
                                            clear BK249
                                            clear HB
                                            have BK246 := n0_
                                            have BK249 := n1_
                                            have HB := n2_
                                            clear n0_ n1_ n2_
                                            have p250 : 0 ≤ (x7_1 : Int) := of_decide_eq_true (by first | (with_reducible assumption) | assumption)
                                            have q250 : x7_1 < (l2.length : Int) := of_decide_eq_true (by first | (with_reducible assumption) | assumption)
                                            obtain ⟨ad250, e250, hx250_0, hx250_1, hx250_2⟩ := at_T39 HR2.out x7_1 p250 q250
                                            have hw250_2 := hx250_2
                                            have hw250_1 := hx250_1
                                            have hw250_0 := hx250_0
                                            obtain rfl : ad244 = ad250 := (by injection e250)
                                            replace hx250_0 := (HB.out.cell (World.block_lt_of_cell? w _ hx250_0)).trans hx250_0
                                            replace hx250_1 := (HB.out.cell (World.block_lt_of_cell? w _ hx250_1)).trans hx250_1
                                            replace hx250_2 := (HB.out.cell (World.block_lt_of_cell? w _ hx250_2)).trans hx250_2
                                            replace p250 := eq_true p250
                                            replace q250 := eq_true q250
                                            refine start_ (n := 11) (S := fun w' => w'.cell? ⟨gb246, 0, none⟩ = some (.bool ((rd_T36 l0 ((rd_T39 l2 x7_1).f0)).f0)) ∧ w'.cell? ⟨gb246, 1, none⟩ = some (.string ((rd_T36 l0 ((rd_T39 l2 x7_1).f0)).f1)) ∧ w'.cell? ⟨gb249, 0, none⟩ = some (.bool ((rd_T36 l1 ((rd_T39 l2 x7_1).f0)).f0)) ∧ w'.cell? ⟨gb249, 1, none⟩ = some (.string ((rd_T36 l1 ((rd_T39 l2 x7_1).f0)).f1)) ∧ w'.cell? (ad244.add ((x7_1).toNat * 3)) = some (.int .i64 ((rd_T39 l2 x7_1).f0)) ∧ w'.cell? ⟨(ad244.add ((x7_1).toNat * 3)).block, (ad244.add ((x7_1).toNat * 3)).off + 1, none⟩ = some (.int .i64 ((rd_T39 l2 x7_1).f1)) ∧ w'.cell? ⟨(ad244.add ((x7_1).toNat * 3)).block, (ad244.add ((x7_1).toNat * 3)).off + 2, none⟩ = some (.bool ((rd_T39 l2 x7_1).f2))) (ds := []) #[false, false, false, false, false, false, false, false, false, false, false] (by kernel_rfl) rfl rfl ⟨(blk_cell BK246.out 0).trans (by first | rfl | (simp [← Nbq15.out]; done)), (blk_cell BK246.out 1).trans (by first | rfl | (simp [← Nbq15.out]; done)), (blk_cell BK249.out 0).trans (by first | rfl | (simp [← Nbq15.out]; done)), (blk_cell BK249.out 1).trans (by first | rfl | (simp [← Nbq15.out]; done)), ((HB.out.cell (World.block_lt_of_cell? w _ hw250_0)).trans hw250_0), ((HB.out.cell (World.block_lt_of_cell? w _ hw250_1)).trans hw250_1), ((HB.out.cell (World.block_lt_of_cell? w _ hw250_2)).trans hw250_2)⟩ (fun hHeld => ?_); refine with_tabW hopperref24_Compare.tab12 hopperref24_Compare.bits12 (fun HT_ HW_ => ?_)
                                            generalize wc.drew = w45 at BK246 BK249 HB hx250_0 hx250_1 hx250_2 hHeld ⊢
                                            refine pure_ (i := 0) (N := some 55) (v := ?_) (a' := ?_) #[true, false, false, false, false, false, false, false, false, false, false] rfl rfl (any_of HT_.out (by kernel_rfl)) (fun _ _ _ h => h) (Or.inl ⟨by rfl, ?_⟩) ?_ ?_
                                            rotate_left
                                            · intro w'
                                              go_simp
                                              with_reducible rfl
                                            rotate_left
                                            · simp only [Act.put, List.setIfInBounds_toArray, List.set_cons_zero, List.set_cons_succ, i64_w, i32_w]
                                              rfl
                                            refine pure_ (i := 2) (N := some 57) (v := ?_) (a' := ?_) #[true, false, true, false, false, false, false, false, false, false, false] rfl rfl (any_of HT_.out (by kernel_rfl)) (fun _ _ _ h => h) (Or.inl ⟨by rfl, ?_⟩) ?_ ?_
                                            rotate_left
                                            · intro w'
                                              go_simp
                                              with_reducible rfl
                                            rotate_left
                                            · simp only [Act.put, List.setIfInBounds_toArray, List.set_cons_zero, List.set_cons_succ, i64_w, i32_w]
                                              rfl
                                            refine pure_ (i := 4) (N := some 59) (v := ?_) (a' := ?_) #[true, false, true, false, true, false, false, false, false, false, false] rfl rfl (any_of HT_.out (by kernel_rfl)) (fun _ _ _ h => h) (Or.inl ⟨by rfl, ?_⟩) ?_ ?_
                                            rotate_left
                                            · intro w'
                                              go_simp
                                              with_reducible rfl
                                            rotate_left
                                            · simp only [Act.put, List.setIfInBounds_toArray, List.set_cons_zero, List.set_cons_succ, i64_w, i32_w]
                                              rfl
                                            refine pure_ (i := 5) (N := some 60) (v := ?_) (a' := ?_) #[true, false, true, false, true, true, false, false, false, false, false] rfl rfl (any_of HT_.out (by kernel_rfl)) (fun _ _ _ h => h) (Or.inl ⟨by rfl, ?_⟩) ?_ ?_
                                            rotate_left
                                            · intro w'
                                              go_simp
                                              with_reducible rfl
                                            rotate_left
                                            · simp only [Act.put, List.setIfInBounds_toArray, List.set_cons_zero, List.set_cons_succ, i64_w, i32_w]
                                              rfl
                                            refine pure_ (i := 6) (N := some 61) (v := ?_) (a' := ?_) #[true, false, true, false, true, true, true, false, false, false, false] rfl rfl (any_of HT_.out (by kernel_rfl)) (fun _ _ _ h => h) (Or.inl ⟨by rfl, ?_⟩) ?_ ?_
                                            rotate_left
                                            · intro w'
                                              go_simp
                                              with_reducible rfl
                                            rotate_left
                                            · simp only [Act.put, List.setIfInBounds_toArray, List.set_cons_zero, List.set_cons_succ, i64_w, i32_w]
                                              rfl
                                            refine pure_ (i := 7) (N := some 62) (v := ?_) (a' := ?_) #[true, false, true, false, true, true, true, true, false, false, false] rfl rfl (any_of HT_.out (by kernel_rfl)) (fun _ _ _ h => h) (Or.inl ⟨by rfl, ?_⟩) ?_ ?_
                                            rotate_left
                                            · intro w'
                                              go_simp
                                              with_reducible rfl
                                            rotate_left
                                            · simp only [Act.put, List.setIfInBounds_toArray, List.set_cons_zero, List.set_cons_succ, i64_w, i32_w]
                                              rfl
                                            refine take_ (i := 1) (N := some 56) (v := ?_) (a' := ?_) #[true, true, true, false, true, true, true, true, false, false, false] rfl rfl (take_ofW HT_.out HW_.out (by kernel_rfl)) (fun _ _ _ h => h) (Or.inl ⟨by rfl, ?_⟩) hHeld ?_ ?_
                                            rotate_left
                                            · rintro w' ⟨s0, s1, s2, s3, s4, s5, s6⟩
                                              go_simp
                                              with_reducible rfl
                                            rotate_left
                                            · simp only [Act.put, List.setIfInBounds_toArray, List.set_cons_zero, List.set_cons_succ, i64_w, i32_w]
                                              rfl
                                            refine take_ (i := 3) (N := some 58) (v := ?_) (a' := ?_) #[true, true, true, true, true, true, true, true, false, false, false] rfl rfl (take_ofW HT_.out HW_.out (by kernel_rfl)) (fun _ _ _ h => h) (Or.inl ⟨by rfl, ?_⟩) hHeld ?_ ?_
                                            rotate_left
                                            · rintro w' ⟨s0, s1, s2, s3, s4, s5, s6⟩
                                              go_simp
                                              with_reducible rfl
                                            rotate_left
                                            · simp only [Act.put, List.setIfInBounds_toArray, List.set_cons_zero, List.set_cons_succ, i64_w, i32_w]
                                              rfl
                                            refine take_ (i := 8) (N := some 63) (v := ?_) (a' := ?_) #[true, true, true, true, true, true, true, true, true, false, false] rfl rfl (take_ofW HT_.out HW_.out (by kernel_rfl)) (fun _ _ _ h => h) (Or.inl ⟨by rfl, ?_⟩) hHeld ?_ ?_
                                            rotate_left
                                            · rintro w' ⟨s0, s1, s2, s3, s4, s5, s6⟩
                                              go_simp
                                              with_reducible rfl
                                            rotate_left
                                            · simp only [Act.put, List.setIfInBounds_toArray, List.set_cons_zero, List.set_cons_succ, i64_w, i32_w]
                                              rfl
                                            refine one_ (i := 9) (N := some 64) #[true, true, true, true, true, true, true, true, true, true, false] rfl rfl (one_of HT_.out (by kernel_rfl)) (by decide) (fun K hK => ?_)
                                            refine goes_ Tryd.func21 (by kernel_rfl) rfl #[.string ((rd_T36 l0 ((rd_T39 l2 x7_1).f0)).f1), .string ((rd_T36 l1 ((rd_T39 l2 x7_1).f0)).f1), .int .i64 ((rd_T39 l2 x7_1).f1)] (by rfl) rfl rfl (by (try simp only [List.map_toArray, List.map_cons, List.map_nil]); first | done | rfl | (simp only [List.length_drop, List.length_take]; rfl)) ?_
                                            with_reducible refine (hopperref16_Compare.calls kj32 ((rd_T36 l0 ((rd_T39 l2 x7_1).f0)).f1) ((rd_T36 l1 ((rd_T39 l2 x7_1).f0)).f1) ((rd_T39 l2 x7_1).f1) t251 _ A44.out).mono ?_
                                            rintro e w46 ⟨rfl, hb⟩
                                            refine ⟨_, rfl, ?_⟩
                                            have n0_ := Aside0.mk (blk_below (g := gb246) (o := .cells #[.bool ((rd_T36 l0 ((rd_T39 l2 x7_1).f0)).f0), .string ((rd_T36 l0 ((rd_T39 l2 x7_1).f0)).f1)] 36 (0, 0)) (by (with_reducible repeat (first | refine blk_drewN ?_ _ | refine blk_drew ?_ | refine blk_alloc ?_ _)); exact BK246.out) hb)
                                            have n1_ := Aside0.mk (blk_below (g := gb249) (o := .cells #[.bool ((rd_T36 l1 ((rd_T39 l2 x7_1).f0)).f0), .string ((rd_T36 l1 ((rd_T39 l2 x7_1).f0)).f1)] 36 (0, 0)) (by (with_reducible repeat (first | refine blk_drewN ?_ _ | refine blk_drew ?_ | refine blk_alloc ?_ _)); exact BK249.out) hb)
                                            have n2_ := Aside0.mk (below_step (by repeat (first | (with_reducible first | exact HB.out | apply below_alloc | apply pw_below_drewN | apply below_drew1 | refine below_set ?_ GE246.out | refine below_set ?_ GE249.out) | exact HB.out)) hb)
                                            clear BK246
                                            clear BK249
                                            clear HB
                                            have BK246 := n0_
                                            have BK249 := n1_
                                            have HB := n2_
                                            clear n0_ n1_ n2_
                                            (try clear hb)
                                            (try clear hb2)
                                            (try clear hk)
                                            (try clear hi)
                                            refine hK.out _ _ ⟨(blk_cell BK246.out 0).trans (by first | rfl | (simp [← Nbq15.out]; done)), (blk_cell BK246.out 1).trans (by first | rfl | (simp [← Nbq15.out]; done)), (blk_cell BK249.out 0).trans (by first | rfl | (simp [← Nbq15.out]; done)), (blk_cell BK249.out 1).trans (by first | rfl | (simp [← Nbq15.out]; done)), ((HB.out.cell (World.block_lt_of_cell? w _ hw250_0)).trans hw250_0), ((HB.out.cell (World.block_lt_of_cell? w _ hw250_1)).trans hw250_1), ((HB.out.cell (World.block_lt_of_cell? w _ hw250_2)).trans hw250_2)⟩ (fun hHeld => ?_)
                                            clear hK K
                                            refine norm_ (a' := ?_) ?_ ?_
                                            rotate_left
                                            · show Act.put _ (some 64) _ = _
                                              simp only [Act.put, List.setIfInBounds_toArray, List.set_cons_zero, List.set_cons_succ, i64_w, i32_w]
                                              rfl
                                            refine pure_ (i := 10) (N := some 10) (v := ?_) (a' := ?_) #[true, true, true, true, true, true, true, true, true, true, true] rfl rfl (any_of HT_.out (by kernel_rfl)) (fun _ _ _ h => h) (Or.inl ⟨by rfl, ?_⟩) ?_ ?_
                                            rotate_left
                                            · intro w'
                                              go_simp
                                              with_reducible rfl
                                            rotate_left
                                            · simp only [Act.put, List.setIfInBounds_toArray, List.set_cons_zero, List.set_cons_succ, i64_w, i32_w]
                                              rfl
                                            refine done_ (done_of HT_.out (by kernel_rfl)) ?_
                                            try go_wp2
                                            go_meet
                                            case rel => exact ⟨_, (t251), (by first | rfl | (simp; done) | (simp [*]; done)), (by first | exact H' | (rw [← Nbq15.out]; exact H')), ⟨by have := HK1.out; have := HJ8.out; have := HJ21.out; have := HJ23.out; have := HJ30.out; have := HJ32.out; first | omega | exact Nat.le_refl _⟩, ⟨by (with_reducible repeat (first | refine blk_drewN ?_ _ | refine blk_drew ?_ | refine blk_alloc ?_ _)); exact BK246.out⟩, ⟨by (with_reducible repeat (first | refine blk_drewN ?_ _ | refine blk_drew ?_ | refine blk_alloc ?_ _)); exact BK249.out⟩, ⟨by repeat (first | (with_reducible first | exact HB.out | apply below_alloc | apply pw_below_drewN | apply below_drew1 | refine below_set ?_ GE246.out | refine below_set ?_ GE249.out) | exact HB.out)⟩⟩
                                          · rw [if_neg c43] at H
                                            exact absurd H (by simp)
                                        · rw [if_neg c42] at H
                                          exact absurd H (by simp)
                                      · replace c41 := Bool.eq_false_iff.mpr c41
                                        subst c41
                                        have H1 : (hopperref24_Compare.j6 kj32 l0 l1 l2 x7_1 x10_30) = some r := by rw [if_neg (show ¬ (false = true) by decide)] at H; exact H
                                        clear H
                                        have H := H1
                                        clear H1
                                        have H' := Aside0.mk H
                                        clear H
                                        go_wp2
                                        go_meet
                                        case rel => exact ⟨_, (x10_30), (by first | rfl | (simp; done) | (simp [*]; done)), (by first | exact H' | (rw [← Nbq15.out]; exact H')), ⟨by have := HK1.out; have := HJ8.out; have := HJ21.out; have := HJ23.out; have := HJ30.out; have := HJ32.out; first | omega | exact Nat.le_refl _⟩, ⟨by (with_reducible repeat (first | refine blk_drewN ?_ _ | refine blk_drew ?_ | refine blk_alloc ?_ _)); exact BK246.out⟩, ⟨by (with_reducible repeat (first | refine blk_drewN ?_ _ | refine blk_drew ?_ | refine blk_alloc ?_ _)); exact BK249.out⟩, ⟨by repeat (first | (with_reducible first | exact HB.out | apply below_alloc | apply pw_below_drewN | apply below_drew1 | refine below_set ?_ GE246.out | refine below_set ?_ GE249.out) | exact HB.out)⟩⟩
                                    case rest =>
                                      clear HC40
                                      try clear c1
                                      try clear q1
                                      try clear c2
                                      try clear p2
                                      try clear q2
                                      try clear hx2
                                      try clear c3
                                      try clear c4
                                      try clear c4b0
                                      try clear c5
                                      try clear c5b0
                                      try clear c6
                                      try clear c6b0
                                      try clear c7
                                      try clear c7b0
                                      try clear c8
                                      try clear c8b0
                                      try clear c13
                                      try clear q15
                                      try clear c16
                                      try clear c17
                                      try clear c20
                                      try clear c21
                                      try clear c23
                                      try clear p24
                                      try clear q24
                                      try clear hx24
                                      try clear c25
                                      try clear c25b0
                                      try clear p25
                                      try clear q25
                                      try clear hx25
                                      try clear c26
                                      try clear c28
                                      try clear c32
                                      try clear c34
                                      try clear c34b0
                                      try clear c35
                                      try clear c37
                                      try clear c41
                                      try clear c42
                                      try clear c42b0
                                      try clear c43
                                      try clear c43b0
                                      try clear hcz11_0
                                      try clear hcz11_1
                                      try clear hcz14_0
                                      try clear hcz14_1
                                      try clear hcz18_0
                                      try clear hcz18_1
                                      try clear hcz19_0
                                      try clear hcz19_1
                                      try clear hcz21_0
                                      try clear hcz21_1
                                      try clear hcz27_0
                                      try clear hcz27_1
                                      try clear hcz29_0
                                      try clear hcz29_1
                                      try clear hcz30_0
                                      try clear hcz30_1
                                      try clear hcz36_0
                                      try clear hcz36_1
                                      try clear hcz38_0
                                      try clear hcz38_1
                                      try clear hcz39_0
                                      try clear hcz39_1
                                      try clear hfz11_0
                                      try clear hfz11_1
                                      try clear hfz14_0
                                      try clear hfz14_1
                                      try clear hfz18_0
                                      try clear hfz18_1
                                      try clear hfz19_0
                                      try clear hfz19_1
                                      try clear hfz21_0
                                      try clear hfz21_1
                                      try clear hfz27_0
                                      try clear hfz27_1
                                      try clear hfz29_0
                                      try clear hfz29_1
                                      try clear hfz30_0
                                      try clear hfz30_1
                                      try clear hfz36_0
                                      try clear hfz36_1
                                      try clear hfz38_0
                                      try clear hfz38_1
                                      try clear hfz39_0
                                      try clear hfz39_1
                                      try clear hx244_0
                                      try clear hx244_1
                                      try clear hx244_2
                                      try clear hx245_0
                                      try clear hx245_1
                                      try clear hx247_0
                                      try clear hx247_1
                                      try clear hx247_2
                                      try clear hx248_0
                                      try clear hx248_1
                                      try clear hx250_0
                                      try clear hx250_1
                                      try clear hx250_2
                                      try clear p2
                                      try clear p24
                                      try clear p244
                                      try clear p245
                                      try clear p247
                                      try clear p248
                                      try clear p250
                                      try clear q1
                                      try clear q15
                                      try clear q2
                                      try clear q24
                                      try clear q244
                                      try clear q245
                                      try clear q247
                                      try clear q248
                                      try clear q250
                                      obtain ⟨kq, x10_39, rfl, HA, HJ39, BK246, BK249, HB⟩ := hcut
                                      cases kq with
                                      | zero => exact absurd HA.out (by simp [hopperref24_Compare.j6])
                                      | succ kj39 =>
                                        have H := HA.out
                                        clear HA
                                        simp only [hopperref24_Compare.j6] at H
                                        by_cases c47 : 0 ≤ x7_1
                                        · rw [if_pos c47] at H
                                          have c47b0 : decide (0 ≤ x7_1) = true := decide_eq_true c47
                                          clear c47
                                          by_cases c48 : x7_1 < (l2.length : Int)
                                          · rw [if_pos c48] at H
                                            have c48b0 : decide (x7_1 < (l2.length : Int)) = true := decide_eq_true c48
                                            clear c48
                                            obtain ⟨bq49, hbq49⟩ : ∃ b_ : Bool, b_ = ((rd_T39 l2 x7_1).f2) := ⟨_, rfl⟩
                                            replace H : (if bq49 = true then (if (wrap64 (-x10_39)) = 0 then (hopperref24_Compare.l0 kj39 l0 l1 l2 (wrap64 (x7_1 + 1))) else (some (wrap64 (-x10_39)))) else (if x10_39 = 0 then (hopperref24_Compare.l0 kj39 l0 l1 l2 (wrap64 (x7_1 + 1))) else (some x10_39))) = some r := by rw [← hbq49] at H; exact H
                                            have Nbq49 := Aside0.mk hbq49
                                            clear hbq49
                                            by_cases c50 : bq49 = true
                                            · subst c50
                                              have H1 : (if (wrap64 (-x10_39)) = 0 then (hopperref24_Compare.l0 kj39 l0 l1 l2 (wrap64 (x7_1 + 1))) else (some (wrap64 (-x10_39)))) = some r := by rw [if_pos rfl] at H; exact H
                                              clear H
                                              have H := H1
                                              clear H1
                                              by_cases c51 : (wrap64 (-x10_39)) = 0
                                              · rw [if_pos c51] at H
                                                have c51b0 : ((wrap64 (-x10_39)) == 0) = true := beq_iff_eq.mpr c51
                                                have c51b1 : ((wrap64 (-x10_39)) != 0) = false := bne_eq_false_iff_eq.mpr c51
                                                clear c51
                                                have H' := Aside0.mk H
                                                clear H
                                                have p252 : 0 ≤ (x7_1 : Int) := of_decide_eq_true (by first | (with_reducible assumption) | assumption)
                                                have q252 : x7_1 < (l2.length : Int) := of_decide_eq_true (by first | (with_reducible assumption) | assumption)
                                                obtain ⟨ad252, e252, hx252_0, hx252_1, hx252_2⟩ := at_T39 HR2.out x7_1 p252 q252
                                                (try rw [← Nbq49.out] at hx252_2)
                                                obtain rfl : ad244 = ad252 := (by injection e252)
                                                replace hx252_0 := (HB.out.cell (World.block_lt_of_cell? w _ hx252_0)).trans hx252_0
                                                replace hx252_1 := (HB.out.cell (World.block_lt_of_cell? w _ hx252_1)).trans hx252_1
                                                replace hx252_2 := (HB.out.cell (World.block_lt_of_cell? w _ hx252_2)).trans hx252_2
                                                replace p252 := eq_true p252
                                                replace q252 := eq_true q252
                                                go_wp2
                                                go_roundg kj39
                                                case measure => have := HK1.out; have := HJ8.out; have := HJ21.out; have := HJ23.out; have := HJ30.out; have := HJ32.out; have := HJ39.out; omega
                                                case rel => exact ⟨(wrap64 (x7_1 + 1)), (by first | rfl | (simp; done) | (simp [*]; done)), (by first | exact H' | (rw [← Nbq49.out]; exact H') | (rw [← Nbq15.out]; exact H')), ⟨by have := HK1.out; have := HJ8.out; have := HJ21.out; have := HJ23.out; have := HJ30.out; have := HJ32.out; have := HJ39.out; omega⟩, ⟨by repeat (first | (with_reducible first | exact HB.out | apply below_alloc | apply pw_below_drewN | apply below_drew1 | refine below_set ?_ GE246.out | refine below_set ?_ GE249.out) | exact HB.out)⟩⟩
                                              · rw [if_neg c51] at H
                                                have c51b0 : ((wrap64 (-x10_39)) == 0) = false := beq_eq_false_iff_ne.mpr c51
                                                have c51b1 : ((wrap64 (-x10_39)) != 0) = true := bne_iff_ne.mpr c51
                                                obtain rfl := Option.some.inj H
                                                have p252 : 0 ≤ (x7_1 : Int) := of_decide_eq_true (by first | (with_reducible assumption) | assumption)
                                                have q252 : x7_1 < (l2.length : Int) := of_decide_eq_true (by first | (with_reducible assumption) | assumption)
                                                obtain ⟨ad252, e252, hx252_0, hx252_1, hx252_2⟩ := at_T39 HR2.out x7_1 p252 q252
                                                (try rw [← Nbq49.out] at hx252_2)
                                                obtain rfl : ad244 = ad252 := (by injection e252)
                                                replace hx252_0 := (HB.out.cell (World.block_lt_of_cell? w _ hx252_0)).trans hx252_0
                                                replace hx252_1 := (HB.out.cell (World.block_lt_of_cell? w _ hx252_1)).trans hx252_1
                                                replace hx252_2 := (HB.out.cell (World.block_lt_of_cell? w _ hx252_2)).trans hx252_2
                                                replace p252 := eq_true p252
                                                replace q252 := eq_true q252
                                                go_wp2
                                                go_ret
                                                exact ⟨by first | rfl | (simp [errW_none, errW_some] <;> rfl) | (simp [*, errW_none, errW_some] <;> rfl) | exact congrArg (fun b_ => Ending.returned (.bool b_)) (decide_eq_decide.2 (by unfold wrap64; omega)), by repeat (first | (with_reducible first | exact HB.out | apply below_alloc | apply pw_below_drewN | apply below_drew1 | refine below_set ?_ GE246.out | refine below_set ?_ GE249.out) | exact HB.out)⟩
                                            · replace c50 := Bool.eq_false_iff.mpr c50
                                              subst c50
                                              have H1 : (if x10_39 = 0 then (hopperref24_Compare.l0 kj39 l0 l1 l2 (wrap64 (x7_1 + 1))) else (some x10_39)) = some r := by rw [if_neg (show ¬ (false = true) by decide)] at H; exact H
                                              clear H
                                              have H := H1
                                              clear H1
                                              by_cases c52 : x10_39 = 0
                                              · rw [if_pos c52] at H
                                                have c52b0 : (x10_39 == 0) = true := beq_iff_eq.mpr c52
                                                have c52b1 : (x10_39 != 0) = false := bne_eq_false_iff_eq.mpr c52
                                                clear c52
                                                have H' := Aside0.mk H
                                                clear H
                                                have p252 : 0 ≤ (x7_1 : Int) := of_decide_eq_true (by first | (with_reducible assumption) | assumption)
                                                have q252 : x7_1 < (l2.length : Int) := of_decide_eq_true (by first | (with_reducible assumption) | assumption)
                                                obtain ⟨ad252, e252, hx252_0, hx252_1, hx252_2⟩ := at_T39 HR2.out x7_1 p252 q252
                                                (try rw [← Nbq49.out] at hx252_2)
                                                obtain rfl : ad244 = ad252 := (by injection e252)
                                                replace hx252_0 := (HB.out.cell (World.block_lt_of_cell? w _ hx252_0)).trans hx252_0
                                                replace hx252_1 := (HB.out.cell (World.block_lt_of_cell? w _ hx252_1)).trans hx252_1
                                                replace hx252_2 := (HB.out.cell (World.block_lt_of_cell? w _ hx252_2)).trans hx252_2
                                                replace p252 := eq_true p252
                                                replace q252 := eq_true q252
                                                go_wp2
                                                go_roundg kj39
                                                case measure => have := HK1.out; have := HJ8.out; have := HJ21.out; have := HJ23.out; have := HJ30.out; have := HJ32.out; have := HJ39.out; omega
                                                case rel => exact ⟨(wrap64 (x7_1 + 1)), (by first | rfl | (simp; done) | (simp [*]; done)), (by first | exact H' | (rw [← Nbq49.out]; exact H') | (rw [← Nbq15.out]; exact H')), ⟨by have := HK1.out; have := HJ8.out; have := HJ21.out; have := HJ23.out; have := HJ30.out; have := HJ32.out; have := HJ39.out; omega⟩, ⟨by repeat (first | (with_reducible first | exact HB.out | apply below_alloc | apply pw_below_drewN | apply below_drew1 | refine below_set ?_ GE246.out | refine below_set ?_ GE249.out) | exact HB.out)⟩⟩
                                              · rw [if_neg c52] at H
                                                have c52b0 : (x10_39 == 0) = false := beq_eq_false_iff_ne.mpr c52
                                                have c52b1 : (x10_39 != 0) = true := bne_iff_ne.mpr c52
                                                obtain rfl := Option.some.inj H
                                                have p252 : 0 ≤ (x7_1 : Int) := of_decide_eq_true (by first | (with_reducible assumption) | assumption)
                                                have q252 : x7_1 < (l2.length : Int) := of_decide_eq_true (by first | (with_reducible assumption) | assumption)
                                                obtain ⟨ad252, e252, hx252_0, hx252_1, hx252_2⟩ := at_T39 HR2.out x7_1 p252 q252
                                                (try rw [← Nbq49.out] at hx252_2)
                                                obtain rfl : ad244 = ad252 := (by injection e252)
                                                replace hx252_0 := (HB.out.cell (World.block_lt_of_cell? w _ hx252_0)).trans hx252_0
                                                replace hx252_1 := (HB.out.cell (World.block_lt_of_cell? w _ hx252_1)).trans hx252_1
                                                replace hx252_2 := (HB.out.cell (World.block_lt_of_cell? w _ hx252_2)).trans hx252_2
                                                replace p252 := eq_true p252
                                                replace q252 := eq_true q252
                                                go_wp2
                                                go_ret
                                                exact ⟨by first | rfl | (simp [errW_none, errW_some] <;> rfl) | (simp [*, errW_none, errW_some] <;> rfl) | exact congrArg (fun b_ => Ending.returned (.bool b_)) (decide_eq_decide.2 (by unfold wrap64; omega)), by repeat (first | (with_reducible first | exact HB.out | apply below_alloc | apply pw_below_drewN | apply below_drew1 | refine below_set ?_ GE246.out | refine below_set ?_ GE249.out) | exact HB.out)⟩
                                          · rw [if_neg c48] at H
                                            exact absurd H (by simp)
                                        · rw [if_neg c47] at H
                                          exact absurd H (by simp)
              · rw [if_neg c8] at H
                exact absurd H (by simp)
            · rw [if_neg c7] at H
              exact absurd H (by simp)
          · rw [if_neg c6] at H
            exact absurd H (by simp)
        · rw [if_neg c5] at H
          exact absurd H (by simp)
      · rw [if_neg c4] at H
        have c4b0 : decide (x7_1 < (l2.length : Int)) = false := decide_eq_false c4
        clear c4
        obtain rfl := Option.some.inj H
        go_wp2
        go_ret
        exact ⟨by first | rfl | (simp [errW_none, errW_some] <;> rfl) | (simp [*, errW_none, errW_some] <;> rfl) | exact congrArg (fun b_ => Ending.returned (.bool b_)) (decide_eq_decide.2 (by unfold wrap64; omega)), by repeat (first | (with_reducible first | exact HB.out | apply below_alloc | apply pw_below_drewN | apply below_drew1) | exact HB.out)⟩

end Go.Proofs.YtdojgfkcpaeacaaDoor.Q
