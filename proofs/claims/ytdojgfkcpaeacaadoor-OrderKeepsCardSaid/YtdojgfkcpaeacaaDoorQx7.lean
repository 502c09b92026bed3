-- PRINTED by print.py (a twelfth state) out of the translation. Not trusted: Lean checks it.
import Derived.Test.YtdojgfkcpaeacaaDoorQx0
import Derived.Test.YtdojgfkcpaeacaaDoorQx6
namespace Go.Proofs.YtdojgfkcpaeacaaDoor.Q
open Go.RowKit Go.Proofs.YtdojgfkcpaeacaaDoorW.PrintWords Go.Proofs.YtdojgfkcpaeacaaDoorW.PrintLast Go.Proofs.YtdojgfkcpaeacaaDoorW.PrintMore
attribute [local go_sem] str_gtr str_geq str_leq max2_int min2_int max_two min_two max_three min_three max_four min_four
set_option linter.unusedVariables false
set_option maxHeartbeats 8000000
set_option maxRecDepth 100000
set_option linter.unusedSimpArgs false

/-! ### order_Compare: function 12 -/
def order_Compare.l0 : Nat → List (S36) → List (S36) → List (S39) → Int → Int → Option (Int)
 | 0, _, _, _, _, _ => none
 | k + 1, x0, x1, x10, x11, x12 => if x12 < x11 then (if 0 ≤ x12 then (if x12 < (x10.length : Int) then (if 0 ≤ ((rd_T39 x10 x12).f0) then (if ((rd_T39 x10 x12).f0) < (x0.length : Int) then (if ((rd_T39 x10 x12).f0) < (x1.length : Int) then ((order_values.f k ((rd_T36 x0 ((rd_T39 x10 x12).f0)).f0) ((rd_T36 x0 ((rd_T39 x10 x12).f0)).f1) ((rd_T36 x1 ((rd_T39 x10 x12).f0)).f0) ((rd_T36 x1 ((rd_T39 x10 x12).f0)).f1) ((rd_T39 x10 x12).f1)).bind fun t138 => (if (rd_T39 x10 x12).f2 = true then (if (wrap64 (-t138)) = 0 then (order_Compare.l0 k x0 x1 x10 x11 (wrap64 (x12 + 1))) else (some (wrap64 (-t138)))) else (if t138 = 0 then (order_Compare.l0 k x0 x1 x10 x11 (wrap64 (x12 + 1))) else (some t138)))) else (none)) else (none)) else (none)) else (none)) else (none)) else (some 0)
def order_Compare.f (k : Nat) (l0 : List (S36)) (l1 : List (S36)) (l2 : List (S39)) : Option (Int) := order_Compare.l0 k l0 l1 l2 (l2.length : Int) 0
theorem order_Compare.mono_l : ∀ k, (∀ y0 y1 y2 y3 y4, LeO (order_Compare.l0 k y0 y1 y2 y3 y4) (order_Compare.l0 (k + 1) y0 y1 y2 y3 y4))
 | 0 => fun _ _ _ _ _ r h => by simp [order_Compare.l0] at h
 | k + 1 => by
  have ih0 := order_Compare.mono_l k
  ·intro y0 y1 y2 y3 y4
   unfold order_Compare.l0
   repeat' first
   | (with_reducible exact ih0 _ _ _ _ _)
   | (with_reducible exact order_values.mono _ _ _ _ _ _)
   | (with_reducible exact LeO.refl _)
   | (with_reducible exact LeO.none _)
   | (with_reducible refine LeO.ite ?_ ?_)
   | (with_reducible refine LeO.bind ?_ (fun _ => ?_))
   | exact ih0 _ _ _ _ _
   | exact order_values.mono _ _ _ _ _ _
   | exact LeO.none _
   | refine LeO.ite ?_ ?_
   | refine LeO.bind ?_ (fun _ => ?_)
theorem order_Compare.mono : ∀ a0 a1 a2 k, LeO (order_Compare.f k a0 a1 a2) (order_Compare.f (k + 1) a0 a1 a2) := by
 intro a0 a1 a2 k
 have ih0 := order_Compare.mono_l k; unfold order_Compare.f
 repeat' first
   | (with_reducible exact ih0 _ _ _ _ _)
   | (with_reducible exact order_values.mono _ _ _ _ _ _)
   | (with_reducible exact LeO.refl _)
   | (with_reducible exact LeO.none _)
   | (with_reducible refine LeO.ite ?_ ?_)
   | (with_reducible refine LeO.bind ?_ (fun _ => ?_))
   | exact ih0 _ _ _ _ _
   | exact order_values.mono _ _ _ _ _ _
   | exact LeO.none _
   | refine LeO.ite ?_ ?_
   | refine LeO.bind ?_ (fun _ => ?_)
def order_Compare.T4 : Bool × List (List Nat × List Nat) := (true, [([], []), ([], []), ([1], [1]), ([0, 2], [0, 2]), ([3], [3]), ([], []), ([], []), ([6], [6]), ([5, 7], [5, 7]), ([8], [8]), ([], []), ([10], [10]), ([4, 9, 11], [4, 9, 11]), ([12, 12, 0, 1, 2, 3, 4, 5, 6, 7, 8, 9, 10, 11, 12], [12])])
def order_Compare.B4 : List Nat := [0, 0, 2, 7, 15, 0, 0, 64, 224, 480, 0, 1024, 4095, 8191]
theorem order_Compare.tab4 : rtab .any (opsOf Tryd.f12 4) = order_Compare.T4 := by kernel_rfl
theorem order_Compare.bits4 : waitsOk order_Compare.T4.2 order_Compare.B4 = true := by kernel_rfl
theorem order_Compare.calls (k : Nat) (A0 : Option Addr) (c0 : Nat) (l0 : List (S36)) (A1 : Option Addr) (c1 : Nat) (l1 : List (S36)) (A2 : Option Addr) (c2 : Nat) (l2 : List (S39)) (r : Int) (w : World) (hr0 : Kd.C k36 w A0 l0.length l0) (hc0 : l0.length ≤ c0) (hr1 : Kd.C k36 w A1 l1.length l1) (hc1 : l1.length ≤ c1) (hr2 : Kd.C k39 w A2 l2.length l2) (hc2 : l2.length ≤ c2) (hT : Facts w) (h : order_Compare.f k l0 l1 l2 = some r) :
  Calls Tryd.prog 12 #[.slice A0 l0.length c0, .slice A1 l1.length c1, .slice A2 l2.length c2] w fun e w' => e = .returned (.int .i64 r) ∧ Below w.heap.size w w' := by
 have hu39 := Tryd.underlying39; have hu36 := Tryd.underlying36; have HT := Aside0.mk hT; clear hT; have HR0 := Aside0.mk hr0; have HC0 := Aside0.mk hc0; clear hr0 hc0; have HR1 := Aside0.mk hr1; have HC1 := Aside0.mk hc1; clear hr1 hc1; have HR2 := Aside0.mk hr2; have HC2 := Aside0.mk hc2; clear hr2 hc2; have HB := Aside0.mk (Below.refl w.heap.size w)
 have H : (order_Compare.l0 k l0 l1 l2 (l2.length : Int) 0) = some r := h; clear h; have H' := Aside0.mk H
 clear H; go_enter Tryd.func12, Tryd.ntmps12
 go_wp2
 go_loopg [12] k (fun kq v12 w' => ∃ (x12_1 : Int), v12 = .int .i64 x12_1 ∧ Aside0 (order_Compare.l0 kq l0 l1 l2 (l2.length : Int) x12_1 = some r) ∧ Aside0 (kq ≤ k) ∧ Aside0 (Below w.heap.size w w'))
 case atStart => exact ⟨(0), (by first | rfl | (simp; done) | (simp [*]; done)), H', ⟨Nat.le_refl _⟩, ⟨mvB HB.out⟩⟩
 case round =>
  clear H'; try clear c1
  try clear c2
  try clear p2
  obtain ⟨x12_1, rfl, HA, HK1, HB⟩ := hrel
  cases gk with
  | zero => exact absurd HA.out (by simp [order_Compare.l0])
  | succ k1 =>
   have H := HA.out; clear HA; simp only [order_Compare.l0] at H
   by_cases c4 : x12_1 < (l2.length : Int)
   ·rw [if_pos c4] at H; have c4b0 : decide (x12_1 < (l2.length : Int)) = true := decide_eq_true c4; clear c4; by_cases c5 : 0 ≤ x12_1
    case neg => rw [if_neg c5] at H; exact absurd H (by simp)
    rw [if_pos c5] at H; have c5b0 : decide (0 ≤ x12_1) = true := decide_eq_true c5; clear c5; by_cases c6 : x12_1 < (l2.length : Int)
    case neg => rw [if_neg c6] at H; exact absurd H (by simp)
    rw [if_pos c6] at H; have c6b0 : decide (x12_1 < (l2.length : Int)) = true := decide_eq_true c6; clear c6; by_cases c7 : 0 ≤ ((rd_T39 l2 x12_1).f0)
    case neg => rw [if_neg c7] at H; exact absurd H (by simp)
    rw [if_pos c7] at H; have c7b0 : decide (0 ≤ ((rd_T39 l2 x12_1).f0)) = true := decide_eq_true c7; clear c7; by_cases c8 : ((rd_T39 l2 x12_1).f0) < (l0.length : Int)
    case neg => rw [if_neg c8] at H; exact absurd H (by simp)
    rw [if_pos c8] at H; have c8b0 : decide (((rd_T39 l2 x12_1).f0) < (l0.length : Int)) = true := decide_eq_true c8; clear c8; by_cases c9 : ((rd_T39 l2 x12_1).f0) < (l1.length : Int)
    case neg => rw [if_neg c9] at H; exact absurd H (by simp)
    rw [if_pos c9] at H; have c9b0 : decide (((rd_T39 l2 x12_1).f0) < (l1.length : Int)) = true := decide_eq_true c9; clear c9; replace H := Option.bind_eq_some_iff.mp H; obtain ⟨t138, A100, H⟩ := H; replace H : (if (rd_T39 l2 x12_1).f2 = true then (if (wrap64 (-t138)) = 0 then (order_Compare.l0 k1 l0 l1 l2 (l2.length : Int) (wrap64 (x12_1 + 1))) else (some (wrap64 (-t138)))) else (if t138 = 0 then (order_Compare.l0 k1 l0 l1 l2 (l2.length : Int) (wrap64 (x12_1 + 1))) else (some t138))) = some r := H
    have A10 := Aside0.mk A100; clear A100; obtain ⟨bq11, hbq11⟩ : ∃ b_ : Bool, b_ = ((rd_T39 l2 x12_1).f2) := ⟨_, rfl⟩
    replace H : (if bq11 = true then (if (wrap64 (-t138)) = 0 then (order_Compare.l0 k1 l0 l1 l2 (l2.length : Int) (wrap64 (x12_1 + 1))) else (some (wrap64 (-t138)))) else (if t138 = 0 then (order_Compare.l0 k1 l0 l1 l2 (l2.length : Int) (wrap64 (x12_1 + 1))) else (some t138))) = some r := by rw [← hbq11] at H; exact H
    have Nbq11 := Aside0.mk hbq11; clear hbq11; by_cases c12 : bq11 = true
    ·subst c12; have H1 : (if (wrap64 (-t138)) = 0 then (order_Compare.l0 k1 l0 l1 l2 (l2.length : Int) (wrap64 (x12_1 + 1))) else (some (wrap64 (-t138)))) = some r := by rw [if_pos rfl] at H; exact H
     clear H; have H := H1; clear H1; by_cases c13 : (wrap64 (-t138)) = 0
     ·rw [if_pos c13] at H; have c13b0 : ((wrap64 (-t138)) == 0) = true := beq_iff_eq.mpr c13; have c13b1 : ((wrap64 (-t138)) != 0) = false := bne_eq_false_iff_eq.mpr c13; clear c13; have H' := Aside0.mk H
      clear H; have p134 : 0 ≤ (x12_1 : Int) := dtA; have q134 : x12_1 < (l2.length : Int) := dtA; obtain ⟨ad134, e134, hx134_0, hx134_1, hx134_2⟩ := at_T39 HR2.out x12_1 p134 q134
      (try rw [← Nbq11.out] at hx134_2)
      cases e134
      replace hx134_0 := (HB.out.cell (World.block_lt_of_cell? w _ hx134_0)).trans hx134_0
      replace hx134_1 := (HB.out.cell (World.block_lt_of_cell? w _ hx134_1)).trans hx134_1
      replace hx134_2 := (HB.out.cell (World.block_lt_of_cell? w _ hx134_2)).trans hx134_2
      replace p134 := eq_true p134; replace q134 := eq_true q134; try go_wp2_with (first | ((with_reducible refine gate_dst (N := 8) rfl ?_); refine box_event ?hg (N := 8) ?hd (cs := #[.int .i64 0, .int .i64 0, .bool false]) (t := 39) ?hr ?_; (case hd => rfl); (case hg => rfl); (case hr => first | (go_simp; done) | (go_simp; rfl) | (go_simp; simp (disch := omega) only [Go.u8_and63, Go.u8_and31, Go.u8_and15, Go.u8_and7, Go.u8_or128, Go.u8_or192, Go.u8_or224, Go.u8_or240, m64]; done)); intro gb135 hg w14 hbox hb; have n0_ := Aside0.mk (below_step (mvB HB.out) hb); have n1_ := Aside0.mk (hbox); have n2_ := Aside0.mk ((by rw [hg]; exact (below_size (mvB HB.out)) : w.heap.size ≤ gb135)); have n3_ := Aside0.mk ((by rw [hg]; exact (below_size (mvB HB.out)) : w.heap.size ≤ gb135)); clear HB; have HB := n0_; have BK135 := n1_; have GW135 := n2_; have GE135 := n3_; clear n0_ n1_ n2_ n3_; clear hb hbox hg; have hcz15_0 : w14.cell? ⟨gb135, 0, none⟩ = some (.int .i64 0) := (blk_cell BK135.out 0).trans (by first | rfl | (simp [← Nbq11.out]; done)); have hcz15_1 : w14.cell? ⟨gb135, 1, none⟩ = some (.int .i64 0) := (blk_cell BK135.out 1).trans (by first | rfl | (simp [← Nbq11.out]; done)); have hcz15_2 : w14.cell? ⟨gb135, 2, none⟩ = some (.bool false) := (blk_cell BK135.out 2).trans (by first | rfl | (simp [← Nbq11.out]; done)); have hfz15_0 := blk_frozen BK135.out 0; have hfz15_1 := blk_frozen BK135.out 1; have hfz15_2 := blk_frozen BK135.out 2))
      have n0_ : Aside0 ((((w14.setCell ⟨gb135, 0, none⟩ (.int .i64 ((rd_T39 l2 x12_1).f0))).setCell ⟨gb135, 1, none⟩ (.int .i64 ((rd_T39 l2 x12_1).f1))).setCell ⟨gb135, 2, none⟩ (.bool true)).heap[gb135]? = some (.cells #[.int .i64 ((rd_T39 l2 x12_1).f0), .int .i64 ((rd_T39 l2 x12_1).f1), .bool true] 39 (0, 0))) := ⟨by (with_reducible repeat (first | refine blk_drewN ?_ _ | refine blk_drew ?_ | refine blk_alloc ?_ _)); refine blk_put (cs := #[.int .i64 ((rd_T39 l2 x12_1).f0), .int .i64 ((rd_T39 l2 x12_1).f1), .bool false]) ?_ 2 _ rfl; (with_reducible repeat (first | refine blk_drewN ?_ _ | refine blk_drew ?_ | refine blk_alloc ?_ _)); refine blk_put (cs := #[.int .i64 ((rd_T39 l2 x12_1).f0), .int .i64 0, .bool false]) ?_ 1 _ rfl; (with_reducible repeat (first | refine blk_drewN ?_ _ | refine blk_drew ?_ | refine blk_alloc ?_ _)); refine blk_put (cs := #[.int .i64 0, .int .i64 0, .bool false]) ?_ 0 _ rfl; (with_reducible repeat (first | refine blk_drewN ?_ _ | refine blk_drew ?_ | refine blk_alloc ?_ _)); exact BK135.out⟩
      have n1_ : Aside0 (Below w.heap.size w (((w14.setCell ⟨gb135, 0, none⟩ (.int .i64 ((rd_T39 l2 x12_1).f0))).setCell ⟨gb135, 1, none⟩ (.int .i64 ((rd_T39 l2 x12_1).f1))).setCell ⟨gb135, 2, none⟩ (.bool true))) := ⟨mvG HB.out GE135.out⟩
      (try clear BK135); (try clear HB); generalize (((w14.setCell ⟨gb135, 0, none⟩ (.int .i64 ((rd_T39 l2 x12_1).f0))).setCell ⟨gb135, 1, none⟩ (.int .i64 ((rd_T39 l2 x12_1).f1))).setCell ⟨gb135, 2, none⟩ (.bool true)) = w16 at n0_ n1_ ⊢
      have BK135 := n0_; have HB := n1_; clear n0_ n1_; have n0_ := Aside0.mk (blk_drew BK135.out)
      have n1_ := Aside0.mk (below_drew1 HB.out)
      clear BK135; clear HB; have BK135 := n0_; have HB := n1_; clear n0_ n1_; have p136 : 0 ≤ (((rd_T39 l2 x12_1).f0) : Int) := dtA; have q136 : ((rd_T39 l2 x12_1).f0) < (l0.length : Int) := dtA; obtain ⟨ad136, e136, hx136_0, hx136_1⟩ := at_T36 HR0.out ((rd_T39 l2 x12_1).f0) p136 q136
      have hw136_1 := hx136_1; have hw136_0 := hx136_0; (try rw [← Nbq11.out] at hx136_0)
      cases e136
      replace hx136_0 := (HB.out.cell (World.block_lt_of_cell? w _ hx136_0)).trans hx136_0
      replace hx136_1 := (HB.out.cell (World.block_lt_of_cell? w _ hx136_1)).trans hx136_1
      replace p136 := eq_true p136; replace q136 := eq_true q136; have p137 : 0 ≤ (((rd_T39 l2 x12_1).f0) : Int) := dtA; have q137 : ((rd_T39 l2 x12_1).f0) < (l1.length : Int) := dtA; obtain ⟨ad137, e137, hx137_0, hx137_1⟩ := at_T36 HR1.out ((rd_T39 l2 x12_1).f0) p137 q137
      have hw137_1 := hx137_1; have hw137_0 := hx137_0; (try rw [← Nbq11.out] at hx137_0)
      cases e137
      replace hx137_0 := (HB.out.cell (World.block_lt_of_cell? w _ hx137_0)).trans hx137_0
      replace hx137_1 := (HB.out.cell (World.block_lt_of_cell? w _ hx137_1)).trans hx137_1
      replace p137 := eq_true p137; replace q137 := eq_true q137; refine start_ (n := 14) (S := fun w' => w'.cell? ⟨gb135, 0, none⟩ = some (.int .i64 ((rd_T39 l2 x12_1).f0)) ∧ w'.cell? ⟨gb135, 1, none⟩ = some (.int .i64 ((rd_T39 l2 x12_1).f1)) ∧ w'.cell? ⟨gb135, 2, none⟩ = some (.bool true) ∧ w'.cell? (ad136.add ((((rd_T39 l2 x12_1).f0)).toNat * 2)) = some (.bool ((rd_T36 l0 ((rd_T39 l2 x12_1).f0)).f0)) ∧ w'.cell? ⟨(ad136.add ((((rd_T39 l2 x12_1).f0)).toNat * 2)).block, (ad136.add ((((rd_T39 l2 x12_1).f0)).toNat * 2)).off + 1, none⟩ = some (.string ((rd_T36 l0 ((rd_T39 l2 x12_1).f0)).f1)) ∧ w'.cell? (ad137.add ((((rd_T39 l2 x12_1).f0)).toNat * 2)) = some (.bool ((rd_T36 l1 ((rd_T39 l2 x12_1).f0)).f0)) ∧ w'.cell? ⟨(ad137.add ((((rd_T39 l2 x12_1).f0)).toNat * 2)).block, (ad137.add ((((rd_T39 l2 x12_1).f0)).toNat * 2)).off + 1, none⟩ = some (.string ((rd_T36 l1 ((rd_T39 l2 x12_1).f0)).f1))) (ds := []) #[false, false, false, false, false, false, false, false, false, false, false, false, false, false] (by kernel_rfl) rfl rfl ⟨(blk_cell BK135.out 0).trans (by first | rfl | (simp [← Nbq11.out]; done)), (blk_cell BK135.out 1).trans (by first | rfl | (simp [← Nbq11.out]; done)), (blk_cell BK135.out 2).trans (by first | rfl | (simp [← Nbq11.out]; done)), ((HB.out.cell (World.block_lt_of_cell? w _ hw136_0)).trans hw136_0), ((HB.out.cell (World.block_lt_of_cell? w _ hw136_1)).trans hw136_1), ((HB.out.cell (World.block_lt_of_cell? w _ hw137_0)).trans hw137_0), ((HB.out.cell (World.block_lt_of_cell? w _ hw137_1)).trans hw137_1)⟩ (fun hHeld => ?_); refine with_tabW order_Compare.tab4 order_Compare.bits4 (fun HT_ HW_ => ?_)
      generalize w16.drew = w17 at BK135 HB hx136_0 hx136_1 hx137_0 hx137_1 hHeld ⊢
      refine pure_ (i := 0) (N := some 16) (v := ?_) (a' := ?_) #[true, false, false, false, false, false, false, false, false, false, false, false, false, false] rfl rfl (any_of HT_.out (by kernel_rfl)) (fun _ _ _ h => h) (Or.inl ⟨by rfl, ?_⟩) ?_ ?_
      rotate_left
      ·intro w'
       go_simp
       with_reducible rfl
      rotate_left
      ·simp only [Act.put, List.setIfInBounds_toArray, List.set_cons_zero, List.set_cons_succ, i64_w, i32_w]
       rfl
      refine pure_ (i := 1) (N := some 17) (v := ?_) (a' := ?_) #[true, true, false, false, false, false, false, false, false, false, false, false, false, false] rfl rfl (any_of HT_.out (by kernel_rfl)) (fun _ _ _ h => h) (Or.inl ⟨by rfl, ?_⟩) ?_ ?_
      rotate_left
      ·intro w'
       go_simp
       with_reducible rfl
      rotate_left
      ·simp only [Act.put, List.setIfInBounds_toArray, List.set_cons_zero, List.set_cons_succ, i64_w, i32_w]
       rfl
      refine pure_ (i := 5) (N := some 21) (v := ?_) (a' := ?_) #[true, true, false, false, false, true, false, false, false, false, false, false, false, false] rfl rfl (any_of HT_.out (by kernel_rfl)) (fun _ _ _ h => h) (Or.inl ⟨by rfl, ?_⟩) ?_ ?_
      rotate_left
      ·intro w'
       go_simp
       with_reducible rfl
      rotate_left
      ·simp only [Act.put, List.setIfInBounds_toArray, List.set_cons_zero, List.set_cons_succ, i64_w, i32_w]
       rfl
      refine pure_ (i := 6) (N := some 22) (v := ?_) (a' := ?_) #[true, true, false, false, false, true, true, false, false, false, false, false, false, false] rfl rfl (any_of HT_.out (by kernel_rfl)) (fun _ _ _ h => h) (Or.inl ⟨by rfl, ?_⟩) ?_ ?_
      rotate_left
      ·intro w'
       go_simp
       with_reducible rfl
      rotate_left
      ·simp only [Act.put, List.setIfInBounds_toArray, List.set_cons_zero, List.set_cons_succ, i64_w, i32_w]
       rfl
      refine pure_ (i := 10) (N := some 26) (v := ?_) (a' := ?_) #[true, true, false, false, false, true, true, false, false, false, true, false, false, false] rfl rfl (any_of HT_.out (by kernel_rfl)) (fun _ _ _ h => h) (Or.inl ⟨by rfl, ?_⟩) ?_ ?_
      rotate_left
      ·intro w'
       go_simp
       with_reducible rfl
      rotate_left
      ·simp only [Act.put, List.setIfInBounds_toArray, List.set_cons_zero, List.set_cons_succ, i64_w, i32_w]
       rfl
      refine take_ (i := 2) (N := some 18) (v := ?_) (a' := ?_) #[true, true, true, false, false, true, true, false, false, false, true, false, false, false] rfl rfl (take_ofW HT_.out HW_.out (by kernel_rfl)) (fun _ _ _ h => h) (Or.inl ⟨by rfl, ?_⟩) hHeld ?_ ?_
      rotate_left
      ·rintro w' ⟨s0, s1, s2, s3, s4, s5, s6⟩
       go_simp
       with_reducible rfl
      rotate_left
      ·simp only [Act.put, List.setIfInBounds_toArray, List.set_cons_zero, List.set_cons_succ, i64_w, i32_w]
       rfl
      refine pure_ (i := 3) (N := some 19) (v := ?_) (a' := ?_) #[true, true, true, true, false, true, true, false, false, false, true, false, false, false] rfl rfl (any_of HT_.out (by kernel_rfl)) (fun _ _ _ h => h) (Or.inl ⟨by rfl, ?_⟩) ?_ ?_
      rotate_left
      ·intro w'
       go_simp
       with_reducible rfl
      rotate_left
      ·simp only [Act.put, List.setIfInBounds_toArray, List.set_cons_zero, List.set_cons_succ, i64_w, i32_w]
       rfl
      refine take_ (i := 4) (N := some 20) (v := ?_) (a' := ?_) #[true, true, true, true, true, true, true, false, false, false, true, false, false, false] rfl rfl (take_ofW HT_.out HW_.out (by kernel_rfl)) (fun _ _ _ h => h) (Or.inl ⟨by rfl, ?_⟩) hHeld ?_ ?_
      rotate_left
      ·rintro w' ⟨s0, s1, s2, s3, s4, s5, s6⟩
       go_simp
       with_reducible rfl
      rotate_left
      ·simp only [Act.put, List.setIfInBounds_toArray, List.set_cons_zero, List.set_cons_succ, i64_w, i32_w]
       rfl
      refine take_ (i := 7) (N := some 23) (v := ?_) (a' := ?_) #[true, true, true, true, true, true, true, true, false, false, true, false, false, false] rfl rfl (take_ofW HT_.out HW_.out (by kernel_rfl)) (fun _ _ _ h => h) (Or.inl ⟨by rfl, ?_⟩) hHeld ?_ ?_
      rotate_left
      ·rintro w' ⟨s0, s1, s2, s3, s4, s5, s6⟩
       go_simp
       with_reducible rfl
      rotate_left
      ·simp only [Act.put, List.setIfInBounds_toArray, List.set_cons_zero, List.set_cons_succ, i64_w, i32_w]
       rfl
      refine pure_ (i := 8) (N := some 24) (v := ?_) (a' := ?_) #[true, true, true, true, true, true, true, true, true, false, true, false, false, false] rfl rfl (any_of HT_.out (by kernel_rfl)) (fun _ _ _ h => h) (Or.inl ⟨by rfl, ?_⟩) ?_ ?_
      rotate_left
      ·intro w'
       go_simp
       with_reducible rfl
      rotate_left
      ·simp only [Act.put, List.setIfInBounds_toArray, List.set_cons_zero, List.set_cons_succ, i64_w, i32_w]
       rfl
      refine take_ (i := 9) (N := some 25) (v := ?_) (a' := ?_) #[true, true, true, true, true, true, true, true, true, true, true, false, false, false] rfl rfl (take_ofW HT_.out HW_.out (by kernel_rfl)) (fun _ _ _ h => h) (Or.inl ⟨by rfl, ?_⟩) hHeld ?_ ?_
      rotate_left
      ·rintro w' ⟨s0, s1, s2, s3, s4, s5, s6⟩
       go_simp
       with_reducible rfl
      rotate_left
      ·simp only [Act.put, List.setIfInBounds_toArray, List.set_cons_zero, List.set_cons_succ, i64_w, i32_w]
       rfl
      refine take_ (i := 11) (N := some 27) (v := ?_) (a' := ?_) #[true, true, true, true, true, true, true, true, true, true, true, true, false, false] rfl rfl (take_ofW HT_.out HW_.out (by kernel_rfl)) (fun _ _ _ h => h) (Or.inl ⟨by rfl, ?_⟩) hHeld ?_ ?_
      rotate_left
      ·rintro w' ⟨s0, s1, s2, s3, s4, s5, s6⟩
       go_simp
       with_reducible rfl
      rotate_left
      ·simp only [Act.put, List.setIfInBounds_toArray, List.set_cons_zero, List.set_cons_succ, i64_w, i32_w]
       rfl
      refine one_ (i := 12) (N := some 28) #[true, true, true, true, true, true, true, true, true, true, true, true, true, false] rfl rfl (one_of HT_.out (by kernel_rfl)) (by decide) (fun K hK => ?_)
      refine goes_ Tryd.func20 (by kernel_rfl) rfl #[.agg #[.bool ((rd_T36 l0 ((rd_T39 l2 x12_1).f0)).f0), .string ((rd_T36 l0 ((rd_T39 l2 x12_1).f0)).f1)], .agg #[.bool ((rd_T36 l1 ((rd_T39 l2 x12_1).f0)).f0), .string ((rd_T36 l1 ((rd_T39 l2 x12_1).f0)).f1)], .int .i64 ((rd_T39 l2 x12_1).f1)] (by rfl) rfl rfl (by (try simp only [List.map_toArray, List.map_cons, List.map_nil]); first | done | rfl | (simp only [List.length_drop, List.length_take]; rfl)) ?_
      with_reducible refine (order_values.calls k1 ((rd_T36 l0 ((rd_T39 l2 x12_1).f0)).f0) ((rd_T36 l0 ((rd_T39 l2 x12_1).f0)).f1) ((rd_T36 l1 ((rd_T39 l2 x12_1).f0)).f0) ((rd_T36 l1 ((rd_T39 l2 x12_1).f0)).f1) ((rd_T39 l2 x12_1).f1) t138 _ ?side1 A10.out).mono ?_
      (case side1 => first | exact HT.out | exact Facts.below HT.out (mvG HB.out GE135.out) | exact Facts.below HT.out HB.out | (repeat (first | exact HT.out | refine Facts.drewN ?_ _ | refine Facts.drew ?_ | refine Facts.alloc ?_ _)))
      rintro e w18 ⟨rfl, hb⟩
      refine ⟨_, rfl, ?_⟩
      have n0_ := Aside0.mk (blk_below (g := gb135) (o := .cells #[.int .i64 ((rd_T39 l2 x12_1).f0), .int .i64 ((rd_T39 l2 x12_1).f1), .bool true] 39 (0, 0)) (mvK BK135.out) hb)
      have n1_ := Aside0.mk (below_step (mvG HB.out GE135.out) hb)
      clear BK135; clear HB; have BK135 := n0_; have HB := n1_; clear n0_ n1_; (try clear hb); (try clear hb2); (try clear hk); (try clear hi); refine hK.out _ _ ⟨(blk_cell BK135.out 0).trans (by first | rfl | (simp [← Nbq11.out]; done)), (blk_cell BK135.out 1).trans (by first | rfl | (simp [← Nbq11.out]; done)), (blk_cell BK135.out 2).trans (by first | rfl | (simp [← Nbq11.out]; done)), ((HB.out.cell (World.block_lt_of_cell? w _ hw136_0)).trans hw136_0), ((HB.out.cell (World.block_lt_of_cell? w _ hw136_1)).trans hw136_1), ((HB.out.cell (World.block_lt_of_cell? w _ hw137_0)).trans hw137_0), ((HB.out.cell (World.block_lt_of_cell? w _ hw137_1)).trans hw137_1)⟩ (fun hHeld => ?_)
      clear hK K; refine norm_ (a' := ?_) ?_ ?_
      rotate_left
      ·show Act.put _ (some 28) _ = _
       simp only [Act.put, List.setIfInBounds_toArray, List.set_cons_zero, List.set_cons_succ, i64_w, i32_w]
       rfl
      refine pure_ (i := 13) (N := some 9) (v := ?_) (a' := ?_) #[true, true, true, true, true, true, true, true, true, true, true, true, true, true] rfl rfl (any_of HT_.out (by kernel_rfl)) (fun _ _ _ h => h) (Or.inl ⟨by rfl, ?_⟩) ?_ ?_
      rotate_left
      ·intro w'
       go_simp
       with_reducible rfl
      rotate_left
      ·simp only [Act.put, List.setIfInBounds_toArray, List.set_cons_zero, List.set_cons_succ, i64_w, i32_w]
       rfl
      refine done_ (done_of HT_.out (by kernel_rfl)) ?_
      have hcz19_0 : w18.cell? ⟨gb135, 0, none⟩ = some (.int .i64 ((rd_T39 l2 x12_1).f0)) := (blk_cell BK135.out 0).trans (by first | rfl | (simp [← Nbq11.out]; done))
      have hcz19_1 : w18.cell? ⟨gb135, 1, none⟩ = some (.int .i64 ((rd_T39 l2 x12_1).f1)) := (blk_cell BK135.out 1).trans (by first | rfl | (simp [← Nbq11.out]; done))
      have hcz19_2 : w18.cell? ⟨gb135, 2, none⟩ = some (.bool true) := (blk_cell BK135.out 2).trans (by first | rfl | (simp [← Nbq11.out]; done))
      have hfz19_0 := blk_frozen BK135.out 0; have hfz19_1 := blk_frozen BK135.out 1; have hfz19_2 := blk_frozen BK135.out 2; try go_wp2
      go_roundg k1
      case measure => have := HK1.out; omega
      case rel => exact ⟨(wrap64 (x12_1 + 1)), (by first | rfl | (simp; done) | (simp [*]; done)), (by first | exact H' | (rw [← Nbq11.out]; exact H')), ⟨by have := HK1.out; omega⟩, ⟨mvG HB.out GE135.out⟩⟩
     ·rw [if_neg c13] at H; have c13b0 : ((wrap64 (-t138)) == 0) = false := beq_eq_false_iff_ne.mpr c13; have c13b1 : ((wrap64 (-t138)) != 0) = true := bne_iff_ne.mpr c13; obtain rfl := Option.some.inj H
      have p134 : 0 ≤ (x12_1 : Int) := dtA; have q134 : x12_1 < (l2.length : Int) := dtA; obtain ⟨ad134, e134, hx134_0, hx134_1, hx134_2⟩ := at_T39 HR2.out x12_1 p134 q134
      (try rw [← Nbq11.out] at hx134_2)
      cases e134
      replace hx134_0 := (HB.out.cell (World.block_lt_of_cell? w _ hx134_0)).trans hx134_0
      replace hx134_1 := (HB.out.cell (World.block_lt_of_cell? w _ hx134_1)).trans hx134_1
      replace hx134_2 := (HB.out.cell (World.block_lt_of_cell? w _ hx134_2)).trans hx134_2
      replace p134 := eq_true p134; replace q134 := eq_true q134; try go_wp2_with (first | ((with_reducible refine gate_dst (N := 8) rfl ?_); refine box_event ?hg (N := 8) ?hd (cs := #[.int .i64 0, .int .i64 0, .bool false]) (t := 39) ?hr ?_; (case hd => rfl); (case hg => rfl); (case hr => first | (go_simp; done) | (go_simp; rfl) | (go_simp; simp (disch := omega) only [Go.u8_and63, Go.u8_and31, Go.u8_and15, Go.u8_and7, Go.u8_or128, Go.u8_or192, Go.u8_or224, Go.u8_or240, m64]; done)); intro gb135 hg w20 hbox hb; have n0_ := Aside0.mk (below_step (mvB HB.out) hb); have n1_ := Aside0.mk (hbox); have n2_ := Aside0.mk ((by rw [hg]; exact (below_size (mvB HB.out)) : w.heap.size ≤ gb135)); have n3_ := Aside0.mk ((by rw [hg]; exact (below_size (mvB HB.out)) : w.heap.size ≤ gb135)); clear HB; have HB := n0_; have BK135 := n1_; have GW135 := n2_; have GE135 := n3_; clear n0_ n1_ n2_ n3_; clear hb hbox hg; have hcz21_0 : w20.cell? ⟨gb135, 0, none⟩ = some (.int .i64 0) := (blk_cell BK135.out 0).trans (by first | rfl | (simp [← Nbq11.out]; done)); have hcz21_1 : w20.cell? ⟨gb135, 1, none⟩ = some (.int .i64 0) := (blk_cell BK135.out 1).trans (by first | rfl | (simp [← Nbq11.out]; done)); have hcz21_2 : w20.cell? ⟨gb135, 2, none⟩ = some (.bool false) := (blk_cell BK135.out 2).trans (by first | rfl | (simp [← Nbq11.out]; done)); have hfz21_0 := blk_frozen BK135.out 0; have hfz21_1 := blk_frozen BK135.out 1; have hfz21_2 := blk_frozen BK135.out 2))
      have n0_ : Aside0 ((((w20.setCell ⟨gb135, 0, none⟩ (.int .i64 ((rd_T39 l2 x12_1).f0))).setCell ⟨gb135, 1, none⟩ (.int .i64 ((rd_T39 l2 x12_1).f1))).setCell ⟨gb135, 2, none⟩ (.bool true)).heap[gb135]? = some (.cells #[.int .i64 ((rd_T39 l2 x12_1).f0), .int .i64 ((rd_T39 l2 x12_1).f1), .bool true] 39 (0, 0))) := ⟨by (with_reducible repeat (first | refine blk_drewN ?_ _ | refine blk_drew ?_ | refine blk_alloc ?_ _)); refine blk_put (cs := #[.int .i64 ((rd_T39 l2 x12_1).f0), .int .i64 ((rd_T39 l2 x12_1).f1), .bool false]) ?_ 2 _ rfl; (with_reducible repeat (first | refine blk_drewN ?_ _ | refine blk_drew ?_ | refine blk_alloc ?_ _)); refine blk_put (cs := #[.int .i64 ((rd_T39 l2 x12_1).f0), .int .i64 0, .bool false]) ?_ 1 _ rfl; (with_reducible repeat (first | refine blk_drewN ?_ _ | refine blk_drew ?_ | refine blk_alloc ?_ _)); refine blk_put (cs := #[.int .i64 0, .int .i64 0, .bool false]) ?_ 0 _ rfl; (with_reducible repeat (first | refine blk_drewN ?_ _ | refine blk_drew ?_ | refine blk_alloc ?_ _)); exact BK135.out⟩
      have n1_ : Aside0 (Below w.heap.size w (((w20.setCell ⟨gb135, 0, none⟩ (.int .i64 ((rd_T39 l2 x12_1).f0))).setCell ⟨gb135, 1, none⟩ (.int .i64 ((rd_T39 l2 x12_1).f1))).setCell ⟨gb135, 2, none⟩ (.bool true))) := ⟨mvG HB.out GE135.out⟩
      (try clear BK135); (try clear HB); generalize (((w20.setCell ⟨gb135, 0, none⟩ (.int .i64 ((rd_T39 l2 x12_1).f0))).setCell ⟨gb135, 1, none⟩ (.int .i64 ((rd_T39 l2 x12_1).f1))).setCell ⟨gb135, 2, none⟩ (.bool true)) = w22 at n0_ n1_ ⊢
      have BK135 := n0_; have HB := n1_; clear n0_ n1_; have n0_ := Aside0.mk (blk_drew BK135.out)
      have n1_ := Aside0.mk (below_drew1 HB.out)
      clear BK135; clear HB; have BK135 := n0_; have HB := n1_; clear n0_ n1_; have p136 : 0 ≤ (((rd_T39 l2 x12_1).f0) : Int) := dtA; have q136 : ((rd_T39 l2 x12_1).f0) < (l0.length : Int) := dtA; obtain ⟨ad136, e136, hx136_0, hx136_1⟩ := at_T36 HR0.out ((rd_T39 l2 x12_1).f0) p136 q136
      have hw136_1 := hx136_1; have hw136_0 := hx136_0; (try rw [← Nbq11.out] at hx136_0)
      cases e136
      replace hx136_0 := (HB.out.cell (World.block_lt_of_cell? w _ hx136_0)).trans hx136_0
      replace hx136_1 := (HB.out.cell (World.block_lt_of_cell? w _ hx136_1)).trans hx136_1
      replace p136 := eq_true p136; replace q136 := eq_true q136; have p137 : 0 ≤ (((rd_T39 l2 x12_1).f0) : Int) := dtA; have q137 : ((rd_T39 l2 x12_1).f0) < (l1.length : Int) := dtA; obtain ⟨ad137, e137, hx137_0, hx137_1⟩ := at_T36 HR1.out ((rd_T39 l2 x12_1).f0) p137 q137
      have hw137_1 := hx137_1; have hw137_0 := hx137_0; (try rw [← Nbq11.out] at hx137_0)
      cases e137
      replace hx137_0 := (HB.out.cell (World.block_lt_of_cell? w _ hx137_0)).trans hx137_0
      replace hx137_1 := (HB.out.cell (World.block_lt_of_cell? w _ hx137_1)).trans hx137_1
      replace p137 := eq_true p137; replace q137 := eq_true q137; refine start_ (n := 14) (S := fun w' => w'.cell? ⟨gb135, 0, none⟩ = some (.int .i64 ((rd_T39 l2 x12_1).f0)) ∧ w'.cell? ⟨gb135, 1, none⟩ = some (.int .i64 ((rd_T39 l2 x12_1).f1)) ∧ w'.cell? ⟨gb135, 2, none⟩ = some (.bool true) ∧ w'.cell? (ad136.add ((((rd_T39 l2 x12_1).f0)).toNat * 2)) = some (.bool ((rd_T36 l0 ((rd_T39 l2 x12_1).f0)).f0)) ∧ w'.cell? ⟨(ad136.add ((((rd_T39 l2 x12_1).f0)).toNat * 2)).block, (ad136.add ((((rd_T39 l2 x12_1).f0)).toNat * 2)).off + 1, none⟩ = some (.string ((rd_T36 l0 ((rd_T39 l2 x12_1).f0)).f1)) ∧ w'.cell? (ad137.add ((((rd_T39 l2 x12_1).f0)).toNat * 2)) = some (.bool ((rd_T36 l1 ((rd_T39 l2 x12_1).f0)).f0)) ∧ w'.cell? ⟨(ad137.add ((((rd_T39 l2 x12_1).f0)).toNat * 2)).block, (ad137.add ((((rd_T39 l2 x12_1).f0)).toNat * 2)).off + 1, none⟩ = some (.string ((rd_T36 l1 ((rd_T39 l2 x12_1).f0)).f1))) (ds := []) #[false, false, false, false, false, false, false, false, false, false, false, false, false, false] (by kernel_rfl) rfl rfl ⟨(blk_cell BK135.out 0).trans (by first | rfl | (simp [← Nbq11.out]; done)), (blk_cell BK135.out 1).trans (by first | rfl | (simp [← Nbq11.out]; done)), (blk_cell BK135.out 2).trans (by first | rfl | (simp [← Nbq11.out]; done)), ((HB.out.cell (World.block_lt_of_cell? w _ hw136_0)).trans hw136_0), ((HB.out.cell (World.block_lt_of_cell? w _ hw136_1)).trans hw136_1), ((HB.out.cell (World.block_lt_of_cell? w _ hw137_0)).trans hw137_0), ((HB.out.cell (World.block_lt_of_cell? w _ hw137_1)).trans hw137_1)⟩ (fun hHeld => ?_); refine with_tabW order_Compare.tab4 order_Compare.bits4 (fun HT_ HW_ => ?_)
      generalize w22.drew = w23 at BK135 HB hx136_0 hx136_1 hx137_0 hx137_1 hHeld ⊢
      refine pure_ (i := 0) (N := some 16) (v := ?_) (a' := ?_) #[true, false, false, false, false, false, false, false, false, false, false, false, false, false] rfl rfl (any_of HT_.out (by kernel_rfl)) (fun _ _ _ h => h) (Or.inl ⟨by rfl, ?_⟩) ?_ ?_
      rotate_left
      ·intro w'
       go_simp
       with_reducible rfl
      rotate_left
      ·simp only [Act.put, List.setIfInBounds_toArray, List.set_cons_zero, List.set_cons_succ, i64_w, i32_w]
       rfl
      refine pure_ (i := 1) (N := some 17) (v := ?_) (a' := ?_) #[true, true, false, false, false, false, false, false, false, false, false, false, false, false] rfl rfl (any_of HT_.out (by kernel_rfl)) (fun _ _ _ h => h) (Or.inl ⟨by rfl, ?_⟩) ?_ ?_
      rotate_left
      ·intro w'
       go_simp
       with_reducible rfl
      rotate_left
      ·simp only [Act.put, List.setIfInBounds_toArray, List.set_cons_zero, List.set_cons_succ, i64_w, i32_w]
       rfl
      refine pure_ (i := 5) (N := some 21) (v := ?_) (a' := ?_) #[true, true, false, false, false, true, false, false, false, false, false, false, false, false] rfl rfl (any_of HT_.out (by kernel_rfl)) (fun _ _ _ h => h) (Or.inl ⟨by rfl, ?_⟩) ?_ ?_
      rotate_left
      ·intro w'
       go_simp
       with_reducible rfl
      rotate_left
      ·simp only [Act.put, List.setIfInBounds_toArray, List.set_cons_zero, List.set_cons_succ, i64_w, i32_w]
       rfl
      refine pure_ (i := 6) (N := some 22) (v := ?_) (a' := ?_) #[true, true, false, false, false, true, true, false, false, false, false, false, false, false] rfl rfl (any_of HT_.out (by kernel_rfl)) (fun _ _ _ h => h) (Or.inl ⟨by rfl, ?_⟩) ?_ ?_
      rotate_left
      ·intro w'
       go_simp
       with_reducible rfl
      rotate_left
      ·simp only [Act.put, List.setIfInBounds_toArray, List.set_cons_zero, List.set_cons_succ, i64_w, i32_w]
       rfl
      refine pure_ (i := 10) (N := some 26) (v := ?_) (a' := ?_) #[true, true, false, false, false, true, true, false, false, false, true, false, false, false] rfl rfl (any_of HT_.out (by kernel_rfl)) (fun _ _ _ h => h) (Or.inl ⟨by rfl, ?_⟩) ?_ ?_
      rotate_left
      ·intro w'
       go_simp
       with_reducible rfl
      rotate_left
      ·simp only [Act.put, List.setIfInBounds_toArray, List.set_cons_zero, List.set_cons_succ, i64_w, i32_w]
       rfl
      refine take_ (i := 2) (N := some 18) (v := ?_) (a' := ?_) #[true, true, true, false, false, true, true, false, false, false, true, false, false, false] rfl rfl (take_ofW HT_.out HW_.out (by kernel_rfl)) (fun _ _ _ h => h) (Or.inl ⟨by rfl, ?_⟩) hHeld ?_ ?_
      rotate_left
      ·rintro w' ⟨s0, s1, s2, s3, s4, s5, s6⟩
       go_simp
       with_reducible rfl
      rotate_left
      ·simp only [Act.put, List.setIfInBounds_toArray, List.set_cons_zero, List.set_cons_succ, i64_w, i32_w]
       rfl
      refine pure_ (i := 3) (N := some 19) (v := ?_) (a' := ?_) #[true, true, true, true, false, true, true, false, false, false, true, false, false, false] rfl rfl (any_of HT_.out (by kernel_rfl)) (fun _ _ _ h => h) (Or.inl ⟨by rfl, ?_⟩) ?_ ?_
      rotate_left
      ·intro w'
       go_simp
       with_reducible rfl
      rotate_left
      ·simp only [Act.put, List.setIfInBounds_toArray, List.set_cons_zero, List.set_cons_succ, i64_w, i32_w]
       rfl
      refine take_ (i := 4) (N := some 20) (v := ?_) (a' := ?_) #[true, true, true, true, true, true, true, false, false, false, true, false, false, false] rfl rfl (take_ofW HT_.out HW_.out (by kernel_rfl)) (fun _ _ _ h => h) (Or.inl ⟨by rfl, ?_⟩) hHeld ?_ ?_
      rotate_left
      ·rintro w' ⟨s0, s1, s2, s3, s4, s5, s6⟩
       go_simp
       with_reducible rfl
      rotate_left
      ·simp only [Act.put, List.setIfInBounds_toArray, List.set_cons_zero, List.set_cons_succ, i64_w, i32_w]
       rfl
      refine take_ (i := 7) (N := some 23) (v := ?_) (a' := ?_) #[true, true, true, true, true, true, true, true, false, false, true, false, false, false] rfl rfl (take_ofW HT_.out HW_.out (by kernel_rfl)) (fun _ _ _ h => h) (Or.inl ⟨by rfl, ?_⟩) hHeld ?_ ?_
      rotate_left
      ·rintro w' ⟨s0, s1, s2, s3, s4, s5, s6⟩
       go_simp
       with_reducible rfl
      rotate_left
      ·simp only [Act.put, List.setIfInBounds_toArray, List.set_cons_zero, List.set_cons_succ, i64_w, i32_w]
       rfl
      refine pure_ (i := 8) (N := some 24) (v := ?_) (a' := ?_) #[true, true, true, true, true, true, true, true, true, false, true, false, false, false] rfl rfl (any_of HT_.out (by kernel_rfl)) (fun _ _ _ h => h) (Or.inl ⟨by rfl, ?_⟩) ?_ ?_
      rotate_left
      ·intro w'
       go_simp
       with_reducible rfl
      rotate_left
      ·simp only [Act.put, List.setIfInBounds_toArray, List.set_cons_zero, List.set_cons_succ, i64_w, i32_w]
       rfl
      refine take_ (i := 9) (N := some 25) (v := ?_) (a' := ?_) #[true, true, true, true, true, true, true, true, true, true, true, false, false, false] rfl rfl (take_ofW HT_.out HW_.out (by kernel_rfl)) (fun _ _ _ h => h) (Or.inl ⟨by rfl, ?_⟩) hHeld ?_ ?_
      rotate_left
      ·rintro w' ⟨s0, s1, s2, s3, s4, s5, s6⟩
       go_simp
       with_reducible rfl
      rotate_left
      ·simp only [Act.put, List.setIfInBounds_toArray, List.set_cons_zero, List.set_cons_succ, i64_w, i32_w]
       rfl
      refine take_ (i := 11) (N := some 27) (v := ?_) (a' := ?_) #[true, true, true, true, true, true, true, true, true, true, true, true, false, false] rfl rfl (take_ofW HT_.out HW_.out (by kernel_rfl)) (fun _ _ _ h => h) (Or.inl ⟨by rfl, ?_⟩) hHeld ?_ ?_
      rotate_left
      ·rintro w' ⟨s0, s1, s2, s3, s4, s5, s6⟩
       go_simp
       with_reducible rfl
      rotate_left
      ·simp only [Act.put, List.setIfInBounds_toArray, List.set_cons_zero, List.set_cons_succ, i64_w, i32_w]
       rfl
      refine one_ (i := 12) (N := some 28) #[true, true, true, true, true, true, true, true, true, true, true, true, true, false] rfl rfl (one_of HT_.out (by kernel_rfl)) (by decide) (fun K hK => ?_)
      refine goes_ Tryd.func20 (by kernel_rfl) rfl #[.agg #[.bool ((rd_T36 l0 ((rd_T39 l2 x12_1).f0)).f0), .string ((rd_T36 l0 ((rd_T39 l2 x12_1).f0)).f1)], .agg #[.bool ((rd_T36 l1 ((rd_T39 l2 x12_1).f0)).f0), .string ((rd_T36 l1 ((rd_T39 l2 x12_1).f0)).f1)], .int .i64 ((rd_T39 l2 x12_1).f1)] (by rfl) rfl rfl (by (try simp only [List.map_toArray, List.map_cons, List.map_nil]); first | done | rfl | (simp only [List.length_drop, List.length_take]; rfl)) ?_
      with_reducible refine (order_values.calls k1 ((rd_T36 l0 ((rd_T39 l2 x12_1).f0)).f0) ((rd_T36 l0 ((rd_T39 l2 x12_1).f0)).f1) ((rd_T36 l1 ((rd_T39 l2 x12_1).f0)).f0) ((rd_T36 l1 ((rd_T39 l2 x12_1).f0)).f1) ((rd_T39 l2 x12_1).f1) t138 _ ?side1 A10.out).mono ?_
      (case side1 => first | exact HT.out | exact Facts.below HT.out (mvG HB.out GE135.out) | exact Facts.below HT.out HB.out | (repeat (first | exact HT.out | refine Facts.drewN ?_ _ | refine Facts.drew ?_ | refine Facts.alloc ?_ _)))
      rintro e w24 ⟨rfl, hb⟩
      refine ⟨_, rfl, ?_⟩
      have n0_ := Aside0.mk (blk_below (g := gb135) (o := .cells #[.int .i64 ((rd_T39 l2 x12_1).f0), .int .i64 ((rd_T39 l2 x12_1).f1), .bool true] 39 (0, 0)) (mvK BK135.out) hb)
      have n1_ := Aside0.mk (below_step (mvG HB.out GE135.out) hb)
      clear BK135; clear HB; have BK135 := n0_; have HB := n1_; clear n0_ n1_; (try clear hb); (try clear hb2); (try clear hk); (try clear hi); refine hK.out _ _ ⟨(blk_cell BK135.out 0).trans (by first | rfl | (simp [← Nbq11.out]; done)), (blk_cell BK135.out 1).trans (by first | rfl | (simp [← Nbq11.out]; done)), (blk_cell BK135.out 2).trans (by first | rfl | (simp [← Nbq11.out]; done)), ((HB.out.cell (World.block_lt_of_cell? w _ hw136_0)).trans hw136_0), ((HB.out.cell (World.block_lt_of_cell? w _ hw136_1)).trans hw136_1), ((HB.out.cell (World.block_lt_of_cell? w _ hw137_0)).trans hw137_0), ((HB.out.cell (World.block_lt_of_cell? w _ hw137_1)).trans hw137_1)⟩ (fun hHeld => ?_)
      clear hK K; refine norm_ (a' := ?_) ?_ ?_
      rotate_left
      ·show Act.put _ (some 28) _ = _
       simp only [Act.put, List.setIfInBounds_toArray, List.set_cons_zero, List.set_cons_succ, i64_w, i32_w]
       rfl
      refine pure_ (i := 13) (N := some 9) (v := ?_) (a' := ?_) #[true, true, true, true, true, true, true, true, true, true, true, true, true, true] rfl rfl (any_of HT_.out (by kernel_rfl)) (fun _ _ _ h => h) (Or.inl ⟨by rfl, ?_⟩) ?_ ?_
      rotate_left
      ·intro w'
       go_simp
       with_reducible rfl
      rotate_left
      ·simp only [Act.put, List.setIfInBounds_toArray, List.set_cons_zero, List.set_cons_succ, i64_w, i32_w]
       rfl
      refine done_ (done_of HT_.out (by kernel_rfl)) ?_
      have hcz25_0 : w24.cell? ⟨gb135, 0, none⟩ = some (.int .i64 ((rd_T39 l2 x12_1).f0)) := (blk_cell BK135.out 0).trans (by first | rfl | (simp [← Nbq11.out]; done))
      have hcz25_1 : w24.cell? ⟨gb135, 1, none⟩ = some (.int .i64 ((rd_T39 l2 x12_1).f1)) := (blk_cell BK135.out 1).trans (by first | rfl | (simp [← Nbq11.out]; done))
      have hcz25_2 : w24.cell? ⟨gb135, 2, none⟩ = some (.bool true) := (blk_cell BK135.out 2).trans (by first | rfl | (simp [← Nbq11.out]; done))
      have hfz25_0 := blk_frozen BK135.out 0; have hfz25_1 := blk_frozen BK135.out 1; have hfz25_2 := blk_frozen BK135.out 2; try go_wp2
      go_ret
      exact exB (mvG HB.out GE135.out)
    ·replace c12 := Bool.eq_false_iff.mpr c12; subst c12; have H1 : (if t138 = 0 then (order_Compare.l0 k1 l0 l1 l2 (l2.length : Int) (wrap64 (x12_1 + 1))) else (some t138)) = some r := by rw [if_neg (show ¬ (false = true) by decide)] at H; exact H
     clear H; have H := H1; clear H1; by_cases c26 : t138 = 0
     ·rw [if_pos c26] at H; have c26b0 : (t138 == 0) = true := beq_iff_eq.mpr c26; have c26b1 : (t138 != 0) = false := bne_eq_false_iff_eq.mpr c26; clear c26; have H' := Aside0.mk H
      clear H; have p134 : 0 ≤ (x12_1 : Int) := dtA; have q134 : x12_1 < (l2.length : Int) := dtA; obtain ⟨ad134, e134, hx134_0, hx134_1, hx134_2⟩ := at_T39 HR2.out x12_1 p134 q134
      (try rw [← Nbq11.out] at hx134_2)
      cases e134
      replace hx134_0 := (HB.out.cell (World.block_lt_of_cell? w _ hx134_0)).trans hx134_0
      replace hx134_1 := (HB.out.cell (World.block_lt_of_cell? w _ hx134_1)).trans hx134_1
      replace hx134_2 := (HB.out.cell (World.block_lt_of_cell? w _ hx134_2)).trans hx134_2
      replace p134 := eq_true p134; replace q134 := eq_true q134; try go_wp2_with (first | ((with_reducible refine gate_dst (N := 8) rfl ?_); refine box_event ?hg (N := 8) ?hd (cs := #[.int .i64 0, .int .i64 0, .bool false]) (t := 39) ?hr ?_; (case hd => rfl); (case hg => rfl); (case hr => first | (go_simp; done) | (go_simp; rfl) | (go_simp; simp (disch := omega) only [Go.u8_and63, Go.u8_and31, Go.u8_and15, Go.u8_and7, Go.u8_or128, Go.u8_or192, Go.u8_or224, Go.u8_or240, m64]; done)); intro gb135 hg w27 hbox hb; have n0_ := Aside0.mk (below_step (mvB HB.out) hb); have n1_ := Aside0.mk (hbox); have n2_ := Aside0.mk ((by rw [hg]; exact (below_size (mvB HB.out)) : w.heap.size ≤ gb135)); have n3_ := Aside0.mk ((by rw [hg]; exact (below_size (mvB HB.out)) : w.heap.size ≤ gb135)); clear HB; have HB := n0_; have BK135 := n1_; have GW135 := n2_; have GE135 := n3_; clear n0_ n1_ n2_ n3_; clear hb hbox hg; have hcz28_0 : w27.cell? ⟨gb135, 0, none⟩ = some (.int .i64 0) := (blk_cell BK135.out 0).trans (by first | rfl | (simp [← Nbq11.out]; done)); have hcz28_1 : w27.cell? ⟨gb135, 1, none⟩ = some (.int .i64 0) := (blk_cell BK135.out 1).trans (by first | rfl | (simp [← Nbq11.out]; done)); have hcz28_2 : w27.cell? ⟨gb135, 2, none⟩ = some (.bool false) := (blk_cell BK135.out 2).trans (by first | rfl | (simp [← Nbq11.out]; done)); have hfz28_0 := blk_frozen BK135.out 0; have hfz28_1 := blk_frozen BK135.out 1; have hfz28_2 := blk_frozen BK135.out 2))
      have n0_ : Aside0 ((((w27.setCell ⟨gb135, 0, none⟩ (.int .i64 ((rd_T39 l2 x12_1).f0))).setCell ⟨gb135, 1, none⟩ (.int .i64 ((rd_T39 l2 x12_1).f1))).setCell ⟨gb135, 2, none⟩ (.bool false)).heap[gb135]? = some (.cells #[.int .i64 ((rd_T39 l2 x12_1).f0), .int .i64 ((rd_T39 l2 x12_1).f1), .bool false] 39 (0, 0))) := ⟨by (with_reducible repeat (first | refine blk_drewN ?_ _ | refine blk_drew ?_ | refine blk_alloc ?_ _)); refine blk_put (cs := #[.int .i64 ((rd_T39 l2 x12_1).f0), .int .i64 ((rd_T39 l2 x12_1).f1), .bool false]) ?_ 2 _ rfl; (with_reducible repeat (first | refine blk_drewN ?_ _ | refine blk_drew ?_ | refine blk_alloc ?_ _)); refine blk_put (cs := #[.int .i64 ((rd_T39 l2 x12_1).f0), .int .i64 0, .bool false]) ?_ 1 _ rfl; (with_reducible repeat (first | refine blk_drewN ?_ _ | refine blk_drew ?_ | refine blk_alloc ?_ _)); refine blk_put (cs := #[.int .i64 0, .int .i64 0, .bool false]) ?_ 0 _ rfl; (with_reducible repeat (first | refine blk_drewN ?_ _ | refine blk_drew ?_ | refine blk_alloc ?_ _)); exact BK135.out⟩
      have n1_ : Aside0 (Below w.heap.size w (((w27.setCell ⟨gb135, 0, none⟩ (.int .i64 ((rd_T39 l2 x12_1).f0))).setCell ⟨gb135, 1, none⟩ (.int .i64 ((rd_T39 l2 x12_1).f1))).setCell ⟨gb135, 2, none⟩ (.bool false))) := ⟨mvG HB.out GE135.out⟩
      (try clear BK135); (try clear HB); generalize (((w27.setCell ⟨gb135, 0, none⟩ (.int .i64 ((rd_T39 l2 x12_1).f0))).setCell ⟨gb135, 1, none⟩ (.int .i64 ((rd_T39 l2 x12_1).f1))).setCell ⟨gb135, 2, none⟩ (.bool false)) = w29 at n0_ n1_ ⊢
      have BK135 := n0_; have HB := n1_; clear n0_ n1_; have n0_ := Aside0.mk (blk_drew BK135.out)
      have n1_ := Aside0.mk (below_drew1 HB.out)
      clear BK135; clear HB; have BK135 := n0_; have HB := n1_; clear n0_ n1_; have p136 : 0 ≤ (((rd_T39 l2 x12_1).f0) : Int) := dtA; have q136 : ((rd_T39 l2 x12_1).f0) < (l0.length : Int) := dtA; obtain ⟨ad136, e136, hx136_0, hx136_1⟩ := at_T36 HR0.out ((rd_T39 l2 x12_1).f0) p136 q136
      have hw136_1 := hx136_1; have hw136_0 := hx136_0; (try rw [← Nbq11.out] at hx136_0)
      cases e136
      replace hx136_0 := (HB.out.cell (World.block_lt_of_cell? w _ hx136_0)).trans hx136_0
      replace hx136_1 := (HB.out.cell (World.block_lt_of_cell? w _ hx136_1)).trans hx136_1
      replace p136 := eq_true p136; replace q136 := eq_true q136; have p137 : 0 ≤ (((rd_T39 l2 x12_1).f0) : Int) := dtA; have q137 : ((rd_T39 l2 x12_1).f0) < (l1.length : Int) := dtA; obtain ⟨ad137, e137, hx137_0, hx137_1⟩ := at_T36 HR1.out ((rd_T39 l2 x12_1).f0) p137 q137
      have hw137_1 := hx137_1; have hw137_0 := hx137_0; (try rw [← Nbq11.out] at hx137_0)
      cases e137
      replace hx137_0 := (HB.out.cell (World.block_lt_of_cell? w _ hx137_0)).trans hx137_0
      replace hx137_1 := (HB.out.cell (World.block_lt_of_cell? w _ hx137_1)).trans hx137_1
      replace p137 := eq_true p137; replace q137 := eq_true q137; refine start_ (n := 14) (S := fun w' => w'.cell? ⟨gb135, 0, none⟩ = some (.int .i64 ((rd_T39 l2 x12_1).f0)) ∧ w'.cell? ⟨gb135, 1, none⟩ = some (.int .i64 ((rd_T39 l2 x12_1).f1)) ∧ w'.cell? ⟨gb135, 2, none⟩ = some (.bool false) ∧ w'.cell? (ad136.add ((((rd_T39 l2 x12_1).f0)).toNat * 2)) = some (.bool ((rd_T36 l0 ((rd_T39 l2 x12_1).f0)).f0)) ∧ w'.cell? ⟨(ad136.add ((((rd_T39 l2 x12_1).f0)).toNat * 2)).block, (ad136.add ((((rd_T39 l2 x12_1).f0)).toNat * 2)).off + 1, none⟩ = some (.string ((rd_T36 l0 ((rd_T39 l2 x12_1).f0)).f1)) ∧ w'.cell? (ad137.add ((((rd_T39 l2 x12_1).f0)).toNat * 2)) = some (.bool ((rd_T36 l1 ((rd_T39 l2 x12_1).f0)).f0)) ∧ w'.cell? ⟨(ad137.add ((((rd_T39 l2 x12_1).f0)).toNat * 2)).block, (ad137.add ((((rd_T39 l2 x12_1).f0)).toNat * 2)).off + 1, none⟩ = some (.string ((rd_T36 l1 ((rd_T39 l2 x12_1).f0)).f1))) (ds := []) #[false, false, false, false, false, false, false, false, false, false, false, false, false, false] (by kernel_rfl) rfl rfl ⟨(blk_cell BK135.out 0).trans (by first | rfl | (simp [← Nbq11.out]; done)), (blk_cell BK135.out 1).trans (by first | rfl | (simp [← Nbq11.out]; done)), (blk_cell BK135.out 2).trans (by first | rfl | (simp [← Nbq11.out]; done)), ((HB.out.cell (World.block_lt_of_cell? w _ hw136_0)).trans hw136_0), ((HB.out.cell (World.block_lt_of_cell? w _ hw136_1)).trans hw136_1), ((HB.out.cell (World.block_lt_of_cell? w _ hw137_0)).trans hw137_0), ((HB.out.cell (World.block_lt_of_cell? w _ hw137_1)).trans hw137_1)⟩ (fun hHeld => ?_); refine with_tabW order_Compare.tab4 order_Compare.bits4 (fun HT_ HW_ => ?_)
      generalize w29.drew = w30 at BK135 HB hx136_0 hx136_1 hx137_0 hx137_1 hHeld ⊢
      refine pure_ (i := 0) (N := some 16) (v := ?_) (a' := ?_) #[true, false, false, false, false, false, false, false, false, false, false, false, false, false] rfl rfl (any_of HT_.out (by kernel_rfl)) (fun _ _ _ h => h) (Or.inl ⟨by rfl, ?_⟩) ?_ ?_
      rotate_left
      ·intro w'
       go_simp
       with_reducible rfl
      rotate_left
      ·simp only [Act.put, List.setIfInBounds_toArray, List.set_cons_zero, List.set_cons_succ, i64_w, i32_w]
       rfl
      refine pure_ (i := 1) (N := some 17) (v := ?_) (a' := ?_) #[true, true, false, false, false, false, false, false, false, false, false, false, false, false] rfl rfl (any_of HT_.out (by kernel_rfl)) (fun _ _ _ h => h) (Or.inl ⟨by rfl, ?_⟩) ?_ ?_
      rotate_left
      ·intro w'
       go_simp
       with_reducible rfl
      rotate_left
      ·simp only [Act.put, List.setIfInBounds_toArray, List.set_cons_zero, List.set_cons_succ, i64_w, i32_w]
       rfl
      refine pure_ (i := 5) (N := some 21) (v := ?_) (a' := ?_) #[true, true, false, false, false, true, false, false, false, false, false, false, false, false] rfl rfl (any_of HT_.out (by kernel_rfl)) (fun _ _ _ h => h) (Or.inl ⟨by rfl, ?_⟩) ?_ ?_
      rotate_left
      ·intro w'
       go_simp
       with_reducible rfl
      rotate_left
      ·simp only [Act.put, List.setIfInBounds_toArray, List.set_cons_zero, List.set_cons_succ, i64_w, i32_w]
       rfl
      refine pure_ (i := 6) (N := some 22) (v := ?_) (a' := ?_) #[true, true, false, false, false, true, true, false, false, false, false, false, false, false] rfl rfl (any_of HT_.out (by kernel_rfl)) (fun _ _ _ h => h) (Or.inl ⟨by rfl, ?_⟩) ?_ ?_
      rotate_left
      ·intro w'
       go_simp
       with_reducible rfl
      rotate_left
      ·simp only [Act.put, List.setIfInBounds_toArray, List.set_cons_zero, List.set_cons_succ, i64_w, i32_w]
       rfl
      refine pure_ (i := 10) (N := some 26) (v := ?_) (a' := ?_) #[true, true, false, false, false, true, true, false, false, false, true, false, false, false] rfl rfl (any_of HT_.out (by kernel_rfl)) (fun _ _ _ h => h) (Or.inl ⟨by rfl, ?_⟩) ?_ ?_
      rotate_left
      ·intro w'
       go_simp
       with_reducible rfl
      rotate_left
      ·simp only [Act.put, List.setIfInBounds_toArray, List.set_cons_zero, List.set_cons_succ, i64_w, i32_w]
       rfl
      refine take_ (i := 2) (N := some 18) (v := ?_) (a' := ?_) #[true, true, true, false, false, true, true, false, false, false, true, false, false, false] rfl rfl (take_ofW HT_.out HW_.out (by kernel_rfl)) (fun _ _ _ h => h) (Or.inl ⟨by rfl, ?_⟩) hHeld ?_ ?_
      rotate_left
      ·rintro w' ⟨s0, s1, s2, s3, s4, s5, s6⟩
       go_simp
       with_reducible rfl
      rotate_left
      ·simp only [Act.put, List.setIfInBounds_toArray, List.set_cons_zero, List.set_cons_succ, i64_w, i32_w]
       rfl
      refine pure_ (i := 3) (N := some 19) (v := ?_) (a' := ?_) #[true, true, true, true, false, true, true, false, false, false, true, false, false, false] rfl rfl (any_of HT_.out (by kernel_rfl)) (fun _ _ _ h => h) (Or.inl ⟨by rfl, ?_⟩) ?_ ?_
      rotate_left
      ·intro w'
       go_simp
       with_reducible rfl
      rotate_left
      ·simp only [Act.put, List.setIfInBounds_toArray, List.set_cons_zero, List.set_cons_succ, i64_w, i32_w]
       rfl
      refine take_ (i := 4) (N := some 20) (v := ?_) (a' := ?_) #[true, true, true, true, true, true, true, false, false, false, true, false, false, false] rfl rfl (take_ofW HT_.out HW_.out (by kernel_rfl)) (fun _ _ _ h => h) (Or.inl ⟨by rfl, ?_⟩) hHeld ?_ ?_
      rotate_left
      ·rintro w' ⟨s0, s1, s2, s3, s4, s5, s6⟩
       go_simp
       with_reducible rfl
      rotate_left
      ·simp only [Act.put, List.setIfInBounds_toArray, List.set_cons_zero, List.set_cons_succ, i64_w, i32_w]
       rfl
      refine take_ (i := 7) (N := some 23) (v := ?_) (a' := ?_) #[true, true, true, true, true, true, true, true, false, false, true, false, false, false] rfl rfl (take_ofW HT_.out HW_.out (by kernel_rfl)) (fun _ _ _ h => h) (Or.inl ⟨by rfl, ?_⟩) hHeld ?_ ?_
      rotate_left
      ·rintro w' ⟨s0, s1, s2, s3, s4, s5, s6⟩
       go_simp
       with_reducible rfl
      rotate_left
      ·simp only [Act.put, List.setIfInBounds_toArray, List.set_cons_zero, List.set_cons_succ, i64_w, i32_w]
       rfl
      refine pure_ (i := 8) (N := some 24) (v := ?_) (a' := ?_) #[true, true, true, true, true, true, true, true, true, false, true, false, false, false] rfl rfl (any_of HT_.out (by kernel_rfl)) (fun _ _ _ h => h) (Or.inl ⟨by rfl, ?_⟩) ?_ ?_
      rotate_left
      ·intro w'
       go_simp
       with_reducible rfl
      rotate_left
      ·simp only [Act.put, List.setIfInBounds_toArray, List.set_cons_zero, List.set_cons_succ, i64_w, i32_w]
       rfl
      refine take_ (i := 9) (N := some 25) (v := ?_) (a' := ?_) #[true, true, true, true, true, true, true, true, true, true, true, false, false, false] rfl rfl (take_ofW HT_.out HW_.out (by kernel_rfl)) (fun _ _ _ h => h) (Or.inl ⟨by rfl, ?_⟩) hHeld ?_ ?_
      rotate_left
      ·rintro w' ⟨s0, s1, s2, s3, s4, s5, s6⟩
       go_simp
       with_reducible rfl
      rotate_left
      ·simp only [Act.put, List.setIfInBounds_toArray, List.set_cons_zero, List.set_cons_succ, i64_w, i32_w]
       rfl
      refine take_ (i := 11) (N := some 27) (v := ?_) (a' := ?_) #[true, true, true, true, true, true, true, true, true, true, true, true, false, false] rfl rfl (take_ofW HT_.out HW_.out (by kernel_rfl)) (fun _ _ _ h => h) (Or.inl ⟨by rfl, ?_⟩) hHeld ?_ ?_
      rotate_left
      ·rintro w' ⟨s0, s1, s2, s3, s4, s5, s6⟩
       go_simp
       with_reducible rfl
      rotate_left
      ·simp only [Act.put, List.setIfInBounds_toArray, List.set_cons_zero, List.set_cons_succ, i64_w, i32_w]
       rfl
      refine one_ (i := 12) (N := some 28) #[true, true, true, true, true, true, true, true, true, true, true, true, true, false] rfl rfl (one_of HT_.out (by kernel_rfl)) (by decide) (fun K hK => ?_)
      refine goes_ Tryd.func20 (by kernel_rfl) rfl #[.agg #[.bool ((rd_T36 l0 ((rd_T39 l2 x12_1).f0)).f0), .string ((rd_T36 l0 ((rd_T39 l2 x12_1).f0)).f1)], .agg #[.bool ((rd_T36 l1 ((rd_T39 l2 x12_1).f0)).f0), .string ((rd_T36 l1 ((rd_T39 l2 x12_1).f0)).f1)], .int .i64 ((rd_T39 l2 x12_1).f1)] (by rfl) rfl rfl (by (try simp only [List.map_toArray, List.map_cons, List.map_nil]); first | done | rfl | (simp only [List.length_drop, List.length_take]; rfl)) ?_
      with_reducible refine (order_values.calls k1 ((rd_T36 l0 ((rd_T39 l2 x12_1).f0)).f0) ((rd_T36 l0 ((rd_T39 l2 x12_1).f0)).f1) ((rd_T36 l1 ((rd_T39 l2 x12_1).f0)).f0) ((rd_T36 l1 ((rd_T39 l2 x12_1).f0)).f1) ((rd_T39 l2 x12_1).f1) t138 _ ?side1 A10.out).mono ?_
      (case side1 => first | exact HT.out | exact Facts.below HT.out (mvG HB.out GE135.out) | exact Facts.below HT.out HB.out | (repeat (first | exact HT.out | refine Facts.drewN ?_ _ | refine Facts.drew ?_ | refine Facts.alloc ?_ _)))
      rintro e w31 ⟨rfl, hb⟩
      refine ⟨_, rfl, ?_⟩
      have n0_ := Aside0.mk (blk_below (g := gb135) (o := .cells #[.int .i64 ((rd_T39 l2 x12_1).f0), .int .i64 ((rd_T39 l2 x12_1).f1), .bool false] 39 (0, 0)) (mvK BK135.out) hb)
      have n1_ := Aside0.mk (below_step (mvG HB.out GE135.out) hb)
      clear BK135; clear HB; have BK135 := n0_; have HB := n1_; clear n0_ n1_; (try clear hb); (try clear hb2); (try clear hk); (try clear hi); refine hK.out _ _ ⟨(blk_cell BK135.out 0).trans (by first | rfl | (simp [← Nbq11.out]; done)), (blk_cell BK135.out 1).trans (by first | rfl | (simp [← Nbq11.out]; done)), (blk_cell BK135.out 2).trans (by first | rfl | (simp [← Nbq11.out]; done)), ((HB.out.cell (World.block_lt_of_cell? w _ hw136_0)).trans hw136_0), ((HB.out.cell (World.block_lt_of_cell? w _ hw136_1)).trans hw136_1), ((HB.out.cell (World.block_lt_of_cell? w _ hw137_0)).trans hw137_0), ((HB.out.cell (World.block_lt_of_cell? w _ hw137_1)).trans hw137_1)⟩ (fun hHeld => ?_)
      clear hK K; refine norm_ (a' := ?_) ?_ ?_
      rotate_left
      ·show Act.put _ (some 28) _ = _
       simp only [Act.put, List.setIfInBounds_toArray, List.set_cons_zero, List.set_cons_succ, i64_w, i32_w]
       rfl
      refine pure_ (i := 13) (N := some 9) (v := ?_) (a' := ?_) #[true, true, true, true, true, true, true, true, true, true, true, true, true, true] rfl rfl (any_of HT_.out (by kernel_rfl)) (fun _ _ _ h => h) (Or.inl ⟨by rfl, ?_⟩) ?_ ?_
      rotate_left
      ·intro w'
       go_simp
       with_reducible rfl
      rotate_left
      ·simp only [Act.put, List.setIfInBounds_toArray, List.set_cons_zero, List.set_cons_succ, i64_w, i32_w]
       rfl
      refine done_ (done_of HT_.out (by kernel_rfl)) ?_
      have hcz32_0 : w31.cell? ⟨gb135, 0, none⟩ = some (.int .i64 ((rd_T39 l2 x12_1).f0)) := (blk_cell BK135.out 0).trans (by first | rfl | (simp [← Nbq11.out]; done))
      have hcz32_1 : w31.cell? ⟨gb135, 1, none⟩ = some (.int .i64 ((rd_T39 l2 x12_1).f1)) := (blk_cell BK135.out 1).trans (by first | rfl | (simp [← Nbq11.out]; done))
      have hcz32_2 : w31.cell? ⟨gb135, 2, none⟩ = some (.bool false) := (blk_cell BK135.out 2).trans (by first | rfl | (simp [← Nbq11.out]; done))
      have hfz32_0 := blk_frozen BK135.out 0; have hfz32_1 := blk_frozen BK135.out 1; have hfz32_2 := blk_frozen BK135.out 2; try go_wp2
      go_roundg k1
      case measure => have := HK1.out; omega
      case rel => exact ⟨(wrap64 (x12_1 + 1)), (by first | rfl | (simp; done) | (simp [*]; done)), (by first | exact H' | (rw [← Nbq11.out]; exact H')), ⟨by have := HK1.out; omega⟩, ⟨mvG HB.out GE135.out⟩⟩
     ·rw [if_neg c26] at H; have c26b0 : (t138 == 0) = false := beq_eq_false_iff_ne.mpr c26; have c26b1 : (t138 != 0) = true := bne_iff_ne.mpr c26; obtain rfl := Option.some.inj H
      have p134 : 0 ≤ (x12_1 : Int) := dtA; have q134 : x12_1 < (l2.length : Int) := dtA; obtain ⟨ad134, e134, hx134_0, hx134_1, hx134_2⟩ := at_T39 HR2.out x12_1 p134 q134
      (try rw [← Nbq11.out] at hx134_2)
      cases e134
      replace hx134_0 := (HB.out.cell (World.block_lt_of_cell? w _ hx134_0)).trans hx134_0
      replace hx134_1 := (HB.out.cell (World.block_lt_of_cell? w _ hx134_1)).trans hx134_1
      replace hx134_2 := (HB.out.cell (World.block_lt_of_cell? w _ hx134_2)).trans hx134_2
      replace p134 := eq_true p134; replace q134 := eq_true q134; try go_wp2_with (first | ((with_reducible refine gate_dst (N := 8) rfl ?_); refine box_event ?hg (N := 8) ?hd (cs := #[.int .i64 0, .int .i64 0, .bool false]) (t := 39) ?hr ?_; (case hd => rfl); (case hg => rfl); (case hr => first | (go_simp; done) | (go_simp; rfl) | (go_simp; simp (disch := omega) only [Go.u8_and63, Go.u8_and31, Go.u8_and15, Go.u8_and7, Go.u8_or128, Go.u8_or192, Go.u8_or224, Go.u8_or240, m64]; done)); intro gb135 hg w33 hbox hb; have n0_ := Aside0.mk (below_step (mvB HB.out) hb); have n1_ := Aside0.mk (hbox); have n2_ := Aside0.mk ((by rw [hg]; exact (below_size (mvB HB.out)) : w.heap.size ≤ gb135)); have n3_ := Aside0.mk ((by rw [hg]; exact (below_size (mvB HB.out)) : w.heap.size ≤ gb135)); clear HB; have HB := n0_; have BK135 := n1_; have GW135 := n2_; have GE135 := n3_; clear n0_ n1_ n2_ n3_; clear hb hbox hg; have hcz34_0 : w33.cell? ⟨gb135, 0, none⟩ = some (.int .i64 0) := (blk_cell BK135.out 0).trans (by first | rfl | (simp [← Nbq11.out]; done)); have hcz34_1 : w33.cell? ⟨gb135, 1, none⟩ = some (.int .i64 0) := (blk_cell BK135.out 1).trans (by first | rfl | (simp [← Nbq11.out]; done)); have hcz34_2 : w33.cell? ⟨gb135, 2, none⟩ = some (.bool false) := (blk_cell BK135.out 2).trans (by first | rfl | (simp [← Nbq11.out]; done)); have hfz34_0 := blk_frozen BK135.out 0; have hfz34_1 := blk_frozen BK135.out 1; have hfz34_2 := blk_frozen BK135.out 2))
      have n0_ : Aside0 ((((w33.setCell ⟨gb135, 0, none⟩ (.int .i64 ((rd_T39 l2 x12_1).f0))).setCell ⟨gb135, 1, none⟩ (.int .i64 ((rd_T39 l2 x12_1).f1))).setCell ⟨gb135, 2, none⟩ (.bool false)).heap[gb135]? = some (.cells #[.int .i64 ((rd_T39 l2 x12_1).f0), .int .i64 ((rd_T39 l2 x12_1).f1), .bool false] 39 (0, 0))) := ⟨by (with_reducible repeat (first | refine blk_drewN ?_ _ | refine blk_drew ?_ | refine blk_alloc ?_ _)); refine blk_put (cs := #[.int .i64 ((rd_T39 l2 x12_1).f0), .int .i64 ((rd_T39 l2 x12_1).f1), .bool false]) ?_ 2 _ rfl; (with_reducible repeat (first | refine blk_drewN ?_ _ | refine blk_drew ?_ | refine blk_alloc ?_ _)); refine blk_put (cs := #[.int .i64 ((rd_T39 l2 x12_1).f0), .int .i64 0, .bool false]) ?_ 1 _ rfl; (with_reducible repeat (first | refine blk_drewN ?_ _ | refine blk_drew ?_ | refine blk_alloc ?_ _)); refine blk_put (cs := #[.int .i64 0, .int .i64 0, .bool false]) ?_ 0 _ rfl; (with_reducible repeat (first | refine blk_drewN ?_ _ | refine blk_drew ?_ | refine blk_alloc ?_ _)); exact BK135.out⟩
      have n1_ : Aside0 (Below w.heap.size w (((w33.setCell ⟨gb135, 0, none⟩ (.int .i64 ((rd_T39 l2 x12_1).f0))).setCell ⟨gb135, 1, none⟩ (.int .i64 ((rd_T39 l2 x12_1).f1))).setCell ⟨gb135, 2, none⟩ (.bool false))) := ⟨mvG HB.out GE135.out⟩
      (try clear BK135); (try clear HB); generalize (((w33.setCell ⟨gb135, 0, none⟩ (.int .i64 ((rd_T39 l2 x12_1).f0))).setCell ⟨gb135, 1, none⟩ (.int .i64 ((rd_T39 l2 x12_1).f1))).setCell ⟨gb135, 2, none⟩ (.bool false)) = w35 at n0_ n1_ ⊢
      have BK135 := n0_; have HB := n1_; clear n0_ n1_; have n0_ := Aside0.mk (blk_drew BK135.out)
      have n1_ := Aside0.mk (below_drew1 HB.out)
      clear BK135; clear HB; have BK135 := n0_; have HB := n1_; clear n0_ n1_; have p136 : 0 ≤ (((rd_T39 l2 x12_1).f0) : Int) := dtA; have q136 : ((rd_T39 l2 x12_1).f0) < (l0.length : Int) := dtA; obtain ⟨ad136, e136, hx136_0, hx136_1⟩ := at_T36 HR0.out ((rd_T39 l2 x12_1).f0) p136 q136
      have hw136_1 := hx136_1; have hw136_0 := hx136_0; (try rw [← Nbq11.out] at hx136_0)
      cases e136
      replace hx136_0 := (HB.out.cell (World.block_lt_of_cell? w _ hx136_0)).trans hx136_0
      replace hx136_1 := (HB.out.cell (World.block_lt_of_cell? w _ hx136_1)).trans hx136_1
      replace p136 := eq_true p136; replace q136 := eq_true q136; have p137 : 0 ≤ (((rd_T39 l2 x12_1).f0) : Int) := dtA; have q137 : ((rd_T39 l2 x12_1).f0) < (l1.length : Int) := dtA; obtain ⟨ad137, e137, hx137_0, hx137_1⟩ := at_T36 HR1.out ((rd_T39 l2 x12_1).f0) p137 q137
      have hw137_1 := hx137_1; have hw137_0 := hx137_0; (try rw [← Nbq11.out] at hx137_0)
      cases e137
      replace hx137_0 := (HB.out.cell (World.block_lt_of_cell? w _ hx137_0)).trans hx137_0
      replace hx137_1 := (HB.out.cell (World.block_lt_of_cell? w _ hx137_1)).trans hx137_1
      replace p137 := eq_true p137; replace q137 := eq_true q137; refine start_ (n := 14) (S := fun w' => w'.cell? ⟨gb135, 0, none⟩ = some (.int .i64 ((rd_T39 l2 x12_1).f0)) ∧ w'.cell? ⟨gb135, 1, none⟩ = some (.int .i64 ((rd_T39 l2 x12_1).f1)) ∧ w'.cell? ⟨gb135, 2, none⟩ = some (.bool false) ∧ w'.cell? (ad136.add ((((rd_T39 l2 x12_1).f0)).toNat * 2)) = some (.bool ((rd_T36 l0 ((rd_T39 l2 x12_1).f0)).f0)) ∧ w'.cell? ⟨(ad136.add ((((rd_T39 l2 x12_1).f0)).toNat * 2)).block, (ad136.add ((((rd_T39 l2 x12_1).f0)).toNat * 2)).off + 1, none⟩ = some (.string ((rd_T36 l0 ((rd_T39 l2 x12_1).f0)).f1)) ∧ w'.cell? (ad137.add ((((rd_T39 l2 x12_1).f0)).toNat * 2)) = some (.bool ((rd_T36 l1 ((rd_T39 l2 x12_1).f0)).f0)) ∧ w'.cell? ⟨(ad137.add ((((rd_T39 l2 x12_1).f0)).toNat * 2)).block, (ad137.add ((((rd_T39 l2 x12_1).f0)).toNat * 2)).off + 1, none⟩ = some (.string ((rd_T36 l1 ((rd_T39 l2 x12_1).f0)).f1))) (ds := []) #[false, false, false, false, false, false, false, false, false, false, false, false, false, false] (by kernel_rfl) rfl rfl ⟨(blk_cell BK135.out 0).trans (by first | rfl | (simp [← Nbq11.out]; done)), (blk_cell BK135.out 1).trans (by first | rfl | (simp [← Nbq11.out]; done)), (blk_cell BK135.out 2).trans (by first | rfl | (simp [← Nbq11.out]; done)), ((HB.out.cell (World.block_lt_of_cell? w _ hw136_0)).trans hw136_0), ((HB.out.cell (World.block_lt_of_cell? w _ hw136_1)).trans hw136_1), ((HB.out.cell (World.block_lt_of_cell? w _ hw137_0)).trans hw137_0), ((HB.out.cell (World.block_lt_of_cell? w _ hw137_1)).trans hw137_1)⟩ (fun hHeld => ?_); refine with_tabW order_Compare.tab4 order_Compare.bits4 (fun HT_ HW_ => ?_)
      generalize w35.drew = w36 at BK135 HB hx136_0 hx136_1 hx137_0 hx137_1 hHeld ⊢
      refine pure_ (i := 0) (N := some 16) (v := ?_) (a' := ?_) #[true, false, false, false, false, false, false, false, false, false, false, false, false, false] rfl rfl (any_of HT_.out (by kernel_rfl)) (fun _ _ _ h => h) (Or.inl ⟨by rfl, ?_⟩) ?_ ?_
      rotate_left
      ·intro w'
       go_simp
       with_reducible rfl
      rotate_left
      ·simp only [Act.put, List.setIfInBounds_toArray, List.set_cons_zero, List.set_cons_succ, i64_w, i32_w]
       rfl
      refine pure_ (i := 1) (N := some 17) (v := ?_) (a' := ?_) #[true, true, false, false, false, false, false, false, false, false, false, false, false, false] rfl rfl (any_of HT_.out (by kernel_rfl)) (fun _ _ _ h => h) (Or.inl ⟨by rfl, ?_⟩) ?_ ?_
      rotate_left
      ·intro w'
       go_simp
       with_reducible rfl
      rotate_left
      ·simp only [Act.put, List.setIfInBounds_toArray, List.set_cons_zero, List.set_cons_succ, i64_w, i32_w]
       rfl
      refine pure_ (i := 5) (N := some 21) (v := ?_) (a' := ?_) #[true, true, false, false, false, true, false, false, false, false, false, false, false, false] rfl rfl (any_of HT_.out (by kernel_rfl)) (fun _ _ _ h => h) (Or.inl ⟨by rfl, ?_⟩) ?_ ?_
      rotate_left
      ·intro w'
       go_simp
       with_reducible rfl
      rotate_left
      ·simp only [Act.put, List.setIfInBounds_toArray, List.set_cons_zero, List.set_cons_succ, i64_w, i32_w]
       rfl
      refine pure_ (i := 6) (N := some 22) (v := ?_) (a' := ?_) #[true, true, false, false, false, true, true, false, false, false, false, false, false, false] rfl rfl (any_of HT_.out (by kernel_rfl)) (fun _ _ _ h => h) (Or.inl ⟨by rfl, ?_⟩) ?_ ?_
      rotate_left
      ·intro w'
       go_simp
       with_reducible rfl
      rotate_left
      ·simp only [Act.put, List.setIfInBounds_toArray, List.set_cons_zero, List.set_cons_succ, i64_w, i32_w]
       rfl
      refine pure_ (i := 10) (N := some 26) (v := ?_) (a' := ?_) #[true, true, false, false, false, true, true, false, false, false, true, false, false, false] rfl rfl (any_of HT_.out (by kernel_rfl)) (fun _ _ _ h => h) (Or.inl ⟨by rfl, ?_⟩) ?_ ?_
      rotate_left
      ·intro w'
       go_simp
       with_reducible rfl
      rotate_left
      ·simp only [Act.put, List.setIfInBounds_toArray, List.set_cons_zero, List.set_cons_succ, i64_w, i32_w]
       rfl
      refine take_ (i := 2) (N := some 18) (v := ?_) (a' := ?_) #[true, true, true, false, false, true, true, false, false, false, true, false, false, false] rfl rfl (take_ofW HT_.out HW_.out (by kernel_rfl)) (fun _ _ _ h => h) (Or.inl ⟨by rfl, ?_⟩) hHeld ?_ ?_
      rotate_left
      ·rintro w' ⟨s0, s1, s2, s3, s4, s5, s6⟩
       go_simp
       with_reducible rfl
      rotate_left
      ·simp only [Act.put, List.setIfInBounds_toArray, List.set_cons_zero, List.set_cons_succ, i64_w, i32_w]
       rfl
      refine pure_ (i := 3) (N := some 19) (v := ?_) (a' := ?_) #[true, true, true, true, false, true, true, false, false, false, true, false, false, false] rfl rfl (any_of HT_.out (by kernel_rfl)) (fun _ _ _ h => h) (Or.inl ⟨by rfl, ?_⟩) ?_ ?_
      rotate_left
      ·intro w'
       go_simp
       with_reducible rfl
      rotate_left
      ·simp only [Act.put, List.setIfInBounds_toArray, List.set_cons_zero, List.set_cons_succ, i64_w, i32_w]
       rfl
      refine take_ (i := 4) (N := some 20) (v := ?_) (a' := ?_) #[true, true, true, true, true, true, true, false, false, false, true, false, false, false] rfl rfl (take_ofW HT_.out HW_.out (by kernel_rfl)) (fun _ _ _ h => h) (Or.inl ⟨by rfl, ?_⟩) hHeld ?_ ?_
      rotate_left
      ·rintro w' ⟨s0, s1, s2, s3, s4, s5, s6⟩
       go_simp
       with_reducible rfl
      rotate_left
      ·simp only [Act.put, List.setIfInBounds_toArray, List.set_cons_zero, List.set_cons_succ, i64_w, i32_w]
       rfl
      refine take_ (i := 7) (N := some 23) (v := ?_) (a' := ?_) #[true, true, true, true, true, true, true, true, false, false, true, false, false, false] rfl rfl (take_ofW HT_.out HW_.out (by kernel_rfl)) (fun _ _ _ h => h) (Or.inl ⟨by rfl, ?_⟩) hHeld ?_ ?_
      rotate_left
      ·rintro w' ⟨s0, s1, s2, s3, s4, s5, s6⟩
       go_simp
       with_reducible rfl
      rotate_left
      ·simp only [Act.put, List.setIfInBounds_toArray, List.set_cons_zero, List.set_cons_succ, i64_w, i32_w]
       rfl
      refine pure_ (i := 8) (N := some 24) (v := ?_) (a' := ?_) #[true, true, true, true, true, true, true, true, true, false, true, false, false, false] rfl rfl (any_of HT_.out (by kernel_rfl)) (fun _ _ _ h => h) (Or.inl ⟨by rfl, ?_⟩) ?_ ?_
      rotate_left
      ·intro w'
       go_simp
       with_reducible rfl
      rotate_left
      ·simp only [Act.put, List.setIfInBounds_toArray, List.set_cons_zero, List.set_cons_succ, i64_w, i32_w]
       rfl
      refine take_ (i := 9) (N := some 25) (v := ?_) (a' := ?_) #[true, true, true, true, true, true, true, true, true, true, true, false, false, false] rfl rfl (take_ofW HT_.out HW_.out (by kernel_rfl)) (fun _ _ _ h => h) (Or.inl ⟨by rfl, ?_⟩) hHeld ?_ ?_
      rotate_left
      ·rintro w' ⟨s0, s1, s2, s3, s4, s5, s6⟩
       go_simp
       with_reducible rfl
      rotate_left
      ·simp only [Act.put, List.setIfInBounds_toArray, List.set_cons_zero, List.set_cons_succ, i64_w, i32_w]
       rfl
      refine take_ (i := 11) (N := some 27) (v := ?_) (a' := ?_) #[true, true, true, true, true, true, true, true, true, true, true, true, false, false] rfl rfl (take_ofW HT_.out HW_.out (by kernel_rfl)) (fun _ _ _ h => h) (Or.inl ⟨by rfl, ?_⟩) hHeld ?_ ?_
      rotate_left
      ·rintro w' ⟨s0, s1, s2, s3, s4, s5, s6⟩
       go_simp
       with_reducible rfl
      rotate_left
      ·simp only [Act.put, List.setIfInBounds_toArray, List.set_cons_zero, List.set_cons_succ, i64_w, i32_w]
       rfl
      refine one_ (i := 12) (N := some 28) #[true, true, true, true, true, true, true, true, true, true, true, true, true, false] rfl rfl (one_of HT_.out (by kernel_rfl)) (by decide) (fun K hK => ?_)
      refine goes_ Tryd.func20 (by kernel_rfl) rfl #[.agg #[.bool ((rd_T36 l0 ((rd_T39 l2 x12_1).f0)).f0), .string ((rd_T36 l0 ((rd_T39 l2 x12_1).f0)).f1)], .agg #[.bool ((rd_T36 l1 ((rd_T39 l2 x12_1).f0)).f0), .string ((rd_T36 l1 ((rd_T39 l2 x12_1).f0)).f1)], .int .i64 ((rd_T39 l2 x12_1).f1)] (by rfl) rfl rfl (by (try simp only [List.map_toArray, List.map_cons, List.map_nil]); first | done | rfl | (simp only [List.length_drop, List.length_take]; rfl)) ?_
      with_reducible refine (order_values.calls k1 ((rd_T36 l0 ((rd_T39 l2 x12_1).f0)).f0) ((rd_T36 l0 ((rd_T39 l2 x12_1).f0)).f1) ((rd_T36 l1 ((rd_T39 l2 x12_1).f0)).f0) ((rd_T36 l1 ((rd_T39 l2 x12_1).f0)).f1) ((rd_T39 l2 x12_1).f1) t138 _ ?side1 A10.out).mono ?_
      (case side1 => first | exact HT.out | exact Facts.below HT.out (mvG HB.out GE135.out) | exact Facts.below HT.out HB.out | (repeat (first | exact HT.out | refine Facts.drewN ?_ _ | refine Facts.drew ?_ | refine Facts.alloc ?_ _)))
      rintro e w37 ⟨rfl, hb⟩
      refine ⟨_, rfl, ?_⟩
      have n0_ := Aside0.mk (blk_below (g := gb135) (o := .cells #[.int .i64 ((rd_T39 l2 x12_1).f0), .int .i64 ((rd_T39 l2 x12_1).f1), .bool false] 39 (0, 0)) (mvK BK135.out) hb)
      have n1_ := Aside0.mk (below_step (mvG HB.out GE135.out) hb)
      clear BK135; clear HB; have BK135 := n0_; have HB := n1_; clear n0_ n1_; (try clear hb); (try clear hb2); (try clear hk); (try clear hi); refine hK.out _ _ ⟨(blk_cell BK135.out 0).trans (by first | rfl | (simp [← Nbq11.out]; done)), (blk_cell BK135.out 1).trans (by first | rfl | (simp [← Nbq11.out]; done)), (blk_cell BK135.out 2).trans (by first | rfl | (simp [← Nbq11.out]; done)), ((HB.out.cell (World.block_lt_of_cell? w _ hw136_0)).trans hw136_0), ((HB.out.cell (World.block_lt_of_cell? w _ hw136_1)).trans hw136_1), ((HB.out.cell (World.block_lt_of_cell? w _ hw137_0)).trans hw137_0), ((HB.out.cell (World.block_lt_of_cell? w _ hw137_1)).trans hw137_1)⟩ (fun hHeld => ?_)
      clear hK K; refine norm_ (a' := ?_) ?_ ?_
      rotate_left
      ·show Act.put _ (some 28) _ = _
       simp only [Act.put, List.setIfInBounds_toArray, List.set_cons_zero, List.set_cons_succ, i64_w, i32_w]
       rfl
      refine pure_ (i := 13) (N := some 9) (v := ?_) (a' := ?_) #[true, true, true, true, true, true, true, true, true, true, true, true, true, true] rfl rfl (any_of HT_.out (by kernel_rfl)) (fun _ _ _ h => h) (Or.inl ⟨by rfl, ?_⟩) ?_ ?_
      rotate_left
      ·intro w'
       go_simp
       with_reducible rfl
      rotate_left
      ·simp only [Act.put, List.setIfInBounds_toArray, List.set_cons_zero, List.set_cons_succ, i64_w, i32_w]
       rfl
      refine done_ (done_of HT_.out (by kernel_rfl)) ?_
      have hcz38_0 : w37.cell? ⟨gb135, 0, none⟩ = some (.int .i64 ((rd_T39 l2 x12_1).f0)) := (blk_cell BK135.out 0).trans (by first | rfl | (simp [← Nbq11.out]; done))
      have hcz38_1 : w37.cell? ⟨gb135, 1, none⟩ = some (.int .i64 ((rd_T39 l2 x12_1).f1)) := (blk_cell BK135.out 1).trans (by first | rfl | (simp [← Nbq11.out]; done))
      have hcz38_2 : w37.cell? ⟨gb135, 2, none⟩ = some (.bool false) := (blk_cell BK135.out 2).trans (by first | rfl | (simp [← Nbq11.out]; done))
      have hfz38_0 := blk_frozen BK135.out 0; have hfz38_1 := blk_frozen BK135.out 1; have hfz38_2 := blk_frozen BK135.out 2; try go_wp2
      go_ret
      exact exB (mvG HB.out GE135.out)
   ·rw [if_neg c4] at H; have c4b0 : decide (x12_1 < (l2.length : Int)) = false := decide_eq_false c4; clear c4; obtain rfl := Option.some.inj H
    go_wp2
    go_ret
    exact exB (mvB HB.out)

end Go.Proofs.YtdojgfkcpaeacaaDoor.Q
