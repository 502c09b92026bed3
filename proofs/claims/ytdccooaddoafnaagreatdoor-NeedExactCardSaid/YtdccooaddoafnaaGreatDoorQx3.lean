-- PRINTED by print.py (a twelfth state) out of the translation. Not trusted: Lean checks it.
import Derived.Test.YtdccooaddoafnaaGreatDoorQx0
import Derived.Test.YtdccooaddoafnaaGreatDoorQx1
import Derived.Test.YtdccooaddoafnaaGreatDoorQx2
namespace Go.Proofs.YtdccooaddoafnaaGreatDoor.Q
open Go.RowKit Go.Proofs.YtdccooaddoafnaaGreatDoorW.PrintWords Go.Proofs.YtdccooaddoafnaaGreatDoorW.PrintLast Go.Proofs.YtdccooaddoafnaaGreatDoorW.PrintMore
attribute [local go_sem] str_gtr str_geq str_leq max2_int min2_int max_two min_two max_three min_three max_four min_four
set_option linter.unusedVariables false
set_option maxHeartbeats 8000000
set_option maxRecDepth 1000000
set_option linter.unusedSimpArgs false

/-! ### need_holds: function 18 -/
def need_holds.f (k : Nat) (a0_0 : Int) (a0_1 : Int) (a0_2 : ByteArray) (a0_3 : Int) (a0_4 : Int) (l0_5 : List (S24)) (a1 : ByteArray) : Option (Bool) := if a0_0 = 7 then ((strings_HasPrefix.f a1 a0_2).bind fun t140 => (some t140)) else (if a0_0 = 8 then ((strings_HasSuffix.f a1 a0_2).bind fun t141 => (some t141)) else (if a0_0 = 9 then ((strings_Contains.f a1 a0_2).bind fun t142 => (some t142)) else (if a0_0 = 10 then ((like_Parse.f k a0_2 a0_3).bind fun bt143 => ((like_Match.f bt143.1 a1).bind fun t147 => (some t147))) else ((need_order.f k a0_0 a0_1 a0_2 a0_3 a0_4 l0_5 a1).bind fun t148 => ((some (([(t148 == 0), (t148 != 0), decide (t148 < 0), decide (t148 ≤ 0), decide (t148 > 0), decide (t148 ≥ 0)] : List Bool) : List Bool)).bind fun y149 => (if 0 ≤ (wrap64 (a0_0 - 1)) then (if (wrap64 (a0_0 - 1)) < (y149.length : Int) then (some (rdOf false y149 (wrap64 (a0_0 - 1)))) else (none)) else (none)))))))
theorem need_holds.mono : ∀ a0 a1 a2 a3 a4 a5 a6 k, LeO (need_holds.f k a0 a1 a2 a3 a4 a5 a6) (need_holds.f (k + 1) a0 a1 a2 a3 a4 a5 a6) := by
 intro a0 a1 a2 a3 a4 a5 a6 k
 unfold need_holds.f
 repeat' first
   | (with_reducible exact like_Parse.mono _ _ _)
   | (with_reducible exact need_order.mono _ _ _ _ _ _ _ _)
   | (with_reducible exact LeO.refl _)
   | (with_reducible exact LeO.none _)
   | (with_reducible refine LeO.ite ?_ ?_)
   | (with_reducible refine LeO.bind ?_ (fun _ => ?_))
   | exact like_Parse.mono _ _ _
   | exact need_order.mono _ _ _ _ _ _ _ _
   | exact LeO.none _
   | refine LeO.ite ?_ ?_
   | refine LeO.bind ?_ (fun _ => ?_)
theorem need_holds.calls (k : Nat) (a0_0 : Int) (a0_1 : Int) (a0_2 : ByteArray) (a0_3 : Int) (a0_4 : Int) (A0_5 : Option Addr) (c0_5 : Nat) (l0_5 : List (S24)) (a1 : ByteArray) (r : Bool) (w : World) (hr0_5 : Kd.C k24 w A0_5 l0_5.length l0_5) (hc0_5 : l0_5.length ≤ c0_5) (hT : Facts w) (h : need_holds.f k a0_0 a0_1 a0_2 a0_3 a0_4 l0_5 a1 = some r) :
  Calls Tryz.prog 18 #[.agg #[.int .i64 a0_0, .int .i64 a0_1, .string a0_2, .int .i64 a0_3, .int .i64 a0_4, .slice A0_5 l0_5.length c0_5], .string a1] w fun e w' => e = .returned (.bool r) ∧ Below w.heap.size w w' := by
 have hu24 := Tryz.underlying24; have HT := Aside0.mk hT; clear hT; have HR0_5 := Aside0.mk hr0_5; have HC0_5 := Aside0.mk hc0_5; clear hr0_5 hc0_5; have HB := Aside0.mk (Below.refl w.heap.size w)
 have H : (if a0_0 = 7 then ((strings_HasPrefix.f a1 a0_2).bind fun t140 => (some t140)) else (if a0_0 = 8 then ((strings_HasSuffix.f a1 a0_2).bind fun t141 => (some t141)) else (if a0_0 = 9 then ((strings_Contains.f a1 a0_2).bind fun t142 => (some t142)) else (if a0_0 = 10 then ((like_Parse.f k a0_2 a0_3).bind fun bt143 => ((like_Match.f bt143.1 a1).bind fun t147 => (some t147))) else ((need_order.f k a0_0 a0_1 a0_2 a0_3 a0_4 l0_5 a1).bind fun t148 => ((some (([(t148 == 0), (t148 != 0), decide (t148 < 0), decide (t148 ≤ 0), decide (t148 > 0), decide (t148 ≥ 0)] : List Bool) : List Bool)).bind fun y149 => (if 0 ≤ (wrap64 (a0_0 - 1)) then (if (wrap64 (a0_0 - 1)) < (y149.length : Int) then (some (rdOf false y149 (wrap64 (a0_0 - 1)))) else (none)) else (none)))))))) = some r := h; clear h; by_cases c3 : a0_0 = 7
 ·rw [if_pos c3] at H; have c3b0 : (a0_0 == 7) = true := beq_iff_eq.mpr c3; have c3b1 : (a0_0 != 7) = false := bne_eq_false_iff_eq.mpr c3; clear c3; replace H := Option.bind_eq_some_iff.mp H; obtain ⟨t140, A40, H⟩ := H; replace H : (some t140) = some r := H
  have A4 := Aside0.mk A40; clear A40; obtain rfl := Option.some.inj H
  go_enter Tryz.func18, Tryz.ntmps18
  go_wp2_with (first | ((with_reducible refine gate_dst (N := 2) rfl ?_); refine box_event ?hg (N := 2) ?hd (cs := #[.int .i64 a0_0, .int .i64 a0_1, .string a0_2, .int .i64 a0_3, .int .i64 a0_4, .slice A0_5 l0_5.length c0_5]) (t := 24) ?hr ?_; (case hd => rfl); (case hg => rfl); (case hr => first | (go_simp; done) | (go_simp; rfl) | (go_simp; simp (disch := omega) only [Go.u8_and63, Go.u8_and31, Go.u8_and15, Go.u8_and7, Go.u8_or128, Go.u8_or192, Go.u8_or224, Go.u8_or240, m64]; done)); intro gb139 hg w5 hbox hb; have n0_ := Aside0.mk (below_step (mvB HB.out) hb); have n1_ := Aside0.mk (hbox); have n2_ := Aside0.mk ((by rw [hg]; exact (below_size (mvB HB.out)) : w.heap.size ≤ gb139)); have n3_ := Aside0.mk ((by rw [hg]; exact (below_size (mvB HB.out)) : w.heap.size ≤ gb139)); clear HB; have HB := n0_; have BK139 := n1_; have GW139 := n2_; have GE139 := n3_; clear n0_ n1_ n2_ n3_; clear hb hbox hg; have hcz6_0 : w5.cell? ⟨gb139, 0, none⟩ = some (.int .i64 a0_0) := (blk_cell BK139.out 0).trans rfl; have hcz6_1 : w5.cell? ⟨gb139, 1, none⟩ = some (.int .i64 a0_1) := (blk_cell BK139.out 1).trans rfl; have hcz6_2 : w5.cell? ⟨gb139, 2, none⟩ = some (.string a0_2) := (blk_cell BK139.out 2).trans rfl; have hcz6_3 : w5.cell? ⟨gb139, 3, none⟩ = some (.int .i64 a0_3) := (blk_cell BK139.out 3).trans rfl; have hcz6_4 : w5.cell? ⟨gb139, 4, none⟩ = some (.int .i64 a0_4) := (blk_cell BK139.out 4).trans rfl; have hcz6_5 : w5.cell? ⟨gb139, 5, none⟩ = some (.slice A0_5 l0_5.length c0_5) := (blk_cell BK139.out 5).trans rfl; have hfz6_0 := blk_frozen BK139.out 0; have hfz6_1 := blk_frozen BK139.out 1; have hfz6_2 := blk_frozen BK139.out 2; have hfz6_3 := blk_frozen BK139.out 3; have hfz6_4 := blk_frozen BK139.out 4; have hfz6_5 := blk_frozen BK139.out 5) | ((with_reducible refine gate_callee (f := 33) rfl ?_); refine goesL_ (some 15) rfl rfl Tryz.func33 (by kernel_rfl) rfl #[.string a1, .string a0_2] rfl (by (try simp only [List.map_toArray, List.map_cons, List.map_nil]); first | done | rfl | (simp only [List.length_drop, List.length_take]; rfl)) ?_; (with_reducible refine (strings_HasPrefix.calls a1 a0_2 t140 _ A4.out).mono ?_); rintro e w' ⟨rfl, ⟨nd, rfl⟩⟩; refine ⟨_, rfl, ?_⟩))
  go_ret
  exact exB (mvG HB.out GE139.out)
 ·rw [if_neg c3] at H; have c3b0 : (a0_0 == 7) = false := beq_eq_false_iff_ne.mpr c3; have c3b1 : (a0_0 != 7) = true := bne_iff_ne.mpr c3; by_cases c7 : a0_0 = 8
  ·rw [if_pos c7] at H; have c7b0 : (a0_0 == 8) = true := beq_iff_eq.mpr c7; have c7b1 : (a0_0 != 8) = false := bne_eq_false_iff_eq.mpr c7; clear c7; replace H := Option.bind_eq_some_iff.mp H; obtain ⟨t141, A80, H⟩ := H; replace H : (some t141) = some r := H
   have A8 := Aside0.mk A80; clear A80; obtain rfl := Option.some.inj H
   go_enter Tryz.func18, Tryz.ntmps18
   go_wp2_with (first | ((with_reducible refine gate_dst (N := 2) rfl ?_); refine box_event ?hg (N := 2) ?hd (cs := #[.int .i64 a0_0, .int .i64 a0_1, .string a0_2, .int .i64 a0_3, .int .i64 a0_4, .slice A0_5 l0_5.length c0_5]) (t := 24) ?hr ?_; (case hd => rfl); (case hg => rfl); (case hr => first | (go_simp; done) | (go_simp; rfl) | (go_simp; simp (disch := omega) only [Go.u8_and63, Go.u8_and31, Go.u8_and15, Go.u8_and7, Go.u8_or128, Go.u8_or192, Go.u8_or224, Go.u8_or240, m64]; done)); intro gb139 hg w9 hbox hb; have n0_ := Aside0.mk (below_step (mvB HB.out) hb); have n1_ := Aside0.mk (hbox); have n2_ := Aside0.mk ((by rw [hg]; exact (below_size (mvB HB.out)) : w.heap.size ≤ gb139)); have n3_ := Aside0.mk ((by rw [hg]; exact (below_size (mvB HB.out)) : w.heap.size ≤ gb139)); clear HB; have HB := n0_; have BK139 := n1_; have GW139 := n2_; have GE139 := n3_; clear n0_ n1_ n2_ n3_; clear hb hbox hg; have hcz10_0 : w9.cell? ⟨gb139, 0, none⟩ = some (.int .i64 a0_0) := (blk_cell BK139.out 0).trans rfl; have hcz10_1 : w9.cell? ⟨gb139, 1, none⟩ = some (.int .i64 a0_1) := (blk_cell BK139.out 1).trans rfl; have hcz10_2 : w9.cell? ⟨gb139, 2, none⟩ = some (.string a0_2) := (blk_cell BK139.out 2).trans rfl; have hcz10_3 : w9.cell? ⟨gb139, 3, none⟩ = some (.int .i64 a0_3) := (blk_cell BK139.out 3).trans rfl; have hcz10_4 : w9.cell? ⟨gb139, 4, none⟩ = some (.int .i64 a0_4) := (blk_cell BK139.out 4).trans rfl; have hcz10_5 : w9.cell? ⟨gb139, 5, none⟩ = some (.slice A0_5 l0_5.length c0_5) := (blk_cell BK139.out 5).trans rfl; have hfz10_0 := blk_frozen BK139.out 0; have hfz10_1 := blk_frozen BK139.out 1; have hfz10_2 := blk_frozen BK139.out 2; have hfz10_3 := blk_frozen BK139.out 3; have hfz10_4 := blk_frozen BK139.out 4; have hfz10_5 := blk_frozen BK139.out 5) | ((with_reducible refine gate_callee (f := 34) rfl ?_); refine goesL_ (some 21) rfl rfl Tryz.func34 (by kernel_rfl) rfl #[.string a1, .string a0_2] rfl (by (try simp only [List.map_toArray, List.map_cons, List.map_nil]); first | done | rfl | (simp only [List.length_drop, List.length_take]; rfl)) ?_; (with_reducible refine (strings_HasSuffix.calls a1 a0_2 t141 _ A8.out).mono ?_); rintro e w' ⟨rfl, ⟨nd, rfl⟩⟩; refine ⟨_, rfl, ?_⟩))
   go_ret
   exact exB (mvG HB.out GE139.out)
  ·rw [if_neg c7] at H; have c7b0 : (a0_0 == 8) = false := beq_eq_false_iff_ne.mpr c7; have c7b1 : (a0_0 != 8) = true := bne_iff_ne.mpr c7; by_cases c11 : a0_0 = 9
   ·rw [if_pos c11] at H; have c11b0 : (a0_0 == 9) = true := beq_iff_eq.mpr c11; have c11b1 : (a0_0 != 9) = false := bne_eq_false_iff_eq.mpr c11; clear c11; replace H := Option.bind_eq_some_iff.mp H; obtain ⟨t142, A120, H⟩ := H; replace H : (some t142) = some r := H
    have A12 := Aside0.mk A120; clear A120; obtain rfl := Option.some.inj H
    go_enter Tryz.func18, Tryz.ntmps18
    go_wp2_with (first | ((with_reducible refine gate_dst (N := 2) rfl ?_); refine box_event ?hg (N := 2) ?hd (cs := #[.int .i64 a0_0, .int .i64 a0_1, .string a0_2, .int .i64 a0_3, .int .i64 a0_4, .slice A0_5 l0_5.length c0_5]) (t := 24) ?hr ?_; (case hd => rfl); (case hg => rfl); (case hr => first | (go_simp; done) | (go_simp; rfl) | (go_simp; simp (disch := omega) only [Go.u8_and63, Go.u8_and31, Go.u8_and15, Go.u8_and7, Go.u8_or128, Go.u8_or192, Go.u8_or224, Go.u8_or240, m64]; done)); intro gb139 hg w13 hbox hb; have n0_ := Aside0.mk (below_step (mvB HB.out) hb); have n1_ := Aside0.mk (hbox); have n2_ := Aside0.mk ((by rw [hg]; exact (below_size (mvB HB.out)) : w.heap.size ≤ gb139)); have n3_ := Aside0.mk ((by rw [hg]; exact (below_size (mvB HB.out)) : w.heap.size ≤ gb139)); clear HB; have HB := n0_; have BK139 := n1_; have GW139 := n2_; have GE139 := n3_; clear n0_ n1_ n2_ n3_; clear hb hbox hg; have hcz14_0 : w13.cell? ⟨gb139, 0, none⟩ = some (.int .i64 a0_0) := (blk_cell BK139.out 0).trans rfl; have hcz14_1 : w13.cell? ⟨gb139, 1, none⟩ = some (.int .i64 a0_1) := (blk_cell BK139.out 1).trans rfl; have hcz14_2 : w13.cell? ⟨gb139, 2, none⟩ = some (.string a0_2) := (blk_cell BK139.out 2).trans rfl; have hcz14_3 : w13.cell? ⟨gb139, 3, none⟩ = some (.int .i64 a0_3) := (blk_cell BK139.out 3).trans rfl; have hcz14_4 : w13.cell? ⟨gb139, 4, none⟩ = some (.int .i64 a0_4) := (blk_cell BK139.out 4).trans rfl; have hcz14_5 : w13.cell? ⟨gb139, 5, none⟩ = some (.slice A0_5 l0_5.length c0_5) := (blk_cell BK139.out 5).trans rfl; have hfz14_0 := blk_frozen BK139.out 0; have hfz14_1 := blk_frozen BK139.out 1; have hfz14_2 := blk_frozen BK139.out 2; have hfz14_3 := blk_frozen BK139.out 3; have hfz14_4 := blk_frozen BK139.out 4; have hfz14_5 := blk_frozen BK139.out 5) | ((with_reducible refine gate_callee (f := 35) rfl ?_); refine goesL_ (some 27) rfl rfl Tryz.func35 (by kernel_rfl) rfl #[.string a1, .string a0_2] rfl (by (try simp only [List.map_toArray, List.map_cons, List.map_nil]); first | done | rfl | (simp only [List.length_drop, List.length_take]; rfl)) ?_; (with_reducible refine (strings_Contains.calls a1 a0_2 t142 _ ?side1 A12.out).mono ?_); (case side1 => first | exact HT.out | exact Facts.below HT.out (mvG HB.out GE139.out) | exact Facts.below HT.out HB.out | (repeat (first | exact HT.out | refine Facts.drewN ?_ _ | refine Facts.drew ?_ | refine Facts.alloc ?_ _))); rintro e w' ⟨rfl, ⟨nd, rfl⟩⟩; refine ⟨_, rfl, ?_⟩))
    go_ret
    exact exB (mvG HB.out GE139.out)
   ·rw [if_neg c11] at H; have c11b0 : (a0_0 == 9) = false := beq_eq_false_iff_ne.mpr c11; have c11b1 : (a0_0 != 9) = true := bne_iff_ne.mpr c11; by_cases c15 : a0_0 = 10
    ·rw [if_pos c15] at H; have c15b0 : (a0_0 == 10) = true := beq_iff_eq.mpr c15; have c15b1 : (a0_0 != 10) = false := bne_eq_false_iff_eq.mpr c15; clear c15; replace H := Option.bind_eq_some_iff.mp H; obtain ⟨⟨t143, t144⟩, A160, H⟩ := H; replace H : ((like_Match.f t143 a1).bind fun t147 => (some t147)) = some r := H
     have A16 := Aside0.mk A160; clear A160; replace H := Option.bind_eq_some_iff.mp H; obtain ⟨t147, A170, H⟩ := H; replace H : (some t147) = some r := H
     have A17 := Aside0.mk A170; clear A170; obtain rfl := Option.some.inj H
     go_enter Tryz.func18, Tryz.ntmps18
     go_wp2_with (first | ((with_reducible refine gate_dst (N := 2) rfl ?_); refine box_event ?hg (N := 2) ?hd (cs := #[.int .i64 a0_0, .int .i64 a0_1, .string a0_2, .int .i64 a0_3, .int .i64 a0_4, .slice A0_5 l0_5.length c0_5]) (t := 24) ?hr ?_; (case hd => rfl); (case hg => rfl); (case hr => first | (go_simp; done) | (go_simp; rfl) | (go_simp; simp (disch := omega) only [Go.u8_and63, Go.u8_and31, Go.u8_and15, Go.u8_and7, Go.u8_or128, Go.u8_or192, Go.u8_or224, Go.u8_or240, m64]; done)); intro gb139 hg w18 hbox hb; have n0_ := Aside0.mk (below_step (mvB HB.out) hb); have n1_ := Aside0.mk (hbox); have n2_ := Aside0.mk ((by rw [hg]; exact (below_size (mvB HB.out)) : w.heap.size ≤ gb139)); have n3_ := Aside0.mk ((by rw [hg]; exact (below_size (mvB HB.out)) : w.heap.size ≤ gb139)); clear HB; have HB := n0_; have BK139 := n1_; have GW139 := n2_; have GE139 := n3_; clear n0_ n1_ n2_ n3_; clear hb hbox hg; have hcz19_0 : w18.cell? ⟨gb139, 0, none⟩ = some (.int .i64 a0_0) := (blk_cell BK139.out 0).trans rfl; have hcz19_1 : w18.cell? ⟨gb139, 1, none⟩ = some (.int .i64 a0_1) := (blk_cell BK139.out 1).trans rfl; have hcz19_2 : w18.cell? ⟨gb139, 2, none⟩ = some (.string a0_2) := (blk_cell BK139.out 2).trans rfl; have hcz19_3 : w18.cell? ⟨gb139, 3, none⟩ = some (.int .i64 a0_3) := (blk_cell BK139.out 3).trans rfl; have hcz19_4 : w18.cell? ⟨gb139, 4, none⟩ = some (.int .i64 a0_4) := (blk_cell BK139.out 4).trans rfl; have hcz19_5 : w18.cell? ⟨gb139, 5, none⟩ = some (.slice A0_5 l0_5.length c0_5) := (blk_cell BK139.out 5).trans rfl; have hfz19_0 := blk_frozen BK139.out 0; have hfz19_1 := blk_frozen BK139.out 1; have hfz19_2 := blk_frozen BK139.out 2; have hfz19_3 := blk_frozen BK139.out 3; have hfz19_4 := blk_frozen BK139.out 4; have hfz19_5 := blk_frozen BK139.out 5) | ((with_reducible refine gate_callee (f := 36) rfl ?_); refine goesL_ (some 35) rfl rfl Tryz.func36 (by kernel_rfl) rfl #[.string a0_2, .int .i64 a0_3] rfl (by (try simp only [List.map_toArray, List.map_cons, List.map_nil]); first | done | rfl | (simp only [List.length_drop, List.length_take]; rfl)) ?_; (with_reducible refine (like_Parse.calls k a0_2 a0_3 t143 t144 _ A16.out).mono ?_); rintro e w20 ⟨v145, rfl, ho0, hb⟩; refine ⟨_, rfl, ?_⟩; have n0_ := Aside0.mk (Kd.R_lower ho0 (below_size (mvG HB.out GE139.out))); have n1_ := Aside0.mk (blk_below (g := gb139) (o := .cells #[.int .i64 a0_0, .int .i64 a0_1, .string a0_2, .int .i64 a0_3, .int .i64 a0_4, .slice A0_5 l0_5.length c0_5] 24 (0, 0)) (mvK BK139.out) hb); have n2_ := Aside0.mk (below_step (mvG HB.out GE139.out) hb); clear BK139; clear HB; have HO146 := n0_; have BK139 := n1_; have HB := n2_; clear n0_ n1_ n2_; (try clear hb); (try clear hb2); (try clear hk); (try clear hi); (try clear ho0); obtain ⟨Ao21, co21, eo21⟩ := Kd.R_slice HO146.out; subst eo21) | ((with_reducible refine gate_callee (f := 37) rfl ?_); refine goesL_ (some 40) rfl rfl Tryz.func37 (by kernel_rfl) rfl #[.slice Ao21 t143.length co21, .string a1] rfl (by (try simp only [List.map_toArray, List.map_cons, List.map_nil]); first | done | rfl | (simp only [List.length_drop, List.length_take]; rfl)) ?_; (with_reducible refine (like_Match.calls _ _ t143 a1 t147 _ ?side1 ?side2 A17.out).mono ?_); (case side1 => repeat (first | exact (Kd.R_reads' HO146.out).2.2 | (with_reducible refine Kd.C_alloc ?_ _) | (with_reducible refine Kd.C_drewN ?_ _) | (with_reducible refine Kd.C_drew ?_))); (case side2 => exact (Kd.R_reads' HO146.out).2.1); rintro e w' ⟨rfl, ⟨nd, rfl⟩⟩; refine ⟨_, rfl, ?_⟩))
     go_ret
     exact exB (mvG HB.out GE139.out)
    ·rw [if_neg c15] at H; have c15b0 : (a0_0 == 10) = false := beq_eq_false_iff_ne.mpr c15; have c15b1 : (a0_0 != 10) = true := bne_iff_ne.mpr c15; replace H := Option.bind_eq_some_iff.mp H; obtain ⟨t148, A220, H⟩ := H; replace H : ((some (([(t148 == 0), (t148 != 0), decide (t148 < 0), decide (t148 ≤ 0), decide (t148 > 0), decide (t148 ≥ 0)] : List Bool) : List Bool)).bind fun y149 => (if 0 ≤ (wrap64 (a0_0 - 1)) then (if (wrap64 (a0_0 - 1)) < (y149.length : Int) then (some (rdOf false y149 (wrap64 (a0_0 - 1)))) else (none)) else (none))) = some r := H
     have A22 := Aside0.mk A220; clear A220; obtain ⟨y149, hy149⟩ : ∃ y_ : List Bool, y_ = (([(t148 == 0), (t148 != 0), decide (t148 < 0), decide (t148 ≤ 0), decide (t148 > 0), decide (t148 ≥ 0)] : List Bool)) := ⟨_, rfl⟩
     replace H : (if 0 ≤ (wrap64 (a0_0 - 1)) then (if (wrap64 (a0_0 - 1)) < (y149.length : Int) then (some (rdOf false y149 (wrap64 (a0_0 - 1)))) else (none)) else (none)) = some r := by first | (rw [hy149]; with_reducible exact H) | (have H2_ := (Option.bind_some _ _).symm.trans H; rw [hy149]; with_reducible exact H2_) | (have H2_ := (Option.bind_some _ _).symm.trans H; with_reducible exact H2_) | with_reducible exact H | (rw [hy149]; exact H) | exact H
     have Ny149 := Aside0.mk hy149; clear hy149; obtain ⟨ji23, hji23⟩ : ∃ j_ : Int, (wrap64 (a0_0 - 1)) = j_ := ⟨_, rfl⟩
     replace H : (if 0 ≤ (ji23) then (if (ji23) < (y149.length : Int) then (some (rdOf false y149 (ji23))) else (none)) else (none)) = some r := by first | (rw [hji23] at H; exact H) | (simp only [hji23] at H ⊢; exact H)
     (try rw [hji23] at A22)
     have hji23w : (IntKind.i64.wrap (a0_0 - 1)) = ji23 := (i64_w _).trans hji23
     by_cases c24 : 0 ≤ (ji23)
     case neg => rw [if_neg c24] at H; exact absurd H (by simp)
     rw [if_pos c24] at H; have c24b0 : decide (0 ≤ (ji23)) = true := decide_eq_true c24; clear c24; by_cases c25 : (ji23) < (y149.length : Int)
     case neg => rw [if_neg c25] at H; exact absurd H (by simp)
     rw [if_pos c25] at H; have c25b0 : decide ((ji23) < (y149.length : Int)) = true := decide_eq_true c25; clear c25; obtain rfl := Option.some.inj H
     go_enter Tryz.func18, Tryz.ntmps18
     go_wp2_with (first | ((with_reducible refine gate_dst (N := 2) rfl ?_); refine box_event ?hg (N := 2) ?hd (cs := #[.int .i64 a0_0, .int .i64 a0_1, .string a0_2, .int .i64 a0_3, .int .i64 a0_4, .slice A0_5 l0_5.length c0_5]) (t := 24) ?hr ?_; (case hd => rfl); (case hg => rfl); (case hr => first | (go_simp; done) | (go_simp; rfl) | (go_simp; simp (disch := omega) only [Go.u8_and63, Go.u8_and31, Go.u8_and15, Go.u8_and7, Go.u8_or128, Go.u8_or192, Go.u8_or224, Go.u8_or240, m64]; done)); intro gb139 hg w26 hbox hb; have n0_ := Aside0.mk (below_step (mvB HB.out) hb); have n1_ := Aside0.mk (hbox); have n2_ := Aside0.mk ((by rw [hg]; exact (below_size (mvB HB.out)) : w.heap.size ≤ gb139)); have n3_ := Aside0.mk ((by rw [hg]; exact (below_size (mvB HB.out)) : w.heap.size ≤ gb139)); clear HB; have HB := n0_; have BK139 := n1_; have GW139 := n2_; have GE139 := n3_; clear n0_ n1_ n2_ n3_; clear hb hbox hg; have hcz27_0 : w26.cell? ⟨gb139, 0, none⟩ = some (.int .i64 a0_0) := (blk_cell BK139.out 0).trans rfl; have hcz27_1 : w26.cell? ⟨gb139, 1, none⟩ = some (.int .i64 a0_1) := (blk_cell BK139.out 1).trans rfl; have hcz27_2 : w26.cell? ⟨gb139, 2, none⟩ = some (.string a0_2) := (blk_cell BK139.out 2).trans rfl; have hcz27_3 : w26.cell? ⟨gb139, 3, none⟩ = some (.int .i64 a0_3) := (blk_cell BK139.out 3).trans rfl; have hcz27_4 : w26.cell? ⟨gb139, 4, none⟩ = some (.int .i64 a0_4) := (blk_cell BK139.out 4).trans rfl; have hcz27_5 : w26.cell? ⟨gb139, 5, none⟩ = some (.slice A0_5 l0_5.length c0_5) := (blk_cell BK139.out 5).trans rfl; have hfz27_0 := blk_frozen BK139.out 0; have hfz27_1 := blk_frozen BK139.out 1; have hfz27_2 := blk_frozen BK139.out 2; have hfz27_3 := blk_frozen BK139.out 3; have hfz27_4 := blk_frozen BK139.out 4; have hfz27_5 := blk_frozen BK139.out 5) | ((with_reducible refine gate_callee (f := 38) rfl ?_); refine goesL_ (some 43) rfl rfl Tryz.func38 (by kernel_rfl) rfl #[.agg #[.int .i64 a0_0, .int .i64 a0_1, .string a0_2, .int .i64 a0_3, .int .i64 a0_4, .slice A0_5 l0_5.length c0_5], .string a1] rfl (by (try simp only [List.map_toArray, List.map_cons, List.map_nil]); first | done | rfl | (simp only [List.length_drop, List.length_take]; rfl)) ?_; (with_reducible refine (need_order.calls k a0_0 a0_1 a0_2 a0_3 a0_4 _ _ l0_5 a1 t148 _ ?side1 ?side2 ?side3 A22.out).mono ?_); (case side1 => repeat (first | exact (Kd.C_below HR0_5.out HB.out) | (with_reducible refine Kd.C_alloc ?_ _) | (with_reducible refine Kd.C_drewN ?_ _) | (with_reducible refine Kd.C_drew ?_))); (case side2 => exact HC0_5.out); (case side3 => first | exact HT.out | exact Facts.below HT.out (mvG HB.out GE139.out) | exact Facts.below HT.out HB.out | (repeat (first | exact HT.out | refine Facts.drewN ?_ _ | refine Facts.drew ?_ | refine Facts.alloc ?_ _))); rintro e w28 ⟨rfl, hb⟩; refine ⟨_, rfl, ?_⟩; have n0_ := Aside0.mk (blk_below (g := gb139) (o := .cells #[.int .i64 a0_0, .int .i64 a0_1, .string a0_2, .int .i64 a0_3, .int .i64 a0_4, .slice A0_5 l0_5.length c0_5] 24 (0, 0)) (mvK BK139.out) hb); have n1_ := Aside0.mk (below_step (mvG HB.out GE139.out) hb); clear BK139; clear HB; have BK139 := n0_; have HB := n1_; clear n0_ n1_; (try clear hb); (try clear hb2); (try clear hk); (try clear hi)) | ((with_reducible refine gate_dst (N := 56) rfl ?_); refine Kd.R_lit Kd.bool _ 4 ?hg (N := 56) ?hd (xs := ([(t148 == 0), (t148 != 0), decide (t148 < 0), decide (t148 ≤ 0), decide (t148 > 0), decide (t148 ≥ 0)] : List Bool)) (inner := [.bool (t148 == 0), .bool (t148 != 0), .bool (decide (t148 < 0)), .bool (decide (t148 ≤ 0)), .bool (decide (t148 > 0)), .bool (decide (t148 ≥ 0))]) (ok := fun _ => True) (okp := fun _ => True) ?hr ?hp (fun _ hk => hk) trivial (Below.refl _ _) (Nat.le_refl _) (by simp) ?_; (case hd => rfl); (case hg => rfl); (case hr => first | (go_simp; done) | (go_simp; rfl) | (go_simp; simp (disch := omega) only [Go.u8_and63, Go.u8_and31, Go.u8_and15, Go.u8_and7, Go.u8_or128, Go.u8_or192, Go.u8_or224, Go.u8_or240, m64]; done)); (case hp => exact (Reps.one (show Kd.M Kd.bool _ _ _ (t148 == 0) [.bool (t148 == 0)] from rfl) (Reps.one (show Kd.M Kd.bool _ _ _ (t148 != 0) [.bool (t148 != 0)] from rfl) (Reps.one (show Kd.M Kd.bool _ _ _ (decide (t148 < 0)) [.bool (decide (t148 < 0))] from rfl) (Reps.one (show Kd.M Kd.bool _ _ _ (decide (t148 ≤ 0)) [.bool (decide (t148 ≤ 0))] from rfl) (Reps.one (show Kd.M Kd.bool _ _ _ (decide (t148 > 0)) [.bool (decide (t148 > 0))] from rfl) (Reps.one (show Kd.M Kd.bool _ _ _ (decide (t148 ≥ 0)) [.bool (decide (t148 ≥ 0))] from rfl) (Reps.none _ _)))))))); intro v150 w29 ho30 hb hg_ hnew_; clear hg_ hnew_; (first | rw [← Ny149.out] at ho30 | (simp only [Int.reduceToNat] at ho30; rw [← Ny149.out] at ho30)); have n0_ := Aside0.mk (Kd.R_lower ho30 (below_size (mvG HB.out GE139.out))); have n1_ := Aside0.mk (blk_below (g := gb139) (o := .cells #[.int .i64 a0_0, .int .i64 a0_1, .string a0_2, .int .i64 a0_3, .int .i64 a0_4, .slice A0_5 l0_5.length c0_5] 24 (0, 0)) (mvK BK139.out) hb); have n2_ := Aside0.mk (below_step (mvG HB.out GE139.out) hb); clear BK139; clear HB; have HO151 := n0_; have BK139 := n1_; have HB := n2_; clear n0_ n1_ n2_; clear hb ho30; have hcz31_0 : w29.cell? ⟨gb139, 0, none⟩ = some (.int .i64 a0_0) := (blk_cell BK139.out 0).trans rfl; have hcz31_1 : w29.cell? ⟨gb139, 1, none⟩ = some (.int .i64 a0_1) := (blk_cell BK139.out 1).trans rfl; have hcz31_2 : w29.cell? ⟨gb139, 2, none⟩ = some (.string a0_2) := (blk_cell BK139.out 2).trans rfl; have hcz31_3 : w29.cell? ⟨gb139, 3, none⟩ = some (.int .i64 a0_3) := (blk_cell BK139.out 3).trans rfl; have hcz31_4 : w29.cell? ⟨gb139, 4, none⟩ = some (.int .i64 a0_4) := (blk_cell BK139.out 4).trans rfl; have hcz31_5 : w29.cell? ⟨gb139, 5, none⟩ = some (.slice A0_5 l0_5.length c0_5) := (blk_cell BK139.out 5).trans rfl; have hfz31_0 := blk_frozen BK139.out 0; have hfz31_1 := blk_frozen BK139.out 1; have hfz31_2 := blk_frozen BK139.out 2; have hfz31_3 := blk_frozen BK139.out 3; have hfz31_4 := blk_frozen BK139.out 4; have hfz31_5 := blk_frozen BK139.out 5; obtain ⟨Ao32, co32, eo32⟩ := Kd.R_slice HO151.out; subst eo32; have p152 : 0 ≤ ((ji23) : Int) := dtA; have q152 : (ji23) < (y149.length : Int) := dtA; obtain ⟨ad152, e152, hx152_0⟩ := Kd.at_bool (Kd.R_reads' HO151.out).2.2 (ji23) p152 q152; cases e152; replace p152 := eq_true p152; replace q152 := eq_true q152))
     go_ret
     exact ⟨by first | rfl | (simp [errW_none, errW_some] <;> rfl) | (simp only [← hji23]; first | rfl | (simp [errW_none, errW_some] <;> rfl)) | (simp [*, errW_none, errW_some] <;> rfl) | exact congrArg (fun b_ => Ending.returned (.bool b_)) (decide_eq_decide.2 (by unfold wrap64; omega)), mvG HB.out GE139.out⟩

/-! ### need_Says: function 9 -/
-- told by hand
/-- The kids' answers: the one that settles it, Unknown, or the other one. -/
def bothL (g : S24 → Option Int) (settles : Int) : List S24 → Int → Option Int
 | [], out => some out
 | q :: qs, out => (g q).bind fun x => if x = settles then some settles else if x = 2 then bothL g settles qs 2 else bothL g settles qs out
def holdsP (k : Nat) (p : S24) (s : ByteArray) : Option Bool := need_holds.f k p.f0 p.f1 p.f2 p.f3 p.f4 p.f5 s
def saysLeaf (k : Nat) (p : S24) (v : S38) : Option Int := if p.f0 = 11 then need_yes.f v.f0 else if v.f0 = true then some 2 else (holdsP k p v.f1).bind fun b => need_yes.f b
def saysP : Nat → S24 → List S38 → Option Int
 | 0, _, _ => none
 | k + 1, p, row => if p.f0 = 12 then bothL (fun q => saysP k q row) 0 p.f5 1 else if p.f0 = 13 then bothL (fun q => saysP k q row) 1 p.f5 0 else
  if p.f0 = 14 then (if 0 < p.f5.length then (saysP k (p.f5.getD 0 z24) row).bind fun x => if x = 2 then some 2 else some (wrap64 (1 - x)) else none) else
  if 0 ≤ p.f1 then if p.f1 < (row.length : Int) then saysLeaf k p (rd_T38 row p.f1) else none else none
def need_Says.f (k : Nat) (a0_0 : Int) (a0_1 : Int) (a0_2 : ByteArray) (a0_3 : Int) (a0_4 : Int) (l0_5 : List S24) (l1 : List S38) : Option Int := saysP k ⟨a0_0, a0_1, a0_2, a0_3, a0_4, l0_5⟩ l1
/-- What a step below tells of the function itself. -/
def need_Says.IH (k : Nat) : Prop := ∀ (p : S24) (cs : List Value) (A1 : Option Addr) (c1 : Nat) (row : List S38) (r : Int) (w : World), k24.K w p cs → Kd.C k38 w A1 row.length row → row.length ≤ c1 → Facts w → saysP k p row = some r →
  Calls Tryz.prog 9 #[.agg cs.toArray, .slice A1 row.length c1] w fun e w' => e = .returned (.int .i64 r) ∧ Below w.heap.size w w'
/-- The kids. -/
theorem need_Says.both (k : Nat) (ih : need_Says.IH k) (A0 : Option Addr) (c0 : Nat) (l0 : List S24) (A1 : Option Addr) (c1 : Nat) (row : List S38) (settles : Int) (r : Int) (w : World) (hr : Kd.C k24 w A0 l0.length l0) (hrow : Kd.C k38 w A1 row.length row) (hc1 : row.length ≤ c1) (hT : Facts w) (hs0 : 0 ≤ settles) (hs1 : settles ≤ 1) (h : bothL (fun q => saysP k q row) settles l0 (1 - settles) = some r) :
  Calls Tryz.prog 16 #[.slice A0 l0.length c0, .slice A1 row.length c1, .int .i64 settles] w fun e w' => e = .returned (.int .i64 r) ∧ Below w.heap.size w w' := by
 have hu := Tryz.underlying24; have hn : l0.length ≤ 9223372036854775807 := hr.2.1; have HR := Aside0.mk hr; have HN := Aside0.mk hn; have HH := Aside0.mk h; have IH := Aside0.mk (fun (p : S24) (cs : List Value) (r : Int) (W : World) (hb : Below w.heap.size w W) (hK : k24.K W p cs) (hp : saysP k p row = some r) => ih p cs A1 c1 row r W hK (Kd.C_below hrow hb) hc1 (Facts.below hT hb) hp)
 have HAGG := Aside0.mk (show ∀ W, (isAgg 24).run Tryz.prog W = .ok true W from fun W => by first | exact Tryz.isAgg24 | exact Tryz.isAgg24 W | go_simp)
 have HSZ := Aside0.mk (show ∀ W, (sizeOf 24).run Tryz.prog W = .ok 6 W from fun W => by first | exact Tryz.sizeOf24 | exact Tryz.sizeOf24 W | go_simp)
 clear hr hn h ih hrow hc1 hT; go_enter Tryz.func16, Tryz.ntmps16
 go_wp2
 go_loopg [7, 15] l0.length (fun gg s7 s15 wr => ∃ (i : Nat) (out : Int), s7 = .int .i64 out ∧ s15 = .int .i64 i ∧ i ≤ l0.length ∧ l0.length - i ≤ gg ∧ Aside0 (Below w.heap.size w wr) ∧ Aside0 (bothL (fun q => saysP k q row) settles (l0.drop i) out = some r))
 case atStart => exact ⟨0, 1 - settles, by first | rfl | go_num | (congr 1; unfold wrap64; omega), rfl, Nat.zero_le _, by omega, ⟨Below.refl _ w⟩, HH⟩
 case round =>
  clear HH; obtain ⟨i, out, rfl, rfl, hi, hg, BW, HF⟩ := hrel; have hn := HN.out; by_cases hlt : i < l0.length
  ·have hltz : (i : Int) < (l0.length : Int) := by omega
   have hi0 : (0 : Int) ≤ (i : Int) := by omega
   have hks := HF.out; rw [drop_getE z24 l0 i hlt] at hks
   simp only [bothL] at hks
   obtain ⟨x, hx, hks⟩ := Option.bind_eq_some_iff.1 hks
   obtain ⟨ad, c, e0, hcl, hKu, hcell⟩ := Kd.C_elem HR.out z24 i hlt
   replace hcell : ∀ j v, c[j]? = some v → w.cell? ((ad.add (i * 6)).add j) = some v := hcell
   replace hcl : c.length = 6 := hcl
   subst e0; have HCALL := Aside0.mk (fun W (hb : Below w.heap.size w W) => IH.out (l0.getD i z24) c x W hb (k24.K_below hb hKu) hx)
   have HCLN := Aside0.mk hcl; have HON := Aside0.mk (k24.K_one hKu)
   have HCELL := Aside0.mk (show ∀ j v, c[j]? = some v → wr.cell? ((ad.add (i * 6)).add j) = some v from fun j v hj => (BW.out.cell (World.block_lt_of_cell? w _ (hcell j v hj))).trans (hcell j v hj))
   clear hKu hx HF hcl hcell hn; by_cases q1 : x = settles
   ·rw [if_pos q1] at hks; obtain rfl := Option.some.inj hks
    have q1b : (x == settles) = true := beq_iff_eq.mpr q1; clear hks q1
    go_wp2_with (first
     | ((with_reducible refine gate_dst (N := 18) rfl ?_); refine load_all rfl rfl (cs := c) rfl HAGG.out (fun W => by rw [HCLN.out]; exact HSZ.out W) HCELL.out ?_)
     | ((with_reducible refine gate_store (t := 24) (p := 9) rfl ?_); refine store_all (g := wr.heap.size) (cs := c.toArray) (t' := 24) rfl rfl rfl rfl rfl (fun W => by rw [List.size_toArray, HCLN.out]; exact HSZ.out W) (heap_alloc_new wr _) (by rw [List.size_toArray, HCLN.out]; rfl) (fun u hu => HON.out u (by simpa using hu)) ?_; intro w3 hbx hoth hs3 hos htp hou; have B3 := Aside0.mk (show Below wr.heap.size wr w3 from ⟨by rw [hos]; rfl, by rw [htp]; rfl, by rw [hou]; rfl, by rw [hs3]; simp, fun k hk => by rw [hoth k (Nat.ne_of_lt hk)]; exact Below.heap_alloc wr _ k hk⟩); have BX3 := Aside0.mk hbx; clear hbx hoth hs3 hos htp hou)
     | ((with_reducible refine gate_dst (N := 19) rfl ?_); refine load_all rfl rfl (cs := c) rfl HAGG.out (fun W => by rw [HCLN.out]; exact HSZ.out W) (blk_cells BX3.out) ?_)
     | (go_at_call 9; refine (HCALL.out _ (below_step BW.out B3.out)).mono ?_; rintro e w4 ⟨rfl, hb4⟩; have BW4 := Aside0.mk (below_step (below_step BW.out B3.out) hb4); clear hb4))
    go_ret
    exact ⟨rfl, BW4.out⟩
   rw [if_neg q1] at hks; have q1b : (x == settles) = false := beq_eq_false_iff_ne.mpr q1; clear q1; by_cases q2 : x = 2
   ·rw [if_pos q2] at hks; subst q2; have HF := Aside0.mk hks; clear hks
    go_wp2_with (first
     | ((with_reducible refine gate_dst (N := 18) rfl ?_); refine load_all rfl rfl (cs := c) rfl HAGG.out (fun W => by rw [HCLN.out]; exact HSZ.out W) HCELL.out ?_)
     | ((with_reducible refine gate_store (t := 24) (p := 9) rfl ?_); refine store_all (g := wr.heap.size) (cs := c.toArray) (t' := 24) rfl rfl rfl rfl rfl (fun W => by rw [List.size_toArray, HCLN.out]; exact HSZ.out W) (heap_alloc_new wr _) (by rw [List.size_toArray, HCLN.out]; rfl) (fun u hu => HON.out u (by simpa using hu)) ?_; intro w3 hbx hoth hs3 hos htp hou; have B3 := Aside0.mk (show Below wr.heap.size wr w3 from ⟨by rw [hos]; rfl, by rw [htp]; rfl, by rw [hou]; rfl, by rw [hs3]; simp, fun k hk => by rw [hoth k (Nat.ne_of_lt hk)]; exact Below.heap_alloc wr _ k hk⟩); have BX3 := Aside0.mk hbx; clear hbx hoth hs3 hos htp hou)
     | ((with_reducible refine gate_dst (N := 19) rfl ?_); refine load_all rfl rfl (cs := c) rfl HAGG.out (fun W => by rw [HCLN.out]; exact HSZ.out W) (blk_cells BX3.out) ?_)
     | (go_at_call 9; refine (HCALL.out _ (below_step BW.out B3.out)).mono ?_; rintro e w4 ⟨rfl, hb4⟩; have BW4 := Aside0.mk (below_step (below_step BW.out B3.out) hb4); clear hb4))
    go_roundg (l0.length - (i + 1))
    case measure => omega
    case rel => have hn := HN.out; exact ⟨i + 1, 2, rfl, by first | go_num | (congr 1; unfold wrap64; omega), by omega, by omega, BW4, HF⟩
   rw [if_neg q2] at hks; have q2b : (x == 2) = false := beq_eq_false_iff_ne.mpr q2; have HF := Aside0.mk hks; clear hks q2
   go_wp2_with (first
     | ((with_reducible refine gate_dst (N := 18) rfl ?_); refine load_all rfl rfl (cs := c) rfl HAGG.out (fun W => by rw [HCLN.out]; exact HSZ.out W) HCELL.out ?_)
     | ((with_reducible refine gate_store (t := 24) (p := 9) rfl ?_); refine store_all (g := wr.heap.size) (cs := c.toArray) (t' := 24) rfl rfl rfl rfl rfl (fun W => by rw [List.size_toArray, HCLN.out]; exact HSZ.out W) (heap_alloc_new wr _) (by rw [List.size_toArray, HCLN.out]; rfl) (fun u hu => HON.out u (by simpa using hu)) ?_; intro w3 hbx hoth hs3 hos htp hou; have B3 := Aside0.mk (show Below wr.heap.size wr w3 from ⟨by rw [hos]; rfl, by rw [htp]; rfl, by rw [hou]; rfl, by rw [hs3]; simp, fun k hk => by rw [hoth k (Nat.ne_of_lt hk)]; exact Below.heap_alloc wr _ k hk⟩); have BX3 := Aside0.mk hbx; clear hbx hoth hs3 hos htp hou)
     | ((with_reducible refine gate_dst (N := 19) rfl ?_); refine load_all rfl rfl (cs := c) rfl HAGG.out (fun W => by rw [HCLN.out]; exact HSZ.out W) (blk_cells BX3.out) ?_)
     | (go_at_call 9; refine (HCALL.out _ (below_step BW.out B3.out)).mono ?_; rintro e w4 ⟨rfl, hb4⟩; have BW4 := Aside0.mk (below_step (below_step BW.out B3.out) hb4); clear hb4))
   go_roundg (l0.length - (i + 1))
   case measure => omega
   case rel => have hn := HN.out; exact ⟨i + 1, out, rfl, by first | go_num | (congr 1; unfold wrap64; omega), by omega, by omega, BW4, HF⟩
  ·have hltz : ¬ (i : Int) < (l0.length : Int) := by omega
   have hks := HF.out; rw [List.drop_of_length_le (by omega)] at hks
   simp only [bothL] at hks
   obtain rfl := Option.some.inj hks
   clear hks HF hn; go_wp2
   go_ret
   exact ⟨rfl, BW.out⟩
theorem need_Says.core (k : Nat) : need_Says.IH k := by
 induction k with
 | zero => intro p cs A1 c1 row r w _ _ _ _ h; cases h
 | succ k ih =>
 intro p cs A1 c1 row r w hK hrow hc1 hT h
 have hup := Tryz.underlying24; have huv := Tryz.underlying38; have HAGG := Aside0.mk (show ∀ W, (isAgg 24).run Tryz.prog W = .ok true W from fun W => by first | exact Tryz.isAgg24 | exact Tryz.isAgg24 W | go_simp)
 have HSZ := Aside0.mk (show ∀ W, (sizeOf 24).run Tryz.prog W = .ok 6 W from fun W => by first | exact Tryz.sizeOf24 | exact Tryz.sizeOf24 W | go_simp)
 have HAGGV := Aside0.mk (show ∀ W, (isAgg 38).run Tryz.prog W = .ok true W from fun W => by first | exact Tryz.isAgg38 | exact Tryz.isAgg38 W | go_simp)
 have HSZV := Aside0.mk (show ∀ W, (sizeOf 38).run Tryz.prog W = .ok 2 W from fun W => by first | exact Tryz.sizeOf38 | exact Tryz.sizeOf38 W | go_simp)
 unfold saysP at h
 have HL6 := Aside0.mk (show cs.length = 6 from k24.K_len hK)
 obtain ⟨A5, c5, ecs, hl5, hk5⟩ := k24_open hK
 have H0 := Aside0.mk (show cs[0]? = some (.int .i64 p.f0) from by rw [ecs]; rfl)
 have H1 := Aside0.mk (show cs[1]? = some (.int .i64 p.f1) from by rw [ecs]; rfl)
 have H2 := Aside0.mk (show cs[2]? = some (.string p.f2) from by rw [ecs]; rfl)
 have H3 := Aside0.mk (show cs[3]? = some (.int .i64 p.f3) from by rw [ecs]; rfl)
 have H4 := Aside0.mk (show cs[4]? = some (.int .i64 p.f4) from by rw [ecs]; rfl)
 have H5 := Aside0.mk (show cs[5]? = some (.slice A5 p.f5.length c5) from by rw [ecs]; rfl)
 have HK5 := Aside0.mk hk5; have HRW := Aside0.mk hrow; have HC1 := Aside0.mk hc1; have HT := Aside0.mk hT; have IH := Aside0.mk ih; have HHO0 := Aside0.mk (fun (s : ByteArray) (b : Bool) (hb : holdsP k p s = some b) W (hbl : Below w.heap.size w W) => show Calls Tryz.prog 18 #[.agg cs.toArray, .string s] W (fun e w' => e = .returned (.bool b) ∧ Below W.heap.size W w') from by rw [ecs]; exact need_holds.calls k p.f0 p.f1 p.f2 p.f3 p.f4 A5 c5 p.f5 s b W (Kd.C_below hk5 hbl) hl5 (Facts.below hT hbl) hb)
 clear hK hk5 hl5 ih ecs hrow hc1 hT; by_cases q12 : p.f0 = 12
 ·rw [if_pos q12] at h; have q12b : (p.f0 == 12) = true := beq_iff_eq.mpr q12; clear q12 HHO0; have HBT := Aside0.mk (fun W (hb : Below w.heap.size w W) => need_Says.both k IH.out A5 c5 p.f5 A1 c1 row 0 r W (Kd.C_below HK5.out hb) (Kd.C_below HRW.out hb) HC1.out (Facts.below HT.out hb) (by omega) (by omega) h)
  clear h; go_enter Tryz.func9, Tryz.ntmps9
  go_wp2_with (first
   | ((with_reducible refine gate_dst (N := 2) rfl ?_); refine box_all rfl rfl (cs := cs.toArray) rfl (fun W => by rw [List.size_toArray, HL6.out]; exact HSZ.out W) ?_; intro w1 hbx hbw; have BW1 := Aside0.mk hbw; have BX1 := Aside0.mk hbx; have hcv0 : w1.cell? ⟨w.heap.size, 0, none⟩ = some (.int .i64 p.f0) := blk_cells BX1.out 0 _ H0.out; have hcv1 : w1.cell? ⟨w.heap.size, 1, none⟩ = some (.int .i64 p.f1) := blk_cells BX1.out 1 _ H1.out; have hcv5 : w1.cell? ⟨w.heap.size, 5, none⟩ = some (.slice A5 p.f5.length c5) := blk_cells BX1.out 5 _ H5.out; clear hbx hbw)
   | (go_at_call 16; refine (HBT.out _ BW1.out).mono ?_; rintro e w5 ⟨rfl, hb5⟩; have BW9 := Aside0.mk (below_step BW1.out hb5); clear hb5))
  go_ret
  exact ⟨rfl, BW9.out⟩
 rw [if_neg q12] at h; have q12b : (p.f0 == 12) = false := beq_eq_false_iff_ne.mpr q12; clear q12; by_cases q13 : p.f0 = 13
 ·rw [if_pos q13] at h; have q13b : (p.f0 == 13) = true := beq_iff_eq.mpr q13; clear q13 HHO0; have HBT := Aside0.mk (fun W (hb : Below w.heap.size w W) => need_Says.both k IH.out A5 c5 p.f5 A1 c1 row 1 r W (Kd.C_below HK5.out hb) (Kd.C_below HRW.out hb) HC1.out (Facts.below HT.out hb) (by omega) (by omega) h)
  clear h; go_enter Tryz.func9, Tryz.ntmps9
  go_wp2_with (first
   | ((with_reducible refine gate_dst (N := 2) rfl ?_); refine box_all rfl rfl (cs := cs.toArray) rfl (fun W => by rw [List.size_toArray, HL6.out]; exact HSZ.out W) ?_; intro w1 hbx hbw; have BW1 := Aside0.mk hbw; have BX1 := Aside0.mk hbx; have hcv0 : w1.cell? ⟨w.heap.size, 0, none⟩ = some (.int .i64 p.f0) := blk_cells BX1.out 0 _ H0.out; have hcv1 : w1.cell? ⟨w.heap.size, 1, none⟩ = some (.int .i64 p.f1) := blk_cells BX1.out 1 _ H1.out; have hcv5 : w1.cell? ⟨w.heap.size, 5, none⟩ = some (.slice A5 p.f5.length c5) := blk_cells BX1.out 5 _ H5.out; clear hbx hbw)
   | (go_at_call 16; refine (HBT.out _ BW1.out).mono ?_; rintro e w5 ⟨rfl, hb5⟩; have BW9 := Aside0.mk (below_step BW1.out hb5); clear hb5))
  go_ret
  exact ⟨rfl, BW9.out⟩
 rw [if_neg q13] at h; have q13b : (p.f0 == 13) = false := beq_eq_false_iff_ne.mpr q13; clear q13; by_cases q14 : p.f0 = 14
 ·rw [if_pos q14] at h; have q14b : (p.f0 == 14) = true := beq_iff_eq.mpr q14; clear q14 HHO0; by_cases h0 : 0 < p.f5.length
  case neg => rw [if_neg h0] at h; cases h
  rw [if_pos h0] at h; have h0z : (0 : Int) < (p.f5.length : Int) := by omega
  obtain ⟨x, hx, h⟩ := Option.bind_eq_some_iff.1 h
  obtain ⟨ad, c, e0, hcl, hKu, hcell⟩ := Kd.C_elem HK5.out z24 0 h0
  replace hcell : ∀ j v, c[j]? = some v → w.cell? ((ad.add (0 * 6)).add j) = some v := hcell
  replace hcl : c.length = 6 := hcl
  subst e0; have HCALL := Aside0.mk (fun W (hb : Below w.heap.size w W) => IH.out (p.f5.getD 0 z24) c A1 c1 row x W (k24.K_below hb hKu) (Kd.C_below HRW.out hb) HC1.out (Facts.below HT.out hb) hx)
  have HCLN := Aside0.mk hcl; have HCELL := Aside0.mk hcell; clear hx hcl hcell hKu; by_cases q2 : x = 2
  ·rw [if_pos q2] at h; obtain rfl := Option.some.inj h
   subst q2; clear h; go_enter Tryz.func9, Tryz.ntmps9
   go_wp2_with (first
    | ((with_reducible refine gate_dst (N := 2) rfl ?_); refine box_all rfl rfl (cs := cs.toArray) rfl (fun W => by rw [List.size_toArray, HL6.out]; exact HSZ.out W) ?_; intro w1 hbx hbw; have BW1 := Aside0.mk hbw; have BX1 := Aside0.mk hbx; have hcv0 : w1.cell? ⟨w.heap.size, 0, none⟩ = some (.int .i64 p.f0) := blk_cells BX1.out 0 _ H0.out; have hcv1 : w1.cell? ⟨w.heap.size, 1, none⟩ = some (.int .i64 p.f1) := blk_cells BX1.out 1 _ H1.out; have hcv5 : w1.cell? ⟨w.heap.size, 5, none⟩ = some (.slice (some ad) p.f5.length c5) := blk_cells BX1.out 5 _ H5.out; clear hbx hbw)
    | ((with_reducible refine gate_dst (N := 26) rfl ?_); refine load_all rfl rfl (cs := c) rfl HAGG.out (fun W => by rw [HCLN.out]; exact HSZ.out W) (fun j v hj => by have h1 := (BW1.out.cell (World.block_lt_of_cell? w _ (HCELL.out j v hj))).trans (HCELL.out j v hj); first | exact h1 | simpa [Addr.add] using h1) ?_)
    | (go_at_call 9; refine (HCALL.out _ BW1.out).mono ?_; rintro e w5 ⟨rfl, hb5⟩; have BW9 := Aside0.mk (below_step BW1.out hb5); clear hb5))
   go_ret
   exact ⟨rfl, BW9.out⟩
  rw [if_neg q2] at h; obtain rfl := Option.some.inj h
  have q2b : (x == 2) = false := beq_eq_false_iff_ne.mpr q2; clear h q2; go_enter Tryz.func9, Tryz.ntmps9
  go_wp2_with (first
   | ((with_reducible refine gate_dst (N := 2) rfl ?_); refine box_all rfl rfl (cs := cs.toArray) rfl (fun W => by rw [List.size_toArray, HL6.out]; exact HSZ.out W) ?_; intro w1 hbx hbw; have BW1 := Aside0.mk hbw; have BX1 := Aside0.mk hbx; have hcv0 : w1.cell? ⟨w.heap.size, 0, none⟩ = some (.int .i64 p.f0) := blk_cells BX1.out 0 _ H0.out; have hcv1 : w1.cell? ⟨w.heap.size, 1, none⟩ = some (.int .i64 p.f1) := blk_cells BX1.out 1 _ H1.out; have hcv5 : w1.cell? ⟨w.heap.size, 5, none⟩ = some (.slice (some ad) p.f5.length c5) := blk_cells BX1.out 5 _ H5.out; clear hbx hbw)
   | ((with_reducible refine gate_dst (N := 26) rfl ?_); refine load_all rfl rfl (cs := c) rfl HAGG.out (fun W => by rw [HCLN.out]; exact HSZ.out W) (fun j v hj => by have h1 := (BW1.out.cell (World.block_lt_of_cell? w _ (HCELL.out j v hj))).trans (HCELL.out j v hj); first | exact h1 | simpa [Addr.add] using h1) ?_)
   | (go_at_call 9; refine (HCALL.out _ BW1.out).mono ?_; rintro e w5 ⟨rfl, hb5⟩; have BW9 := Aside0.mk (below_step BW1.out hb5); clear hb5))
  go_ret
  exact ⟨rfl, BW9.out⟩
 rw [if_neg q14] at h; have q14b : (p.f0 == 14) = false := beq_eq_false_iff_ne.mpr q14; clear q14; by_cases h0 : 0 ≤ p.f1
 case neg => rw [if_neg h0] at h; cases h
 rw [if_pos h0] at h; by_cases hi : p.f1 < (row.length : Int)
 case neg => rw [if_neg hi] at h; cases h
 rw [if_pos hi] at h; obtain ⟨j, ej⟩ : ∃ j : Nat, p.f1 = (j : Int) := ⟨p.f1.toNat, by omega⟩
 rw [ej] at h hi h0
 have HJ1 := Aside0.mk (show cs[1]? = some (.int .i64 (j : Int)) from by rw [← ej]; exact H1.out)
 clear ej H1; have H1 := HJ1; have hj : j < row.length := by omega
 have hnr : row.length ≤ 9223372036854775807 := HRW.out.2.1; obtain ⟨ad, c, e0, hcl, hKu, hcell⟩ := Kd.C_elem HRW.out z38 j hj
 replace hcell : ∀ t v, c[t]? = some v → w.cell? ((ad.add (j * 2)).add t) = some v := hcell
 have e2 : rd_T38 row (j : Int) = row.getD j z38 := by unfold rd_T38; rw [show ((j : Int)).toNat = j by omega]
 rw [e2] at h
 clear e2 hcl; subst e0; generalize row.getD j z38 = v at h hKu
 obtain rfl := k38_open hKu
 obtain ⟨vn, vs⟩ := v; have HCELL := Aside0.mk hcell; clear hcell hKu; unfold saysLeaf at h
 simp only at h
 by_cases q11 : p.f0 = 11
 ·rw [if_pos q11] at h; have q11b : (p.f0 == 11) = true := beq_iff_eq.mpr q11; have HY := Aside0.mk (fun W => need_yes.calls vn r W h)
  clear h q11 HHO0; go_enter Tryz.func9, Tryz.ntmps9
  go_wp2_with (first
   | ((with_reducible refine gate_dst (N := 2) rfl ?_); refine box_all rfl rfl (cs := cs.toArray) rfl (fun W => by rw [List.size_toArray, HL6.out]; exact HSZ.out W) ?_; intro w1 hbx hbw; have BW1 := Aside0.mk hbw; have BX1 := Aside0.mk hbx; have hcv0 : w1.cell? ⟨w.heap.size, 0, none⟩ = some (.int .i64 p.f0) := blk_cells BX1.out 0 _ H0.out; have hcv1 : w1.cell? ⟨w.heap.size, 1, none⟩ = some (.int .i64 (j : Int)) := blk_cells BX1.out 1 _ H1.out; have hcv5 : w1.cell? ⟨w.heap.size, 5, none⟩ = some (.slice A5 p.f5.length c5) := blk_cells BX1.out 5 _ H5.out; clear hbx hbw)
   | ((with_reducible refine gate_dst (N := 38) rfl ?_); refine load_all rfl rfl (cs := [.bool vn, .string vs]) rfl HAGGV.out (fun W => HSZV.out W) (fun j v hj => (BW1.out.cell (World.block_lt_of_cell? w _ (HCELL.out j v hj))).trans (HCELL.out j v hj)) ?_)
   | ((with_reducible refine gate_store (t := 38) (p := 6) rfl ?_); refine store_all (g := w1.heap.size) (cs := #[.bool vn, .string vs]) (t' := 38) rfl rfl rfl rfl rfl (fun W => HSZV.out W) (heap_alloc_new w1 _) rfl (fun u hu => by have h2 : u = Value.bool vn ∨ u = Value.string vs := (by simpa using hu); rcases h2 with rfl | rfl <;> rfl) ?_; intro w3 hbx hoth hs3 hos htp hou; have B3 := Aside0.mk (show Below w1.heap.size w1 w3 from ⟨by rw [hos]; rfl, by rw [htp]; rfl, by rw [hou]; rfl, by rw [hs3]; simp, fun k hk => by rw [hoth k (Nat.ne_of_lt hk)]; exact Below.heap_alloc w1 _ k hk⟩); have BW3 := Aside0.mk (below_step BW1.out B3.out); have BX3 := Aside0.mk (blk_keep B3.out BX1.out); have hvn : w3.cell? ⟨w1.heap.size, 0, none⟩ = some (.bool vn) := blk_cells (cs := [.bool vn, .string vs]) hbx 0 _ rfl; have hvs : w3.cell? ⟨w1.heap.size, 1, none⟩ = some (.string vs) := blk_cells (cs := [.bool vn, .string vs]) hbx 1 _ rfl; clear hcv0 hcv1 hcv5; have hcv0 : w3.cell? ⟨w.heap.size, 0, none⟩ = some (.int .i64 p.f0) := blk_cells BX3.out 0 _ H0.out; clear hbx hoth hs3 hos htp hou)
   | (go_at_call 17; refine (HY.out _).mono ?_; rintro e w7 ⟨rfl, hd7⟩; have BW9 := Aside0.mk (below_step BW3.out hd7.below); clear hd7))
  go_ret
  exact ⟨rfl, BW9.out⟩
 rw [if_neg q11] at h; have q11b : (p.f0 == 11) = false := beq_eq_false_iff_ne.mpr q11; clear q11
 cases vn with
 | true =>
  rw [if_pos rfl] at h; obtain rfl := Option.some.inj h
  clear h HHO0; go_enter Tryz.func9, Tryz.ntmps9
  go_wp2_with (first
   | ((with_reducible refine gate_dst (N := 2) rfl ?_); refine box_all rfl rfl (cs := cs.toArray) rfl (fun W => by rw [List.size_toArray, HL6.out]; exact HSZ.out W) ?_; intro w1 hbx hbw; have BW1 := Aside0.mk hbw; have BX1 := Aside0.mk hbx; have hcv0 : w1.cell? ⟨w.heap.size, 0, none⟩ = some (.int .i64 p.f0) := blk_cells BX1.out 0 _ H0.out; have hcv1 : w1.cell? ⟨w.heap.size, 1, none⟩ = some (.int .i64 (j : Int)) := blk_cells BX1.out 1 _ H1.out; have hcv5 : w1.cell? ⟨w.heap.size, 5, none⟩ = some (.slice A5 p.f5.length c5) := blk_cells BX1.out 5 _ H5.out; clear hbx hbw)
   | ((with_reducible refine gate_dst (N := 38) rfl ?_); refine load_all rfl rfl (cs := [.bool true, .string vs]) rfl HAGGV.out (fun W => HSZV.out W) (fun j v hj => (BW1.out.cell (World.block_lt_of_cell? w _ (HCELL.out j v hj))).trans (HCELL.out j v hj)) ?_)
   | ((with_reducible refine gate_store (t := 38) (p := 6) rfl ?_); refine store_all (g := w1.heap.size) (cs := #[.bool true, .string vs]) (t' := 38) rfl rfl rfl rfl rfl (fun W => HSZV.out W) (heap_alloc_new w1 _) rfl (fun u hu => by have h2 : u = Value.bool true ∨ u = Value.string vs := (by simpa using hu); rcases h2 with rfl | rfl <;> rfl) ?_; intro w3 hbx hoth hs3 hos htp hou; have B3 := Aside0.mk (show Below w1.heap.size w1 w3 from ⟨by rw [hos]; rfl, by rw [htp]; rfl, by rw [hou]; rfl, by rw [hs3]; simp, fun k hk => by rw [hoth k (Nat.ne_of_lt hk)]; exact Below.heap_alloc w1 _ k hk⟩); have BW3 := Aside0.mk (below_step BW1.out B3.out); have BX3 := Aside0.mk (blk_keep B3.out BX1.out); have hvn : w3.cell? ⟨w1.heap.size, 0, none⟩ = some (.bool true) := blk_cells (cs := [.bool true, .string vs]) hbx 0 _ rfl; have hvs : w3.cell? ⟨w1.heap.size, 1, none⟩ = some (.string vs) := blk_cells (cs := [.bool true, .string vs]) hbx 1 _ rfl; clear hcv0 hcv1 hcv5; have hcv0 : w3.cell? ⟨w.heap.size, 0, none⟩ = some (.int .i64 p.f0) := blk_cells BX3.out 0 _ H0.out; clear hbx hoth hs3 hos htp hou))
  go_ret
  exact ⟨rfl, BW3.out⟩
 | false =>
  rw [if_neg (by decide)] at h
  obtain ⟨b, hb, h⟩ := Option.bind_eq_some_iff.1 h
  have HHO := Aside0.mk (HHO0.out vs b hb)
  have HY := Aside0.mk (fun W => need_yes.calls b r W h)
  clear h hb HHO0; go_enter Tryz.func9, Tryz.ntmps9
  go_wp2_with (first
   | ((with_reducible refine gate_dst (N := 2) rfl ?_); refine box_all rfl rfl (cs := cs.toArray) rfl (fun W => by rw [List.size_toArray, HL6.out]; exact HSZ.out W) ?_; intro w1 hbx hbw; have BW1 := Aside0.mk hbw; have BX1 := Aside0.mk hbx; have hcv0 : w1.cell? ⟨w.heap.size, 0, none⟩ = some (.int .i64 p.f0) := blk_cells BX1.out 0 _ H0.out; have hcv1 : w1.cell? ⟨w.heap.size, 1, none⟩ = some (.int .i64 (j : Int)) := blk_cells BX1.out 1 _ H1.out; have hcv5 : w1.cell? ⟨w.heap.size, 5, none⟩ = some (.slice A5 p.f5.length c5) := blk_cells BX1.out 5 _ H5.out; clear hbx hbw)
   | ((with_reducible refine gate_dst (N := 38) rfl ?_); refine load_all rfl rfl (cs := [.bool false, .string vs]) rfl HAGGV.out (fun W => HSZV.out W) (fun j v hj => (BW1.out.cell (World.block_lt_of_cell? w _ (HCELL.out j v hj))).trans (HCELL.out j v hj)) ?_)
   | ((with_reducible refine gate_store (t := 38) (p := 6) rfl ?_); refine store_all (g := w1.heap.size) (cs := #[.bool false, .string vs]) (t' := 38) rfl rfl rfl rfl rfl (fun W => HSZV.out W) (heap_alloc_new w1 _) rfl (fun u hu => by have h2 : u = Value.bool false ∨ u = Value.string vs := (by simpa using hu); rcases h2 with rfl | rfl <;> rfl) ?_; intro w3 hbx hoth hs3 hos htp hou; have B3 := Aside0.mk (show Below w1.heap.size w1 w3 from ⟨by rw [hos]; rfl, by rw [htp]; rfl, by rw [hou]; rfl, by rw [hs3]; simp, fun k hk => by rw [hoth k (Nat.ne_of_lt hk)]; exact Below.heap_alloc w1 _ k hk⟩); have BW3 := Aside0.mk (below_step BW1.out B3.out); have BX3 := Aside0.mk (blk_keep B3.out BX1.out); have hvn : w3.cell? ⟨w1.heap.size, 0, none⟩ = some (.bool false) := blk_cells (cs := [.bool false, .string vs]) hbx 0 _ rfl; have hvs : w3.cell? ⟨w1.heap.size, 1, none⟩ = some (.string vs) := blk_cells (cs := [.bool false, .string vs]) hbx 1 _ rfl; clear hcv0 hcv1 hcv5; have hcv0 : w3.cell? ⟨w.heap.size, 0, none⟩ = some (.int .i64 p.f0) := blk_cells BX3.out 0 _ H0.out; clear hbx hoth hs3 hos htp hou)
   | ((with_reducible refine gate_dst (N := 49) rfl ?_); refine load_all rfl rfl (cs := cs) rfl HAGG.out (fun W => by rw [HL6.out]; exact HSZ.out W) (blk_cells BX3.out) ?_)
   | (go_at_call 18; refine (HHO.out _ BW3.out).mono ?_; rintro e w6 ⟨rfl, hb6⟩; have BW6 := Aside0.mk (below_step BW3.out hb6); clear hb6)
   | (go_at_call 17; refine (HY.out _).mono ?_; rintro e w7 ⟨rfl, hd7⟩; have BW9 := Aside0.mk (below_step BW6.out hd7.below); clear hd7))
  go_ret
  exact ⟨rfl, BW9.out⟩
theorem bothL_mono {g g' : S24 → Option Int} (h : ∀ q, LeO (g q) (g' q)) (settles : Int) : ∀ l out, LeO (bothL g settles l out) (bothL g' settles l out)
 | [], out => LeO.same
 | q :: qs, out => LeO.bind' (h q) fun x => LeO.ite' LeO.same (LeO.ite' (bothL_mono h settles qs 2) (bothL_mono h settles qs out))
theorem saysP_mono : ∀ k p row, LeO (saysP k p row) (saysP (k + 1) p row)
 | 0, p, row => fun r hr => by cases hr
 | k + 1, p, row => by
  unfold saysP saysLeaf holdsP
  exact LeO.ite' (bothL_mono (fun q => saysP_mono k q row) 0 _ _) (LeO.ite' (bothL_mono (fun q => saysP_mono k q row) 1 _ _) (LeO.ite' (LeO.ite' (LeO.bind' (saysP_mono k _ row) fun _ => LeO.same) LeO.same) (LeO.ite' (LeO.ite' (LeO.ite' LeO.same (LeO.ite' LeO.same (LeO.bind' (need_holds.mono _ _ _ _ _ _ _ k) fun _ => LeO.same))) LeO.same) LeO.same)))
theorem need_Says.mono : ∀ y0 y1 y2 y3 y4 y5 y6 k, LeO (need_Says.f k y0 y1 y2 y3 y4 y5 y6) (need_Says.f (k + 1) y0 y1 y2 y3 y4 y5 y6) := fun _ _ _ _ _ _ _ k => saysP_mono k _ _
theorem need_Says.calls (k : Nat) (a0_0 : Int) (a0_1 : Int) (a0_2 : ByteArray) (a0_3 : Int) (a0_4 : Int) (A0_5 : Option Addr) (c0_5 : Nat) (l0_5 : List (S24)) (A1 : Option Addr) (c1 : Nat) (l1 : List (S38)) (r : Int) (w : World) (hr0_5 : Kd.C k24 w A0_5 l0_5.length l0_5) (hc0_5 : l0_5.length ≤ c0_5) (hr1 : Kd.C k38 w A1 l1.length l1) (hc1 : l1.length ≤ c1) (hT : Facts w) (h : need_Says.f k a0_0 a0_1 a0_2 a0_3 a0_4 l0_5 l1 = some r) :
  Calls Tryz.prog 9 #[.agg #[.int .i64 a0_0, .int .i64 a0_1, .string a0_2, .int .i64 a0_3, .int .i64 a0_4, .slice A0_5 l0_5.length c0_5], .slice A1 l1.length c1] w fun e w' => e = .returned (.int .i64 r) ∧ Below w.heap.size w w' :=
 need_Says.core k ⟨a0_0, a0_1, a0_2, a0_3, a0_4, l0_5⟩ _ A1 c1 l1 r w (k24_mk w ⟨a0_0, a0_1, a0_2, a0_3, a0_4, l0_5⟩ hc0_5 hr0_5) hr1 hc1 hT h

end Go.Proofs.YtdccooaddoafnaaGreatDoor.Q
