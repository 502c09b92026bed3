-- PRINTED by print.py (a twelfth state) out of the translation. Not trusted: Lean checks it.
import Derived.Test.YtdccooaddoafnaaDoorQx0
import Derived.Test.YtdccooaddoafnaaDoorQx2
import Derived.Test.YtdccooaddoafnaaDoorQx4
import Derived.Test.YtdccooaddoafnaaDoorQx7
import Derived.Test.YtdccooaddoafnaaDoorQx9
import Derived.Test.YtdccooaddoafnaaDoorQx10
namespace Go.Proofs.YtdccooaddoafnaaDoor.Q
open Go.RowKit Go.Proofs.YtdccooaddoafnaaDoorW.PrintWords Go.Proofs.YtdccooaddoafnaaDoorW.PrintLast Go.Proofs.YtdccooaddoafnaaDoorW.PrintMore
attribute [local go_sem] str_gtr str_geq str_leq max2_int min2_int max_two min_two max_three min_three max_four min_four   -- for this text's walks alone
set_option linter.unusedVariables false
set_option linter.unusedSimpArgs false

/-! ### need_order: function 51 -/
def need_order.f (k : Nat) (a0_0 : Int) (a0_1 : Int) (a0_2 : ByteArray) (a0_3 : Int) (a0_4 : Int) (l0_5 : List (S24)) (a1 : ByteArray) : Option (Int) := if a0_4 = 1 then ((text_ByFold.f a1 a0_2).bind fun t228 => (some t228)) else (if a0_4 = 2 then ((text_ByPoints.f k a1 a0_2).bind fun t229 => (some t229)) else ((cmp_Compare_string.f a1 a0_2).bind fun t230 => (some t230)))
theorem need_order.mono : ∀ a0 a1 a2 a3 a4 a5 a6 k, LeO (need_order.f k a0 a1 a2 a3 a4 a5 a6) (need_order.f (k + 1) a0 a1 a2 a3 a4 a5 a6) := by
 intro a0 a1 a2 a3 a4 a5 a6 k
 unfold need_order.f
 repeat' first
   | (with_reducible exact text_ByPoints.mono _ _ _)
   | (with_reducible exact LeO.refl _)
   | (with_reducible exact LeO.none _)
   | (with_reducible refine LeO.ite ?_ ?_)
   | (with_reducible refine LeO.bind ?_ (fun _ => ?_))
   | exact text_ByPoints.mono _ _ _
   | exact LeO.none _
   | refine LeO.ite ?_ ?_
   | refine LeO.bind ?_ (fun _ => ?_)
set_option maxHeartbeats 8000000 in
set_option maxRecDepth 100000 in
theorem need_order.calls (k : Nat) (a0_0 : Int) (a0_1 : Int) (a0_2 : ByteArray) (a0_3 : Int) (a0_4 : Int) (A0_5 : Option Addr) (c0_5 : Nat) (l0_5 : List (S24)) (a1 : ByteArray) (r : Int) (w : World) (hr0_5 : Kd.C k24 w A0_5 l0_5.length l0_5) (hc0_5 : l0_5.length ≤ c0_5) (hT : Facts w) (h : need_order.f k a0_0 a0_1 a0_2 a0_3 a0_4 l0_5 a1 = some r) :
  Calls Tryd.prog 51 #[.agg #[.int .i64 a0_0, .int .i64 a0_1, .string a0_2, .int .i64 a0_3, .int .i64 a0_4, .slice A0_5 l0_5.length c0_5], .string a1] w fun e w' => e = .returned (.int .i64 r) ∧ Below w.heap.size w w' := by
 have hu24 := Tryd.underlying24
 have HT := Aside0.mk hT
 clear hT
 have HR0_5 := Aside0.mk hr0_5
 have HC0_5 := Aside0.mk hc0_5
 clear hr0_5 hc0_5
 have HB := Aside0.mk (Below.refl w.heap.size w)
 have H : (if a0_4 = 1 then ((text_ByFold.f a1 a0_2).bind fun t228 => (some t228)) else (if a0_4 = 2 then ((text_ByPoints.f k a1 a0_2).bind fun t229 => (some t229)) else ((cmp_Compare_string.f a1 a0_2).bind fun t230 => (some t230)))) = some r := h
 clear h
 by_cases c3 : a0_4 = 1
 ·rw [if_pos c3] at H
  have c3b0 : (a0_4 == 1) = true := beq_iff_eq.mpr c3
  have c3b1 : (a0_4 != 1) = false := bne_eq_false_iff_eq.mpr c3
  clear c3
  replace H := Option.bind_eq_some_iff.mp H
  obtain ⟨t228, A40, H⟩ := H
  replace H : (some t228) = some r := H
  have A4 := Aside0.mk A40
  clear A40
  obtain rfl := Option.some.inj H
  go_enter Tryd.func51, Tryd.ntmps51
  go_wp2_with (first | ((with_reducible refine gate_dst (N := 2) rfl ?_); refine box_event ?hg (N := 2) ?hd (cs := #[.int .i64 a0_0, .int .i64 a0_1, .string a0_2, .int .i64 a0_3, .int .i64 a0_4, .slice A0_5 l0_5.length c0_5]) (t := 24) ?hr ?_; (case hd => rfl); (case hg => rfl); (case hr => first | (go_simp; done) | (go_simp; rfl) | (go_simp; simp (disch := omega) only [Go.u8_and63, Go.u8_and31, Go.u8_and15, Go.u8_and7, Go.u8_or128, Go.u8_or192, Go.u8_or224, Go.u8_or240, m64]; done)); intro gb227 hg w5 hbox hb; have n0_ := Aside0.mk (below_step (mvB HB.out) hb); have n1_ := Aside0.mk (hbox); have n2_ := Aside0.mk ((by rw [hg]; exact (below_size (mvB HB.out)) : w.heap.size ≤ gb227)); have n3_ := Aside0.mk ((by rw [hg]; exact (below_size (mvB HB.out)) : w.heap.size ≤ gb227)); clear HB; have HB := n0_; have BK227 := n1_; have GW227 := n2_; have GE227 := n3_; clear n0_ n1_ n2_ n3_; clear hb hbox hg; have hcz6_0 : w5.cell? ⟨gb227, 0, none⟩ = some (.int .i64 a0_0) := (blk_cell BK227.out 0).trans rfl; have hcz6_1 : w5.cell? ⟨gb227, 1, none⟩ = some (.int .i64 a0_1) := (blk_cell BK227.out 1).trans rfl; have hcz6_2 : w5.cell? ⟨gb227, 2, none⟩ = some (.string a0_2) := (blk_cell BK227.out 2).trans rfl; have hcz6_3 : w5.cell? ⟨gb227, 3, none⟩ = some (.int .i64 a0_3) := (blk_cell BK227.out 3).trans rfl; have hcz6_4 : w5.cell? ⟨gb227, 4, none⟩ = some (.int .i64 a0_4) := (blk_cell BK227.out 4).trans rfl; have hcz6_5 : w5.cell? ⟨gb227, 5, none⟩ = some (.slice A0_5 l0_5.length c0_5) := (blk_cell BK227.out 5).trans rfl; have hfz6_0 := blk_frozen BK227.out 0; have hfz6_1 := blk_frozen BK227.out 1; have hfz6_2 := blk_frozen BK227.out 2; have hfz6_3 := blk_frozen BK227.out 3; have hfz6_4 := blk_frozen BK227.out 4; have hfz6_5 := blk_frozen BK227.out 5) | ((with_reducible refine gate_callee (f := 63) rfl ?_); refine goesL_ (some 12) rfl rfl Tryd.func63 (by kernel_rfl) rfl #[.string a1, .string a0_2] rfl (by (try simp only [List.map_toArray, List.map_cons, List.map_nil]); first | done | rfl | (simp only [List.length_drop, List.length_take]; rfl)) ?_; (with_reducible refine (text_ByFold.calls a1 a0_2 t228 _ A4.out).mono ?_); rintro e w7 ⟨rfl, hb⟩; refine ⟨_, rfl, ?_⟩; have n0_ := Aside0.mk (blk_below (g := gb227) (o := .cells #[.int .i64 a0_0, .int .i64 a0_1, .string a0_2, .int .i64 a0_3, .int .i64 a0_4, .slice A0_5 l0_5.length c0_5] 24 (0, 0)) (mvK BK227.out) hb); have n1_ := Aside0.mk (below_step (mvG HB.out GE227.out) hb); clear BK227; clear HB; have BK227 := n0_; have HB := n1_; clear n0_ n1_; (try clear hb); (try clear hb2); (try clear hk); (try clear hi)))
  go_ret
  exact ⟨by first | rfl | (simp [errW_none, errW_some] <;> rfl) | (simp [*, errW_none, errW_some] <;> rfl) | exact congrArg (fun b_ => Ending.returned (.bool b_)) (decide_eq_decide.2 (by unfold wrap64; omega)), mvG HB.out GE227.out⟩
 ·rw [if_neg c3] at H
  have c3b0 : (a0_4 == 1) = false := beq_eq_false_iff_ne.mpr c3
  have c3b1 : (a0_4 != 1) = true := bne_iff_ne.mpr c3
  by_cases c8 : a0_4 = 2
  ·rw [if_pos c8] at H
   have c8b0 : (a0_4 == 2) = true := beq_iff_eq.mpr c8
   have c8b1 : (a0_4 != 2) = false := bne_eq_false_iff_eq.mpr c8
   clear c8
   replace H := Option.bind_eq_some_iff.mp H
   obtain ⟨t229, A90, H⟩ := H
   replace H : (some t229) = some r := H
   have A9 := Aside0.mk A90
   clear A90
   obtain rfl := Option.some.inj H
   go_enter Tryd.func51, Tryd.ntmps51
   go_wp2_with (first | ((with_reducible refine gate_dst (N := 2) rfl ?_); refine box_event ?hg (N := 2) ?hd (cs := #[.int .i64 a0_0, .int .i64 a0_1, .string a0_2, .int .i64 a0_3, .int .i64 a0_4, .slice A0_5 l0_5.length c0_5]) (t := 24) ?hr ?_; (case hd => rfl); (case hg => rfl); (case hr => first | (go_simp; done) | (go_simp; rfl) | (go_simp; simp (disch := omega) only [Go.u8_and63, Go.u8_and31, Go.u8_and15, Go.u8_and7, Go.u8_or128, Go.u8_or192, Go.u8_or224, Go.u8_or240, m64]; done)); intro gb227 hg w10 hbox hb; have n0_ := Aside0.mk (below_step (mvB HB.out) hb); have n1_ := Aside0.mk (hbox); have n2_ := Aside0.mk ((by rw [hg]; exact (below_size (mvB HB.out)) : w.heap.size ≤ gb227)); have n3_ := Aside0.mk ((by rw [hg]; exact (below_size (mvB HB.out)) : w.heap.size ≤ gb227)); clear HB; have HB := n0_; have BK227 := n1_; have GW227 := n2_; have GE227 := n3_; clear n0_ n1_ n2_ n3_; clear hb hbox hg; have hcz11_0 : w10.cell? ⟨gb227, 0, none⟩ = some (.int .i64 a0_0) := (blk_cell BK227.out 0).trans rfl; have hcz11_1 : w10.cell? ⟨gb227, 1, none⟩ = some (.int .i64 a0_1) := (blk_cell BK227.out 1).trans rfl; have hcz11_2 : w10.cell? ⟨gb227, 2, none⟩ = some (.string a0_2) := (blk_cell BK227.out 2).trans rfl; have hcz11_3 : w10.cell? ⟨gb227, 3, none⟩ = some (.int .i64 a0_3) := (blk_cell BK227.out 3).trans rfl; have hcz11_4 : w10.cell? ⟨gb227, 4, none⟩ = some (.int .i64 a0_4) := (blk_cell BK227.out 4).trans rfl; have hcz11_5 : w10.cell? ⟨gb227, 5, none⟩ = some (.slice A0_5 l0_5.length c0_5) := (blk_cell BK227.out 5).trans rfl; have hfz11_0 := blk_frozen BK227.out 0; have hfz11_1 := blk_frozen BK227.out 1; have hfz11_2 := blk_frozen BK227.out 2; have hfz11_3 := blk_frozen BK227.out 3; have hfz11_4 := blk_frozen BK227.out 4; have hfz11_5 := blk_frozen BK227.out 5) | ((with_reducible refine gate_callee (f := 64) rfl ?_); refine goesL_ (some 18) rfl rfl Tryd.func64 (by kernel_rfl) rfl #[.string a1, .string a0_2] rfl (by (try simp only [List.map_toArray, List.map_cons, List.map_nil]); first | done | rfl | (simp only [List.length_drop, List.length_take]; rfl)) ?_; (with_reducible refine (text_ByPoints.calls k a1 a0_2 t229 _ ?side1 A9.out).mono ?_); (case side1 => first | exact HT.out | exact Facts.below HT.out (mvG HB.out GE227.out) | exact Facts.below HT.out HB.out | (repeat (first | exact HT.out | refine Facts.drewN ?_ _ | refine Facts.drew ?_ | refine Facts.alloc ?_ _))); rintro e w12 ⟨rfl, hb⟩; refine ⟨_, rfl, ?_⟩; have n0_ := Aside0.mk (blk_below (g := gb227) (o := .cells #[.int .i64 a0_0, .int .i64 a0_1, .string a0_2, .int .i64 a0_3, .int .i64 a0_4, .slice A0_5 l0_5.length c0_5] 24 (0, 0)) (mvK BK227.out) hb); have n1_ := Aside0.mk (below_step (mvG HB.out GE227.out) hb); clear BK227; clear HB; have BK227 := n0_; have HB := n1_; clear n0_ n1_; (try clear hb); (try clear hb2); (try clear hk); (try clear hi)))
   go_ret
   exact ⟨by first | rfl | (simp [errW_none, errW_some] <;> rfl) | (simp [*, errW_none, errW_some] <;> rfl) | exact congrArg (fun b_ => Ending.returned (.bool b_)) (decide_eq_decide.2 (by unfold wrap64; omega)), mvG HB.out GE227.out⟩
  ·rw [if_neg c8] at H
   have c8b0 : (a0_4 == 2) = false := beq_eq_false_iff_ne.mpr c8
   have c8b1 : (a0_4 != 2) = true := bne_iff_ne.mpr c8
   replace H := Option.bind_eq_some_iff.mp H
   obtain ⟨t230, A130, H⟩ := H
   replace H : (some t230) = some r := H
   have A13 := Aside0.mk A130
   clear A130
   obtain rfl := Option.some.inj H
   go_enter Tryd.func51, Tryd.ntmps51
   go_wp2_with (first | ((with_reducible refine gate_dst (N := 2) rfl ?_); refine box_event ?hg (N := 2) ?hd (cs := #[.int .i64 a0_0, .int .i64 a0_1, .string a0_2, .int .i64 a0_3, .int .i64 a0_4, .slice A0_5 l0_5.length c0_5]) (t := 24) ?hr ?_; (case hd => rfl); (case hg => rfl); (case hr => first | (go_simp; done) | (go_simp; rfl) | (go_simp; simp (disch := omega) only [Go.u8_and63, Go.u8_and31, Go.u8_and15, Go.u8_and7, Go.u8_or128, Go.u8_or192, Go.u8_or224, Go.u8_or240, m64]; done)); intro gb227 hg w14 hbox hb; have n0_ := Aside0.mk (below_step (mvB HB.out) hb); have n1_ := Aside0.mk (hbox); have n2_ := Aside0.mk ((by rw [hg]; exact (below_size (mvB HB.out)) : w.heap.size ≤ gb227)); have n3_ := Aside0.mk ((by rw [hg]; exact (below_size (mvB HB.out)) : w.heap.size ≤ gb227)); clear HB; have HB := n0_; have BK227 := n1_; have GW227 := n2_; have GE227 := n3_; clear n0_ n1_ n2_ n3_; clear hb hbox hg; have hcz15_0 : w14.cell? ⟨gb227, 0, none⟩ = some (.int .i64 a0_0) := (blk_cell BK227.out 0).trans rfl; have hcz15_1 : w14.cell? ⟨gb227, 1, none⟩ = some (.int .i64 a0_1) := (blk_cell BK227.out 1).trans rfl; have hcz15_2 : w14.cell? ⟨gb227, 2, none⟩ = some (.string a0_2) := (blk_cell BK227.out 2).trans rfl; have hcz15_3 : w14.cell? ⟨gb227, 3, none⟩ = some (.int .i64 a0_3) := (blk_cell BK227.out 3).trans rfl; have hcz15_4 : w14.cell? ⟨gb227, 4, none⟩ = some (.int .i64 a0_4) := (blk_cell BK227.out 4).trans rfl; have hcz15_5 : w14.cell? ⟨gb227, 5, none⟩ = some (.slice A0_5 l0_5.length c0_5) := (blk_cell BK227.out 5).trans rfl; have hfz15_0 := blk_frozen BK227.out 0; have hfz15_1 := blk_frozen BK227.out 1; have hfz15_2 := blk_frozen BK227.out 2; have hfz15_3 := blk_frozen BK227.out 3; have hfz15_4 := blk_frozen BK227.out 4; have hfz15_5 := blk_frozen BK227.out 5) | ((with_reducible refine gate_callee (f := 65) rfl ?_); refine goesL_ (some 22) rfl rfl Tryd.func65 (by kernel_rfl) rfl #[.string a1, .string a0_2] rfl (by (try simp only [List.map_toArray, List.map_cons, List.map_nil]); first | done | rfl | (simp only [List.length_drop, List.length_take]; rfl)) ?_; (with_reducible refine (cmp_Compare_string.calls a1 a0_2 t230 _ A13.out).mono ?_); rintro e w' ⟨rfl, ⟨nd, rfl⟩⟩; refine ⟨_, rfl, ?_⟩))
   go_ret
   exact ⟨by first | rfl | (simp [errW_none, errW_some] <;> rfl) | (simp [*, errW_none, errW_some] <;> rfl) | exact congrArg (fun b_ => Ending.returned (.bool b_)) (decide_eq_decide.2 (by unfold wrap64; omega)), mvG HB.out GE227.out⟩

/-! ### need_holds: function 33 -/
def need_holds.f (k : Nat) (a0_0 : Int) (a0_1 : Int) (a0_2 : ByteArray) (a0_3 : Int) (a0_4 : Int) (l0_5 : List (S24)) (a1 : ByteArray) : Option (Bool) := if a0_0 = 7 then ((strings_HasPrefix.f a1 a0_2).bind fun t232 => (some t232)) else (if a0_0 = 8 then ((strings_HasSuffix.f a1 a0_2).bind fun t233 => (some t233)) else (if a0_0 = 9 then ((strings_Contains.f a1 a0_2).bind fun t234 => (some t234)) else (if a0_0 = 10 then ((like_Parse.f k a0_2 a0_3).bind fun bt235 => ((like_Match.f bt235.1 a1).bind fun t239 => (some t239))) else ((need_order.f k a0_0 a0_1 a0_2 a0_3 a0_4 l0_5 a1).bind fun t240 => ((some (([(t240 == 0), (t240 != 0), decide (t240 < 0), decide (t240 ≤ 0), decide (t240 > 0), decide (t240 ≥ 0)] : List Bool) : List Bool)).bind fun y241 => (if 0 ≤ (wrap64 (a0_0 - 1)) then (if (wrap64 (a0_0 - 1)) < (y241.length : Int) then (some (rdOf false y241 (wrap64 (a0_0 - 1)))) else (none)) else (none)))))))
theorem need_holds.mono : ∀ a0 a1 a2 a3 a4 a5 a6 k, LeO (need_holds.f k a0 a1 a2 a3 a4 a5 a6) (need_holds.f (k + 1) a0 a1 a2 a3 a4 a5 a6) := by
 intro a0 a1 a2 a3 a4 a5 a6 k
 unfold need_holds.f
 repeat' first
   | (with_reducible exact like_Parse.mono _ _ _)
   | (with_reducible exact need_order.mono _ _ _ _ _ _ _ _)
   | (with_reducible exact LeO.refl _)
   | (with_reducible exact LeO.none _)
   | (with_reducible refine LeO.ite ?_ ?_)
   | (with_reducible refine LeO.bind ?_ (fun _ => ?_))
   | exact like_Parse.mono _ _ _
   | exact need_order.mono _ _ _ _ _ _ _ _
   | exact LeO.none _
   | refine LeO.ite ?_ ?_
   | refine LeO.bind ?_ (fun _ => ?_)
set_option maxHeartbeats 8000000 in
set_option maxRecDepth 100000 in
theorem need_holds.calls (k : Nat) (a0_0 : Int) (a0_1 : Int) (a0_2 : ByteArray) (a0_3 : Int) (a0_4 : Int) (A0_5 : Option Addr) (c0_5 : Nat) (l0_5 : List (S24)) (a1 : ByteArray) (r : Bool) (w : World) (hr0_5 : Kd.C k24 w A0_5 l0_5.length l0_5) (hc0_5 : l0_5.length ≤ c0_5) (hT : Facts w) (h : need_holds.f k a0_0 a0_1 a0_2 a0_3 a0_4 l0_5 a1 = some r) :
  Calls Tryd.prog 33 #[.agg #[.int .i64 a0_0, .int .i64 a0_1, .string a0_2, .int .i64 a0_3, .int .i64 a0_4, .slice A0_5 l0_5.length c0_5], .string a1] w fun e w' => e = .returned (.bool r) ∧ Below w.heap.size w w' := by
 have hu24 := Tryd.underlying24
 have HT := Aside0.mk hT
 clear hT
 have HR0_5 := Aside0.mk hr0_5
 have HC0_5 := Aside0.mk hc0_5
 clear hr0_5 hc0_5
 have HB := Aside0.mk (Below.refl w.heap.size w)
 have H : (if a0_0 = 7 then ((strings_HasPrefix.f a1 a0_2).bind fun t232 => (some t232)) else (if a0_0 = 8 then ((strings_HasSuffix.f a1 a0_2).bind fun t233 => (some t233)) else (if a0_0 = 9 then ((strings_Contains.f a1 a0_2).bind fun t234 => (some t234)) else (if a0_0 = 10 then ((like_Parse.f k a0_2 a0_3).bind fun bt235 => ((like_Match.f bt235.1 a1).bind fun t239 => (some t239))) else ((need_order.f k a0_0 a0_1 a0_2 a0_3 a0_4 l0_5 a1).bind fun t240 => ((some (([(t240 == 0), (t240 != 0), decide (t240 < 0), decide (t240 ≤ 0), decide (t240 > 0), decide (t240 ≥ 0)] : List Bool) : List Bool)).bind fun y241 => (if 0 ≤ (wrap64 (a0_0 - 1)) then (if (wrap64 (a0_0 - 1)) < (y241.length : Int) then (some (rdOf false y241 (wrap64 (a0_0 - 1)))) else (none)) else (none)))))))) = some r := h
 clear h
 by_cases c3 : a0_0 = 7
 ·rw [if_pos c3] at H
  have c3b0 : (a0_0 == 7) = true := beq_iff_eq.mpr c3
  have c3b1 : (a0_0 != 7) = false := bne_eq_false_iff_eq.mpr c3
  clear c3
  replace H := Option.bind_eq_some_iff.mp H
  obtain ⟨t232, A40, H⟩ := H
  replace H : (some t232) = some r := H
  have A4 := Aside0.mk A40
  clear A40
  obtain rfl := Option.some.inj H
  go_enter Tryd.func33, Tryd.ntmps33
  go_wp2_with (first | ((with_reducible refine gate_dst (N := 2) rfl ?_); refine box_event ?hg (N := 2) ?hd (cs := #[.int .i64 a0_0, .int .i64 a0_1, .string a0_2, .int .i64 a0_3, .int .i64 a0_4, .slice A0_5 l0_5.length c0_5]) (t := 24) ?hr ?_; (case hd => rfl); (case hg => rfl); (case hr => first | (go_simp; done) | (go_simp; rfl) | (go_simp; simp (disch := omega) only [Go.u8_and63, Go.u8_and31, Go.u8_and15, Go.u8_and7, Go.u8_or128, Go.u8_or192, Go.u8_or224, Go.u8_or240, m64]; done)); intro gb231 hg w5 hbox hb; have n0_ := Aside0.mk (below_step (mvB HB.out) hb); have n1_ := Aside0.mk (hbox); have n2_ := Aside0.mk ((by rw [hg]; exact (below_size (mvB HB.out)) : w.heap.size ≤ gb231)); have n3_ := Aside0.mk ((by rw [hg]; exact (below_size (mvB HB.out)) : w.heap.size ≤ gb231)); clear HB; have HB := n0_; have BK231 := n1_; have GW231 := n2_; have GE231 := n3_; clear n0_ n1_ n2_ n3_; clear hb hbox hg; have hcz6_0 : w5.cell? ⟨gb231, 0, none⟩ = some (.int .i64 a0_0) := (blk_cell BK231.out 0).trans rfl; have hcz6_1 : w5.cell? ⟨gb231, 1, none⟩ = some (.int .i64 a0_1) := (blk_cell BK231.out 1).trans rfl; have hcz6_2 : w5.cell? ⟨gb231, 2, none⟩ = some (.string a0_2) := (blk_cell BK231.out 2).trans rfl; have hcz6_3 : w5.cell? ⟨gb231, 3, none⟩ = some (.int .i64 a0_3) := (blk_cell BK231.out 3).trans rfl; have hcz6_4 : w5.cell? ⟨gb231, 4, none⟩ = some (.int .i64 a0_4) := (blk_cell BK231.out 4).trans rfl; have hcz6_5 : w5.cell? ⟨gb231, 5, none⟩ = some (.slice A0_5 l0_5.length c0_5) := (blk_cell BK231.out 5).trans rfl; have hfz6_0 := blk_frozen BK231.out 0; have hfz6_1 := blk_frozen BK231.out 1; have hfz6_2 := blk_frozen BK231.out 2; have hfz6_3 := blk_frozen BK231.out 3; have hfz6_4 := blk_frozen BK231.out 4; have hfz6_5 := blk_frozen BK231.out 5) | ((with_reducible refine gate_callee (f := 47) rfl ?_); refine goesL_ (some 15) rfl rfl Tryd.func47 (by kernel_rfl) rfl #[.string a1, .string a0_2] rfl (by (try simp only [List.map_toArray, List.map_cons, List.map_nil]); first | done | rfl | (simp only [List.length_drop, List.length_take]; rfl)) ?_; (with_reducible refine (strings_HasPrefix.calls a1 a0_2 t232 _ A4.out).mono ?_); rintro e w' ⟨rfl, ⟨nd, rfl⟩⟩; refine ⟨_, rfl, ?_⟩))
  go_ret
  exact ⟨by first | rfl | (simp [errW_none, errW_some] <;> rfl) | (simp [*, errW_none, errW_some] <;> rfl) | exact congrArg (fun b_ => Ending.returned (.bool b_)) (decide_eq_decide.2 (by unfold wrap64; omega)), mvG HB.out GE231.out⟩
 ·rw [if_neg c3] at H
  have c3b0 : (a0_0 == 7) = false := beq_eq_false_iff_ne.mpr c3
  have c3b1 : (a0_0 != 7) = true := bne_iff_ne.mpr c3
  by_cases c7 : a0_0 = 8
  ·rw [if_pos c7] at H
   have c7b0 : (a0_0 == 8) = true := beq_iff_eq.mpr c7
   have c7b1 : (a0_0 != 8) = false := bne_eq_false_iff_eq.mpr c7
   clear c7
   replace H := Option.bind_eq_some_iff.mp H
   obtain ⟨t233, A80, H⟩ := H
   replace H : (some t233) = some r := H
   have A8 := Aside0.mk A80
   clear A80
   obtain rfl := Option.some.inj H
   go_enter Tryd.func33, Tryd.ntmps33
   go_wp2_with (first | ((with_reducible refine gate_dst (N := 2) rfl ?_); refine box_event ?hg (N := 2) ?hd (cs := #[.int .i64 a0_0, .int .i64 a0_1, .string a0_2, .int .i64 a0_3, .int .i64 a0_4, .slice A0_5 l0_5.length c0_5]) (t := 24) ?hr ?_; (case hd => rfl); (case hg => rfl); (case hr => first | (go_simp; done) | (go_simp; rfl) | (go_simp; simp (disch := omega) only [Go.u8_and63, Go.u8_and31, Go.u8_and15, Go.u8_and7, Go.u8_or128, Go.u8_or192, Go.u8_or224, Go.u8_or240, m64]; done)); intro gb231 hg w9 hbox hb; have n0_ := Aside0.mk (below_step (mvB HB.out) hb); have n1_ := Aside0.mk (hbox); have n2_ := Aside0.mk ((by rw [hg]; exact (below_size (mvB HB.out)) : w.heap.size ≤ gb231)); have n3_ := Aside0.mk ((by rw [hg]; exact (below_size (mvB HB.out)) : w.heap.size ≤ gb231)); clear HB; have HB := n0_; have BK231 := n1_; have GW231 := n2_; have GE231 := n3_; clear n0_ n1_ n2_ n3_; clear hb hbox hg; have hcz10_0 : w9.cell? ⟨gb231, 0, none⟩ = some (.int .i64 a0_0) := (blk_cell BK231.out 0).trans rfl; have hcz10_1 : w9.cell? ⟨gb231, 1, none⟩ = some (.int .i64 a0_1) := (blk_cell BK231.out 1).trans rfl; have hcz10_2 : w9.cell? ⟨gb231, 2, none⟩ = some (.string a0_2) := (blk_cell BK231.out 2).trans rfl; have hcz10_3 : w9.cell? ⟨gb231, 3, none⟩ = some (.int .i64 a0_3) := (blk_cell BK231.out 3).trans rfl; have hcz10_4 : w9.cell? ⟨gb231, 4, none⟩ = some (.int .i64 a0_4) := (blk_cell BK231.out 4).trans rfl; have hcz10_5 : w9.cell? ⟨gb231, 5, none⟩ = some (.slice A0_5 l0_5.length c0_5) := (blk_cell BK231.out 5).trans rfl; have hfz10_0 := blk_frozen BK231.out 0; have hfz10_1 := blk_frozen BK231.out 1; have hfz10_2 := blk_frozen BK231.out 2; have hfz10_3 := blk_frozen BK231.out 3; have hfz10_4 := blk_frozen BK231.out 4; have hfz10_5 := blk_frozen BK231.out 5) | ((with_reducible refine gate_callee (f := 48) rfl ?_); refine goesL_ (some 21) rfl rfl Tryd.func48 (by kernel_rfl) rfl #[.string a1, .string a0_2] rfl (by (try simp only [List.map_toArray, List.map_cons, List.map_nil]); first | done | rfl | (simp only [List.length_drop, List.length_take]; rfl)) ?_; (with_reducible refine (strings_HasSuffix.calls a1 a0_2 t233 _ A8.out).mono ?_); rintro e w' ⟨rfl, ⟨nd, rfl⟩⟩; refine ⟨_, rfl, ?_⟩))
   go_ret
   exact ⟨by first | rfl | (simp [errW_none, errW_some] <;> rfl) | (simp [*, errW_none, errW_some] <;> rfl) | exact congrArg (fun b_ => Ending.returned (.bool b_)) (decide_eq_decide.2 (by unfold wrap64; omega)), mvG HB.out GE231.out⟩
  ·rw [if_neg c7] at H
   have c7b0 : (a0_0 == 8) = false := beq_eq_false_iff_ne.mpr c7
   have c7b1 : (a0_0 != 8) = true := bne_iff_ne.mpr c7
   by_cases c11 : a0_0 = 9
   ·rw [if_pos c11] at H
    have c11b0 : (a0_0 == 9) = true := beq_iff_eq.mpr c11
    have c11b1 : (a0_0 != 9) = false := bne_eq_false_iff_eq.mpr c11
    clear c11
    replace H := Option.bind_eq_some_iff.mp H
    obtain ⟨t234, A120, H⟩ := H
    replace H : (some t234) = some r := H
    have A12 := Aside0.mk A120
    clear A120
    obtain rfl := Option.some.inj H
    go_enter Tryd.func33, Tryd.ntmps33
    go_wp2_with (first | ((with_reducible refine gate_dst (N := 2) rfl ?_); refine box_event ?hg (N := 2) ?hd (cs := #[.int .i64 a0_0, .int .i64 a0_1, .string a0_2, .int .i64 a0_3, .int .i64 a0_4, .slice A0_5 l0_5.length c0_5]) (t := 24) ?hr ?_; (case hd => rfl); (case hg => rfl); (case hr => first | (go_simp; done) | (go_simp; rfl) | (go_simp; simp (disch := omega) only [Go.u8_and63, Go.u8_and31, Go.u8_and15, Go.u8_and7, Go.u8_or128, Go.u8_or192, Go.u8_or224, Go.u8_or240, m64]; done)); intro gb231 hg w13 hbox hb; have n0_ := Aside0.mk (below_step (mvB HB.out) hb); have n1_ := Aside0.mk (hbox); have n2_ := Aside0.mk ((by rw [hg]; exact (below_size (mvB HB.out)) : w.heap.size ≤ gb231)); have n3_ := Aside0.mk ((by rw [hg]; exact (below_size (mvB HB.out)) : w.heap.size ≤ gb231)); clear HB; have HB := n0_; have BK231 := n1_; have GW231 := n2_; have GE231 := n3_; clear n0_ n1_ n2_ n3_; clear hb hbox hg; have hcz14_0 : w13.cell? ⟨gb231, 0, none⟩ = some (.int .i64 a0_0) := (blk_cell BK231.out 0).trans rfl; have hcz14_1 : w13.cell? ⟨gb231, 1, none⟩ = some (.int .i64 a0_1) := (blk_cell BK231.out 1).trans rfl; have hcz14_2 : w13.cell? ⟨gb231, 2, none⟩ = some (.string a0_2) := (blk_cell BK231.out 2).trans rfl; have hcz14_3 : w13.cell? ⟨gb231, 3, none⟩ = some (.int .i64 a0_3) := (blk_cell BK231.out 3).trans rfl; have hcz14_4 : w13.cell? ⟨gb231, 4, none⟩ = some (.int .i64 a0_4) := (blk_cell BK231.out 4).trans rfl; have hcz14_5 : w13.cell? ⟨gb231, 5, none⟩ = some (.slice A0_5 l0_5.length c0_5) := (blk_cell BK231.out 5).trans rfl; have hfz14_0 := blk_frozen BK231.out 0; have hfz14_1 := blk_frozen BK231.out 1; have hfz14_2 := blk_frozen BK231.out 2; have hfz14_3 := blk_frozen BK231.out 3; have hfz14_4 := blk_frozen BK231.out 4; have hfz14_5 := blk_frozen BK231.out 5) | ((with_reducible refine gate_callee (f := 49) rfl ?_); refine goesL_ (some 27) rfl rfl Tryd.func49 (by kernel_rfl) rfl #[.string a1, .string a0_2] rfl (by (try simp only [List.map_toArray, List.map_cons, List.map_nil]); first | done | rfl | (simp only [List.length_drop, List.length_take]; rfl)) ?_; (with_reducible refine (strings_Contains.calls a1 a0_2 t234 _ ?side1 A12.out).mono ?_); (case side1 => first | exact HT.out | exact Facts.below HT.out (mvG HB.out GE231.out) | exact Facts.below HT.out HB.out | (repeat (first | exact HT.out | refine Facts.drewN ?_ _ | refine Facts.drew ?_ | refine Facts.alloc ?_ _))); rintro e w' ⟨rfl, ⟨nd, rfl⟩⟩; refine ⟨_, rfl, ?_⟩))
    go_ret
    exact ⟨by first | rfl | (simp [errW_none, errW_some] <;> rfl) | (simp [*, errW_none, errW_some] <;> rfl) | exact congrArg (fun b_ => Ending.returned (.bool b_)) (decide_eq_decide.2 (by unfold wrap64; omega)), mvG HB.out GE231.out⟩
   ·rw [if_neg c11] at H
    have c11b0 : (a0_0 == 9) = false := beq_eq_false_iff_ne.mpr c11
    have c11b1 : (a0_0 != 9) = true := bne_iff_ne.mpr c11
    by_cases c15 : a0_0 = 10
    ·rw [if_pos c15] at H
     have c15b0 : (a0_0 == 10) = true := beq_iff_eq.mpr c15
     have c15b1 : (a0_0 != 10) = false := bne_eq_false_iff_eq.mpr c15
     clear c15
     replace H := Option.bind_eq_some_iff.mp H
     obtain ⟨⟨t235, t236⟩, A160, H⟩ := H
     replace H : ((like_Match.f t235 a1).bind fun t239 => (some t239)) = some r := H
     have A16 := Aside0.mk A160
     clear A160
     replace H := Option.bind_eq_some_iff.mp H
     obtain ⟨t239, A170, H⟩ := H
     replace H : (some t239) = some r := H
     have A17 := Aside0.mk A170
     clear A170
     obtain rfl := Option.some.inj H
     go_enter Tryd.func33, Tryd.ntmps33
     go_wp2_with (first | ((with_reducible refine gate_dst (N := 2) rfl ?_); refine box_event ?hg (N := 2) ?hd (cs := #[.int .i64 a0_0, .int .i64 a0_1, .string a0_2, .int .i64 a0_3, .int .i64 a0_4, .slice A0_5 l0_5.length c0_5]) (t := 24) ?hr ?_; (case hd => rfl); (case hg => rfl); (case hr => first | (go_simp; done) | (go_simp; rfl) | (go_simp; simp (disch := omega) only [Go.u8_and63, Go.u8_and31, Go.u8_and15, Go.u8_and7, Go.u8_or128, Go.u8_or192, Go.u8_or224, Go.u8_or240, m64]; done)); intro gb231 hg w18 hbox hb; have n0_ := Aside0.mk (below_step (mvB HB.out) hb); have n1_ := Aside0.mk (hbox); have n2_ := Aside0.mk ((by rw [hg]; exact (below_size (mvB HB.out)) : w.heap.size ≤ gb231)); have n3_ := Aside0.mk ((by rw [hg]; exact (below_size (mvB HB.out)) : w.heap.size ≤ gb231)); clear HB; have HB := n0_; have BK231 := n1_; have GW231 := n2_; have GE231 := n3_; clear n0_ n1_ n2_ n3_; clear hb hbox hg; have hcz19_0 : w18.cell? ⟨gb231, 0, none⟩ = some (.int .i64 a0_0) := (blk_cell BK231.out 0).trans rfl; have hcz19_1 : w18.cell? ⟨gb231, 1, none⟩ = some (.int .i64 a0_1) := (blk_cell BK231.out 1).trans rfl; have hcz19_2 : w18.cell? ⟨gb231, 2, none⟩ = some (.string a0_2) := (blk_cell BK231.out 2).trans rfl; have hcz19_3 : w18.cell? ⟨gb231, 3, none⟩ = some (.int .i64 a0_3) := (blk_cell BK231.out 3).trans rfl; have hcz19_4 : w18.cell? ⟨gb231, 4, none⟩ = some (.int .i64 a0_4) := (blk_cell BK231.out 4).trans rfl; have hcz19_5 : w18.cell? ⟨gb231, 5, none⟩ = some (.slice A0_5 l0_5.length c0_5) := (blk_cell BK231.out 5).trans rfl; have hfz19_0 := blk_frozen BK231.out 0; have hfz19_1 := blk_frozen BK231.out 1; have hfz19_2 := blk_frozen BK231.out 2; have hfz19_3 := blk_frozen BK231.out 3; have hfz19_4 := blk_frozen BK231.out 4; have hfz19_5 := blk_frozen BK231.out 5) | ((with_reducible refine gate_callee (f := 40) rfl ?_); refine goesL_ (some 35) rfl rfl Tryd.func40 (by kernel_rfl) rfl #[.string a0_2, .int .i64 a0_3] rfl (by (try simp only [List.map_toArray, List.map_cons, List.map_nil]); first | done | rfl | (simp only [List.length_drop, List.length_take]; rfl)) ?_; (with_reducible refine (like_Parse.calls k a0_2 a0_3 t235 t236 _ A16.out).mono ?_); rintro e w20 ⟨v237, rfl, ho0, hb⟩; refine ⟨_, rfl, ?_⟩; have n0_ := Aside0.mk (Kd.R_lower ho0 (below_size (mvG HB.out GE231.out))); have n1_ := Aside0.mk (blk_below (g := gb231) (o := .cells #[.int .i64 a0_0, .int .i64 a0_1, .string a0_2, .int .i64 a0_3, .int .i64 a0_4, .slice A0_5 l0_5.length c0_5] 24 (0, 0)) (mvK BK231.out) hb); have n2_ := Aside0.mk (below_step (mvG HB.out GE231.out) hb); clear BK231; clear HB; have HO238 := n0_; have BK231 := n1_; have HB := n2_; clear n0_ n1_ n2_; (try clear hb); (try clear hb2); (try clear hk); (try clear hi); (try clear ho0); obtain ⟨Ao21, co21, eo21⟩ := Kd.R_slice HO238.out; subst eo21) | ((with_reducible refine gate_callee (f := 50) rfl ?_); refine goesL_ (some 40) rfl rfl Tryd.func50 (by kernel_rfl) rfl #[.slice Ao21 t235.length co21, .string a1] rfl (by (try simp only [List.map_toArray, List.map_cons, List.map_nil]); first | done | rfl | (simp only [List.length_drop, List.length_take]; rfl)) ?_; (with_reducible refine (like_Match.calls _ _ t235 a1 t239 _ ?side1 ?side2 A17.out).mono ?_); (case side1 => repeat (first | exact (Kd.R_reads' HO238.out).2.2 | (with_reducible refine Kd.C_alloc ?_ _) | (with_reducible refine Kd.C_drewN ?_ _) | (with_reducible refine Kd.C_drew ?_))); (case side2 => exact (Kd.R_reads' HO238.out).2.1); rintro e w' ⟨rfl, ⟨nd, rfl⟩⟩; refine ⟨_, rfl, ?_⟩))
     go_ret
     exact ⟨by first | rfl | (simp [errW_none, errW_some] <;> rfl) | (simp [*, errW_none, errW_some] <;> rfl) | exact congrArg (fun b_ => Ending.returned (.bool b_)) (decide_eq_decide.2 (by unfold wrap64; omega)), mvG HB.out GE231.out⟩
    ·rw [if_neg c15] at H
     have c15b0 : (a0_0 == 10) = false := beq_eq_false_iff_ne.mpr c15
     have c15b1 : (a0_0 != 10) = true := bne_iff_ne.mpr c15
     replace H := Option.bind_eq_some_iff.mp H
     obtain ⟨t240, A220, H⟩ := H
     replace H : ((some (([(t240 == 0), (t240 != 0), decide (t240 < 0), decide (t240 ≤ 0), decide (t240 > 0), decide (t240 ≥ 0)] : List Bool) : List Bool)).bind fun y241 => (if 0 ≤ (wrap64 (a0_0 - 1)) then (if (wrap64 (a0_0 - 1)) < (y241.length : Int) then (some (rdOf false y241 (wrap64 (a0_0 - 1)))) else (none)) else (none))) = some r := H
     have A22 := Aside0.mk A220
     clear A220
     obtain ⟨y241, hy241⟩ : ∃ y_ : List Bool, y_ = (([(t240 == 0), (t240 != 0), decide (t240 < 0), decide (t240 ≤ 0), decide (t240 > 0), decide (t240 ≥ 0)] : List Bool)) := ⟨_, rfl⟩
     replace H : (if 0 ≤ (wrap64 (a0_0 - 1)) then (if (wrap64 (a0_0 - 1)) < (y241.length : Int) then (some (rdOf false y241 (wrap64 (a0_0 - 1)))) else (none)) else (none)) = some r := by first | (rw [hy241]; with_reducible exact H) | (have H2_ := (Option.bind_some _ _).symm.trans H; rw [hy241]; with_reducible exact H2_) | (have H2_ := (Option.bind_some _ _).symm.trans H; with_reducible exact H2_) | with_reducible exact H | (rw [hy241]; exact H) | exact H
     have Ny241 := Aside0.mk hy241
     clear hy241
     obtain ⟨ji23, hji23⟩ : ∃ j_ : Int, (wrap64 (a0_0 - 1)) = j_ := ⟨_, rfl⟩
     replace H : (if 0 ≤ (ji23) then (if (ji23) < (y241.length : Int) then (some (rdOf false y241 (ji23))) else (none)) else (none)) = some r := by first | (rw [hji23] at H; exact H) | (simp only [hji23] at H ⊢; exact H)
     (try rw [hji23] at A22)
     have hji23w : (IntKind.i64.wrap (a0_0 - 1)) = ji23 := (i64_w _).trans hji23
     by_cases c24 : 0 ≤ (ji23)
     ·rw [if_pos c24] at H
      have c24b0 : decide (0 ≤ (ji23)) = true := decide_eq_true c24
      clear c24
      by_cases c25 : (ji23) < (y241.length : Int)
      ·rw [if_pos c25] at H
       have c25b0 : decide ((ji23) < (y241.length : Int)) = true := decide_eq_true c25
       clear c25
       obtain rfl := Option.some.inj H
       go_enter Tryd.func33, Tryd.ntmps33
       go_wp2_with (first | ((with_reducible refine gate_dst (N := 2) rfl ?_); refine box_event ?hg (N := 2) ?hd (cs := #[.int .i64 a0_0, .int .i64 a0_1, .string a0_2, .int .i64 a0_3, .int .i64 a0_4, .slice A0_5 l0_5.length c0_5]) (t := 24) ?hr ?_; (case hd => rfl); (case hg => rfl); (case hr => first | (go_simp; done) | (go_simp; rfl) | (go_simp; simp (disch := omega) only [Go.u8_and63, Go.u8_and31, Go.u8_and15, Go.u8_and7, Go.u8_or128, Go.u8_or192, Go.u8_or224, Go.u8_or240, m64]; done)); intro gb231 hg w26 hbox hb; have n0_ := Aside0.mk (below_step (mvB HB.out) hb); have n1_ := Aside0.mk (hbox); have n2_ := Aside0.mk ((by rw [hg]; exact (below_size (mvB HB.out)) : w.heap.size ≤ gb231)); have n3_ := Aside0.mk ((by rw [hg]; exact (below_size (mvB HB.out)) : w.heap.size ≤ gb231)); clear HB; have HB := n0_; have BK231 := n1_; have GW231 := n2_; have GE231 := n3_; clear n0_ n1_ n2_ n3_; clear hb hbox hg; have hcz27_0 : w26.cell? ⟨gb231, 0, none⟩ = some (.int .i64 a0_0) := (blk_cell BK231.out 0).trans rfl; have hcz27_1 : w26.cell? ⟨gb231, 1, none⟩ = some (.int .i64 a0_1) := (blk_cell BK231.out 1).trans rfl; have hcz27_2 : w26.cell? ⟨gb231, 2, none⟩ = some (.string a0_2) := (blk_cell BK231.out 2).trans rfl; have hcz27_3 : w26.cell? ⟨gb231, 3, none⟩ = some (.int .i64 a0_3) := (blk_cell BK231.out 3).trans rfl; have hcz27_4 : w26.cell? ⟨gb231, 4, none⟩ = some (.int .i64 a0_4) := (blk_cell BK231.out 4).trans rfl; have hcz27_5 : w26.cell? ⟨gb231, 5, none⟩ = some (.slice A0_5 l0_5.length c0_5) := (blk_cell BK231.out 5).trans rfl; have hfz27_0 := blk_frozen BK231.out 0; have hfz27_1 := blk_frozen BK231.out 1; have hfz27_2 := blk_frozen BK231.out 2; have hfz27_3 := blk_frozen BK231.out 3; have hfz27_4 := blk_frozen BK231.out 4; have hfz27_5 := blk_frozen BK231.out 5) | ((with_reducible refine gate_callee (f := 51) rfl ?_); refine goesL_ (some 43) rfl rfl Tryd.func51 (by kernel_rfl) rfl #[.agg #[.int .i64 a0_0, .int .i64 a0_1, .string a0_2, .int .i64 a0_3, .int .i64 a0_4, .slice A0_5 l0_5.length c0_5], .string a1] rfl (by (try simp only [List.map_toArray, List.map_cons, List.map_nil]); first | done | rfl | (simp only [List.length_drop, List.length_take]; rfl)) ?_; (with_reducible refine (need_order.calls k a0_0 a0_1 a0_2 a0_3 a0_4 _ _ l0_5 a1 t240 _ ?side1 ?side2 ?side3 A22.out).mono ?_); (case side1 => repeat (first | exact (Kd.C_below HR0_5.out HB.out) | (with_reducible refine Kd.C_alloc ?_ _) | (with_reducible refine Kd.C_drewN ?_ _) | (with_reducible refine Kd.C_drew ?_))); (case side2 => exact HC0_5.out); (case side3 => first | exact HT.out | exact Facts.below HT.out (mvG HB.out GE231.out) | exact Facts.below HT.out HB.out | (repeat (first | exact HT.out | refine Facts.drewN ?_ _ | refine Facts.drew ?_ | refine Facts.alloc ?_ _))); rintro e w28 ⟨rfl, hb⟩; refine ⟨_, rfl, ?_⟩; have n0_ := Aside0.mk (blk_below (g := gb231) (o := .cells #[.int .i64 a0_0, .int .i64 a0_1, .string a0_2, .int .i64 a0_3, .int .i64 a0_4, .slice A0_5 l0_5.length c0_5] 24 (0, 0)) (mvK BK231.out) hb); have n1_ := Aside0.mk (below_step (mvG HB.out GE231.out) hb); clear BK231; clear HB; have BK231 := n0_; have HB := n1_; clear n0_ n1_; (try clear hb); (try clear hb2); (try clear hk); (try clear hi)) | ((with_reducible refine gate_dst (N := 56) rfl ?_); refine Kd.R_lit Kd.bool _ 4 ?hg (N := 56) ?hd (xs := ([(t240 == 0), (t240 != 0), decide (t240 < 0), decide (t240 ≤ 0), decide (t240 > 0), decide (t240 ≥ 0)] : List Bool)) (inner := [.bool (t240 == 0), .bool (t240 != 0), .bool (decide (t240 < 0)), .bool (decide (t240 ≤ 0)), .bool (decide (t240 > 0)), .bool (decide (t240 ≥ 0))]) (ok := fun _ => True) (okp := fun _ => True) ?hr ?hp (fun _ hk => hk) trivial (Below.refl _ _) (Nat.le_refl _) (by simp) ?_; (case hd => rfl); (case hg => rfl); (case hr => first | (go_simp; done) | (go_simp; rfl) | (go_simp; simp (disch := omega) only [Go.u8_and63, Go.u8_and31, Go.u8_and15, Go.u8_and7, Go.u8_or128, Go.u8_or192, Go.u8_or224, Go.u8_or240, m64]; done)); (case hp => exact (Reps.one (show Kd.M Kd.bool _ _ _ (t240 == 0) [.bool (t240 == 0)] from rfl) (Reps.one (show Kd.M Kd.bool _ _ _ (t240 != 0) [.bool (t240 != 0)] from rfl) (Reps.one (show Kd.M Kd.bool _ _ _ (decide (t240 < 0)) [.bool (decide (t240 < 0))] from rfl) (Reps.one (show Kd.M Kd.bool _ _ _ (decide (t240 ≤ 0)) [.bool (decide (t240 ≤ 0))] from rfl) (Reps.one (show Kd.M Kd.bool _ _ _ (decide (t240 > 0)) [.bool (decide (t240 > 0))] from rfl) (Reps.one (show Kd.M Kd.bool _ _ _ (decide (t240 ≥ 0)) [.bool (decide (t240 ≥ 0))] from rfl) (Reps.none _ _)))))))); intro v242 w29 ho30 hb hg_ hnew_; clear hg_ hnew_; (first | rw [← Ny241.out] at ho30 | (simp only [Int.reduceToNat] at ho30; rw [← Ny241.out] at ho30)); have n0_ := Aside0.mk (Kd.R_lower ho30 (below_size (mvG HB.out GE231.out))); have n1_ := Aside0.mk (blk_below (g := gb231) (o := .cells #[.int .i64 a0_0, .int .i64 a0_1, .string a0_2, .int .i64 a0_3, .int .i64 a0_4, .slice A0_5 l0_5.length c0_5] 24 (0, 0)) (mvK BK231.out) hb); have n2_ := Aside0.mk (below_step (mvG HB.out GE231.out) hb); clear BK231; clear HB; have HO243 := n0_; have BK231 := n1_; have HB := n2_; clear n0_ n1_ n2_; clear hb ho30; have hcz31_0 : w29.cell? ⟨gb231, 0, none⟩ = some (.int .i64 a0_0) := (blk_cell BK231.out 0).trans rfl; have hcz31_1 : w29.cell? ⟨gb231, 1, none⟩ = some (.int .i64 a0_1) := (blk_cell BK231.out 1).trans rfl; have hcz31_2 : w29.cell? ⟨gb231, 2, none⟩ = some (.string a0_2) := (blk_cell BK231.out 2).trans rfl; have hcz31_3 : w29.cell? ⟨gb231, 3, none⟩ = some (.int .i64 a0_3) := (blk_cell BK231.out 3).trans rfl; have hcz31_4 : w29.cell? ⟨gb231, 4, none⟩ = some (.int .i64 a0_4) := (blk_cell BK231.out 4).trans rfl; have hcz31_5 : w29.cell? ⟨gb231, 5, none⟩ = some (.slice A0_5 l0_5.length c0_5) := (blk_cell BK231.out 5).trans rfl; have hfz31_0 := blk_frozen BK231.out 0; have hfz31_1 := blk_frozen BK231.out 1; have hfz31_2 := blk_frozen BK231.out 2; have hfz31_3 := blk_frozen BK231.out 3; have hfz31_4 := blk_frozen BK231.out 4; have hfz31_5 := blk_frozen BK231.out 5; obtain ⟨Ao32, co32, eo32⟩ := Kd.R_slice HO243.out; subst eo32; have p244 : 0 ≤ ((ji23) : Int) := of_decide_eq_true (by first | (with_reducible assumption) | assumption); have q244 : (ji23) < (y241.length : Int) := of_decide_eq_true (by first | (with_reducible assumption) | assumption); obtain ⟨ad244, e244, hx244_0⟩ := Kd.at_bool (Kd.R_reads' HO243.out).2.2 (ji23) p244 q244; cases e244; replace p244 := eq_true p244; replace q244 := eq_true q244))
       go_ret
       exact ⟨by first | rfl | (simp [errW_none, errW_some] <;> rfl) | (simp only [← hji23]; first | rfl | (simp [errW_none, errW_some] <;> rfl)) | (simp [*, errW_none, errW_some] <;> rfl) | exact congrArg (fun b_ => Ending.returned (.bool b_)) (decide_eq_decide.2 (by unfold wrap64; omega)), mvG HB.out GE231.out⟩
      ·rw [if_neg c25] at H
       exact absurd H (by simp)
     ·rw [if_neg c24] at H
      exact absurd H (by simp)

/-! ### need_Says: function 16 -/
-- told by hand
/-- The kids' answers: the one that settles it, Unknown, or the other one. -/
def bothL (g : S24 → Option Int) (settles : Int) : List S24 → Int → Option Int
 | [], out => some out
 | q :: qs, out => (g q).bind fun x => if x = settles then some settles else if x = 2 then bothL g settles qs 2 else bothL g settles qs out
def holdsP (k : Nat) (p : S24) (s : ByteArray) : Option Bool := need_holds.f k p.f0 p.f1 p.f2 p.f3 p.f4 p.f5 s
def saysLeaf (k : Nat) (p : S24) (v : S40) : Option Int := if p.f0 = 11 then need_yes.f v.f0 else if v.f0 = true then some 2 else (holdsP k p v.f1).bind fun b => need_yes.f b
def saysP : Nat → S24 → List S40 → Option Int
 | 0, _, _ => none
 | k + 1, p, row => if p.f0 = 12 then bothL (fun q => saysP k q row) 0 p.f5 1 else if p.f0 = 13 then bothL (fun q => saysP k q row) 1 p.f5 0 else
  if p.f0 = 14 then (if 0 < p.f5.length then (saysP k (p.f5.getD 0 z24) row).bind fun x => if x = 2 then some 2 else some (wrap64 (1 - x)) else none) else
  if 0 ≤ p.f1 then if p.f1 < (row.length : Int) then saysLeaf k p (rd_T40 row p.f1) else none else none
def need_Says.f (k : Nat) (a0_0 : Int) (a0_1 : Int) (a0_2 : ByteArray) (a0_3 : Int) (a0_4 : Int) (l0_5 : List S24) (l1 : List S40) : Option Int := saysP k ⟨a0_0, a0_1, a0_2, a0_3, a0_4, l0_5⟩ l1
/-- What a step below tells of the function itself. -/
def need_Says.IH (k : Nat) : Prop := ∀ (p : S24) (cs : List Value) (A1 : Option Addr) (c1 : Nat) (row : List S40) (r : Int) (w : World), k24.K w p cs → Kd.C k40 w A1 row.length row → row.length ≤ c1 → Facts w → saysP k p row = some r →
  Calls Tryd.prog 16 #[.agg cs.toArray, .slice A1 row.length c1] w fun e w' => e = .returned (.int .i64 r) ∧ Below w.heap.size w w'
set_option maxHeartbeats 4000000 in
set_option maxRecDepth 1000000 in
/-- The kids. -/
theorem need_Says.both (k : Nat) (ih : need_Says.IH k) (A0 : Option Addr) (c0 : Nat) (l0 : List S24) (A1 : Option Addr) (c1 : Nat) (row : List S40) (settles : Int) (r : Int) (w : World) (hr : Kd.C k24 w A0 l0.length l0) (hrow : Kd.C k40 w A1 row.length row) (hc1 : row.length ≤ c1) (hT : Facts w) (hs0 : 0 ≤ settles) (hs1 : settles ≤ 1) (h : bothL (fun q => saysP k q row) settles l0 (1 - settles) = some r) :
  Calls Tryd.prog 31 #[.slice A0 l0.length c0, .slice A1 row.length c1, .int .i64 settles] w fun e w' => e = .returned (.int .i64 r) ∧ Below w.heap.size w w' := by
 have hu := Tryd.underlying24
 have hn : l0.length ≤ 9223372036854775807 := hr.2.1
 have HR := Aside0.mk hr
 have HN := Aside0.mk hn
 have HH := Aside0.mk h
 have IH := Aside0.mk (fun (p : S24) (cs : List Value) (r : Int) (W : World) (hb : Below w.heap.size w W) (hK : k24.K W p cs) (hp : saysP k p row = some r) => ih p cs A1 c1 row r W hK (Kd.C_below hrow hb) hc1 (Facts.below hT hb) hp)
 have HAGG := Aside0.mk (show ∀ W, (isAgg 24).run Tryd.prog W = .ok true W from fun W => by first | exact Tryd.isAgg24 | exact Tryd.isAgg24 W | go_simp)
 have HSZ := Aside0.mk (show ∀ W, (sizeOf 24).run Tryd.prog W = .ok 6 W from fun W => by first | exact Tryd.sizeOf24 | exact Tryd.sizeOf24 W | go_simp)
 clear hr hn h ih hrow hc1 hT
 go_enter Tryd.func31, Tryd.ntmps31
 go_wp2
 go_loopg [7, 15] l0.length (fun gg s7 s15 wr => ∃ (i : Nat) (out : Int), s7 = .int .i64 out ∧ s15 = .int .i64 i ∧ i ≤ l0.length ∧ l0.length - i ≤ gg ∧ Aside0 (Below w.heap.size w wr) ∧ Aside0 (bothL (fun q => saysP k q row) settles (l0.drop i) out = some r))
 case atStart => exact ⟨0, 1 - settles, by first | rfl | go_num | (congr 1; unfold wrap64; omega), rfl, Nat.zero_le _, by omega, ⟨Below.refl _ w⟩, HH⟩
 case round =>
  clear HH
  obtain ⟨i, out, rfl, rfl, hi, hg, BW, HF⟩ := hrel
  have hn := HN.out
  by_cases hlt : i < l0.length
  ·have hltz : (i : Int) < (l0.length : Int) := by omega
   have hi0 : (0 : Int) ≤ (i : Int) := by omega
   have hks := HF.out
   rw [drop_getE z24 l0 i hlt] at hks
   simp only [bothL] at hks
   obtain ⟨x, hx, hks⟩ := Option.bind_eq_some_iff.1 hks
   obtain ⟨ad, c, e0, hcl, hKu, hcell⟩ := Kd.C_elem HR.out z24 i hlt
   replace hcell : ∀ j v, c[j]? = some v → w.cell? ((ad.add (i * 6)).add j) = some v := hcell
   replace hcl : c.length = 6 := hcl
   subst e0
   have HCALL := Aside0.mk (fun W (hb : Below w.heap.size w W) => IH.out (l0.getD i z24) c x W hb (k24.K_below hb hKu) hx)
   have HCLN := Aside0.mk hcl
   have HON := Aside0.mk (k24.K_one hKu)
   have HCELL := Aside0.mk (show ∀ j v, c[j]? = some v → wr.cell? ((ad.add (i * 6)).add j) = some v from fun j v hj => (BW.out.cell (World.block_lt_of_cell? w _ (hcell j v hj))).trans (hcell j v hj))
   clear hKu hx HF hcl hcell hn
   by_cases q1 : x = settles
   ·rw [if_pos q1] at hks
    obtain rfl := Option.some.inj hks
    have q1b : (x == settles) = true := beq_iff_eq.mpr q1
    clear hks q1
    go_wp2_with (first
     | ((with_reducible refine gate_dst (N := 18) rfl ?_); refine load_all rfl rfl (cs := c) rfl HAGG.out (fun W => by rw [HCLN.out]; exact HSZ.out W) HCELL.out ?_)
     | ((with_reducible refine gate_store (t := 24) (p := 9) rfl ?_); refine store_all (g := wr.heap.size) (cs := c.toArray) (t' := 24) rfl rfl rfl rfl rfl (fun W => by rw [List.size_toArray, HCLN.out]; exact HSZ.out W) (heap_alloc_new wr _) (by rw [List.size_toArray, HCLN.out]; rfl) (fun u hu => HON.out u (by simpa using hu)) ?_; intro w3 hbx hoth hs3 hos htp hou; have B3 := Aside0.mk (show Below wr.heap.size wr w3 from ⟨by rw [hos]; rfl, by rw [htp]; rfl, by rw [hou]; rfl, by rw [hs3]; simp, fun k hk => by rw [hoth k (Nat.ne_of_lt hk)]; exact Below.heap_alloc wr _ k hk⟩); have BX3 := Aside0.mk hbx; clear hbx hoth hs3 hos htp hou)
     | ((with_reducible refine gate_dst (N := 19) rfl ?_); refine load_all rfl rfl (cs := c) rfl HAGG.out (fun W => by rw [HCLN.out]; exact HSZ.out W) (blk_cells BX3.out) ?_)
     | (go_at_call 16; refine (HCALL.out _ (below_step BW.out B3.out)).mono ?_; rintro e w4 ⟨rfl, hb4⟩; have BW4 := Aside0.mk (below_step (below_step BW.out B3.out) hb4); clear hb4))
    go_ret
    exact ⟨rfl, BW4.out⟩
   rw [if_neg q1] at hks
   have q1b : (x == settles) = false := beq_eq_false_iff_ne.mpr q1
   clear q1
   by_cases q2 : x = 2
   ·rw [if_pos q2] at hks
    subst q2
    have HF := Aside0.mk hks
    clear hks
    go_wp2_with (first
     | ((with_reducible refine gate_dst (N := 18) rfl ?_); refine load_all rfl rfl (cs := c) rfl HAGG.out (fun W => by rw [HCLN.out]; exact HSZ.out W) HCELL.out ?_)
     | ((with_reducible refine gate_store (t := 24) (p := 9) rfl ?_); refine store_all (g := wr.heap.size) (cs := c.toArray) (t' := 24) rfl rfl rfl rfl rfl (fun W => by rw [List.size_toArray, HCLN.out]; exact HSZ.out W) (heap_alloc_new wr _) (by rw [List.size_toArray, HCLN.out]; rfl) (fun u hu => HON.out u (by simpa using hu)) ?_; intro w3 hbx hoth hs3 hos htp hou; have B3 := Aside0.mk (show Below wr.heap.size wr w3 from ⟨by rw [hos]; rfl, by rw [htp]; rfl, by rw [hou]; rfl, by rw [hs3]; simp, fun k hk => by rw [hoth k (Nat.ne_of_lt hk)]; exact Below.heap_alloc wr _ k hk⟩); have BX3 := Aside0.mk hbx; clear hbx hoth hs3 hos htp hou)
     | ((with_reducible refine gate_dst (N := 19) rfl ?_); refine load_all rfl rfl (cs := c) rfl HAGG.out (fun W => by rw [HCLN.out]; exact HSZ.out W) (blk_cells BX3.out) ?_)
     | (go_at_call 16; refine (HCALL.out _ (below_step BW.out B3.out)).mono ?_; rintro e w4 ⟨rfl, hb4⟩; have BW4 := Aside0.mk (below_step (below_step BW.out B3.out) hb4); clear hb4))
    go_roundg (l0.length - (i + 1))
    case measure => omega
    case rel => have hn := HN.out; exact ⟨i + 1, 2, rfl, by first | go_num | (congr 1; unfold wrap64; omega), by omega, by omega, BW4, HF⟩
   rw [if_neg q2] at hks
   have q2b : (x == 2) = false := beq_eq_false_iff_ne.mpr q2
   have HF := Aside0.mk hks
   clear hks q2
   go_wp2_with (first
     | ((with_reducible refine gate_dst (N := 18) rfl ?_); refine load_all rfl rfl (cs := c) rfl HAGG.out (fun W => by rw [HCLN.out]; exact HSZ.out W) HCELL.out ?_)
     | ((with_reducible refine gate_store (t := 24) (p := 9) rfl ?_); refine store_all (g := wr.heap.size) (cs := c.toArray) (t' := 24) rfl rfl rfl rfl rfl (fun W => by rw [List.size_toArray, HCLN.out]; exact HSZ.out W) (heap_alloc_new wr _) (by rw [List.size_toArray, HCLN.out]; rfl) (fun u hu => HON.out u (by simpa using hu)) ?_; intro w3 hbx hoth hs3 hos htp hou; have B3 := Aside0.mk (show Below wr.heap.size wr w3 from ⟨by rw [hos]; rfl, by rw [htp]; rfl, by rw [hou]; rfl, by rw [hs3]; simp, fun k hk => by rw [hoth k (Nat.ne_of_lt hk)]; exact Below.heap_alloc wr _ k hk⟩); have BX3 := Aside0.mk hbx; clear hbx hoth hs3 hos htp hou)
     | ((with_reducible refine gate_dst (N := 19) rfl ?_); refine load_all rfl rfl (cs := c) rfl HAGG.out (fun W => by rw [HCLN.out]; exact HSZ.out W) (blk_cells BX3.out) ?_)
     | (go_at_call 16; refine (HCALL.out _ (below_step BW.out B3.out)).mono ?_; rintro e w4 ⟨rfl, hb4⟩; have BW4 := Aside0.mk (below_step (below_step BW.out B3.out) hb4); clear hb4))
   go_roundg (l0.length - (i + 1))
   case measure => omega
   case rel => have hn := HN.out; exact ⟨i + 1, out, rfl, by first | go_num | (congr 1; unfold wrap64; omega), by omega, by omega, BW4, HF⟩
  ·have hltz : ¬ (i : Int) < (l0.length : Int) := by omega
   have hks := HF.out
   rw [List.drop_of_length_le (by omega)] at hks
   simp only [bothL] at hks
   obtain rfl := Option.some.inj hks
   clear hks HF hn
   go_wp2
   go_ret
   exact ⟨rfl, BW.out⟩
set_option maxHeartbeats 4000000 in
set_option maxRecDepth 1000000 in
theorem need_Says.core (k : Nat) : need_Says.IH k := by
 induction k with
 | zero => intro p cs A1 c1 row r w _ _ _ _ h; cases h
 | succ k ih =>
 intro p cs A1 c1 row r w hK hrow hc1 hT h
 have hup := Tryd.underlying24
 have huv := Tryd.underlying40
 have HAGG := Aside0.mk (show ∀ W, (isAgg 24).run Tryd.prog W = .ok true W from fun W => by first | exact Tryd.isAgg24 | exact Tryd.isAgg24 W | go_simp)
 have HSZ := Aside0.mk (show ∀ W, (sizeOf 24).run Tryd.prog W = .ok 6 W from fun W => by first | exact Tryd.sizeOf24 | exact Tryd.sizeOf24 W | go_simp)
 have HAGGV := Aside0.mk (show ∀ W, (isAgg 40).run Tryd.prog W = .ok true W from fun W => by first | exact Tryd.isAgg40 | exact Tryd.isAgg40 W | go_simp)
 have HSZV := Aside0.mk (show ∀ W, (sizeOf 40).run Tryd.prog W = .ok 2 W from fun W => by first | exact Tryd.sizeOf40 | exact Tryd.sizeOf40 W | go_simp)
 unfold saysP at h
 have HL6 := Aside0.mk (show cs.length = 6 from k24.K_len hK)
 obtain ⟨A5, c5, ecs, hl5, hk5⟩ := k24_open hK
 have H0 := Aside0.mk (show cs[0]? = some (.int .i64 p.f0) from by rw [ecs]; rfl)
 have H1 := Aside0.mk (show cs[1]? = some (.int .i64 p.f1) from by rw [ecs]; rfl)
 have H2 := Aside0.mk (show cs[2]? = some (.string p.f2) from by rw [ecs]; rfl)
 have H3 := Aside0.mk (show cs[3]? = some (.int .i64 p.f3) from by rw [ecs]; rfl)
 have H4 := Aside0.mk (show cs[4]? = some (.int .i64 p.f4) from by rw [ecs]; rfl)
 have H5 := Aside0.mk (show cs[5]? = some (.slice A5 p.f5.length c5) from by rw [ecs]; rfl)
 have HK5 := Aside0.mk hk5
 have HRW := Aside0.mk hrow
 have HC1 := Aside0.mk hc1
 have HT := Aside0.mk hT
 have IH := Aside0.mk ih
 have HHO0 := Aside0.mk (fun (s : ByteArray) (b : Bool) (hb : holdsP k p s = some b) W (hbl : Below w.heap.size w W) => show Calls Tryd.prog 33 #[.agg cs.toArray, .string s] W (fun e w' => e = .returned (.bool b) ∧ Below W.heap.size W w') from by rw [ecs]; exact need_holds.calls k p.f0 p.f1 p.f2 p.f3 p.f4 A5 c5 p.f5 s b W (Kd.C_below hk5 hbl) hl5 (Facts.below hT hbl) hb)
 clear hK hk5 hl5 ih ecs hrow hc1 hT
 by_cases q12 : p.f0 = 12
 ·rw [if_pos q12] at h
  have q12b : (p.f0 == 12) = true := beq_iff_eq.mpr q12
  clear q12 HHO0
  have HBT := Aside0.mk (fun W (hb : Below w.heap.size w W) => need_Says.both k IH.out A5 c5 p.f5 A1 c1 row 0 r W (Kd.C_below HK5.out hb) (Kd.C_below HRW.out hb) HC1.out (Facts.below HT.out hb) (by omega) (by omega) h)
  clear h
  go_enter Tryd.func16, Tryd.ntmps16
  go_wp2_with (first
   | ((with_reducible refine gate_dst (N := 2) rfl ?_); refine box_all rfl rfl (cs := cs.toArray) rfl (fun W => by rw [List.size_toArray, HL6.out]; exact HSZ.out W) ?_; intro w1 hbx hbw; have BW1 := Aside0.mk hbw; have BX1 := Aside0.mk hbx; have hcv0 : w1.cell? ⟨w.heap.size, 0, none⟩ = some (.int .i64 p.f0) := blk_cells BX1.out 0 _ H0.out; have hcv1 : w1.cell? ⟨w.heap.size, 1, none⟩ = some (.int .i64 p.f1) := blk_cells BX1.out 1 _ H1.out; have hcv5 : w1.cell? ⟨w.heap.size, 5, none⟩ = some (.slice A5 p.f5.length c5) := blk_cells BX1.out 5 _ H5.out; clear hbx hbw)
   | (go_at_call 31; refine (HBT.out _ BW1.out).mono ?_; rintro e w5 ⟨rfl, hb5⟩; have BW9 := Aside0.mk (below_step BW1.out hb5); clear hb5))
  go_ret
  exact ⟨rfl, BW9.out⟩
 rw [if_neg q12] at h
 have q12b : (p.f0 == 12) = false := beq_eq_false_iff_ne.mpr q12
 clear q12
 by_cases q13 : p.f0 = 13
 ·rw [if_pos q13] at h
  have q13b : (p.f0 == 13) = true := beq_iff_eq.mpr q13
  clear q13 HHO0
  have HBT := Aside0.mk (fun W (hb : Below w.heap.size w W) => need_Says.both k IH.out A5 c5 p.f5 A1 c1 row 1 r W (Kd.C_below HK5.out hb) (Kd.C_below HRW.out hb) HC1.out (Facts.below HT.out hb) (by omega) (by omega) h)
  clear h
  go_enter Tryd.func16, Tryd.ntmps16
  go_wp2_with (first
   | ((with_reducible refine gate_dst (N := 2) rfl ?_); refine box_all rfl rfl (cs := cs.toArray) rfl (fun W => by rw [List.size_toArray, HL6.out]; exact HSZ.out W) ?_; intro w1 hbx hbw; have BW1 := Aside0.mk hbw; have BX1 := Aside0.mk hbx; have hcv0 : w1.cell? ⟨w.heap.size, 0, none⟩ = some (.int .i64 p.f0) := blk_cells BX1.out 0 _ H0.out; have hcv1 : w1.cell? ⟨w.heap.size, 1, none⟩ = some (.int .i64 p.f1) := blk_cells BX1.out 1 _ H1.out; have hcv5 : w1.cell? ⟨w.heap.size, 5, none⟩ = some (.slice A5 p.f5.length c5) := blk_cells BX1.out 5 _ H5.out; clear hbx hbw)
   | (go_at_call 31; refine (HBT.out _ BW1.out).mono ?_; rintro e w5 ⟨rfl, hb5⟩; have BW9 := Aside0.mk (below_step BW1.out hb5); clear hb5))
  go_ret
  exact ⟨rfl, BW9.out⟩
 rw [if_neg q13] at h
 have q13b : (p.f0 == 13) = false := beq_eq_false_iff_ne.mpr q13
 clear q13
 by_cases q14 : p.f0 = 14
 ·rw [if_pos q14] at h
  have q14b : (p.f0 == 14) = true := beq_iff_eq.mpr q14
  clear q14 HHO0
  by_cases h0 : 0 < p.f5.length
  case neg => rw [if_neg h0] at h; cases h
  rw [if_pos h0] at h
  have h0z : (0 : Int) < (p.f5.length : Int) := by omega
  obtain ⟨x, hx, h⟩ := Option.bind_eq_some_iff.1 h
  obtain ⟨ad, c, e0, hcl, hKu, hcell⟩ := Kd.C_elem HK5.out z24 0 h0
  replace hcell : ∀ j v, c[j]? = some v → w.cell? ((ad.add (0 * 6)).add j) = some v := hcell
  replace hcl : c.length = 6 := hcl
  subst e0
  have HCALL := Aside0.mk (fun W (hb : Below w.heap.size w W) => IH.out (p.f5.getD 0 z24) c A1 c1 row x W (k24.K_below hb hKu) (Kd.C_below HRW.out hb) HC1.out (Facts.below HT.out hb) hx)
  have HCLN := Aside0.mk hcl
  have HCELL := Aside0.mk hcell
  clear hx hcl hcell hKu
  by_cases q2 : x = 2
  ·rw [if_pos q2] at h
   obtain rfl := Option.some.inj h
   subst q2
   clear h
   go_enter Tryd.func16, Tryd.ntmps16
   go_wp2_with (first
    | ((with_reducible refine gate_dst (N := 2) rfl ?_); refine box_all rfl rfl (cs := cs.toArray) rfl (fun W => by rw [List.size_toArray, HL6.out]; exact HSZ.out W) ?_; intro w1 hbx hbw; have BW1 := Aside0.mk hbw; have BX1 := Aside0.mk hbx; have hcv0 : w1.cell? ⟨w.heap.size, 0, none⟩ = some (.int .i64 p.f0) := blk_cells BX1.out 0 _ H0.out; have hcv1 : w1.cell? ⟨w.heap.size, 1, none⟩ = some (.int .i64 p.f1) := blk_cells BX1.out 1 _ H1.out; have hcv5 : w1.cell? ⟨w.heap.size, 5, none⟩ = some (.slice (some ad) p.f5.length c5) := blk_cells BX1.out 5 _ H5.out; clear hbx hbw)
    | ((with_reducible refine gate_dst (N := 26) rfl ?_); refine load_all rfl rfl (cs := c) rfl HAGG.out (fun W => by rw [HCLN.out]; exact HSZ.out W) (fun j v hj => by have h1 := (BW1.out.cell (World.block_lt_of_cell? w _ (HCELL.out j v hj))).trans (HCELL.out j v hj); first | exact h1 | simpa [Addr.add] using h1) ?_)
    | (go_at_call 16; refine (HCALL.out _ BW1.out).mono ?_; rintro e w5 ⟨rfl, hb5⟩; have BW9 := Aside0.mk (below_step BW1.out hb5); clear hb5))
   go_ret
   exact ⟨rfl, BW9.out⟩
  rw [if_neg q2] at h
  obtain rfl := Option.some.inj h
  have q2b : (x == 2) = false := beq_eq_false_iff_ne.mpr q2
  clear h q2
  go_enter Tryd.func16, Tryd.ntmps16
  go_wp2_with (first
   | ((with_reducible refine gate_dst (N := 2) rfl ?_); refine box_all rfl rfl (cs := cs.toArray) rfl (fun W => by rw [List.size_toArray, HL6.out]; exact HSZ.out W) ?_; intro w1 hbx hbw; have BW1 := Aside0.mk hbw; have BX1 := Aside0.mk hbx; have hcv0 : w1.cell? ⟨w.heap.size, 0, none⟩ = some (.int .i64 p.f0) := blk_cells BX1.out 0 _ H0.out; have hcv1 : w1.cell? ⟨w.heap.size, 1, none⟩ = some (.int .i64 p.f1) := blk_cells BX1.out 1 _ H1.out; have hcv5 : w1.cell? ⟨w.heap.size, 5, none⟩ = some (.slice (some ad) p.f5.length c5) := blk_cells BX1.out 5 _ H5.out; clear hbx hbw)
   | ((with_reducible refine gate_dst (N := 26) rfl ?_); refine load_all rfl rfl (cs := c) rfl HAGG.out (fun W => by rw [HCLN.out]; exact HSZ.out W) (fun j v hj => by have h1 := (BW1.out.cell (World.block_lt_of_cell? w _ (HCELL.out j v hj))).trans (HCELL.out j v hj); first | exact h1 | simpa [Addr.add] using h1) ?_)
   | (go_at_call 16; refine (HCALL.out _ BW1.out).mono ?_; rintro e w5 ⟨rfl, hb5⟩; have BW9 := Aside0.mk (below_step BW1.out hb5); clear hb5))
  go_ret
  exact ⟨rfl, BW9.out⟩
 rw [if_neg q14] at h
 have q14b : (p.f0 == 14) = false := beq_eq_false_iff_ne.mpr q14
 clear q14
 by_cases h0 : 0 ≤ p.f1
 case neg => rw [if_neg h0] at h; cases h
 rw [if_pos h0] at h
 by_cases hi : p.f1 < (row.length : Int)
 case neg => rw [if_neg hi] at h; cases h
 rw [if_pos hi] at h
 obtain ⟨j, ej⟩ : ∃ j : Nat, p.f1 = (j : Int) := ⟨p.f1.toNat, by omega⟩
 rw [ej] at h hi h0
 have HJ1 := Aside0.mk (show cs[1]? = some (.int .i64 (j : Int)) from by rw [← ej]; exact H1.out)
 clear ej H1
 have H1 := HJ1
 have hj : j < row.length := by omega
 have hnr : row.length ≤ 9223372036854775807 := HRW.out.2.1
 obtain ⟨ad, c, e0, hcl, hKu, hcell⟩ := Kd.C_elem HRW.out z40 j hj
 replace hcell : ∀ t v, c[t]? = some v → w.cell? ((ad.add (j * 2)).add t) = some v := hcell
 have e2 : rd_T40 row (j : Int) = row.getD j z40 := by unfold rd_T40; rw [show ((j : Int)).toNat = j by omega]
 rw [e2] at h
 clear e2 hcl
 subst e0
 generalize row.getD j z40 = v at h hKu
 obtain rfl := k40_open hKu
 obtain ⟨vn, vs⟩ := v
 have HCELL := Aside0.mk hcell
 clear hcell hKu
 unfold saysLeaf at h
 simp only at h
 by_cases q11 : p.f0 = 11
 ·rw [if_pos q11] at h
  have q11b : (p.f0 == 11) = true := beq_iff_eq.mpr q11
  have HY := Aside0.mk (fun W => need_yes.calls vn r W h)
  clear h q11 HHO0
  go_enter Tryd.func16, Tryd.ntmps16
  go_wp2_with (first
   | ((with_reducible refine gate_dst (N := 2) rfl ?_); refine box_all rfl rfl (cs := cs.toArray) rfl (fun W => by rw [List.size_toArray, HL6.out]; exact HSZ.out W) ?_; intro w1 hbx hbw; have BW1 := Aside0.mk hbw; have BX1 := Aside0.mk hbx; have hcv0 : w1.cell? ⟨w.heap.size, 0, none⟩ = some (.int .i64 p.f0) := blk_cells BX1.out 0 _ H0.out; have hcv1 : w1.cell? ⟨w.heap.size, 1, none⟩ = some (.int .i64 (j : Int)) := blk_cells BX1.out 1 _ H1.out; have hcv5 : w1.cell? ⟨w.heap.size, 5, none⟩ = some (.slice A5 p.f5.length c5) := blk_cells BX1.out 5 _ H5.out; clear hbx hbw)
   | ((with_reducible refine gate_dst (N := 38) rfl ?_); refine load_all rfl rfl (cs := [.bool vn, .string vs]) rfl HAGGV.out (fun W => HSZV.out W) (fun j v hj => (BW1.out.cell (World.block_lt_of_cell? w _ (HCELL.out j v hj))).trans (HCELL.out j v hj)) ?_)
   | ((with_reducible refine gate_store (t := 40) (p := 6) rfl ?_); refine store_all (g := w1.heap.size) (cs := #[.bool vn, .string vs]) (t' := 40) rfl rfl rfl rfl rfl (fun W => HSZV.out W) (heap_alloc_new w1 _) rfl (fun u hu => by have h2 : u = Value.bool vn ∨ u = Value.string vs := (by simpa using hu); rcases h2 with rfl | rfl <;> rfl) ?_; intro w3 hbx hoth hs3 hos htp hou; have B3 := Aside0.mk (show Below w1.heap.size w1 w3 from ⟨by rw [hos]; rfl, by rw [htp]; rfl, by rw [hou]; rfl, by rw [hs3]; simp, fun k hk => by rw [hoth k (Nat.ne_of_lt hk)]; exact Below.heap_alloc w1 _ k hk⟩); have BW3 := Aside0.mk (below_step BW1.out B3.out); have BX3 := Aside0.mk (blk_keep B3.out BX1.out); have hvn : w3.cell? ⟨w1.heap.size, 0, none⟩ = some (.bool vn) := blk_cells (cs := [.bool vn, .string vs]) hbx 0 _ rfl; have hvs : w3.cell? ⟨w1.heap.size, 1, none⟩ = some (.string vs) := blk_cells (cs := [.bool vn, .string vs]) hbx 1 _ rfl; clear hcv0 hcv1 hcv5; have hcv0 : w3.cell? ⟨w.heap.size, 0, none⟩ = some (.int .i64 p.f0) := blk_cells BX3.out 0 _ H0.out; clear hbx hoth hs3 hos htp hou)
   | (go_at_call 32; refine (HY.out _).mono ?_; rintro e w7 ⟨rfl, hd7⟩; have BW9 := Aside0.mk (below_step BW3.out hd7.below); clear hd7))
  go_ret
  exact ⟨rfl, BW9.out⟩
 rw [if_neg q11] at h
 have q11b : (p.f0 == 11) = false := beq_eq_false_iff_ne.mpr q11
 clear q11
 cases vn with
 | true =>
  rw [if_pos rfl] at h
  obtain rfl := Option.some.inj h
  clear h HHO0
  go_enter Tryd.func16, Tryd.ntmps16
  go_wp2_with (first
   | ((with_reducible refine gate_dst (N := 2) rfl ?_); refine box_all rfl rfl (cs := cs.toArray) rfl (fun W => by rw [List.size_toArray, HL6.out]; exact HSZ.out W) ?_; intro w1 hbx hbw; have BW1 := Aside0.mk hbw; have BX1 := Aside0.mk hbx; have hcv0 : w1.cell? ⟨w.heap.size, 0, none⟩ = some (.int .i64 p.f0) := blk_cells BX1.out 0 _ H0.out; have hcv1 : w1.cell? ⟨w.heap.size, 1, none⟩ = some (.int .i64 (j : Int)) := blk_cells BX1.out 1 _ H1.out; have hcv5 : w1.cell? ⟨w.heap.size, 5, none⟩ = some (.slice A5 p.f5.length c5) := blk_cells BX1.out 5 _ H5.out; clear hbx hbw)
   | ((with_reducible refine gate_dst (N := 38) rfl ?_); refine load_all rfl rfl (cs := [.bool true, .string vs]) rfl HAGGV.out (fun W => HSZV.out W) (fun j v hj => (BW1.out.cell (World.block_lt_of_cell? w _ (HCELL.out j v hj))).trans (HCELL.out j v hj)) ?_)
   | ((with_reducible refine gate_store (t := 40) (p := 6) rfl ?_); refine store_all (g := w1.heap.size) (cs := #[.bool true, .string vs]) (t' := 40) rfl rfl rfl rfl rfl (fun W => HSZV.out W) (heap_alloc_new w1 _) rfl (fun u hu => by have h2 : u = Value.bool true ∨ u = Value.string vs := (by simpa using hu); rcases h2 with rfl | rfl <;> rfl) ?_; intro w3 hbx hoth hs3 hos htp hou; have B3 := Aside0.mk (show Below w1.heap.size w1 w3 from ⟨by rw [hos]; rfl, by rw [htp]; rfl, by rw [hou]; rfl, by rw [hs3]; simp, fun k hk => by rw [hoth k (Nat.ne_of_lt hk)]; exact Below.heap_alloc w1 _ k hk⟩); have BW3 := Aside0.mk (below_step BW1.out B3.out); have BX3 := Aside0.mk (blk_keep B3.out BX1.out); have hvn : w3.cell? ⟨w1.heap.size, 0, none⟩ = some (.bool true) := blk_cells (cs := [.bool true, .string vs]) hbx 0 _ rfl; have hvs : w3.cell? ⟨w1.heap.size, 1, none⟩ = some (.string vs) := blk_cells (cs := [.bool true, .string vs]) hbx 1 _ rfl; clear hcv0 hcv1 hcv5; have hcv0 : w3.cell? ⟨w.heap.size, 0, none⟩ = some (.int .i64 p.f0) := blk_cells BX3.out 0 _ H0.out; clear hbx hoth hs3 hos htp hou))
  go_ret
  exact ⟨rfl, BW3.out⟩
 | false =>
  rw [if_neg (by decide)] at h
  obtain ⟨b, hb, h⟩ := Option.bind_eq_some_iff.1 h
  have HHO := Aside0.mk (HHO0.out vs b hb)
  have HY := Aside0.mk (fun W => need_yes.calls b r W h)
  clear h hb HHO0
  go_enter Tryd.func16, Tryd.ntmps16
  go_wp2_with (first
   | ((with_reducible refine gate_dst (N := 2) rfl ?_); refine box_all rfl rfl (cs := cs.toArray) rfl (fun W => by rw [List.size_toArray, HL6.out]; exact HSZ.out W) ?_; intro w1 hbx hbw; have BW1 := Aside0.mk hbw; have BX1 := Aside0.mk hbx; have hcv0 : w1.cell? ⟨w.heap.size, 0, none⟩ = some (.int .i64 p.f0) := blk_cells BX1.out 0 _ H0.out; have hcv1 : w1.cell? ⟨w.heap.size, 1, none⟩ = some (.int .i64 (j : Int)) := blk_cells BX1.out 1 _ H1.out; have hcv5 : w1.cell? ⟨w.heap.size, 5, none⟩ = some (.slice A5 p.f5.length c5) := blk_cells BX1.out 5 _ H5.out; clear hbx hbw)
   | ((with_reducible refine gate_dst (N := 38) rfl ?_); refine load_all rfl rfl (cs := [.bool false, .string vs]) rfl HAGGV.out (fun W => HSZV.out W) (fun j v hj => (BW1.out.cell (World.block_lt_of_cell? w _ (HCELL.out j v hj))).trans (HCELL.out j v hj)) ?_)
   | ((with_reducible refine gate_store (t := 40) (p := 6) rfl ?_); refine store_all (g := w1.heap.size) (cs := #[.bool false, .string vs]) (t' := 40) rfl rfl rfl rfl rfl (fun W => HSZV.out W) (heap_alloc_new w1 _) rfl (fun u hu => by have h2 : u = Value.bool false ∨ u = Value.string vs := (by simpa using hu); rcases h2 with rfl | rfl <;> rfl) ?_; intro w3 hbx hoth hs3 hos htp hou; have B3 := Aside0.mk (show Below w1.heap.size w1 w3 from ⟨by rw [hos]; rfl, by rw [htp]; rfl, by rw [hou]; rfl, by rw [hs3]; simp, fun k hk => by rw [hoth k (Nat.ne_of_lt hk)]; exact Below.heap_alloc w1 _ k hk⟩); have BW3 := Aside0.mk (below_step BW1.out B3.out); have BX3 := Aside0.mk (blk_keep B3.out BX1.out); have hvn : w3.cell? ⟨w1.heap.size, 0, none⟩ = some (.bool false) := blk_cells (cs := [.bool false, .string vs]) hbx 0 _ rfl; have hvs : w3.cell? ⟨w1.heap.size, 1, none⟩ = some (.string vs) := blk_cells (cs := [.bool false, .string vs]) hbx 1 _ rfl; clear hcv0 hcv1 hcv5; have hcv0 : w3.cell? ⟨w.heap.size, 0, none⟩ = some (.int .i64 p.f0) := blk_cells BX3.out 0 _ H0.out; clear hbx hoth hs3 hos htp hou)
   | ((with_reducible refine gate_dst (N := 49) rfl ?_); refine load_all rfl rfl (cs := cs) rfl HAGG.out (fun W => by rw [HL6.out]; exact HSZ.out W) (blk_cells BX3.out) ?_)
   | (go_at_call 33; refine (HHO.out _ BW3.out).mono ?_; rintro e w6 ⟨rfl, hb6⟩; have BW6 := Aside0.mk (below_step BW3.out hb6); clear hb6)
   | (go_at_call 32; refine (HY.out _).mono ?_; rintro e w7 ⟨rfl, hd7⟩; have BW9 := Aside0.mk (below_step BW6.out hd7.below); clear hd7))
  go_ret
  exact ⟨rfl, BW9.out⟩
theorem bothL_mono {g g' : S24 → Option Int} (h : ∀ q, LeO (g q) (g' q)) (settles : Int) : ∀ l out, LeO (bothL g settles l out) (bothL g' settles l out)
 | [], out => LeO.same
 | q :: qs, out => LeO.bind' (h q) fun x => LeO.ite' LeO.same (LeO.ite' (bothL_mono h settles qs 2) (bothL_mono h settles qs out))
theorem saysP_mono : ∀ k p row, LeO (saysP k p row) (saysP (k + 1) p row)
 | 0, p, row => fun r hr => by cases hr
 | k + 1, p, row => by
  unfold saysP saysLeaf holdsP
  exact LeO.ite' (bothL_mono (fun q => saysP_mono k q row) 0 _ _) (LeO.ite' (bothL_mono (fun q => saysP_mono k q row) 1 _ _) (LeO.ite' (LeO.ite' (LeO.bind' (saysP_mono k _ row) fun _ => LeO.same) LeO.same) (LeO.ite' (LeO.ite' (LeO.ite' LeO.same (LeO.ite' LeO.same (LeO.bind' (need_holds.mono _ _ _ _ _ _ _ k) fun _ => LeO.same))) LeO.same) LeO.same)))
theorem need_Says.mono : ∀ y0 y1 y2 y3 y4 y5 y6 k, LeO (need_Says.f k y0 y1 y2 y3 y4 y5 y6) (need_Says.f (k + 1) y0 y1 y2 y3 y4 y5 y6) := fun _ _ _ _ _ _ _ k => saysP_mono k _ _
theorem need_Says.calls (k : Nat) (a0_0 : Int) (a0_1 : Int) (a0_2 : ByteArray) (a0_3 : Int) (a0_4 : Int) (A0_5 : Option Addr) (c0_5 : Nat) (l0_5 : List (S24)) (A1 : Option Addr) (c1 : Nat) (l1 : List (S40)) (r : Int) (w : World) (hr0_5 : Kd.C k24 w A0_5 l0_5.length l0_5) (hc0_5 : l0_5.length ≤ c0_5) (hr1 : Kd.C k40 w A1 l1.length l1) (hc1 : l1.length ≤ c1) (hT : Facts w) (h : need_Says.f k a0_0 a0_1 a0_2 a0_3 a0_4 l0_5 l1 = some r) :
  Calls Tryd.prog 16 #[.agg #[.int .i64 a0_0, .int .i64 a0_1, .string a0_2, .int .i64 a0_3, .int .i64 a0_4, .slice A0_5 l0_5.length c0_5], .slice A1 l1.length c1] w fun e w' => e = .returned (.int .i64 r) ∧ Below w.heap.size w w' :=
 need_Says.core k ⟨a0_0, a0_1, a0_2, a0_3, a0_4, l0_5⟩ _ A1 c1 l1 r w (k24_mk w ⟨a0_0, a0_1, a0_2, a0_3, a0_4, l0_5⟩ hc0_5 hr0_5) hr1 hc1 hT h

/-! ### hopperlaw16_awake: function 8 -/
def hopperlaw16_awake.f (k : Nat)  : Option (Bool) := (hopperref16_Filters.f k (([(([(⟨false, (⟨#[97, 98, 99, 100]⟩ : ByteArray)⟩ : S40)] : List (S40)))] : List (List (S40)))) 1 0).bind fun t252 => ((need_Right.f k 9 0 (⟨#[120, 121, 122]⟩ : ByteArray) 0 0 ([] : List (S24)) 1).bind fun t255 => (if t255 = true then ((need_Right.f k 9 0 (⟨#[120, 121, 122]⟩ : ByteArray) 0 0 ([] : List (S24)) 0).bind fun t256 => (if t256 = true then (none) else ((need_Skip.f k 9 0 (⟨#[120, 121, 122]⟩ : ByteArray) 0 0 ([] : List (S24)) t252).bind fun t257 => (if t257 = true then ((need_Skip.f k 9 0 (⟨#[98, 99, 100]⟩ : ByteArray) 0 0 ([] : List (S24)) t252).bind fun t258 => (if t258 = true then (none) else ((need_Says.f k 9 0 (⟨#[120, 121, 122]⟩ : ByteArray) 0 0 ([] : List (S24)) (([(⟨false, (⟨#[119, 120, 121, 122]⟩ : ByteArray)⟩ : S40)] : List (S40)))).bind fun t262 => (if t262 = 1 then ((need_Says.f k 9 0 (⟨#[120, 121, 122]⟩ : ByteArray) 0 0 ([] : List (S24)) (([(⟨true, (⟨#[]⟩ : ByteArray)⟩ : S40)] : List (S40)))).bind fun t266 => (some (t266 == 2))) else (none))))) else (none))))) else (none)))
set_option maxHeartbeats 8000000 in
set_option maxRecDepth 100000 in
theorem hopperlaw16_awake.calls (k : Nat)  (r : Bool) (w : World) (hT : Facts w) (h : hopperlaw16_awake.f k  = some r) :
  Calls Tryd.prog 8 #[] w fun e w' => e = .returned (.bool r) ∧ Below w.heap.size w w' := by
 have hu24 := Tryd.underlying24
 have hu40 := Tryd.underlying40
 have HT := Aside0.mk hT
 clear hT
 have HB := Aside0.mk (Below.refl w.heap.size w)
 have H : ((hopperref16_Filters.f k (([(([(⟨false, (⟨#[97, 98, 99, 100]⟩ : ByteArray)⟩ : S40)] : List (S40)))] : List (List (S40)))) 1 0).bind fun t252 => ((need_Right.f k 9 0 (⟨#[120, 121, 122]⟩ : ByteArray) 0 0 ([] : List (S24)) 1).bind fun t255 => (if t255 = true then ((need_Right.f k 9 0 (⟨#[120, 121, 122]⟩ : ByteArray) 0 0 ([] : List (S24)) 0).bind fun t256 => (if t256 = true then (none) else ((need_Skip.f k 9 0 (⟨#[120, 121, 122]⟩ : ByteArray) 0 0 ([] : List (S24)) t252).bind fun t257 => (if t257 = true then ((need_Skip.f k 9 0 (⟨#[98, 99, 100]⟩ : ByteArray) 0 0 ([] : List (S24)) t252).bind fun t258 => (if t258 = true then (none) else ((need_Says.f k 9 0 (⟨#[120, 121, 122]⟩ : ByteArray) 0 0 ([] : List (S24)) (([(⟨false, (⟨#[119, 120, 121, 122]⟩ : ByteArray)⟩ : S40)] : List (S40)))).bind fun t262 => (if t262 = 1 then ((need_Says.f k 9 0 (⟨#[120, 121, 122]⟩ : ByteArray) 0 0 ([] : List (S24)) (([(⟨true, (⟨#[]⟩ : ByteArray)⟩ : S40)] : List (S40)))).bind fun t266 => (some (t266 == 2))) else (none))))) else (none))))) else (none)))) = some r := h
 clear h
 obtain ⟨y246, hy246⟩ : ∃ y_ : List (S40), y_ = (([(⟨false, (⟨#[97, 98, 99, 100]⟩ : ByteArray)⟩ : S40)] : List (S40))) := ⟨_, rfl⟩
 replace H : ((hopperref16_Filters.f k (([y246] : List (List (S40)))) 1 0).bind fun t252 => ((need_Right.f k 9 0 (⟨#[120, 121, 122]⟩ : ByteArray) 0 0 ([] : List (S24)) 1).bind fun t255 => (if t255 = true then ((need_Right.f k 9 0 (⟨#[120, 121, 122]⟩ : ByteArray) 0 0 ([] : List (S24)) 0).bind fun t256 => (if t256 = true then (none) else ((need_Skip.f k 9 0 (⟨#[120, 121, 122]⟩ : ByteArray) 0 0 ([] : List (S24)) t252).bind fun t257 => (if t257 = true then ((need_Skip.f k 9 0 (⟨#[98, 99, 100]⟩ : ByteArray) 0 0 ([] : List (S24)) t252).bind fun t258 => (if t258 = true then (none) else ((need_Says.f k 9 0 (⟨#[120, 121, 122]⟩ : ByteArray) 0 0 ([] : List (S24)) (([(⟨false, (⟨#[119, 120, 121, 122]⟩ : ByteArray)⟩ : S40)] : List (S40)))).bind fun t262 => (if t262 = 1 then ((need_Says.f k 9 0 (⟨#[120, 121, 122]⟩ : ByteArray) 0 0 ([] : List (S24)) (([(⟨true, (⟨#[]⟩ : ByteArray)⟩ : S40)] : List (S40)))).bind fun t266 => (some (t266 == 2))) else (none))))) else (none))))) else (none)))) = some r := by first | (rw [hy246]; with_reducible exact H) | (have H2_ := (Option.bind_some _ _).symm.trans H; rw [hy246]; with_reducible exact H2_) | (have H2_ := (Option.bind_some _ _).symm.trans H; with_reducible exact H2_) | with_reducible exact H | (rw [hy246]; exact H) | exact H
 have Ny246 := Aside0.mk hy246
 clear hy246
 obtain ⟨y249, hy249⟩ : ∃ y_ : List (List (S40)), y_ = (([y246] : List (List (S40)))) := ⟨_, rfl⟩
 replace H : ((hopperref16_Filters.f k y249 1 0).bind fun t252 => ((need_Right.f k 9 0 (⟨#[120, 121, 122]⟩ : ByteArray) 0 0 ([] : List (S24)) 1).bind fun t255 => (if t255 = true then ((need_Right.f k 9 0 (⟨#[120, 121, 122]⟩ : ByteArray) 0 0 ([] : List (S24)) 0).bind fun t256 => (if t256 = true then (none) else ((need_Skip.f k 9 0 (⟨#[120, 121, 122]⟩ : ByteArray) 0 0 ([] : List (S24)) t252).bind fun t257 => (if t257 = true then ((need_Skip.f k 9 0 (⟨#[98, 99, 100]⟩ : ByteArray) 0 0 ([] : List (S24)) t252).bind fun t258 => (if t258 = true then (none) else ((need_Says.f k 9 0 (⟨#[120, 121, 122]⟩ : ByteArray) 0 0 ([] : List (S24)) (([(⟨false, (⟨#[119, 120, 121, 122]⟩ : ByteArray)⟩ : S40)] : List (S40)))).bind fun t262 => (if t262 = 1 then ((need_Says.f k 9 0 (⟨#[120, 121, 122]⟩ : ByteArray) 0 0 ([] : List (S24)) (([(⟨true, (⟨#[]⟩ : ByteArray)⟩ : S40)] : List (S40)))).bind fun t266 => (some (t266 == 2))) else (none))))) else (none))))) else (none)))) = some r := by first | (rw [hy249]; with_reducible exact H) | (have H2_ := (Option.bind_some _ _).symm.trans H; rw [hy249]; with_reducible exact H2_) | (have H2_ := (Option.bind_some _ _).symm.trans H; with_reducible exact H2_) | with_reducible exact H | (rw [hy249]; exact H) | exact H
 have Ny249 := Aside0.mk hy249
 clear hy249
 replace H := Option.bind_eq_some_iff.mp H
 obtain ⟨t252, A10, H⟩ := H
 replace H : ((need_Right.f k 9 0 (⟨#[120, 121, 122]⟩ : ByteArray) 0 0 ([] : List (S24)) 1).bind fun t255 => (if t255 = true then ((need_Right.f k 9 0 (⟨#[120, 121, 122]⟩ : ByteArray) 0 0 ([] : List (S24)) 0).bind fun t256 => (if t256 = true then (none) else ((need_Skip.f k 9 0 (⟨#[120, 121, 122]⟩ : ByteArray) 0 0 ([] : List (S24)) t252).bind fun t257 => (if t257 = true then ((need_Skip.f k 9 0 (⟨#[98, 99, 100]⟩ : ByteArray) 0 0 ([] : List (S24)) t252).bind fun t258 => (if t258 = true then (none) else ((need_Says.f k 9 0 (⟨#[120, 121, 122]⟩ : ByteArray) 0 0 ([] : List (S24)) (([(⟨false, (⟨#[119, 120, 121, 122]⟩ : ByteArray)⟩ : S40)] : List (S40)))).bind fun t262 => (if t262 = 1 then ((need_Says.f k 9 0 (⟨#[120, 121, 122]⟩ : ByteArray) 0 0 ([] : List (S24)) (([(⟨true, (⟨#[]⟩ : ByteArray)⟩ : S40)] : List (S40)))).bind fun t266 => (some (t266 == 2))) else (none))))) else (none))))) else (none))) = some r := H
 have A1 := Aside0.mk A10
 clear A10
 replace H := Option.bind_eq_some_iff.mp H
 obtain ⟨t255, A20, H⟩ := H
 replace H : (if t255 = true then ((need_Right.f k 9 0 (⟨#[120, 121, 122]⟩ : ByteArray) 0 0 ([] : List (S24)) 0).bind fun t256 => (if t256 = true then (none) else ((need_Skip.f k 9 0 (⟨#[120, 121, 122]⟩ : ByteArray) 0 0 ([] : List (S24)) t252).bind fun t257 => (if t257 = true then ((need_Skip.f k 9 0 (⟨#[98, 99, 100]⟩ : ByteArray) 0 0 ([] : List (S24)) t252).bind fun t258 => (if t258 = true then (none) else ((need_Says.f k 9 0 (⟨#[120, 121, 122]⟩ : ByteArray) 0 0 ([] : List (S24)) (([(⟨false, (⟨#[119, 120, 121, 122]⟩ : ByteArray)⟩ : S40)] : List (S40)))).bind fun t262 => (if t262 = 1 then ((need_Says.f k 9 0 (⟨#[120, 121, 122]⟩ : ByteArray) 0 0 ([] : List (S24)) (([(⟨true, (⟨#[]⟩ : ByteArray)⟩ : S40)] : List (S40)))).bind fun t266 => (some (t266 == 2))) else (none))))) else (none))))) else (none)) = some r := H
 have A2 := Aside0.mk A20
 clear A20
 by_cases c3 : t255 = true
 ·subst c3
  have H1 : ((need_Right.f k 9 0 (⟨#[120, 121, 122]⟩ : ByteArray) 0 0 ([] : List (S24)) 0).bind fun t256 => (if t256 = true then (none) else ((need_Skip.f k 9 0 (⟨#[120, 121, 122]⟩ : ByteArray) 0 0 ([] : List (S24)) t252).bind fun t257 => (if t257 = true then ((need_Skip.f k 9 0 (⟨#[98, 99, 100]⟩ : ByteArray) 0 0 ([] : List (S24)) t252).bind fun t258 => (if t258 = true then (none) else ((need_Says.f k 9 0 (⟨#[120, 121, 122]⟩ : ByteArray) 0 0 ([] : List (S24)) (([(⟨false, (⟨#[119, 120, 121, 122]⟩ : ByteArray)⟩ : S40)] : List (S40)))).bind fun t262 => (if t262 = 1 then ((need_Says.f k 9 0 (⟨#[120, 121, 122]⟩ : ByteArray) 0 0 ([] : List (S24)) (([(⟨true, (⟨#[]⟩ : ByteArray)⟩ : S40)] : List (S40)))).bind fun t266 => (some (t266 == 2))) else (none))))) else (none))))) = some r := by rw [if_pos rfl] at H; exact H
  clear H
  have H := H1
  clear H1
  replace H := Option.bind_eq_some_iff.mp H
  obtain ⟨t256, A40, H⟩ := H
  replace H : (if t256 = true then (none) else ((need_Skip.f k 9 0 (⟨#[120, 121, 122]⟩ : ByteArray) 0 0 ([] : List (S24)) t252).bind fun t257 => (if t257 = true then ((need_Skip.f k 9 0 (⟨#[98, 99, 100]⟩ : ByteArray) 0 0 ([] : List (S24)) t252).bind fun t258 => (if t258 = true then (none) else ((need_Says.f k 9 0 (⟨#[120, 121, 122]⟩ : ByteArray) 0 0 ([] : List (S24)) (([(⟨false, (⟨#[119, 120, 121, 122]⟩ : ByteArray)⟩ : S40)] : List (S40)))).bind fun t262 => (if t262 = 1 then ((need_Says.f k 9 0 (⟨#[120, 121, 122]⟩ : ByteArray) 0 0 ([] : List (S24)) (([(⟨true, (⟨#[]⟩ : ByteArray)⟩ : S40)] : List (S40)))).bind fun t266 => (some (t266 == 2))) else (none))))) else (none)))) = some r := H
  have A4 := Aside0.mk A40
  clear A40
  by_cases c5 : t256 = true
  ·subst c5
   have H1 : (none) = some r := by rw [if_pos rfl] at H; exact H
   clear H
   have H := H1
   clear H1
   cases H
  ·replace c5 := Bool.eq_false_iff.mpr c5
   subst c5
   have H1 : ((need_Skip.f k 9 0 (⟨#[120, 121, 122]⟩ : ByteArray) 0 0 ([] : List (S24)) t252).bind fun t257 => (if t257 = true then ((need_Skip.f k 9 0 (⟨#[98, 99, 100]⟩ : ByteArray) 0 0 ([] : List (S24)) t252).bind fun t258 => (if t258 = true then (none) else ((need_Says.f k 9 0 (⟨#[120, 121, 122]⟩ : ByteArray) 0 0 ([] : List (S24)) (([(⟨false, (⟨#[119, 120, 121, 122]⟩ : ByteArray)⟩ : S40)] : List (S40)))).bind fun t262 => (if t262 = 1 then ((need_Says.f k 9 0 (⟨#[120, 121, 122]⟩ : ByteArray) 0 0 ([] : List (S24)) (([(⟨true, (⟨#[]⟩ : ByteArray)⟩ : S40)] : List (S40)))).bind fun t266 => (some (t266 == 2))) else (none))))) else (none))) = some r := by rw [if_neg (show ¬ (false = true) by decide)] at H; exact H
   clear H
   have H := H1
   clear H1
   replace H := Option.bind_eq_some_iff.mp H
   obtain ⟨t257, A190, H⟩ := H
   replace H : (if t257 = true then ((need_Skip.f k 9 0 (⟨#[98, 99, 100]⟩ : ByteArray) 0 0 ([] : List (S24)) t252).bind fun t258 => (if t258 = true then (none) else ((need_Says.f k 9 0 (⟨#[120, 121, 122]⟩ : ByteArray) 0 0 ([] : List (S24)) (([(⟨false, (⟨#[119, 120, 121, 122]⟩ : ByteArray)⟩ : S40)] : List (S40)))).bind fun t262 => (if t262 = 1 then ((need_Says.f k 9 0 (⟨#[120, 121, 122]⟩ : ByteArray) 0 0 ([] : List (S24)) (([(⟨true, (⟨#[]⟩ : ByteArray)⟩ : S40)] : List (S40)))).bind fun t266 => (some (t266 == 2))) else (none))))) else (none)) = some r := H
   have A19 := Aside0.mk A190
   clear A190
   by_cases c20 : t257 = true
   ·subst c20
    have H1 : ((need_Skip.f k 9 0 (⟨#[98, 99, 100]⟩ : ByteArray) 0 0 ([] : List (S24)) t252).bind fun t258 => (if t258 = true then (none) else ((need_Says.f k 9 0 (⟨#[120, 121, 122]⟩ : ByteArray) 0 0 ([] : List (S24)) (([(⟨false, (⟨#[119, 120, 121, 122]⟩ : ByteArray)⟩ : S40)] : List (S40)))).bind fun t262 => (if t262 = 1 then ((need_Says.f k 9 0 (⟨#[120, 121, 122]⟩ : ByteArray) 0 0 ([] : List (S24)) (([(⟨true, (⟨#[]⟩ : ByteArray)⟩ : S40)] : List (S40)))).bind fun t266 => (some (t266 == 2))) else (none))))) = some r := by rw [if_pos rfl] at H; exact H
    clear H
    have H := H1
    clear H1
    replace H := Option.bind_eq_some_iff.mp H
    obtain ⟨t258, A210, H⟩ := H
    replace H : (if t258 = true then (none) else ((need_Says.f k 9 0 (⟨#[120, 121, 122]⟩ : ByteArray) 0 0 ([] : List (S24)) (([(⟨false, (⟨#[119, 120, 121, 122]⟩ : ByteArray)⟩ : S40)] : List (S40)))).bind fun t262 => (if t262 = 1 then ((need_Says.f k 9 0 (⟨#[120, 121, 122]⟩ : ByteArray) 0 0 ([] : List (S24)) (([(⟨true, (⟨#[]⟩ : ByteArray)⟩ : S40)] : List (S40)))).bind fun t266 => (some (t266 == 2))) else (none)))) = some r := H
    have A21 := Aside0.mk A210
    clear A210
    by_cases c22 : t258 = true
    ·subst c22
     have H1 : (none) = some r := by rw [if_pos rfl] at H; exact H
     clear H
     have H := H1
     clear H1
     cases H
    ·replace c22 := Bool.eq_false_iff.mpr c22
     subst c22
     have H1 : ((need_Says.f k 9 0 (⟨#[120, 121, 122]⟩ : ByteArray) 0 0 ([] : List (S24)) (([(⟨false, (⟨#[119, 120, 121, 122]⟩ : ByteArray)⟩ : S40)] : List (S40)))).bind fun t262 => (if t262 = 1 then ((need_Says.f k 9 0 (⟨#[120, 121, 122]⟩ : ByteArray) 0 0 ([] : List (S24)) (([(⟨true, (⟨#[]⟩ : ByteArray)⟩ : S40)] : List (S40)))).bind fun t266 => (some (t266 == 2))) else (none))) = some r := by rw [if_neg (show ¬ (false = true) by decide)] at H; exact H
     clear H
     have H := H1
     clear H1
     obtain ⟨y259, hy259⟩ : ∃ y_ : List (S40), y_ = (([(⟨false, (⟨#[119, 120, 121, 122]⟩ : ByteArray)⟩ : S40)] : List (S40))) := ⟨_, rfl⟩
     replace H : ((need_Says.f k 9 0 (⟨#[120, 121, 122]⟩ : ByteArray) 0 0 ([] : List (S24)) y259).bind fun t262 => (if t262 = 1 then ((need_Says.f k 9 0 (⟨#[120, 121, 122]⟩ : ByteArray) 0 0 ([] : List (S24)) (([(⟨true, (⟨#[]⟩ : ByteArray)⟩ : S40)] : List (S40)))).bind fun t266 => (some (t266 == 2))) else (none))) = some r := by first | (rw [hy259]; with_reducible exact H) | (have H2_ := (Option.bind_some _ _).symm.trans H; rw [hy259]; with_reducible exact H2_) | (have H2_ := (Option.bind_some _ _).symm.trans H; with_reducible exact H2_) | with_reducible exact H | (rw [hy259]; exact H) | exact H
     have Ny259 := Aside0.mk hy259
     clear hy259
     replace H := Option.bind_eq_some_iff.mp H
     obtain ⟨t262, A400, H⟩ := H
     replace H : (if t262 = 1 then ((need_Says.f k 9 0 (⟨#[120, 121, 122]⟩ : ByteArray) 0 0 ([] : List (S24)) (([(⟨true, (⟨#[]⟩ : ByteArray)⟩ : S40)] : List (S40)))).bind fun t266 => (some (t266 == 2))) else (none)) = some r := H
     have A40 := Aside0.mk A400
     clear A400
     by_cases c41 : t262 = 1
     ·rw [if_pos c41] at H
      have c41b0 : (t262 == 1) = true := beq_iff_eq.mpr c41
      have c41b1 : (t262 != 1) = false := bne_eq_false_iff_eq.mpr c41
      clear c41
      obtain ⟨y263, hy263⟩ : ∃ y_ : List (S40), y_ = (([(⟨true, (⟨#[]⟩ : ByteArray)⟩ : S40)] : List (S40))) := ⟨_, rfl⟩
      replace H : ((need_Says.f k 9 0 (⟨#[120, 121, 122]⟩ : ByteArray) 0 0 ([] : List (S24)) y263).bind fun t266 => (some (t266 == 2))) = some r := by first | (rw [hy263]; with_reducible exact H) | (have H2_ := (Option.bind_some _ _).symm.trans H; rw [hy263]; with_reducible exact H2_) | (have H2_ := (Option.bind_some _ _).symm.trans H; with_reducible exact H2_) | with_reducible exact H | (rw [hy263]; exact H) | exact H
      have Ny263 := Aside0.mk hy263
      clear hy263
      replace H := Option.bind_eq_some_iff.mp H
      obtain ⟨t266, A420, H⟩ := H
      replace H : (some (t266 == 2)) = some r := H
      have A42 := Aside0.mk A420
      clear A420
      obtain rfl := Option.some.inj H
      go_enter Tryd.func8, Tryd.ntmps8
      have tok1_ : True := trivial
      have tok2_ : True := trivial
      have tok3_ : True := trivial
      have tok4_ : True := trivial
      go_wp2_with (first | ((with_reducible refine gate_dst (N := 1) rfl ?_); (try (refine gate_guard (by rfl) ?_; dsimp only)); refine box_event ?hg (N := 1) ?hd (cs := #[.int .i64 0, .int .i64 0, .string (⟨#[]⟩ : ByteArray), .int .i64 0, .int .i64 0, .slice none 0 0]) (t := 24) ?hr ?_; (case hd => rfl); (case hg => rfl); (case hr => first | (go_simp; done) | (go_simp; rfl) | (go_simp; simp (disch := omega) only [Go.u8_and63, Go.u8_and31, Go.u8_and15, Go.u8_and7, Go.u8_or128, Go.u8_or192, Go.u8_or224, Go.u8_or240, m64]; done)); intro gb245 hg w43 hbox hb; have n0_ := Aside0.mk (below_step (mvB HB.out) hb); have n1_ := Aside0.mk (hbox); have n2_ := Aside0.mk ((by rw [hg]; exact (below_size (mvB HB.out)) : w.heap.size ≤ gb245)); have n3_ := Aside0.mk ((by rw [hg]; exact (below_size (mvB HB.out)) : w.heap.size ≤ gb245)); clear HB; have HB := n0_; have BK245 := n1_; have GW245 := n2_; have GE245 := n3_; clear n0_ n1_ n2_ n3_; clear hb hbox hg; have hcz44_0 : w43.cell? ⟨gb245, 0, none⟩ = some (.int .i64 0) := (blk_cell BK245.out 0).trans rfl; have hcz44_1 : w43.cell? ⟨gb245, 1, none⟩ = some (.int .i64 0) := (blk_cell BK245.out 1).trans rfl; have hcz44_2 : w43.cell? ⟨gb245, 2, none⟩ = some (.string (⟨#[]⟩ : ByteArray)) := (blk_cell BK245.out 2).trans rfl; have hcz44_3 : w43.cell? ⟨gb245, 3, none⟩ = some (.int .i64 0) := (blk_cell BK245.out 3).trans rfl; have hcz44_4 : w43.cell? ⟨gb245, 4, none⟩ = some (.int .i64 0) := (blk_cell BK245.out 4).trans rfl; have hcz44_5 : w43.cell? ⟨gb245, 5, none⟩ = some (.slice none 0 0) := (blk_cell BK245.out 5).trans rfl; have hfz44_0 := blk_frozen BK245.out 0; have hfz44_1 := blk_frozen BK245.out 1; have hfz44_2 := blk_frozen BK245.out 2; have hfz44_3 := blk_frozen BK245.out 3; have hfz44_4 := blk_frozen BK245.out 4; have hfz44_5 := blk_frozen BK245.out 5) | ((with_reducible refine gate_dst (N := 5) rfl ?_); (try (refine gate_guard (by rfl) ?_; dsimp only)); refine Kd.R_lit k40 _ 40 ?hg (N := 5) ?hd (xs := ([(⟨false, (⟨#[97, 98, 99, 100]⟩ : ByteArray)⟩ : S40)] : List (S40))) (inner := [.bool false, .string (⟨#[97, 98, 99, 100]⟩ : ByteArray)]) (ok := fun _ => True) (okp := fun _ => True) ?hr ?hp (fun _ hk => hk) trivial (Below.refl _ _) (Nat.le_refl _) (by simp) ?_; (case hd => rfl); (case hg => rfl); (case hr => first | (go_simp; done) | (go_simp; rfl) | (go_simp; simp (disch := omega) only [Go.u8_and63, Go.u8_and31, Go.u8_and15, Go.u8_and7, Go.u8_or128, Go.u8_or192, Go.u8_or224, Go.u8_or240, m64]; done)); (case hp => exact (Reps.c2 (show Kd.M k40 _ _ _ (⟨false, (⟨#[97, 98, 99, 100]⟩ : ByteArray)⟩ : S40) [.bool false, .string (⟨#[97, 98, 99, 100]⟩ : ByteArray)] from (k40_mkM _ _ _ (⟨false, (⟨#[97, 98, 99, 100]⟩ : ByteArray)⟩ : S40) )) (Reps.none _ _))); intro v247 w45 ho46 hb hg_ hnew_; clear hg_ hnew_; (first | rw [← Ny246.out] at ho46 | (simp only [Int.reduceToNat] at ho46; rw [← Ny246.out] at ho46)); have n0_ := Aside0.mk (Kd.R_lower ho46 (below_size (mvG HB.out GE245.out))); have n1_ := Aside0.mk (blk_below (g := gb245) (o := .cells #[.int .i64 9, .int .i64 0, .string (⟨#[120, 121, 122]⟩ : ByteArray), .int .i64 0, .int .i64 0, .slice none 0 0] 24 (0, 0)) (by (with_reducible repeat (first | refine blk_drewN ?_ _ | refine blk_drew ?_ | refine blk_alloc ?_ _)); refine blk_put (cs := #[.int .i64 9, .int .i64 0, .string (⟨#[120, 121, 122]⟩ : ByteArray), .int .i64 0, .int .i64 0, .slice none 0 0]) ?_ 5 _ rfl; (with_reducible repeat (first | refine blk_drewN ?_ _ | refine blk_drew ?_ | refine blk_alloc ?_ _)); refine blk_put (cs := #[.int .i64 9, .int .i64 0, .string (⟨#[120, 121, 122]⟩ : ByteArray), .int .i64 0, .int .i64 0, .slice none 0 0]) ?_ 4 _ rfl; (with_reducible repeat (first | refine blk_drewN ?_ _ | refine blk_drew ?_ | refine blk_alloc ?_ _)); refine blk_put (cs := #[.int .i64 9, .int .i64 0, .string (⟨#[120, 121, 122]⟩ : ByteArray), .int .i64 0, .int .i64 0, .slice none 0 0]) ?_ 3 _ rfl; (with_reducible repeat (first | refine blk_drewN ?_ _ | refine blk_drew ?_ | refine blk_alloc ?_ _)); refine blk_put (cs := #[.int .i64 9, .int .i64 0, .string (⟨#[]⟩ : ByteArray), .int .i64 0, .int .i64 0, .slice none 0 0]) ?_ 2 _ rfl; (with_reducible repeat (first | refine blk_drewN ?_ _ | refine blk_drew ?_ | refine blk_alloc ?_ _)); refine blk_put (cs := #[.int .i64 9, .int .i64 0, .string (⟨#[]⟩ : ByteArray), .int .i64 0, .int .i64 0, .slice none 0 0]) ?_ 1 _ rfl; (with_reducible repeat (first | refine blk_drewN ?_ _ | refine blk_drew ?_ | refine blk_alloc ?_ _)); refine blk_put (cs := #[.int .i64 0, .int .i64 0, .string (⟨#[]⟩ : ByteArray), .int .i64 0, .int .i64 0, .slice none 0 0]) ?_ 0 _ rfl; (with_reducible repeat (first | refine blk_drewN ?_ _ | refine blk_drew ?_ | refine blk_alloc ?_ _)); exact BK245.out) hb); have n2_ := Aside0.mk (below_step (mvG HB.out GE245.out) hb); clear BK245; clear HB; have HO248 := n0_; have BK245 := n1_; have HB := n2_; clear n0_ n1_ n2_; clear hb ho46; obtain ⟨Ao47, co47, eo47⟩ := Kd.R_slice HO248.out; subst eo47) | ((with_reducible refine gate_dst (N := 6) rfl ?_); (try (refine gate_guard (by rfl) ?_; dsimp only)); refine Kd.N_lit (Kd.slice 40 k40) _ 36 ?hg (N' := 6) ?hd (xs := ([y246] : List (List (S40)))) (inner := [.slice Ao47 y246.length co47]) (ok := (fun k_ => k_ ≠ gb245)) (okp := (fun k_ => k_ ≠ gb245)) ?hr ?hp (fun _ hk => hk) ((show ∀ k_, w45.heap.size ≤ k_ → (fun k_ => k_ ≠ gb245) k_ from fun k_ hk => Kd.freshB (g := gb245) (o := .cells #[.int .i64 9, .int .i64 0, .string (⟨#[120, 121, 122]⟩ : ByteArray), .int .i64 0, .int .i64 0, .slice none 0 0] 24 (0, 0)) (mvK BK245.out) k_ hk) _ (Nat.le_refl _)) (Below.refl _ _) (Nat.le_refl _) (by simp) ?_; (case hd => rfl); (case hg => rfl); (case hr => first | (go_simp; done) | (go_simp; rfl) | (go_simp; simp (disch := omega) only [Go.u8_and63, Go.u8_and31, Go.u8_and15, Go.u8_and7, Go.u8_or128, Go.u8_or192, Go.u8_or224, Go.u8_or240, m64]; done)); (case hp => exact (Reps.one (show Kd.FK (Kd.slice 40 k40) _ _ y246 [.slice Ao47 y246.length co47] from (Kd.FK_slice_mk (Kd.R_reads' (Kd.R_mono (ok' := (fun k_ => k_ ≠ gb245)) (Kd.R_types (HO248.out) BK245.out (by decide)) (fun k_ hk => hk.2))).2.1 (Kd.R_F (Kd.R_mono (ok' := (fun k_ => k_ ≠ gb245)) (Kd.R_types (HO248.out) BK245.out (by decide)) (fun k_ hk => hk.2))))) (Reps.none _ _))); intro v250 w48 ho49 hb hg_ hnew_; clear hg_ hnew_; (first | rw [← Ny249.out] at ho49 | (simp only [Int.reduceToNat] at ho49; rw [← Ny249.out] at ho49)); have n0_ := Aside0.mk (Kd.N_lower ho49 (below_size (mvG HB.out GE245.out))); have n1_ := Aside0.mk (blk_below (g := gb245) (o := .cells #[.int .i64 9, .int .i64 0, .string (⟨#[120, 121, 122]⟩ : ByteArray), .int .i64 0, .int .i64 0, .slice none 0 0] 24 (0, 0)) (mvK BK245.out) hb); have n2_ := Aside0.mk (below_step (mvG HB.out GE245.out) hb); clear BK245; clear HB; clear HO248; have HO251 := n0_; have BK245 := n1_; have HB := n2_; clear n0_ n1_ n2_; clear hb ho49; obtain ⟨Ao50, co50, eo50⟩ := Kd.N_slice HO251.out; subst eo50) | ((with_reducible refine gate_callee (f := 13) rfl ?_); refine goesL_ (some 7) rfl rfl Tryd.func13 (by kernel_rfl) rfl #[.slice Ao50 y249.length co50, .int .i64 1, .int .i64 0] rfl (by (try simp only [List.map_toArray, List.map_cons, List.map_nil]); first | done | rfl | (simp only [List.length_drop, List.length_take]; rfl)) ?_; (with_reducible refine (hopperref16_Filters.calls k _ _ y249 1 0 t252 _ ?side1 ?side2 A1.out).mono ?_); (case side1 => repeat (first | exact (Kd.N_reads' HO251.out).2.2 | (with_reducible refine Kd.C_alloc ?_ _) | (with_reducible refine Kd.C_drewN ?_ _) | (with_reducible refine Kd.C_drew ?_))); (case side2 => exact (Kd.N_reads' HO251.out).2.1); rintro e w51 ⟨v253, rfl, ho0, hb⟩; refine ⟨_, rfl, ?_⟩; have n0_ := Aside0.mk (Kd.N_elder' (mvN HO251.out) (by first | exact Kd.N_base ho0 | exact Kd.S_base ho0 | exact Kd.R_base ho0) hb); have n1_ := Aside0.mk (Kd.N_lower (Kd.N_mono (ok' := fun k_ => some k_ ≠ (.slice Ao50 y249.length co50 : Value).ownBlock ∧ k_ ≠ gb245) (Kd.S_N (Kd.S_bound ho0)) (fun k_ hk_ => ⟨(Kd.fresh' (Kd.N_lt (mvN HO251.out)) k_ hk_.2.1), (Kd.freshB (g := gb245) (o := .cells #[.int .i64 9, .int .i64 0, .string (⟨#[120, 121, 122]⟩ : ByteArray), .int .i64 0, .int .i64 0, .slice none 0 0] 24 (0, 0)) (mvK BK245.out) k_ hk_.2.1)⟩)) (below_size (mvG HB.out GE245.out))); have n2_ := Aside0.mk (blk_below (g := gb245) (o := .cells #[.int .i64 9, .int .i64 0, .string (⟨#[120, 121, 122]⟩ : ByteArray), .int .i64 0, .int .i64 0, .slice none 0 0] 24 (0, 0)) (mvK BK245.out) hb); have n3_ := Aside0.mk (below_step (mvG HB.out GE245.out) hb); clear HO251; clear BK245; clear HB; have HO251 := n0_; have HO254 := n1_; have BK245 := n2_; have HB := n3_; clear n0_ n1_ n2_ n3_; (try clear hb); (try clear hb2); (try clear hk); (try clear hi); (try clear ho0); have hcz52_0 : w51.cell? ⟨gb245, 0, none⟩ = some (.int .i64 9) := (blk_cell BK245.out 0).trans rfl; have hcz52_1 : w51.cell? ⟨gb245, 1, none⟩ = some (.int .i64 0) := (blk_cell BK245.out 1).trans rfl; have hcz52_2 : w51.cell? ⟨gb245, 2, none⟩ = some (.string (⟨#[120, 121, 122]⟩ : ByteArray)) := (blk_cell BK245.out 2).trans rfl; have hcz52_3 : w51.cell? ⟨gb245, 3, none⟩ = some (.int .i64 0) := (blk_cell BK245.out 3).trans rfl; have hcz52_4 : w51.cell? ⟨gb245, 4, none⟩ = some (.int .i64 0) := (blk_cell BK245.out 4).trans rfl; have hcz52_5 : w51.cell? ⟨gb245, 5, none⟩ = some (.slice none 0 0) := (blk_cell BK245.out 5).trans rfl; have hfz52_0 := blk_frozen BK245.out 0; have hfz52_1 := blk_frozen BK245.out 1; have hfz52_2 := blk_frozen BK245.out 2; have hfz52_3 := blk_frozen BK245.out 3; have hfz52_4 := blk_frozen BK245.out 4; have hfz52_5 := blk_frozen BK245.out 5) | ((with_reducible refine gate_callee (f := 10) rfl ?_); refine goesL_ (some 9) rfl rfl Tryd.func10 (by kernel_rfl) rfl #[.agg #[.int .i64 9, .int .i64 0, .string (⟨#[120, 121, 122]⟩ : ByteArray), .int .i64 0, .int .i64 0, .slice none 0 0], .int .i64 1] rfl (by (try simp only [List.map_toArray, List.map_cons, List.map_nil]); first | done | rfl | (simp only [List.length_drop, List.length_take]; rfl)) ?_; (refine (need_Right.calls k 9 0 (⟨#[120, 121, 122]⟩ : ByteArray) 0 0 _ _ ([] : List (S24)) 1 true _ ?side1 ?side2 A2.out).mono ?_); (case side1 => exact Kd.C_nil _ _); (case side2 => exact Nat.le_refl _); rintro e w53 ⟨rfl, hb⟩; refine ⟨_, rfl, ?_⟩; have n0_ := Aside0.mk (Kd.N_below (mvN HO251.out) hb); have n1_ := Aside0.mk (Kd.N_below (mvN HO254.out) hb); have n2_ := Aside0.mk (blk_below (g := gb245) (o := .cells #[.int .i64 9, .int .i64 0, .string (⟨#[120, 121, 122]⟩ : ByteArray), .int .i64 0, .int .i64 0, .slice none 0 0] 24 (0, 0)) (mvK BK245.out) hb); have n3_ := Aside0.mk (below_step (mvG HB.out GE245.out) hb); clear HO251; clear HO254; clear BK245; clear HB; have HO251 := n0_; have HO254 := n1_; have BK245 := n2_; have HB := n3_; clear n0_ n1_ n2_ n3_; (try clear hb); (try clear hb2); (try clear hk); (try clear hi); have hcz54_0 : w53.cell? ⟨gb245, 0, none⟩ = some (.int .i64 9) := (blk_cell BK245.out 0).trans rfl; have hcz54_1 : w53.cell? ⟨gb245, 1, none⟩ = some (.int .i64 0) := (blk_cell BK245.out 1).trans rfl; have hcz54_2 : w53.cell? ⟨gb245, 2, none⟩ = some (.string (⟨#[120, 121, 122]⟩ : ByteArray)) := (blk_cell BK245.out 2).trans rfl; have hcz54_3 : w53.cell? ⟨gb245, 3, none⟩ = some (.int .i64 0) := (blk_cell BK245.out 3).trans rfl; have hcz54_4 : w53.cell? ⟨gb245, 4, none⟩ = some (.int .i64 0) := (blk_cell BK245.out 4).trans rfl; have hcz54_5 : w53.cell? ⟨gb245, 5, none⟩ = some (.slice none 0 0) := (blk_cell BK245.out 5).trans rfl; have hfz54_0 := blk_frozen BK245.out 0; have hfz54_1 := blk_frozen BK245.out 1; have hfz54_2 := blk_frozen BK245.out 2; have hfz54_3 := blk_frozen BK245.out 3; have hfz54_4 := blk_frozen BK245.out 4; have hfz54_5 := blk_frozen BK245.out 5) | (go_at_call 10; (refine (need_Right.calls k 9 0 (⟨#[120, 121, 122]⟩ : ByteArray) 0 0 _ _ ([] : List (S24)) 0 false _ ?side1 ?side2 A4.out).mono ?_); (case side1 => exact Kd.C_nil _ _); (case side2 => exact Nat.le_refl _); rintro e w55 ⟨rfl, hb⟩; have n0_ := Aside0.mk (Kd.N_below (mvN HO251.out) hb); have n1_ := Aside0.mk (Kd.N_below (mvN HO254.out) hb); have n2_ := Aside0.mk (blk_below (g := gb245) (o := .cells #[.int .i64 9, .int .i64 0, .string (⟨#[120, 121, 122]⟩ : ByteArray), .int .i64 0, .int .i64 0, .slice none 0 0] 24 (0, 0)) (mvK BK245.out) hb); have n3_ := Aside0.mk (below_step (mvG HB.out GE245.out) hb); clear HO251; clear HO254; clear BK245; clear HB; have HO251 := n0_; have HO254 := n1_; have BK245 := n2_; have HB := n3_; clear n0_ n1_ n2_ n3_; (try clear hb); (try clear hb2); (try clear hk); (try clear hi); have hcz56_0 : w55.cell? ⟨gb245, 0, none⟩ = some (.int .i64 9) := (blk_cell BK245.out 0).trans rfl; have hcz56_1 : w55.cell? ⟨gb245, 1, none⟩ = some (.int .i64 0) := (blk_cell BK245.out 1).trans rfl; have hcz56_2 : w55.cell? ⟨gb245, 2, none⟩ = some (.string (⟨#[120, 121, 122]⟩ : ByteArray)) := (blk_cell BK245.out 2).trans rfl; have hcz56_3 : w55.cell? ⟨gb245, 3, none⟩ = some (.int .i64 0) := (blk_cell BK245.out 3).trans rfl; have hcz56_4 : w55.cell? ⟨gb245, 4, none⟩ = some (.int .i64 0) := (blk_cell BK245.out 4).trans rfl; have hcz56_5 : w55.cell? ⟨gb245, 5, none⟩ = some (.slice none 0 0) := (blk_cell BK245.out 5).trans rfl; have hfz56_0 := blk_frozen BK245.out 0; have hfz56_1 := blk_frozen BK245.out 1; have hfz56_2 := blk_frozen BK245.out 2; have hfz56_3 := blk_frozen BK245.out 3; have hfz56_4 := blk_frozen BK245.out 4; have hfz56_5 := blk_frozen BK245.out 5; obtain ⟨Ao57, co57, eo57⟩ := Kd.N_slice HO254.out; subst eo57) | (go_at_call 14; have _t := tok1_; clear _t tok1_; (refine (need_Skip.calls k 9 0 (⟨#[120, 121, 122]⟩ : ByteArray) 0 0 _ _ ([] : List (S24)) _ _ t252 true _ ?side1 ?side2 ?side3 ?side4 A19.out).mono ?_); (case side1 => exact Kd.C_nil _ _); (case side2 => exact Nat.le_refl _); (case side3 => repeat (first | exact (Kd.N_reads' HO254.out).2.2 | (with_reducible refine Kd.C_alloc ?_ _) | (with_reducible refine Kd.C_drewN ?_ _) | (with_reducible refine Kd.C_drew ?_))); (case side4 => exact (Kd.N_reads' HO254.out).2.1); rintro e w58 ⟨rfl, hb⟩; have n0_ := Aside0.mk (Kd.N_below (mvN HO251.out) hb); have n1_ := Aside0.mk (Kd.N_below (mvN HO254.out) hb); have n2_ := Aside0.mk (blk_below (g := gb245) (o := .cells #[.int .i64 9, .int .i64 0, .string (⟨#[120, 121, 122]⟩ : ByteArray), .int .i64 0, .int .i64 0, .slice none 0 0] 24 (0, 0)) (mvK BK245.out) hb); have n3_ := Aside0.mk (below_step (mvG HB.out GE245.out) hb); clear HO251; clear HO254; clear BK245; clear HB; have HO251 := n0_; have HO254 := n1_; have BK245 := n2_; have HB := n3_; clear n0_ n1_ n2_ n3_; (try clear hb); (try clear hb2); (try clear hk); (try clear hi)) | (go_at_call 14; have _t := tok2_; clear _t tok2_; (refine (need_Skip.calls k 9 0 (⟨#[98, 99, 100]⟩ : ByteArray) 0 0 _ _ ([] : List (S24)) _ _ t252 false _ ?side1 ?side2 ?side3 ?side4 A21.out).mono ?_); (case side1 => exact Kd.C_nil _ _); (case side2 => exact Nat.le_refl _); (case side3 => repeat (first | exact (Kd.N_reads' HO254.out).2.2 | (with_reducible refine Kd.C_alloc ?_ _) | (with_reducible refine Kd.C_drewN ?_ _) | (with_reducible refine Kd.C_drew ?_))); (case side4 => exact (Kd.N_reads' HO254.out).2.1); rintro e w59 ⟨rfl, hb⟩; have n0_ := Aside0.mk (Kd.N_below (mvN HO251.out) hb); have n1_ := Aside0.mk (Kd.N_below (mvN HO254.out) hb); have n2_ := Aside0.mk (blk_below (g := gb245) (o := .cells #[.int .i64 9, .int .i64 0, .string (⟨#[120, 121, 122]⟩ : ByteArray), .int .i64 0, .int .i64 0, .slice none 0 0] 24 (0, 0)) (mvK BK245.out) hb); have n3_ := Aside0.mk (below_step (mvG HB.out GE245.out) hb); clear HO251; clear HO254; clear BK245; clear HB; have HO251 := n0_; have HO254 := n1_; have BK245 := n2_; have HB := n3_; clear n0_ n1_ n2_ n3_; (try clear hb); (try clear hb2); (try clear hk); (try clear hi); have hcz60_0 : w59.cell? ⟨gb245, 0, none⟩ = some (.int .i64 9) := (blk_cell BK245.out 0).trans rfl; have hcz60_1 : w59.cell? ⟨gb245, 1, none⟩ = some (.int .i64 0) := (blk_cell BK245.out 1).trans rfl; have hcz60_2 : w59.cell? ⟨gb245, 2, none⟩ = some (.string (⟨#[120, 121, 122]⟩ : ByteArray)) := (blk_cell BK245.out 2).trans rfl; have hcz60_3 : w59.cell? ⟨gb245, 3, none⟩ = some (.int .i64 0) := (blk_cell BK245.out 3).trans rfl; have hcz60_4 : w59.cell? ⟨gb245, 4, none⟩ = some (.int .i64 0) := (blk_cell BK245.out 4).trans rfl; have hcz60_5 : w59.cell? ⟨gb245, 5, none⟩ = some (.slice none 0 0) := (blk_cell BK245.out 5).trans rfl; have hfz60_0 := blk_frozen BK245.out 0; have hfz60_1 := blk_frozen BK245.out 1; have hfz60_2 := blk_frozen BK245.out 2; have hfz60_3 := blk_frozen BK245.out 3; have hfz60_4 := blk_frozen BK245.out 4; have hfz60_5 := blk_frozen BK245.out 5) | ((with_reducible refine gate_dst (N := 29) rfl ?_); (try (refine gate_guard (by rfl) ?_; dsimp only)); refine Kd.R_lit k40 _ 40 ?hg (N := 29) ?hd (xs := ([(⟨false, (⟨#[119, 120, 121, 122]⟩ : ByteArray)⟩ : S40)] : List (S40))) (inner := [.bool false, .string (⟨#[119, 120, 121, 122]⟩ : ByteArray)]) (ok := fun _ => True) (okp := fun _ => True) ?hr ?hp (fun _ hk => hk) trivial (Below.refl _ _) (Nat.le_refl _) (by simp) ?_; (case hd => rfl); (case hg => rfl); (case hr => first | (go_simp; done) | (go_simp; rfl) | (go_simp; simp (disch := omega) only [Go.u8_and63, Go.u8_and31, Go.u8_and15, Go.u8_and7, Go.u8_or128, Go.u8_or192, Go.u8_or224, Go.u8_or240, m64]; done)); (case hp => exact (Reps.c2 (show Kd.M k40 _ _ _ (⟨false, (⟨#[119, 120, 121, 122]⟩ : ByteArray)⟩ : S40) [.bool false, .string (⟨#[119, 120, 121, 122]⟩ : ByteArray)] from (k40_mkM _ _ _ (⟨false, (⟨#[119, 120, 121, 122]⟩ : ByteArray)⟩ : S40) )) (Reps.none _ _))); intro v260 w61 ho62 hb hg_ hnew_; clear hg_ hnew_; (first | rw [← Ny259.out] at ho62 | (simp only [Int.reduceToNat] at ho62; rw [← Ny259.out] at ho62)); have n0_ := Aside0.mk (Kd.N_elder' (mvN HO251.out) (Kd.R_base ho62) hb); have n1_ := Aside0.mk (Kd.N_elder' (mvN HO254.out) (Kd.R_base ho62) hb); have n2_ := Aside0.mk (Kd.R_lower ho62 (below_size (mvG HB.out GE245.out))); have n3_ := Aside0.mk (blk_below (g := gb245) (o := .cells #[.int .i64 9, .int .i64 0, .string (⟨#[120, 121, 122]⟩ : ByteArray), .int .i64 0, .int .i64 0, .slice none 0 0] 24 (0, 0)) (mvK BK245.out) hb); have n4_ := Aside0.mk (below_step (mvG HB.out GE245.out) hb); clear HO251; clear HO254; clear BK245; clear HB; have HO251 := n0_; have HO254 := n1_; have HO261 := n2_; have BK245 := n3_; have HB := n4_; clear n0_ n1_ n2_ n3_ n4_; clear hb ho62; obtain ⟨Ao63, co63, eo63⟩ := Kd.R_slice HO261.out; subst eo63) | (go_at_call 16; have _t := tok3_; clear _t tok3_; (refine (need_Says.calls k 9 0 (⟨#[120, 121, 122]⟩ : ByteArray) 0 0 _ _ ([] : List (S24)) _ _ y259 t262 _ ?side1 ?side2 ?side3 ?side4 ?side5 A40.out).mono ?_); (case side1 => exact Kd.C_nil _ _); (case side2 => exact Nat.le_refl _); (case side3 => repeat (first | exact (Kd.R_reads' HO261.out).2.2 | (with_reducible refine Kd.C_alloc ?_ _) | (with_reducible refine Kd.C_drewN ?_ _) | (with_reducible refine Kd.C_drew ?_))); (case side4 => exact (Kd.R_reads' HO261.out).2.1); (case side5 => first | exact HT.out | exact Facts.below HT.out (mvG HB.out GE245.out) | exact Facts.below HT.out HB.out | (repeat (first | exact HT.out | refine Facts.drewN ?_ _ | refine Facts.drew ?_ | refine Facts.alloc ?_ _))); rintro e w64 ⟨rfl, hb⟩; have n0_ := Aside0.mk (Kd.N_below (mvN HO251.out) hb); have n1_ := Aside0.mk (Kd.N_below (mvN HO254.out) hb); have n2_ := Aside0.mk (Kd.R_below (mvR HO261.out) hb); have n3_ := Aside0.mk (blk_below (g := gb245) (o := .cells #[.int .i64 9, .int .i64 0, .string (⟨#[120, 121, 122]⟩ : ByteArray), .int .i64 0, .int .i64 0, .slice none 0 0] 24 (0, 0)) (mvK BK245.out) hb); have n4_ := Aside0.mk (below_step (mvG HB.out GE245.out) hb); clear HO251; clear HO254; clear HO261; clear BK245; clear HB; have HO251 := n0_; have HO254 := n1_; have HO261 := n2_; have BK245 := n3_; have HB := n4_; clear n0_ n1_ n2_ n3_ n4_; (try clear hb); (try clear hb2); (try clear hk); (try clear hi); have hcz65_0 : w64.cell? ⟨gb245, 0, none⟩ = some (.int .i64 9) := (blk_cell BK245.out 0).trans rfl; have hcz65_1 : w64.cell? ⟨gb245, 1, none⟩ = some (.int .i64 0) := (blk_cell BK245.out 1).trans rfl; have hcz65_2 : w64.cell? ⟨gb245, 2, none⟩ = some (.string (⟨#[120, 121, 122]⟩ : ByteArray)) := (blk_cell BK245.out 2).trans rfl; have hcz65_3 : w64.cell? ⟨gb245, 3, none⟩ = some (.int .i64 0) := (blk_cell BK245.out 3).trans rfl; have hcz65_4 : w64.cell? ⟨gb245, 4, none⟩ = some (.int .i64 0) := (blk_cell BK245.out 4).trans rfl; have hcz65_5 : w64.cell? ⟨gb245, 5, none⟩ = some (.slice none 0 0) := (blk_cell BK245.out 5).trans rfl; have hfz65_0 := blk_frozen BK245.out 0; have hfz65_1 := blk_frozen BK245.out 1; have hfz65_2 := blk_frozen BK245.out 2; have hfz65_3 := blk_frozen BK245.out 3; have hfz65_4 := blk_frozen BK245.out 4; have hfz65_5 := blk_frozen BK245.out 5) | ((with_reducible refine gate_dst (N := 36) rfl ?_); (try (refine gate_guard (by rfl) ?_; dsimp only)); refine Kd.R_lit k40 _ 40 ?hg (N := 36) ?hd (xs := ([(⟨true, (⟨#[]⟩ : ByteArray)⟩ : S40)] : List (S40))) (inner := [.bool true, .string (⟨#[]⟩ : ByteArray)]) (ok := fun _ => True) (okp := fun _ => True) ?hr ?hp (fun _ hk => hk) trivial (Below.refl _ _) (Nat.le_refl _) (by simp) ?_; (case hd => rfl); (case hg => rfl); (case hr => first | (go_simp; done) | (go_simp; rfl) | (go_simp; simp (disch := omega) only [Go.u8_and63, Go.u8_and31, Go.u8_and15, Go.u8_and7, Go.u8_or128, Go.u8_or192, Go.u8_or224, Go.u8_or240, m64]; done)); (case hp => exact (Reps.c2 (show Kd.M k40 _ _ _ (⟨true, (⟨#[]⟩ : ByteArray)⟩ : S40) [.bool true, .string (⟨#[]⟩ : ByteArray)] from (k40_mkM _ _ _ (⟨true, (⟨#[]⟩ : ByteArray)⟩ : S40) )) (Reps.none _ _))); intro v264 w66 ho67 hb hg_ hnew_; clear hg_ hnew_; (first | rw [← Ny263.out] at ho67 | (simp only [Int.reduceToNat] at ho67; rw [← Ny263.out] at ho67)); have n0_ := Aside0.mk (Kd.N_elder' (mvN HO251.out) (Kd.R_base ho67) hb); have n1_ := Aside0.mk (Kd.N_elder' (mvN HO254.out) (Kd.R_base ho67) hb); have n2_ := Aside0.mk (Kd.R_elder' (mvR HO261.out) (Kd.R_base ho67) hb); have n3_ := Aside0.mk (Kd.R_lower (Kd.R_new' ho67 (Kd.R_lt (mvR HO261.out))) (below_size (mvG HB.out GE245.out))); have n4_ := Aside0.mk (blk_below (g := gb245) (o := .cells #[.int .i64 9, .int .i64 0, .string (⟨#[120, 121, 122]⟩ : ByteArray), .int .i64 0, .int .i64 0, .slice none 0 0] 24 (0, 0)) (mvK BK245.out) hb); have n5_ := Aside0.mk (below_step (mvG HB.out GE245.out) hb); clear HO251; clear HO254; clear HO261; clear BK245; clear HB; have HO251 := n0_; have HO254 := n1_; have HO261 := n2_; have HO265 := n3_; have BK245 := n4_; have HB := n5_; clear n0_ n1_ n2_ n3_ n4_ n5_; clear hb ho67; obtain ⟨Ao68, co68, eo68⟩ := Kd.R_slice HO265.out; subst eo68) | (go_at_call 16; have _t := tok4_; clear _t tok4_; (refine (need_Says.calls k 9 0 (⟨#[120, 121, 122]⟩ : ByteArray) 0 0 _ _ ([] : List (S24)) _ _ y263 t266 _ ?side1 ?side2 ?side3 ?side4 ?side5 A42.out).mono ?_); (case side1 => exact Kd.C_nil _ _); (case side2 => exact Nat.le_refl _); (case side3 => repeat (first | exact (Kd.R_reads' HO265.out).2.2 | (with_reducible refine Kd.C_alloc ?_ _) | (with_reducible refine Kd.C_drewN ?_ _) | (with_reducible refine Kd.C_drew ?_))); (case side4 => exact (Kd.R_reads' HO265.out).2.1); (case side5 => first | exact HT.out | exact Facts.below HT.out (mvG HB.out GE245.out) | exact Facts.below HT.out HB.out | (repeat (first | exact HT.out | refine Facts.drewN ?_ _ | refine Facts.drew ?_ | refine Facts.alloc ?_ _))); rintro e w69 ⟨rfl, hb⟩; have n0_ := Aside0.mk (Kd.N_below (mvN HO251.out) hb); have n1_ := Aside0.mk (Kd.N_below (mvN HO254.out) hb); have n2_ := Aside0.mk (Kd.R_below (mvR HO261.out) hb); have n3_ := Aside0.mk (Kd.R_below (mvR HO265.out) hb); have n4_ := Aside0.mk (blk_below (g := gb245) (o := .cells #[.int .i64 9, .int .i64 0, .string (⟨#[120, 121, 122]⟩ : ByteArray), .int .i64 0, .int .i64 0, .slice none 0 0] 24 (0, 0)) (mvK BK245.out) hb); have n5_ := Aside0.mk (below_step (mvG HB.out GE245.out) hb); clear HO251; clear HO254; clear HO261; clear HO265; clear BK245; clear HB; have HO251 := n0_; have HO254 := n1_; have HO261 := n2_; have HO265 := n3_; have BK245 := n4_; have HB := n5_; clear n0_ n1_ n2_ n3_ n4_ n5_; (try clear hb); (try clear hb2); (try clear hk); (try clear hi)))
      go_ret
      exact ⟨by first | rfl | (simp [errW_none, errW_some] <;> rfl) | (simp [*, errW_none, errW_some] <;> rfl) | exact congrArg (fun b_ => Ending.returned (.bool b_)) (decide_eq_decide.2 (by unfold wrap64; omega)), mvG HB.out GE245.out⟩
     ·rw [if_neg c41] at H
      have c41b0 : (t262 == 1) = false := beq_eq_false_iff_ne.mpr c41
      have c41b1 : (t262 != 1) = true := bne_iff_ne.mpr c41
      cases H
   ·replace c20 := Bool.eq_false_iff.mpr c20
    subst c20
    have H1 : (none) = some r := by rw [if_neg (show ¬ (false = true) by decide)] at H; exact H
    clear H
    have H := H1
    clear H1
    cases H
 ·replace c3 := Bool.eq_false_iff.mpr c3
  subst c3
  have H1 : (none) = some r := by rw [if_neg (show ¬ (false = true) by decide)] at H; exact H
  clear H
  have H := H1
  clear H1
  cases H
/-! ### hopperref16_Size: function 18 -/
set_option maxRecDepth 100000 in
mutual
def hopperref16_Size.l0 : Nat → Int → Int → Int → Int → Int → ByteArray → Int → Int → List (S24) → Option (Int)
 | 0, _, _, _, _, _, _, _, _, _ => none
 | k + 1, x1, x5, x6, x268000, x268001, x268002, x268003, x268004, x268005 => if x6 < (x268005.length : Int) then (if x5 ≤ x1 then (if 0 ≤ x6 then ((hopperref16_Size.f k ((rd_T24 x268005 x6).f0) ((rd_T24 x268005 x6).f1) ((rd_T24 x268005 x6).f2) ((rd_T24 x268005 x6).f3) ((rd_T24 x268005 x6).f4) ((rd_T24 x268005 x6).f5) (wrap64 (x1 - x5))).bind fun t269 => (hopperref16_Size.l0 k x1 (wrap64 (x5 + t269)) (wrap64 (x6 + 1)) x268000 x268001 x268002 x268003 x268004 x268005)) else (none)) else (some x5)) else (some x5)
def hopperref16_Size.f : Nat → Int → Int → ByteArray → Int → Int → List (S24) → Int → Option (Int)
 | 0, _, _, _, _, _, _, _ => none
 | k + 1, a0_0, a0_1, a0_2, a0_3, a0_4, l0_5, a1 => hopperref16_Size.l0 k a1 1 0 a0_0 a0_1 a0_2 a0_3 a0_4 l0_5
end
set_option maxHeartbeats 8000000 in
set_option maxRecDepth 100000 in
theorem hopperref16_Size.calls (k : Nat) : ∀ (a0_0 : Int) (a0_1 : Int) (a0_2 : ByteArray) (a0_3 : Int) (a0_4 : Int) (A0_5 : Option Addr) (c0_5 : Nat) (l0_5 : List (S24)) (a1 : Int) (r : Int) (w : World) (hr0_5 : Kd.C k24 w A0_5 l0_5.length l0_5) (hc0_5 : l0_5.length ≤ c0_5) (h : hopperref16_Size.f k a0_0 a0_1 a0_2 a0_3 a0_4 l0_5 a1 = some r),
  Calls Tryd.prog 18 #[.agg #[.int .i64 a0_0, .int .i64 a0_1, .string a0_2, .int .i64 a0_3, .int .i64 a0_4, .slice A0_5 l0_5.length c0_5], .int .i64 a1] w fun e w' => e = .returned (.int .i64 r) ∧ Below w.heap.size w w' := by
 induction k using Nat.strongRecOn with
 | _ k ih =>
 intro a0_0 a0_1 a0_2 a0_3 a0_4 A0_5 c0_5 l0_5 a1 r w hr0_5 hc0_5 h
 cases k with
 | zero => exact absurd h (by simp [hopperref16_Size.f])
 | succ k =>
 simp only [hopperref16_Size.f] at h
 have hu24 := Tryd.underlying24
 have HR0_5 := Aside0.mk hr0_5
 have HC0_5 := Aside0.mk hc0_5
 clear hr0_5 hc0_5
 have HB := Aside0.mk (Below.refl w.heap.size w)
 have H : (hopperref16_Size.l0 k a1 1 0 a0_0 a0_1 a0_2 a0_3 a0_4 l0_5) = some r := h
 clear h
 have H' := Aside0.mk H
 clear H
 go_enter Tryd.func18, Tryd.ntmps18
 go_wp2_with (first | ((with_reducible refine gate_dst (N := 2) rfl ?_); refine box_event ?hg (N := 2) ?hd (cs := #[.int .i64 a0_0, .int .i64 a0_1, .string a0_2, .int .i64 a0_3, .int .i64 a0_4, .slice A0_5 l0_5.length c0_5]) (t := 24) ?hr ?_; (case hd => rfl); (case hg => rfl); (case hr => first | (go_simp; done) | (go_simp; rfl) | (go_simp; simp (disch := omega) only [Go.u8_and63, Go.u8_and31, Go.u8_and15, Go.u8_and7, Go.u8_or128, Go.u8_or192, Go.u8_or224, Go.u8_or240, m64]; done)); intro gb267 hg w3 hbox hb; have n0_ := Aside0.mk (below_step (mvB HB.out) hb); have n1_ := Aside0.mk (hbox); have n2_ := Aside0.mk ((by rw [hg]; exact (below_size (mvB HB.out)) : w.heap.size ≤ gb267)); have n3_ := Aside0.mk ((by rw [hg]; exact (below_size (mvB HB.out)) : w.heap.size ≤ gb267)); clear HB; have HB := n0_; have BK267 := n1_; have GW267 := n2_; have GE267 := n3_; clear n0_ n1_ n2_ n3_; clear hb hbox hg))
 go_loopg [5, 6] k (fun kq v5 v6 w' => ∃ (x5_1 : Int) (x6_1 : Int), v5 = .int .i64 x5_1 ∧ v6 = .int .i64 x6_1 ∧ Aside0 (hopperref16_Size.l0 kq a1 x5_1 x6_1 a0_0 a0_1 a0_2 a0_3 a0_4 l0_5 = some r) ∧ Aside0 (kq ≤ k) ∧ Aside0 (w'.heap[gb267]? = some (.cells #[.int .i64 a0_0, .int .i64 a0_1, .string a0_2, .int .i64 a0_3, .int .i64 a0_4, (.slice A0_5 l0_5.length c0_5)] 24 (0, 0))) ∧ Aside0 (Below w.heap.size w w'))
 case atStart => exact ⟨(1), (0), (by first | rfl | (simp; done) | (simp [*]; done)), (by first | rfl | (simp; done) | (simp [*]; done)), H', ⟨Nat.le_refl _⟩, ⟨mvK BK267.out⟩, ⟨mvG HB.out GE267.out⟩⟩
 case round =>
  clear H'
  try clear c1
  try clear p2
  obtain ⟨x5_1, x6_1, rfl, rfl, HA, HK1, BK267, HB⟩ := hrel
  cases gk with
  | zero => exact absurd HA.out (by simp [hopperref16_Size.l0])
  | succ k1 =>
   have H := HA.out
   clear HA
   simp only [hopperref16_Size.l0] at H
   by_cases c4 : x6_1 < (l0_5.length : Int)
   ·rw [if_pos c4] at H
    have c4b0 : decide (x6_1 < (l0_5.length : Int)) = true := decide_eq_true c4
    clear c4
    by_cases c5 : x5_1 ≤ a1
    ·rw [if_pos c5] at H
     have c5b0 : decide (x5_1 ≤ a1) = true := decide_eq_true c5
     clear c5
     by_cases c6 : 0 ≤ x6_1
     ·rw [if_pos c6] at H
      have c6b0 : decide (0 ≤ x6_1) = true := decide_eq_true c6
      clear c6
      replace H := Option.bind_eq_some_iff.mp H
      obtain ⟨t269, A70, H⟩ := H
      replace H : (hopperref16_Size.l0 k1 a1 (wrap64 (x5_1 + t269)) (wrap64 (x6_1 + 1)) a0_0 a0_1 a0_2 a0_3 a0_4 l0_5) = some r := H
      have A7 := Aside0.mk A70
      clear A70
      have H' := Aside0.mk H
      clear H
      have hcz8_0 : wr.cell? ⟨gb267, 0, none⟩ = some (.int .i64 a0_0) := (blk_cell BK267.out 0).trans rfl
      have hcz8_1 : wr.cell? ⟨gb267, 1, none⟩ = some (.int .i64 a0_1) := (blk_cell BK267.out 1).trans rfl
      have hcz8_2 : wr.cell? ⟨gb267, 2, none⟩ = some (.string a0_2) := (blk_cell BK267.out 2).trans rfl
      have hcz8_3 : wr.cell? ⟨gb267, 3, none⟩ = some (.int .i64 a0_3) := (blk_cell BK267.out 3).trans rfl
      have hcz8_4 : wr.cell? ⟨gb267, 4, none⟩ = some (.int .i64 a0_4) := (blk_cell BK267.out 4).trans rfl
      have hcz8_5 : wr.cell? ⟨gb267, 5, none⟩ = some (.slice A0_5 l0_5.length c0_5) := (blk_cell BK267.out 5).trans rfl
      have hfz8_0 := blk_frozen BK267.out 0
      have hfz8_1 := blk_frozen BK267.out 1
      have hfz8_2 := blk_frozen BK267.out 2
      have hfz8_3 := blk_frozen BK267.out 3
      have hfz8_4 := blk_frozen BK267.out 4
      have hfz8_5 := blk_frozen BK267.out 5
      have p268 : 0 ≤ (x6_1 : Int) := of_decide_eq_true (by first | (with_reducible assumption) | assumption)
      have q268 : x6_1 < (l0_5.length : Int) := of_decide_eq_true (by first | (with_reducible assumption) | assumption)
      obtain ⟨ad268, A268_5, c268_5, e268, hx268_0, hx268_1, hx268_2, hx268_3, hx268_4, hx268_5, hl268_5, hi268_5⟩ := at_T24 HR0_5.out x6_1 p268 q268
      cases e268
      replace hx268_0 := (HB.out.cell (World.block_lt_of_cell? w _ hx268_0)).trans hx268_0
      replace hx268_1 := (HB.out.cell (World.block_lt_of_cell? w _ hx268_1)).trans hx268_1
      replace hx268_2 := (HB.out.cell (World.block_lt_of_cell? w _ hx268_2)).trans hx268_2
      replace hx268_3 := (HB.out.cell (World.block_lt_of_cell? w _ hx268_3)).trans hx268_3
      replace hx268_4 := (HB.out.cell (World.block_lt_of_cell? w _ hx268_4)).trans hx268_4
      replace hx268_5 := (HB.out.cell (World.block_lt_of_cell? w _ hx268_5)).trans hx268_5
      have HR268_5 := Aside0.mk hi268_5
      have HC268_5 := Aside0.mk hl268_5
      clear hi268_5 hl268_5
      replace p268 := eq_true p268
      replace q268 := eq_true q268
      go_wp2_with (first | ((with_reducible refine gate_callee (f := 18) rfl ?_); refine goesL_ (some 28) rfl rfl Tryd.func18 (by kernel_rfl) rfl #[.agg #[.int .i64 ((rd_T24 l0_5 x6_1).f0), .int .i64 ((rd_T24 l0_5 x6_1).f1), .string ((rd_T24 l0_5 x6_1).f2), .int .i64 ((rd_T24 l0_5 x6_1).f3), .int .i64 ((rd_T24 l0_5 x6_1).f4), .slice A268_5 ((rd_T24 l0_5 x6_1).f5).length c268_5], .int .i64 (wrap64 (a1 - x5_1))] rfl (by (try simp only [List.map_toArray, List.map_cons, List.map_nil]); first | done | rfl | (simp only [List.length_drop, List.length_take]; rfl)) ?_; (with_reducible refine (ih k1 (by have := HK1.out; omega) ((rd_T24 l0_5 x6_1).f0) ((rd_T24 l0_5 x6_1).f1) ((rd_T24 l0_5 x6_1).f2) ((rd_T24 l0_5 x6_1).f3) ((rd_T24 l0_5 x6_1).f4) _ _ ((rd_T24 l0_5 x6_1).f5) (wrap64 (a1 - x5_1)) t269 _ ?side1 ?side2 A7.out).mono ?_); (case side1 => repeat (first | exact (Kd.C_below HR268_5.out HB.out) | (with_reducible refine Kd.C_alloc ?_ _) | (with_reducible refine Kd.C_drewN ?_ _) | (with_reducible refine Kd.C_drew ?_))); (case side2 => exact HC268_5.out); rintro e w9 ⟨rfl, hb⟩; refine ⟨_, rfl, ?_⟩; have n0_ := Aside0.mk (blk_below (g := gb267) (o := .cells #[.int .i64 a0_0, .int .i64 a0_1, .string a0_2, .int .i64 a0_3, .int .i64 a0_4, .slice (some ad268) l0_5.length c0_5] 24 (0, 0)) (mvK BK267.out) hb); have n1_ := Aside0.mk (below_step (mvG HB.out GE267.out) hb); clear BK267; clear HB; have BK267 := n0_; have HB := n1_; clear n0_ n1_; (try clear hb); (try clear hb2); (try clear hk); (try clear hi)))
      go_roundg k1
      case measure => have := HK1.out; omega
      case rel => exact ⟨(wrap64 (x5_1 + t269)), (wrap64 (x6_1 + 1)), (by first | rfl | (simp; done) | (simp [*]; done)), (by first | rfl | (simp; done) | (simp [*]; done)), H', ⟨by have := HK1.out; omega⟩, ⟨mvK BK267.out⟩, ⟨mvG HB.out GE267.out⟩⟩
     ·rw [if_neg c6] at H
      exact absurd H (by simp)
    ·rw [if_neg c5] at H
     have c5b0 : decide (x5_1 ≤ a1) = false := decide_eq_false c5
     clear c5
     obtain rfl := Option.some.inj H
     have hcz10_0 : wr.cell? ⟨gb267, 0, none⟩ = some (.int .i64 a0_0) := (blk_cell BK267.out 0).trans rfl
     have hcz10_1 : wr.cell? ⟨gb267, 1, none⟩ = some (.int .i64 a0_1) := (blk_cell BK267.out 1).trans rfl
     have hcz10_2 : wr.cell? ⟨gb267, 2, none⟩ = some (.string a0_2) := (blk_cell BK267.out 2).trans rfl
     have hcz10_3 : wr.cell? ⟨gb267, 3, none⟩ = some (.int .i64 a0_3) := (blk_cell BK267.out 3).trans rfl
     have hcz10_4 : wr.cell? ⟨gb267, 4, none⟩ = some (.int .i64 a0_4) := (blk_cell BK267.out 4).trans rfl
     have hcz10_5 : wr.cell? ⟨gb267, 5, none⟩ = some (.slice A0_5 l0_5.length c0_5) := (blk_cell BK267.out 5).trans rfl
     have hfz10_0 := blk_frozen BK267.out 0
     have hfz10_1 := blk_frozen BK267.out 1
     have hfz10_2 := blk_frozen BK267.out 2
     have hfz10_3 := blk_frozen BK267.out 3
     have hfz10_4 := blk_frozen BK267.out 4
     have hfz10_5 := blk_frozen BK267.out 5
     go_wp2
     go_ret
     exact ⟨by first | rfl | (simp [errW_none, errW_some] <;> rfl) | (simp [*, errW_none, errW_some] <;> rfl) | exact congrArg (fun b_ => Ending.returned (.bool b_)) (decide_eq_decide.2 (by unfold wrap64; omega)), mvG HB.out GE267.out⟩
   ·rw [if_neg c4] at H
    have c4b0 : decide (x6_1 < (l0_5.length : Int)) = false := decide_eq_false c4
    clear c4
    obtain rfl := Option.some.inj H
    have hcz11_0 : wr.cell? ⟨gb267, 0, none⟩ = some (.int .i64 a0_0) := (blk_cell BK267.out 0).trans rfl
    have hcz11_1 : wr.cell? ⟨gb267, 1, none⟩ = some (.int .i64 a0_1) := (blk_cell BK267.out 1).trans rfl
    have hcz11_2 : wr.cell? ⟨gb267, 2, none⟩ = some (.string a0_2) := (blk_cell BK267.out 2).trans rfl
    have hcz11_3 : wr.cell? ⟨gb267, 3, none⟩ = some (.int .i64 a0_3) := (blk_cell BK267.out 3).trans rfl
    have hcz11_4 : wr.cell? ⟨gb267, 4, none⟩ = some (.int .i64 a0_4) := (blk_cell BK267.out 4).trans rfl
    have hcz11_5 : wr.cell? ⟨gb267, 5, none⟩ = some (.slice A0_5 l0_5.length c0_5) := (blk_cell BK267.out 5).trans rfl
    have hfz11_0 := blk_frozen BK267.out 0
    have hfz11_1 := blk_frozen BK267.out 1
    have hfz11_2 := blk_frozen BK267.out 2
    have hfz11_3 := blk_frozen BK267.out 3
    have hfz11_4 := blk_frozen BK267.out 4
    have hfz11_5 := blk_frozen BK267.out 5
    go_wp2
    go_ret
    exact ⟨by first | rfl | (simp [errW_none, errW_some] <;> rfl) | (simp [*, errW_none, errW_some] <;> rfl) | exact congrArg (fun b_ => Ending.returned (.bool b_)) (decide_eq_decide.2 (by unfold wrap64; omega)), mvG HB.out GE267.out⟩

end Go.Proofs.YtdccooaddoafnaaDoor.Q
