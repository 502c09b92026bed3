-- PRINTED by print.py (a twelfth state) out of the translation. Not trusted: Lean checks it.
import Derived.Test.YtomccmodlkdcbaaQx0
import Derived.Test.YtomccmodlkdcbaaQx8
import Derived.Test.YtomccmodlkdcbaaQx9
import Derived.Test.YtomccmodlkdcbaaQx11
import Derived.Test.YtomccmodlkdcbaaQx12
import Derived.Test.YtomccmodlkdcbaaQx17
namespace Go.Proofs.Ytomccmodlkdcbaa.Q
open Go.RowKit Go.Proofs.YtomccmodlkdcbaaW.PrintWords Go.Proofs.YtomccmodlkdcbaaW.PrintLast Go.Proofs.YtomccmodlkdcbaaW.PrintMore
attribute [local go_sem] str_gtr str_geq str_leq max2_int min2_int max_two min_two max_three min_three max_four min_four   -- for this text's walks alone
set_option linter.unusedVariables false
set_option linter.unusedSimpArgs false

/-! ### hopperlaw25_PlanCols: function 3 -/
-- told by hand
def lawColsP (k : Nat) (p : S31) (l : List S46) : Option Bool := (hopperlaw25_awake.f k).bind fun t => if t = true then (smallP k p 20).bind fun b => if b = true then (hopperref25_Named.f k l).bind fun c => if c = true then ((colsP k p l 12).bind (fun t => if t = 0 then some ((0 : Int), (5 : Int)) else some (t, 0))).bind fun r => (refColsP k p l 12).bind fun m => if m = 0 then (if r.1 = 0 ∧ r.2 = 5 then some true else none) else (if r.1 = m ∧ r.2 = 0 then some true else none) else some true else some true else none
def hopperlaw25_PlanCols.f (k : Nat) (a0_0 : Int) (a0_1 : ByteArray) (a0_2 : Int) (a0_3 : Int) (a0_4 : ByteArray) (a0_5 : Int) (a0_6 : Int) (l0_7 : List S24) (l0_8 : List S50) (l0_9 : List Int) (l0_10 : List S72) (a0_11 : Int) (l0_12 : List Int) (l0_13 : List Int) (l0_14 : List S52) (a0_15 : Int) (a0_16 : Int) (l0_17 : List S31) (l1 : List S46) : Option Bool := lawColsP k ⟨a0_0, a0_1, ⟨a0_2, a0_3, a0_4, a0_5, a0_6, l0_7⟩, l0_8, l0_9, l0_10, a0_11, l0_12, l0_13, l0_14, a0_15, a0_16, l0_17⟩ l1
set_option maxHeartbeats 8000000 in
set_option maxRecDepth 1000000 in
theorem hopperlaw25_PlanCols.core (k : Nat) (p : S31) (cs : List Value) (A1 : Option Addr) (c1 : Nat) (l1 : List S46) (r : Bool) (w : World) (hK : k31.K w p cs) (hr1 : Kd.C k46 w A1 l1.length l1) (hc1 : l1.length ≤ c1) (h : lawColsP k p l1 = some r) :
  Calls Try.prog 3 #[.agg cs.toArray, .slice A1 l1.length c1] w fun e w' => e = .returned (.bool r) ∧ Below w.heap.size w w' := by
 have hagg : ∀ W, (isAgg 31).run Try.prog W = .ok true W := fun W => by first | exact Try.isAgg31 | exact Try.isAgg31 W | go_simp
 have hsz18 : ∀ W, (sizeOf 31).run Try.prog W = .ok 18 W := fun W => by first | exact Try.sizeOf31 | exact Try.sizeOf31 W | go_simp
 have HAGG := Aside0.mk hagg
 have HSZ := Aside0.mk hsz18
 clear hagg hsz18
 have hu31 := Try.underlying31
 have HL18 := Aside0.mk (show cs.length = 18 from k31.K_len hK)
 unfold lawColsP at h
 obtain ⟨t, haw, h⟩ := Option.bind_eq_some_iff.1 h
 cases t with
 | false => rw [if_neg (by decide)] at h; cases h
 | true =>
 rw [if_pos rfl] at h
 have HAW := Aside0.mk (fun W => hopperlaw25_awake.calls k true W haw)
 obtain ⟨b, hsm, h⟩ := Option.bind_eq_some_iff.1 h
 have HSM := Aside0.mk (fun W (hb : Below w.heap.size w W) => hopperref25_Small.core k p cs 20 b W (k31.K_below hb hK) hsm)
 clear haw hsm
 cases b with
 | false =>
  rw [if_neg (by decide)] at h
  obtain rfl := Option.some.inj h
  clear h hK hr1 hc1
  go_enter Try.func3, Try.ntmps3
  go_wp2_with (first
   | ((with_reducible refine gate_dst (N := 2) rfl ?_); refine box_all rfl rfl (cs := cs.toArray) rfl (fun W => by rw [List.size_toArray, HL18.out]; exact HSZ.out W) ?_; intro w1 hbx hbw; have BW1 := Aside0.mk hbw; have BX1 := Aside0.mk hbx; clear hbx hbw)
   | (go_at_call 9; refine (HAW.out _).mono ?_; rintro e w2 ⟨rfl, hb2⟩; have HB2 := Aside0.mk (below_step BW1.out hb2); have BX2 := Aside0.mk ((hb2.block w.heap.size (Array.getElem?_eq_some_iff.1 BX1.out).1).trans BX1.out); clear hb2 BW1 BX1)
   | ((with_reducible refine gate_dst (N := 11) rfl ?_); (try (refine gate_guard (by rfl) ?_; dsimp only)); refine load_all rfl rfl (cs := cs) rfl HAGG.out (fun W => by rw [HL18.out]; exact HSZ.out W) (blk_cells BX2.out) ?_)
   | (go_at_call 10; refine (HSM.out _ HB2.out).mono ?_; rintro e w3 ⟨rfl, hb3⟩; have HB3 := Aside0.mk (below_step HB2.out hb3); have BX3 := Aside0.mk ((hb3.block w.heap.size (Array.getElem?_eq_some_iff.1 BX2.out).1).trans BX2.out); clear hb3 HB2 BX2)
   | (go_at_call 9; refine (HAW.out _).mono ?_; rintro e w5 ⟨rfl, hb5⟩; have HB9 := Aside0.mk (below_step HB3.out hb5); clear hb5))
  go_ret
  exact ⟨rfl, HB9.out⟩
 | true =>
 rw [if_pos rfl] at h
 obtain ⟨b, hnm, h⟩ := Option.bind_eq_some_iff.1 h
 have HNM := Aside0.mk (fun W (hb : Below w.heap.size w W) => hopperref25_Named.calls k A1 c1 l1 b W (Kd.C_below hr1 hb) hc1 hnm)
 clear hnm
 cases b with
 | false =>
  rw [if_neg (by decide)] at h
  obtain rfl := Option.some.inj h
  clear h hK hr1 hc1
  go_enter Try.func3, Try.ntmps3
  go_wp2_with (first
   | ((with_reducible refine gate_dst (N := 2) rfl ?_); refine box_all rfl rfl (cs := cs.toArray) rfl (fun W => by rw [List.size_toArray, HL18.out]; exact HSZ.out W) ?_; intro w1 hbx hbw; have BW1 := Aside0.mk hbw; have BX1 := Aside0.mk hbx; clear hbx hbw)
   | (go_at_call 9; refine (HAW.out _).mono ?_; rintro e w2 ⟨rfl, hb2⟩; have HB2 := Aside0.mk (below_step BW1.out hb2); have BX2 := Aside0.mk ((hb2.block w.heap.size (Array.getElem?_eq_some_iff.1 BX1.out).1).trans BX1.out); clear hb2 BW1 BX1)
   | ((with_reducible refine gate_dst (N := 11) rfl ?_); (try (refine gate_guard (by rfl) ?_; dsimp only)); refine load_all rfl rfl (cs := cs) rfl HAGG.out (fun W => by rw [HL18.out]; exact HSZ.out W) (blk_cells BX2.out) ?_)
   | (go_at_call 10; refine (HSM.out _ HB2.out).mono ?_; rintro e w3 ⟨rfl, hb3⟩; have HB3 := Aside0.mk (below_step HB2.out hb3); have BX3 := Aside0.mk ((hb3.block w.heap.size (Array.getElem?_eq_some_iff.1 BX2.out).1).trans BX2.out); clear hb3 HB2 BX2)
   | (go_at_call 11; refine (HNM.out _ HB3.out).mono ?_; rintro e w4 ⟨rfl, hb4⟩; have HB4 := Aside0.mk (below_step HB3.out hb4.below); have BX4 := Aside0.mk ((hb4.below.block w.heap.size (Array.getElem?_eq_some_iff.1 BX3.out).1).trans BX3.out); clear hb4 HB3 BX3)
   | (go_at_call 9; refine (HAW.out _).mono ?_; rintro e w5 ⟨rfl, hb5⟩; have HB9 := Aside0.mk (below_step HB4.out hb5); clear hb5))
  go_ret
  exact ⟨rfl, HB9.out⟩
 | true =>
 rw [if_pos rfl] at h
 obtain ⟨⟨r1, r2⟩, hpc, h5⟩ := Option.bind_eq_some_iff.1 h
 clear h
 obtain ⟨m, hrc, h6⟩ := Option.bind_eq_some_iff.1 h5
 clear h5
 have HPC := Aside0.mk (fun W (hb : Below w.heap.size w W) => plan_Cols.core k p cs A1 c1 l1 r1 r2 W (k31.K_below hb hK) (Kd.C_below hr1 hb) hc1 hpc)
 have HRC := Aside0.mk (fun W (hb : Below w.heap.size w W) => hopperref25_Cols.core k p cs A1 c1 l1 12 m W (k31.K_below hb hK) (Kd.C_below hr1 hb) hc1 hrc)
 clear hpc hrc hK hr1 hc1
 dsimp only at h6
 by_cases hm : m = 0
 ·rw [if_pos hm] at h6
  by_cases hq : r1 = 0 ∧ r2 = 5
  ·rw [if_pos hq] at h6
   obtain ⟨rfl, rfl⟩ := hq
   obtain rfl := Option.some.inj h6
   subst hm
   clear h6
   go_enter Try.func3, Try.ntmps3
   go_wp2_with (first
   | ((with_reducible refine gate_dst (N := 2) rfl ?_); refine box_all rfl rfl (cs := cs.toArray) rfl (fun W => by rw [List.size_toArray, HL18.out]; exact HSZ.out W) ?_; intro w1 hbx hbw; have BW1 := Aside0.mk hbw; have BX1 := Aside0.mk hbx; clear hbx hbw)
   | (go_at_call 9; refine (HAW.out _).mono ?_; rintro e w2 ⟨rfl, hb2⟩; have HB2 := Aside0.mk (below_step BW1.out hb2); have BX2 := Aside0.mk ((hb2.block w.heap.size (Array.getElem?_eq_some_iff.1 BX1.out).1).trans BX1.out); clear hb2 BW1 BX1)
   | ((with_reducible refine gate_dst (N := 11) rfl ?_); (try (refine gate_guard (by rfl) ?_; dsimp only)); refine load_all rfl rfl (cs := cs) rfl HAGG.out (fun W => by rw [HL18.out]; exact HSZ.out W) (blk_cells BX2.out) ?_)
   | (go_at_call 10; refine (HSM.out _ HB2.out).mono ?_; rintro e w3 ⟨rfl, hb3⟩; have HB3 := Aside0.mk (below_step HB2.out hb3); have BX3 := Aside0.mk ((hb3.block w.heap.size (Array.getElem?_eq_some_iff.1 BX2.out).1).trans BX2.out); clear hb3 HB2 BX2)
   | (go_at_call 11; refine (HNM.out _ HB3.out).mono ?_; rintro e w4 ⟨rfl, hb4⟩; have HB4 := Aside0.mk (below_step HB3.out hb4.below); have BX4 := Aside0.mk ((hb4.below.block w.heap.size (Array.getElem?_eq_some_iff.1 BX3.out).1).trans BX3.out); clear hb4 HB3 BX3)
   | ((with_reducible refine gate_dst (N := 22) rfl ?_); (try (refine gate_guard (by rfl) ?_; dsimp only)); refine load_all rfl rfl (cs := cs) rfl HAGG.out (fun W => by rw [HL18.out]; exact HSZ.out W) (blk_cells BX4.out) ?_)
   | (go_at_call 12; refine (HPC.out _ HB4.out).mono ?_; rintro e w5 ⟨rfl, hb5⟩; have HB5 := Aside0.mk (below_step HB4.out hb5); have BX5 := Aside0.mk ((hb5.block w.heap.size (Array.getElem?_eq_some_iff.1 BX4.out).1).trans BX4.out); clear hb5 HB4 BX4)
   | ((with_reducible refine gate_dst (N := 27) rfl ?_); (try (refine gate_guard (by rfl) ?_; dsimp only)); refine load_all rfl rfl (cs := cs) rfl HAGG.out (fun W => by rw [HL18.out]; exact HSZ.out W) (blk_cells BX5.out) ?_)
   | (go_at_call 13; refine (HRC.out _ HB5.out).mono ?_; rintro e w6 ⟨rfl, hb6⟩; have HB9 := Aside0.mk (below_step HB5.out hb6); clear hb6 HB5 BX5))
   go_ret
   exact ⟨rfl, HB9.out⟩
  ·rw [if_neg hq] at h6; cases h6
 ·rw [if_neg hm] at h6
  by_cases hq : r1 = m ∧ r2 = 0
  ·rw [if_pos hq] at h6
   obtain ⟨rfl, rfl⟩ := hq
   obtain rfl := Option.some.inj h6
   have hz0 : (r1 == 0) = false := beq_eq_false_iff_ne.mpr hm
   clear h6
   go_enter Try.func3, Try.ntmps3
   go_wp2_with (first
   | ((with_reducible refine gate_dst (N := 2) rfl ?_); refine box_all rfl rfl (cs := cs.toArray) rfl (fun W => by rw [List.size_toArray, HL18.out]; exact HSZ.out W) ?_; intro w1 hbx hbw; have BW1 := Aside0.mk hbw; have BX1 := Aside0.mk hbx; clear hbx hbw)
   | (go_at_call 9; refine (HAW.out _).mono ?_; rintro e w2 ⟨rfl, hb2⟩; have HB2 := Aside0.mk (below_step BW1.out hb2); have BX2 := Aside0.mk ((hb2.block w.heap.size (Array.getElem?_eq_some_iff.1 BX1.out).1).trans BX1.out); clear hb2 BW1 BX1)
   | ((with_reducible refine gate_dst (N := 11) rfl ?_); (try (refine gate_guard (by rfl) ?_; dsimp only)); refine load_all rfl rfl (cs := cs) rfl HAGG.out (fun W => by rw [HL18.out]; exact HSZ.out W) (blk_cells BX2.out) ?_)
   | (go_at_call 10; refine (HSM.out _ HB2.out).mono ?_; rintro e w3 ⟨rfl, hb3⟩; have HB3 := Aside0.mk (below_step HB2.out hb3); have BX3 := Aside0.mk ((hb3.block w.heap.size (Array.getElem?_eq_some_iff.1 BX2.out).1).trans BX2.out); clear hb3 HB2 BX2)
   | (go_at_call 11; refine (HNM.out _ HB3.out).mono ?_; rintro e w4 ⟨rfl, hb4⟩; have HB4 := Aside0.mk (below_step HB3.out hb4.below); have BX4 := Aside0.mk ((hb4.below.block w.heap.size (Array.getElem?_eq_some_iff.1 BX3.out).1).trans BX3.out); clear hb4 HB3 BX3)
   | ((with_reducible refine gate_dst (N := 22) rfl ?_); (try (refine gate_guard (by rfl) ?_; dsimp only)); refine load_all rfl rfl (cs := cs) rfl HAGG.out (fun W => by rw [HL18.out]; exact HSZ.out W) (blk_cells BX4.out) ?_)
   | (go_at_call 12; refine (HPC.out _ HB4.out).mono ?_; rintro e w5 ⟨rfl, hb5⟩; have HB5 := Aside0.mk (below_step HB4.out hb5); have BX5 := Aside0.mk ((hb5.block w.heap.size (Array.getElem?_eq_some_iff.1 BX4.out).1).trans BX4.out); clear hb5 HB4 BX4)
   | ((with_reducible refine gate_dst (N := 27) rfl ?_); (try (refine gate_guard (by rfl) ?_; dsimp only)); refine load_all rfl rfl (cs := cs) rfl HAGG.out (fun W => by rw [HL18.out]; exact HSZ.out W) (blk_cells BX5.out) ?_)
   | (go_at_call 13; refine (HRC.out _ HB5.out).mono ?_; rintro e w6 ⟨rfl, hb6⟩; have HB9 := Aside0.mk (below_step HB5.out hb6); clear hb6 HB5 BX5))
   go_ret
   exact ⟨rfl, HB9.out⟩
  ·rw [if_neg hq] at h6; cases h6
theorem hopperlaw25_PlanCols.calls (k : Nat) (a0_0 : Int) (a0_1 : ByteArray) (a0_2 : Int) (a0_3 : Int) (a0_4 : ByteArray) (a0_5 : Int) (a0_6 : Int) (A0_7 : Option Addr) (c0_7 : Nat) (l0_7 : List (S24)) (A0_8 : Option Addr) (c0_8 : Nat) (l0_8 : List (S50)) (A0_9 : Option Addr) (c0_9 : Nat) (l0_9 : List Int) (A0_10 : Option Addr) (c0_10 : Nat) (l0_10 : List (S72)) (a0_11 : Int) (A0_12 : Option Addr) (c0_12 : Nat) (l0_12 : List Int) (A0_13 : Option Addr) (c0_13 : Nat) (l0_13 : List Int) (A0_14 : Option Addr) (c0_14 : Nat) (l0_14 : List (S52)) (a0_15 : Int) (a0_16 : Int) (A0_17 : Option Addr) (c0_17 : Nat) (l0_17 : List (S31)) (A1 : Option Addr) (c1 : Nat) (l1 : List (S46)) (r : Bool) (w : World) (hr0_7 : Kd.C k24 w A0_7 l0_7.length l0_7) (hc0_7 : l0_7.length ≤ c0_7) (hr0_8 : Kd.C k50 w A0_8 l0_8.length l0_8) (hc0_8 : l0_8.length ≤ c0_8) (hr0_9 : Kd.C (Kd.int .i64) w A0_9 l0_9.length l0_9) (hc0_9 : l0_9.length ≤ c0_9) (hr0_10 : Kd.C k72 w A0_10 l0_10.length l0_10) (hc0_10 : l0_10.length ≤ c0_10) (hr0_12 : Kd.C (Kd.int .i64) w A0_12 l0_12.length l0_12) (hc0_12 : l0_12.length ≤ c0_12) (hr0_13 : Kd.C (Kd.int .i64) w A0_13 l0_13.length l0_13) (hc0_13 : l0_13.length ≤ c0_13) (hr0_14 : Kd.C k52 w A0_14 l0_14.length l0_14) (hc0_14 : l0_14.length ≤ c0_14) (hr0_17 : Kd.C k31 w A0_17 l0_17.length l0_17) (hc0_17 : l0_17.length ≤ c0_17) (hr1 : Kd.C k46 w A1 l1.length l1) (hc1 : l1.length ≤ c1) (h : hopperlaw25_PlanCols.f k a0_0 a0_1 a0_2 a0_3 a0_4 a0_5 a0_6 l0_7 l0_8 l0_9 l0_10 a0_11 l0_12 l0_13 l0_14 a0_15 a0_16 l0_17 l1 = some r) :
  Calls Try.prog 3 #[.agg #[.int .i64 a0_0, .string a0_1, .int .i64 a0_2, .int .i64 a0_3, .string a0_4, .int .i64 a0_5, .int .i64 a0_6, .slice A0_7 l0_7.length c0_7, .slice A0_8 l0_8.length c0_8, .slice A0_9 l0_9.length c0_9, .slice A0_10 l0_10.length c0_10, .int .i64 a0_11, .slice A0_12 l0_12.length c0_12, .slice A0_13 l0_13.length c0_13, .slice A0_14 l0_14.length c0_14, .int .i64 a0_15, .int .i64 a0_16, .slice A0_17 l0_17.length c0_17], .slice A1 l1.length c1] w fun e w' => e = .returned (.bool r) ∧ Below w.heap.size w w' :=
 hopperlaw25_PlanCols.core k ⟨a0_0, a0_1, ⟨a0_2, a0_3, a0_4, a0_5, a0_6, l0_7⟩, l0_8, l0_9, l0_10, a0_11, l0_12, l0_13, l0_14, a0_15, a0_16, l0_17⟩ _ A1 c1 l1 r w (k31_mk w ⟨a0_0, a0_1, ⟨a0_2, a0_3, a0_4, a0_5, a0_6, l0_7⟩, l0_8, l0_9, l0_10, a0_11, l0_12, l0_13, l0_14, a0_15, a0_16, l0_17⟩ hc0_7 hr0_7 hc0_8 hr0_8 hc0_9 hr0_9 hc0_10 hr0_10 hc0_12 hr0_12 hc0_13 hr0_13 hc0_14 hr0_14 hc0_17 hr0_17) hr1 hc1 h

/-- THE ONE PURE STATEMENT of hopperlaw25_PlanCols: yours. -/
def hopperlaw25_PlanCols.Pure : Prop := ∀ (a0_0 : Int) (a0_1 : ByteArray) (a0_2 : Int) (a0_3 : Int) (a0_4 : ByteArray) (a0_5 : Int) (a0_6 : Int) (l0_7 : List (S24)) (l0_8 : List (S50)) (l0_9 : List Int) (l0_10 : List (S72)) (a0_11 : Int) (l0_12 : List Int) (l0_13 : List Int) (l0_14 : List (S52)) (a0_15 : Int) (a0_16 : Int) (l0_17 : List (S31)) (l1 : List (S46)), (fun x_ : Int => (Lit.int .i64 x_).wf = true) a0_0 → (fun x_ : ByteArray => x_.size ≤ maxLen) a0_1 → (fun x_ : Int => (Lit.int .i64 x_).wf = true) a0_2 → (fun x_ : Int => (Lit.int .i64 x_).wf = true) a0_3 → (fun x_ : ByteArray => x_.size ≤ maxLen) a0_4 → (fun x_ : Int => (Lit.int .i64 x_).wf = true) a0_5 → (fun x_ : Int => (Lit.int .i64 x_).wf = true) a0_6 → (WfSl Wf24) l0_7 → (WfSl Wf50) l0_8 → (WfSl (fun x_ : Int => (Lit.int .i64 x_).wf = true)) l0_9 → (WfSl Wf72) l0_10 → (fun x_ : Int => (Lit.int .i64 x_).wf = true) a0_11 → (WfSl (fun x_ : Int => (Lit.int .i64 x_).wf = true)) l0_12 → (WfSl (fun x_ : Int => (Lit.int .i64 x_).wf = true)) l0_13 → (WfSl Wf52) l0_14 → (fun x_ : Int => (Lit.int .i64 x_).wf = true) a0_15 → (fun x_ : Int => (Lit.int .i64 x_).wf = true) a0_16 → (WfSl Wf31) l0_17 → (WfSl Wf46) l1 → ∃ k, hopperlaw25_PlanCols.f k a0_0 a0_1 a0_2 a0_3 a0_4 a0_5 a0_6 l0_7 l0_8 l0_9 l0_10 a0_11 l0_12 l0_13 l0_14 a0_15 a0_16 l0_17 l1 = some true

end Go.Proofs.Ytomccmodlkdcbaa.Q
