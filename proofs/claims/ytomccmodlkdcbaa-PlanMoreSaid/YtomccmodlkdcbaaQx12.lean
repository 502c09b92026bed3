-- PRINTED by print.py (a twelfth state) out of the translation. Not trusted: Lean checks it.
import Derived.Test.YtomccmodlkdcbaaQx0
import Derived.Test.YtomccmodlkdcbaaQx8
import Derived.Test.YtomccmodlkdcbaaQx9
import Derived.Test.YtomccmodlkdcbaaQx10
import Derived.Test.YtomccmodlkdcbaaQx11
namespace Go.Proofs.Ytomccmodlkdcbaa.Q
open Go.RowKit Go.Proofs.YtomccmodlkdcbaaW.PrintWords Go.Proofs.YtomccmodlkdcbaaW.PrintLast Go.Proofs.YtomccmodlkdcbaaW.PrintMore
attribute [local go_sem] str_gtr str_geq str_leq max2_int min2_int max_two min_two max_three min_three max_four min_four   -- for this text's walks alone
set_option linter.unusedVariables false
set_option linter.unusedSimpArgs false

/-! ### hopperref25_Named: function 11 -/
set_option maxRecDepth 100000 in
def hopperref25_Named.l0 : Nat → List (S46) → Int → Option (Bool)
 | 0, _, _ => none
 | k + 1, x0, x3 => if x3 < (x0.length : Int) then (if 0 ≤ x3 then (if (((rd_T46 x0 x3).f0).size : Int) > 100 then (some false) else (if ((rd_T46 x0 x3).f1) < 1 then (some false) else (if ((rd_T46 x0 x3).f1) > 8 then (some false) else (hopperref25_Named.l0 k x0 (wrap64 (x3 + 1)))))) else (none)) else (some (decide ((x0.length : Int) ≤ 20)))
def hopperref25_Named.f (k : Nat) (l0 : List (S46)) : Option (Bool) := hopperref25_Named.l0 k l0 0
set_option maxHeartbeats 8000000 in
set_option maxRecDepth 100000 in
theorem hopperref25_Named.calls (k : Nat) (A0 : Option Addr) (c0 : Nat) (l0 : List (S46)) (r : Bool) (w : World) (hr0 : Kd.C k46 w A0 l0.length l0) (hc0 : l0.length ≤ c0) (h : hopperref25_Named.f k l0 = some r) :
  Calls Try.prog 11 #[.slice A0 l0.length c0] w fun e w' => e = .returned (.bool r) ∧ Drawn0 w w' := by
 have HR0 := Aside0.mk hr0
 have HC0 := Aside0.mk hc0
 clear hr0 hc0
 have H : (hopperref25_Named.l0 k l0 0) = some r := h
 clear h
 have H' := Aside0.mk H
 clear H
 go_enter Try.func11, Try.ntmps11
 go_wp2
 go_loopg [3] k (fun kq v3 w' => ∃ (x3_1 : Int), v3 = .int .i64 x3_1 ∧ Aside0 (hopperref25_Named.l0 kq l0 x3_1 = some r) ∧ Aside0 (kq ≤ k) ∧ Drawn0 w w')
 case atStart => exact ⟨(0), (by first | rfl | (simp; done) | (simp [*]; done)), H', ⟨Nat.le_refl _⟩, by repeat (first | exact Drawn0.refl _ | apply Drawn0.step)⟩
 case round =>
  clear H'
  try clear c1
  obtain ⟨x3_1, rfl, HA, HK1, ⟨m1, rfl⟩⟩ := hrel
  cases gk with
  | zero => exact absurd HA.out (by simp [hopperref25_Named.l0])
  | succ k1 =>
   have H := HA.out
   clear HA
   simp only [hopperref25_Named.l0] at H
   by_cases c2 : x3_1 < (l0.length : Int)
   ·rw [if_pos c2] at H
    have c2b0 : decide (x3_1 < (l0.length : Int)) = true := decide_eq_true c2
    clear c2
    by_cases c3 : 0 ≤ x3_1
    ·rw [if_pos c3] at H
     have c3b0 : decide (0 ≤ x3_1) = true := decide_eq_true c3
     clear c3
     by_cases c4 : (((rd_T46 l0 x3_1).f0).size : Int) > 100
     ·rw [if_pos c4] at H
      have c4b0 : decide (100 < (((rd_T46 l0 x3_1).f0).size : Int)) = true := decide_eq_true c4
      have c4b1 : decide (100 < ((rd_T46 l0 x3_1).f0).size) = true := decide_eq_true (by omega)
      clear c4
      obtain rfl := Option.some.inj H
      have p264 : 0 ≤ (x3_1 : Int) := of_decide_eq_true (by first | (with_reducible assumption) | assumption)
      have q264 : x3_1 < (l0.length : Int) := of_decide_eq_true (by first | (with_reducible assumption) | assumption)
      obtain ⟨ad264, e264, hx264_0, hx264_1⟩ := at_T46 HR0.out x3_1 p264 q264
      cases e264
      replace p264 := eq_true p264
      replace q264 := eq_true q264
      go_wp2
      go_ret
      exact ⟨by first | rfl | (simp; done) | (simp [*]; done), by repeat (first | exact Drawn0.refl _ | apply Drawn0.step)⟩
     ·rw [if_neg c4] at H
      have c4b0 : decide (100 < (((rd_T46 l0 x3_1).f0).size : Int)) = false := decide_eq_false c4
      have c4b1 : decide (100 < ((rd_T46 l0 x3_1).f0).size) = false := decide_eq_false (by omega)
      clear c4
      by_cases c5 : ((rd_T46 l0 x3_1).f1) < 1
      ·rw [if_pos c5] at H
       have c5b0 : decide (((rd_T46 l0 x3_1).f1) < 1) = true := decide_eq_true c5
       clear c5
       obtain rfl := Option.some.inj H
       have p264 : 0 ≤ (x3_1 : Int) := of_decide_eq_true (by first | (with_reducible assumption) | assumption)
       have q264 : x3_1 < (l0.length : Int) := of_decide_eq_true (by first | (with_reducible assumption) | assumption)
       obtain ⟨ad264, e264, hx264_0, hx264_1⟩ := at_T46 HR0.out x3_1 p264 q264
       cases e264
       replace p264 := eq_true p264
       replace q264 := eq_true q264
       have p265 : 0 ≤ (x3_1 : Int) := of_decide_eq_true (by first | (with_reducible assumption) | assumption)
       have q265 : x3_1 < (l0.length : Int) := of_decide_eq_true (by first | (with_reducible assumption) | assumption)
       obtain ⟨ad265, e265, hx265_0, hx265_1⟩ := at_T46 HR0.out x3_1 p265 q265
       obtain rfl : ad264 = ad265 := (by injection e265)
       replace p265 := eq_true p265
       replace q265 := eq_true q265
       go_wp2
       go_ret
       exact ⟨by first | rfl | (simp; done) | (simp [*]; done), by repeat (first | exact Drawn0.refl _ | apply Drawn0.step)⟩
      ·rw [if_neg c5] at H
       have c5b0 : decide (((rd_T46 l0 x3_1).f1) < 1) = false := decide_eq_false c5
       clear c5
       by_cases c6 : ((rd_T46 l0 x3_1).f1) > 8
       ·rw [if_pos c6] at H
        have c6b0 : decide (8 < ((rd_T46 l0 x3_1).f1)) = true := decide_eq_true c6
        clear c6
        obtain rfl := Option.some.inj H
        have p264 : 0 ≤ (x3_1 : Int) := of_decide_eq_true (by first | (with_reducible assumption) | assumption)
        have q264 : x3_1 < (l0.length : Int) := of_decide_eq_true (by first | (with_reducible assumption) | assumption)
        obtain ⟨ad264, e264, hx264_0, hx264_1⟩ := at_T46 HR0.out x3_1 p264 q264
        cases e264
        replace p264 := eq_true p264
        replace q264 := eq_true q264
        have p265 : 0 ≤ (x3_1 : Int) := of_decide_eq_true (by first | (with_reducible assumption) | assumption)
        have q265 : x3_1 < (l0.length : Int) := of_decide_eq_true (by first | (with_reducible assumption) | assumption)
        obtain ⟨ad265, e265, hx265_0, hx265_1⟩ := at_T46 HR0.out x3_1 p265 q265
        obtain rfl : ad264 = ad265 := (by injection e265)
        replace p265 := eq_true p265
        replace q265 := eq_true q265
        have p266 : 0 ≤ (x3_1 : Int) := of_decide_eq_true (by first | (with_reducible assumption) | assumption)
        have q266 : x3_1 < (l0.length : Int) := of_decide_eq_true (by first | (with_reducible assumption) | assumption)
        obtain ⟨ad266, e266, hx266_0, hx266_1⟩ := at_T46 HR0.out x3_1 p266 q266
        obtain rfl : ad264 = ad266 := (by injection e266)
        replace p266 := eq_true p266
        replace q266 := eq_true q266
        go_wp2
        go_ret
        exact ⟨by first | rfl | (simp; done) | (simp [*]; done), by repeat (first | exact Drawn0.refl _ | apply Drawn0.step)⟩
       ·rw [if_neg c6] at H
        have c6b0 : decide (8 < ((rd_T46 l0 x3_1).f1)) = false := decide_eq_false c6
        clear c6
        have H' := Aside0.mk H
        clear H
        have p264 : 0 ≤ (x3_1 : Int) := of_decide_eq_true (by first | (with_reducible assumption) | assumption)
        have q264 : x3_1 < (l0.length : Int) := of_decide_eq_true (by first | (with_reducible assumption) | assumption)
        obtain ⟨ad264, e264, hx264_0, hx264_1⟩ := at_T46 HR0.out x3_1 p264 q264
        cases e264
        replace p264 := eq_true p264
        replace q264 := eq_true q264
        have p265 : 0 ≤ (x3_1 : Int) := of_decide_eq_true (by first | (with_reducible assumption) | assumption)
        have q265 : x3_1 < (l0.length : Int) := of_decide_eq_true (by first | (with_reducible assumption) | assumption)
        obtain ⟨ad265, e265, hx265_0, hx265_1⟩ := at_T46 HR0.out x3_1 p265 q265
        obtain rfl : ad264 = ad265 := (by injection e265)
        replace p265 := eq_true p265
        replace q265 := eq_true q265
        have p266 : 0 ≤ (x3_1 : Int) := of_decide_eq_true (by first | (with_reducible assumption) | assumption)
        have q266 : x3_1 < (l0.length : Int) := of_decide_eq_true (by first | (with_reducible assumption) | assumption)
        obtain ⟨ad266, e266, hx266_0, hx266_1⟩ := at_T46 HR0.out x3_1 p266 q266
        obtain rfl : ad264 = ad266 := (by injection e266)
        replace p266 := eq_true p266
        replace q266 := eq_true q266
        go_wp2
        go_roundg k1
        case measure => have := HK1.out; omega
        case rel => exact ⟨(wrap64 (x3_1 + 1)), (by first | rfl | (simp; done) | (simp [*]; done)), H', ⟨by have := HK1.out; omega⟩, by repeat (first | exact Drawn0.refl _ | apply Drawn0.step)⟩
    ·rw [if_neg c3] at H
     exact absurd H (by simp)
   ·rw [if_neg c2] at H
    have c2b0 : decide (x3_1 < (l0.length : Int)) = false := decide_eq_false c2
    clear c2
    obtain rfl := Option.some.inj H
    go_wp2
    go_ret
    exact ⟨by first | rfl | (simp; done) | (simp [*]; done), by repeat (first | exact Drawn0.refl _ | apply Drawn0.step)⟩

/-! ### hopperlaw25_PlanMore: function 5 -/
-- told by hand
/-- The tables but those of a name. -/
def lessL (l : List S46) (nm : ByteArray) : List S46 := l.filter fun t => !(t.f0.toList == nm.toList)
/-- Without each of the names the plan isn't right. -/
def moreL (g : List S46 → Option Int) (l1 : List S46) : List ByteArray → Option Bool
  | [] => some true
  | nm :: ns => (g (lessL l1 nm)).bind fun r => if r = 0 then moreL g l1 ns else none
def lawMoreP (k : Nat) (p : S31) (l1 l2 : List S46) : Option Bool := (hopperlaw25_awake.f k).bind fun t => if t = true then (smallP k p 20).bind fun b => if b = true then (hopperref25_Named.f k l1).bind fun c => if c = true then (hopperref25_Named.f k l2).bind fun d => if d = true then
  (colsP k p l1 12).bind fun n => if n = 0 then some true else if l1.length + l2.length < 5864062014805 then (colsP k p (l1 ++ l2) 12).bind fun m => (tablesP k p).bind fun xs => (moreL (fun l => colsP k p l 12) l1 xs).bind fun _ => if m = n ∧ 0 < xs.length then some true else none else none else some true else some true else some true else none
def hopperlaw25_PlanMore.f (k : Nat) (a0_0 : Int) (a0_1 : ByteArray) (a0_2 : Int) (a0_3 : Int) (a0_4 : ByteArray) (a0_5 : Int) (a0_6 : Int) (l0_7 : List S24) (l0_8 : List S50) (l0_9 : List Int) (l0_10 : List S72) (a0_11 : Int) (l0_12 : List Int) (l0_13 : List Int) (l0_14 : List S52) (a0_15 : Int) (a0_16 : Int) (l0_17 : List S31) (l1 : List S46) (l2 : List S46) : Option Bool := lawMoreP k ⟨a0_0, a0_1, ⟨a0_2, a0_3, a0_4, a0_5, a0_6, l0_7⟩, l0_8, l0_9, l0_10, a0_11, l0_12, l0_13, l0_14, a0_15, a0_16, l0_17⟩ l1 l2
theorem lessL_step (l : List S46) (nm : ByteArray) (j : Nat) (h : j < l.length) : lessL (l.take (j + 1)) nm = if ((rd_T46 l (j : Int)).f0.toList = nm.toList) then lessL (l.take j) nm else lessL (l.take j) nm ++ [(⟨(rd_T46 l (j : Int)).f0, (rd_T46 l (j : Int)).f1⟩ : S46)] := by
  have e : rd_T46 l (j : Int) = l[j] := by simp [rd_T46, List.getD, h]
  rw [e, List.take_succ_eq_append_getElem h]
  unfold lessL
  rw [List.filter_append]
  by_cases c : l[j].f0.toList = nm.toList
  · rw [if_pos c]; simp [List.filter_cons, c]
  · rw [if_neg c]; simp [List.filter_cons, c]
theorem lessL_le (l : List S46) (nm : ByteArray) : (lessL l nm).length ≤ l.length := List.length_filter_le _ _
set_option maxHeartbeats 8000000 in
set_option maxRecDepth 1000000 in
theorem hopperlaw25_PlanMore.e0 (k : Nat) (p : S31) (cs : List Value) (A1 : Option Addr) (c1 : Nat) (l1 : List S46) (A2 : Option Addr) (c2 : Nat) (l2 : List S46) (w : World) (hK : k31.K w p cs) (hr1 : Kd.C k46 w A1 l1.length l1) (hc1 : l1.length ≤ c1) (hr2 : Kd.C k46 w A2 l2.length l2) (hc2 : l2.length ≤ c2) (haw : hopperlaw25_awake.f k = some true) (hsm : smallP k p 20 = some false) :
    Calls Try.prog 5 #[.agg cs.toArray, .slice A1 l1.length c1, .slice A2 l2.length c2] w fun e w' => e = .returned (.bool true) ∧ Below w.heap.size w w' := by
  have hagg : ∀ W, (isAgg 31).run Try.prog W = .ok true W := fun W => by first | exact Try.isAgg31 | exact Try.isAgg31 W | go_simp
  have hsz18 : ∀ W, (sizeOf 31).run Try.prog W = .ok 18 W := fun W => by first | exact Try.sizeOf31 | exact Try.sizeOf31 W | go_simp
  have HAGG := Aside0.mk hagg
  have HSZ := Aside0.mk hsz18
  clear hagg hsz18
  have hu31 := Try.underlying31
  have HL18 := Aside0.mk (show cs.length = 18 from k31.K_len hK)
  have HAW := Aside0.mk (fun W => hopperlaw25_awake.calls k true W haw)
  have HSM := Aside0.mk (fun W (hb : Below w.heap.size w W) => hopperref25_Small.core k p cs 20 false W (k31.K_below hb hK) hsm)
  clear haw hsm hK hr1 hc1 hr2 hc2
  go_enter Try.func5, Try.ntmps5
  go_wp2_with (first
      | ((with_reducible refine gate_dst (N := 3) rfl ?_); refine box_all rfl rfl (cs := cs.toArray) rfl (fun W => by rw [List.size_toArray, HL18.out]; exact HSZ.out W) ?_; intro w1 hbx hbw; have BW1 := Aside0.mk hbw; have BX1 := Aside0.mk hbx; clear hbx hbw)
      | (go_at_call 9; refine (HAW.out _).mono ?_; rintro e w2 ⟨rfl, hb2⟩; have HB2 := Aside0.mk (below_step BW1.out hb2); have BX2 := Aside0.mk ((hb2.block w.heap.size (Array.getElem?_eq_some_iff.1 BX1.out).1).trans BX1.out); clear hb2 BW1 BX1)
      | ((with_reducible refine gate_dst (N := 20) rfl ?_); (try (refine gate_guard (by rfl) ?_; dsimp only)); refine load_all rfl rfl (cs := cs) rfl HAGG.out (fun W => by rw [HL18.out]; exact HSZ.out W) (blk_cells BX2.out) ?_)
      | (go_at_call 10; refine (HSM.out _ HB2.out).mono ?_; rintro e w3 ⟨rfl, hb3⟩; have HB3 := Aside0.mk (below_step HB2.out hb3); have BX3 := Aside0.mk ((hb3.block w.heap.size (Array.getElem?_eq_some_iff.1 BX2.out).1).trans BX2.out); clear hb3 HB2 BX2)
      | (go_at_call 9; refine (HAW.out _).mono ?_; rintro e w6 ⟨rfl, hb6⟩; have HB9 := Aside0.mk (below_step HB3.out hb6); clear hb6))
  go_ret
  exact ⟨rfl, HB9.out⟩
set_option maxHeartbeats 8000000 in
set_option maxRecDepth 1000000 in
theorem hopperlaw25_PlanMore.e1 (k : Nat) (p : S31) (cs : List Value) (A1 : Option Addr) (c1 : Nat) (l1 : List S46) (A2 : Option Addr) (c2 : Nat) (l2 : List S46) (w : World) (hK : k31.K w p cs) (hr1 : Kd.C k46 w A1 l1.length l1) (hc1 : l1.length ≤ c1) (hr2 : Kd.C k46 w A2 l2.length l2) (hc2 : l2.length ≤ c2) (haw : hopperlaw25_awake.f k = some true) (hsm : smallP k p 20 = some true) (hnm : hopperref25_Named.f k l1 = some false) :
    Calls Try.prog 5 #[.agg cs.toArray, .slice A1 l1.length c1, .slice A2 l2.length c2] w fun e w' => e = .returned (.bool true) ∧ Below w.heap.size w w' := by
  have hagg : ∀ W, (isAgg 31).run Try.prog W = .ok true W := fun W => by first | exact Try.isAgg31 | exact Try.isAgg31 W | go_simp
  have hsz18 : ∀ W, (sizeOf 31).run Try.prog W = .ok 18 W := fun W => by first | exact Try.sizeOf31 | exact Try.sizeOf31 W | go_simp
  have HAGG := Aside0.mk hagg
  have HSZ := Aside0.mk hsz18
  clear hagg hsz18
  have hu31 := Try.underlying31
  have HL18 := Aside0.mk (show cs.length = 18 from k31.K_len hK)
  have HAW := Aside0.mk (fun W => hopperlaw25_awake.calls k true W haw)
  have HSM := Aside0.mk (fun W (hb : Below w.heap.size w W) => hopperref25_Small.core k p cs 20 true W (k31.K_below hb hK) hsm)
  have HNM := Aside0.mk (fun W (hb : Below w.heap.size w W) => hopperref25_Named.calls k A1 c1 l1 false W (Kd.C_below hr1 hb) hc1 hnm)
  clear haw hsm hnm hK hr1 hc1 hr2 hc2
  go_enter Try.func5, Try.ntmps5
  go_wp2_with (first
      | ((with_reducible refine gate_dst (N := 3) rfl ?_); refine box_all rfl rfl (cs := cs.toArray) rfl (fun W => by rw [List.size_toArray, HL18.out]; exact HSZ.out W) ?_; intro w1 hbx hbw; have BW1 := Aside0.mk hbw; have BX1 := Aside0.mk hbx; clear hbx hbw)
      | (go_at_call 9; refine (HAW.out _).mono ?_; rintro e w2 ⟨rfl, hb2⟩; have HB2 := Aside0.mk (below_step BW1.out hb2); have BX2 := Aside0.mk ((hb2.block w.heap.size (Array.getElem?_eq_some_iff.1 BX1.out).1).trans BX1.out); clear hb2 BW1 BX1)
      | ((with_reducible refine gate_dst (N := 20) rfl ?_); (try (refine gate_guard (by rfl) ?_; dsimp only)); refine load_all rfl rfl (cs := cs) rfl HAGG.out (fun W => by rw [HL18.out]; exact HSZ.out W) (blk_cells BX2.out) ?_)
      | (go_at_call 10; refine (HSM.out _ HB2.out).mono ?_; rintro e w3 ⟨rfl, hb3⟩; have HB3 := Aside0.mk (below_step HB2.out hb3); have BX3 := Aside0.mk ((hb3.block w.heap.size (Array.getElem?_eq_some_iff.1 BX2.out).1).trans BX2.out); clear hb3 HB2 BX2)
      | (go_at_call 11; refine (HNM.out _ HB3.out).mono ?_; rintro e w4 ⟨rfl, hb4⟩; have HB4 := Aside0.mk (below_step HB3.out hb4.below); have BX4 := Aside0.mk ((hb4.below.block w.heap.size (Array.getElem?_eq_some_iff.1 BX3.out).1).trans BX3.out); clear hb4 HB3 BX3)
      | (go_at_call 9; refine (HAW.out _).mono ?_; rintro e w6 ⟨rfl, hb6⟩; have HB9 := Aside0.mk (below_step HB4.out hb6); clear hb6))
  go_ret
  exact ⟨rfl, HB9.out⟩
set_option maxHeartbeats 8000000 in
set_option maxRecDepth 1000000 in
theorem hopperlaw25_PlanMore.e2 (k : Nat) (p : S31) (cs : List Value) (A1 : Option Addr) (c1 : Nat) (l1 : List S46) (A2 : Option Addr) (c2 : Nat) (l2 : List S46) (w : World) (hK : k31.K w p cs) (hr1 : Kd.C k46 w A1 l1.length l1) (hc1 : l1.length ≤ c1) (hr2 : Kd.C k46 w A2 l2.length l2) (hc2 : l2.length ≤ c2) (haw : hopperlaw25_awake.f k = some true) (hsm : smallP k p 20 = some true) (hnm : hopperref25_Named.f k l1 = some true) (hnn : hopperref25_Named.f k l2 = some false) :
    Calls Try.prog 5 #[.agg cs.toArray, .slice A1 l1.length c1, .slice A2 l2.length c2] w fun e w' => e = .returned (.bool true) ∧ Below w.heap.size w w' := by
  have hagg : ∀ W, (isAgg 31).run Try.prog W = .ok true W := fun W => by first | exact Try.isAgg31 | exact Try.isAgg31 W | go_simp
  have hsz18 : ∀ W, (sizeOf 31).run Try.prog W = .ok 18 W := fun W => by first | exact Try.sizeOf31 | exact Try.sizeOf31 W | go_simp
  have HAGG := Aside0.mk hagg
  have HSZ := Aside0.mk hsz18
  clear hagg hsz18
  have hu31 := Try.underlying31
  have HL18 := Aside0.mk (show cs.length = 18 from k31.K_len hK)
  have HAW := Aside0.mk (fun W => hopperlaw25_awake.calls k true W haw)
  have HSM := Aside0.mk (fun W (hb : Below w.heap.size w W) => hopperref25_Small.core k p cs 20 true W (k31.K_below hb hK) hsm)
  have HNM := Aside0.mk (fun W (hb : Below w.heap.size w W) => hopperref25_Named.calls k A1 c1 l1 true W (Kd.C_below hr1 hb) hc1 hnm)
  have HNN := Aside0.mk (fun W (hb : Below w.heap.size w W) => hopperref25_Named.calls k A2 c2 l2 false W (Kd.C_below hr2 hb) hc2 hnn)
  clear haw hsm hnm hnn hK hr1 hc1 hr2 hc2
  go_enter Try.func5, Try.ntmps5
  go_wp2_with (first
      | ((with_reducible refine gate_dst (N := 3) rfl ?_); refine box_all rfl rfl (cs := cs.toArray) rfl (fun W => by rw [List.size_toArray, HL18.out]; exact HSZ.out W) ?_; intro w1 hbx hbw; have BW1 := Aside0.mk hbw; have BX1 := Aside0.mk hbx; clear hbx hbw)
      | (go_at_call 9; refine (HAW.out _).mono ?_; rintro e w2 ⟨rfl, hb2⟩; have HB2 := Aside0.mk (below_step BW1.out hb2); have BX2 := Aside0.mk ((hb2.block w.heap.size (Array.getElem?_eq_some_iff.1 BX1.out).1).trans BX1.out); clear hb2 BW1 BX1)
      | ((with_reducible refine gate_dst (N := 20) rfl ?_); (try (refine gate_guard (by rfl) ?_; dsimp only)); refine load_all rfl rfl (cs := cs) rfl HAGG.out (fun W => by rw [HL18.out]; exact HSZ.out W) (blk_cells BX2.out) ?_)
      | (go_at_call 10; refine (HSM.out _ HB2.out).mono ?_; rintro e w3 ⟨rfl, hb3⟩; have HB3 := Aside0.mk (below_step HB2.out hb3); have BX3 := Aside0.mk ((hb3.block w.heap.size (Array.getElem?_eq_some_iff.1 BX2.out).1).trans BX2.out); clear hb3 HB2 BX2)
      | (go_at_call 11; refine (HNM.out _ HB3.out).mono ?_; rintro e w4 ⟨rfl, hb4⟩; have HB4 := Aside0.mk (below_step HB3.out hb4.below); have BX4 := Aside0.mk ((hb4.below.block w.heap.size (Array.getElem?_eq_some_iff.1 BX3.out).1).trans BX3.out); clear hb4 HB3 BX3)
      | (go_at_call 11; refine (HNN.out _ HB4.out).mono ?_; rintro e w5 ⟨rfl, hb5⟩; have HB5 := Aside0.mk (below_step HB4.out hb5.below); have BX5 := Aside0.mk ((hb5.below.block w.heap.size (Array.getElem?_eq_some_iff.1 BX4.out).1).trans BX4.out); clear hb5 HB4 BX4)
      | (go_at_call 9; refine (HAW.out _).mono ?_; rintro e w6 ⟨rfl, hb6⟩; have HB9 := Aside0.mk (below_step HB5.out hb6); clear hb6))
  go_ret
  exact ⟨rfl, HB9.out⟩
set_option maxHeartbeats 8000000 in
set_option maxRecDepth 1000000 in
theorem hopperlaw25_PlanMore.zero (k : Nat) (p : S31) (cs : List Value) (A1 : Option Addr) (c1 : Nat) (l1 : List S46) (A2 : Option Addr) (c2 : Nat) (l2 : List S46) (w : World) (hK : k31.K w p cs) (hr1 : Kd.C k46 w A1 l1.length l1) (hc1 : l1.length ≤ c1) (hr2 : Kd.C k46 w A2 l2.length l2) (hc2 : l2.length ≤ c2) (haw : hopperlaw25_awake.f k = some true) (hsm : smallP k p 20 = some true) (hnm : hopperref25_Named.f k l1 = some true) (hnn : hopperref25_Named.f k l2 = some true) (hpc : colsP k p l1 12 = some 0) :
    Calls Try.prog 5 #[.agg cs.toArray, .slice A1 l1.length c1, .slice A2 l2.length c2] w fun e w' => e = .returned (.bool true) ∧ Below w.heap.size w w' := by
  have hagg : ∀ W, (isAgg 31).run Try.prog W = .ok true W := fun W => by first | exact Try.isAgg31 | exact Try.isAgg31 W | go_simp
  have hsz18 : ∀ W, (sizeOf 31).run Try.prog W = .ok 18 W := fun W => by first | exact Try.sizeOf31 | exact Try.sizeOf31 W | go_simp
  have HAGG := Aside0.mk hagg
  have HSZ := Aside0.mk hsz18
  clear hagg hsz18
  have hu31 := Try.underlying31
  have HL18 := Aside0.mk (show cs.length = 18 from k31.K_len hK)
  have HAW := Aside0.mk (fun W => hopperlaw25_awake.calls k true W haw)
  have HSM := Aside0.mk (fun W (hb : Below w.heap.size w W) => hopperref25_Small.core k p cs 20 true W (k31.K_below hb hK) hsm)
  have HNM := Aside0.mk (fun W (hb : Below w.heap.size w W) => hopperref25_Named.calls k A1 c1 l1 true W (Kd.C_below hr1 hb) hc1 hnm)
  have HNN := Aside0.mk (fun W (hb : Below w.heap.size w W) => hopperref25_Named.calls k A2 c2 l2 true W (Kd.C_below hr2 hb) hc2 hnn)
  have HPC := Aside0.mk (fun W (hb : Below w.heap.size w W) => plan_Cols.core k p cs A1 c1 l1 0 5 W (k31.K_below hb hK) (Kd.C_below hr1 hb) hc1 (by rw [hpc]; rfl))
  clear haw hsm hnm hnn hK hr1 hc1 hr2 hc2 hpc
  go_enter Try.func5, Try.ntmps5
  go_wp2_with (first
      | ((with_reducible refine gate_dst (N := 3) rfl ?_); refine box_all rfl rfl (cs := cs.toArray) rfl (fun W => by rw [List.size_toArray, HL18.out]; exact HSZ.out W) ?_; intro w1 hbx hbw; have BW1 := Aside0.mk hbw; have BX1 := Aside0.mk hbx; clear hbx hbw)
      | (go_at_call 9; refine (HAW.out _).mono ?_; rintro e w2 ⟨rfl, hb2⟩; have HB2 := Aside0.mk (below_step BW1.out hb2); have BX2 := Aside0.mk ((hb2.block w.heap.size (Array.getElem?_eq_some_iff.1 BX1.out).1).trans BX1.out); clear hb2 BW1 BX1)
      | ((with_reducible refine gate_dst (N := 20) rfl ?_); (try (refine gate_guard (by rfl) ?_; dsimp only)); refine load_all rfl rfl (cs := cs) rfl HAGG.out (fun W => by rw [HL18.out]; exact HSZ.out W) (blk_cells BX2.out) ?_)
      | (go_at_call 10; refine (HSM.out _ HB2.out).mono ?_; rintro e w3 ⟨rfl, hb3⟩; have HB3 := Aside0.mk (below_step HB2.out hb3); have BX3 := Aside0.mk ((hb3.block w.heap.size (Array.getElem?_eq_some_iff.1 BX2.out).1).trans BX2.out); clear hb3 HB2 BX2)
      | (go_at_call 11; refine (HNM.out _ HB3.out).mono ?_; rintro e w4 ⟨rfl, hb4⟩; have HB4 := Aside0.mk (below_step HB3.out hb4.below); have BX4 := Aside0.mk ((hb4.below.block w.heap.size (Array.getElem?_eq_some_iff.1 BX3.out).1).trans BX3.out); clear hb4 HB3 BX3)
      | (go_at_call 11; refine (HNN.out _ HB4.out).mono ?_; rintro e w5 ⟨rfl, hb5⟩; have HB5 := Aside0.mk (below_step HB4.out hb5.below); have BX5 := Aside0.mk ((hb5.below.block w.heap.size (Array.getElem?_eq_some_iff.1 BX4.out).1).trans BX4.out); clear hb5 HB4 BX4)
      | ((with_reducible refine gate_dst (N := 36) rfl ?_); (try (refine gate_guard (by rfl) ?_; dsimp only)); refine load_all rfl rfl (cs := cs) rfl HAGG.out (fun W => by rw [HL18.out]; exact HSZ.out W) (blk_cells BX5.out) ?_)
      | (go_at_call 12; refine (HPC.out _ HB5.out).mono ?_; rintro e w6 ⟨rfl, hb6⟩; have HB6 := Aside0.mk (below_step HB5.out hb6); have BX6 := Aside0.mk ((hb6.block w.heap.size (Array.getElem?_eq_some_iff.1 BX5.out).1).trans BX5.out); clear hb6 HB5 BX5))
  go_ret
  exact ⟨rfl, HB6.out⟩
set_option maxHeartbeats 8000000 in
set_option maxRecDepth 1000000 in
theorem hopperlaw25_PlanMore.main (k : Nat) (p : S31) (cs : List Value) (A1 : Option Addr) (c1 : Nat) (l1 : List S46) (A2 : Option Addr) (c2 : Nat) (l2 : List S46) (n : Int) (xs : List ByteArray) (tt : Bool) (w : World) (hK : k31.K w p cs) (hr1 : Kd.C k46 w A1 l1.length l1) (hc1 : l1.length ≤ c1) (hr2 : Kd.C k46 w A2 l2.length l2) (hc2 : l2.length ≤ c2) (haw : hopperlaw25_awake.f k = some true) (hsm : smallP k p 20 = some true) (hnm : hopperref25_Named.f k l1 = some true) (hnn : hopperref25_Named.f k l2 = some true) (hpc : colsP k p l1 12 = some n) (hn : n ≠ 0)
    (hlim : l1.length + l2.length < 5864062014805) (hpm : colsP k p (l1 ++ l2) 12 = some n) (hxs : tablesP k p = some xs) (hml : moreL (fun l => colsP k p l 12) l1 xs = some tt) (h0 : 0 < xs.length) :
    Calls Try.prog 5 #[.agg cs.toArray, .slice A1 l1.length c1, .slice A2 l2.length c2] w fun e w' => e = .returned (.bool true) ∧ Below w.heap.size w w' := by
  have hagg : ∀ W, (isAgg 31).run Try.prog W = .ok true W := fun W => by first | exact Try.isAgg31 | exact Try.isAgg31 W | go_simp
  have hsz18 : ∀ W, (sizeOf 31).run Try.prog W = .ok 18 W := fun W => by first | exact Try.sizeOf31 | exact Try.sizeOf31 W | go_simp
  have HAGG := Aside0.mk hagg
  have HSZ := Aside0.mk hsz18
  clear hagg hsz18
  have hu31 := Try.underlying31
  have HL18 := Aside0.mk (show cs.length = 18 from k31.K_len hK)
  have HAW := Aside0.mk (fun W => hopperlaw25_awake.calls k true W haw)
  have HSM := Aside0.mk (fun W (hb : Below w.heap.size w W) => hopperref25_Small.core k p cs 20 true W (k31.K_below hb hK) hsm)
  have HNM := Aside0.mk (fun W (hb : Below w.heap.size w W) => hopperref25_Named.calls k A1 c1 l1 true W (Kd.C_below hr1 hb) hc1 hnm)
  have HNN := Aside0.mk (fun W (hb : Below w.heap.size w W) => hopperref25_Named.calls k A2 c2 l2 true W (Kd.C_below hr2 hb) hc2 hnn)
  have HPC := Aside0.mk (fun W (hb : Below w.heap.size w W) => plan_Cols.core k p cs A1 c1 l1 n 0 W (k31.K_below hb hK) (Kd.C_below hr1 hb) hc1 (by rw [hpc]; show (if n = 0 then _ else _) = _; rw [if_neg hn]))
  have HPM := Aside0.mk (fun W (A : Option Addr) (c : Nat) (hb : Below w.heap.size w W) (hr : Kd.C k46 W A ([] ++ l1 ++ l2).length ([] ++ l1 ++ l2)) (hc : ([] ++ l1 ++ l2).length ≤ c) => plan_Cols.core k p cs A c ([] ++ l1 ++ l2) n 0 W (k31.K_below hb hK) hr hc (by rw [List.nil_append, hpm]; show (if n = 0 then _ else _) = _; rw [if_neg hn]))
  have HPL := Aside0.mk (fun W (A : Option Addr) (c : Nat) (l : List S46) (hb : Below w.heap.size w W) (hr : Kd.C k46 W A l.length l) (hc : l.length ≤ c) (hz : colsP k p l 12 = some 0) => plan_Cols.core k p cs A c l 0 5 W (k31.K_below hb hK) hr hc (by rw [hz]; rfl))
  have HPT := Aside0.mk (fun W (hb : Below w.heap.size w W) => plan_Tables.core k p cs xs W (k31.K_below hb hK) hxs)
  have HR1 := Aside0.mk hr1
  have HR2 := Aside0.mk hr2
  have HLIM := Aside0.mk hlim
  have HML := Aside0.mk hml
  have HX0 := Aside0.mk h0
  have hnn0 : (n == n) = true := beq_self_eq_true n
  clear haw hsm hnm hnn hK hr1 hc1 hr2 hc2 hpc hpm hxs hml hlim hn h0
  go_enter Try.func5, Try.ntmps5
  go_wp2_with (first
      | ((with_reducible refine gate_dst (N := 3) rfl ?_); refine box_all rfl rfl (cs := cs.toArray) rfl (fun W => by rw [List.size_toArray, HL18.out]; exact HSZ.out W) ?_; intro w1 hbx hbw; have BW1 := Aside0.mk hbw; have BX1 := Aside0.mk hbx; clear hbx hbw)
      | (go_at_call 9; refine (HAW.out _).mono ?_; rintro e w2 ⟨rfl, hb2⟩; have HB2 := Aside0.mk (below_step BW1.out hb2); have BX2 := Aside0.mk ((hb2.block w.heap.size (Array.getElem?_eq_some_iff.1 BX1.out).1).trans BX1.out); clear hb2 BW1 BX1)
      | ((with_reducible refine gate_dst (N := 20) rfl ?_); (try (refine gate_guard (by rfl) ?_; dsimp only)); refine load_all rfl rfl (cs := cs) rfl HAGG.out (fun W => by rw [HL18.out]; exact HSZ.out W) (blk_cells BX2.out) ?_)
      | (go_at_call 10; refine (HSM.out _ HB2.out).mono ?_; rintro e w3 ⟨rfl, hb3⟩; have HB3 := Aside0.mk (below_step HB2.out hb3); have BX3 := Aside0.mk ((hb3.block w.heap.size (Array.getElem?_eq_some_iff.1 BX2.out).1).trans BX2.out); clear hb3 HB2 BX2)
      | (go_at_call 11; refine (HNM.out _ HB3.out).mono ?_; rintro e w4 ⟨rfl, hb4⟩; have HB4 := Aside0.mk (below_step HB3.out hb4.below); have BX4 := Aside0.mk ((hb4.below.block w.heap.size (Array.getElem?_eq_some_iff.1 BX3.out).1).trans BX3.out); clear hb4 HB3 BX3)
      | (go_at_call 11; refine (HNN.out _ HB4.out).mono ?_; rintro e w5 ⟨rfl, hb5⟩; have HB5 := Aside0.mk (below_step HB4.out hb5.below); have BX5 := Aside0.mk ((hb5.below.block w.heap.size (Array.getElem?_eq_some_iff.1 BX4.out).1).trans BX4.out); clear hb5 HB4 BX4)
      | ((with_reducible refine gate_dst (N := 36) rfl ?_); (try (refine gate_guard (by rfl) ?_; dsimp only)); refine load_all rfl rfl (cs := cs) rfl HAGG.out (fun W => by rw [HL18.out]; exact HSZ.out W) (blk_cells BX5.out) ?_)
      | (go_at_call 12; refine (HPC.out _ HB5.out).mono ?_; rintro e w6 ⟨rfl, hb6⟩; have HB6 := Aside0.mk (below_step HB5.out hb6); have BX6 := Aside0.mk ((hb6.block w.heap.size (Array.getElem?_eq_some_iff.1 BX5.out).1).trans BX5.out); clear hb6 HB5 BX5))
  have BXr := Aside0.mk (blk_drew BX6.out)
  have HBr := Aside0.mk (below_drew1 HB6.out)
  clear BX6 HB6
  refine start_ (n := 12) (S := fun w' => w'.heap[w.heap.size]? = some (.cells cs.toArray 31 (0, 0))) (ds := []) #[false, false, false, false, false, false, false, false, false, false, false, false] (by kernel_rfl) rfl rfl BXr.out (fun hHeld => ?_)
  generalize w6.drew = w17 at BXr HBr hHeld ⊢
  refine pure_ (i := 2) (N := some 46) (v := ?_) (a' := ?_) #[false, false, true, false, false, false, false, false, false, false, false, false] rfl rfl (by kernel_rfl) (fun _ _ _ h => h) (Or.inl ⟨by rfl, ?_⟩) ?_ ?_
  rotate_left
  · intro w'
    go_simp
    with_reducible rfl
  rotate_left
  · simp only [Act.put, List.setIfInBounds_toArray, List.set_cons_zero, List.set_cons_succ, i64_w, i32_w]
    rfl
  refine pure_ (i := 4) (N := some 48) (v := ?_) (a' := ?_) #[false, false, true, false, true, false, false, false, false, false, false, false] rfl rfl (by kernel_rfl) (fun _ _ _ h => h) (Or.inl ⟨by rfl, ?_⟩) ?_ ?_
  rotate_left
  · intro w'
    go_simp
    with_reducible rfl
  rotate_left
  · simp only [Act.put, List.setIfInBounds_toArray, List.set_cons_zero, List.set_cons_succ, i64_w, i32_w]
    rfl
  refine take_ (i := 0) (N := some 44) (v := .agg cs.toArray) (a' := ?ta0) #[true, false, true, false, true, false, false, false, false, false, false, false] rfl rfl (by kernel_rfl) (fun _ _ _ h => h) (Or.inl ⟨by rfl, fun w' hs => load_run31 rfl rfl HL18.out hs⟩) hHeld ?th0 ?tc0
  case th0 => simp only [Act.put, List.setIfInBounds_toArray, List.set_cons_zero, List.set_cons_succ, i64_w, i32_w]; rfl
  case tc0 =>
  refine one_ (i := 1) (N := some 45) #[true, true, true, false, true, false, false, false, false, false, false, false] rfl rfl (by kernel_rfl) (by decide) (fun K hK => ?_)
  refine Kd.R_lit_step k46 _ 46 ?hg (N := 45) ?hd (xs := ([] : List (S46))) (inner := []) (ok := fun _ => True) (okp := fun _ => True) ?hr ?hp (fun _ hk => hk) trivial (Below.refl _ _) (Nat.le_refl _) (by simp) ?_; (case hd => rfl); (case hg => rfl); (case hr => first | (go_simp; done) | (go_simp; rfl)); (case hp => exact (Reps.none _ _))
  intro v276 w35 ho36 hb hg_ hnew_
  clear hg_ hnew_
  have HO1 := Aside0.mk (Kd.R_lower ho36 (below_size HBr.out))
  have BXn := Aside0.mk (blk_keep hb BXr.out)
  have HBn := Aside0.mk (below_step HBr.out hb)
  clear BXr HBr hb ho36
  have BXr := BXn
  have HBr := HBn
  clear BXn HBn
  refine hK.out _ _ BXr.out (fun hHeld => ?_)
  clear hK K
  refine norm_ (a' := ?_) ?_ ?_
  rotate_left
  · show Act.put _ (some 45) _ = _
    simp only [Act.put, List.setIfInBounds_toArray, List.set_cons_zero, List.set_cons_succ, i64_w, i32_w]
    rfl
  refine one_ (i := 3) (N := some 47) #[true, true, true, true, true, false, false, false, false, false, false, false] rfl rfl (by kernel_rfl) (by decide) (fun K hK => ?_)
  refine Kd.R_append_rows_step k46 (w0 := w) w.heap.size (by rfl) (.tmp 45) (.tmp 46) 32 46 (.agg #[(.string ⟨#[]⟩), (.int .i64 0)]) 24 rfl Try.underlying32 info46 rfl (by decide) (by omega) v276 ([] : List S46) l1 _ _ _ (fun _ => True) (fun _ => False) rfl rfl ?aO ?aR (fun _ _ h => h) (fun _ h => h.elim) ?aF ?aB ?aS ?aL ?_
  (case aR => exact Kd.C_below HR1.out HBr.out)
  (case aB => exact HBr.out)
  (case aF => exact (fun _ _ => trivial))
  (case aO => exact HO1.out)
  (case aS => exact (below_size HBr.out))
  (case aL => have := HLIM.out; simp at this ⊢; omega)
  intro v279 w37 ho hb hg hat
  have BXn := Aside0.mk (blk_grown (g := w.heap.size) (o := .cells cs.toArray 31 (0, 0)) BXr.out hg (Kd.R_ne HO1.out BXr.out (by decide)))
  have HBn := Aside0.mk hb
  have HO2 := Aside0.mk ho
  clear BXr HBr HO1 ho hb hg hat
  have BXr := BXn
  have HBr := HBn
  clear BXn HBn
  refine hK.out _ _ BXr.out (fun hHeld => ?_)
  clear hK K
  refine norm_ (a' := ?_) ?_ ?_
  rotate_left
  · show Act.put _ (some 47) _ = _
    simp only [Act.put, List.setIfInBounds_toArray, List.set_cons_zero, List.set_cons_succ, i64_w, i32_w]
    rfl
  refine one_ (i := 5) (N := some 49) #[true, true, true, true, true, true, false, false, false, false, false, false] rfl rfl (by kernel_rfl) (by decide) (fun K hK => ?_)
  refine Kd.R_append_rows_step k46 (w0 := w) w.heap.size (by rfl) (.tmp 47) (.tmp 48) 32 46 (.agg #[(.string ⟨#[]⟩), (.int .i64 0)]) 24 rfl Try.underlying32 info46 rfl (by decide) (by omega) v279 ([] ++ l1) l2 _ _ _ (fun _ => True) (fun _ => False) rfl rfl ?aO ?aR (fun _ _ h => h) (fun _ h => h.elim) ?aF ?aB ?aS ?aL ?_
  (case aR => exact Kd.C_below HR2.out HBr.out)
  (case aB => exact HBr.out)
  (case aF => exact (fun _ _ => trivial))
  (case aO => exact HO2.out)
  (case aS => exact (below_size HBr.out))
  (case aL => have := HLIM.out; simp at this ⊢; omega)
  intro v282 w38 ho hb hg hat
  have BXn := Aside0.mk (blk_grown (g := w.heap.size) (o := .cells cs.toArray 31 (0, 0)) BXr.out hg (Kd.R_ne HO2.out BXr.out (by decide)))
  have HBn := Aside0.mk hb
  have HO3 := Aside0.mk ho
  clear BXr HBr HO2 ho hb hg hat
  have BXr := BXn
  have HBr := HBn
  clear BXn HBn
  obtain ⟨Ao, co, eo⟩ := Kd.R_slice HO3.out
  (first | subst eo | (injection eo with f1_ f2_ f3_; have f4_ := f1_.symm; have f5_ := f3_.symm; clear f1_ f2_ f3_; subst f4_; subst f5_))
  refine hK.out _ _ BXr.out (fun hHeld => ?_)
  clear hK K
  refine norm_ (a' := ?_) ?_ ?_
  rotate_left
  · show Act.put _ (some 49) _ = _
    simp only [Act.put, List.setIfInBounds_toArray, List.set_cons_zero, List.set_cons_succ, i64_w, i32_w]
    rfl
  refine one_ (i := 6) (N := some 50) #[true, true, true, true, true, true, true, false, false, false, false, false] rfl rfl (by kernel_rfl) (by decide) (fun K hK => ?_)
  refine goes_ Try.func12 (by kernel_rfl) rfl #[.agg cs.toArray, .slice Ao (([] ++ l1) ++ l2).length co] (by rfl) rfl rfl (by (try simp only [List.map_toArray, List.map_cons, List.map_nil]); first | done | rfl) ?_
  have hR3 := Kd.R_reads' HO3.out
  refine (HPM.out _ Ao co HBr.out hR3.2.2 hR3.2.1).mono ?_
  rintro e w40 ⟨rfl, hb⟩
  refine ⟨_, rfl, ?_⟩
  have BXn := Aside0.mk (blk_keep hb BXr.out)
  have HBn := Aside0.mk (below_step HBr.out hb)
  clear BXr HBr hb hR3 HO3
  have BXr := BXn
  have HBr := HBn
  clear BXn HBn
  refine hK.out _ _ BXr.out (fun hHeld => ?_)
  clear hK K
  refine norm_ (a' := ?_) ?_ ?_
  rotate_left
  · show Act.put _ (some 50) _ = _
    simp only [Act.put, List.setIfInBounds_toArray, List.set_cons_zero, List.set_cons_succ, i64_w, i32_w]
    rfl
  refine pure_ (i := 7) (N := some 43) (v := ?_) (a' := ?_) #[true, true, true, true, true, true, true, true, false, false, false, false] rfl rfl (by kernel_rfl) (fun _ _ _ h => h) (Or.inl ⟨by rfl, ?_⟩) ?_ ?_
  rotate_left
  · intro w'
    go_simp
    with_reducible rfl
  rotate_left
  · simp only [Act.put, List.setIfInBounds_toArray, List.set_cons_zero, List.set_cons_succ, i64_w, i32_w]
    rfl
  refine pure_ (i := 8) (N := some 51) (v := ?_) (a' := ?_) #[true, true, true, true, true, true, true, true, true, false, false, false] rfl rfl (by kernel_rfl) (fun _ _ _ h => h) (Or.inl ⟨by rfl, ?_⟩) ?_ ?_
  rotate_left
  · intro w'
    go_simp
    with_reducible rfl
  rotate_left
  · simp only [Act.put, List.setIfInBounds_toArray, List.set_cons_zero, List.set_cons_succ, i64_w, i32_w]
    rfl
  refine pure_ (i := 9) (N := some 52) (v := ?_) (a' := ?_) #[true, true, true, true, true, true, true, true, true, true, false, false] rfl rfl (by kernel_rfl) (fun _ _ _ h => h) (Or.inl ⟨by rfl, ?_⟩) ?_ ?_
  rotate_left
  · intro w'
    go_simp
    with_reducible rfl
  rotate_left
  · simp only [Act.put, List.setIfInBounds_toArray, List.set_cons_zero, List.set_cons_succ, i64_w, i32_w]
    rfl
  refine pure_ (i := 10) (N := some 9) (v := ?_) (a' := ?_) #[true, true, true, true, true, true, true, true, true, true, true, false] rfl rfl (by kernel_rfl) (fun _ _ _ h => h) (Or.inl ⟨by rfl, ?_⟩) ?_ ?_
  rotate_left
  · intro w'
    go_simp
    with_reducible rfl
  rotate_left
  · simp only [Act.put, List.setIfInBounds_toArray, List.set_cons_zero, List.set_cons_succ, i64_w, i32_w]
    rfl
  refine pure_ (i := 11) (N := some 10) (v := ?_) (a' := ?_) #[true, true, true, true, true, true, true, true, true, true, true, true] rfl rfl (by kernel_rfl) (fun _ _ _ h => h) (Or.inl ⟨by rfl, ?_⟩) ?_ ?_
  rotate_left
  · intro w'
    go_simp
    with_reducible rfl
  rotate_left
  · simp only [Act.put, List.setIfInBounds_toArray, List.set_cons_zero, List.set_cons_succ, i64_w, i32_w]
    rfl
  refine done_ (by kernel_rfl) ?_
  clear hHeld
  go_wp2_with (first
    | ((with_reducible refine gate_dst (N := 53) rfl ?_); (try (refine gate_guard (by rfl) ?_; dsimp only)); refine load_all rfl rfl (cs := cs) rfl HAGG.out (fun W => by rw [HL18.out]; exact HSZ.out W) (blk_cells BXr.out) ?_)
    | (go_at_call 15; refine (HPT.out _ HBr.out).mono ?_; rintro e w41 ⟨v5, rfl, ho5, hb5⟩; obtain ⟨An, cn, rfl⟩ := Kd.R_slice ho5; have HOs := Aside0.mk (Kd.R_lower ho5 (below_size HBr.out)); have HNX := Aside0.mk ((Kd.R_reads' ho5).2.2.2.1 : xs.length ≤ 9223372036854775807); have HB7 := Aside0.mk (below_step HBr.out hb5); have BX7 := Aside0.mk (blk_keep hb5 BXr.out); clear hb5 HBr BXr ho5; have HBr := HB7; have BXr := BX7; clear HB7 BX7))
  go_loopg [12] xs.length (fun gg s12 wr => ∃ (i : Nat), s12 = .int .i64 i ∧ i ≤ xs.length ∧ xs.length - i ≤ gg ∧ Aside0 (moreL (fun l => colsP k p l 12) l1 (xs.drop i) = some tt) ∧ Aside0 (Kd.R Kd.string 9 wr w.heap.size (fun _ => True) (.slice An xs.length cn) xs) ∧ Aside0 (Below w.heap.size w wr) ∧ Aside0 (wr.heap[w.heap.size]? = some (.cells cs.toArray 31 (0, 0))))
  case atStart => exact ⟨0, rfl, Nat.zero_le _, by omega, HML, HOs, HBr, BXr⟩
  case round =>
    clear HOs HBr BXr HML
    obtain ⟨i, rfl, hin, hg0, HML, HOs, HBr, BXr⟩ := hrel
    have hn := HNX.out
    by_cases hlt : i < xs.length
    · have hiz : (i : Int) < (xs.length : Int) := by omega
      have hi0 : (0 : Int) ≤ (i : Int) := by omega
      have hdrop : xs.drop i = rdOf ByteArray.empty xs (i : Int) :: xs.drop (i + 1) := by
        rw [drop_getE ByteArray.empty xs i hlt]; simp [rdOf]
      have hks := HML.out
      rw [hdrop] at hks
      simp only [moreL] at hks
      obtain ⟨z, hz, hks⟩ := Option.bind_eq_some_iff.1 hks
      by_cases z0 : z = 0
      case neg => rw [if_neg z0] at hks; cases hks
      rw [if_pos z0] at hks
      subst z0
      have HML2 := Aside0.mk hks
      have HZ := Aside0.mk hz
      have hl1 := HR1.out.2.1
      have HL1 := Aside0.mk hl1
      clear hz hks hdrop HML hn
      go_wp2
      go_loopg [13, 14] l1.length (fun gg s13 s14 wr => ∃ (j : Nat) (v : Value), v = s13 ∧ s14 = .int .i64 j ∧ j ≤ l1.length ∧ l1.length - j ≤ gg ∧ Aside0 (Kd.R k46 46 wr w.heap.size (fun _ => True) v (lessL (l1.take j) (rdOf ByteArray.empty xs (i : Int)))) ∧ Aside0 (Kd.R Kd.string 9 wr w.heap.size (fun _ => True) (.slice An xs.length cn) xs) ∧ Aside0 (Below w.heap.size w wr) ∧ Aside0 (wr.heap[w.heap.size]? = some (.cells cs.toArray 31 (0, 0))))
      case atStart => exact ⟨0, _, rfl, rfl, Nat.zero_le _, by omega, ⟨Kd.R_nil _ _ _ _ _⟩, HOs, HBr, BXr⟩
      case round =>
        clear HOs HBr BXr
        obtain ⟨j, v, rfl, rfl, hjn, hg1, HOl, HOs, HBr, BXr⟩ := hrel
        by_cases hjt : j < l1.length
        · have hjz : (j : Int) < (l1.length : Int) := by omega
          have hj0 : (0 : Int) ≤ (j : Int) := by omega
          have HST := Aside0.mk (lessL_step l1 (rdOf ByteArray.empty xs (i : Int)) j hjt)
          have HLE := Aside0.mk (Nat.le_trans (lessL_le (l1.take j) (rdOf ByteArray.empty xs (i : Int))) (by rw [List.length_take]; omega : _ ≤ j))
          by_cases q : (rd_T46 l1 (j : Int)).f0.toList = (rdOf ByteArray.empty xs (i : Int)).toList
          · have HST2 := Aside0.mk (HST.out.trans (if_pos q))
            have qb : ((rd_T46 l1 (j : Int)).f0.toList != (rdOf ByteArray.empty xs (i : Int)).toList) = false := bne_eq_false_iff_eq.mpr q
            have qb0 : ((rd_T46 l1 (j : Int)).f0.toList == (rdOf ByteArray.empty xs (i : Int)).toList) = true := beq_iff_eq.mpr q
            clear HST q
            try go_wp2
            have n0_ := Aside0.mk (Kd.R_drew HOs.out)
            have n1_ := Aside0.mk (Kd.R_drew HOl.out)
            have n2_ := Aside0.mk (blk_drew BXr.out)
            have n3_ := Aside0.mk (below_drew1 HBr.out)
            clear HOs HOl BXr HBr
            have HOs := n0_
            have HOl := n1_
            have BXr := n2_
            have HBr := n3_
            clear n0_ n1_ n2_ n3_
            obtain ⟨ad1, e1, hx0, hx1⟩ := at_T46 HR1.out (j : Int) hj0 hjz
            cases e1
            have hw0 := (HBr.out.cell (World.block_lt_of_cell? w _ hx0)).trans hx0
            have hw1 := (HBr.out.cell (World.block_lt_of_cell? w _ hx1)).trans hx1
            obtain ⟨ad2, e2, hy0⟩ := Kd.at_string (Kd.R_reads' HOs.out).2.2 (i : Int) hi0 hiz
            cases e2
            clear hx0 hx1
            simp only [Int.toNat_natCast] at hw0 hw1 hy0
            refine start_ (n := 10) (S := fun w' => w'.cell? (ad1.add (j * 2)) = some (.string ((rd_T46 l1 (j : Int)).f0)) ∧ w'.cell? (ad2.add i) = some (.string (rdOf ByteArray.empty xs (i : Int)))) (ds := []) #[false, false, false, false, false, false, false, false, false, false] (by kernel_rfl) rfl rfl ⟨hw0, hy0⟩ (fun hHeld => ?_)
            generalize wr.drew = w17 at HOs HOl BXr HBr hw0 hw1 hy0 hHeld ⊢
            refine pure_ (i := 0) (N := some 67) (v := ?_) (a' := ?_) #[true, false, false, false, false, false, false, false, false, false] rfl rfl (by kernel_rfl) (fun _ _ _ h => h) (Or.inl ⟨by rfl, ?_⟩) ?_ ?_
            rotate_left
            · intro w'
              go_simp
              with_reducible rfl
            rotate_left
            · simp only [Act.put, List.setIfInBounds_toArray, List.set_cons_zero, List.set_cons_succ, i64_w, i32_w]
              rfl
            refine pure_ (i := 1) (N := some 68) (v := ?_) (a' := ?_) #[true, true, false, false, false, false, false, false, false, false] rfl rfl (by kernel_rfl) (fun _ _ _ h => h) (Or.inl ⟨by rfl, ?_⟩) ?_ ?_
            rotate_left
            · intro w'
              go_simp
              with_reducible rfl
            rotate_left
            · simp only [Act.put, List.setIfInBounds_toArray, List.set_cons_zero, List.set_cons_succ, i64_w, i32_w]
              rfl
            refine pure_ (i := 2) (N := some 69) (v := ?_) (a' := ?_) #[true, true, true, false, false, false, false, false, false, false] rfl rfl (by kernel_rfl) (fun _ _ _ h => h) (Or.inl ⟨by rfl, ?_⟩) ?_ ?_
            rotate_left
            · intro w'
              go_simp
              with_reducible rfl
            rotate_left
            · simp only [Act.put, List.setIfInBounds_toArray, List.set_cons_zero, List.set_cons_succ, i64_w, i32_w]
              rfl
            refine pure_ (i := 3) (N := some 70) (v := ?_) (a' := ?_) #[true, true, true, true, false, false, false, false, false, false] rfl rfl (by kernel_rfl) (fun _ _ _ h => h) (Or.inl ⟨by rfl, ?_⟩) ?_ ?_
            rotate_left
            · intro w'
              go_simp
              with_reducible rfl
            rotate_left
            · simp only [Act.put, List.setIfInBounds_toArray, List.set_cons_zero, List.set_cons_succ, i64_w, i32_w]
              rfl
            refine pure_ (i := 5) (N := some 72) (v := ?_) (a' := ?_) #[true, true, true, true, false, true, false, false, false, false] rfl rfl (by kernel_rfl) (fun _ _ _ h => h) (Or.inl ⟨by rfl, ?_⟩) ?_ ?_
            rotate_left
            · intro w'
              go_simp
              with_reducible rfl
            rotate_left
            · simp only [Act.put, List.setIfInBounds_toArray, List.set_cons_zero, List.set_cons_succ, i64_w, i32_w]
              rfl
            refine pure_ (i := 6) (N := some 73) (v := ?_) (a' := ?_) #[true, true, true, true, false, true, true, false, false, false] rfl rfl (by kernel_rfl) (fun _ _ _ h => h) (Or.inl ⟨by rfl, ?_⟩) ?_ ?_
            rotate_left
            · intro w'
              go_simp
              with_reducible rfl
            rotate_left
            · simp only [Act.put, List.setIfInBounds_toArray, List.set_cons_zero, List.set_cons_succ, i64_w, i32_w]
              rfl
            refine pure_ (i := 7) (N := some 74) (v := ?_) (a' := ?_) #[true, true, true, true, false, true, true, true, false, false] rfl rfl (by kernel_rfl) (fun _ _ _ h => h) (Or.inl ⟨by rfl, ?_⟩) ?_ ?_
            rotate_left
            · intro w'
              go_simp
              with_reducible rfl
            rotate_left
            · simp only [Act.put, List.setIfInBounds_toArray, List.set_cons_zero, List.set_cons_succ, i64_w, i32_w]
              rfl
            refine take_ (i := 4) (N := some 71) (v := ?_) (a' := ?_) #[true, true, true, true, true, true, true, true, false, false] rfl rfl (by kernel_rfl) (fun _ _ _ h => h) (Or.inl ⟨by rfl, ?_⟩) hHeld ?_ ?_
            rotate_left
            · rintro w' ⟨s0, s1⟩
              go_simp
              with_reducible rfl
            rotate_left
            · simp only [Act.put, List.setIfInBounds_toArray, List.set_cons_zero, List.set_cons_succ, i64_w, i32_w]
              rfl
            refine take_ (i := 8) (N := some 75) (v := ?_) (a' := ?_) #[true, true, true, true, true, true, true, true, true, false] rfl rfl (by kernel_rfl) (fun _ _ _ h => h) (Or.inl ⟨by rfl, ?_⟩) hHeld ?_ ?_
            rotate_left
            · rintro w' ⟨s0, s1⟩
              go_simp
              with_reducible rfl
            rotate_left
            · simp only [Act.put, List.setIfInBounds_toArray, List.set_cons_zero, List.set_cons_succ, i64_w, i32_w]
              rfl
            refine pure_ (i := 9) (N := some 76) (v := ?_) (a' := ?_) #[true, true, true, true, true, true, true, true, true, true] rfl rfl (by kernel_rfl) (fun _ _ _ h => h) (Or.inl ⟨by rfl, ?_⟩) ?_ ?_
            rotate_left
            · intro w'
              go_simp
              with_reducible rfl
            rotate_left
            · simp only [Act.put, List.setIfInBounds_toArray, List.set_cons_zero, List.set_cons_succ, i64_w, i32_w]
              rfl
            refine done_ (by kernel_rfl) ?_
            clear hHeld
            try go_wp2
            go_roundg (l1.length - (j + 1))
            case measure => omega
            case rel => exact ⟨j + 1, _, rfl, by first | go_num | (have := HL1.out; congr 1; unfold wrap64; omega), by omega, by omega, ⟨by rw [HST2.out]; exact HOl.out⟩, HOs, HBr, BXr⟩
          · have HST2 := Aside0.mk (HST.out.trans (if_neg q))
            have qb : ((rd_T46 l1 (j : Int)).f0.toList != (rdOf ByteArray.empty xs (i : Int)).toList) = true := bne_iff_ne.mpr q
            have qb0 : ((rd_T46 l1 (j : Int)).f0.toList == (rdOf ByteArray.empty xs (i : Int)).toList) = false := beq_eq_false_iff_ne.mpr q
            clear HST q
            try go_wp2
            have n0_ := Aside0.mk (Kd.R_drew HOs.out)
            have n1_ := Aside0.mk (Kd.R_drew HOl.out)
            have n2_ := Aside0.mk (blk_drew BXr.out)
            have n3_ := Aside0.mk (below_drew1 HBr.out)
            clear HOs HOl BXr HBr
            have HOs := n0_
            have HOl := n1_
            have BXr := n2_
            have HBr := n3_
            clear n0_ n1_ n2_ n3_
            obtain ⟨ad1, e1, hx0, hx1⟩ := at_T46 HR1.out (j : Int) hj0 hjz
            cases e1
            have hw0 := (HBr.out.cell (World.block_lt_of_cell? w _ hx0)).trans hx0
            have hw1 := (HBr.out.cell (World.block_lt_of_cell? w _ hx1)).trans hx1
            obtain ⟨ad2, e2, hy0⟩ := Kd.at_string (Kd.R_reads' HOs.out).2.2 (i : Int) hi0 hiz
            cases e2
            clear hx0 hx1
            simp only [Int.toNat_natCast] at hw0 hw1 hy0
            refine start_ (n := 10) (S := fun w' => w'.cell? (ad1.add (j * 2)) = some (.string ((rd_T46 l1 (j : Int)).f0)) ∧ w'.cell? (ad2.add i) = some (.string (rdOf ByteArray.empty xs (i : Int)))) (ds := []) #[false, false, false, false, false, false, false, false, false, false] (by kernel_rfl) rfl rfl ⟨hw0, hy0⟩ (fun hHeld => ?_)
            generalize wr.drew = w17 at HOs HOl BXr HBr hw0 hw1 hy0 hHeld ⊢
            refine pure_ (i := 0) (N := some 67) (v := ?_) (a' := ?_) #[true, false, false, false, false, false, false, false, false, false] rfl rfl (by kernel_rfl) (fun _ _ _ h => h) (Or.inl ⟨by rfl, ?_⟩) ?_ ?_
            rotate_left
            · intro w'
              go_simp
              with_reducible rfl
            rotate_left
            · simp only [Act.put, List.setIfInBounds_toArray, List.set_cons_zero, List.set_cons_succ, i64_w, i32_w]
              rfl
            refine pure_ (i := 1) (N := some 68) (v := ?_) (a' := ?_) #[true, true, false, false, false, false, false, false, false, false] rfl rfl (by kernel_rfl) (fun _ _ _ h => h) (Or.inl ⟨by rfl, ?_⟩) ?_ ?_
            rotate_left
            · intro w'
              go_simp
              with_reducible rfl
            rotate_left
            · simp only [Act.put, List.setIfInBounds_toArray, List.set_cons_zero, List.set_cons_succ, i64_w, i32_w]
              rfl
            refine pure_ (i := 2) (N := some 69) (v := ?_) (a' := ?_) #[true, true, true, false, false, false, false, false, false, false] rfl rfl (by kernel_rfl) (fun _ _ _ h => h) (Or.inl ⟨by rfl, ?_⟩) ?_ ?_
            rotate_left
            · intro w'
              go_simp
              with_reducible rfl
            rotate_left
            · simp only [Act.put, List.setIfInBounds_toArray, List.set_cons_zero, List.set_cons_succ, i64_w, i32_w]
              rfl
            refine pure_ (i := 3) (N := some 70) (v := ?_) (a' := ?_) #[true, true, true, true, false, false, false, false, false, false] rfl rfl (by kernel_rfl) (fun _ _ _ h => h) (Or.inl ⟨by rfl, ?_⟩) ?_ ?_
            rotate_left
            · intro w'
              go_simp
              with_reducible rfl
            rotate_left
            · simp only [Act.put, List.setIfInBounds_toArray, List.set_cons_zero, List.set_cons_succ, i64_w, i32_w]
              rfl
            refine pure_ (i := 5) (N := some 72) (v := ?_) (a' := ?_) #[true, true, true, true, false, true, false, false, false, false] rfl rfl (by kernel_rfl) (fun _ _ _ h => h) (Or.inl ⟨by rfl, ?_⟩) ?_ ?_
            rotate_left
            · intro w'
              go_simp
              with_reducible rfl
            rotate_left
            · simp only [Act.put, List.setIfInBounds_toArray, List.set_cons_zero, List.set_cons_succ, i64_w, i32_w]
              rfl
            refine pure_ (i := 6) (N := some 73) (v := ?_) (a' := ?_) #[true, true, true, true, false, true, true, false, false, false] rfl rfl (by kernel_rfl) (fun _ _ _ h => h) (Or.inl ⟨by rfl, ?_⟩) ?_ ?_
            rotate_left
            · intro w'
              go_simp
              with_reducible rfl
            rotate_left
            · simp only [Act.put, List.setIfInBounds_toArray, List.set_cons_zero, List.set_cons_succ, i64_w, i32_w]
              rfl
            refine pure_ (i := 7) (N := some 74) (v := ?_) (a' := ?_) #[true, true, true, true, false, true, true, true, false, false] rfl rfl (by kernel_rfl) (fun _ _ _ h => h) (Or.inl ⟨by rfl, ?_⟩) ?_ ?_
            rotate_left
            · intro w'
              go_simp
              with_reducible rfl
            rotate_left
            · simp only [Act.put, List.setIfInBounds_toArray, List.set_cons_zero, List.set_cons_succ, i64_w, i32_w]
              rfl
            refine take_ (i := 4) (N := some 71) (v := ?_) (a' := ?_) #[true, true, true, true, true, true, true, true, false, false] rfl rfl (by kernel_rfl) (fun _ _ _ h => h) (Or.inl ⟨by rfl, ?_⟩) hHeld ?_ ?_
            rotate_left
            · rintro w' ⟨s0, s1⟩
              go_simp
              with_reducible rfl
            rotate_left
            · simp only [Act.put, List.setIfInBounds_toArray, List.set_cons_zero, List.set_cons_succ, i64_w, i32_w]
              rfl
            refine take_ (i := 8) (N := some 75) (v := ?_) (a' := ?_) #[true, true, true, true, true, true, true, true, true, false] rfl rfl (by kernel_rfl) (fun _ _ _ h => h) (Or.inl ⟨by rfl, ?_⟩) hHeld ?_ ?_
            rotate_left
            · rintro w' ⟨s0, s1⟩
              go_simp
              with_reducible rfl
            rotate_left
            · simp only [Act.put, List.setIfInBounds_toArray, List.set_cons_zero, List.set_cons_succ, i64_w, i32_w]
              rfl
            refine pure_ (i := 9) (N := some 76) (v := ?_) (a' := ?_) #[true, true, true, true, true, true, true, true, true, true] rfl rfl (by kernel_rfl) (fun _ _ _ h => h) (Or.inl ⟨by rfl, ?_⟩) ?_ ?_
            rotate_left
            · intro w'
              go_simp
              with_reducible rfl
            rotate_left
            · simp only [Act.put, List.setIfInBounds_toArray, List.set_cons_zero, List.set_cons_succ, i64_w, i32_w]
              rfl
            refine done_ (by kernel_rfl) ?_
            clear hHeld
            go_wp2_with (first | ((with_reducible refine gate_builtin (b := .append) (xs := #[.tmp 77, .tmp 82]) rfl ?_); (try (refine gate_guard (by rfl) ?_; dsimp only)); at_builtin; refine Kd.R_append k46 (w0 := w) w.heap.size rfl (.tmp 77) (.tmp 82) 32 46 (.agg #[(.string ⟨#[]⟩), (.int .i64 0)]) 24 rfl Try.underlying32 info46 rfl (by decide) (by omega) v (lessL (l1.take j) (rdOf ByteArray.empty xs (i : Int))) (⟨(rd_T46 l1 (j : Int)).f0, (rd_T46 l1 (j : Int)).f1⟩ : S46) [.string ((rd_T46 l1 (j : Int)).f0), .int .i64 ((rd_T46 l1 (j : Int)).f1)] (fun _ => True) (fun _ => False) rfl rfl ?aP (fun _ hk => hk.elim) ?aF ?aO ?aB ?aS ?aL ?_; (case aP => exact k46_mkM _ _ _ (⟨(rd_T46 l1 (j : Int)).f0, (rd_T46 l1 (j : Int)).f1⟩ : S46)); (case aB => exact (by repeat (first | (with_reducible first | exact HBr.out | apply below_alloc) | exact HBr.out))); (case aF => exact (fun _ _ => trivial)); (case aO => exact (by (with_reducible repeat (first | apply Kd.R_alloc)); exact HOl.out)); (case aS => exact (below_size (by repeat (first | (with_reducible first | exact HBr.out | apply below_alloc) | exact HBr.out)))); (case aL => have := HLIM.out; have := HLE.out; omega); intro v293 w53 ho hb hg hat; have n0_ := Aside0.mk (Kd.R_over' (by (with_reducible repeat (first | apply Kd.R_alloc)); exact HOs.out) (Kd.R_typed (by (with_reducible repeat (first | apply Kd.R_alloc)); exact HOl.out)) (by decide) hg); have n1_ := Aside0.mk (blk_grown (g := w.heap.size) (o := .cells cs.toArray 31 (0, 0)) (by (with_reducible repeat (first | refine blk_alloc ?_ _)); exact BXr.out) hg (Kd.R_ne HOl.out BXr.out (by decide))); have n2_ := Aside0.mk (hb); have n3_ := Aside0.mk (ho); clear HOs BXr HBr HOl; have HOs := n0_; have BXr := n1_; have HBr := n2_; have HOl := n3_; clear n0_ n1_ n2_ n3_; clear ho hb hg hat))
            go_roundg (l1.length - (j + 1))
            case measure => omega
            case rel => exact ⟨j + 1, _, rfl, by first | go_num | (have := HL1.out; congr 1; unfold wrap64; omega), by omega, by omega, ⟨by rw [HST2.out]; exact HOl.out⟩, HOs, HBr, BXr⟩
        · have hjz : ¬ (j : Int) < (l1.length : Int) := by omega
          have HZ2 := Aside0.mk (show colsP k p (lessL (l1.take j) (rdOf ByteArray.empty xs (i : Int))) 12 = some 0 from by rw [List.take_of_length_le (by omega)]; exact HZ.out)
          obtain ⟨Al, cl, el⟩ := Kd.R_slice HOl.out
          subst el
          have HRl := Aside0.mk (Kd.R_reads' HOl.out).2
          clear hl1
          go_wp2_with (first
            | ((with_reducible refine gate_dst (N := 85) rfl ?_); (try (refine gate_guard (by rfl) ?_; dsimp only)); refine load_all rfl rfl (cs := cs) rfl HAGG.out (fun W => by rw [HL18.out]; exact HSZ.out W) (blk_cells BXr.out) ?_)
            | (go_at_call 12; refine (HPL.out _ Al cl _ HBr.out HRl.out.2 HRl.out.1 HZ2.out).mono ?_; rintro e w6 ⟨rfl, hb6⟩; have HB7 := Aside0.mk (below_step HBr.out hb6); have BX7 := Aside0.mk (blk_keep hb6 BXr.out); have HO7 := Aside0.mk (Kd.R_below HOs.out hb6); clear hb6 HBr BXr HOs; have HBr := HB7; have BXr := BX7; have HOs := HO7; clear HB7 BX7 HO7))
          go_roundg (xs.length - (i + 1))
          case measure => omega
          case rel => have hn := HNX.out; exact ⟨i + 1, by first | go_num | (congr 1; unfold wrap64; omega), by omega, by omega, HML2, HOs, HBr, BXr⟩
    · have hltz : ¬ (i : Int) < (xs.length : Int) := by omega
      have h0 := HX0.out
      have h0z : (0 : Int) < (xs.length : Int) := by omega
      have h0b : decide ((0 : Int) < (xs.length : Int)) = true := decide_eq_true h0z
      have h0c : decide (0 < xs.length) = true := decide_eq_true h0
      clear hn
      go_wp2
      go_ret
      exact ⟨rfl, HBr.out⟩
theorem hopperlaw25_PlanMore.core (k : Nat) (p : S31) (cs : List Value) (A1 : Option Addr) (c1 : Nat) (l1 : List S46) (A2 : Option Addr) (c2 : Nat) (l2 : List S46) (r : Bool) (w : World) (hK : k31.K w p cs) (hr1 : Kd.C k46 w A1 l1.length l1) (hc1 : l1.length ≤ c1) (hr2 : Kd.C k46 w A2 l2.length l2) (hc2 : l2.length ≤ c2) (h : lawMoreP k p l1 l2 = some r) :
    Calls Try.prog 5 #[.agg cs.toArray, .slice A1 l1.length c1, .slice A2 l2.length c2] w fun e w' => e = .returned (.bool r) ∧ Below w.heap.size w w' := by
  unfold lawMoreP at h
  obtain ⟨t, haw, h⟩ := Option.bind_eq_some_iff.1 h
  cases t with
  | false => rw [if_neg (by decide)] at h; cases h
  | true =>
  rw [if_pos rfl] at h
  obtain ⟨b, hsm, h⟩ := Option.bind_eq_some_iff.1 h
  cases b with
  | false => rw [if_neg (by decide)] at h; obtain rfl := Option.some.inj h; exact hopperlaw25_PlanMore.e0 k p cs A1 c1 l1 A2 c2 l2 w hK hr1 hc1 hr2 hc2 haw hsm
  | true =>
  rw [if_pos rfl] at h
  obtain ⟨c, hnm, h⟩ := Option.bind_eq_some_iff.1 h
  cases c with
  | false => rw [if_neg (by decide)] at h; obtain rfl := Option.some.inj h; exact hopperlaw25_PlanMore.e1 k p cs A1 c1 l1 A2 c2 l2 w hK hr1 hc1 hr2 hc2 haw hsm hnm
  | true =>
  rw [if_pos rfl] at h
  obtain ⟨d, hnn, h⟩ := Option.bind_eq_some_iff.1 h
  cases d with
  | false => rw [if_neg (by decide)] at h; obtain rfl := Option.some.inj h; exact hopperlaw25_PlanMore.e2 k p cs A1 c1 l1 A2 c2 l2 w hK hr1 hc1 hr2 hc2 haw hsm hnm hnn
  | true =>
  rw [if_pos rfl] at h
  obtain ⟨n, hpc, h⟩ := Option.bind_eq_some_iff.1 h
  by_cases hn : n = 0
  · rw [if_pos hn] at h; obtain rfl := Option.some.inj h; subst hn; exact hopperlaw25_PlanMore.zero k p cs A1 c1 l1 A2 c2 l2 w hK hr1 hc1 hr2 hc2 haw hsm hnm hnn hpc
  rw [if_neg hn] at h
  by_cases hlim : l1.length + l2.length < 5864062014805
  case neg => rw [if_neg hlim] at h; cases h
  rw [if_pos hlim] at h
  obtain ⟨m, hpm, h⟩ := Option.bind_eq_some_iff.1 h
  obtain ⟨xs, hxs, h⟩ := Option.bind_eq_some_iff.1 h
  obtain ⟨tt, hml, h⟩ := Option.bind_eq_some_iff.1 h
  by_cases hq : m = n ∧ 0 < xs.length
  case neg => rw [if_neg hq] at h; cases h
  rw [if_pos hq] at h
  obtain rfl := Option.some.inj h
  obtain ⟨rfl, h0⟩ := hq
  exact hopperlaw25_PlanMore.main k p cs A1 c1 l1 A2 c2 l2 m xs tt w hK hr1 hc1 hr2 hc2 haw hsm hnm hnn hpc hn hlim hpm hxs hml h0
theorem hopperlaw25_PlanMore.calls (k : Nat) (a0_0 : Int) (a0_1 : ByteArray) (a0_2 : Int) (a0_3 : Int) (a0_4 : ByteArray) (a0_5 : Int) (a0_6 : Int) (A0_7 : Option Addr) (c0_7 : Nat) (l0_7 : List (S24)) (A0_8 : Option Addr) (c0_8 : Nat) (l0_8 : List (S50)) (A0_9 : Option Addr) (c0_9 : Nat) (l0_9 : List Int) (A0_10 : Option Addr) (c0_10 : Nat) (l0_10 : List (S72)) (a0_11 : Int) (A0_12 : Option Addr) (c0_12 : Nat) (l0_12 : List Int) (A0_13 : Option Addr) (c0_13 : Nat) (l0_13 : List Int) (A0_14 : Option Addr) (c0_14 : Nat) (l0_14 : List (S52)) (a0_15 : Int) (a0_16 : Int) (A0_17 : Option Addr) (c0_17 : Nat) (l0_17 : List (S31)) (A1 : Option Addr) (c1 : Nat) (l1 : List (S46)) (A2 : Option Addr) (c2 : Nat) (l2 : List (S46)) (r : Bool) (w : World) (hr0_7 : Kd.C k24 w A0_7 l0_7.length l0_7) (hc0_7 : l0_7.length ≤ c0_7) (hr0_8 : Kd.C k50 w A0_8 l0_8.length l0_8) (hc0_8 : l0_8.length ≤ c0_8) (hr0_9 : Kd.C (Kd.int .i64) w A0_9 l0_9.length l0_9) (hc0_9 : l0_9.length ≤ c0_9) (hr0_10 : Kd.C k72 w A0_10 l0_10.length l0_10) (hc0_10 : l0_10.length ≤ c0_10) (hr0_12 : Kd.C (Kd.int .i64) w A0_12 l0_12.length l0_12) (hc0_12 : l0_12.length ≤ c0_12) (hr0_13 : Kd.C (Kd.int .i64) w A0_13 l0_13.length l0_13) (hc0_13 : l0_13.length ≤ c0_13) (hr0_14 : Kd.C k52 w A0_14 l0_14.length l0_14) (hc0_14 : l0_14.length ≤ c0_14) (hr0_17 : Kd.C k31 w A0_17 l0_17.length l0_17) (hc0_17 : l0_17.length ≤ c0_17) (hr1 : Kd.C k46 w A1 l1.length l1) (hc1 : l1.length ≤ c1) (hr2 : Kd.C k46 w A2 l2.length l2) (hc2 : l2.length ≤ c2) (h : hopperlaw25_PlanMore.f k a0_0 a0_1 a0_2 a0_3 a0_4 a0_5 a0_6 l0_7 l0_8 l0_9 l0_10 a0_11 l0_12 l0_13 l0_14 a0_15 a0_16 l0_17 l1 l2 = some r) :
    Calls Try.prog 5 #[.agg #[.int .i64 a0_0, .string a0_1, .int .i64 a0_2, .int .i64 a0_3, .string a0_4, .int .i64 a0_5, .int .i64 a0_6, .slice A0_7 l0_7.length c0_7, .slice A0_8 l0_8.length c0_8, .slice A0_9 l0_9.length c0_9, .slice A0_10 l0_10.length c0_10, .int .i64 a0_11, .slice A0_12 l0_12.length c0_12, .slice A0_13 l0_13.length c0_13, .slice A0_14 l0_14.length c0_14, .int .i64 a0_15, .int .i64 a0_16, .slice A0_17 l0_17.length c0_17], .slice A1 l1.length c1, .slice A2 l2.length c2] w fun e w' => e = .returned (.bool r) ∧ Below w.heap.size w w' :=
  hopperlaw25_PlanMore.core k ⟨a0_0, a0_1, ⟨a0_2, a0_3, a0_4, a0_5, a0_6, l0_7⟩, l0_8, l0_9, l0_10, a0_11, l0_12, l0_13, l0_14, a0_15, a0_16, l0_17⟩ _ A1 c1 l1 A2 c2 l2 r w (k31_mk w ⟨a0_0, a0_1, ⟨a0_2, a0_3, a0_4, a0_5, a0_6, l0_7⟩, l0_8, l0_9, l0_10, a0_11, l0_12, l0_13, l0_14, a0_15, a0_16, l0_17⟩ hc0_7 hr0_7 hc0_8 hr0_8 hc0_9 hr0_9 hc0_10 hr0_10 hc0_12 hr0_12 hc0_13 hr0_13 hc0_14 hr0_14 hc0_17 hr0_17) hr1 hc1 hr2 hc2 h


def hopperlaw25_PlanMore.Pure : Prop := ∀ (a0_0 : Int) (a0_1 : ByteArray) (a0_2 : Int) (a0_3 : Int) (a0_4 : ByteArray) (a0_5 : Int) (a0_6 : Int) (l0_7 : List (S24)) (l0_8 : List (S50)) (l0_9 : List Int) (l0_10 : List (S72)) (a0_11 : Int) (l0_12 : List Int) (l0_13 : List Int) (l0_14 : List (S52)) (a0_15 : Int) (a0_16 : Int) (l0_17 : List (S31)) (l1 : List (S46)) (l2 : List (S46)), (fun x_ : Int => (Lit.int .i64 x_).wf = true) a0_0 → (fun x_ : ByteArray => x_.size ≤ maxLen) a0_1 → (fun x_ : Int => (Lit.int .i64 x_).wf = true) a0_2 → (fun x_ : Int => (Lit.int .i64 x_).wf = true) a0_3 → (fun x_ : ByteArray => x_.size ≤ maxLen) a0_4 → (fun x_ : Int => (Lit.int .i64 x_).wf = true) a0_5 → (fun x_ : Int => (Lit.int .i64 x_).wf = true) a0_6 → (WfSl Wf24) l0_7 → (WfSl Wf50) l0_8 → (WfSl (fun x_ : Int => (Lit.int .i64 x_).wf = true)) l0_9 → (WfSl Wf72) l0_10 → (fun x_ : Int => (Lit.int .i64 x_).wf = true) a0_11 → (WfSl (fun x_ : Int => (Lit.int .i64 x_).wf = true)) l0_12 → (WfSl (fun x_ : Int => (Lit.int .i64 x_).wf = true)) l0_13 → (WfSl Wf52) l0_14 → (fun x_ : Int => (Lit.int .i64 x_).wf = true) a0_15 → (fun x_ : Int => (Lit.int .i64 x_).wf = true) a0_16 → (WfSl Wf31) l0_17 → (WfSl Wf46) l1 → (WfSl Wf46) l2 → ∃ k, hopperlaw25_PlanMore.f k a0_0 a0_1 a0_2 a0_3 a0_4 a0_5 a0_6 l0_7 l0_8 l0_9 l0_10 a0_11 l0_12 l0_13 l0_14 a0_15 a0_16 l0_17 l1 l2 = some true

end Go.Proofs.Ytomccmodlkdcbaa.Q
