-- PRINTED by print.py (a twelfth state) out of the translation. Not trusted: Lean checks it.
import Derived.Test.YtomccmodlkdcbaaQx0
import Derived.Test.YtomccmodlkdcbaaQx8
import Derived.Test.YtomccmodlkdcbaaQx9
import Derived.Test.YtomccmodlkdcbaaQx10
import Derived.Test.YtomccmodlkdcbaaQx11
namespace Go.Proofs.Ytomccmodlkdcbaa.Q
open Go.RowKit Go.Proofs.YtomccmodlkdcbaaW.PrintWords Go.Proofs.YtomccmodlkdcbaaW.PrintLast Go.Proofs.YtomccmodlkdcbaaW.PrintMore
attribute [local go_sem] str_gtr str_geq str_leq max2_int min2_int max_two min_two max_three min_three max_four min_four
set_option linter.unusedVariables false
set_option maxHeartbeats 8000000
set_option maxRecDepth 1000000
set_option linter.unusedSimpArgs false

/-! ### hopperref25_Named: function 11 -/
def hopperref25_Named.l0 : Nat → List (S46) → Int → Option (Bool)
 | 0, _, _ => none
 | k + 1, x0, x3 => if x3 < (x0.length : Int) then (if 0 ≤ x3 then (if (((rd_T46 x0 x3).f0).size : Int) > 100 then (some false) else (if ((rd_T46 x0 x3).f1) < 1 then (some false) else (if ((rd_T46 x0 x3).f1) > 8 then (some false) else (hopperref25_Named.l0 k x0 (wrap64 (x3 + 1)))))) else (none)) else (some (decide ((x0.length : Int) ≤ 20)))
def hopperref25_Named.f (k : Nat) (l0 : List (S46)) : Option (Bool) := hopperref25_Named.l0 k l0 0
theorem hopperref25_Named.calls (k : Nat) (A0 : Option Addr) (c0 : Nat) (l0 : List (S46)) (r : Bool) (w : World) (hr0 : Kd.C k46 w A0 l0.length l0) (hc0 : l0.length ≤ c0) (h : hopperref25_Named.f k l0 = some r) :
  Calls Try.prog 11 #[.slice A0 l0.length c0] w fun e w' => e = .returned (.bool r) ∧ Drawn0 w w' := by
 have HR0 := Aside0.mk hr0; have HC0 := Aside0.mk hc0; clear hr0 hc0; have H : (hopperref25_Named.l0 k l0 0) = some r := h; clear h; have H' := Aside0.mk H
 clear H; go_enter Try.func11, Try.ntmps11
 go_wp2
 go_loopg [3] k (fun kq v3 w' => ∃ (x3_1 : Int), v3 = .int .i64 x3_1 ∧ Aside0 (hopperref25_Named.l0 kq l0 x3_1 = some r) ∧ Aside0 (kq ≤ k) ∧ Drawn0 w w')
 case atStart => exact ⟨(0), (by first | rfl | (simp; done) | (simp [*]; done)), H', ⟨Nat.le_refl _⟩, by repeat (first | exact Drawn0.refl _ | apply Drawn0.step)⟩
 case round =>
  clear H'; try clear c1
  obtain ⟨x3_1, rfl, HA, HK1, ⟨m1, rfl⟩⟩ := hrel
  cases gk with
  | zero => exact absurd HA.out (by simp [hopperref25_Named.l0])
  | succ k1 =>
   have H := HA.out; clear HA; simp only [hopperref25_Named.l0] at H
   by_cases c2 : x3_1 < (l0.length : Int)
   ·rw [if_pos c2] at H; have c2b0 : decide (x3_1 < (l0.length : Int)) = true := decide_eq_true c2; clear c2; by_cases c3 : 0 ≤ x3_1
    case neg => rw [if_neg c3] at H; exact absurd H (by simp)
    rw [if_pos c3] at H; have c3b0 : decide (0 ≤ x3_1) = true := decide_eq_true c3; clear c3; by_cases c4 : (((rd_T46 l0 x3_1).f0).size : Int) > 100
    ·rw [if_pos c4] at H; have c4b0 : decide (100 < (((rd_T46 l0 x3_1).f0).size : Int)) = true := decide_eq_true c4; have c4b1 : decide (100 < ((rd_T46 l0 x3_1).f0).size) = true := decide_eq_true (by omega)
     clear c4; obtain rfl := Option.some.inj H
     have p264 : 0 ≤ (x3_1 : Int) := dtA; have q264 : x3_1 < (l0.length : Int) := dtA; obtain ⟨ad264, e264, hx264_0, hx264_1⟩ := at_T46 HR0.out x3_1 p264 q264
     cases e264
     replace p264 := eq_true p264; replace q264 := eq_true q264; go_wp2
     go_ret
     exact exD
    ·rw [if_neg c4] at H; have c4b0 : decide (100 < (((rd_T46 l0 x3_1).f0).size : Int)) = false := decide_eq_false c4; have c4b1 : decide (100 < ((rd_T46 l0 x3_1).f0).size) = false := decide_eq_false (by omega)
     clear c4; by_cases c5 : ((rd_T46 l0 x3_1).f1) < 1
     ·rw [if_pos c5] at H; have c5b0 : decide (((rd_T46 l0 x3_1).f1) < 1) = true := decide_eq_true c5; clear c5; obtain rfl := Option.some.inj H
      have p264 : 0 ≤ (x3_1 : Int) := dtA; have q264 : x3_1 < (l0.length : Int) := dtA; obtain ⟨ad264, e264, hx264_0, hx264_1⟩ := at_T46 HR0.out x3_1 p264 q264
      cases e264
      replace p264 := eq_true p264; replace q264 := eq_true q264; have p265 : 0 ≤ (x3_1 : Int) := dtA; have q265 : x3_1 < (l0.length : Int) := dtA; obtain ⟨ad265, e265, hx265_0, hx265_1⟩ := at_T46 HR0.out x3_1 p265 q265
      obtain rfl : ad264 = ad265 := (by injection e265)
      replace p265 := eq_true p265; replace q265 := eq_true q265; go_wp2
      go_ret
      exact exD
     ·rw [if_neg c5] at H; have c5b0 : decide (((rd_T46 l0 x3_1).f1) < 1) = false := decide_eq_false c5; clear c5; by_cases c6 : ((rd_T46 l0 x3_1).f1) > 8
      ·rw [if_pos c6] at H; have c6b0 : decide (8 < ((rd_T46 l0 x3_1).f1)) = true := decide_eq_true c6; clear c6; obtain rfl := Option.some.inj H
       have p264 : 0 ≤ (x3_1 : Int) := dtA; have q264 : x3_1 < (l0.length : Int) := dtA; obtain ⟨ad264, e264, hx264_0, hx264_1⟩ := at_T46 HR0.out x3_1 p264 q264
       cases e264
       replace p264 := eq_true p264; replace q264 := eq_true q264; have p265 : 0 ≤ (x3_1 : Int) := dtA; have q265 : x3_1 < (l0.length : Int) := dtA; obtain ⟨ad265, e265, hx265_0, hx265_1⟩ := at_T46 HR0.out x3_1 p265 q265
       obtain rfl : ad264 = ad265 := (by injection e265)
       replace p265 := eq_true p265; replace q265 := eq_true q265; have p266 : 0 ≤ (x3_1 : Int) := dtA; have q266 : x3_1 < (l0.length : Int) := dtA; obtain ⟨ad266, e266, hx266_0, hx266_1⟩ := at_T46 HR0.out x3_1 p266 q266
       obtain rfl : ad264 = ad266 := (by injection e266)
       replace p266 := eq_true p266; replace q266 := eq_true q266; go_wp2
       go_ret
       exact exD
      ·rw [if_neg c6] at H; have c6b0 : decide (8 < ((rd_T46 l0 x3_1).f1)) = false := decide_eq_false c6; clear c6; have H' := Aside0.mk H
       clear H; have p264 : 0 ≤ (x3_1 : Int) := dtA; have q264 : x3_1 < (l0.length : Int) := dtA; obtain ⟨ad264, e264, hx264_0, hx264_1⟩ := at_T46 HR0.out x3_1 p264 q264
       cases e264
       replace p264 := eq_true p264; replace q264 := eq_true q264; have p265 : 0 ≤ (x3_1 : Int) := dtA; have q265 : x3_1 < (l0.length : Int) := dtA; obtain ⟨ad265, e265, hx265_0, hx265_1⟩ := at_T46 HR0.out x3_1 p265 q265
       obtain rfl : ad264 = ad265 := (by injection e265)
       replace p265 := eq_true p265; replace q265 := eq_true q265; have p266 : 0 ≤ (x3_1 : Int) := dtA; have q266 : x3_1 < (l0.length : Int) := dtA; obtain ⟨ad266, e266, hx266_0, hx266_1⟩ := at_T46 HR0.out x3_1 p266 q266
       obtain rfl : ad264 = ad266 := (by injection e266)
       replace p266 := eq_true p266; replace q266 := eq_true q266; go_wp2
       go_roundg k1
       case measure => have := HK1.out; omega
       case rel => exact ⟨(wrap64 (x3_1 + 1)), (by first | rfl | (simp; done) | (simp [*]; done)), H', ⟨by have := HK1.out; omega⟩, by repeat (first | exact Drawn0.refl _ | apply Drawn0.step)⟩
   ·rw [if_neg c2] at H; have c2b0 : decide (x3_1 < (l0.length : Int)) = false := decide_eq_false c2; clear c2; obtain rfl := Option.some.inj H
    go_wp2
    go_ret
    exact exD

/-! ### hopperlaw25_deep: function 17 -/
-- told by hand
/-- The deepest of the kids. -/
def deepL (g : S31 → Option Int) : List S31 → Int → Option Int
 | [], n => some n
 | q :: qs, n => (g q).bind fun t => deepL g qs (if n < t then t else n)
def deepP : Nat → S31 → Option Int
 | 0, _ => none
 | k + 1, p => (deepL (fun q => deepP k q) p.f12 0).bind fun n => some (wrap64 (n + 1))
def hopperlaw25_deep.f (k : Nat) (a0_0 : Int) (a0_1 : ByteArray) (a0_2 : Int) (a0_3 : Int) (a0_4 : ByteArray) (a0_5 : Int) (a0_6 : Int) (l0_7 : List S24) (l0_8 : List S50) (l0_9 : List Int) (l0_10 : List S72) (a0_11 : Int) (l0_12 : List Int) (l0_13 : List Int) (l0_14 : List S52) (a0_15 : Int) (a0_16 : Int) (l0_17 : List S31) : Option Int := deepP k ⟨a0_0, a0_1, ⟨a0_2, a0_3, a0_4, a0_5, a0_6, l0_7⟩, l0_8, l0_9, l0_10, a0_11, l0_12, l0_13, l0_14, a0_15, a0_16, l0_17⟩
theorem hopperlaw25_deep.core (k : Nat) : ∀ (p : S31) (cs : List Value) (r : Int) (w : World), k31.K w p cs → deepP k p = some r →
  Calls Try.prog 17 #[.agg cs.toArray] w fun e w' => e = .returned (.int .i64 r) ∧ Below w.heap.size w w' := by
 have hagg : ∀ W, (isAgg 31).run Try.prog W = .ok true W := fun W => by first | exact Try.isAgg31 | exact Try.isAgg31 W | go_simp
 have hsz18 : ∀ W, (sizeOf 31).run Try.prog W = .ok 18 W := fun W => by first | exact Try.sizeOf31 | exact Try.sizeOf31 W | go_simp
 have HAGG := Aside0.mk hagg; have HSZ := Aside0.mk hsz18; clear hagg hsz18
 induction k with
 | zero => intro p cs r w _ h; cases h
 | succ k ih =>
 intro p cs r w hK h
 have hu31 := Try.underlying31; unfold deepP at h
 obtain ⟨nn, hnn, h⟩ := Option.bind_eq_some_iff.1 h
 obtain rfl := Option.some.inj h
 obtain ⟨A17, c17, hcs17, _, _, hk17⟩ := kids_atS p cs w hK
 have hn : p.f12.length ≤ 9223372036854775807 := hk17.2.1; have HL18 := Aside0.mk (show cs.length = 18 from k31.K_len hK)
 have HK17 := Aside0.mk hk17; have HN := Aside0.mk hn; have IH := Aside0.mk ih; have H17 := Aside0.mk hcs17; have HS := Aside0.mk hnn; clear hK hk17 hn ih hcs17 hnn h; go_enter Try.func17, Try.ntmps17
 go_wp2_with (first
  | ((with_reducible refine gate_dst (N := 1) rfl ?_); refine box_all rfl rfl (cs := cs.toArray) rfl (fun W => by rw [List.size_toArray, HL18.out]; exact HSZ.out W) ?_; intro w1 hbx hbw; have BW1 := Aside0.mk hbw; have BX1 := Aside0.mk hbx; clear hbx hbw))
 go_loopg [3, 4, 5] p.f12.length (fun gg s3 s4 s5 wr => ∃ (i : Nat) (n : Int), s3 = .int .i64 n ∧ s4 = .int .i64 i ∧ i ≤ p.f12.length ∧ p.f12.length - i ≤ gg ∧ Aside0 (deepL (fun q => deepP k q) (p.f12.drop i) n = some nn) ∧ Aside0 (Below w.heap.size w wr) ∧ Aside0 (wr.heap[w.heap.size]? = some (.cells cs.toArray 31 (0, 0))))
 case atStart => exact ⟨0, 0, rfl, rfl, Nat.zero_le _, by omega, HS, BW1, BX1⟩
 case round =>
  clear HS BW1 BX1; obtain ⟨i, n, rfl, rfl, hin, hg0, HTS, HB, BX⟩ := hrel; have hcv17 : wr.cell? ⟨w.heap.size, 17, none⟩ = some (.slice A17 p.f12.length c17) := blk_cells BX.out 17 _ H17.out; by_cases hlt : i < p.f12.length
  ·have hltz : (i : Int) < (p.f12.length : Int) := by omega
   have hi0 : (0 : Int) ≤ (i : Int) := by omega
   have hks := HTS.out; rw [drop_getS p.f12 i hlt] at hks
   simp only [deepL] at hks
   obtain ⟨t, ht, hks⟩ := Option.bind_eq_some_iff.1 hks
   obtain ⟨ad, c, e17, hcl, hKu, hcell⟩ := kid_getS w A17 _ p.f12 HK17.out i hlt
   subst e17; have HCALL := Aside0.mk (fun W (hb : Below w.heap.size w W) => IH.out (p.f12.getD i z31) c t W (k31.K_below hb hKu) ht)
   have HCL := Aside0.mk hcl; have HCELL := Aside0.mk (show ∀ j v, c[j]? = some v → wr.cell? ((ad.add (i * 18)).add j) = some v from fun j v hj => (HB.out.cell (World.block_lt_of_cell? w _ (hcell j v hj))).trans (hcell j v hj))
   clear hKu ht hcl hcell; by_cases q : n < t
   ·rw [if_pos q] at hks; have HTS2 := Aside0.mk hks; have qb : decide (n < t) = true := decide_eq_true q; have qb2 : decide (t > n) = true := decide_eq_true q; clear hks; clear q HTS
    go_wp2_with (first
     | ((with_reducible refine gate_dst (N := 17) rfl ?_); (try (refine gate_guard (by rfl) ?_; dsimp only)); refine load_all rfl rfl (cs := c) rfl HAGG.out (fun W => by rw [HCL.out]; exact HSZ.out W) HCELL.out ?_)
     | (go_at_call 17; refine (HCALL.out _ HB.out).mono ?_; rintro e w4 ⟨rfl, hb4⟩; have HB4 := Aside0.mk (below_step HB.out hb4); have BX4 := Aside0.mk ((hb4.block w.heap.size (Array.getElem?_eq_some_iff.1 BX.out).1).trans BX.out); clear hb4))
    go_roundg (p.f12.length - (i + 1))
    case measure => omega
    case rel => have hN := HN.out; exact ⟨i + 1, t, rfl, by first | rfl | go_num | (congr 1; unfold wrap64; omega), by omega, by omega, HTS2, HB4, BX4⟩
   ·rw [if_neg q] at hks; have HTS2 := Aside0.mk hks; have qb : decide (n < t) = false := decide_eq_false q; have qb2 : decide (t > n) = false := decide_eq_false q; clear hks; clear q HTS
    go_wp2_with (first
     | ((with_reducible refine gate_dst (N := 17) rfl ?_); (try (refine gate_guard (by rfl) ?_; dsimp only)); refine load_all rfl rfl (cs := c) rfl HAGG.out (fun W => by rw [HCL.out]; exact HSZ.out W) HCELL.out ?_)
     | (go_at_call 17; refine (HCALL.out _ HB.out).mono ?_; rintro e w4 ⟨rfl, hb4⟩; have HB4 := Aside0.mk (below_step HB.out hb4); have BX4 := Aside0.mk ((hb4.block w.heap.size (Array.getElem?_eq_some_iff.1 BX.out).1).trans BX.out); clear hb4))
    go_roundg (p.f12.length - (i + 1))
    case measure => omega
    case rel => have hN := HN.out; exact ⟨i + 1, n, rfl, by first | rfl | go_num | (congr 1; unfold wrap64; omega), by omega, by omega, HTS2, HB4, BX4⟩
  ·have hltz : ¬ (i : Int) < (p.f12.length : Int) := by omega
   have hks := HTS.out; rw [List.drop_of_length_le (by omega)] at hks
   simp only [deepL] at hks
   obtain rfl := Option.some.inj hks
   clear hks HTS; go_wp2
   go_ret
   exact ⟨rfl, HB.out⟩
theorem hopperlaw25_deep.calls (k : Nat) (a0_0 : Int) (a0_1 : ByteArray) (a0_2 : Int) (a0_3 : Int) (a0_4 : ByteArray) (a0_5 : Int) (a0_6 : Int) (A0_7 : Option Addr) (c0_7 : Nat) (l0_7 : List (S24)) (A0_8 : Option Addr) (c0_8 : Nat) (l0_8 : List (S50)) (A0_9 : Option Addr) (c0_9 : Nat) (l0_9 : List Int) (A0_10 : Option Addr) (c0_10 : Nat) (l0_10 : List (S72)) (a0_11 : Int) (A0_12 : Option Addr) (c0_12 : Nat) (l0_12 : List Int) (A0_13 : Option Addr) (c0_13 : Nat) (l0_13 : List Int) (A0_14 : Option Addr) (c0_14 : Nat) (l0_14 : List (S52)) (a0_15 : Int) (a0_16 : Int) (A0_17 : Option Addr) (c0_17 : Nat) (l0_17 : List (S31)) (r : Int) (w : World) (hr0_7 : Kd.C k24 w A0_7 l0_7.length l0_7) (hc0_7 : l0_7.length ≤ c0_7) (hr0_8 : Kd.C k50 w A0_8 l0_8.length l0_8) (hc0_8 : l0_8.length ≤ c0_8) (hr0_9 : Kd.C (Kd.int .i64) w A0_9 l0_9.length l0_9) (hc0_9 : l0_9.length ≤ c0_9) (hr0_10 : Kd.C k72 w A0_10 l0_10.length l0_10) (hc0_10 : l0_10.length ≤ c0_10) (hr0_12 : Kd.C (Kd.int .i64) w A0_12 l0_12.length l0_12) (hc0_12 : l0_12.length ≤ c0_12) (hr0_13 : Kd.C (Kd.int .i64) w A0_13 l0_13.length l0_13) (hc0_13 : l0_13.length ≤ c0_13) (hr0_14 : Kd.C k52 w A0_14 l0_14.length l0_14) (hc0_14 : l0_14.length ≤ c0_14) (hr0_17 : Kd.C k31 w A0_17 l0_17.length l0_17) (hc0_17 : l0_17.length ≤ c0_17) (h : hopperlaw25_deep.f k a0_0 a0_1 a0_2 a0_3 a0_4 a0_5 a0_6 l0_7 l0_8 l0_9 l0_10 a0_11 l0_12 l0_13 l0_14 a0_15 a0_16 l0_17 = some r) :
  Calls Try.prog 17 #[.agg #[.int .i64 a0_0, .string a0_1, .int .i64 a0_2, .int .i64 a0_3, .string a0_4, .int .i64 a0_5, .int .i64 a0_6, .slice A0_7 l0_7.length c0_7, .slice A0_8 l0_8.length c0_8, .slice A0_9 l0_9.length c0_9, .slice A0_10 l0_10.length c0_10, .int .i64 a0_11, .slice A0_12 l0_12.length c0_12, .slice A0_13 l0_13.length c0_13, .slice A0_14 l0_14.length c0_14, .int .i64 a0_15, .int .i64 a0_16, .slice A0_17 l0_17.length c0_17]] w fun e w' => e = .returned (.int .i64 r) ∧ Below w.heap.size w w' :=
 hopperlaw25_deep.core k ⟨a0_0, a0_1, ⟨a0_2, a0_3, a0_4, a0_5, a0_6, l0_7⟩, l0_8, l0_9, l0_10, a0_11, l0_12, l0_13, l0_14, a0_15, a0_16, l0_17⟩ _ r w (k31_mk w ⟨a0_0, a0_1, ⟨a0_2, a0_3, a0_4, a0_5, a0_6, l0_7⟩, l0_8, l0_9, l0_10, a0_11, l0_12, l0_13, l0_14, a0_15, a0_16, l0_17⟩ hc0_7 hr0_7 hc0_8 hr0_8 hc0_9 hr0_9 hc0_10 hr0_10 hc0_12 hr0_12 hc0_13 hr0_13 hc0_14 hr0_14 hc0_17 hr0_17) h

/-! ### hopperlaw25_PlanWidth: function 6 -/
-- told by hand
theorem infoS50 : (Try.prog.info? 50).map (fun i => (i.zero, i.size, i.bytes)) = some (some (.agg #[.int .i64 0, .int .i64 0, .string ⟨#[]⟩, .int .i64 0, .int .i64 0, .slice none 0 0]), 6, 72) := by kernel_rfl
def limS (nm : ByteArray) (p : S31) : S31 := ⟨7, nm, z24, [], [], [], 0, [], [], [], 0, 3, [p]⟩
def projS (xs : List S50) (p : S31) : S31 := ⟨3, ⟨#[]⟩, z24, xs, [], [], 0, [], [], [], 0, 0, [p]⟩
def ordS (c : Int) (p : S31) : S31 := ⟨6, ⟨#[]⟩, z24, [], [], [], 0, [], [], [⟨c, 0, false⟩], 0, 0, [p]⟩
/-- So many expressions, each a column. -/
def xsL (c : Int) (m : Nat) : List S50 := (List.range m).map fun (j : Nat) => (⟨1, (j : Int) % c, ⟨#[]⟩, 0, 0, []⟩ : S50)
def kN (n : Int) : Int := wrap64 (1 + wrap64 (Int.tmod n 8))
def lawWidthP (k : Nat) (p : S31) (l : List S46) (n : Int) : Option Bool := (hopperlaw25_awake.f k).bind fun t => if t = true then (smallP k p 9).bind fun b => if b = true then (hopperref25_Named.f k l).bind fun c => if c = true then
 (colsP k p l 12).bind fun c => if c = 0 then some true else (deepP k p).bind fun d => if 9 < d then some true else if 0 ≤ n ∧ n ≤ 255 ∧ 1 ≤ c ∧ c ≤ 8 then
 (colsP k (limS ⟨#[]⟩ p) l 12).bind fun a => (colsP k (projS (xsL c (kN n).toNat) p) l 12).bind fun b => (colsP k (ordS (c - 1) p) l 12).bind fun o => (colsP k (ordS c p) l 12).bind fun i => (colsP k (limS ⟨#[116]⟩ p) l 12).bind fun j => if a = c ∧ b = kN n ∧ o = c ∧ i = 0 ∧ j = 0 then some true else none
 else none else some true else some true else none
def hopperlaw25_PlanWidth.f (k : Nat) (a0_0 : Int) (a0_1 : ByteArray) (a0_2 : Int) (a0_3 : Int) (a0_4 : ByteArray) (a0_5 : Int) (a0_6 : Int) (l0_7 : List S24) (l0_8 : List S50) (l0_9 : List Int) (l0_10 : List S72) (a0_11 : Int) (l0_12 : List Int) (l0_13 : List Int) (l0_14 : List S52) (a0_15 : Int) (a0_16 : Int) (l0_17 : List S31) (l1 : List S46) (a2 : Int) : Option Bool := lawWidthP k ⟨a0_0, a0_1, ⟨a0_2, a0_3, a0_4, a0_5, a0_6, l0_7⟩, l0_8, l0_9, l0_10, a0_11, l0_12, l0_13, l0_14, a0_15, a0_16, l0_17⟩ l1 a2
/-- A block of whole structs, read as a row. -/
theorem C_blk {α : Type} {d : Kd α} {e : TypeId} {W : World} {g n : Nat} {xs : List α} {inner : List Value} (hb : W.heap[g]? = some (.cells inner.toArray e (0, 0))) (hr : Reps (d.K W) d.sz xs inner) (hn : xs.length = n) (hm : n ≤ 9223372036854775807) : Kd.C d W (some ⟨g, 0, none⟩) n xs := by
 refine ⟨hn, hm, fun _ => ⟨_, rfl, fun j x hj => ?_⟩⟩
 have hx := hr.2 j x hj; refine ⟨_, d.K_len hx, hx, fun i u hu => ?_⟩
 rw [List.getElem?_take] at hu
 split at hu
 ·rw [List.getElem?_drop] at hu
  exact blk_cells hb _ _ hu
 ·cases hu
theorem reps_one {α : Type} {R : α → List Value → Prop} {sz : Nat} {x : α} {cs : List Value} (h : R x cs) (hl : cs.length = sz) : Reps R sz [x] cs := by
 refine ⟨by simp [hl], fun j p hj => ?_⟩
 cases j with
 | zero => cases Option.some.inj hj; simpa [← hl] using h
 | succ j => simp at hj
section
variable {W : World} {p : S31} {gkid : Nat} {cs : List Value}
theorem C_kid (hb : W.heap[gkid]? = some (.cells cs.toArray 31 (0, 0))) (hK : k31.K W p cs) : Kd.C k31 W (some ⟨gkid, 0, none⟩) 1 [p] := C_blk hb (reps_one (R := k31.K W) hK (k31.K_len hK)) rfl (by decide)
theorem K_lim (nm : ByteArray) (hb : W.heap[gkid]? = some (.cells cs.toArray 31 (0, 0))) (hK : k31.K W p cs) : k31.K W (limS nm p) [.int .i64 7, .string nm, .int .i64 0, .int .i64 0, .string (⟨#[]⟩ : ByteArray), .int .i64 0, .int .i64 0, .slice none 0 0, .slice none 0 0, .slice none 0 0, .slice none 0 0, .int .i64 0, .slice none 0 0, .slice none 0 0, .slice none 0 0, .int .i64 0, .int .i64 3, .slice (some ⟨gkid, 0, none⟩) 1 1] :=
 k31_mk W (limS nm p) (A7 := none) (c7 := 0) (Nat.le_refl _) (Kd.C_nil _ _) (A8 := none) (c8 := 0) (Nat.le_refl _) (Kd.C_nil _ _) (A9 := none) (c9 := 0) (Nat.le_refl _) (Kd.C_nil _ _) (A10 := none) (c10 := 0) (Nat.le_refl _) (Kd.C_nil _ _) (A12 := none) (c12 := 0) (Nat.le_refl _) (Kd.C_nil _ _) (A13 := none) (c13 := 0) (Nat.le_refl _) (Kd.C_nil _ _) (A14 := none) (c14 := 0) (Nat.le_refl _) (Kd.C_nil _ _) (A17 := some ⟨gkid, 0, none⟩) (c17 := 1) (Nat.le_refl _) (C_kid hb hK)
theorem K_prj (xs : List S50) (A : Option Addr) (c : Nat) (hx : Kd.C k50 W A xs.length xs) (hc : xs.length ≤ c) (hb : W.heap[gkid]? = some (.cells cs.toArray 31 (0, 0))) (hK : k31.K W p cs) : k31.K W (projS xs p) [.int .i64 3, .string (⟨#[]⟩ : ByteArray), .int .i64 0, .int .i64 0, .string (⟨#[]⟩ : ByteArray), .int .i64 0, .int .i64 0, .slice none 0 0, .slice A xs.length c, .slice none 0 0, .slice none 0 0, .int .i64 0, .slice none 0 0, .slice none 0 0, .slice none 0 0, .int .i64 0, .int .i64 0, .slice (some ⟨gkid, 0, none⟩) 1 1] :=
 k31_mk W (projS xs p) (A7 := none) (c7 := 0) (Nat.le_refl _) (Kd.C_nil _ _) (A8 := A) (c8 := c) hc hx (A9 := none) (c9 := 0) (Nat.le_refl _) (Kd.C_nil _ _) (A10 := none) (c10 := 0) (Nat.le_refl _) (Kd.C_nil _ _) (A12 := none) (c12 := 0) (Nat.le_refl _) (Kd.C_nil _ _) (A13 := none) (c13 := 0) (Nat.le_refl _) (Kd.C_nil _ _) (A14 := none) (c14 := 0) (Nat.le_refl _) (Kd.C_nil _ _) (A17 := some ⟨gkid, 0, none⟩) (c17 := 1) (Nat.le_refl _) (C_kid hb hK)
theorem K_ord (c : Int) (go : Nat) (ho : W.heap[go]? = some (.cells [.int .i64 c, .int .i64 0, .bool false].toArray 52 (0, 0))) (hb : W.heap[gkid]? = some (.cells cs.toArray 31 (0, 0))) (hK : k31.K W p cs) : k31.K W (ordS c p) [.int .i64 6, .string (⟨#[]⟩ : ByteArray), .int .i64 0, .int .i64 0, .string (⟨#[]⟩ : ByteArray), .int .i64 0, .int .i64 0, .slice none 0 0, .slice none 0 0, .slice none 0 0, .slice none 0 0, .int .i64 0, .slice none 0 0, .slice none 0 0, .slice (some ⟨go, 0, none⟩) 1 1, .int .i64 0, .int .i64 0, .slice (some ⟨gkid, 0, none⟩) 1 1] :=
 k31_mk W (ordS c p) (A7 := none) (c7 := 0) (Nat.le_refl _) (Kd.C_nil _ _) (A8 := none) (c8 := 0) (Nat.le_refl _) (Kd.C_nil _ _) (A9 := none) (c9 := 0) (Nat.le_refl _) (Kd.C_nil _ _) (A10 := none) (c10 := 0) (Nat.le_refl _) (Kd.C_nil _ _) (A12 := none) (c12 := 0) (Nat.le_refl _) (Kd.C_nil _ _) (A13 := none) (c13 := 0) (Nat.le_refl _) (Kd.C_nil _ _) (A14 := some ⟨go, 0, none⟩) (c14 := 1) (Nat.le_refl _) (C_blk ho (reps_one (R := k52.K W) (k52_mk W ⟨c, 0, false⟩) rfl) rfl (show (1 : Nat) ≤ 9223372036854775807 from by decide)) (A17 := some ⟨gkid, 0, none⟩) (c17 := 1) (Nat.le_refl _) (C_kid hb hK)
end
section
variable {Pr : Program} {ops : Array Oper} {rest : List Oper} {o : Oper} {a : Act} {Q : Exit → Act → World → Prop}
theorem lit_event {α : Type} (e : TypeId) {W : World} (N : Tmp) (hd : o.dst = some N) (hgd : o.guard = none) (xs : List α) (inner : List Value)
  (hrun : (execOp a.eval o).run Pr W = .ok (.value (.slice (some ⟨W.heap.size, 0, none⟩) xs.length xs.length)) (W.alloc (.cells inner.toArray e)))
  (h : ∀ g w1, W.heap.size ≤ g → w1.heap[g]? = some (.cells inner.toArray e (0, 0)) → Below W.heap.size W w1 → wpList Pr ops Q rest (a.put o.dst (.slice (some ⟨g, 0, none⟩) xs.length xs.length)) w1) : wpList Pr ops Q (o :: rest) a W :=
 Kd.event_run hgd hrun (h _ _ (Nat.le_refl _) (heap_alloc_new W _) ((Below.refl _ W).alloc (Nat.le_refl _) _))
end
theorem run_lit31 {W : World} {a : Act} {o : Oper} {q : Tmp} {cs : List Value} (ho : o.op = .buildSlice 29 1 #[(0, .tmp q)]) (hv : a.eval (.tmp q) = .agg cs.toArray) (hl : cs.length = 18) :
  (execOp a.eval o).run Try.prog W = .ok (.value (.slice (some ⟨W.heap.size, 0, none⟩) 1 1)) (W.alloc (.cells cs.toArray 31)) := by
 have hu := Try.underlying31
 match cs, hl with
 | [x0, x1, x2, x3, x4, x5, x6, x7, x8, x9, x10, x11, x12, x13, x14, x15, x16, x17], _ =>
  unfold execOp
  rw [ho]
  simp only [List.map_toArray, List.map_cons, List.map_nil, hv]
  go_simp
  first | done | rfl
theorem xsL_step (c : Int) (i : Nat) : xsL c (i + 1) = xsL c i ++ [(⟨1, (i : Int) % c, ⟨#[]⟩, 0, 0, []⟩ : S50)] := by
 unfold xsL; rw [List.range_succ, List.map_append]; rfl
theorem xsL_len (c : Int) (i : Nat) : (xsL c i).length = i := by unfold xsL; simp
theorem hopperlaw25_PlanWidth.e0 (k : Nat) (p : S31) (cs : List Value) (A1 : Option Addr) (c1 : Nat) (l1 : List S46) (n : Int) (w : World) (hK : k31.K w p cs) (hr1 : Kd.C k46 w A1 l1.length l1) (hc1 : l1.length ≤ c1) (haw : hopperlaw25_awake.f k = some true) (hsm : smallP k p 9 = some false) :
  Calls Try.prog 6 #[.agg cs.toArray, .slice A1 l1.length c1, .int .u8 n] w fun e w' => e = .returned (.bool true) ∧ Below w.heap.size w w' := by
 have hagg : ∀ W, (isAgg 31).run Try.prog W = .ok true W := fun W => by first | exact Try.isAgg31 | exact Try.isAgg31 W | go_simp
 have hsz18 : ∀ W, (sizeOf 31).run Try.prog W = .ok 18 W := fun W => by first | exact Try.sizeOf31 | exact Try.sizeOf31 W | go_simp
 have HAGG := Aside0.mk hagg; have HSZ := Aside0.mk hsz18; clear hagg hsz18; have hu31 := Try.underlying31; have HL18 := Aside0.mk (show cs.length = 18 from k31.K_len hK)
 have HAW := Aside0.mk (fun W => hopperlaw25_awake.calls k true W haw)
 have HSM := Aside0.mk (fun W (hb : Below w.heap.size w W) => hopperref25_Small.core k p cs 9 false W (k31.K_below hb hK) hsm)
 have TK0 : True := trivial; have TK1 : True := trivial; have TK2 : True := trivial; clear haw hK hr1 hc1 hsm; go_enter Try.func6, Try.ntmps6
 go_wp2_with (first
  | ((with_reducible refine gate_dst (N := 3) rfl ?_); refine box_all rfl rfl (cs := cs.toArray) rfl (fun W => by rw [List.size_toArray, HL18.out]; exact HSZ.out W) ?_; intro w1 hbx hbw; have BW1 := Aside0.mk hbw; have BX1 := Aside0.mk hbx; clear hbx hbw)
  | (have tk_ := TK0; clear tk_ TK0; go_at_call 9; refine (HAW.out _).mono ?_; rintro e w2 ⟨rfl, hb2⟩; have HB2 := Aside0.mk (below_step BW1.out hb2); have BX2 := Aside0.mk ((hb2.block w.heap.size (Array.getElem?_eq_some_iff.1 BX1.out).1).trans BX1.out); clear hb2 BW1 BX1)
  | ((with_reducible refine gate_dst (N := 26) rfl ?_); (try (refine gate_guard (by rfl) ?_; dsimp only)); refine load_all rfl rfl (cs := cs) rfl HAGG.out (fun W => by rw [HL18.out]; exact HSZ.out W) (blk_cells BX2.out) ?_)
  | (have tk_ := TK1; clear tk_ TK1; go_at_call 10; refine (HSM.out _ HB2.out).mono ?_; rintro e w3 ⟨rfl, hb3⟩; have HB3 := Aside0.mk (below_step HB2.out hb3); have BX3 := Aside0.mk ((hb3.block w.heap.size (Array.getElem?_eq_some_iff.1 BX2.out).1).trans BX2.out); clear hb3 HB2 BX2)
  | (have tk_ := TK2; clear tk_ TK2; go_at_call 9; refine (HAW.out _).mono ?_; rintro e w9 ⟨rfl, hb9⟩; have HB9 := Aside0.mk (below_step HB3.out hb9); clear hb9))
 go_ret
 exact ⟨rfl, HB9.out⟩
theorem hopperlaw25_PlanWidth.e1 (k : Nat) (p : S31) (cs : List Value) (A1 : Option Addr) (c1 : Nat) (l1 : List S46) (n : Int) (w : World) (hK : k31.K w p cs) (hr1 : Kd.C k46 w A1 l1.length l1) (hc1 : l1.length ≤ c1) (haw : hopperlaw25_awake.f k = some true) (hsm : smallP k p 9 = some true) (hnm : hopperref25_Named.f k l1 = some false) :
  Calls Try.prog 6 #[.agg cs.toArray, .slice A1 l1.length c1, .int .u8 n] w fun e w' => e = .returned (.bool true) ∧ Below w.heap.size w w' := by
 have hagg : ∀ W, (isAgg 31).run Try.prog W = .ok true W := fun W => by first | exact Try.isAgg31 | exact Try.isAgg31 W | go_simp
 have hsz18 : ∀ W, (sizeOf 31).run Try.prog W = .ok 18 W := fun W => by first | exact Try.sizeOf31 | exact Try.sizeOf31 W | go_simp
 have HAGG := Aside0.mk hagg; have HSZ := Aside0.mk hsz18; clear hagg hsz18; have hu31 := Try.underlying31; have HL18 := Aside0.mk (show cs.length = 18 from k31.K_len hK)
 have HAW := Aside0.mk (fun W => hopperlaw25_awake.calls k true W haw)
 have HSM := Aside0.mk (fun W (hb : Below w.heap.size w W) => hopperref25_Small.core k p cs 9 true W (k31.K_below hb hK) hsm)
 have HNM := Aside0.mk (fun W (hb : Below w.heap.size w W) => ((hopperref25_Named.calls k A1 c1 l1 false W (Kd.C_below hr1 hb) hc1 hnm).mono (fun e w' hh => ⟨hh.1, by first | exact hh.2 | exact hh.2.below⟩) : Calls Try.prog 11 #[.slice A1 l1.length c1] W fun e w' => e = .returned (.bool false) ∧ Below W.heap.size W w'))
 have TK0 : True := trivial; have TK1 : True := trivial; have TK2 : True := trivial; have TK3 : True := trivial; clear haw hK hr1 hc1 hsm hnm; go_enter Try.func6, Try.ntmps6
 go_wp2_with (first
  | ((with_reducible refine gate_dst (N := 3) rfl ?_); refine box_all rfl rfl (cs := cs.toArray) rfl (fun W => by rw [List.size_toArray, HL18.out]; exact HSZ.out W) ?_; intro w1 hbx hbw; have BW1 := Aside0.mk hbw; have BX1 := Aside0.mk hbx; clear hbx hbw)
  | (have tk_ := TK0; clear tk_ TK0; go_at_call 9; refine (HAW.out _).mono ?_; rintro e w2 ⟨rfl, hb2⟩; have HB2 := Aside0.mk (below_step BW1.out hb2); have BX2 := Aside0.mk ((hb2.block w.heap.size (Array.getElem?_eq_some_iff.1 BX1.out).1).trans BX1.out); clear hb2 BW1 BX1)
  | ((with_reducible refine gate_dst (N := 26) rfl ?_); (try (refine gate_guard (by rfl) ?_; dsimp only)); refine load_all rfl rfl (cs := cs) rfl HAGG.out (fun W => by rw [HL18.out]; exact HSZ.out W) (blk_cells BX2.out) ?_)
  | (have tk_ := TK1; clear tk_ TK1; go_at_call 10; refine (HSM.out _ HB2.out).mono ?_; rintro e w3 ⟨rfl, hb3⟩; have HB3 := Aside0.mk (below_step HB2.out hb3); have BX3 := Aside0.mk ((hb3.block w.heap.size (Array.getElem?_eq_some_iff.1 BX2.out).1).trans BX2.out); clear hb3 HB2 BX2)
  | (have tk_ := TK2; clear tk_ TK2; go_at_call 11; refine (HNM.out _ HB3.out).mono ?_; rintro e w4 ⟨rfl, hb4⟩; have HB4 := Aside0.mk (below_step HB3.out hb4); have BX4 := Aside0.mk ((hb4.block w.heap.size (Array.getElem?_eq_some_iff.1 BX3.out).1).trans BX3.out); clear hb4 HB3 BX3)
  | (have tk_ := TK3; clear tk_ TK3; go_at_call 9; refine (HAW.out _).mono ?_; rintro e w9 ⟨rfl, hb9⟩; have HB9 := Aside0.mk (below_step HB4.out hb9); clear hb9))
 go_ret
 exact ⟨rfl, HB9.out⟩
theorem hopperlaw25_PlanWidth.e2 (k : Nat) (p : S31) (cs : List Value) (A1 : Option Addr) (c1 : Nat) (l1 : List S46) (n : Int) (w : World) (hK : k31.K w p cs) (hr1 : Kd.C k46 w A1 l1.length l1) (hc1 : l1.length ≤ c1) (haw : hopperlaw25_awake.f k = some true) (hsm : smallP k p 9 = some true) (hnm : hopperref25_Named.f k l1 = some true) (hpc : colsP k p l1 12 = some 0) :
  Calls Try.prog 6 #[.agg cs.toArray, .slice A1 l1.length c1, .int .u8 n] w fun e w' => e = .returned (.bool true) ∧ Below w.heap.size w w' := by
 have hagg : ∀ W, (isAgg 31).run Try.prog W = .ok true W := fun W => by first | exact Try.isAgg31 | exact Try.isAgg31 W | go_simp
 have hsz18 : ∀ W, (sizeOf 31).run Try.prog W = .ok 18 W := fun W => by first | exact Try.sizeOf31 | exact Try.sizeOf31 W | go_simp
 have HAGG := Aside0.mk hagg; have HSZ := Aside0.mk hsz18; clear hagg hsz18; have hu31 := Try.underlying31; have HL18 := Aside0.mk (show cs.length = 18 from k31.K_len hK)
 have HAW := Aside0.mk (fun W => hopperlaw25_awake.calls k true W haw)
 have HSM := Aside0.mk (fun W (hb : Below w.heap.size w W) => hopperref25_Small.core k p cs 9 true W (k31.K_below hb hK) hsm)
 have HNM := Aside0.mk (fun W (hb : Below w.heap.size w W) => ((hopperref25_Named.calls k A1 c1 l1 true W (Kd.C_below hr1 hb) hc1 hnm).mono (fun e w' hh => ⟨hh.1, by first | exact hh.2 | exact hh.2.below⟩) : Calls Try.prog 11 #[.slice A1 l1.length c1] W fun e w' => e = .returned (.bool true) ∧ Below W.heap.size W w'))
 have HPC := Aside0.mk (fun W (hb : Below w.heap.size w W) => plan_Cols.core k p cs A1 c1 l1 0 5 W (k31.K_below hb hK) (Kd.C_below hr1 hb) hc1 (by rw [hpc]; rfl))
 have TK0 : True := trivial; have TK1 : True := trivial; have TK2 : True := trivial; have TK3 : True := trivial; clear haw hK hr1 hc1 hsm hnm hpc; go_enter Try.func6, Try.ntmps6
 go_wp2_with (first
  | ((with_reducible refine gate_dst (N := 3) rfl ?_); refine box_all rfl rfl (cs := cs.toArray) rfl (fun W => by rw [List.size_toArray, HL18.out]; exact HSZ.out W) ?_; intro w1 hbx hbw; have BW1 := Aside0.mk hbw; have BX1 := Aside0.mk hbx; clear hbx hbw)
  | (have tk_ := TK0; clear tk_ TK0; go_at_call 9; refine (HAW.out _).mono ?_; rintro e w2 ⟨rfl, hb2⟩; have HB2 := Aside0.mk (below_step BW1.out hb2); have BX2 := Aside0.mk ((hb2.block w.heap.size (Array.getElem?_eq_some_iff.1 BX1.out).1).trans BX1.out); clear hb2 BW1 BX1)
  | ((with_reducible refine gate_dst (N := 26) rfl ?_); (try (refine gate_guard (by rfl) ?_; dsimp only)); refine load_all rfl rfl (cs := cs) rfl HAGG.out (fun W => by rw [HL18.out]; exact HSZ.out W) (blk_cells BX2.out) ?_)
  | (have tk_ := TK1; clear tk_ TK1; go_at_call 10; refine (HSM.out _ HB2.out).mono ?_; rintro e w3 ⟨rfl, hb3⟩; have HB3 := Aside0.mk (below_step HB2.out hb3); have BX3 := Aside0.mk ((hb3.block w.heap.size (Array.getElem?_eq_some_iff.1 BX2.out).1).trans BX2.out); clear hb3 HB2 BX2)
  | (have tk_ := TK2; clear tk_ TK2; go_at_call 11; refine (HNM.out _ HB3.out).mono ?_; rintro e w4 ⟨rfl, hb4⟩; have HB4 := Aside0.mk (below_step HB3.out hb4); have BX4 := Aside0.mk ((hb4.block w.heap.size (Array.getElem?_eq_some_iff.1 BX3.out).1).trans BX3.out); clear hb4 HB3 BX3)
  | ((with_reducible refine gate_dst (N := 37) rfl ?_); (try (refine gate_guard (by rfl) ?_; dsimp only)); refine load_all rfl rfl (cs := cs) rfl HAGG.out (fun W => by rw [HL18.out]; exact HSZ.out W) (blk_cells BX4.out) ?_)
  | (have tk_ := TK3; clear tk_ TK3; go_at_call 12; refine (HPC.out _ HB4.out).mono ?_; rintro e w5 ⟨rfl, hb5⟩; have HB5 := Aside0.mk (below_step HB4.out hb5); have BX5 := Aside0.mk ((hb5.block w.heap.size (Array.getElem?_eq_some_iff.1 BX4.out).1).trans BX4.out); clear hb5 HB4 BX4))
 go_ret
 exact ⟨rfl, HB5.out⟩
theorem hopperlaw25_PlanWidth.e3 (k : Nat) (p : S31) (cs : List Value) (A1 : Option Addr) (c1 : Nat) (l1 : List S46) (n : Int) (w : World) (hK : k31.K w p cs) (hr1 : Kd.C k46 w A1 l1.length l1) (hc1 : l1.length ≤ c1) (haw : hopperlaw25_awake.f k = some true) (hsm : smallP k p 9 = some true) (hnm : hopperref25_Named.f k l1 = some true) (c : Int) (hpc : colsP k p l1 12 = some c) (hc : c ≠ 0) (d : Int) (hdp : deepP k p = some d) (hd : 9 < d) :
  Calls Try.prog 6 #[.agg cs.toArray, .slice A1 l1.length c1, .int .u8 n] w fun e w' => e = .returned (.bool true) ∧ Below w.heap.size w w' := by
 have hagg : ∀ W, (isAgg 31).run Try.prog W = .ok true W := fun W => by first | exact Try.isAgg31 | exact Try.isAgg31 W | go_simp
 have hsz18 : ∀ W, (sizeOf 31).run Try.prog W = .ok 18 W := fun W => by first | exact Try.sizeOf31 | exact Try.sizeOf31 W | go_simp
 have HAGG := Aside0.mk hagg; have HSZ := Aside0.mk hsz18; clear hagg hsz18; have hu31 := Try.underlying31; have HL18 := Aside0.mk (show cs.length = 18 from k31.K_len hK)
 have HAW := Aside0.mk (fun W => hopperlaw25_awake.calls k true W haw)
 have HSM := Aside0.mk (fun W (hb : Below w.heap.size w W) => hopperref25_Small.core k p cs 9 true W (k31.K_below hb hK) hsm)
 have HNM := Aside0.mk (fun W (hb : Below w.heap.size w W) => ((hopperref25_Named.calls k A1 c1 l1 true W (Kd.C_below hr1 hb) hc1 hnm).mono (fun e w' hh => ⟨hh.1, by first | exact hh.2 | exact hh.2.below⟩) : Calls Try.prog 11 #[.slice A1 l1.length c1] W fun e w' => e = .returned (.bool true) ∧ Below W.heap.size W w'))
 have HPC := Aside0.mk (fun W (hb : Below w.heap.size w W) => plan_Cols.core k p cs A1 c1 l1 c 0 W (k31.K_below hb hK) (Kd.C_below hr1 hb) hc1 (by rw [hpc]; show (if c = 0 then _ else _) = _; rw [if_neg hc]))
 have HDP := Aside0.mk (fun W (hb : Below w.heap.size w W) => hopperlaw25_deep.core k p cs d W (k31.K_below hb hK) hdp)
 have TK0 : True := trivial; have TK1 : True := trivial; have TK2 : True := trivial; have TK3 : True := trivial; have TK4 : True := trivial; have hdb : decide (9 < d) = true := decide_eq_true hd; have hdb2 : decide (d > 9) = true := decide_eq_true hd; clear haw hK hr1 hc1 hsm hnm hpc hdp hd; go_enter Try.func6, Try.ntmps6
 go_wp2_with (first
  | ((with_reducible refine gate_dst (N := 3) rfl ?_); refine box_all rfl rfl (cs := cs.toArray) rfl (fun W => by rw [List.size_toArray, HL18.out]; exact HSZ.out W) ?_; intro w1 hbx hbw; have BW1 := Aside0.mk hbw; have BX1 := Aside0.mk hbx; clear hbx hbw)
  | (have tk_ := TK0; clear tk_ TK0; go_at_call 9; refine (HAW.out _).mono ?_; rintro e w2 ⟨rfl, hb2⟩; have HB2 := Aside0.mk (below_step BW1.out hb2); have BX2 := Aside0.mk ((hb2.block w.heap.size (Array.getElem?_eq_some_iff.1 BX1.out).1).trans BX1.out); clear hb2 BW1 BX1)
  | ((with_reducible refine gate_dst (N := 26) rfl ?_); (try (refine gate_guard (by rfl) ?_; dsimp only)); refine load_all rfl rfl (cs := cs) rfl HAGG.out (fun W => by rw [HL18.out]; exact HSZ.out W) (blk_cells BX2.out) ?_)
  | (have tk_ := TK1; clear tk_ TK1; go_at_call 10; refine (HSM.out _ HB2.out).mono ?_; rintro e w3 ⟨rfl, hb3⟩; have HB3 := Aside0.mk (below_step HB2.out hb3); have BX3 := Aside0.mk ((hb3.block w.heap.size (Array.getElem?_eq_some_iff.1 BX2.out).1).trans BX2.out); clear hb3 HB2 BX2)
  | (have tk_ := TK2; clear tk_ TK2; go_at_call 11; refine (HNM.out _ HB3.out).mono ?_; rintro e w4 ⟨rfl, hb4⟩; have HB4 := Aside0.mk (below_step HB3.out hb4); have BX4 := Aside0.mk ((hb4.block w.heap.size (Array.getElem?_eq_some_iff.1 BX3.out).1).trans BX3.out); clear hb4 HB3 BX3)
  | ((with_reducible refine gate_dst (N := 37) rfl ?_); (try (refine gate_guard (by rfl) ?_; dsimp only)); refine load_all rfl rfl (cs := cs) rfl HAGG.out (fun W => by rw [HL18.out]; exact HSZ.out W) (blk_cells BX4.out) ?_)
  | (have tk_ := TK3; clear tk_ TK3; go_at_call 12; refine (HPC.out _ HB4.out).mono ?_; rintro e w5 ⟨rfl, hb5⟩; have HB5 := Aside0.mk (below_step HB4.out hb5); have BX5 := Aside0.mk ((hb5.block w.heap.size (Array.getElem?_eq_some_iff.1 BX4.out).1).trans BX4.out); clear hb5 HB4 BX4)
  | ((with_reducible refine gate_dst (N := 45) rfl ?_); (try (refine gate_guard (by rfl) ?_; dsimp only)); refine load_all rfl rfl (cs := cs) rfl HAGG.out (fun W => by rw [HL18.out]; exact HSZ.out W) (blk_cells BX5.out) ?_)
  | (have tk_ := TK4; clear tk_ TK4; go_at_call 17; refine (HDP.out _ HB5.out).mono ?_; rintro e w6 ⟨rfl, hb6⟩; have HB6 := Aside0.mk (below_step HB5.out hb6); have BX6 := Aside0.mk ((hb6.block w.heap.size (Array.getElem?_eq_some_iff.1 BX5.out).1).trans BX5.out); clear hb6 HB5 BX5))
 go_ret
 exact ⟨rfl, HB6.out⟩
theorem hopperlaw25_PlanWidth.main (k : Nat) (p : S31) (cs : List Value) (A1 : Option Addr) (c1 : Nat) (l1 : List S46) (n : Int) (w : World) (hK : k31.K w p cs) (hr1 : Kd.C k46 w A1 l1.length l1) (hc1 : l1.length ≤ c1) (haw : hopperlaw25_awake.f k = some true) (hsm : smallP k p 9 = some true) (hnm : hopperref25_Named.f k l1 = some true) (c : Int) (hpc : colsP k p l1 12 = some c) (hc : c ≠ 0) (d : Int) (hdp : deepP k p = some d) (hd : ¬ 9 < d) (hn0 : 0 ≤ n) (hn1 : n ≤ 255) (hc0 : 1 ≤ c) (hc8 : c ≤ 8) (hLA : colsP k (limS ⟨#[]⟩ p) l1 12 = some c) (hPR : colsP k (projS (xsL c (kN n).toNat) p) l1 12 = some (kN n)) (hOR : colsP k (ordS (c - 1) p) l1 12 = some c) (hO2 : colsP k (ordS c p) l1 12 = some 0) (hLT : colsP k (limS ⟨#[116]⟩ p) l1 12 = some 0) :
  Calls Try.prog 6 #[.agg cs.toArray, .slice A1 l1.length c1, .int .u8 n] w fun e w' => e = .returned (.bool true) ∧ Below w.heap.size w w' := by
 have hagg : ∀ W, (isAgg 31).run Try.prog W = .ok true W := fun W => by first | exact Try.isAgg31 | exact Try.isAgg31 W | go_simp
 have hsz18 : ∀ W, (sizeOf 31).run Try.prog W = .ok 18 W := fun W => by first | exact Try.sizeOf31 | exact Try.sizeOf31 W | go_simp
 have HAGG := Aside0.mk hagg; have HSZ := Aside0.mk hsz18; clear hagg hsz18; have hu31 := Try.underlying31; have HL18 := Aside0.mk (show cs.length = 18 from k31.K_len hK)
 have HAW := Aside0.mk (fun W => hopperlaw25_awake.calls k true W haw)
 have HSM := Aside0.mk (fun W (hb : Below w.heap.size w W) => hopperref25_Small.core k p cs 9 true W (k31.K_below hb hK) hsm)
 have HNM := Aside0.mk (fun W (hb : Below w.heap.size w W) => ((hopperref25_Named.calls k A1 c1 l1 true W (Kd.C_below hr1 hb) hc1 hnm).mono (fun e w' hh => ⟨hh.1, by first | exact hh.2 | exact hh.2.below⟩) : Calls Try.prog 11 #[.slice A1 l1.length c1] W fun e w' => e = .returned (.bool true) ∧ Below W.heap.size W w'))
 have HPC := Aside0.mk (fun W (hb : Below w.heap.size w W) => plan_Cols.core k p cs A1 c1 l1 c 0 W (k31.K_below hb hK) (Kd.C_below hr1 hb) hc1 (by rw [hpc]; show (if c = 0 then _ else _) = _; rw [if_neg hc]))
 have HDP := Aside0.mk (fun W (hb : Below w.heap.size w W) => hopperlaw25_deep.core k p cs d W (k31.K_below hb hK) hdp)
 have HKP := Aside0.mk (fun W (hb : Below w.heap.size w W) => k31.K_below hb hK)
 have HPW := Aside0.mk (fun (q : S31) (qs : List Value) (r1 r2 : Int) W (hb : Below w.heap.size w W) (hq : k31.K W q qs) (h : (colsP k q l1 12).bind (fun t => if t = 0 then some ((0 : Int), (5 : Int)) else some (t, 0)) = some (r1, r2)) => plan_Cols.core k q qs A1 c1 l1 r1 r2 W hq (Kd.C_below hr1 hb) hc1 h)
 have hk1 : 1 ≤ kN n := by
  unfold kN wrap64
  have := Int.tmod_nonneg 8 hn0
  have := Int.tmod_lt_of_pos n (show (0 : Int) < 8 by decide)
  omega
 have hk8 : kN n ≤ 8 := by
  unfold kN wrap64
  have := Int.tmod_nonneg 8 hn0
  have := Int.tmod_lt_of_pos n (show (0 : Int) < 8 by decide)
  omega
 have H5 := Aside0.mk (show ((colsP k (limS ⟨#[]⟩ p) l1 12).bind (fun t => if t = 0 then some ((0 : Int), (5 : Int)) else some (t, 0)) = some (c, 0)) ∧ ((colsP k (projS (xsL c (kN n).toNat) p) l1 12).bind (fun t => if t = 0 then some ((0 : Int), (5 : Int)) else some (t, 0)) = some (kN n, 0)) ∧ ((colsP k (ordS (c - 1) p) l1 12).bind (fun t => if t = 0 then some ((0 : Int), (5 : Int)) else some (t, 0)) = some (c, 0)) ∧ ((colsP k (ordS c p) l1 12).bind (fun t => if t = 0 then some ((0 : Int), (5 : Int)) else some (t, 0)) = some (0, 5)) ∧ ((colsP k (limS ⟨#[116]⟩ p) l1 12).bind (fun t => if t = 0 then some ((0 : Int), (5 : Int)) else some (t, 0)) = some (0, 5)) from ⟨(by rw [hLA]; show (if c = 0 then _ else _) = _; rw [if_neg (by omega)]), (by rw [hPR]; show (if kN n = 0 then _ else _) = _; rw [if_neg (by omega)]), (by rw [hOR]; show (if c = 0 then _ else _) = _; rw [if_neg (by omega)]), (by rw [hO2]; rfl), (by rw [hLT]; rfl)⟩)
 have TK0 : True := trivial; have TK1 : True := trivial; have TK2 : True := trivial; have TK3 : True := trivial; have TK4 : True := trivial; have TA : True := trivial; have TB : True := trivial; have TC : True := trivial; have TD : True := trivial; have TE : True := trivial; have hdb : decide (9 < d) = false := decide_eq_false hd; have hdb2 : decide (d > 9) = false := decide_eq_false hd; obtain ⟨m, hm⟩ : ∃ m : Nat, kN n = (m : Int) := ⟨(kN n).toNat, by omega⟩
 rw [hm] at H5
 rw [show ((m : Int)).toNat = m by omega] at H5
 rw [hm] at hk1 hk8
 have HM := Aside0.mk (show kN n = (m : Int) from hm)
 clear haw hK hr1 hc1 hd hLA hPR hOR hO2 hLT hn0 hn1 hsm hnm hpc hdp; have hcb : (c == 0) = false := beq_eq_false_iff_ne.mpr hc; have HC0 := Aside0.mk hc; clear hc; go_enter Try.func6, Try.ntmps6
 go_wp2_with (first
  | ((with_reducible refine gate_dst (N := 3) rfl ?_); refine box_all rfl rfl (cs := cs.toArray) rfl (fun W => by rw [List.size_toArray, HL18.out]; exact HSZ.out W) ?_; intro w1 hbx hbw; have BW1 := Aside0.mk hbw; have BX1 := Aside0.mk hbx; clear hbx hbw)
  | (have tk_ := TK0; clear tk_ TK0; go_at_call 9; refine (HAW.out _).mono ?_; rintro e w2 ⟨rfl, hb2⟩; have HB2 := Aside0.mk (below_step BW1.out hb2); have BX2 := Aside0.mk ((hb2.block w.heap.size (Array.getElem?_eq_some_iff.1 BX1.out).1).trans BX1.out); clear hb2 BW1 BX1)
  | ((with_reducible refine gate_dst (N := 26) rfl ?_); (try (refine gate_guard (by rfl) ?_; dsimp only)); refine load_all rfl rfl (cs := cs) rfl HAGG.out (fun W => by rw [HL18.out]; exact HSZ.out W) (blk_cells BX2.out) ?_)
  | (have tk_ := TK1; clear tk_ TK1; go_at_call 10; refine (HSM.out _ HB2.out).mono ?_; rintro e w3 ⟨rfl, hb3⟩; have HB3 := Aside0.mk (below_step HB2.out hb3); have BX3 := Aside0.mk ((hb3.block w.heap.size (Array.getElem?_eq_some_iff.1 BX2.out).1).trans BX2.out); clear hb3 HB2 BX2)
  | (have tk_ := TK2; clear tk_ TK2; go_at_call 11; refine (HNM.out _ HB3.out).mono ?_; rintro e w4 ⟨rfl, hb4⟩; have HB4 := Aside0.mk (below_step HB3.out hb4); have BX4 := Aside0.mk ((hb4.block w.heap.size (Array.getElem?_eq_some_iff.1 BX3.out).1).trans BX3.out); clear hb4 HB3 BX3)
  | ((with_reducible refine gate_dst (N := 37) rfl ?_); (try (refine gate_guard (by rfl) ?_; dsimp only)); refine load_all rfl rfl (cs := cs) rfl HAGG.out (fun W => by rw [HL18.out]; exact HSZ.out W) (blk_cells BX4.out) ?_)
  | (have tk_ := TK3; clear tk_ TK3; go_at_call 12; refine (HPC.out _ HB4.out).mono ?_; rintro e w5 ⟨rfl, hb5⟩; have HB5 := Aside0.mk (below_step HB4.out hb5); have BX5 := Aside0.mk ((hb5.block w.heap.size (Array.getElem?_eq_some_iff.1 BX4.out).1).trans BX4.out); clear hb5 HB4 BX4)
  | ((with_reducible refine gate_dst (N := 45) rfl ?_); (try (refine gate_guard (by rfl) ?_; dsimp only)); refine load_all rfl rfl (cs := cs) rfl HAGG.out (fun W => by rw [HL18.out]; exact HSZ.out W) (blk_cells BX5.out) ?_)
  | (have tk_ := TK4; clear tk_ TK4; go_at_call 17; refine (HDP.out _ HB5.out).mono ?_; rintro e w6 ⟨rfl, hb6⟩; have HB6 := Aside0.mk (below_step HB5.out hb6); have BX6 := Aside0.mk ((hb6.block w.heap.size (Array.getElem?_eq_some_iff.1 BX5.out).1).trans BX5.out); clear hb6 HB5 BX5)
  | ((with_reducible refine gate_dst (N := 49) rfl ?_); (try (refine gate_guard (by rfl) ?_; dsimp only)); refine load_all rfl rfl (cs := cs) rfl HAGG.out (fun W => by rw [HL18.out]; exact HSZ.out W) (blk_cells BX6.out) ?_)
  | ((with_reducible refine gate_dst (N := 50) rfl ?_); refine lit_event 31 50 rfl rfl [p] cs (run_lit31 rfl rfl HL18.out) ?_; intro gkid w7 hge hC hb; have BK := Aside0.mk hC; have HB := Aside0.mk (below_step HB6.out hb); have BXr := Aside0.mk (blk_keep hb BX6.out); clear hge hC hb HB6 BX6))
 go_loopg [10, 12] m (fun gg s10 s12 wr => ∃ (i : Nat) (v : Value), v = s10 ∧ s12 = .int .i64 i ∧ i ≤ m ∧ m - i ≤ gg ∧ Aside0 (Kd.R k50 50 wr w.heap.size (fun _ => True) v (xsL c i)) ∧ Aside0 (Below w.heap.size w wr) ∧ Aside0 (wr.heap[w.heap.size]? = some (.cells cs.toArray 31 (0, 0))) ∧ Aside0 (wr.heap[gkid]? = some (.cells cs.toArray 31 (0, 0))))
 case atStart => exact ⟨0, _, rfl, rfl, Nat.zero_le _, by omega, ⟨Kd.R_nil _ _ _ _ _⟩, HB, BXr, BK⟩
 case round =>
  clear HB BXr BK; obtain ⟨i, v, rfl, rfl, him, hg0, HO, HB, BXr, BK⟩ := hrel; by_cases hlt : i < m
  ·have hltz : (i : Int) < (m : Int) := by omega
   have hltb : decide ((i : Int) < (m : Int)) = true := decide_eq_true hltz; have hltk : decide ((i : Int) < wrap64 (1 + wrap64 (Int.tmod n 8))) = true := decide_eq_true (by rw [show wrap64 (1 + wrap64 (Int.tmod n 8)) = (m : Int) from HM.out]; exact hltz)
   have HLEN := Aside0.mk (xsL_len c i)
   go_wp2_with (first | ((with_reducible refine gate_builtin (b := .append) (xs := #[.tmp 60, .tmp 65]) rfl ?_); (try (refine gate_guard (by rfl) ?_; dsimp only)); at_builtin; refine Kd.R_append k50 (w0 := w) w.heap.size rfl (.tmp 60) (.tmp 65) 25 50 (.agg #[.int .i64 0, .int .i64 0, .string ⟨#[]⟩, .int .i64 0, .int .i64 0, .slice none 0 0]) 72 rfl Try.underlying25 infoS50 rfl (by decide) (by omega) v (xsL c i) (⟨1, (i : Int) % c, ⟨#[]⟩, 0, 0, []⟩ : S50) [.int .i64 1, .int .i64 ((i : Int) % c), .string (⟨#[]⟩ : ByteArray), .int .i64 0, .int .i64 0, .slice none 0 0] (fun _ => True) (fun _ => False) rfl rfl ?aP (fun _ hk => hk.elim) ?aF ?aO ?aB ?aS ?aL ?_; (case aP => exact k50_mkM _ _ _ (⟨1, (i : Int) % c, ⟨#[]⟩, 0, 0, []⟩ : S50) (Kd.R_nil _ _ _ _ _)); (case aB => exact (by repeat (first | (with_reducible first | exact HB.out | apply below_alloc) | exact HB.out))); (case aF => exact (fun _ _ => trivial)); (case aO => exact (by (with_reducible repeat (first | apply Kd.R_alloc)); exact HO.out)); (case aS => exact (below_size (by repeat (first | (with_reducible first | exact HB.out | apply below_alloc) | exact HB.out)))); (case aL => have := HLEN.out; omega); intro v293 w53 ho hb hg hat; have n1_ := Aside0.mk (blk_grown (g := w.heap.size) (o := .cells cs.toArray 31 (0, 0)) (by (with_reducible repeat (first | refine blk_alloc ?_ _)); exact BXr.out) hg (Kd.R_ne HO.out BXr.out (by decide))); have n4_ := Aside0.mk (blk_grown (g := gkid) (o := .cells cs.toArray 31 (0, 0)) (by (with_reducible repeat (first | refine blk_alloc ?_ _)); exact BK.out) hg (Kd.R_ne HO.out BK.out (by decide))); have n2_ := Aside0.mk (hb); have n3_ := Aside0.mk (ho); clear BXr HB HO BK; have BXr := n1_; have HB := n2_; have HO := n3_; have BK := n4_; clear n1_ n2_ n3_ n4_; clear ho hb hg hat))
   go_roundg (m - (i + 1))
   case measure => omega
   case rel => exact ⟨i + 1, _, rfl, by first | go_num | (congr 1; unfold wrap64; omega), by omega, by omega, ⟨by rw [xsL_step]; exact HO.out⟩, HB, BXr, BK⟩
  ·have hltz : ¬ (i : Int) < (m : Int) := by omega
   have hltb : decide ((i : Int) < (m : Int)) = false := decide_eq_false hltz; have hltk : decide ((i : Int) < wrap64 (1 + wrap64 (Int.tmod n 8))) = false := decide_eq_false (by rw [show wrap64 (1 + wrap64 (Int.tmod n 8)) = (m : Int) from HM.out]; exact hltz)
   obtain rfl : i = m := by omega
   obtain ⟨Ax, cx, ex⟩ := Kd.R_slice HO.out
   subst ex; have HXr := Aside0.mk (Kd.R_reads' HO.out).2.2
   have HXl := Aside0.mk (Kd.R_reads' HO.out).2.1
   clear HO him hltz
   go_wp2_with (first
    | (have tk_ := TA; clear tk_ TA; go_at_call 12; with_reducible refine (HPW.out (limS ⟨#[]⟩ p) [.int .i64 7, .string (⟨#[]⟩ : ByteArray), .int .i64 0, .int .i64 0, .string (⟨#[]⟩ : ByteArray), .int .i64 0, .int .i64 0, .slice none 0 0, .slice none 0 0, .slice none 0 0, .slice none 0 0, .int .i64 0, .slice none 0 0, .slice none 0 0, .slice none 0 0, .int .i64 0, .int .i64 3, .slice (some ⟨gkid, 0, none⟩) 1 1] c 0 _ HB.out (K_lim ⟨#[]⟩ BK.out (HKP.out _ HB.out)) H5.out.1).mono ?_; rintro e wCTA ⟨rfl, hb⟩; have m_ := Aside0.mk (blk_keep hb BXr.out); clear BXr; have BXr := m_; clear m_; have m_ := Aside0.mk (blk_keep hb BK.out); clear BK; have BK := m_; clear m_; have m_ := Aside0.mk (below_step HB.out hb); clear HB; have HB := m_; clear m_; have m_ := Aside0.mk (Kd.C_below HXr.out hb); clear HXr; have HXr := m_; clear m_; clear hb)
    | (have tk_ := TB; clear tk_ TB; go_at_call 12; with_reducible refine (HPW.out (projS (xsL c i) p) [.int .i64 3, .string (⟨#[]⟩ : ByteArray), .int .i64 0, .int .i64 0, .string (⟨#[]⟩ : ByteArray), .int .i64 0, .int .i64 0, .slice none 0 0, .slice Ax (xsL c i).length cx, .slice none 0 0, .slice none 0 0, .int .i64 0, .slice none 0 0, .slice none 0 0, .slice none 0 0, .int .i64 0, .int .i64 0, .slice (some ⟨gkid, 0, none⟩) 1 1] (i : Int) 0 _ HB.out (K_prj (xsL c i) Ax cx HXr.out HXl.out BK.out (HKP.out _ HB.out)) H5.out.2.1).mono ?_; rintro e wCTB ⟨rfl, hb⟩; have m_ := Aside0.mk (blk_keep hb BXr.out); clear BXr; have BXr := m_; clear m_; have m_ := Aside0.mk (blk_keep hb BK.out); clear BK; have BK := m_; clear m_; have m_ := Aside0.mk (below_step HB.out hb); clear HB; have HB := m_; clear m_; have m_ := Aside0.mk (Kd.C_below HXr.out hb); clear HXr; have HXr := m_; clear m_; clear hb)
    | ((with_reducible refine gate_dst (N := 86) rfl ?_); refine lit_event 52 86 rfl rfl [(⟨(c - 1), 0, false⟩ : S52)] [.int .i64 (c - 1), .int .i64 0, .bool false] ?hr ?_; (case hr => first | (go_simp; done) | (go_simp; rfl)); intro go1 wL86 hge hC hb; have Hgo1 := Aside0.mk hC; have m_ := Aside0.mk (blk_keep hb BXr.out); clear BXr; have BXr := m_; clear m_; have m_ := Aside0.mk (blk_keep hb BK.out); clear BK; have BK := m_; clear m_; have m_ := Aside0.mk (below_step HB.out hb); clear HB; have HB := m_; clear m_; have m_ := Aside0.mk (Kd.C_below HXr.out hb); clear HXr; have HXr := m_; clear m_; clear hge hC hb)
    | (have tk_ := TC; clear tk_ TC; go_at_call 12; with_reducible refine (HPW.out (ordS (c - 1) p) [.int .i64 6, .string (⟨#[]⟩ : ByteArray), .int .i64 0, .int .i64 0, .string (⟨#[]⟩ : ByteArray), .int .i64 0, .int .i64 0, .slice none 0 0, .slice none 0 0, .slice none 0 0, .slice none 0 0, .int .i64 0, .slice none 0 0, .slice none 0 0, .slice (some ⟨go1, 0, none⟩) 1 1, .int .i64 0, .int .i64 0, .slice (some ⟨gkid, 0, none⟩) 1 1] c 0 _ HB.out (K_ord _ go1 Hgo1.out BK.out (HKP.out _ HB.out)) H5.out.2.2.1).mono ?_; rintro e wCTC ⟨rfl, hb⟩; have m_ := Aside0.mk (blk_keep hb BXr.out); clear BXr; have BXr := m_; clear m_; have m_ := Aside0.mk (blk_keep hb BK.out); clear BK; have BK := m_; clear m_; have m_ := Aside0.mk (below_step HB.out hb); clear HB; have HB := m_; clear m_; have m_ := Aside0.mk (Kd.C_below HXr.out hb); clear HXr; have HXr := m_; clear m_; clear hb)
    | ((with_reducible refine gate_dst (N := 96) rfl ?_); refine lit_event 52 96 rfl rfl [(⟨c, 0, false⟩ : S52)] [.int .i64 c, .int .i64 0, .bool false] ?hr ?_; (case hr => first | (go_simp; done) | (go_simp; rfl)); intro go2 wL96 hge hC hb; have Hgo2 := Aside0.mk hC; have m_ := Aside0.mk (blk_keep hb BXr.out); clear BXr; have BXr := m_; clear m_; have m_ := Aside0.mk (blk_keep hb BK.out); clear BK; have BK := m_; clear m_; have m_ := Aside0.mk (below_step HB.out hb); clear HB; have HB := m_; clear m_; have m_ := Aside0.mk (Kd.C_below HXr.out hb); clear HXr; have HXr := m_; clear m_; clear hge hC hb)
    | (have tk_ := TD; clear tk_ TD; go_at_call 12; with_reducible refine (HPW.out (ordS c p) [.int .i64 6, .string (⟨#[]⟩ : ByteArray), .int .i64 0, .int .i64 0, .string (⟨#[]⟩ : ByteArray), .int .i64 0, .int .i64 0, .slice none 0 0, .slice none 0 0, .slice none 0 0, .slice none 0 0, .int .i64 0, .slice none 0 0, .slice none 0 0, .slice (some ⟨go2, 0, none⟩) 1 1, .int .i64 0, .int .i64 0, .slice (some ⟨gkid, 0, none⟩) 1 1] 0 5 _ HB.out (K_ord _ go2 Hgo2.out BK.out (HKP.out _ HB.out)) H5.out.2.2.2.1).mono ?_; rintro e wCTD ⟨rfl, hb⟩; have m_ := Aside0.mk (blk_keep hb BXr.out); clear BXr; have BXr := m_; clear m_; have m_ := Aside0.mk (blk_keep hb BK.out); clear BK; have BK := m_; clear m_; have m_ := Aside0.mk (below_step HB.out hb); clear HB; have HB := m_; clear m_; have m_ := Aside0.mk (Kd.C_below HXr.out hb); clear HXr; have HXr := m_; clear m_; clear hb)
    | (have tk_ := TE; clear tk_ TE; go_at_call 12; with_reducible refine (HPW.out (limS ⟨#[116]⟩ p) [.int .i64 7, .string (⟨#[116]⟩ : ByteArray), .int .i64 0, .int .i64 0, .string (⟨#[]⟩ : ByteArray), .int .i64 0, .int .i64 0, .slice none 0 0, .slice none 0 0, .slice none 0 0, .slice none 0 0, .int .i64 0, .slice none 0 0, .slice none 0 0, .slice none 0 0, .int .i64 0, .int .i64 3, .slice (some ⟨gkid, 0, none⟩) 1 1] 0 5 _ HB.out (K_lim ⟨#[116]⟩ BK.out (HKP.out _ HB.out)) H5.out.2.2.2.2).mono ?_; rintro e wCTE ⟨rfl, hb⟩; have m_ := Aside0.mk (blk_keep hb BXr.out); clear BXr; have BXr := m_; clear m_; have m_ := Aside0.mk (blk_keep hb BK.out); clear BK; have BK := m_; clear m_; have m_ := Aside0.mk (below_step HB.out hb); clear HB; have HB := m_; clear m_; have m_ := Aside0.mk (Kd.C_below HXr.out hb); clear HXr; have HXr := m_; clear m_; clear hb))
   all_goals go_ret
   all_goals first | exact ⟨rfl, HB.out⟩ | (exfalso; have hx := HM.out; unfold kN at hx; simp_all)
theorem hopperlaw25_PlanWidth.core (k : Nat) (p : S31) (cs : List Value) (A1 : Option Addr) (c1 : Nat) (l1 : List S46) (n : Int) (r : Bool) (w : World) (hK : k31.K w p cs) (hr1 : Kd.C k46 w A1 l1.length l1) (hc1 : l1.length ≤ c1) (h : lawWidthP k p l1 n = some r) :
  Calls Try.prog 6 #[.agg cs.toArray, .slice A1 l1.length c1, .int .u8 n] w fun e w' => e = .returned (.bool r) ∧ Below w.heap.size w w' := by
 unfold lawWidthP at h
 obtain ⟨t, haw, h⟩ := Option.bind_eq_some_iff.1 h
 cases t with
 | false => rw [if_neg (by decide)] at h; cases h
 | true =>
 rw [if_pos rfl] at h; obtain ⟨b, hsm, h⟩ := Option.bind_eq_some_iff.1 h
 cases b with
 | false => rw [if_neg (by decide)] at h; obtain rfl := Option.some.inj h; exact hopperlaw25_PlanWidth.e0 k p cs A1 c1 l1 n w hK hr1 hc1 haw hsm
 | true =>
 rw [if_pos rfl] at h; obtain ⟨b, hnm, h⟩ := Option.bind_eq_some_iff.1 h
 cases b with
 | false => rw [if_neg (by decide)] at h; obtain rfl := Option.some.inj h; exact hopperlaw25_PlanWidth.e1 k p cs A1 c1 l1 n w hK hr1 hc1 haw hsm hnm
 | true =>
 rw [if_pos rfl] at h; obtain ⟨c, hpc, h⟩ := Option.bind_eq_some_iff.1 h
 by_cases hc : c = 0
 ·rw [if_pos hc] at h; obtain rfl := Option.some.inj h; subst hc; exact hopperlaw25_PlanWidth.e2 k p cs A1 c1 l1 n w hK hr1 hc1 haw hsm hnm hpc
 rw [if_neg hc] at h; obtain ⟨d, hdp, h⟩ := Option.bind_eq_some_iff.1 h
 by_cases hd : 9 < d
 ·rw [if_pos hd] at h; obtain rfl := Option.some.inj h; exact hopperlaw25_PlanWidth.e3 k p cs A1 c1 l1 n w hK hr1 hc1 haw hsm hnm c hpc hc d hdp hd
 rw [if_neg hd] at h; by_cases hq : 0 ≤ n ∧ n ≤ 255 ∧ 1 ≤ c ∧ c ≤ 8
 case neg => rw [if_neg hq] at h; cases h
 rw [if_pos hq] at h; obtain ⟨a, hLA, h⟩ := Option.bind_eq_some_iff.1 h
 obtain ⟨b, hPR, h⟩ := Option.bind_eq_some_iff.1 h
 obtain ⟨o, hOR, h⟩ := Option.bind_eq_some_iff.1 h
 obtain ⟨i, hO2, h⟩ := Option.bind_eq_some_iff.1 h
 obtain ⟨j, hLT, h⟩ := Option.bind_eq_some_iff.1 h
 by_cases hz : a = c ∧ b = kN n ∧ o = c ∧ i = 0 ∧ j = 0
 case neg => rw [if_neg hz] at h; cases h
 rw [if_pos hz] at h; obtain rfl := Option.some.inj h
 obtain ⟨e1, e2, e3, e4, e5⟩ := hz; exact hopperlaw25_PlanWidth.main k p cs A1 c1 l1 n w hK hr1 hc1 haw hsm hnm c hpc hc d hdp hd hq.1 hq.2.1 hq.2.2.1 hq.2.2.2 (e1 ▸ hLA) (e2 ▸ hPR) (e3 ▸ hOR) (e4 ▸ hO2) (e5 ▸ hLT)
theorem hopperlaw25_PlanWidth.calls (k : Nat) (a0_0 : Int) (a0_1 : ByteArray) (a0_2 : Int) (a0_3 : Int) (a0_4 : ByteArray) (a0_5 : Int) (a0_6 : Int) (A0_7 : Option Addr) (c0_7 : Nat) (l0_7 : List (S24)) (A0_8 : Option Addr) (c0_8 : Nat) (l0_8 : List (S50)) (A0_9 : Option Addr) (c0_9 : Nat) (l0_9 : List Int) (A0_10 : Option Addr) (c0_10 : Nat) (l0_10 : List (S72)) (a0_11 : Int) (A0_12 : Option Addr) (c0_12 : Nat) (l0_12 : List Int) (A0_13 : Option Addr) (c0_13 : Nat) (l0_13 : List Int) (A0_14 : Option Addr) (c0_14 : Nat) (l0_14 : List (S52)) (a0_15 : Int) (a0_16 : Int) (A0_17 : Option Addr) (c0_17 : Nat) (l0_17 : List (S31)) (A1 : Option Addr) (c1 : Nat) (l1 : List (S46)) (a2 : Int) (r : Bool) (w : World) (hr0_7 : Kd.C k24 w A0_7 l0_7.length l0_7) (hc0_7 : l0_7.length ≤ c0_7) (hr0_8 : Kd.C k50 w A0_8 l0_8.length l0_8) (hc0_8 : l0_8.length ≤ c0_8) (hr0_9 : Kd.C (Kd.int .i64) w A0_9 l0_9.length l0_9) (hc0_9 : l0_9.length ≤ c0_9) (hr0_10 : Kd.C k72 w A0_10 l0_10.length l0_10) (hc0_10 : l0_10.length ≤ c0_10) (hr0_12 : Kd.C (Kd.int .i64) w A0_12 l0_12.length l0_12) (hc0_12 : l0_12.length ≤ c0_12) (hr0_13 : Kd.C (Kd.int .i64) w A0_13 l0_13.length l0_13) (hc0_13 : l0_13.length ≤ c0_13) (hr0_14 : Kd.C k52 w A0_14 l0_14.length l0_14) (hc0_14 : l0_14.length ≤ c0_14) (hr0_17 : Kd.C k31 w A0_17 l0_17.length l0_17) (hc0_17 : l0_17.length ≤ c0_17) (hr1 : Kd.C k46 w A1 l1.length l1) (hc1 : l1.length ≤ c1) (h : hopperlaw25_PlanWidth.f k a0_0 a0_1 a0_2 a0_3 a0_4 a0_5 a0_6 l0_7 l0_8 l0_9 l0_10 a0_11 l0_12 l0_13 l0_14 a0_15 a0_16 l0_17 l1 a2 = some r) :
  Calls Try.prog 6 #[.agg #[.int .i64 a0_0, .string a0_1, .int .i64 a0_2, .int .i64 a0_3, .string a0_4, .int .i64 a0_5, .int .i64 a0_6, .slice A0_7 l0_7.length c0_7, .slice A0_8 l0_8.length c0_8, .slice A0_9 l0_9.length c0_9, .slice A0_10 l0_10.length c0_10, .int .i64 a0_11, .slice A0_12 l0_12.length c0_12, .slice A0_13 l0_13.length c0_13, .slice A0_14 l0_14.length c0_14, .int .i64 a0_15, .int .i64 a0_16, .slice A0_17 l0_17.length c0_17], .slice A1 l1.length c1, .int .u8 a2] w fun e w' => e = .returned (.bool r) ∧ Below w.heap.size w w' :=
 hopperlaw25_PlanWidth.core k ⟨a0_0, a0_1, ⟨a0_2, a0_3, a0_4, a0_5, a0_6, l0_7⟩, l0_8, l0_9, l0_10, a0_11, l0_12, l0_13, l0_14, a0_15, a0_16, l0_17⟩ _ A1 c1 l1 a2 r w (k31_mk w ⟨a0_0, a0_1, ⟨a0_2, a0_3, a0_4, a0_5, a0_6, l0_7⟩, l0_8, l0_9, l0_10, a0_11, l0_12, l0_13, l0_14, a0_15, a0_16, l0_17⟩ hc0_7 hr0_7 hc0_8 hr0_8 hc0_9 hr0_9 hc0_10 hr0_10 hc0_12 hr0_12 hc0_13 hr0_13 hc0_14 hr0_14 hc0_17 hr0_17) hr1 hc1 h

/-- THE ONE PURE STATEMENT of hopperlaw25_PlanWidth: yours. -/
def hopperlaw25_PlanWidth.Pure : Prop := ∀ (a0_0 : Int) (a0_1 : ByteArray) (a0_2 : Int) (a0_3 : Int) (a0_4 : ByteArray) (a0_5 : Int) (a0_6 : Int) (l0_7 : List (S24)) (l0_8 : List (S50)) (l0_9 : List Int) (l0_10 : List (S72)) (a0_11 : Int) (l0_12 : List Int) (l0_13 : List Int) (l0_14 : List (S52)) (a0_15 : Int) (a0_16 : Int) (l0_17 : List (S31)) (l1 : List (S46)) (a2 : Int), (fun x_ : Int => (Lit.int .i64 x_).wf = true) a0_0 → (fun x_ : ByteArray => x_.size ≤ maxLen) a0_1 → (fun x_ : Int => (Lit.int .i64 x_).wf = true) a0_2 → (fun x_ : Int => (Lit.int .i64 x_).wf = true) a0_3 → (fun x_ : ByteArray => x_.size ≤ maxLen) a0_4 → (fun x_ : Int => (Lit.int .i64 x_).wf = true) a0_5 → (fun x_ : Int => (Lit.int .i64 x_).wf = true) a0_6 → (WfSl Wf24) l0_7 → (WfSl Wf50) l0_8 → (WfSl (fun x_ : Int => (Lit.int .i64 x_).wf = true)) l0_9 → (WfSl Wf72) l0_10 → (fun x_ : Int => (Lit.int .i64 x_).wf = true) a0_11 → (WfSl (fun x_ : Int => (Lit.int .i64 x_).wf = true)) l0_12 → (WfSl (fun x_ : Int => (Lit.int .i64 x_).wf = true)) l0_13 → (WfSl Wf52) l0_14 → (fun x_ : Int => (Lit.int .i64 x_).wf = true) a0_15 → (fun x_ : Int => (Lit.int .i64 x_).wf = true) a0_16 → (WfSl Wf31) l0_17 → (WfSl Wf46) l1 → (fun x_ : Int => (Lit.int .u8 x_).wf = true) a2 → ∃ k, hopperlaw25_PlanWidth.f k a0_0 a0_1 a0_2 a0_3 a0_4 a0_5 a0_6 l0_7 l0_8 l0_9 l0_10 a0_11 l0_12 l0_13 l0_14 a0_15 a0_16 l0_17 l1 a2 = some true

end Go.Proofs.Ytomccmodlkdcbaa.Q
