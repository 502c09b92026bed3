-- PRINTED by print.py (a twelfth state) out of the translation. Not trusted: Lean checks it.
import Derived.Test.YtomccmodlkdcbaaQx0
namespace Go.Proofs.Ytomccmodlkdcbaa.Q
open Go.RowKit Go.Proofs.YtomccmodlkdcbaaW.PrintWords Go.Proofs.YtomccmodlkdcbaaW.PrintLast Go.Proofs.YtomccmodlkdcbaaW.PrintMore
attribute [local go_sem] str_gtr str_geq str_leq max2_int min2_int max_two min_two max_three min_three max_four min_four
set_option linter.unusedVariables false
set_option maxHeartbeats 8000000
set_option maxRecDepth 1000000
set_option linter.unusedSimpArgs false

/-! ### plan_has: function 40 -/
-- told by hand
theorem reps_bools (w : World) (base : Nat) (ok : Nat → Prop) (ps : List Bool) : Reps (Kd.bool.M w base ok) 1 ps (ps.map Value.bool) := ⟨by simp, fun j p hj => by
 have e : ((ps.map Value.bool).drop (j * 1)).take 1 = [Value.bool p] := by
  obtain ⟨h1, h2⟩ := List.getElem?_eq_some_iff.1 hj
  rw [Nat.mul_one, List.drop_eq_getElem_cons (by simpa using h1)]
  simp [h2]
 rw [e]
 rfl⟩
theorem own_bools {w w' : World} {v : Value} {W : World} {cells : Array Value} {g n : Nat} (ps : List Bool) (he : w' = W.alloc (.cells cells 4)) (hv : v = .slice (some ⟨g, 0, none⟩) n n) (hg : g = W.heap.size) (hn : n = ps.length) (hW : w.heap.size ≤ W.heap.size) (hps : ps.length ≤ 9223372036854775807) (hc : cells = (ps.map Value.bool).toArray) : Kd.R Kd.bool 4 w' w.heap.size (fun _ => True) v ps := by
 subst he hv hg hn hc
 exact ⟨fun _ _ => trivial, OwnRow.lit W w.heap.size (reps_bools _ _ _ ps) hW hps⟩
/-- Has a plan a predicate. -/
def predNZ (q : S24) : Bool := q.f0 != 0 || (q.f1 != 0 || (!q.f2.toList.isEmpty || (q.f3 != 0 || (q.f4 != 0 || decide (0 < q.f5.length)))))
def joinNZ (p : S31) : Bool := p.f6 != 0 || decide (0 < wrap64 ((p.f7.length : Int) + (p.f8.length : Int)))
def limNZ (p : S31) : Bool := p.f10 != 0 || p.f11 != 0
/-- Which parts a plan has. -/
def hasL (p : S31) : List Bool := [false, !p.f1.toList.isEmpty, predNZ p.f2, decide (0 < p.f3.length), decide (0 < wrap64 ((p.f4.length : Int) + (p.f5.length : Int))), joinNZ p, decide (0 < p.f9.length), limNZ p]
def plan_has.f (a0_0 : Int) (a0_1 : ByteArray) (a0_2 : Int) (a0_3 : Int) (a0_4 : ByteArray) (a0_5 : Int) (a0_6 : Int) (l0_7 : List S24) (l0_8 : List S50) (l0_9 : List Int) (l0_10 : List S72) (a0_11 : Int) (l0_12 : List Int) (l0_13 : List Int) (l0_14 : List S52) (a0_15 : Int) (a0_16 : Int) (l0_17 : List S31) : Option (List Bool) := some (hasL ⟨a0_0, a0_1, ⟨a0_2, a0_3, a0_4, a0_5, a0_6, l0_7⟩, l0_8, l0_9, l0_10, a0_11, l0_12, l0_13, l0_14, a0_15, a0_16, l0_17⟩)
theorem plan_has.core (p : S31) (cs : List Value) (w : World) (hK : k31.K w p cs) :
  Calls Try.prog 40 #[.agg cs.toArray] w fun e w' => ∃ v0_ : Value, e = .returned (v0_) ∧ Kd.R Kd.bool 4 w' w.heap.size (fun _ => True) v0_ (hasL p) ∧ Below w.heap.size w w' := by
 have hagg : ∀ W, (isAgg 31).run Try.prog W = .ok true W := fun W => by first | exact Try.isAgg31 | exact Try.isAgg31 W | go_simp
 have hsz18 : ∀ W, (sizeOf 31).run Try.prog W = .ok 18 W := fun W => by first | exact Try.sizeOf31 | exact Try.sizeOf31 W | go_simp
 have HAGG := Aside0.mk hagg; have HSZ := Aside0.mk hsz18; clear hagg hsz18; have hu31 := Try.underlying31; have hu24 := Try.underlying24; have HL18 := Aside0.mk (show cs.length = 18 from k31.K_len hK)
 obtain ⟨A7, c7, A8, c8, A9, c9, A10, c10, A12, c12, A13, c13, A14, c14, A17, c17, e_, l7, g7, l8, g8, l9, g9, l10, g10, l12, g12, l13, g13, l14, g14, l17, g17⟩ := k31_open hK
 have H0 := Aside0.mk (show cs[0]? = some (.int .i64 p.f0) from by rw [e_]; rfl)
 have H1 := Aside0.mk (show cs[1]? = some (.string p.f1) from by rw [e_]; rfl)
 have H2 := Aside0.mk (show cs[2]? = some (.int .i64 p.f2.f0) from by rw [e_]; rfl)
 have H3 := Aside0.mk (show cs[3]? = some (.int .i64 p.f2.f1) from by rw [e_]; rfl)
 have H4 := Aside0.mk (show cs[4]? = some (.string p.f2.f2) from by rw [e_]; rfl)
 have H5 := Aside0.mk (show cs[5]? = some (.int .i64 p.f2.f3) from by rw [e_]; rfl)
 have H6 := Aside0.mk (show cs[6]? = some (.int .i64 p.f2.f4) from by rw [e_]; rfl)
 have H7 := Aside0.mk (show cs[7]? = some (.slice A7 p.f2.f5.length c7) from by rw [e_]; rfl)
 have H8 := Aside0.mk (show cs[8]? = some (.slice A8 p.f3.length c8) from by rw [e_]; rfl)
 have H9 := Aside0.mk (show cs[9]? = some (.slice A9 p.f4.length c9) from by rw [e_]; rfl)
 have H10 := Aside0.mk (show cs[10]? = some (.slice A10 p.f5.length c10) from by rw [e_]; rfl)
 have H11 := Aside0.mk (show cs[11]? = some (.int .i64 p.f6) from by rw [e_]; rfl)
 have H12 := Aside0.mk (show cs[12]? = some (.slice A12 p.f7.length c12) from by rw [e_]; rfl)
 have H13 := Aside0.mk (show cs[13]? = some (.slice A13 p.f8.length c13) from by rw [e_]; rfl)
 have H14 := Aside0.mk (show cs[14]? = some (.slice A14 p.f9.length c14) from by rw [e_]; rfl)
 have H15 := Aside0.mk (show cs[15]? = some (.int .i64 p.f10) from by rw [e_]; rfl)
 have H16 := Aside0.mk (show cs[16]? = some (.int .i64 p.f11) from by rw [e_]; rfl)
 have H17 := Aside0.mk (show cs[17]? = some (.slice A17 p.f12.length c17) from by rw [e_]; rfl)
 clear hK e_ l7 g7 l8 g8 l9 g9 l10 g10 l12 g12 l13 g13 l14 g14 l17 g17; go_enter Try.func40, Try.ntmps40
 go_upto_region 1 with (first
  | ((with_reducible refine gate_dst (N := 1) rfl ?_); refine box_all rfl rfl (cs := cs.toArray) rfl (fun W => by rw [List.size_toArray, HL18.out]; exact HSZ.out W) ?_; intro w1 hbx hbw; have BW1 := Aside0.mk hbw; have BX1 := Aside0.mk hbx; clear hbx hbw))
 go_cut [3] (fun s3 wc => s3 = .bool (predNZ p.f2) ∧ Aside0 (Below w.heap.size w wc) ∧ Aside0 (wc.heap[w.heap.size]? = some (.cells cs.toArray 31 (0, 0))))
 case first =>
  have hcv2 : w1.cell? ⟨w.heap.size, 2, none⟩ = some (.int .i64 p.f2.f0) := blk_cells BX1.out 2 _ H2.out; have hcv3 : w1.cell? ⟨w.heap.size, 3, none⟩ = some (.int .i64 p.f2.f1) := blk_cells BX1.out 3 _ H3.out; have hcv4 : w1.cell? ⟨w.heap.size, 4, none⟩ = some (.string p.f2.f2) := blk_cells BX1.out 4 _ H4.out; have hcv5 : w1.cell? ⟨w.heap.size, 5, none⟩ = some (.int .i64 p.f2.f3) := blk_cells BX1.out 5 _ H5.out; have hcv6 : w1.cell? ⟨w.heap.size, 6, none⟩ = some (.int .i64 p.f2.f4) := blk_cells BX1.out 6 _ H6.out; have hcv7 : w1.cell? ⟨w.heap.size, 7, none⟩ = some (.slice A7 p.f2.f5.length c7) := blk_cells BX1.out 7 _ H7.out
  cases q0 : (p.f2.f0 != 0) with
  | true =>
   go_wp2
   go_meet
   case rel => exact ⟨by simp [predNZ, q0], BW1, BX1⟩
  | false =>
  cases q1 : (p.f2.f1 != 0) with
  | true =>
   go_wp2
   go_meet
   case rel => exact ⟨by simp [predNZ, q0, q1], BW1, BX1⟩
  | false =>
  cases q2 : (!p.f2.f2.toList.isEmpty) with
  | true =>
   go_wp2
   go_meet
   case rel => exact ⟨by simp [predNZ, q0, q1, q2], BW1, BX1⟩
  | false =>
  cases q3 : (p.f2.f3 != 0) with
  | true =>
   go_wp2
   go_meet
   case rel => exact ⟨by simp [predNZ, q0, q1, q2, q3], BW1, BX1⟩
  | false =>
  cases q4 : (p.f2.f4 != 0) with
  | true =>
   go_wp2
   go_meet
   case rel => exact ⟨by simp [predNZ, q0, q1, q2, q3, q4], BW1, BX1⟩
  | false =>
  go_wp2
  go_meet
  case rel => exact ⟨by simp [predNZ, q0, q1, q2, q3, q4], BW1, BX1⟩
 case rest =>
  clear BW1 BX1; obtain ⟨rfl, BW, BX⟩ := hcut; have hcv1 : wc.cell? ⟨w.heap.size, 1, none⟩ = some (.string p.f1) := blk_cells BX.out 1 _ H1.out; have hcv8 : wc.cell? ⟨w.heap.size, 8, none⟩ = some (.slice A8 p.f3.length c8) := blk_cells BX.out 8 _ H8.out; have hcv9 : wc.cell? ⟨w.heap.size, 9, none⟩ = some (.slice A9 p.f4.length c9) := blk_cells BX.out 9 _ H9.out; have hcv10 : wc.cell? ⟨w.heap.size, 10, none⟩ = some (.slice A10 p.f5.length c10) := blk_cells BX.out 10 _ H10.out; have hcv11 : wc.cell? ⟨w.heap.size, 11, none⟩ = some (.int .i64 p.f6) := blk_cells BX.out 11 _ H11.out; have hcv12 : wc.cell? ⟨w.heap.size, 12, none⟩ = some (.slice A12 p.f7.length c12) := blk_cells BX.out 12 _ H12.out; have hcv13 : wc.cell? ⟨w.heap.size, 13, none⟩ = some (.slice A13 p.f8.length c13) := blk_cells BX.out 13 _ H13.out; have hcv14 : wc.cell? ⟨w.heap.size, 14, none⟩ = some (.slice A14 p.f9.length c14) := blk_cells BX.out 14 _ H14.out; have hcv15 : wc.cell? ⟨w.heap.size, 15, none⟩ = some (.int .i64 p.f10) := blk_cells BX.out 15 _ H15.out; have hcv16 : wc.cell? ⟨w.heap.size, 16, none⟩ = some (.int .i64 p.f11) := blk_cells BX.out 16 _ H16.out
  generalize hpn : predNZ p.f2 = pn
  have HPN := Aside0.mk hpn; clear hpn; cases qj : (p.f6 != 0) <;> cases ql : (p.f10 != 0) <;>
  ·go_wp2
   go_ret
   refine ⟨_, rfl, own_bools (hasL p) rfl rfl rfl rfl (below_size BW.out) (by simp [hasL]) ?_, BW.out.alloc (below_size BW.out) _⟩
   simp only [bne_iff_ne, ne_eq, bne_eq_false_iff_eq] at qj ql
   simp [hasL, joinNZ, limNZ, HPN.out, qj, ql]
theorem plan_has.calls (a0_0 : Int) (a0_1 : ByteArray) (a0_2 : Int) (a0_3 : Int) (a0_4 : ByteArray) (a0_5 : Int) (a0_6 : Int) (A0_7 : Option Addr) (c0_7 : Nat) (l0_7 : List (S24)) (A0_8 : Option Addr) (c0_8 : Nat) (l0_8 : List (S50)) (A0_9 : Option Addr) (c0_9 : Nat) (l0_9 : List Int) (A0_10 : Option Addr) (c0_10 : Nat) (l0_10 : List (S72)) (a0_11 : Int) (A0_12 : Option Addr) (c0_12 : Nat) (l0_12 : List Int) (A0_13 : Option Addr) (c0_13 : Nat) (l0_13 : List Int) (A0_14 : Option Addr) (c0_14 : Nat) (l0_14 : List (S52)) (a0_15 : Int) (a0_16 : Int) (A0_17 : Option Addr) (c0_17 : Nat) (l0_17 : List (S31)) (r : List Bool) (w : World) (hr0_7 : Kd.C k24 w A0_7 l0_7.length l0_7) (hc0_7 : l0_7.length ≤ c0_7) (hr0_8 : Kd.C k50 w A0_8 l0_8.length l0_8) (hc0_8 : l0_8.length ≤ c0_8) (hr0_9 : Kd.C (Kd.int .i64) w A0_9 l0_9.length l0_9) (hc0_9 : l0_9.length ≤ c0_9) (hr0_10 : Kd.C k72 w A0_10 l0_10.length l0_10) (hc0_10 : l0_10.length ≤ c0_10) (hr0_12 : Kd.C (Kd.int .i64) w A0_12 l0_12.length l0_12) (hc0_12 : l0_12.length ≤ c0_12) (hr0_13 : Kd.C (Kd.int .i64) w A0_13 l0_13.length l0_13) (hc0_13 : l0_13.length ≤ c0_13) (hr0_14 : Kd.C k52 w A0_14 l0_14.length l0_14) (hc0_14 : l0_14.length ≤ c0_14) (hr0_17 : Kd.C k31 w A0_17 l0_17.length l0_17) (hc0_17 : l0_17.length ≤ c0_17) (h : plan_has.f a0_0 a0_1 a0_2 a0_3 a0_4 a0_5 a0_6 l0_7 l0_8 l0_9 l0_10 a0_11 l0_12 l0_13 l0_14 a0_15 a0_16 l0_17 = some r) :
  Calls Try.prog 40 #[.agg #[.int .i64 a0_0, .string a0_1, .int .i64 a0_2, .int .i64 a0_3, .string a0_4, .int .i64 a0_5, .int .i64 a0_6, .slice A0_7 l0_7.length c0_7, .slice A0_8 l0_8.length c0_8, .slice A0_9 l0_9.length c0_9, .slice A0_10 l0_10.length c0_10, .int .i64 a0_11, .slice A0_12 l0_12.length c0_12, .slice A0_13 l0_13.length c0_13, .slice A0_14 l0_14.length c0_14, .int .i64 a0_15, .int .i64 a0_16, .slice A0_17 l0_17.length c0_17]] w fun e w' => ∃ v0_ : Value, e = .returned (v0_) ∧ Kd.R Kd.bool 4 w' w.heap.size (fun _ => True) v0_ r ∧ Below w.heap.size w w' := by
 obtain rfl := Option.some.inj h
 exact plan_has.core ⟨a0_0, a0_1, ⟨a0_2, a0_3, a0_4, a0_5, a0_6, l0_7⟩, l0_8, l0_9, l0_10, a0_11, l0_12, l0_13, l0_14, a0_15, a0_16, l0_17⟩ _ w (k31_mk w ⟨a0_0, a0_1, ⟨a0_2, a0_3, a0_4, a0_5, a0_6, l0_7⟩, l0_8, l0_9, l0_10, a0_11, l0_12, l0_13, l0_14, a0_15, a0_16, l0_17⟩ hc0_7 hr0_7 hc0_8 hr0_8 hc0_9 hr0_9 hc0_10 hr0_10 hc0_12 hr0_12 hc0_13 hr0_13 hc0_14 hr0_14 hc0_17 hr0_17)

/-! ### plan_shaped: function 34 -/
-- told by hand
/-- Is one so that isn't of the kind. -/
def badL : List Bool → Nat → Int → Bool
 | [], _, _ => false
 | b :: bs, i, k => (b && ((i : Int) != k)) || badL bs (i + 1) k
def kidsN (k : Int) : Int := if k = 1 then 0 else if k = 5 then 2 else 1
def shapedB (p : S31) : Bool := if p.f0 < 1 then false else if 7 < p.f0 then false else if badL (hasL p) 0 p.f0 = true then false else decide ((p.f12.length : Int) = kidsN p.f0)
def plan_shaped.f (a0_0 : Int) (a0_1 : ByteArray) (a0_2 : Int) (a0_3 : Int) (a0_4 : ByteArray) (a0_5 : Int) (a0_6 : Int) (l0_7 : List S24) (l0_8 : List S50) (l0_9 : List Int) (l0_10 : List S72) (a0_11 : Int) (l0_12 : List Int) (l0_13 : List Int) (l0_14 : List S52) (a0_15 : Int) (a0_16 : Int) (l0_17 : List S31) : Option Bool := some (shapedB ⟨a0_0, a0_1, ⟨a0_2, a0_3, a0_4, a0_5, a0_6, l0_7⟩, l0_8, l0_9, l0_10, a0_11, l0_12, l0_13, l0_14, a0_15, a0_16, l0_17⟩)
theorem hasL_len (p : S31) : (hasL p).length = 8 := rfl
theorem plan_shaped.core (p : S31) (cs : List Value) (w : World) (hK : k31.K w p cs) :
  Calls Try.prog 34 #[.agg cs.toArray] w fun e w' => e = .returned (.bool (shapedB p)) ∧ Below w.heap.size w w' := by
 have hagg : ∀ W, (isAgg 31).run Try.prog W = .ok true W := fun W => by first | exact Try.isAgg31 | exact Try.isAgg31 W | go_simp
 have hsz18 : ∀ W, (sizeOf 31).run Try.prog W = .ok 18 W := fun W => by first | exact Try.sizeOf31 | exact Try.sizeOf31 W | go_simp
 have HAGG := Aside0.mk hagg; have HSZ := Aside0.mk hsz18; clear hagg hsz18; have hu31 := Try.underlying31; have HL18 := Aside0.mk (show cs.length = 18 from k31.K_len hK)
 have HHA := Aside0.mk (fun W (hb : Below w.heap.size w W) => plan_has.core p cs W (k31.K_below hb hK))
 obtain ⟨A7, c7, A8, c8, A9, c9, A10, c10, A12, c12, A13, c13, A14, c14, A17, c17, e_, l7, g7, l8, g8, l9, g9, l10, g10, l12, g12, l13, g13, l14, g14, l17, g17⟩ := k31_open hK
 have H0 := Aside0.mk (show cs[0]? = some (.int .i64 p.f0) from by rw [e_]; rfl)
 have H17 := Aside0.mk (show cs[17]? = some (.slice A17 p.f12.length c17) from by rw [e_]; rfl)
 clear hK e_ l7 g7 l8 g8 l9 g9 l10 g10 l12 g12 l13 g13 l14 g14 l17 g17; unfold shapedB
 by_cases q1 : p.f0 < 1
 ·rw [if_pos q1]
  have q1b : decide (p.f0 < 1) = true := decide_eq_true q1; go_enter Try.func34, Try.ntmps34
  go_wp2_with (first
   | ((with_reducible refine gate_dst (N := 1) rfl ?_); refine box_all rfl rfl (cs := cs.toArray) rfl (fun W => by rw [List.size_toArray, HL18.out]; exact HSZ.out W) ?_; intro w1 hbx hbw; have BW1 := Aside0.mk hbw; have BX1 := Aside0.mk hbx; have hcv0 : w1.cell? ⟨w.heap.size, 0, none⟩ = some (.int .i64 p.f0) := blk_cells BX1.out 0 _ H0.out; clear hbx hbw))
  go_ret
  exact ⟨rfl, BW1.out⟩
 rw [if_neg q1]
 have q1b : decide (p.f0 < 1) = false := decide_eq_false q1; by_cases q2 : 7 < p.f0
 ·rw [if_pos q2]
  have q2b : decide (7 < p.f0) = true := decide_eq_true q2; go_enter Try.func34, Try.ntmps34
  go_wp2_with (first
   | ((with_reducible refine gate_dst (N := 1) rfl ?_); refine box_all rfl rfl (cs := cs.toArray) rfl (fun W => by rw [List.size_toArray, HL18.out]; exact HSZ.out W) ?_; intro w1 hbx hbw; have BW1 := Aside0.mk hbw; have BX1 := Aside0.mk hbx; have hcv0 : w1.cell? ⟨w.heap.size, 0, none⟩ = some (.int .i64 p.f0) := blk_cells BX1.out 0 _ H0.out; clear hbx hbw))
  go_ret
  exact ⟨rfl, BW1.out⟩
 rw [if_neg q2]
 have q2b : decide (7 < p.f0) = false := decide_eq_false q2; obtain ⟨hs, hhs⟩ : ∃ hs, hs = hasL p := ⟨_, rfl⟩
 have HLN := Aside0.mk (show hs.length = 8 from by rw [hhs]; rfl)
 rw [← hhs] at HHA ⊢
 clear hhs; obtain ⟨r, hr⟩ : ∃ r, r = (if badL hs 0 p.f0 = true then false else decide ((p.f12.length : Int) = kidsN p.f0)) := ⟨_, rfl⟩
 rw [← hr]
 have HRR := Aside0.mk hr; clear hr; go_enter Try.func34, Try.ntmps34
 go_wp2_with (first
  | ((with_reducible refine gate_dst (N := 1) rfl ?_); refine box_all rfl rfl (cs := cs.toArray) rfl (fun W => by rw [List.size_toArray, HL18.out]; exact HSZ.out W) ?_; intro w1 hbx hbw; have BW1 := Aside0.mk hbw; have BX1 := Aside0.mk hbx; have hcv0 : w1.cell? ⟨w.heap.size, 0, none⟩ = some (.int .i64 p.f0) := blk_cells BX1.out 0 _ H0.out; clear hbx hbw)
  | ((with_reducible refine gate_dst (N := 14) rfl ?_); (try (refine gate_guard (by rfl) ?_; dsimp only)); refine load_all rfl rfl (cs := cs) rfl HAGG.out (fun W => by rw [HL18.out]; exact HSZ.out W) (blk_cells BX1.out) ?_)
  | (go_at_call 40; refine (HHA.out _ BW1.out).mono ?_; rintro e w2 ⟨v2, rfl, ho2, hb2⟩; obtain ⟨A0, c0, rfl, hl0, hC0⟩ := Kd.R_reads ho2; have HC0 := Aside0.mk hC0; have BW2 := Aside0.mk (below_step BW1.out hb2); have BX2 := Aside0.mk (blk_keep hb2 BX1.out); clear hb2 BW1 BX1 ho2 hl0 hC0 hcv0))
 go_loopg [3, 4, 17] 8 (fun gg s3 s4 s17 wr => ∃ (i : Nat), s17 = .int .i64 i ∧ i ≤ 8 ∧ 8 - i ≤ gg ∧ Aside0 (badL hs 0 p.f0 = badL (hs.drop i) i p.f0) ∧ Aside0 (Below w.heap.size w wr) ∧ Aside0 (Below w2.heap.size w2 wr) ∧ Aside0 (wr.heap[w.heap.size]? = some (.cells cs.toArray 31 (0, 0))))
 case atStart => exact ⟨0, rfl, Nat.zero_le _, by omega, ⟨rfl⟩, BW2, ⟨Below.refl _ _⟩, BX2⟩
 case round =>
  clear BW2 BX2; obtain ⟨i, rfl, hin, hg0, HBD, BW, BV, BX⟩ := hrel; have hcv0 : wr.cell? ⟨w.heap.size, 0, none⟩ = some (.int .i64 p.f0) := blk_cells BX.out 0 _ H0.out; by_cases hlt : i < 8
  ·have hltz : (i : Int) < 8 := by omega
   have hltn : (i : Int) < (hs.length : Int) := by rw [HLN.out]; omega
   have hi0 : (0 : Int) ≤ (i : Int) := by omega
   obtain ⟨ad, e0, hx⟩ := Kd.at_bool HC0.out (i : Int) hi0 hltn
   have hd := HBD.out; rw [drop_getE false hs i (by rw [HLN.out]; exact hlt)] at hd
   simp only [badL] at hd
   have hx2 : w2.cell? (ad.add i) = some (.bool (hs.getD i false)) := by simpa [rdOf, Int.toNat_natCast] using hx
   generalize hs.getD i false = b at hd hx2
   subst e0; have hcell := (BV.out.cell (World.block_lt_of_cell? w2 _ hx2)).trans hx2
   have HD := Aside0.mk hd; have HLN2 := HLN.out; clear hx hx2 hd HBD
   cases b with
   | false =>
    go_wp2
    go_roundg (8 - (i + 1))
    case measure => omega
    case rel => exact ⟨i + 1, by first | go_num | (congr 1; unfold wrap64; omega), by omega, by omega, ⟨by rw [HD.out]; simp⟩, BW, BV, BX⟩
   | true =>
    cases qk : ((i : Int) != p.f0) with
    | true =>
     have e1 := HRR.out; have e2 := HD.out; rw [qk] at e2
     rw [e2] at e1
     simp at e1
     subst e1; clear e2 HRR HD; go_wp2
     go_ret
     exact ⟨rfl, BW.out⟩
    | false =>
     go_wp2
     go_roundg (8 - (i + 1))
     case measure => omega
     case rel => exact ⟨i + 1, by first | go_num | (congr 1; unfold wrap64; omega), by omega, by omega, ⟨by rw [HD.out, qk]; simp⟩, BW, BV, BX⟩
  ·have hltz : ¬ (i : Int) < 8 := by omega
   have e2 := HBD.out; rw [List.drop_of_length_le (by rw [HLN.out]; omega)] at e2
   have e1 := HRR.out; rw [e2] at e1
   replace e1 : r = decide ((p.f12.length : Int) = kidsN p.f0) := e1
   have HR1 := Aside0.mk e1; have HLN2 := HLN.out; have hcv17 : wr.cell? ⟨w.heap.size, 17, none⟩ = some (.slice A17 p.f12.length c17) := blk_cells BX.out 17 _ H17.out; clear e1 e2 HRR HBD hcv0 hlt; have hk : p.f0 = 1 ∨ p.f0 = 2 ∨ p.f0 = 3 ∨ p.f0 = 4 ∨ p.f0 = 5 ∨ p.f0 = 6 ∨ p.f0 = 7 := by omega
   have hblt : w.heap.size < wr.heap.size := (Array.getElem?_eq_some_iff.1 BX.out).1
   have hbne : w.heap.size ≠ wr.heap.size := by omega
   clear q1 q2 q1b q2b; rcases hk with hk | hk | hk | hk | hk | hk | hk <;>
   ·have HZ := Aside0.mk hk; have hcv0 : wr.cell? ⟨w.heap.size, 0, none⟩ = some (.int .i64 p.f0) := blk_cells BX.out 0 _ H0.out; rw [hk] at hcv0
    clear hk; go_wp2
    go_ret
    exact ⟨by rw [HR1.out, HZ.out]; exact congrArg (fun b_ => Ending.returned (.bool b_)) (by rw [Bool.eq_iff_iff]; simp [kidsN]), BW.out.alloc (below_size BW.out) _⟩
theorem plan_shaped.calls (a0_0 : Int) (a0_1 : ByteArray) (a0_2 : Int) (a0_3 : Int) (a0_4 : ByteArray) (a0_5 : Int) (a0_6 : Int) (A0_7 : Option Addr) (c0_7 : Nat) (l0_7 : List (S24)) (A0_8 : Option Addr) (c0_8 : Nat) (l0_8 : List (S50)) (A0_9 : Option Addr) (c0_9 : Nat) (l0_9 : List Int) (A0_10 : Option Addr) (c0_10 : Nat) (l0_10 : List (S72)) (a0_11 : Int) (A0_12 : Option Addr) (c0_12 : Nat) (l0_12 : List Int) (A0_13 : Option Addr) (c0_13 : Nat) (l0_13 : List Int) (A0_14 : Option Addr) (c0_14 : Nat) (l0_14 : List (S52)) (a0_15 : Int) (a0_16 : Int) (A0_17 : Option Addr) (c0_17 : Nat) (l0_17 : List (S31)) (r : Bool) (w : World) (hr0_7 : Kd.C k24 w A0_7 l0_7.length l0_7) (hc0_7 : l0_7.length ≤ c0_7) (hr0_8 : Kd.C k50 w A0_8 l0_8.length l0_8) (hc0_8 : l0_8.length ≤ c0_8) (hr0_9 : Kd.C (Kd.int .i64) w A0_9 l0_9.length l0_9) (hc0_9 : l0_9.length ≤ c0_9) (hr0_10 : Kd.C k72 w A0_10 l0_10.length l0_10) (hc0_10 : l0_10.length ≤ c0_10) (hr0_12 : Kd.C (Kd.int .i64) w A0_12 l0_12.length l0_12) (hc0_12 : l0_12.length ≤ c0_12) (hr0_13 : Kd.C (Kd.int .i64) w A0_13 l0_13.length l0_13) (hc0_13 : l0_13.length ≤ c0_13) (hr0_14 : Kd.C k52 w A0_14 l0_14.length l0_14) (hc0_14 : l0_14.length ≤ c0_14) (hr0_17 : Kd.C k31 w A0_17 l0_17.length l0_17) (hc0_17 : l0_17.length ≤ c0_17) (h : plan_shaped.f a0_0 a0_1 a0_2 a0_3 a0_4 a0_5 a0_6 l0_7 l0_8 l0_9 l0_10 a0_11 l0_12 l0_13 l0_14 a0_15 a0_16 l0_17 = some r) :
  Calls Try.prog 34 #[.agg #[.int .i64 a0_0, .string a0_1, .int .i64 a0_2, .int .i64 a0_3, .string a0_4, .int .i64 a0_5, .int .i64 a0_6, .slice A0_7 l0_7.length c0_7, .slice A0_8 l0_8.length c0_8, .slice A0_9 l0_9.length c0_9, .slice A0_10 l0_10.length c0_10, .int .i64 a0_11, .slice A0_12 l0_12.length c0_12, .slice A0_13 l0_13.length c0_13, .slice A0_14 l0_14.length c0_14, .int .i64 a0_15, .int .i64 a0_16, .slice A0_17 l0_17.length c0_17]] w fun e w' => e = .returned (.bool r) ∧ Below w.heap.size w w' := by
 obtain rfl := Option.some.inj h
 exact plan_shaped.core ⟨a0_0, a0_1, ⟨a0_2, a0_3, a0_4, a0_5, a0_6, l0_7⟩, l0_8, l0_9, l0_10, a0_11, l0_12, l0_13, l0_14, a0_15, a0_16, l0_17⟩ _ w (k31_mk w ⟨a0_0, a0_1, ⟨a0_2, a0_3, a0_4, a0_5, a0_6, l0_7⟩, l0_8, l0_9, l0_10, a0_11, l0_12, l0_13, l0_14, a0_15, a0_16, l0_17⟩ hc0_7 hr0_7 hc0_8 hr0_8 hc0_9 hr0_9 hc0_10 hr0_10 hc0_12 hr0_12 hc0_13 hr0_13 hc0_14 hr0_14 hc0_17 hr0_17)

/-! ### plan_scan: function 41 -/
-- told by hand
/-- Has a table this name. -/
def scanIs (a : ByteArray) (x : S46) : Bool := x.f0.toList == a.toList
def plan_scan.f (a0 : ByteArray) (l1 : List (S46)) : Option Int := some (if firstOf (scanIs a0) l1 < 0 then 0 else (rd_T46 l1 (firstOf (scanIs a0) l1)).f1)
theorem firstOf_lt {α : Type} (p : α → Bool) (l : List α) : firstOf p l < (l.length : Int) ∧ -1 ≤ firstOf p l := by
 unfold firstOf
 cases h : l.findIdx? p with
 | none => constructor <;> simp <;> omega
 | some i =>
  obtain ⟨hi, _⟩ := List.findIdx?_eq_some_iff_getElem.1 h
  constructor <;> simp <;> omega
/-- The literal that is handed over. -/
theorem plan_scan.lit (a : ByteArray) (B : Nat) (x : S46) (W : World) (hB : B < W.heap.size) (hc : W.cell? ⟨B, 0, none⟩ = some (.string a)) :
  Calls Try.prog 60 #[.agg #[.string x.f0, .int .i64 x.f1], .pointer (some ⟨B, 0, none⟩)] W fun e w' => e = .returned (.bool (scanIs a x)) ∧ Below W.heap.size W w' := by
 obtain ⟨f0, f1⟩ := x; have hne : B ≠ W.heap.size := by omega
 unfold scanIs
 go_enter Try.func60, Try.ntmps60
 go_wp2
 go_ret
 exact ⟨by first | rfl | (simp; done) | (trace_state; simp), (Below.refl _ _).alloc (Nat.le_refl _) _⟩
/-- slices.IndexFunc over tables. -/
theorem plan_scan.index (n : ByteArray) (B : Nat) (A0 : Option Addr) (c0 : Nat) (l0 : List (S46)) (w : World) (hr : Kd.C k46 w A0 l0.length l0) (hl : l0.length ≤ 9223372036854775807) (hB : B < w.heap.size) (hc : w.cell? ⟨B, 0, none⟩ = some (.string n)) :
  Calls Try.prog 59 #[.slice A0 l0.length c0, .func (.func 60) #[] #[.pointer (some ⟨B, 0, none⟩)]] w fun e w' => e = .returned (.int .i64 (firstOf (scanIs n) l0)) ∧ Below w.heap.size w w' := by
 have HR := Aside0.mk hr; have HC := Aside0.mk hc; have HB0 := Aside0.mk hB; clear hr hc hB; go_enter Try.func59, Try.ntmps59
 go_wp2
 go_loopg [5, 8] l0.length (fun gg v5 s8 wr => ∃ kk : Nat, kk ≤ l0.length ∧ l0.length - kk ≤ gg ∧ s8 = .int .i64 kk ∧ Aside0 (Below w.heap.size w wr) ∧ Aside0 (∀ j, j < kk → scanIs n (l0.getD j z46) = false))
 case atStart => exact ⟨0, Nat.zero_le _, by omega, rfl, ⟨Below.refl _ w⟩, ⟨fun j hj => absurd hj (Nat.not_lt_zero _)⟩⟩
 case round =>
  obtain ⟨kk, hkk, hg, rfl, BW, NO⟩ := hrel; by_cases hlt : kk < l0.length
  ·have hltz : (kk : Int) < (l0.length : Int) := by omega
   obtain ⟨ad, e0, x0, x1⟩ := at_T46 HR.out (kk : Int) (by omega) hltz
   rw [show ((kk : Int)).toNat = kk by omega] at x0 x1
   subst e0; have hy0 : rd_T46 l0 (kk : Int) = l0.getD kk z46 := by unfold rd_T46; rw [show ((kk : Int)).toNat = kk by omega]
   rw [hy0] at x0 x1
   replace x0 := (BW.out.cell (World.block_lt_of_cell? w _ x0)).trans x0
   replace x1 := (BW.out.cell (World.block_lt_of_cell? w _ x1)).trans x1
   have hcall := plan_scan.lit n B (l0.getD kk z46) wr (Nat.lt_of_lt_of_le HB0.out BW.out.size) ((BW.out.cell (p := ⟨B, 0, none⟩) HB0.out).trans HC.out)
   clear hy0; generalize hy : l0.getD kk z46 = y at x0 x1 hcall
   have HY := Aside0.mk hy; clear hy
   cases hq : scanIs n y with
   | true =>
    rw [hq] at hcall
    go_wp2_with (go_at_call 60; refine hcall.mono ?_; rintro e w' ⟨rfl, hb'⟩)
    go_ret
    exact ⟨by rw [firstOf_hit (scanIs n) l0 z46 kk hlt (by rw [HY.out]; exact hq) NO.out] <;> rfl, below_step BW.out hb'⟩
   | false =>
    rw [hq] at hcall
    go_wp2_with (go_at_call 60; refine hcall.mono ?_; rintro e w' ⟨rfl, hb'⟩)
    go_roundg (l0.length - (kk + 1))
    case measure => omega
    case rel =>
     refine ⟨kk + 1, by omega, by omega, by go_num, ⟨below_step BW.out hb'⟩, ⟨fun j hj => ?_⟩⟩
     by_cases e : j = kk
     ·subst e; rw [HY.out]; exact hq
     ·exact NO.out j (by omega)
  ·have hltz : ¬ (kk : Int) < (l0.length : Int) := by omega
   have hkk2 : kk = l0.length := by omega
   subst hkk2; go_wp2
   go_ret
   exact ⟨by rw [firstOf_miss (scanIs n) l0 z46 NO.out] <;> rfl, BW.out⟩
theorem plan_scan.calls (a0 : ByteArray) (A1 : Option Addr) (c1 : Nat) (l1 : List (S46)) (r : Int) (w : World) (hr1 : Kd.C k46 w A1 l1.length l1) (hc1 : l1.length ≤ c1) (h : plan_scan.f a0 l1 = some r) :
  Calls Try.prog 41 #[.string a0, .slice A1 l1.length c1] w fun e w' => e = .returned (.int .i64 r) ∧ Below w.heap.size w w' := by
 have hl : l1.length ≤ 9223372036854775807 := hr1.2.1; unfold plan_scan.f at h
 have HE := Option.some.inj h; clear h; have hI := fun W (hr : Kd.C k46 W A1 l1.length l1) B hB hc => plan_scan.index a0 B A1 c1 l1 W hr hl hB hc
 obtain ⟨hq1, hq0⟩ := firstOf_lt (scanIs a0) l1
 generalize firstOf (scanIs a0) l1 = q at hI hq1 hq0 HE
 have HR1 := Aside0.mk hr1; by_cases cq : q < 0
 ·rw [if_pos cq] at HE; go_enter Try.func41, Try.ntmps41
  go_wp2_with (go_at_call 59; refine (hI _ (Kd.C_alloc hr1 _) w.heap.size (by simp) (by simp)).mono ?_; rintro e w' ⟨rfl, hb'⟩)
  go_ret
  exact ⟨by rw [← HE] <;> rfl, below_step ((Below.refl _ w).alloc (Nat.le_refl _) _) hb'⟩
 ·rw [if_neg cq] at HE; have c0 : 0 ≤ q := by omega
  obtain ⟨ad, e0, x0, x1⟩ := at_T46 HR1.out q c0 hq1
  subst e0; rw [HE] at x1
  clear x0; have X1 := Aside0.mk x1; clear x1; go_enter Try.func41, Try.ntmps41
  go_wp2_with (go_at_call 59; refine (hI _ (Kd.C_alloc hr1 _) w.heap.size (by simp) (by simp)).mono ?_; rintro e w' ⟨rfl, hb'⟩; have hbw := below_step ((Below.refl _ w).alloc (Nat.le_refl _) _) hb'; have x1 := (hbw.cell (World.block_lt_of_cell? w _ X1.out)).trans X1.out; have HBW := Aside0.mk hbw; clear hbw hb')
  go_ret
  exact ⟨rfl, HBW.out⟩

/-! ### plan_when: function 42 -/
def plan_when.f (a0 : Bool) (a1 : Int) : Option (Int) := if a0 = true then (if a1 > 8 then (some 0) else (some a1)) else (some 0)
theorem plan_when.calls (a0 : Bool) (a1 : Int) (r : Int) (w : World) (h : plan_when.f a0 a1 = some r) :
  Calls Try.prog 42 #[.bool a0, .int .i64 a1] w fun e w' => e = .returned (.int .i64 r) ∧ Drawn0 w w' := by
 have H : (if a0 = true then (if a1 > 8 then (some 0) else (some a1)) else (some 0)) = some r := h; clear h; by_cases c3 : a0 = true
 ·subst c3; have H1 : (if a1 > 8 then (some 0) else (some a1)) = some r := by rw [if_pos rfl] at H; exact H
  clear H; have H := H1; clear H1; by_cases c4 : a1 > 8
  ·rw [if_pos c4] at H; have c4b0 : decide (8 < a1) = true := decide_eq_true c4; clear c4; obtain rfl := Option.some.inj H
   go_enter Try.func42, Try.ntmps42
   go_wp2
   go_ret
   exact exD
  ·rw [if_neg c4] at H; have c4b0 : decide (8 < a1) = false := decide_eq_false c4; clear c4; obtain rfl := Option.some.inj H
   go_enter Try.func42, Try.ntmps42
   go_wp2
   go_ret
   exact exD
 ·replace c3 := Bool.eq_false_iff.mpr c3; subst c3; have H1 : (some 0) = some r := by rw [if_neg (show ¬ (false = true) by decide)] at H; exact H
  clear H; have H := H1; clear H1; obtain rfl := Option.some.inj H
  go_enter Try.func42, Try.ntmps42
  go_wp2
  go_ret
  exact exD

/-! ### need_joins: function 79 -/
def need_joins.f (a0 : Int) : Option (Bool) := if a0 ≥ 12 then (some (decide (a0 ≤ 14))) else (some false)
theorem need_joins.calls (a0 : Int) (r : Bool) (w : World) (h : need_joins.f a0 = some r) :
  Calls Try.prog 79 #[.int .i64 a0] w fun e w' => e = .returned (.bool r) ∧ Drawn0 w w' := by
 have H : (if a0 ≥ 12 then (some (decide (a0 ≤ 14))) else (some false)) = some r := h; clear h; by_cases c2 : a0 ≥ 12
 ·rw [if_pos c2] at H; have c2b0 : decide (12 ≤ a0) = true := decide_eq_true c2; clear c2; obtain rfl := Option.some.inj H
  go_enter Try.func79, Try.ntmps79
  go_wp2
  go_ret
  exact exD
 ·rw [if_neg c2] at H; have c2b0 : decide (12 ≤ a0) = false := decide_eq_false c2; clear c2; obtain rfl := Option.some.inj H
  go_enter Try.func79, Try.ntmps79
  go_wp2
  go_ret
  exact exD

/-! ### like_sign: function 95 -/
def like_sign.f (a0 : Int) : Option (Int) := if a0 = 37 then (some 257) else (if a0 = 95 then (some 256) else (some (wrap64 (a0))))
theorem like_sign.calls (a0 : Int) (r : Int) (w : World) (h : like_sign.f a0 = some r) :
  Calls Try.prog 95 #[.int .u8 a0] w fun e w' => e = .returned (.int .i64 r) ∧ Drawn0 w w' := by
 have H : (if a0 = 37 then (some 257) else (if a0 = 95 then (some 256) else (some (wrap64 (a0))))) = some r := h; clear h; by_cases c2 : a0 = 37
 ·rw [if_pos c2] at H; have c2b0 : (a0 == 37) = true := beq_iff_eq.mpr c2; have c2b1 : (a0 != 37) = false := bne_eq_false_iff_eq.mpr c2; clear c2; obtain rfl := Option.some.inj H
  go_enter Try.func95, Try.ntmps95
  go_wp2
  go_ret
  exact exD
 ·rw [if_neg c2] at H; have c2b0 : (a0 == 37) = false := beq_eq_false_iff_ne.mpr c2; have c2b1 : (a0 != 37) = true := bne_iff_ne.mpr c2; by_cases c3 : a0 = 95
  ·rw [if_pos c3] at H; have c3b0 : (a0 == 95) = true := beq_iff_eq.mpr c3; have c3b1 : (a0 != 95) = false := bne_eq_false_iff_eq.mpr c3; clear c3; obtain rfl := Option.some.inj H
   go_enter Try.func95, Try.ntmps95
   go_wp2
   go_ret
   exact exD
  ·rw [if_neg c3] at H; have c3b0 : (a0 == 95) = false := beq_eq_false_iff_ne.mpr c3; have c3b1 : (a0 != 95) = true := bne_iff_ne.mpr c3; obtain rfl := Option.some.inj H
   go_enter Try.func95, Try.ntmps95
   go_wp2
   go_ret
   exact exD

/-! ### like_Parse: function 90 -/
mutual
def like_Parse.j0 : Nat → ByteArray → Int → Bool → Option (List Int × Int)
 | 0, _, _, _ => none
 | k + 1, x0, x1, x18 => if x18 = true then (some (([] : List Int), 8)) else (like_Parse.l0 k x0 x1 ([] : List Int) 0)
def like_Parse.l0 : Nat → ByteArray → Int → List Int → Int → Option (List Int × Int)
 | 0, _, _, _, _ => none
 | k + 1, x0, x1, x6, x7 => if x7 < (x0.size : Int) then (if 0 ≤ x7 then (if (wrap64 (bt x0 x7)) = x1 then (if (wrap64 (x7 + 1)) = (x0.size : Int) then (some (([] : List Int), 8)) else (if 0 ≤ (wrap64 (x7 + 1)) then (if (wrap64 (x7 + 1)) < (x0.size : Int) then (if x6.length < 17592186044416 then (like_Parse.l0 k x0 x1 (x6 ++ [wrap64 (bt x0 (wrap64 (x7 + 1)))]) (wrap64 ((wrap64 (x7 + 1)) + 1))) else (none)) else (none)) else (none))) else ((like_sign.f (bt x0 x7)).bind fun t104 => (if x6.length < 17592186044416 then (like_Parse.l0 k x0 x1 (x6 ++ [t104]) (wrap64 (x7 + 1))) else (none)))) else (none)) else (some (x6, 0))
end
def like_Parse.f (k : Nat) (a0 : ByteArray) (a1 : Int) : Option (List Int × Int) := if a1 < (-1) then (like_Parse.j0 k a0 a1 true) else (if a1 > 255 then (like_Parse.j0 k a0 a1 true) else (like_Parse.j0 k a0 a1 (decide ((a0.size : Int) > 4096))))
theorem like_Parse.mono_l : ∀ k, (∀ y0 y1 y2, LeO (like_Parse.j0 k y0 y1 y2) (like_Parse.j0 (k + 1) y0 y1 y2)) ∧ (∀ y0 y1 y2 y3, LeO (like_Parse.l0 k y0 y1 y2 y3) (like_Parse.l0 (k + 1) y0 y1 y2 y3))
 | 0 => ⟨fun _ _ _ r h => by simp [like_Parse.j0] at h, fun _ _ _ _ r h => by simp [like_Parse.l0] at h⟩
 | k + 1 => by
  obtain ⟨ih0, ih1⟩ := like_Parse.mono_l k
  refine ⟨?_, ?_⟩
  ·intro y0 y1 y2
   unfold like_Parse.j0
   repeat' first
   | (with_reducible exact ih0 _ _ _)
   | (with_reducible exact ih1 _ _ _ _)
   | (with_reducible exact LeO.refl _)
   | (with_reducible exact LeO.none _)
   | (with_reducible refine LeO.ite ?_ ?_)
   | (with_reducible refine LeO.bind ?_ (fun _ => ?_))
   | exact ih0 _ _ _
   | exact ih1 _ _ _ _
   | exact LeO.none _
   | refine LeO.ite ?_ ?_
   | refine LeO.bind ?_ (fun _ => ?_)
  ·intro y0 y1 y2 y3
   unfold like_Parse.l0
   repeat' first
   | (with_reducible exact ih0 _ _ _)
   | (with_reducible exact ih1 _ _ _ _)
   | (with_reducible exact LeO.refl _)
   | (with_reducible exact LeO.none _)
   | (with_reducible refine LeO.ite ?_ ?_)
   | (with_reducible refine LeO.bind ?_ (fun _ => ?_))
   | exact ih0 _ _ _
   | exact ih1 _ _ _ _
   | exact LeO.none _
   | refine LeO.ite ?_ ?_
   | refine LeO.bind ?_ (fun _ => ?_)
theorem like_Parse.mono : ∀ a0 a1 k, LeO (like_Parse.f k a0 a1) (like_Parse.f (k + 1) a0 a1) := by
 intro a0 a1 k
 obtain ⟨ih0, ih1⟩ := like_Parse.mono_l k
 unfold like_Parse.f
 repeat' first
   | (with_reducible exact ih0 _ _ _)
   | (with_reducible exact ih1 _ _ _ _)
   | (with_reducible exact LeO.refl _)
   | (with_reducible exact LeO.none _)
   | (with_reducible refine LeO.ite ?_ ?_)
   | (with_reducible refine LeO.bind ?_ (fun _ => ?_))
   | exact ih0 _ _ _
   | exact ih1 _ _ _ _
   | exact LeO.none _
   | refine LeO.ite ?_ ?_
   | refine LeO.bind ?_ (fun _ => ?_)
theorem like_Parse.calls (k : Nat) (a0 : ByteArray) (a1 : Int) (r1 : List Int) (r2 : Int) (w : World) (h : like_Parse.f k a0 a1 = some (r1, r2)) :
  Calls Try.prog 90 #[.string a0, .int .i64 a1] w fun e w' => ∃ v0_ : Value, e = .returned (.tuple #[v0_, .int .i64 r2]) ∧ Kd.R (Kd.int .i64) 3 w' w.heap.size (fun _ => True) v0_ r1 ∧ Below w.heap.size w w' := by
 have HB := Aside0.mk (Below.refl w.heap.size w)
 have H : (if a1 < (-1) then (like_Parse.j0 k a0 a1 true) else (if a1 > 255 then (like_Parse.j0 k a0 a1 true) else (like_Parse.j0 k a0 a1 (decide ((a0.size : Int) > 4096))))) = some (r1, r2) := h; clear h; have HC3 := Aside0.mk H; clear H; go_enter Try.func90, Try.ntmps90
 go_upto_region 1 with (fail)
 go_cut [18] (fun v18 wc => ∃ (kq : Nat) (x18_2 : Bool), v18 = .bool x18_2 ∧ Aside0 (like_Parse.j0 kq a0 a1 x18_2 = some (r1, r2)) ∧ Aside0 (kq ≤ k) ∧ Aside0 (Below w.heap.size w wc))
 case first =>
  have H := HC3.out; clear HC3; by_cases c4 : a1 < (-1)
  ·rw [if_pos c4] at H; have c4b0 : decide (a1 < (-1)) = true := decide_eq_true c4; clear c4; (first | rw [c4b0] | (simp only [i64_w, i32_w]; rw [c4b0]) | skip)
   have H' := Aside0.mk H
   clear H; go_wp2
   go_meet
   case rel => exact ⟨_, (true), (by first | rfl | (simp; done) | (simp [*]; done)), H', ⟨by first | omega | exact Nat.le_refl _⟩, ⟨mvB HB.out⟩⟩
  ·rw [if_neg c4] at H; have c4b0 : decide (a1 < (-1)) = false := decide_eq_false c4; clear c4; (first | rw [c4b0] | (simp only [i64_w, i32_w]; rw [c4b0]) | skip)
   by_cases c5 : a1 > 255
   ·rw [if_pos c5] at H; have c5b0 : decide (255 < a1) = true := decide_eq_true c5; clear c5; have H' := Aside0.mk H
    clear H; go_wp2
    go_meet
    case rel => exact ⟨_, (true), (by first | rfl | (simp; done) | (simp [*]; done)), H', ⟨by first | omega | exact Nat.le_refl _⟩, ⟨mvB HB.out⟩⟩
   ·rw [if_neg c5] at H; have c5b0 : decide (255 < a1) = false := decide_eq_false c5; clear c5; have H' := Aside0.mk H
    clear H; go_wp2
    go_meet
    case rel => exact ⟨_, (decide ((a0.size : Int) > 4096)), (by first | rfl | (simp; done) | (simp [*]; done)), H', ⟨by first | omega | exact Nat.le_refl _⟩, ⟨mvB HB.out⟩⟩
 case rest =>
  clear HC3; try clear p2
  try clear c4
  try clear c4b0
  try clear c5
  try clear c5b0
  obtain ⟨kq, x18_2, rfl, HA, HJ2, HB⟩ := hcut
  cases kq with
  | zero => exact absurd HA.out (by simp [like_Parse.j0])
  | succ kj2 =>
   have H := HA.out; clear HA; simp only [like_Parse.j0] at H
   by_cases c6 : x18_2 = true
   ·subst c6; have H1 : (some (([] : List Int), 8)) = some (r1, r2) := by rw [if_pos rfl] at H; exact H
    clear H; have H := H1; clear H1; simp only [Option.some.injEq, Prod.mk.injEq] at H
    obtain ⟨rfl, rfl⟩ := H; go_wp2
    go_ret2
    exact ⟨_, by first | rfl | (simp [errW_none, errW_some] <;> rfl) | (simp [*, errW_none, errW_some] <;> rfl) | exact congrArg (fun b_ => Ending.returned (.bool b_)) (decide_eq_decide.2 (by unfold wrap64; omega)), by first | exact Kd.R_nil _ _ _ _ _ | exact Kd.N_nil _ _ _ _ _ | exact Kd.V_nil _ _ _ _ _ | exact Kd.Q_nil _ _ _ _ _ | exact Kd.S_nil _ _ _ _ _, mvB HB.out⟩
   ·replace c6 := Bool.eq_false_iff.mpr c6; subst c6; have H1 : (like_Parse.l0 kj2 a0 a1 ([] : List Int) 0) = some (r1, r2) := by rw [if_neg (show ¬ (false = true) by decide)] at H; exact H
    clear H; have H := H1; clear H1; have H' := Aside0.mk H
    clear H; go_wp2
    go_loopg [6, 7] kj2 (fun kq v6 v7 w' => ∃ (x6_2 : List Int) (x7_2 : Int), v7 = .int .i64 x7_2 ∧ Aside0 (like_Parse.l0 kq a0 a1 x6_2 x7_2 = some (r1, r2)) ∧ Aside0 (kq ≤ kj2) ∧ Aside0 (Kd.R (Kd.int .i64) 3 w' w.heap.size (fun _ => True) v6 x6_2) ∧ Aside0 (Below w.heap.size w w'))
    case atStart => exact ⟨(([] : List Int)), (0), (by first | rfl | (simp; done) | (simp [*]; done)), H', ⟨Nat.le_refl _⟩, ⟨by first | exact Kd.R_nil _ _ _ _ _ | exact Kd.N_nil _ _ _ _ _ | exact Kd.V_nil _ _ _ _ _ | exact Kd.Q_nil _ _ _ _ _ | exact Kd.S_nil _ _ _ _ _⟩, ⟨mvB HB.out⟩⟩
    case round =>
     clear H'; (try clear p2); (try clear c4); (try clear c4b0); (try clear c5); (try clear c5b0); (try clear c6); (try clear p6); (try clear p2); obtain ⟨x6_2, x7_2, rfl, HA, HK2, HO_6, HB⟩ := hrel
     cases gk with
     | zero => exact absurd HA.out (by simp [like_Parse.l0])
     | succ k2 =>
      have H := HA.out; clear HA; simp only [like_Parse.l0] at H
      by_cases c7 : x7_2 < (a0.size : Int)
      ·rw [if_pos c7] at H; have c7b0 : decide (x7_2 < (a0.size : Int)) = true := decide_eq_true c7; clear c7; by_cases c8 : 0 ≤ x7_2
       case neg => rw [if_neg c8] at H; exact absurd H (by simp)
       rw [if_pos c8] at H; have c8b0 : decide (0 ≤ x7_2) = true := decide_eq_true c8; clear c8; by_cases c10 : (wrap64 (bt a0 x7_2)) = a1
       ·rw [if_pos c10] at H; have c10b0 : ((wrap64 (bt a0 x7_2)) == a1) = true := beq_iff_eq.mpr c10; have c10b1 : ((wrap64 (bt a0 x7_2)) != a1) = false := bne_eq_false_iff_eq.mpr c10; clear c10; by_cases c11 : (wrap64 (x7_2 + 1)) = (a0.size : Int)
        ·rw [if_pos c11] at H; have c11b0 : ((wrap64 (x7_2 + 1)) == (a0.size : Int)) = true := beq_iff_eq.mpr c11; have c11b1 : ((wrap64 (x7_2 + 1)) != (a0.size : Int)) = false := bne_eq_false_iff_eq.mpr c11; clear c11; simp only [Option.some.injEq, Prod.mk.injEq] at H
         obtain ⟨rfl, rfl⟩ := H; have p9 : 0 ≤ (x7_2 : Int) := dtA; have q9 : x7_2 < (a0.size : Int) := dtA; have hx9 := bt_at a0 x7_2; replace p9 := eq_true p9; replace q9 := eq_true q9; go_wp2
         go_ret2
         exact ⟨_, by first | rfl | (simp [errW_none, errW_some] <;> rfl) | (simp [*, errW_none, errW_some] <;> rfl) | exact congrArg (fun b_ => Ending.returned (.bool b_)) (decide_eq_decide.2 (by unfold wrap64; omega)), by first | exact Kd.R_nil _ _ _ _ _ | exact Kd.N_nil _ _ _ _ _ | exact Kd.V_nil _ _ _ _ _ | exact Kd.Q_nil _ _ _ _ _ | exact Kd.S_nil _ _ _ _ _, mvB HB.out⟩
        ·rw [if_neg c11] at H; have c11b0 : ((wrap64 (x7_2 + 1)) == (a0.size : Int)) = false := beq_eq_false_iff_ne.mpr c11; have c11b1 : ((wrap64 (x7_2 + 1)) != (a0.size : Int)) = true := bne_iff_ne.mpr c11; obtain ⟨ji12, hji12⟩ : ∃ j_ : Int, (wrap64 (x7_2 + 1)) = j_ := ⟨_, rfl⟩
         replace H : (if 0 ≤ (ji12) then (if (ji12) < (a0.size : Int) then (if x6_2.length < 17592186044416 then (like_Parse.l0 k2 a0 a1 (x6_2 ++ [wrap64 (bt a0 (ji12))]) (wrap64 ((ji12) + 1))) else (none)) else (none)) else (none)) = some (r1, r2) := by first | (rw [hji12] at H; exact H) | (simp only [hji12] at H ⊢; exact H)
         (try rw [hji12] at c11b0)
         (try rw [hji12] at c11b1)
         have hji12w : (IntKind.i64.wrap (x7_2 + 1)) = ji12 := (i64_w _).trans hji12
         by_cases c13 : 0 ≤ (ji12)
         case neg => rw [if_neg c13] at H; exact absurd H (by simp)
         rw [if_pos c13] at H; have c13b0 : decide (0 ≤ (ji12)) = true := decide_eq_true c13; clear c13; by_cases c14 : (ji12) < (a0.size : Int)
         case neg => rw [if_neg c14] at H; exact absurd H (by simp)
         rw [if_pos c14] at H; have c14b0 : decide ((ji12) < (a0.size : Int)) = true := decide_eq_true c14; clear c14; by_cases c16 : x6_2.length < 17592186044416
         case neg => rw [if_neg c16] at H; exact absurd H (by simp)
         rw [if_pos c16] at H; have LMc16 := Aside0.mk c16; clear c16; obtain ⟨y101, hy101⟩ : ∃ y_ : List Int, y_ = (x6_2 ++ [wrap64 (bt a0 (ji12))]) := ⟨_, rfl⟩
         replace H : (like_Parse.l0 k2 a0 a1 y101 (wrap64 ((ji12) + 1))) = some (r1, r2) := by first | (rw [hy101]; with_reducible exact H) | (have H2_ := (Option.bind_some _ _).symm.trans H; rw [hy101]; with_reducible exact H2_) | (have H2_ := (Option.bind_some _ _).symm.trans H; with_reducible exact H2_) | with_reducible exact H | (rw [hy101]; exact H) | exact H
         have Ny101 := Aside0.mk hy101; clear hy101; have H' := Aside0.mk H
         clear H; have p9 : 0 ≤ (x7_2 : Int) := dtA; have q9 : x7_2 < (a0.size : Int) := dtA; have hx9 := bt_at a0 x7_2; replace p9 := eq_true p9; replace q9 := eq_true q9; have p15 : 0 ≤ ((ji12) : Int) := dtA; have q15 : (ji12) < (a0.size : Int) := dtA; have hx15 := bt_at a0 (ji12)
         replace p15 := eq_true p15; replace q15 := eq_true q15; go_wp2_with (first | ((with_reducible refine gate_builtin (b := .append) (xs := #[.tmp 44, .tmp 49]) rfl ?_); (try (refine gate_guard (by rfl) ?_; dsimp only)); at_builtin; refine Kd.R_append (Kd.int .i64) (w0 := w) w.heap.size rfl (.tmp 44) (.tmp 49) 26 3 (.int .i64 0) 8 rfl Try.underlying26 info3 rfl (by decide) (by omega) u6 x6_2 (wrap64 (bt a0 (ji12))) [.int .i64 (wrap64 (bt a0 (ji12)))] (fun _ => True) (fun _ => False) rfl rfl ?aP (fun _ hk => hk.elim) ?aF ?aO ?aB ?aS ?aL ?_; (case aP => exact rfl); (case aB => exact (mvB HB.out)); (case aF => exact (fun _ _ => trivial)); (case aO => exact (mvR HO_6.out)); (case aS => exact (below_size (mvB HB.out))); (case aL => have := LMc16.out; omega); intro v102 w17 ho hb hg hat; rw [← Ny101.out] at ho; have n0_ := Aside0.mk (hb); have n1_ := Aside0.mk (ho); clear HB; clear HO_6; have HB := n0_; have HO103 := n1_; clear n0_ n1_; clear ho hb hg hat))
         go_roundg k2
         case measure => have := HJ2.out; have := HK2.out; omega
         case rel => exact ⟨(y101), (wrap64 ((ji12) + 1)), (by first | rfl | (simp; done) | (simp only [← hji12] <;> (first | rfl | simp)) | (simp [*]; done)), H', ⟨by have := HJ2.out; have := HK2.out; omega⟩, ⟨by (with_reducible repeat (first | apply Kd.R_alloc | apply Kd.R_drewN | apply Kd.R_drew)); exact HO103.out⟩, ⟨mvB HB.out⟩⟩
       ·rw [if_neg c10] at H; have c10b0 : ((wrap64 (bt a0 x7_2)) == a1) = false := beq_eq_false_iff_ne.mpr c10; have c10b1 : ((wrap64 (bt a0 x7_2)) != a1) = true := bne_iff_ne.mpr c10; replace H := Option.bind_eq_some_iff.mp H; obtain ⟨t104, A190, H⟩ := H; replace H : (if x6_2.length < 17592186044416 then (like_Parse.l0 k2 a0 a1 (x6_2 ++ [t104]) (wrap64 (x7_2 + 1))) else (none)) = some (r1, r2) := H
        have A19 := Aside0.mk A190; clear A190; by_cases c20 : x6_2.length < 17592186044416
        case neg => rw [if_neg c20] at H; exact absurd H (by simp)
        rw [if_pos c20] at H; have LMc20 := Aside0.mk c20; clear c20; obtain ⟨y105, hy105⟩ : ∃ y_ : List Int, y_ = (x6_2 ++ [t104]) := ⟨_, rfl⟩
        replace H : (like_Parse.l0 k2 a0 a1 y105 (wrap64 (x7_2 + 1))) = some (r1, r2) := by first | (rw [hy105]; with_reducible exact H) | (have H2_ := (Option.bind_some _ _).symm.trans H; rw [hy105]; with_reducible exact H2_) | (have H2_ := (Option.bind_some _ _).symm.trans H; with_reducible exact H2_) | with_reducible exact H | (rw [hy105]; exact H) | exact H
        have Ny105 := Aside0.mk hy105; clear hy105; have H' := Aside0.mk H
        clear H; have p9 : 0 ≤ (x7_2 : Int) := dtA; have q9 : x7_2 < (a0.size : Int) := dtA; have hx9 := bt_at a0 x7_2; replace p9 := eq_true p9; replace q9 := eq_true q9; have p18 : 0 ≤ (x7_2 : Int) := dtA; have q18 : x7_2 < (a0.size : Int) := dtA; have hx18 := bt_at a0 x7_2; replace p18 := eq_true p18; replace q18 := eq_true q18; go_wp2_with (first | ((with_reducible refine gate_callee (f := 95) rfl ?_); refine goesL_ (some 35) rfl rfl Try.func95 (by kernel_rfl) rfl #[.int .u8 (bt a0 x7_2)] rfl (by (try simp only [List.map_toArray, List.map_cons, List.map_nil]); first | done | rfl | (simp only [List.length_drop, List.length_take]; rfl)) ?_; (with_reducible refine (like_sign.calls (bt a0 x7_2) t104 _ A19.out).mono ?_); rintro e w' ⟨rfl, ⟨nd, rfl⟩⟩; refine ⟨_, rfl, ?_⟩) | ((with_reducible refine gate_builtin (b := .append) (xs := #[.tmp 31, .tmp 36]) rfl ?_); (try (refine gate_guard (by rfl) ?_; dsimp only)); at_builtin; refine Kd.R_append (Kd.int .i64) (w0 := w) w.heap.size rfl (.tmp 31) (.tmp 36) 26 3 (.int .i64 0) 8 rfl Try.underlying26 info3 rfl (by decide) (by omega) u6 x6_2 t104 [.int .i64 t104] (fun _ => True) (fun _ => False) rfl rfl ?aP (fun _ hk => hk.elim) ?aF ?aO ?aB ?aS ?aL ?_; (case aP => exact rfl); (case aB => exact (mvB HB.out)); (case aF => exact (fun _ _ => trivial)); (case aO => exact (mvR HO_6.out)); (case aS => exact (below_size (mvB HB.out))); (case aL => have := LMc20.out; omega); intro v106 w21 ho hb hg hat; rw [← Ny105.out] at ho; have n0_ := Aside0.mk (hb); have n1_ := Aside0.mk (ho); clear HB; clear HO_6; have HB := n0_; have HO107 := n1_; clear n0_ n1_; clear ho hb hg hat))
        go_roundg k2
        case measure => have := HJ2.out; have := HK2.out; omega
        case rel => exact ⟨(y105), (wrap64 (x7_2 + 1)), (by first | rfl | (simp; done) | (simp [*]; done)), H', ⟨by have := HJ2.out; have := HK2.out; omega⟩, ⟨by (with_reducible repeat (first | apply Kd.R_alloc | apply Kd.R_drewN | apply Kd.R_drew)); exact HO107.out⟩, ⟨mvB HB.out⟩⟩
      ·rw [if_neg c7] at H; have c7b0 : decide (x7_2 < (a0.size : Int)) = false := decide_eq_false c7; clear c7; simp only [Option.some.injEq, Prod.mk.injEq] at H
       obtain ⟨rfl, rfl⟩ := H; go_wp2
       go_ret2
       exact ⟨_, by first | rfl | (simp [errW_none, errW_some] <;> rfl) | (simp [*, errW_none, errW_some] <;> rfl) | exact congrArg (fun b_ => Ending.returned (.bool b_)) (decide_eq_decide.2 (by unfold wrap64; omega)), by (with_reducible repeat (first | apply Kd.R_alloc | apply Kd.R_drewN | apply Kd.R_drew)); exact HO_6.out, mvB HB.out⟩

/-! ### need_compares: function 91 -/
def need_compares.f (a0 : Int) : Option (Bool) := if a0 ≥ 1 then (some (decide (a0 ≤ 6))) else (some false)
theorem need_compares.calls (a0 : Int) (r : Bool) (w : World) (h : need_compares.f a0 = some r) :
  Calls Try.prog 91 #[.int .i64 a0] w fun e w' => e = .returned (.bool r) ∧ Drawn0 w w' := by
 have H : (if a0 ≥ 1 then (some (decide (a0 ≤ 6))) else (some false)) = some r := h; clear h; by_cases c2 : a0 ≥ 1
 ·rw [if_pos c2] at H; have c2b0 : decide (1 ≤ a0) = true := decide_eq_true c2; clear c2; obtain rfl := Option.some.inj H
  go_enter Try.func91, Try.ntmps91
  go_wp2
  go_ret
  exact exD
 ·rw [if_neg c2] at H; have c2b0 : decide (1 ≤ a0) = false := decide_eq_false c2; clear c2; obtain rfl := Option.some.inj H
  go_enter Try.func91, Try.ntmps91
  go_wp2
  go_ret
  exact exD

end Go.Proofs.Ytomccmodlkdcbaa.Q
