-- PRINTED by print.py (a twelfth state) out of the translation. Not trusted: Lean checks it.
import Derived.Test.YtomccmodlkdcbaaQx0
import Derived.Test.YtomccmodlkdcbaaQx4
namespace Go.Proofs.Ytomccmodlkdcbaa.Q
open Go.RowKit Go.Proofs.YtomccmodlkdcbaaW.PrintWords Go.Proofs.YtomccmodlkdcbaaW.PrintLast Go.Proofs.YtomccmodlkdcbaaW.PrintMore
attribute [local go_sem] str_gtr str_geq str_leq max2_int min2_int max_two min_two max_three min_three max_four min_four
set_option linter.unusedVariables false
set_option maxHeartbeats 8000000
set_option maxRecDepth 1000000
set_option linter.unusedSimpArgs false

/-! ### scalar_right: function 83 -/
-- told by hand
/-- slices.IndexFunc, handed the closure. -/
theorem scalar_right.kids.index (g : S50 → Option Bool) (v1 : Value) (v2 : Value) (A0 : Option Addr) (c0 : Nat) (l0 : List (S50)) (z : Int) (w : World) (hr : Kd.C k50 w A0 l0.length l0) (hcl : ∀ (x : S50) (c : List Value) (b : Bool) (W : World), x ∈ l0 → Below w.heap.size w W → k50.K W x c → g x = some b → Calls Try.prog 94 #[.agg c.toArray, v1, v2] W fun e w' => e = .returned (.bool b) ∧ Below W.heap.size W w') (h : findE g l0 0 = some z) :
  Calls Try.prog 84 #[.slice A0 l0.length c0, .func (.func 94) #[] #[v1, v2]] w fun e w' => e = .returned (.int .i64 z) ∧ Below w.heap.size w w' := by
 have hn : l0.length ≤ 9223372036854775807 := hr.2.1; have HR := Aside0.mk hr; have HCL := Aside0.mk hcl; have HN := Aside0.mk hn; have HH := Aside0.mk h; have HAGG := Aside0.mk (show ∀ W, (isAgg 50).run Try.prog W = .ok true W from fun W => by first | exact Try.isAgg50 | exact Try.isAgg50 W | go_simp)
 have HSZ := Aside0.mk (show ∀ W, (sizeOf 50).run Try.prog W = .ok 6 W from fun W => by first | exact Try.sizeOf50 | exact Try.sizeOf50 W | go_simp)
 clear hr hcl hn h; go_enter Try.func84, Try.ntmps84
 go_wp2
 go_loopg [5, 8] l0.length (fun gg v5 s8 wr => ∃ i : Nat, i ≤ l0.length ∧ l0.length - i ≤ gg ∧ s8 = .int .i64 i ∧ Aside0 (Below w.heap.size w wr) ∧ Aside0 (findE g (l0.drop i) i = some z))
 case atStart => exact ⟨0, Nat.zero_le _, by omega, rfl, ⟨Below.refl _ w⟩, HH⟩
 case round =>
  clear HH; obtain ⟨i, hi, hg, rfl, BW, HF⟩ := hrel; have hn := HN.out; by_cases hlt : i < l0.length
  ·have hltz : (i : Int) < (l0.length : Int) := by omega
   have hi0 : (0 : Int) ≤ (i : Int) := by omega
   have hks := HF.out; rw [drop_getE z50 l0 i hlt] at hks
   simp only [findE] at hks
   obtain ⟨b, hb, hks⟩ := Option.bind_eq_some_iff.1 hks
   obtain ⟨ad, c, e0, hcl, hKu, hcell⟩ := Kd.C_elem HR.out z50 i hlt
   replace hcell : ∀ j v, c[j]? = some v → w.cell? ((ad.add (i * 6)).add j) = some v := hcell
   replace hcl : c.length = 6 := hcl
   subst e0; have HCALL := Aside0.mk (HCL.out (l0.getD i z50) c b wr (getD_mem _ _ _ hlt) BW.out (k50.K_below BW.out hKu) hb)
   have HCLN := Aside0.mk hcl; have HCELL := Aside0.mk (show ∀ j v, c[j]? = some v → wr.cell? ((ad.add (i * 6)).add j) = some v from fun j v hj => (BW.out.cell (World.block_lt_of_cell? w _ (hcell j v hj))).trans (hcell j v hj))
   clear hKu hb HF hcl hcell hn
   cases b with
   | true =>
    rw [if_pos rfl] at hks; obtain rfl := Option.some.inj hks
    clear hks
    go_wp2_with (first
     | ((with_reducible refine gate_dst (N := 15) rfl ?_); refine load_all rfl rfl (cs := c) rfl HAGG.out (fun W => by rw [HCLN.out]; exact HSZ.out W) HCELL.out ?_)
     | (go_at_call 94; refine HCALL.out.mono ?_; rintro e w' ⟨rfl, hb'⟩))
    go_ret
    exact ⟨rfl, below_step BW.out hb'⟩
   | false =>
    rw [if_neg (by decide)] at hks
    have HF := Aside0.mk hks; clear hks
    go_wp2_with (first
     | ((with_reducible refine gate_dst (N := 15) rfl ?_); refine load_all rfl rfl (cs := c) rfl HAGG.out (fun W => by rw [HCLN.out]; exact HSZ.out W) HCELL.out ?_)
     | (go_at_call 94; refine HCALL.out.mono ?_; rintro e w' ⟨rfl, hb'⟩))
    go_roundg (l0.length - (i + 1))
    case measure => omega
    case rel => have hn := HN.out; exact ⟨i + 1, by omega, by omega, by first | go_num | (congr 1; unfold wrap64; omega), ⟨below_step BW.out hb'⟩, HF⟩
  ·have hltz : ¬ (i : Int) < (l0.length : Int) := by omega
   have hks := HF.out; rw [List.drop_of_length_le (by omega)] at hks
   simp only [findE] at hks
   obtain rfl := Option.some.inj hks
   clear hks HF hn; go_wp2
   go_ret
   exact ⟨rfl, BW.out⟩
/-- slices.ContainsFunc, handed the closure. -/
theorem scalar_right.kids.contains (g : S50 → Option Bool) (v1 : Value) (v2 : Value) (A0 : Option Addr) (c0 : Nat) (l0 : List (S50)) (r : Bool) (w : World) (hr : Kd.C k50 w A0 l0.length l0) (hcl : ∀ (x : S50) (c : List Value) (b : Bool) (W : World), x ∈ l0 → Below w.heap.size w W → k50.K W x c → g x = some b → Calls Try.prog 94 #[.agg c.toArray, v1, v2] W fun e w' => e = .returned (.bool b) ∧ Below W.heap.size W w') (h : anyE g l0 = some r) :
  Calls Try.prog 64 #[.slice A0 l0.length c0, .func (.func 94) #[] #[v1, v2]] w fun e w' => e = .returned (.bool r) ∧ Below w.heap.size w w' := by
 obtain ⟨z, hz, e⟩ := findE_any g l0 0 r h
 have HI := Aside0.mk (scalar_right.kids.index g v1 v2 A0 c0 l0 z w hr hcl hz)
 clear h hz hcl hr
 cases r with
 | true =>
  have hz0 : (0 : Int) ≤ z := of_decide_eq_true e; go_enter Try.func64, Try.ntmps64
  go_wp2_with (go_at_call 84; refine HI.out.mono ?_; rintro e w' ⟨rfl, hb'⟩)
  go_ret
  exact ⟨rfl, hb'⟩
 | false =>
  have hz0 : ¬ (0 : Int) ≤ z := of_decide_eq_false e; go_enter Try.func64, Try.ntmps64
  go_wp2_with (go_at_call 84; refine HI.out.mono ?_; rintro e w' ⟨rfl, hb'⟩)
  go_ret
  exact ⟨rfl, hb'⟩
def shapeS (k : Nat) (p : S50) (cols : Int) : Option Bool := scalar_shape.f k p.f0 p.f1 p.f2 p.f3 p.f4 p.f5 cols
def rightS : Nat → S50 → Int → Int → Option Bool
 | 0, _, _, _ => none
 | k + 1, p, cols, deep => if deep = 0 then some false else (shapeS k p cols).bind fun j => if j = false then some false else (anyE (fun q => (rightS k q cols (wrap64 (deep - 1))).map (!·)) p.f5).map (!·)
def scalar_right.f (k : Nat) (a0_0 : Int) (a0_1 : Int) (a0_2 : ByteArray) (a0_3 : Int) (a0_4 : Int) (l0_5 : List (S50)) (a1 : Int) (a2 : Int) : Option Bool := rightS k ⟨a0_0, a0_1, a0_2, a0_3, a0_4, l0_5⟩ a1 a2
/-- The closure that is handed over. -/
theorem scalar_right.clo (k : Nat) (ih : ∀ (p : S50) (cs : List Value) (cols deep : Int) (r : Bool) (w : World), k50.K w p cs → rightS k p cols deep = some r → Calls Try.prog 83 #[.agg cs.toArray, .int .i64 cols, .int .i64 deep] w fun e w' => e = .returned (.bool r) ∧ Below w.heap.size w w')
  (x : S50) (c : List Value) (cols deep : Int) (b : Bool) (w : World) (Bc Bd : Nat) (hK : k50.K w x c) (hc : w.cell? ⟨Bc, 0, none⟩ = some (.int .i64 cols)) (hd : w.cell? ⟨Bd, 0, none⟩ = some (.int .i64 deep)) (h : (rightS k x cols (wrap64 (deep - 1))).map (!·) = some b) :
  Calls Try.prog 94 #[.agg c.toArray, .pointer (some ⟨Bc, 0, none⟩), .pointer (some ⟨Bd, 0, none⟩)] w fun e w' => e = .returned (.bool b) ∧ Below w.heap.size w w' := by
 obtain ⟨b2, hb2, rfl⟩ := Option.map_eq_some_iff.1 h
 have HC := Aside0.mk hc; have HD := Aside0.mk hd; have HSZ := Aside0.mk (show ∀ W, (sizeOf 50).run Try.prog W = .ok 6 W from fun W => by first | exact Try.sizeOf50 | exact Try.sizeOf50 W | go_simp)
 have HAGG := Aside0.mk (show ∀ W, (isAgg 50).run Try.prog W = .ok true W from fun W => by first | exact Try.isAgg50 | exact Try.isAgg50 W | go_simp)
 have HL6 := Aside0.mk (show c.length = 6 from k50.K_len hK)
 have HCALL := Aside0.mk (fun W (hb : Below w.heap.size w W) => ih x c cols (wrap64 (deep - 1)) b2 W (k50.K_below hb hK) hb2)
 clear hK h hc hd hb2 ih; go_enter Try.func94, Try.ntmps94
 go_wp2_with (first
  | ((with_reducible refine gate_dst (N := 3) rfl ?_); refine box_all rfl rfl (cs := c.toArray) rfl (fun W => by rw [List.size_toArray, HL6.out]; exact HSZ.out W) ?_; intro w1 hbx hbw; have BW1 := Aside0.mk hbw; have BX1 := Aside0.mk hbx; have hcc : w1.cell? ⟨Bc, 0, none⟩ = some (.int .i64 cols) := (hbw.cell (p := ⟨Bc, 0, none⟩) (World.block_lt_of_cell? w _ HC.out)).trans HC.out; have hcd : w1.cell? ⟨Bd, 0, none⟩ = some (.int .i64 deep) := (hbw.cell (p := ⟨Bd, 0, none⟩) (World.block_lt_of_cell? w _ HD.out)).trans HD.out; clear hbx hbw)
  | ((with_reducible refine gate_dst (N := 5) rfl ?_); refine load_all rfl rfl (cs := c) rfl HAGG.out (fun W => by rw [HL6.out]; exact HSZ.out W) (blk_cells BX1.out) ?_)
  | (go_at_call 83; refine (HCALL.out _ BW1.out).mono ?_; rintro e w5 ⟨rfl, hb5⟩; have BW5 := Aside0.mk (below_step BW1.out hb5); clear hb5))
 go_ret
 exact ⟨rfl, BW5.out⟩
theorem scalar_right.core (k : Nat) : ∀ (p : S50) (cs : List Value) (cols deep : Int) (r : Bool) (w : World), k50.K w p cs → rightS k p cols deep = some r →
  Calls Try.prog 83 #[.agg cs.toArray, .int .i64 cols, .int .i64 deep] w fun e w' => e = .returned (.bool r) ∧ Below w.heap.size w w' := by
 have HSZ := Aside0.mk (show ∀ W, (sizeOf 50).run Try.prog W = .ok 6 W from fun W => by first | exact Try.sizeOf50 | exact Try.sizeOf50 W | go_simp)
 have HAGG := Aside0.mk (show ∀ W, (isAgg 50).run Try.prog W = .ok true W from fun W => by first | exact Try.isAgg50 | exact Try.isAgg50 W | go_simp)
 induction k with
 | zero => intro p cs cols deep r w _ h; cases h
 | succ k ih =>
 intro p cs cols deep r w hK h
 have hup := Try.underlying50; unfold rightS at h
 have HL6 := Aside0.mk (show cs.length = 6 from k50.K_len hK)
 obtain ⟨A5, c5, ecs, hl5, hk5⟩ := k50_open hK
 have H5 := Aside0.mk (show cs[5]? = some (.slice A5 p.f5.length c5) from by rw [ecs]; rfl)
 have HSH0 := Aside0.mk (fun (b : Bool) (hlf : shapeS k p cols = some b) W (hb : Below w.heap.size w W) => show Calls Try.prog 93 #[.agg cs.toArray, .int .i64 cols] W (fun e w' => e = .returned (.bool b) ∧ Below W.heap.size W w') from by rw [ecs]; exact scalar_shape.calls k p.f0 p.f1 p.f2 p.f3 p.f4 A5 c5 p.f5 cols b W (Kd.C_below hk5 hb) hl5 hlf)
 have HK5 := Aside0.mk hk5; have IH := Aside0.mk ih; clear hK hk5 hl5 ih ecs; by_cases q0 : deep = 0
 ·rw [if_pos q0] at h; obtain rfl := Option.some.inj h
  have q0b : (deep == 0) = true := beq_iff_eq.mpr q0; clear h q0 HSH0; go_enter Try.func83, Try.ntmps83
  go_wp2_with (first
   | ((with_reducible refine gate_dst (N := 3) rfl ?_); refine box_all rfl rfl (cs := cs.toArray) rfl (fun W => by rw [List.size_toArray, HL6.out]; exact HSZ.out W) ?_; intro w1 hbx hbw; have BW1 := Aside0.mk hbw; have BX1 := Aside0.mk hbx; clear hbx hbw)
   | ((with_reducible refine gate_dst (N := 4) rfl ?_); refine box_num rfl rfl (k := .i64) (n := cols) rfl ?_; intro w2 hbx hbw; have BW2 := Aside0.mk (below_step BW1.out hbw); have BX2 := Aside0.mk (blk_keep hbw BX1.out); have CC2 := Aside0.mk hbx; clear hbx hbw BW1 BX1)
   | ((with_reducible refine gate_dst (N := 5) rfl ?_); refine box_num rfl rfl (k := .i64) (n := deep) rfl ?_; intro w3 hbx hbw; have BW3 := Aside0.mk (below_step BW2.out hbw); have BX3 := Aside0.mk (blk_keep hbw BX2.out); have CC3 := Aside0.mk (blk_keep hbw CC2.out); have CD3 := Aside0.mk hbx; clear hbx hbw BW2 BX2 CC2; have hcv5 : w3.cell? ⟨w.heap.size, 5, none⟩ = some (.slice A5 p.f5.length c5) := blk_cells BX3.out 5 _ H5.out; have hcc : w3.cell? ⟨w1.heap.size, 0, none⟩ = some (.int .i64 cols) := cell0_of CC3.out; have hcd : w3.cell? ⟨w2.heap.size, 0, none⟩ = some (.int .i64 deep) := cell0_of CD3.out))
  go_ret
  exact ⟨rfl, BW3.out⟩
 rw [if_neg q0] at h; have q0b : (deep == 0) = false := beq_eq_false_iff_ne.mpr q0; clear q0; obtain ⟨j, hj, h⟩ := Option.bind_eq_some_iff.1 h
 have HSH := Aside0.mk (HSH0.out j hj)
 clear HSH0 hj
 cases j with
 | false =>
  rw [if_pos rfl] at h; obtain rfl := Option.some.inj h
  clear h; go_enter Try.func83, Try.ntmps83
  go_wp2_with (first
   | ((with_reducible refine gate_dst (N := 3) rfl ?_); refine box_all rfl rfl (cs := cs.toArray) rfl (fun W => by rw [List.size_toArray, HL6.out]; exact HSZ.out W) ?_; intro w1 hbx hbw; have BW1 := Aside0.mk hbw; have BX1 := Aside0.mk hbx; clear hbx hbw)
   | ((with_reducible refine gate_dst (N := 4) rfl ?_); refine box_num rfl rfl (k := .i64) (n := cols) rfl ?_; intro w2 hbx hbw; have BW2 := Aside0.mk (below_step BW1.out hbw); have BX2 := Aside0.mk (blk_keep hbw BX1.out); have CC2 := Aside0.mk hbx; clear hbx hbw BW1 BX1)
   | ((with_reducible refine gate_dst (N := 5) rfl ?_); refine box_num rfl rfl (k := .i64) (n := deep) rfl ?_; intro w3 hbx hbw; have BW3 := Aside0.mk (below_step BW2.out hbw); have BX3 := Aside0.mk (blk_keep hbw BX2.out); have CC3 := Aside0.mk (blk_keep hbw CC2.out); have CD3 := Aside0.mk hbx; clear hbx hbw BW2 BX2 CC2; have hcv5 : w3.cell? ⟨w.heap.size, 5, none⟩ = some (.slice A5 p.f5.length c5) := blk_cells BX3.out 5 _ H5.out; have hcc : w3.cell? ⟨w1.heap.size, 0, none⟩ = some (.int .i64 cols) := cell0_of CC3.out; have hcd : w3.cell? ⟨w2.heap.size, 0, none⟩ = some (.int .i64 deep) := cell0_of CD3.out)
   | ((with_reducible refine gate_dst (N := 10) rfl ?_); (try (refine gate_guard (by rfl) ?_; dsimp only)); refine load_all rfl rfl (cs := cs) rfl HAGG.out (fun W => by rw [HL6.out]; exact HSZ.out W) (blk_cells BX3.out) ?_)
   | (go_at_call 93; refine (HSH.out _ BW3.out).mono ?_; rintro e w4 ⟨rfl, hb4⟩; have BW4 := Aside0.mk (below_step BW3.out hb4); have BX4 := Aside0.mk (blk_keep hb4 BX3.out); have CC4 := Aside0.mk (blk_keep hb4 CC3.out); have CD4 := Aside0.mk (blk_keep hb4 CD3.out); clear hb4 BW3 BX3 CC3 CD3; clear hcv5 hcc hcd; have hcv5 : w4.cell? ⟨w.heap.size, 5, none⟩ = some (.slice A5 p.f5.length c5) := blk_cells BX4.out 5 _ H5.out; have hcc : w4.cell? ⟨w1.heap.size, 0, none⟩ = some (.int .i64 cols) := cell0_of CC4.out; have hcd : w4.cell? ⟨w2.heap.size, 0, none⟩ = some (.int .i64 deep) := cell0_of CD4.out))
  go_ret
  exact ⟨rfl, BW4.out⟩
 | true =>
 rw [if_neg (by decide)] at h
 obtain ⟨z, hz, rfl⟩ := Option.map_eq_some_iff.1 h
 have HCT := Aside0.mk (fun W (Bc Bd : Nat) (hb : Below w.heap.size w W) (hc : W.heap[Bc]? = some (.cells #[.int .i64 cols] 3 (0, 0))) (hd : W.heap[Bd]? = some (.cells #[.int .i64 deep] 3 (0, 0))) => scalar_right.kids.contains (fun q => (rightS k q cols (wrap64 (deep - 1))).map (!·)) (.pointer (some ⟨Bc, 0, none⟩)) (.pointer (some ⟨Bd, 0, none⟩)) A5 c5 p.f5 z W (Kd.C_below HK5.out hb) (fun x c b W2 _ hb2 hKx hg => scalar_right.clo k IH.out x c cols deep b W2 Bc Bd hKx (cell0_of (blk_keep hb2 hc)) (cell0_of (blk_keep hb2 hd)) hg) hz)
 clear h hz; go_enter Try.func83, Try.ntmps83
 go_wp2_with (first
  | ((with_reducible refine gate_dst (N := 3) rfl ?_); refine box_all rfl rfl (cs := cs.toArray) rfl (fun W => by rw [List.size_toArray, HL6.out]; exact HSZ.out W) ?_; intro w1 hbx hbw; have BW1 := Aside0.mk hbw; have BX1 := Aside0.mk hbx; clear hbx hbw)
  | ((with_reducible refine gate_dst (N := 4) rfl ?_); refine box_num rfl rfl (k := .i64) (n := cols) rfl ?_; intro w2 hbx hbw; have BW2 := Aside0.mk (below_step BW1.out hbw); have BX2 := Aside0.mk (blk_keep hbw BX1.out); have CC2 := Aside0.mk hbx; clear hbx hbw BW1 BX1)
  | ((with_reducible refine gate_dst (N := 5) rfl ?_); refine box_num rfl rfl (k := .i64) (n := deep) rfl ?_; intro w3 hbx hbw; have BW3 := Aside0.mk (below_step BW2.out hbw); have BX3 := Aside0.mk (blk_keep hbw BX2.out); have CC3 := Aside0.mk (blk_keep hbw CC2.out); have CD3 := Aside0.mk hbx; clear hbx hbw BW2 BX2 CC2; have hcv5 : w3.cell? ⟨w.heap.size, 5, none⟩ = some (.slice A5 p.f5.length c5) := blk_cells BX3.out 5 _ H5.out; have hcc : w3.cell? ⟨w1.heap.size, 0, none⟩ = some (.int .i64 cols) := cell0_of CC3.out; have hcd : w3.cell? ⟨w2.heap.size, 0, none⟩ = some (.int .i64 deep) := cell0_of CD3.out)
  | ((with_reducible refine gate_dst (N := 10) rfl ?_); (try (refine gate_guard (by rfl) ?_; dsimp only)); refine load_all rfl rfl (cs := cs) rfl HAGG.out (fun W => by rw [HL6.out]; exact HSZ.out W) (blk_cells BX3.out) ?_)
  | (go_at_call 93; refine (HSH.out _ BW3.out).mono ?_; rintro e w4 ⟨rfl, hb4⟩; have BW4 := Aside0.mk (below_step BW3.out hb4); have BX4 := Aside0.mk (blk_keep hb4 BX3.out); have CC4 := Aside0.mk (blk_keep hb4 CC3.out); have CD4 := Aside0.mk (blk_keep hb4 CD3.out); clear hb4 BW3 BX3 CC3 CD3; clear hcv5 hcc hcd; have hcv5 : w4.cell? ⟨w.heap.size, 5, none⟩ = some (.slice A5 p.f5.length c5) := blk_cells BX4.out 5 _ H5.out; have hcc : w4.cell? ⟨w1.heap.size, 0, none⟩ = some (.int .i64 cols) := cell0_of CC4.out; have hcd : w4.cell? ⟨w2.heap.size, 0, none⟩ = some (.int .i64 deep) := cell0_of CD4.out)
  | (go_at_call 64; refine (HCT.out _ w1.heap.size w2.heap.size BW4.out CC4.out CD4.out).mono ?_; rintro e w5 ⟨rfl, hb5⟩; have BW5 := Aside0.mk (below_step BW4.out hb5); clear hb5))
 go_ret
 exact ⟨rfl, BW5.out⟩
theorem rightS_mono : ∀ k p cols deep, LeO (rightS k p cols deep) (rightS (k + 1) p cols deep)
 | 0, p, cols, deep => fun r hr => by cases hr
 | k + 1, p, cols, deep => by
  unfold rightS
  exact LeO.ite' LeO.same (LeO.bind' (show LeO (shapeS k p cols) (shapeS (k + 1) p cols) from scalar_shape.mono _ _ _ _ _ _ _ k) fun j => LeO.ite' LeO.same (LeO.map' (anyE_mono (fun q => LeO.map' (rightS_mono k q cols _)) _)))
theorem scalar_right.mono : ∀ y0 y1 y2 y3 y4 y5 y6 y7 k, LeO (scalar_right.f k y0 y1 y2 y3 y4 y5 y6 y7) (scalar_right.f (k + 1) y0 y1 y2 y3 y4 y5 y6 y7) := fun _ _ _ _ _ _ _ _ k => rightS_mono k _ _ _
theorem scalar_right.calls (k : Nat) (a0_0 : Int) (a0_1 : Int) (a0_2 : ByteArray) (a0_3 : Int) (a0_4 : Int) (A0_5 : Option Addr) (c0_5 : Nat) (l0_5 : List (S50)) (a1 : Int) (a2 : Int) (r : Bool) (w : World) (hr0_5 : Kd.C k50 w A0_5 l0_5.length l0_5) (hc0_5 : l0_5.length ≤ c0_5) (h : scalar_right.f k a0_0 a0_1 a0_2 a0_3 a0_4 l0_5 a1 a2 = some r) :
  Calls Try.prog 83 #[.agg #[.int .i64 a0_0, .int .i64 a0_1, .string a0_2, .int .i64 a0_3, .int .i64 a0_4, .slice A0_5 l0_5.length c0_5], .int .i64 a1, .int .i64 a2] w fun e w' => e = .returned (.bool r) ∧ Below w.heap.size w w' :=
 scalar_right.core k ⟨a0_0, a0_1, a0_2, a0_3, a0_4, l0_5⟩ _ a1 a2 r w (k50_mk w ⟨a0_0, a0_1, a0_2, a0_3, a0_4, l0_5⟩ hc0_5 hr0_5) h

/-! ### scalar_Right: function 63 -/
def scalar_Right.f (k : Nat) (a0_0 : Int) (a0_1 : Int) (a0_2 : ByteArray) (a0_3 : Int) (a0_4 : Int) (l0_5 : List (S50)) (a1 : Int) : Option (Bool) := (scalar_right.f k a0_0 a0_1 a0_2 a0_3 a0_4 l0_5 a1 12).bind fun t118 => (some t118)
theorem scalar_Right.mono : ∀ a0 a1 a2 a3 a4 a5 a6 k, LeO (scalar_Right.f k a0 a1 a2 a3 a4 a5 a6) (scalar_Right.f (k + 1) a0 a1 a2 a3 a4 a5 a6) := by
 intro a0 a1 a2 a3 a4 a5 a6 k
 unfold scalar_Right.f
 repeat' first
   | (with_reducible exact scalar_right.mono _ _ _ _ _ _ _ _ _)
   | (with_reducible exact LeO.refl _)
   | (with_reducible exact LeO.none _)
   | (with_reducible refine LeO.ite ?_ ?_)
   | (with_reducible refine LeO.bind ?_ (fun _ => ?_))
   | exact scalar_right.mono _ _ _ _ _ _ _ _ _
   | exact LeO.none _
   | refine LeO.ite ?_ ?_
   | refine LeO.bind ?_ (fun _ => ?_)
theorem scalar_Right.calls (k : Nat) (a0_0 : Int) (a0_1 : Int) (a0_2 : ByteArray) (a0_3 : Int) (a0_4 : Int) (A0_5 : Option Addr) (c0_5 : Nat) (l0_5 : List (S50)) (a1 : Int) (r : Bool) (w : World) (hr0_5 : Kd.C k50 w A0_5 l0_5.length l0_5) (hc0_5 : l0_5.length ≤ c0_5) (h : scalar_Right.f k a0_0 a0_1 a0_2 a0_3 a0_4 l0_5 a1 = some r) :
  Calls Try.prog 63 #[.agg #[.int .i64 a0_0, .int .i64 a0_1, .string a0_2, .int .i64 a0_3, .int .i64 a0_4, .slice A0_5 l0_5.length c0_5], .int .i64 a1] w fun e w' => e = .returned (.bool r) ∧ Below w.heap.size w w' := by
 have hu50 := Try.underlying50; have HR0_5 := Aside0.mk hr0_5; have HC0_5 := Aside0.mk hc0_5; clear hr0_5 hc0_5; have HB := Aside0.mk (Below.refl w.heap.size w)
 have H : ((scalar_right.f k a0_0 a0_1 a0_2 a0_3 a0_4 l0_5 a1 12).bind fun t118 => (some t118)) = some r := h; clear h; replace H := Option.bind_eq_some_iff.mp H; obtain ⟨t118, A30, H⟩ := H; replace H : (some t118) = some r := H
 have A3 := Aside0.mk A30; clear A30; obtain rfl := Option.some.inj H
 go_enter Try.func63, Try.ntmps63
 go_wp2_with (first | ((with_reducible refine gate_dst (N := 2) rfl ?_); refine box_event ?hg (N := 2) ?hd (cs := #[.int .i64 a0_0, .int .i64 a0_1, .string a0_2, .int .i64 a0_3, .int .i64 a0_4, .slice A0_5 l0_5.length c0_5]) (t := 50) ?hr ?_; (case hd => rfl); (case hg => rfl); (case hr => first | (go_simp; done) | (go_simp; rfl) | (go_simp; simp (disch := omega) only [Go.u8_and63, Go.u8_and31, Go.u8_and15, Go.u8_and7, Go.u8_or128, Go.u8_or192, Go.u8_or224, Go.u8_or240, m64]; done)); intro gb117 hg w4 hbox hb; have n0_ := Aside0.mk (below_step (mvB HB.out) hb); have n1_ := Aside0.mk (hbox); have n2_ := Aside0.mk ((by rw [hg]; exact (below_size (mvB HB.out)) : w.heap.size ≤ gb117)); have n3_ := Aside0.mk ((by rw [hg]; exact (below_size (mvB HB.out)) : w.heap.size ≤ gb117)); clear HB; have HB := n0_; have BK117 := n1_; have GW117 := n2_; have GE117 := n3_; clear n0_ n1_ n2_ n3_; clear hb hbox hg; have hcz5_0 : w4.cell? ⟨gb117, 0, none⟩ = some (.int .i64 a0_0) := (blk_cell BK117.out 0).trans rfl; have hcz5_1 : w4.cell? ⟨gb117, 1, none⟩ = some (.int .i64 a0_1) := (blk_cell BK117.out 1).trans rfl; have hcz5_2 : w4.cell? ⟨gb117, 2, none⟩ = some (.string a0_2) := (blk_cell BK117.out 2).trans rfl; have hcz5_3 : w4.cell? ⟨gb117, 3, none⟩ = some (.int .i64 a0_3) := (blk_cell BK117.out 3).trans rfl; have hcz5_4 : w4.cell? ⟨gb117, 4, none⟩ = some (.int .i64 a0_4) := (blk_cell BK117.out 4).trans rfl; have hcz5_5 : w4.cell? ⟨gb117, 5, none⟩ = some (.slice A0_5 l0_5.length c0_5) := (blk_cell BK117.out 5).trans rfl; have hfz5_0 := blk_frozen BK117.out 0; have hfz5_1 := blk_frozen BK117.out 1; have hfz5_2 := blk_frozen BK117.out 2; have hfz5_3 := blk_frozen BK117.out 3; have hfz5_4 := blk_frozen BK117.out 4; have hfz5_5 := blk_frozen BK117.out 5) | ((with_reducible refine gate_callee (f := 83) rfl ?_); refine goesL_ (some 7) rfl rfl Try.func83 (by kernel_rfl) rfl #[.agg #[.int .i64 a0_0, .int .i64 a0_1, .string a0_2, .int .i64 a0_3, .int .i64 a0_4, .slice A0_5 l0_5.length c0_5], .int .i64 a1, .int .i64 12] rfl (by (try simp only [List.map_toArray, List.map_cons, List.map_nil]); first | done | rfl | (simp only [List.length_drop, List.length_take]; rfl)) ?_; (with_reducible refine (scalar_right.calls k a0_0 a0_1 a0_2 a0_3 a0_4 _ _ l0_5 a1 12 t118 _ ?side1 ?side2 A3.out).mono ?_); (case side1 => repeat (first | exact (Kd.C_below HR0_5.out HB.out) | (with_reducible refine Kd.C_alloc ?_ _) | (with_reducible refine Kd.C_drewN ?_ _) | (with_reducible refine Kd.C_drew ?_))); (case side2 => exact HC0_5.out); rintro e w6 ⟨rfl, hb⟩; refine ⟨_, rfl, ?_⟩; have n0_ := Aside0.mk (blk_below (g := gb117) (o := .cells #[.int .i64 a0_0, .int .i64 a0_1, .string a0_2, .int .i64 a0_3, .int .i64 a0_4, .slice A0_5 l0_5.length c0_5] 50 (0, 0)) (mvK BK117.out) hb); have n1_ := Aside0.mk (below_step (mvG HB.out GE117.out) hb); clear BK117; clear HB; have BK117 := n0_; have HB := n1_; clear n0_ n1_; (try clear hb); (try clear hb2); (try clear hk); (try clear hi)))
 go_ret
 exact exB (mvG HB.out GE117.out)

/-! ### plan_exprs: function 44 -/
-- told by hand
/-- slices.IndexFunc, handed the closure. -/
theorem plan_exprs.list.index (g : S50 → Option Bool) (v1 : Value) (A0 : Option Addr) (c0 : Nat) (l0 : List (S50)) (z : Int) (w : World) (hr : Kd.C k50 w A0 l0.length l0) (hcl : ∀ (x : S50) (c : List Value) (b : Bool) (W : World), x ∈ l0 → Below w.heap.size w W → k50.K W x c → g x = some b → Calls Try.prog 62 #[.agg c.toArray, v1] W fun e w' => e = .returned (.bool b) ∧ Below W.heap.size W w') (h : findE g l0 0 = some z) :
  Calls Try.prog 84 #[.slice A0 l0.length c0, .func (.func 62) #[] #[v1]] w fun e w' => e = .returned (.int .i64 z) ∧ Below w.heap.size w w' := by
 have hn : l0.length ≤ 9223372036854775807 := hr.2.1; have HR := Aside0.mk hr; have HCL := Aside0.mk hcl; have HN := Aside0.mk hn; have HH := Aside0.mk h; have HAGG := Aside0.mk (show ∀ W, (isAgg 50).run Try.prog W = .ok true W from fun W => by first | exact Try.isAgg50 | exact Try.isAgg50 W | go_simp)
 have HSZ := Aside0.mk (show ∀ W, (sizeOf 50).run Try.prog W = .ok 6 W from fun W => by first | exact Try.sizeOf50 | exact Try.sizeOf50 W | go_simp)
 clear hr hcl hn h; go_enter Try.func84, Try.ntmps84
 go_wp2
 go_loopg [5, 8] l0.length (fun gg v5 s8 wr => ∃ i : Nat, i ≤ l0.length ∧ l0.length - i ≤ gg ∧ s8 = .int .i64 i ∧ Aside0 (Below w.heap.size w wr) ∧ Aside0 (findE g (l0.drop i) i = some z))
 case atStart => exact ⟨0, Nat.zero_le _, by omega, rfl, ⟨Below.refl _ w⟩, HH⟩
 case round =>
  clear HH; obtain ⟨i, hi, hg, rfl, BW, HF⟩ := hrel; have hn := HN.out; by_cases hlt : i < l0.length
  ·have hltz : (i : Int) < (l0.length : Int) := by omega
   have hi0 : (0 : Int) ≤ (i : Int) := by omega
   have hks := HF.out; rw [drop_getE z50 l0 i hlt] at hks
   simp only [findE] at hks
   obtain ⟨b, hb, hks⟩ := Option.bind_eq_some_iff.1 hks
   obtain ⟨ad, c, e0, hcl, hKu, hcell⟩ := Kd.C_elem HR.out z50 i hlt
   replace hcell : ∀ j v, c[j]? = some v → w.cell? ((ad.add (i * 6)).add j) = some v := hcell
   replace hcl : c.length = 6 := hcl
   subst e0; have HCALL := Aside0.mk (HCL.out (l0.getD i z50) c b wr (getD_mem _ _ _ hlt) BW.out (k50.K_below BW.out hKu) hb)
   have HCLN := Aside0.mk hcl; have HCELL := Aside0.mk (show ∀ j v, c[j]? = some v → wr.cell? ((ad.add (i * 6)).add j) = some v from fun j v hj => (BW.out.cell (World.block_lt_of_cell? w _ (hcell j v hj))).trans (hcell j v hj))
   clear hKu hb HF hcl hcell hn
   cases b with
   | true =>
    rw [if_pos rfl] at hks; obtain rfl := Option.some.inj hks
    clear hks
    go_wp2_with (first
     | ((with_reducible refine gate_dst (N := 15) rfl ?_); refine load_all rfl rfl (cs := c) rfl HAGG.out (fun W => by rw [HCLN.out]; exact HSZ.out W) HCELL.out ?_)
     | (go_at_call 62; refine HCALL.out.mono ?_; rintro e w' ⟨rfl, hb'⟩))
    go_ret
    exact ⟨rfl, below_step BW.out hb'⟩
   | false =>
    rw [if_neg (by decide)] at hks
    have HF := Aside0.mk hks; clear hks
    go_wp2_with (first
     | ((with_reducible refine gate_dst (N := 15) rfl ?_); refine load_all rfl rfl (cs := c) rfl HAGG.out (fun W => by rw [HCLN.out]; exact HSZ.out W) HCELL.out ?_)
     | (go_at_call 62; refine HCALL.out.mono ?_; rintro e w' ⟨rfl, hb'⟩))
    go_roundg (l0.length - (i + 1))
    case measure => omega
    case rel => have hn := HN.out; exact ⟨i + 1, by omega, by omega, by first | go_num | (congr 1; unfold wrap64; omega), ⟨below_step BW.out hb'⟩, HF⟩
  ·have hltz : ¬ (i : Int) < (l0.length : Int) := by omega
   have hks := HF.out; rw [List.drop_of_length_le (by omega)] at hks
   simp only [findE] at hks
   obtain rfl := Option.some.inj hks
   clear hks HF hn; go_wp2
   go_ret
   exact ⟨rfl, BW.out⟩
/-- slices.ContainsFunc, handed the closure. -/
theorem plan_exprs.list.contains (g : S50 → Option Bool) (v1 : Value) (A0 : Option Addr) (c0 : Nat) (l0 : List (S50)) (r : Bool) (w : World) (hr : Kd.C k50 w A0 l0.length l0) (hcl : ∀ (x : S50) (c : List Value) (b : Bool) (W : World), x ∈ l0 → Below w.heap.size w W → k50.K W x c → g x = some b → Calls Try.prog 62 #[.agg c.toArray, v1] W fun e w' => e = .returned (.bool b) ∧ Below W.heap.size W w') (h : anyE g l0 = some r) :
  Calls Try.prog 64 #[.slice A0 l0.length c0, .func (.func 62) #[] #[v1]] w fun e w' => e = .returned (.bool r) ∧ Below w.heap.size w w' := by
 obtain ⟨z, hz, e⟩ := findE_any g l0 0 r h
 have HI := Aside0.mk (plan_exprs.list.index g v1 A0 c0 l0 z w hr hcl hz)
 clear h hz hcl hr
 cases r with
 | true =>
  have hz0 : (0 : Int) ≤ z := of_decide_eq_true e; go_enter Try.func64, Try.ntmps64
  go_wp2_with (go_at_call 84; refine HI.out.mono ?_; rintro e w' ⟨rfl, hb'⟩)
  go_ret
  exact ⟨rfl, hb'⟩
 | false =>
  have hz0 : ¬ (0 : Int) ≤ z := of_decide_eq_false e; go_enter Try.func64, Try.ntmps64
  go_wp2_with (go_at_call 84; refine HI.out.mono ?_; rintro e w' ⟨rfl, hb'⟩)
  go_ret
  exact ⟨rfl, hb'⟩
def exprW (k : Nat) (cols : Int) (p : S50) : Option Bool := (scalar_Right.f k p.f0 p.f1 p.f2 p.f3 p.f4 p.f5 cols).map (!·)
def plan_exprs.f (k : Nat) (l0 : List (S50)) (a1 : Int) : Option Bool := if l0.length < 1 then some false else if 8 < l0.length then some false else (anyE (exprW k a1) l0).map (!·)
/-- The closure that is handed over. -/
theorem plan_exprs.clo (k : Nat) (x : S50) (c : List Value) (cols : Int) (b : Bool) (w : World) (Bc : Nat) (hK : k50.K w x c) (hc : w.cell? ⟨Bc, 0, none⟩ = some (.int .i64 cols)) (h : exprW k cols x = some b) :
  Calls Try.prog 62 #[.agg c.toArray, .pointer (some ⟨Bc, 0, none⟩)] w fun e w' => e = .returned (.bool b) ∧ Below w.heap.size w w' := by
 unfold exprW at h
 obtain ⟨b2, hb2, rfl⟩ := Option.map_eq_some_iff.1 h
 have HC := Aside0.mk hc; have HSZ := Aside0.mk (show ∀ W, (sizeOf 50).run Try.prog W = .ok 6 W from fun W => by first | exact Try.sizeOf50 | exact Try.sizeOf50 W | go_simp)
 have HAGG := Aside0.mk (show ∀ W, (isAgg 50).run Try.prog W = .ok true W from fun W => by first | exact Try.isAgg50 | exact Try.isAgg50 W | go_simp)
 have HL6 := Aside0.mk (show c.length = 6 from k50.K_len hK)
 obtain ⟨A5, c5, ecs, hl5, hk5⟩ := k50_open hK
 have HCALL := Aside0.mk (fun W (hb : Below w.heap.size w W) => show Calls Try.prog 63 #[.agg c.toArray, .int .i64 cols] W (fun e w' => e = .returned (.bool b2) ∧ Below W.heap.size W w') from by rw [ecs]; exact scalar_Right.calls k x.f0 x.f1 x.f2 x.f3 x.f4 A5 c5 x.f5 cols b2 W (Kd.C_below hk5 hb) hl5 hb2)
 clear hK h hc hb2 ecs hl5 hk5; go_enter Try.func62, Try.ntmps62
 go_wp2_with (first
  | ((with_reducible refine gate_dst (N := 2) rfl ?_); refine box_all rfl rfl (cs := c.toArray) rfl (fun W => by rw [List.size_toArray, HL6.out]; exact HSZ.out W) ?_; intro w1 hbx hbw; have BW1 := Aside0.mk hbw; have BX1 := Aside0.mk hbx; have hcc : w1.cell? ⟨Bc, 0, none⟩ = some (.int .i64 cols) := (hbw.cell (p := ⟨Bc, 0, none⟩) (World.block_lt_of_cell? w _ HC.out)).trans HC.out; clear hbx hbw)
  | ((with_reducible refine gate_dst (N := 4) rfl ?_); refine load_all rfl rfl (cs := c) rfl HAGG.out (fun W => by rw [HL6.out]; exact HSZ.out W) (blk_cells BX1.out) ?_)
  | (go_at_call 63; refine (HCALL.out _ BW1.out).mono ?_; rintro e w5 ⟨rfl, hb5⟩; have BW5 := Aside0.mk (below_step BW1.out hb5); clear hb5))
 go_ret
 exact ⟨rfl, BW5.out⟩
theorem plan_exprs.calls (k : Nat) (A0 : Option Addr) (c0 : Nat) (l0 : List (S50)) (a1 : Int) (r : Bool) (w : World) (hr0 : Kd.C k50 w A0 l0.length l0) (hc0 : l0.length ≤ c0) (h : plan_exprs.f k l0 a1 = some r) :
  Calls Try.prog 44 #[.slice A0 l0.length c0, .int .i64 a1] w fun e w' => e = .returned (.bool r) ∧ Below w.heap.size w w' := by
 unfold plan_exprs.f at h
 have HK := Aside0.mk hr0; clear hr0; by_cases q1 : l0.length < 1
 ·rw [if_pos q1] at h; obtain rfl := Option.some.inj h
  have q1a : decide (1 ≤ l0.length) = false := decide_eq_false (by omega)
  have q1b : decide ((1 : Int) ≤ (l0.length : Int)) = false := decide_eq_false (by omega)
  clear h; go_enter Try.func44, Try.ntmps44
  go_wp2_with (first
   | ((with_reducible refine gate_dst (N := 3) rfl ?_); refine box_num rfl rfl (k := .i64) (n := a1) rfl ?_; intro w1 hbx hbw; have BW1 := Aside0.mk hbw; have CC1 := Aside0.mk hbx; clear hbx hbw))
  go_ret
  exact ⟨rfl, BW1.out⟩
 rw [if_neg q1] at h; have q1a : decide (1 ≤ l0.length) = true := decide_eq_true (by omega)
 have q1b : decide ((1 : Int) ≤ (l0.length : Int)) = true := decide_eq_true (by omega)
 by_cases q2 : 8 < l0.length
 ·rw [if_pos q2] at h; obtain rfl := Option.some.inj h
  have q2a : decide (l0.length ≤ 8) = false := decide_eq_false (by omega)
  have q2b : decide ((l0.length : Int) ≤ (8 : Int)) = false := decide_eq_false (by omega)
  clear h; go_enter Try.func44, Try.ntmps44
  go_wp2_with (first
   | ((with_reducible refine gate_dst (N := 3) rfl ?_); refine box_num rfl rfl (k := .i64) (n := a1) rfl ?_; intro w1 hbx hbw; have BW1 := Aside0.mk hbw; have CC1 := Aside0.mk hbx; clear hbx hbw))
  go_ret
  exact ⟨rfl, BW1.out⟩
 rw [if_neg q2] at h; have q2a : decide (l0.length ≤ 8) = true := decide_eq_true (by omega)
 have q2b : decide ((l0.length : Int) ≤ (8 : Int)) = true := decide_eq_true (by omega)
 obtain ⟨z, hz, rfl⟩ := Option.map_eq_some_iff.1 h
 have HCT := Aside0.mk (fun W (Bc : Nat) (hb : Below w.heap.size w W) (hc : W.heap[Bc]? = some (.cells #[.int .i64 a1] 3 (0, 0))) => plan_exprs.list.contains (exprW k a1) (.pointer (some ⟨Bc, 0, none⟩)) A0 c0 l0 z W (Kd.C_below HK.out hb) (fun x c b W2 _ hb2 hKx hg => plan_exprs.clo k x c a1 b W2 Bc hKx (cell0_of (blk_keep hb2 hc)) hg) hz)
 clear h hz; go_enter Try.func44, Try.ntmps44
 go_wp2_with (first
  | ((with_reducible refine gate_dst (N := 3) rfl ?_); refine box_num rfl rfl (k := .i64) (n := a1) rfl ?_; intro w1 hbx hbw; have BW1 := Aside0.mk hbw; have CC1 := Aside0.mk hbx; clear hbx hbw)
  | (go_at_call 64; refine (HCT.out _ w.heap.size BW1.out CC1.out).mono ?_; rintro e w5 ⟨rfl, hb5⟩; have BW5 := Aside0.mk (below_step BW1.out hb5); clear hb5))
 go_ret
 exact ⟨rfl, BW5.out⟩
theorem plan_exprs.mono : ∀ y0 y1 k, LeO (plan_exprs.f k y0 y1) (plan_exprs.f (k + 1) y0 y1) := fun y0 y1 k => by
 unfold plan_exprs.f
 exact LeO.ite' LeO.same (LeO.ite' LeO.same (LeO.map' (anyE_mono (fun q => LeO.map' (scalar_Right.mono _ _ _ _ _ _ _ k)) _)))

/-! ### group_Right: function 45 -/
-- told by hand
def colB (n x : Int) : Bool := decide (0 ≤ x) && decide (x < n)
def aggBad (n : Int) (a : S72) : Bool := decide (a.f0 < 1) || (decide (5 < a.f0) || ((a.f0 == 1 && a.f1 != 0) || (a.f0 != 1 && !colB n a.f1)))
def group_Right.f (l0 : List Int) (l1 : List (S72)) (a2 : Int) : Option Bool := if 8 < l0.length then some false else if 8 < l1.length then some false else if l0.length + l1.length < 1 then some false else
 (anyE (fun c => some (!colB a2 c)) l0).bind fun b => if b = true then some false else (anyE (fun a => some (aggBad a2 a)) l1).map (!·)
/-- The first closure: is a number a column's. -/
theorem group_Right.col (n x : Int) (B : Nat) (w : World) (hc : w.cell? ⟨B, 0, none⟩ = some (.int .i64 n)) :
  Calls Try.prog 65 #[.int .i64 x, .pointer (some ⟨B, 0, none⟩)] w fun e w' => e = .returned (.bool (colB n x)) ∧ Below w.heap.size w w' := by
 unfold colB
 cases d0 : decide (0 ≤ x) with
 | false =>
  go_enter Try.func65, Try.ntmps65
  go_wp2
  go_ret
  exact ⟨by simp, Below.refl _ _⟩
 | true =>
  cases d1 : decide (x < n) <;>
  ·go_enter Try.func65, Try.ntmps65
   go_wp2
   go_ret
   exact ⟨by simp, Below.refl _ _⟩
/-- The third: is it none. -/
theorem group_Right.nocol (n x : Int) (B F : Nat) (w : World) (hc : w.cell? ⟨B, 0, none⟩ = some (.int .i64 n)) (hf : w.cell? ⟨F, 0, none⟩ = some (.func (.func 65) #[] #[.pointer (some ⟨B, 0, none⟩)])) :
  Calls Try.prog 68 #[.int .i64 x, .pointer (some ⟨F, 0, none⟩)] w fun e w' => e = .returned (.bool (!colB n x)) ∧ Below w.heap.size w w' := by
 have HC := Aside0.mk (group_Right.col n x B w hc)
 clear hc; cases hb : colB n x <;> rw [hb] at HC <;>
 ·go_enter Try.func68, Try.ntmps68
  go_wp2_with (go_at_call 65; refine HC.out.mono ?_; rintro e w5 ⟨rfl, hb5⟩)
  go_ret
  exact ⟨rfl, hb5⟩
/-- The second: is an aggregate wrong. -/
theorem group_Right.agg (n : Int) (a : S72) (B F : Nat) (w : World) (hc : w.cell? ⟨B, 0, none⟩ = some (.int .i64 n)) (hf : w.cell? ⟨F, 0, none⟩ = some (.func (.func 65) #[] #[.pointer (some ⟨B, 0, none⟩)])) :
  Calls Try.prog 66 #[.agg #[.int .i64 a.f0, .int .i64 a.f1], .pointer (some ⟨F, 0, none⟩)] w fun e w' => e = .returned (.bool (aggBad n a)) ∧ Below w.heap.size w w' := by
 obtain ⟨k, x⟩ := a; have hBlt : B < w.heap.size := World.block_lt_of_cell? w _ hc
 have hFlt : F < w.heap.size := World.block_lt_of_cell? w _ hf
 have hFne : F ≠ w.heap.size := by omega
 unfold aggBad
 dsimp only
 cases d0 : decide (k < 1) with
 | true =>
  go_enter Try.func66, Try.ntmps66
  go_wp2
  go_ret
  exact ⟨by simp, (Below.refl _ _).alloc (Nat.le_refl _) _⟩
 | false =>
 cases d1 : decide (5 < k) with
 | true =>
  go_enter Try.func66, Try.ntmps66
  go_wp2
  go_ret
  exact ⟨by simp, (Below.refl _ _).alloc (Nat.le_refl _) _⟩
 | false =>
 cases d2 : (k == 1) with
 | true =>
  have d2b : (k != 1) = false := by unfold bne; rw [d2]; rfl
  cases d3 : (x != 0) <;>
  ·go_enter Try.func66, Try.ntmps66
   go_wp2
   go_ret
   exact ⟨by simp [d2b], (Below.refl _ _).alloc (Nat.le_refl _) _⟩
 | false =>
  have d2b : (k != 1) = true := by unfold bne; rw [d2]; rfl
  have HC := Aside0.mk (fun W (hb : Below w.heap.size w W) => group_Right.col n x B W ((hb.cell (p := ⟨B, 0, none⟩) hBlt).trans hc))
  clear hc; cases hb : colB n x <;> rw [hb] at HC <;>
  ·go_enter Try.func66, Try.ntmps66
   go_wp2_with (go_at_call 65; refine (HC.out _ ((Below.refl _ _).alloc (Nat.le_refl _) _)).mono ?_; rintro e w5 ⟨rfl, hb5⟩)
   go_ret
   exact ⟨by simp [d2b], below_step ((Below.refl _ _).alloc (Nat.le_refl _) _) hb5⟩
/-- slices.IndexFunc, handed the closure. -/
theorem group_Right.keys.index (g : Int → Option Bool) (v1 : Value) (A0 : Option Addr) (c0 : Nat) (l0 : List (Int)) (z : Int) (w : World) (hr : Kd.C (Kd.int .i64) w A0 l0.length l0) (hcl : ∀ (x : Int) (b : Bool) (W : World), x ∈ l0 → Below w.heap.size w W → g x = some b → Calls Try.prog 68 #[.int .i64 x, v1] W fun e w' => e = .returned (.bool b) ∧ Below W.heap.size W w') (h : findE g l0 0 = some z) :
  Calls Try.prog 85 #[.slice A0 l0.length c0, .func (.func 68) #[] #[v1]] w fun e w' => e = .returned (.int .i64 z) ∧ Below w.heap.size w w' := by
 have hn : l0.length ≤ 9223372036854775807 := hr.2.1; have HR := Aside0.mk hr; have HCL := Aside0.mk hcl; have HN := Aside0.mk hn; have HH := Aside0.mk h; clear hr hcl hn h; go_enter Try.func85, Try.ntmps85
 go_wp2
 go_loopg [5, 8] l0.length (fun gg v5 s8 wr => ∃ i : Nat, i ≤ l0.length ∧ l0.length - i ≤ gg ∧ s8 = .int .i64 i ∧ Aside0 (Below w.heap.size w wr) ∧ Aside0 (findE g (l0.drop i) i = some z))
 case atStart => exact ⟨0, Nat.zero_le _, by omega, rfl, ⟨Below.refl _ w⟩, HH⟩
 case round =>
  clear HH; obtain ⟨i, hi, hg, rfl, BW, HF⟩ := hrel; have hn := HN.out; by_cases hlt : i < l0.length
  ·have hltz : (i : Int) < (l0.length : Int) := by omega
   have hi0 : (0 : Int) ≤ (i : Int) := by omega
   have hks := HF.out; rw [drop_getE (0 : Int) l0 i hlt] at hks
   simp only [findE] at hks
   obtain ⟨b, hb, hks⟩ := Option.bind_eq_some_iff.1 hks
   obtain ⟨ad, e0, hx⟩ := Kd.at_int HR.out (i : Int) hi0 hltz
   rw [show ((i : Int)).toNat = i by omega] at hx
   have hx2 : w.cell? (ad.add i) = some (.int .i64 (l0.getD i 0)) := by simpa [rd, Int.toNat_natCast] using hx
   subst e0; have hcell := (BW.out.cell (World.block_lt_of_cell? w _ hx2)).trans hx2
   have hmem := getD_mem (0 : Int) l0 i hlt
   clear hx hx2; generalize hy : l0.getD i (0 : Int) = y at hb hcell hmem
   clear hy; have HCALL := Aside0.mk (HCL.out y b wr hmem BW.out hb)
   clear hb hmem HF hn
   cases b with
   | true =>
    rw [if_pos rfl] at hks; obtain rfl := Option.some.inj hks
    clear hks; go_wp2_with (go_at_call 68; refine HCALL.out.mono ?_; rintro e w' ⟨rfl, hb'⟩)
    go_ret
    exact ⟨rfl, below_step BW.out hb'⟩
   | false =>
    rw [if_neg (by decide)] at hks
    have HF := Aside0.mk hks; clear hks; go_wp2_with (go_at_call 68; refine HCALL.out.mono ?_; rintro e w' ⟨rfl, hb'⟩)
    go_roundg (l0.length - (i + 1))
    case measure => omega
    case rel => have hn := HN.out; exact ⟨i + 1, by omega, by omega, by first | go_num | (congr 1; unfold wrap64; omega), ⟨below_step BW.out hb'⟩, HF⟩
  ·have hltz : ¬ (i : Int) < (l0.length : Int) := by omega
   have hks := HF.out; rw [List.drop_of_length_le (by omega)] at hks
   simp only [findE] at hks
   obtain rfl := Option.some.inj hks
   clear hks HF hn; go_wp2
   go_ret
   exact ⟨rfl, BW.out⟩
/-- slices.ContainsFunc, handed the closure. -/
theorem group_Right.keys.contains (g : Int → Option Bool) (v1 : Value) (A0 : Option Addr) (c0 : Nat) (l0 : List (Int)) (r : Bool) (w : World) (hr : Kd.C (Kd.int .i64) w A0 l0.length l0) (hcl : ∀ (x : Int) (b : Bool) (W : World), x ∈ l0 → Below w.heap.size w W → g x = some b → Calls Try.prog 68 #[.int .i64 x, v1] W fun e w' => e = .returned (.bool b) ∧ Below W.heap.size W w') (h : anyE g l0 = some r) :
  Calls Try.prog 67 #[.slice A0 l0.length c0, .func (.func 68) #[] #[v1]] w fun e w' => e = .returned (.bool r) ∧ Below w.heap.size w w' := by
 obtain ⟨z, hz, e⟩ := findE_any g l0 0 r h
 have HI := Aside0.mk (group_Right.keys.index g v1 A0 c0 l0 z w hr hcl hz)
 clear h hz hcl hr
 cases r with
 | true =>
  have hz0 : (0 : Int) ≤ z := of_decide_eq_true e; go_enter Try.func67, Try.ntmps67
  go_wp2_with (go_at_call 85; refine HI.out.mono ?_; rintro e w' ⟨rfl, hb'⟩)
  go_ret
  exact ⟨rfl, hb'⟩
 | false =>
  have hz0 : ¬ (0 : Int) ≤ z := of_decide_eq_false e; go_enter Try.func67, Try.ntmps67
  go_wp2_with (go_at_call 85; refine HI.out.mono ?_; rintro e w' ⟨rfl, hb'⟩)
  go_ret
  exact ⟨rfl, hb'⟩
/-- slices.IndexFunc, handed the closure. -/
theorem group_Right.aggs.index (g : S72 → Option Bool) (v1 : Value) (A0 : Option Addr) (c0 : Nat) (l0 : List (S72)) (z : Int) (w : World) (hr : Kd.C k72 w A0 l0.length l0) (hcl : ∀ (x : S72) (c : List Value) (b : Bool) (W : World), x ∈ l0 → Below w.heap.size w W → k72.K W x c → g x = some b → Calls Try.prog 66 #[.agg c.toArray, v1] W fun e w' => e = .returned (.bool b) ∧ Below W.heap.size W w') (h : findE g l0 0 = some z) :
  Calls Try.prog 86 #[.slice A0 l0.length c0, .func (.func 66) #[] #[v1]] w fun e w' => e = .returned (.int .i64 z) ∧ Below w.heap.size w w' := by
 have hn : l0.length ≤ 9223372036854775807 := hr.2.1; have HR := Aside0.mk hr; have HCL := Aside0.mk hcl; have HN := Aside0.mk hn; have HH := Aside0.mk h; have HAGG := Aside0.mk (show ∀ W, (isAgg 72).run Try.prog W = .ok true W from fun W => by first | exact Try.isAgg72 | exact Try.isAgg72 W | go_simp)
 have HSZ := Aside0.mk (show ∀ W, (sizeOf 72).run Try.prog W = .ok 2 W from fun W => by first | exact Try.sizeOf72 | exact Try.sizeOf72 W | go_simp)
 clear hr hcl hn h; go_enter Try.func86, Try.ntmps86
 go_wp2
 go_loopg [5, 8] l0.length (fun gg v5 s8 wr => ∃ i : Nat, i ≤ l0.length ∧ l0.length - i ≤ gg ∧ s8 = .int .i64 i ∧ Aside0 (Below w.heap.size w wr) ∧ Aside0 (findE g (l0.drop i) i = some z))
 case atStart => exact ⟨0, Nat.zero_le _, by omega, rfl, ⟨Below.refl _ w⟩, HH⟩
 case round =>
  clear HH; obtain ⟨i, hi, hg, rfl, BW, HF⟩ := hrel; have hn := HN.out; by_cases hlt : i < l0.length
  ·have hltz : (i : Int) < (l0.length : Int) := by omega
   have hi0 : (0 : Int) ≤ (i : Int) := by omega
   have hks := HF.out; rw [drop_getE z72 l0 i hlt] at hks
   simp only [findE] at hks
   obtain ⟨b, hb, hks⟩ := Option.bind_eq_some_iff.1 hks
   obtain ⟨ad, c, e0, hcl, hKu, hcell⟩ := Kd.C_elem HR.out z72 i hlt
   replace hcell : ∀ j v, c[j]? = some v → w.cell? ((ad.add (i * 2)).add j) = some v := hcell
   replace hcl : c.length = 2 := hcl
   subst e0; have HCALL := Aside0.mk (HCL.out (l0.getD i z72) c b wr (getD_mem _ _ _ hlt) BW.out (k72.K_below BW.out hKu) hb)
   have HCLN := Aside0.mk hcl; have HCELL := Aside0.mk (show ∀ j v, c[j]? = some v → wr.cell? ((ad.add (i * 2)).add j) = some v from fun j v hj => (BW.out.cell (World.block_lt_of_cell? w _ (hcell j v hj))).trans (hcell j v hj))
   clear hKu hb HF hcl hcell hn
   cases b with
   | true =>
    rw [if_pos rfl] at hks; obtain rfl := Option.some.inj hks
    clear hks
    go_wp2_with (first
     | ((with_reducible refine gate_dst (N := 15) rfl ?_); refine load_all rfl rfl (cs := c) rfl HAGG.out (fun W => by rw [HCLN.out]; exact HSZ.out W) HCELL.out ?_)
     | (go_at_call 66; refine HCALL.out.mono ?_; rintro e w' ⟨rfl, hb'⟩))
    go_ret
    exact ⟨rfl, below_step BW.out hb'⟩
   | false =>
    rw [if_neg (by decide)] at hks
    have HF := Aside0.mk hks; clear hks
    go_wp2_with (first
     | ((with_reducible refine gate_dst (N := 15) rfl ?_); refine load_all rfl rfl (cs := c) rfl HAGG.out (fun W => by rw [HCLN.out]; exact HSZ.out W) HCELL.out ?_)
     | (go_at_call 66; refine HCALL.out.mono ?_; rintro e w' ⟨rfl, hb'⟩))
    go_roundg (l0.length - (i + 1))
    case measure => omega
    case rel => have hn := HN.out; exact ⟨i + 1, by omega, by omega, by first | go_num | (congr 1; unfold wrap64; omega), ⟨below_step BW.out hb'⟩, HF⟩
  ·have hltz : ¬ (i : Int) < (l0.length : Int) := by omega
   have hks := HF.out; rw [List.drop_of_length_le (by omega)] at hks
   simp only [findE] at hks
   obtain rfl := Option.some.inj hks
   clear hks HF hn; go_wp2
   go_ret
   exact ⟨rfl, BW.out⟩
/-- slices.ContainsFunc, handed the closure. -/
theorem group_Right.aggs.contains (g : S72 → Option Bool) (v1 : Value) (A0 : Option Addr) (c0 : Nat) (l0 : List (S72)) (r : Bool) (w : World) (hr : Kd.C k72 w A0 l0.length l0) (hcl : ∀ (x : S72) (c : List Value) (b : Bool) (W : World), x ∈ l0 → Below w.heap.size w W → k72.K W x c → g x = some b → Calls Try.prog 66 #[.agg c.toArray, v1] W fun e w' => e = .returned (.bool b) ∧ Below W.heap.size W w') (h : anyE g l0 = some r) :
  Calls Try.prog 69 #[.slice A0 l0.length c0, .func (.func 66) #[] #[v1]] w fun e w' => e = .returned (.bool r) ∧ Below w.heap.size w w' := by
 obtain ⟨z, hz, e⟩ := findE_any g l0 0 r h
 have HI := Aside0.mk (group_Right.aggs.index g v1 A0 c0 l0 z w hr hcl hz)
 clear h hz hcl hr
 cases r with
 | true =>
  have hz0 : (0 : Int) ≤ z := of_decide_eq_true e; go_enter Try.func69, Try.ntmps69
  go_wp2_with (go_at_call 86; refine HI.out.mono ?_; rintro e w' ⟨rfl, hb'⟩)
  go_ret
  exact ⟨rfl, hb'⟩
 | false =>
  have hz0 : ¬ (0 : Int) ≤ z := of_decide_eq_false e; go_enter Try.func69, Try.ntmps69
  go_wp2_with (go_at_call 86; refine HI.out.mono ?_; rintro e w' ⟨rfl, hb'⟩)
  go_ret
  exact ⟨rfl, hb'⟩
theorem group_Right.calls (A0 : Option Addr) (c0 : Nat) (l0 : List Int) (A1 : Option Addr) (c1 : Nat) (l1 : List (S72)) (a2 : Int) (r : Bool) (w : World) (hr0 : Kd.C (Kd.int .i64) w A0 l0.length l0) (hc0 : l0.length ≤ c0) (hr1 : Kd.C k72 w A1 l1.length l1) (hc1 : l1.length ≤ c1) (h : group_Right.f l0 l1 a2 = some r) :
  Calls Try.prog 45 #[.slice A0 l0.length c0, .slice A1 l1.length c1, .int .i64 a2] w fun e w' => e = .returned (.bool r) ∧ Below w.heap.size w w' := by
 unfold group_Right.f at h
 have HK := Aside0.mk hr0; have HA := Aside0.mk hr1; clear hr0 hr1; have HCK0 := Aside0.mk (fun (b : Bool) (hb0 : anyE (fun c => some (!colB a2 c)) l0 = some b) W (B F : Nat) (hb : Below w.heap.size w W) (hc : W.cell? ⟨B, 0, none⟩ = some (.int .i64 a2)) (hf : W.cell? ⟨F, 0, none⟩ = some (.func (.func 65) #[] #[.pointer (some ⟨B, 0, none⟩)])) => group_Right.keys.contains (fun c => some (!colB a2 c)) (.pointer (some ⟨F, 0, none⟩)) A0 c0 l0 b W (Kd.C_below HK.out hb) (fun x b2 W2 _ hb2 hg => by obtain rfl := Option.some.inj hg; exact group_Right.nocol a2 x B F W2 ((hb2.cell (p := ⟨B, 0, none⟩) (World.block_lt_of_cell? W _ hc)).trans hc) ((hb2.cell (p := ⟨F, 0, none⟩) (World.block_lt_of_cell? W _ hf)).trans hf)) hb0)
 have HCA0 := Aside0.mk (fun (b : Bool) (hb0 : anyE (fun a => some (aggBad a2 a)) l1 = some b) W (B F : Nat) (hb : Below w.heap.size w W) (hc : W.cell? ⟨B, 0, none⟩ = some (.int .i64 a2)) (hf : W.cell? ⟨F, 0, none⟩ = some (.func (.func 65) #[] #[.pointer (some ⟨B, 0, none⟩)])) => group_Right.aggs.contains (fun a => some (aggBad a2 a)) (.pointer (some ⟨F, 0, none⟩)) A1 c1 l1 b W (Kd.C_below HA.out hb) (fun x c b2 W2 _ hb2 hKx hg => by obtain rfl := Option.some.inj hg; obtain rfl := k72_open hKx; exact group_Right.agg a2 x B F W2 ((hb2.cell (p := ⟨B, 0, none⟩) (World.block_lt_of_cell? W _ hc)).trans hc) ((hb2.cell (p := ⟨F, 0, none⟩) (World.block_lt_of_cell? W _ hf)).trans hf)) hb0)
 by_cases q1 : 8 < l0.length
 ·rw [if_pos q1] at h; obtain rfl := Option.some.inj h
  have q1a : decide (l0.length ≤ 8) = false := decide_eq_false (by omega)
  have q1b : decide ((l0.length : Int) ≤ (8 : Int)) = false := decide_eq_false (by omega)
  clear h HCK0 HCA0; go_enter Try.func45, Try.ntmps45
  go_wp2
  go_ret
  exact ⟨rfl, (by repeat' (first | exact Below.refl _ _ | refine Below.alloc ?_ ?_ _ | refine Below.setCell ?_ ?_ _ | (simp; done) | omega))⟩
 rw [if_neg q1] at h; have q1a : decide (l0.length ≤ 8) = true := decide_eq_true (by omega)
 have q1b : decide ((l0.length : Int) ≤ (8 : Int)) = true := decide_eq_true (by omega)
 by_cases q2 : 8 < l1.length
 ·rw [if_pos q2] at h; obtain rfl := Option.some.inj h
  have q2a : decide (l1.length ≤ 8) = false := decide_eq_false (by omega)
  have q2b : decide ((l1.length : Int) ≤ (8 : Int)) = false := decide_eq_false (by omega)
  clear h HCK0 HCA0; go_enter Try.func45, Try.ntmps45
  go_wp2
  go_ret
  exact ⟨rfl, (by repeat' (first | exact Below.refl _ _ | refine Below.alloc ?_ ?_ _ | refine Below.setCell ?_ ?_ _ | (simp; done) | omega))⟩
 rw [if_neg q2] at h; have q2a : decide (l1.length ≤ 8) = true := decide_eq_true (by omega)
 have q2b : decide ((l1.length : Int) ≤ (8 : Int)) = true := decide_eq_true (by omega)
 by_cases q3 : l0.length + l1.length < 1
 ·rw [if_pos q3] at h; obtain rfl := Option.some.inj h
  have q3a : decide (0 < l0.length + l1.length) = false := decide_eq_false (by omega)
  have q3b : decide ((0 : Int) < (l0.length : Int) + (l1.length : Int)) = false := decide_eq_false (by omega)
  clear h HCK0 HCA0; go_enter Try.func45, Try.ntmps45
  go_wp2
  go_ret
  exact ⟨rfl, (by repeat' (first | exact Below.refl _ _ | refine Below.alloc ?_ ?_ _ | refine Below.setCell ?_ ?_ _ | (simp; done) | omega))⟩
 rw [if_neg q3] at h; have q3a : decide (0 < l0.length + l1.length) = true := decide_eq_true (by omega)
 have q3b : decide ((0 : Int) < (l0.length : Int) + (l1.length : Int)) = true := decide_eq_true (by omega)
 obtain ⟨b, hb, h⟩ := Option.bind_eq_some_iff.1 h
 have HCK := Aside0.mk (HCK0.out b hb)
 clear HCK0 hb
 cases b with
 | true =>
  rw [if_pos rfl] at h; obtain rfl := Option.some.inj h
  clear h HCA0; go_enter Try.func45, Try.ntmps45
  go_wp2_with (first
   | (go_at_call 67; refine (HCK.out _ w.heap.size (w.heap.size + 1) ?hb1 ?hc1 ?hf1).mono ?_; (case hb1 => exact (by repeat' (first | exact Below.refl _ _ | refine Below.alloc ?_ ?_ _ | refine Below.setCell ?_ ?_ _ | (simp; done) | omega))); (case hc1 => simp [go_sem]); (case hf1 => simp [go_sem]); rintro e w5 ⟨rfl, hb5⟩; have BW5 := Aside0.mk (below_step (show Below w.heap.size w _ from (by repeat' (first | exact Below.refl _ _ | refine Below.alloc ?_ ?_ _ | refine Below.setCell ?_ ?_ _ | (simp; done) | omega))) hb5); have BB5 := Aside0.mk hb5; clear hb5))
  go_ret
  exact ⟨rfl, BW5.out⟩
 | false =>
 rw [if_neg (by decide)] at h
 obtain ⟨z, hz, rfl⟩ := Option.map_eq_some_iff.1 h
 have HCA := Aside0.mk (HCA0.out z hz)
 clear h hz HCA0; go_enter Try.func45, Try.ntmps45
 go_wp2_with (first
  | (go_at_call 67; refine (HCK.out _ w.heap.size (w.heap.size + 1) ?hb1 ?hc1 ?hf1).mono ?_; (case hb1 => exact (by repeat' (first | exact Below.refl _ _ | refine Below.alloc ?_ ?_ _ | refine Below.setCell ?_ ?_ _ | (simp; done) | omega))); (case hc1 => simp [go_sem]); (case hf1 => simp [go_sem]); rintro e w5 ⟨rfl, hb5⟩; have BW5 := Aside0.mk (below_step (show Below w.heap.size w _ from (by repeat' (first | exact Below.refl _ _ | refine Below.alloc ?_ ?_ _ | refine Below.setCell ?_ ?_ _ | (simp; done) | omega))) hb5); have BB5 := Aside0.mk hb5; clear hb5)
  | (go_at_call 69; refine (HCA.out _ w.heap.size (w.heap.size + 1) ?hb1 ?hc1 ?hf1).mono ?_; (case hb1 => exact BW5.out); (case hc1 => have e_ := BB5.out.cell (p := ⟨w.heap.size, 0, none⟩) (by first | (simp; done) | (simp; omega) | omega); rw [e_]; simp [go_sem]); (case hf1 => have e_ := BB5.out.cell (p := ⟨w.heap.size + 1, 0, none⟩) (by first | (simp; done) | (simp; omega) | omega); rw [e_]; simp [go_sem]); rintro e w6 ⟨rfl, hb6⟩; have BW6 := Aside0.mk (below_step BW5.out hb6); clear hb6))
 go_ret
 exact ⟨rfl, BW6.out⟩

/-! ### join_columns: function 70 -/
-- told by hand
/-- Is a column wrong. -/
def colWrong (n : Int) (x : Int) : Bool := decide (x < 0) || decide (n ≤ x)
def join_columns.f (l0 : List Int) (a1 : Int) : Option Bool := some (!(l0.any (colWrong a1)))
/-- The literal that is handed over. -/
theorem join_columns.wrong (n : Int) (B : Nat) (x : Int) (W : World) (hB : B < W.heap.size) (hc : W.cell? ⟨B, 0, none⟩ = some (.int .i64 n)) :
  Calls Try.prog 87 #[.int .i64 x, .pointer (some ⟨B, 0, none⟩)] W fun e w' => e = .returned (.bool (colWrong n x)) ∧ Below W.heap.size W w' := by
 have hne : B ≠ W.heap.size := by omega
 unfold colWrong
 by_cases c0 : x < 0
 ·have d0 := decide_eq_true c0; go_enter Try.func87, Try.ntmps87
  go_wp2
  go_ret
  exact ⟨by simp [d0], by first | exact Below.refl _ _ | exact (Below.refl _ _).alloc (Nat.le_refl _) _⟩
 have d0 := decide_eq_false c0
 cases d3 : decide (n ≤ x) with
 | true =>
  go_enter Try.func87, Try.ntmps87
  go_wp2
  go_ret
  exact ⟨by simp [d0, d3], by first | exact Below.refl _ _ | exact (Below.refl _ _).alloc (Nat.le_refl _) _⟩
 | false =>
  go_enter Try.func87, Try.ntmps87
  go_wp2
  go_ret
  exact ⟨by simp [d0, d3], by first | exact Below.refl _ _ | exact (Below.refl _ _).alloc (Nat.le_refl _) _⟩
/-- slices.IndexFunc over numbers. -/
theorem join_columns.index (n : Int) (B : Nat) (A0 : Option Addr) (c0 : Nat) (l0 : List Int) (w : World) (hr : Kd.C (Kd.int .i64) w A0 l0.length l0) (hl : l0.length ≤ 9223372036854775807) (hB : B < w.heap.size) (hc : w.cell? ⟨B, 0, none⟩ = some (.int .i64 n)) :
  Calls Try.prog 85 #[.slice A0 l0.length c0, .func (.func 87) #[] #[.pointer (some ⟨B, 0, none⟩)]] w fun e w' => e = .returned (.int .i64 (firstOf (colWrong n) l0)) ∧ Below w.heap.size w w' := by
 have HR := Aside0.mk hr; have HC := Aside0.mk hc; have HB0 := Aside0.mk hB; clear hr hc hB; go_enter Try.func85, Try.ntmps85
 go_wp2
 go_loopg [5, 8] l0.length (fun gg v5 s8 wr => ∃ kk : Nat, kk ≤ l0.length ∧ l0.length - kk ≤ gg ∧ s8 = .int .i64 kk ∧ Aside0 (Below w.heap.size w wr) ∧ Aside0 (∀ j, j < kk → colWrong n (l0.getD j 0) = false))
 case atStart => exact ⟨0, Nat.zero_le _, by omega, rfl, ⟨Below.refl _ w⟩, ⟨fun j hj => absurd hj (Nat.not_lt_zero _)⟩⟩
 case round =>
  obtain ⟨kk, hkk, hg, rfl, BW, NO⟩ := hrel; by_cases hlt : kk < l0.length
  ·have hltz : (kk : Int) < (l0.length : Int) := by omega
   obtain ⟨ad, c, e0, hcl, hK, hcell⟩ := Kd.C_get HR.out (0 : Int) (kk : Int) (by omega) hltz
   have hK2 : c = [.int .i64 (rdOf 0 l0 (kk : Int))] := hK; have x0 := hcell 0 _ (by rw [hK2]; rfl)
   rw [show ((kk : Int)).toNat = kk by omega, show (Kd.int .i64).sz = 1 from rfl, Nat.mul_one, Nat.add_zero] at x0
   subst e0; have hy0 : rdOf 0 l0 (kk : Int) = l0.getD kk 0 := by unfold rdOf; rw [show ((kk : Int)).toNat = kk by omega]
   rw [hy0] at x0
   replace x0 := (BW.out.cell (World.block_lt_of_cell? w _ x0)).trans x0
   have hcall := join_columns.wrong n B (l0.getD kk 0) wr (Nat.lt_of_lt_of_le HB0.out BW.out.size) ((BW.out.cell (p := ⟨B, 0, none⟩) HB0.out).trans HC.out)
   clear hy0 hK hK2 hcell hcl; generalize hy : l0.getD kk 0 = y at x0 hcall
   have HY := Aside0.mk hy; clear hy
   cases hq : colWrong n y with
   | true =>
    rw [hq] at hcall
    go_wp2_with (go_at_call 87; refine hcall.mono ?_; rintro e w' ⟨rfl, hb'⟩)
    go_ret
    exact ⟨by rw [firstOf_hit (colWrong n) l0 0 kk hlt (by rw [HY.out]; exact hq) NO.out] <;> rfl, below_step BW.out hb'⟩
   | false =>
    rw [hq] at hcall
    go_wp2_with (go_at_call 87; refine hcall.mono ?_; rintro e w' ⟨rfl, hb'⟩)
    go_roundg (l0.length - (kk + 1))
    case measure => omega
    case rel =>
     refine ⟨kk + 1, by omega, by omega, by go_num, ⟨below_step BW.out hb'⟩, ⟨fun j hj => ?_⟩⟩
     by_cases e : j = kk
     ·subst e; rw [HY.out]; exact hq
     ·exact NO.out j (by omega)
  ·have hltz : ¬ (kk : Int) < (l0.length : Int) := by omega
   have hkk2 : kk = l0.length := by omega
   subst hkk2; go_wp2
   go_ret
   exact ⟨by rw [firstOf_miss (colWrong n) l0 0 NO.out] <;> rfl, BW.out⟩
/-- slices.ContainsFunc over numbers. -/
theorem join_columns.contains (n : Int) (B : Nat) (A0 : Option Addr) (c0 : Nat) (l0 : List Int) (w : World) (hr : Kd.C (Kd.int .i64) w A0 l0.length l0) (hl : l0.length ≤ 9223372036854775807) (hB : B < w.heap.size) (hc : w.cell? ⟨B, 0, none⟩ = some (.int .i64 n)) :
  Calls Try.prog 67 #[.slice A0 l0.length c0, .func (.func 87) #[] #[.pointer (some ⟨B, 0, none⟩)]] w fun e w' => e = .returned (.bool (l0.any (colWrong n))) ∧ Below w.heap.size w w' := by
 have hI := fun W (hr : Kd.C (Kd.int .i64) W A0 l0.length l0) hB hc => join_columns.index n B A0 c0 l0 W hr hl hB hc
 have HA := Aside0.mk (firstOf_any (colWrong n) l0)
 generalize firstOf (colWrong n) l0 = q at hI HA
 rw [← HA.out]
 go_enter Try.func67, Try.ntmps67
 go_wp2_with (go_at_call 85; refine (hI _ hr hB hc).mono ?_; rintro e w' ⟨rfl, hb'⟩)
 go_ret
 exact ⟨rfl, hb'⟩
theorem join_columns.calls (A0 : Option Addr) (c0 : Nat) (l0 : List Int) (a1 : Int) (r : Bool) (w : World) (hr0 : Kd.C (Kd.int .i64) w A0 l0.length l0) (hc0 : l0.length ≤ c0) (h : join_columns.f l0 a1 = some r) :
  Calls Try.prog 70 #[.slice A0 l0.length c0, .int .i64 a1] w fun e w' => e = .returned (.bool r) ∧ Below w.heap.size w w' := by
 have hl : l0.length ≤ 9223372036854775807 := hr0.2.1; unfold join_columns.f at h
 have HE := Aside0.mk (Option.some.inj h)
 clear h; have hC := fun W (hr : Kd.C (Kd.int .i64) W A0 l0.length l0) B hB hc => join_columns.contains a1 B A0 c0 l0 W hr hl hB hc
 go_enter Try.func70, Try.ntmps70
 go_wp2_with (go_at_call 67; refine (hC _ (Kd.C_alloc hr0 _) w.heap.size (by simp) (by simp)).mono ?_; rintro e w' ⟨rfl, hb'⟩)
 go_ret
 exact ⟨by rw [← HE.out] <;> rfl, below_step ((Below.refl _ w).alloc (Nat.le_refl _) _) hb'⟩

end Go.Proofs.Ytomccmodlkdcbaa.Q
