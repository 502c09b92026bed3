-- PRINTED by print.py (a twelfth state) out of the translation. Not trusted: Lean checks it.
import Derived.Test.YtomccmodlkdcbaaQx0
import Derived.Test.YtomccmodlkdcbaaQx1
import Derived.Test.YtomccmodlkdcbaaQx2
namespace Go.Proofs.Ytomccmodlkdcbaa.Q
open Go.RowKit Go.Proofs.YtomccmodlkdcbaaW.PrintWords Go.Proofs.YtomccmodlkdcbaaW.PrintLast Go.Proofs.YtomccmodlkdcbaaW.PrintMore
attribute [local go_sem] str_gtr str_geq str_leq max2_int min2_int max_two min_two max_three min_three max_four min_four
set_option linter.unusedVariables false
set_option maxHeartbeats 8000000
set_option maxRecDepth 1000000
set_option linter.unusedSimpArgs false

/-! ### need_right: function 61 -/
-- told by hand
/-- slices.IndexFunc, handed the closure. -/
theorem need_right.kids.index (g : S24 → Option Bool) (v1 : Value) (v2 : Value) (A0 : Option Addr) (c0 : Nat) (l0 : List (S24)) (z : Int) (w : World) (hr : Kd.C k24 w A0 l0.length l0) (hcl : ∀ (x : S24) (c : List Value) (b : Bool) (W : World), x ∈ l0 → Below w.heap.size w W → k24.K W x c → g x = some b → Calls Try.prog 82 #[.agg c.toArray, v1, v2] W fun e w' => e = .returned (.bool b) ∧ Below W.heap.size W w') (h : findE g l0 0 = some z) :
  Calls Try.prog 92 #[.slice A0 l0.length c0, .func (.func 82) #[] #[v1, v2]] w fun e w' => e = .returned (.int .i64 z) ∧ Below w.heap.size w w' := by
 have hn : l0.length ≤ 9223372036854775807 := hr.2.1; have HR := Aside0.mk hr; have HCL := Aside0.mk hcl; have HN := Aside0.mk hn; have HH := Aside0.mk h; have HAGG := Aside0.mk (show ∀ W, (isAgg 24).run Try.prog W = .ok true W from fun W => by first | exact Try.isAgg24 | exact Try.isAgg24 W | go_simp)
 have HSZ := Aside0.mk (show ∀ W, (sizeOf 24).run Try.prog W = .ok 6 W from fun W => by first | exact Try.sizeOf24 | exact Try.sizeOf24 W | go_simp)
 clear hr hcl hn h; go_enter Try.func92, Try.ntmps92
 go_wp2
 go_loopg [5, 8] l0.length (fun gg v5 s8 wr => ∃ i : Nat, i ≤ l0.length ∧ l0.length - i ≤ gg ∧ s8 = .int .i64 i ∧ Aside0 (Below w.heap.size w wr) ∧ Aside0 (findE g (l0.drop i) i = some z))
 case atStart => exact ⟨0, Nat.zero_le _, by omega, rfl, ⟨Below.refl _ w⟩, HH⟩
 case round =>
  clear HH; obtain ⟨i, hi, hg, rfl, BW, HF⟩ := hrel; have hn := HN.out; by_cases hlt : i < l0.length
  ·have hltz : (i : Int) < (l0.length : Int) := by omega
   have hi0 : (0 : Int) ≤ (i : Int) := by omega
   have hks := HF.out; rw [drop_getE z24 l0 i hlt] at hks
   simp only [findE] at hks
   obtain ⟨b, hb, hks⟩ := Option.bind_eq_some_iff.1 hks
   obtain ⟨ad, c, e0, hcl, hKu, hcell⟩ := Kd.C_elem HR.out z24 i hlt
   replace hcell : ∀ j v, c[j]? = some v → w.cell? ((ad.add (i * 6)).add j) = some v := hcell
   replace hcl : c.length = 6 := hcl
   subst e0; have HCALL := Aside0.mk (HCL.out (l0.getD i z24) c b wr (getD_mem _ _ _ hlt) BW.out (k24.K_below BW.out hKu) hb)
   have HCLN := Aside0.mk hcl; have HCELL := Aside0.mk (show ∀ j v, c[j]? = some v → wr.cell? ((ad.add (i * 6)).add j) = some v from fun j v hj => (BW.out.cell (World.block_lt_of_cell? w _ (hcell j v hj))).trans (hcell j v hj))
   clear hKu hb HF hcl hcell hn
   cases b with
   | true =>
    rw [if_pos rfl] at hks; obtain rfl := Option.some.inj hks
    clear hks
    go_wp2_with (first
     | ((with_reducible refine gate_dst (N := 15) rfl ?_); refine load_all rfl rfl (cs := c) rfl HAGG.out (fun W => by rw [HCLN.out]; exact HSZ.out W) HCELL.out ?_)
     | (go_at_call 82; refine HCALL.out.mono ?_; rintro e w' ⟨rfl, hb'⟩))
    go_ret
    exact ⟨rfl, below_step BW.out hb'⟩
   | false =>
    rw [if_neg (by decide)] at hks
    have HF := Aside0.mk hks; clear hks
    go_wp2_with (first
     | ((with_reducible refine gate_dst (N := 15) rfl ?_); refine load_all rfl rfl (cs := c) rfl HAGG.out (fun W => by rw [HCLN.out]; exact HSZ.out W) HCELL.out ?_)
     | (go_at_call 82; refine HCALL.out.mono ?_; rintro e w' ⟨rfl, hb'⟩))
    go_roundg (l0.length - (i + 1))
    case measure => omega
    case rel => have hn := HN.out; exact ⟨i + 1, by omega, by omega, by first | go_num | (congr 1; unfold wrap64; omega), ⟨below_step BW.out hb'⟩, HF⟩
  ·have hltz : ¬ (i : Int) < (l0.length : Int) := by omega
   have hks := HF.out; rw [List.drop_of_length_le (by omega)] at hks
   simp only [findE] at hks
   obtain rfl := Option.some.inj hks
   clear hks HF hn; go_wp2
   go_ret
   exact ⟨rfl, BW.out⟩
/-- slices.ContainsFunc, handed the closure. -/
theorem need_right.kids.contains (g : S24 → Option Bool) (v1 : Value) (v2 : Value) (A0 : Option Addr) (c0 : Nat) (l0 : List (S24)) (r : Bool) (w : World) (hr : Kd.C k24 w A0 l0.length l0) (hcl : ∀ (x : S24) (c : List Value) (b : Bool) (W : World), x ∈ l0 → Below w.heap.size w W → k24.K W x c → g x = some b → Calls Try.prog 82 #[.agg c.toArray, v1, v2] W fun e w' => e = .returned (.bool b) ∧ Below W.heap.size W w') (h : anyE g l0 = some r) :
  Calls Try.prog 81 #[.slice A0 l0.length c0, .func (.func 82) #[] #[v1, v2]] w fun e w' => e = .returned (.bool r) ∧ Below w.heap.size w w' := by
 obtain ⟨z, hz, e⟩ := findE_any g l0 0 r h
 have HI := Aside0.mk (need_right.kids.index g v1 v2 A0 c0 l0 z w hr hcl hz)
 clear h hz hcl hr
 cases r with
 | true =>
  have hz0 : (0 : Int) ≤ z := of_decide_eq_true e; go_enter Try.func81, Try.ntmps81
  go_wp2_with (go_at_call 92; refine HI.out.mono ?_; rintro e w' ⟨rfl, hb'⟩)
  go_ret
  exact ⟨rfl, hb'⟩
 | false =>
  have hz0 : ¬ (0 : Int) ≤ z := of_decide_eq_false e; go_enter Try.func81, Try.ntmps81
  go_wp2_with (go_at_call 92; refine HI.out.mono ?_; rintro e w' ⟨rfl, hb'⟩)
  go_ret
  exact ⟨rfl, hb'⟩
def leafP (k : Nat) (p : S24) (cols : Int) : Option Bool := need_leaf.f k p.f0 p.f1 p.f2 p.f3 p.f4 p.f5 cols
def rightP : Nat → S24 → Int → Int → Option Bool
 | 0, _, _, _ => none
 | k + 1, p, cols, deep => (need_joins.f p.f0).bind fun j => if j = false then (if 0 < deep then leafP k p cols else some false) else
  if p.f1 ≠ 0 then some false else if p.f3 ≠ 0 then some false else if p.f4 ≠ 0 then some false else if p.f2.toList ≠ [] then some false else if p.f5.length < 1 then some false else if 16 < p.f5.length then some false else
  if p.f0 = 14 ∧ 1 < p.f5.length then some false else if deep ≤ 1 then some false else (anyE (fun q => (rightP k q cols (wrap64 (deep - 1))).map (!·)) p.f5).map (!·)
def need_right.f (k : Nat) (a0_0 : Int) (a0_1 : Int) (a0_2 : ByteArray) (a0_3 : Int) (a0_4 : Int) (l0_5 : List (S24)) (a1 : Int) (a2 : Int) : Option Bool := rightP k ⟨a0_0, a0_1, a0_2, a0_3, a0_4, l0_5⟩ a1 a2
/-- The closure that is handed over. -/
theorem need_right.clo (k : Nat) (ih : ∀ (p : S24) (cs : List Value) (cols deep : Int) (r : Bool) (w : World), k24.K w p cs → rightP k p cols deep = some r → Calls Try.prog 61 #[.agg cs.toArray, .int .i64 cols, .int .i64 deep] w fun e w' => e = .returned (.bool r) ∧ Below w.heap.size w w')
  (x : S24) (c : List Value) (cols deep : Int) (b : Bool) (w : World) (Bc Bd : Nat) (hK : k24.K w x c) (hc : w.cell? ⟨Bc, 0, none⟩ = some (.int .i64 cols)) (hd : w.cell? ⟨Bd, 0, none⟩ = some (.int .i64 deep)) (h : (rightP k x cols (wrap64 (deep - 1))).map (!·) = some b) :
  Calls Try.prog 82 #[.agg c.toArray, .pointer (some ⟨Bc, 0, none⟩), .pointer (some ⟨Bd, 0, none⟩)] w fun e w' => e = .returned (.bool b) ∧ Below w.heap.size w w' := by
 obtain ⟨b2, hb2, rfl⟩ := Option.map_eq_some_iff.1 h
 have HC := Aside0.mk hc; have HD := Aside0.mk hd; have HSZ := Aside0.mk (show ∀ W, (sizeOf 24).run Try.prog W = .ok 6 W from fun W => by first | exact Try.sizeOf24 | exact Try.sizeOf24 W | go_simp)
 have HAGG := Aside0.mk (show ∀ W, (isAgg 24).run Try.prog W = .ok true W from fun W => by first | exact Try.isAgg24 | exact Try.isAgg24 W | go_simp)
 have HL6 := Aside0.mk (show c.length = 6 from k24.K_len hK)
 have HCALL := Aside0.mk (fun W (hb : Below w.heap.size w W) => ih x c cols (wrap64 (deep - 1)) b2 W (k24.K_below hb hK) hb2)
 clear hK h hc hd hb2 ih; go_enter Try.func82, Try.ntmps82
 go_wp2_with (first
  | ((with_reducible refine gate_dst (N := 3) rfl ?_); refine box_all rfl rfl (cs := c.toArray) rfl (fun W => by rw [List.size_toArray, HL6.out]; exact HSZ.out W) ?_; intro w1 hbx hbw; have BW1 := Aside0.mk hbw; have BX1 := Aside0.mk hbx; have hcc : w1.cell? ⟨Bc, 0, none⟩ = some (.int .i64 cols) := (hbw.cell (p := ⟨Bc, 0, none⟩) (World.block_lt_of_cell? w _ HC.out)).trans HC.out; have hcd : w1.cell? ⟨Bd, 0, none⟩ = some (.int .i64 deep) := (hbw.cell (p := ⟨Bd, 0, none⟩) (World.block_lt_of_cell? w _ HD.out)).trans HD.out; clear hbx hbw)
  | ((with_reducible refine gate_dst (N := 5) rfl ?_); refine load_all rfl rfl (cs := c) rfl HAGG.out (fun W => by rw [HL6.out]; exact HSZ.out W) (blk_cells BX1.out) ?_)
  | (go_at_call 61; refine (HCALL.out _ BW1.out).mono ?_; rintro e w5 ⟨rfl, hb5⟩; have BW5 := Aside0.mk (below_step BW1.out hb5); clear hb5))
 go_ret
 exact ⟨rfl, BW5.out⟩
theorem need_right.core (k : Nat) : ∀ (p : S24) (cs : List Value) (cols deep : Int) (r : Bool) (w : World), k24.K w p cs → rightP k p cols deep = some r →
  Calls Try.prog 61 #[.agg cs.toArray, .int .i64 cols, .int .i64 deep] w fun e w' => e = .returned (.bool r) ∧ Below w.heap.size w w' := by
 have HSZ := Aside0.mk (show ∀ W, (sizeOf 24).run Try.prog W = .ok 6 W from fun W => by first | exact Try.sizeOf24 | exact Try.sizeOf24 W | go_simp)
 have HAGG := Aside0.mk (show ∀ W, (isAgg 24).run Try.prog W = .ok true W from fun W => by first | exact Try.isAgg24 | exact Try.isAgg24 W | go_simp)
 induction k with
 | zero => intro p cs cols deep r w _ h; cases h
 | succ k ih =>
 intro p cs cols deep r w hK h
 have hup := Try.underlying24; unfold rightP at h
 have HL6 := Aside0.mk (show cs.length = 6 from k24.K_len hK)
 obtain ⟨A5, c5, ecs, hl5, hk5⟩ := k24_open hK
 have hn5 : p.f5.length ≤ 9223372036854775807 := hk5.2.1; have HN5 := Aside0.mk hn5; have H0 := Aside0.mk (show cs[0]? = some (.int .i64 p.f0) from by rw [ecs]; rfl)
 have H1 := Aside0.mk (show cs[1]? = some (.int .i64 p.f1) from by rw [ecs]; rfl)
 have H2 := Aside0.mk (show cs[2]? = some (.string p.f2) from by rw [ecs]; rfl)
 have H3 := Aside0.mk (show cs[3]? = some (.int .i64 p.f3) from by rw [ecs]; rfl)
 have H4 := Aside0.mk (show cs[4]? = some (.int .i64 p.f4) from by rw [ecs]; rfl)
 have H5 := Aside0.mk (show cs[5]? = some (.slice A5 p.f5.length c5) from by rw [ecs]; rfl)
 obtain ⟨j, hj, h⟩ := Option.bind_eq_some_iff.1 h
 have HJ := Aside0.mk (fun W => need_joins.calls p.f0 j W hj)
 have HLF0 := Aside0.mk (fun (b : Bool) (hlf : leafP k p cols = some b) W (hb : Below w.heap.size w W) => show Calls Try.prog 80 #[.agg cs.toArray, .int .i64 cols] W (fun e w' => e = .returned (.bool b) ∧ Below W.heap.size W w') from by rw [ecs]; exact need_leaf.calls k p.f0 p.f1 p.f2 p.f3 p.f4 A5 c5 p.f5 cols b W (Kd.C_below hk5 hb) hl5 hlf)
 have HK5 := Aside0.mk hk5; have HL5 := Aside0.mk hl5; have IH := Aside0.mk ih; clear hK hk5 hl5 ih hj ecs hn5
 cases j with
 | false =>
  rw [if_pos rfl] at h; by_cases c0 : 0 < deep
  ·rw [if_pos c0] at h; have HLF := Aside0.mk (HLF0.out r h)
   have c0b : decide (0 < deep) = true := decide_eq_true c0; clear h HLF0; go_enter Try.func61, Try.ntmps61
   go_wp2_with (first
    | ((with_reducible refine gate_dst (N := 3) rfl ?_); refine box_all rfl rfl (cs := cs.toArray) rfl (fun W => by rw [List.size_toArray, HL6.out]; exact HSZ.out W) ?_; intro w1 hbx hbw; have BW1 := Aside0.mk hbw; have BX1 := Aside0.mk hbx; clear hbx hbw)
    | ((with_reducible refine gate_dst (N := 4) rfl ?_); refine box_num rfl rfl (k := .i64) (n := cols) rfl ?_; intro w2 hbx hbw; have BW2 := Aside0.mk (below_step BW1.out hbw); have BX2 := Aside0.mk (blk_keep hbw BX1.out); have CC2 := Aside0.mk hbx; clear hbx hbw BW1 BX1)
    | ((with_reducible refine gate_dst (N := 5) rfl ?_); refine box_num rfl rfl (k := .i64) (n := deep) rfl ?_; intro w3 hbx hbw; have BW3 := Aside0.mk (below_step BW2.out hbw); have BX3 := Aside0.mk (blk_keep hbw BX2.out); have CC3 := Aside0.mk (blk_keep hbw CC2.out); have CD3 := Aside0.mk hbx; clear hbx hbw BW2 BX2 CC2; have hcv0 : w3.cell? ⟨w.heap.size, 0, none⟩ = some (.int .i64 p.f0) := blk_cells BX3.out 0 _ H0.out; have hcv1 : w3.cell? ⟨w.heap.size, 1, none⟩ = some (.int .i64 p.f1) := blk_cells BX3.out 1 _ H1.out; have hcv2 : w3.cell? ⟨w.heap.size, 2, none⟩ = some (.string p.f2) := blk_cells BX3.out 2 _ H2.out; have hcv3 : w3.cell? ⟨w.heap.size, 3, none⟩ = some (.int .i64 p.f3) := blk_cells BX3.out 3 _ H3.out; have hcv4 : w3.cell? ⟨w.heap.size, 4, none⟩ = some (.int .i64 p.f4) := blk_cells BX3.out 4 _ H4.out; have hcv5 : w3.cell? ⟨w.heap.size, 5, none⟩ = some (.slice A5 p.f5.length c5) := blk_cells BX3.out 5 _ H5.out; have hcc : w3.cell? ⟨w1.heap.size, 0, none⟩ = some (.int .i64 cols) := cell0_of CC3.out; have hcd : w3.cell? ⟨w2.heap.size, 0, none⟩ = some (.int .i64 deep) := cell0_of CD3.out)
    | (go_at_call 79; refine (HJ.out _).mono ?_; rintro e w4 ⟨rfl, hd4⟩; have hb4 := hd4.below; have BW4 := Aside0.mk (below_step BW3.out hb4); have BX4 := Aside0.mk (blk_keep hb4 BX3.out); have CC4 := Aside0.mk (blk_keep hb4 CC3.out); have CD4 := Aside0.mk (blk_keep hb4 CD3.out); clear hb4 hd4 BW3 BX3 CC3 CD3; clear hcv0 hcv1 hcv2 hcv3 hcv4 hcv5 hcc hcd; have hcv0 : w4.cell? ⟨w.heap.size, 0, none⟩ = some (.int .i64 p.f0) := blk_cells BX4.out 0 _ H0.out; have hcv1 : w4.cell? ⟨w.heap.size, 1, none⟩ = some (.int .i64 p.f1) := blk_cells BX4.out 1 _ H1.out; have hcv2 : w4.cell? ⟨w.heap.size, 2, none⟩ = some (.string p.f2) := blk_cells BX4.out 2 _ H2.out; have hcv3 : w4.cell? ⟨w.heap.size, 3, none⟩ = some (.int .i64 p.f3) := blk_cells BX4.out 3 _ H3.out; have hcv4 : w4.cell? ⟨w.heap.size, 4, none⟩ = some (.int .i64 p.f4) := blk_cells BX4.out 4 _ H4.out; have hcv5 : w4.cell? ⟨w.heap.size, 5, none⟩ = some (.slice A5 p.f5.length c5) := blk_cells BX4.out 5 _ H5.out; have hcc : w4.cell? ⟨w1.heap.size, 0, none⟩ = some (.int .i64 cols) := cell0_of CC4.out; have hcd : w4.cell? ⟨w2.heap.size, 0, none⟩ = some (.int .i64 deep) := cell0_of CD4.out)
    | ((with_reducible refine gate_dst (N := 15) rfl ?_); (try (refine gate_guard (by rfl) ?_; dsimp only)); refine load_all rfl rfl (cs := cs) rfl HAGG.out (fun W => by rw [HL6.out]; exact HSZ.out W) (blk_cells BX4.out) ?_)
    | (go_at_call 80; refine (HLF.out _ BW4.out).mono ?_; rintro e w5 ⟨rfl, hb5⟩; have BW5 := Aside0.mk (below_step BW4.out hb5); clear hb5))
   go_ret
   exact ⟨rfl, BW5.out⟩
  ·rw [if_neg c0] at h; obtain rfl := Option.some.inj h
   have c0b : decide (0 < deep) = false := decide_eq_false c0; clear h HLF0; go_enter Try.func61, Try.ntmps61
   go_wp2_with (first
    | ((with_reducible refine gate_dst (N := 3) rfl ?_); refine box_all rfl rfl (cs := cs.toArray) rfl (fun W => by rw [List.size_toArray, HL6.out]; exact HSZ.out W) ?_; intro w1 hbx hbw; have BW1 := Aside0.mk hbw; have BX1 := Aside0.mk hbx; clear hbx hbw)
    | ((with_reducible refine gate_dst (N := 4) rfl ?_); refine box_num rfl rfl (k := .i64) (n := cols) rfl ?_; intro w2 hbx hbw; have BW2 := Aside0.mk (below_step BW1.out hbw); have BX2 := Aside0.mk (blk_keep hbw BX1.out); have CC2 := Aside0.mk hbx; clear hbx hbw BW1 BX1)
    | ((with_reducible refine gate_dst (N := 5) rfl ?_); refine box_num rfl rfl (k := .i64) (n := deep) rfl ?_; intro w3 hbx hbw; have BW3 := Aside0.mk (below_step BW2.out hbw); have BX3 := Aside0.mk (blk_keep hbw BX2.out); have CC3 := Aside0.mk (blk_keep hbw CC2.out); have CD3 := Aside0.mk hbx; clear hbx hbw BW2 BX2 CC2; have hcv0 : w3.cell? ⟨w.heap.size, 0, none⟩ = some (.int .i64 p.f0) := blk_cells BX3.out 0 _ H0.out; have hcv1 : w3.cell? ⟨w.heap.size, 1, none⟩ = some (.int .i64 p.f1) := blk_cells BX3.out 1 _ H1.out; have hcv2 : w3.cell? ⟨w.heap.size, 2, none⟩ = some (.string p.f2) := blk_cells BX3.out 2 _ H2.out; have hcv3 : w3.cell? ⟨w.heap.size, 3, none⟩ = some (.int .i64 p.f3) := blk_cells BX3.out 3 _ H3.out; have hcv4 : w3.cell? ⟨w.heap.size, 4, none⟩ = some (.int .i64 p.f4) := blk_cells BX3.out 4 _ H4.out; have hcv5 : w3.cell? ⟨w.heap.size, 5, none⟩ = some (.slice A5 p.f5.length c5) := blk_cells BX3.out 5 _ H5.out; have hcc : w3.cell? ⟨w1.heap.size, 0, none⟩ = some (.int .i64 cols) := cell0_of CC3.out; have hcd : w3.cell? ⟨w2.heap.size, 0, none⟩ = some (.int .i64 deep) := cell0_of CD3.out)
    | (go_at_call 79; refine (HJ.out _).mono ?_; rintro e w4 ⟨rfl, hd4⟩; have hb4 := hd4.below; have BW4 := Aside0.mk (below_step BW3.out hb4); have BX4 := Aside0.mk (blk_keep hb4 BX3.out); have CC4 := Aside0.mk (blk_keep hb4 CC3.out); have CD4 := Aside0.mk (blk_keep hb4 CD3.out); clear hb4 hd4 BW3 BX3 CC3 CD3; clear hcv0 hcv1 hcv2 hcv3 hcv4 hcv5 hcc hcd; have hcv0 : w4.cell? ⟨w.heap.size, 0, none⟩ = some (.int .i64 p.f0) := blk_cells BX4.out 0 _ H0.out; have hcv1 : w4.cell? ⟨w.heap.size, 1, none⟩ = some (.int .i64 p.f1) := blk_cells BX4.out 1 _ H1.out; have hcv2 : w4.cell? ⟨w.heap.size, 2, none⟩ = some (.string p.f2) := blk_cells BX4.out 2 _ H2.out; have hcv3 : w4.cell? ⟨w.heap.size, 3, none⟩ = some (.int .i64 p.f3) := blk_cells BX4.out 3 _ H3.out; have hcv4 : w4.cell? ⟨w.heap.size, 4, none⟩ = some (.int .i64 p.f4) := blk_cells BX4.out 4 _ H4.out; have hcv5 : w4.cell? ⟨w.heap.size, 5, none⟩ = some (.slice A5 p.f5.length c5) := blk_cells BX4.out 5 _ H5.out; have hcc : w4.cell? ⟨w1.heap.size, 0, none⟩ = some (.int .i64 cols) := cell0_of CC4.out; have hcd : w4.cell? ⟨w2.heap.size, 0, none⟩ = some (.int .i64 deep) := cell0_of CD4.out))
   go_ret
   exact ⟨rfl, BW4.out⟩
 | true =>
 rw [if_neg (by decide)] at h
 clear HLF0; by_cases q1 : p.f1 ≠ 0
 ·rw [if_pos q1] at h; obtain rfl := Option.some.inj h
  clear h; have q1b : (p.f1 != 0) = true := bne_iff_ne.mpr q1; clear q1; go_enter Try.func61, Try.ntmps61
  go_wp2_with (first
   | ((with_reducible refine gate_dst (N := 3) rfl ?_); refine box_all rfl rfl (cs := cs.toArray) rfl (fun W => by rw [List.size_toArray, HL6.out]; exact HSZ.out W) ?_; intro w1 hbx hbw; have BW1 := Aside0.mk hbw; have BX1 := Aside0.mk hbx; clear hbx hbw)
   | ((with_reducible refine gate_dst (N := 4) rfl ?_); refine box_num rfl rfl (k := .i64) (n := cols) rfl ?_; intro w2 hbx hbw; have BW2 := Aside0.mk (below_step BW1.out hbw); have BX2 := Aside0.mk (blk_keep hbw BX1.out); have CC2 := Aside0.mk hbx; clear hbx hbw BW1 BX1)
   | ((with_reducible refine gate_dst (N := 5) rfl ?_); refine box_num rfl rfl (k := .i64) (n := deep) rfl ?_; intro w3 hbx hbw; have BW3 := Aside0.mk (below_step BW2.out hbw); have BX3 := Aside0.mk (blk_keep hbw BX2.out); have CC3 := Aside0.mk (blk_keep hbw CC2.out); have CD3 := Aside0.mk hbx; clear hbx hbw BW2 BX2 CC2; have hcv0 : w3.cell? ⟨w.heap.size, 0, none⟩ = some (.int .i64 p.f0) := blk_cells BX3.out 0 _ H0.out; have hcv1 : w3.cell? ⟨w.heap.size, 1, none⟩ = some (.int .i64 p.f1) := blk_cells BX3.out 1 _ H1.out; have hcv2 : w3.cell? ⟨w.heap.size, 2, none⟩ = some (.string p.f2) := blk_cells BX3.out 2 _ H2.out; have hcv3 : w3.cell? ⟨w.heap.size, 3, none⟩ = some (.int .i64 p.f3) := blk_cells BX3.out 3 _ H3.out; have hcv4 : w3.cell? ⟨w.heap.size, 4, none⟩ = some (.int .i64 p.f4) := blk_cells BX3.out 4 _ H4.out; have hcv5 : w3.cell? ⟨w.heap.size, 5, none⟩ = some (.slice A5 p.f5.length c5) := blk_cells BX3.out 5 _ H5.out; have hcc : w3.cell? ⟨w1.heap.size, 0, none⟩ = some (.int .i64 cols) := cell0_of CC3.out; have hcd : w3.cell? ⟨w2.heap.size, 0, none⟩ = some (.int .i64 deep) := cell0_of CD3.out)
   | (go_at_call 79; refine (HJ.out _).mono ?_; rintro e w4 ⟨rfl, hd4⟩; have hb4 := hd4.below; have BW4 := Aside0.mk (below_step BW3.out hb4); have BX4 := Aside0.mk (blk_keep hb4 BX3.out); have CC4 := Aside0.mk (blk_keep hb4 CC3.out); have CD4 := Aside0.mk (blk_keep hb4 CD3.out); clear hb4 hd4 BW3 BX3 CC3 CD3; clear hcv0 hcv1 hcv2 hcv3 hcv4 hcv5 hcc hcd; have hcv0 : w4.cell? ⟨w.heap.size, 0, none⟩ = some (.int .i64 p.f0) := blk_cells BX4.out 0 _ H0.out; have hcv1 : w4.cell? ⟨w.heap.size, 1, none⟩ = some (.int .i64 p.f1) := blk_cells BX4.out 1 _ H1.out; have hcv2 : w4.cell? ⟨w.heap.size, 2, none⟩ = some (.string p.f2) := blk_cells BX4.out 2 _ H2.out; have hcv3 : w4.cell? ⟨w.heap.size, 3, none⟩ = some (.int .i64 p.f3) := blk_cells BX4.out 3 _ H3.out; have hcv4 : w4.cell? ⟨w.heap.size, 4, none⟩ = some (.int .i64 p.f4) := blk_cells BX4.out 4 _ H4.out; have hcv5 : w4.cell? ⟨w.heap.size, 5, none⟩ = some (.slice A5 p.f5.length c5) := blk_cells BX4.out 5 _ H5.out; have hcc : w4.cell? ⟨w1.heap.size, 0, none⟩ = some (.int .i64 cols) := cell0_of CC4.out; have hcd : w4.cell? ⟨w2.heap.size, 0, none⟩ = some (.int .i64 deep) := cell0_of CD4.out))
  go_ret
  exact ⟨rfl, BW4.out⟩
 rw [if_neg q1] at h; have q1b : (p.f1 != 0) = false := by simpa using q1
 clear q1; by_cases q3 : p.f3 ≠ 0
 ·rw [if_pos q3] at h; obtain rfl := Option.some.inj h
  clear h; have q3b : (p.f3 != 0) = true := bne_iff_ne.mpr q3; clear q3; go_enter Try.func61, Try.ntmps61
  go_wp2_with (first
   | ((with_reducible refine gate_dst (N := 3) rfl ?_); refine box_all rfl rfl (cs := cs.toArray) rfl (fun W => by rw [List.size_toArray, HL6.out]; exact HSZ.out W) ?_; intro w1 hbx hbw; have BW1 := Aside0.mk hbw; have BX1 := Aside0.mk hbx; clear hbx hbw)
   | ((with_reducible refine gate_dst (N := 4) rfl ?_); refine box_num rfl rfl (k := .i64) (n := cols) rfl ?_; intro w2 hbx hbw; have BW2 := Aside0.mk (below_step BW1.out hbw); have BX2 := Aside0.mk (blk_keep hbw BX1.out); have CC2 := Aside0.mk hbx; clear hbx hbw BW1 BX1)
   | ((with_reducible refine gate_dst (N := 5) rfl ?_); refine box_num rfl rfl (k := .i64) (n := deep) rfl ?_; intro w3 hbx hbw; have BW3 := Aside0.mk (below_step BW2.out hbw); have BX3 := Aside0.mk (blk_keep hbw BX2.out); have CC3 := Aside0.mk (blk_keep hbw CC2.out); have CD3 := Aside0.mk hbx; clear hbx hbw BW2 BX2 CC2; have hcv0 : w3.cell? ⟨w.heap.size, 0, none⟩ = some (.int .i64 p.f0) := blk_cells BX3.out 0 _ H0.out; have hcv1 : w3.cell? ⟨w.heap.size, 1, none⟩ = some (.int .i64 p.f1) := blk_cells BX3.out 1 _ H1.out; have hcv2 : w3.cell? ⟨w.heap.size, 2, none⟩ = some (.string p.f2) := blk_cells BX3.out 2 _ H2.out; have hcv3 : w3.cell? ⟨w.heap.size, 3, none⟩ = some (.int .i64 p.f3) := blk_cells BX3.out 3 _ H3.out; have hcv4 : w3.cell? ⟨w.heap.size, 4, none⟩ = some (.int .i64 p.f4) := blk_cells BX3.out 4 _ H4.out; have hcv5 : w3.cell? ⟨w.heap.size, 5, none⟩ = some (.slice A5 p.f5.length c5) := blk_cells BX3.out 5 _ H5.out; have hcc : w3.cell? ⟨w1.heap.size, 0, none⟩ = some (.int .i64 cols) := cell0_of CC3.out; have hcd : w3.cell? ⟨w2.heap.size, 0, none⟩ = some (.int .i64 deep) := cell0_of CD3.out)
   | (go_at_call 79; refine (HJ.out _).mono ?_; rintro e w4 ⟨rfl, hd4⟩; have hb4 := hd4.below; have BW4 := Aside0.mk (below_step BW3.out hb4); have BX4 := Aside0.mk (blk_keep hb4 BX3.out); have CC4 := Aside0.mk (blk_keep hb4 CC3.out); have CD4 := Aside0.mk (blk_keep hb4 CD3.out); clear hb4 hd4 BW3 BX3 CC3 CD3; clear hcv0 hcv1 hcv2 hcv3 hcv4 hcv5 hcc hcd; have hcv0 : w4.cell? ⟨w.heap.size, 0, none⟩ = some (.int .i64 p.f0) := blk_cells BX4.out 0 _ H0.out; have hcv1 : w4.cell? ⟨w.heap.size, 1, none⟩ = some (.int .i64 p.f1) := blk_cells BX4.out 1 _ H1.out; have hcv2 : w4.cell? ⟨w.heap.size, 2, none⟩ = some (.string p.f2) := blk_cells BX4.out 2 _ H2.out; have hcv3 : w4.cell? ⟨w.heap.size, 3, none⟩ = some (.int .i64 p.f3) := blk_cells BX4.out 3 _ H3.out; have hcv4 : w4.cell? ⟨w.heap.size, 4, none⟩ = some (.int .i64 p.f4) := blk_cells BX4.out 4 _ H4.out; have hcv5 : w4.cell? ⟨w.heap.size, 5, none⟩ = some (.slice A5 p.f5.length c5) := blk_cells BX4.out 5 _ H5.out; have hcc : w4.cell? ⟨w1.heap.size, 0, none⟩ = some (.int .i64 cols) := cell0_of CC4.out; have hcd : w4.cell? ⟨w2.heap.size, 0, none⟩ = some (.int .i64 deep) := cell0_of CD4.out))
  go_ret
  exact ⟨rfl, BW4.out⟩
 rw [if_neg q3] at h; have q3b : (p.f3 != 0) = false := by simpa using q3
 clear q3; by_cases q4 : p.f4 ≠ 0
 ·rw [if_pos q4] at h; obtain rfl := Option.some.inj h
  clear h; have q4b : (p.f4 != 0) = true := bne_iff_ne.mpr q4; clear q4; go_enter Try.func61, Try.ntmps61
  go_wp2_with (first
   | ((with_reducible refine gate_dst (N := 3) rfl ?_); refine box_all rfl rfl (cs := cs.toArray) rfl (fun W => by rw [List.size_toArray, HL6.out]; exact HSZ.out W) ?_; intro w1 hbx hbw; have BW1 := Aside0.mk hbw; have BX1 := Aside0.mk hbx; clear hbx hbw)
   | ((with_reducible refine gate_dst (N := 4) rfl ?_); refine box_num rfl rfl (k := .i64) (n := cols) rfl ?_; intro w2 hbx hbw; have BW2 := Aside0.mk (below_step BW1.out hbw); have BX2 := Aside0.mk (blk_keep hbw BX1.out); have CC2 := Aside0.mk hbx; clear hbx hbw BW1 BX1)
   | ((with_reducible refine gate_dst (N := 5) rfl ?_); refine box_num rfl rfl (k := .i64) (n := deep) rfl ?_; intro w3 hbx hbw; have BW3 := Aside0.mk (below_step BW2.out hbw); have BX3 := Aside0.mk (blk_keep hbw BX2.out); have CC3 := Aside0.mk (blk_keep hbw CC2.out); have CD3 := Aside0.mk hbx; clear hbx hbw BW2 BX2 CC2; have hcv0 : w3.cell? ⟨w.heap.size, 0, none⟩ = some (.int .i64 p.f0) := blk_cells BX3.out 0 _ H0.out; have hcv1 : w3.cell? ⟨w.heap.size, 1, none⟩ = some (.int .i64 p.f1) := blk_cells BX3.out 1 _ H1.out; have hcv2 : w3.cell? ⟨w.heap.size, 2, none⟩ = some (.string p.f2) := blk_cells BX3.out 2 _ H2.out; have hcv3 : w3.cell? ⟨w.heap.size, 3, none⟩ = some (.int .i64 p.f3) := blk_cells BX3.out 3 _ H3.out; have hcv4 : w3.cell? ⟨w.heap.size, 4, none⟩ = some (.int .i64 p.f4) := blk_cells BX3.out 4 _ H4.out; have hcv5 : w3.cell? ⟨w.heap.size, 5, none⟩ = some (.slice A5 p.f5.length c5) := blk_cells BX3.out 5 _ H5.out; have hcc : w3.cell? ⟨w1.heap.size, 0, none⟩ = some (.int .i64 cols) := cell0_of CC3.out; have hcd : w3.cell? ⟨w2.heap.size, 0, none⟩ = some (.int .i64 deep) := cell0_of CD3.out)
   | (go_at_call 79; refine (HJ.out _).mono ?_; rintro e w4 ⟨rfl, hd4⟩; have hb4 := hd4.below; have BW4 := Aside0.mk (below_step BW3.out hb4); have BX4 := Aside0.mk (blk_keep hb4 BX3.out); have CC4 := Aside0.mk (blk_keep hb4 CC3.out); have CD4 := Aside0.mk (blk_keep hb4 CD3.out); clear hb4 hd4 BW3 BX3 CC3 CD3; clear hcv0 hcv1 hcv2 hcv3 hcv4 hcv5 hcc hcd; have hcv0 : w4.cell? ⟨w.heap.size, 0, none⟩ = some (.int .i64 p.f0) := blk_cells BX4.out 0 _ H0.out; have hcv1 : w4.cell? ⟨w.heap.size, 1, none⟩ = some (.int .i64 p.f1) := blk_cells BX4.out 1 _ H1.out; have hcv2 : w4.cell? ⟨w.heap.size, 2, none⟩ = some (.string p.f2) := blk_cells BX4.out 2 _ H2.out; have hcv3 : w4.cell? ⟨w.heap.size, 3, none⟩ = some (.int .i64 p.f3) := blk_cells BX4.out 3 _ H3.out; have hcv4 : w4.cell? ⟨w.heap.size, 4, none⟩ = some (.int .i64 p.f4) := blk_cells BX4.out 4 _ H4.out; have hcv5 : w4.cell? ⟨w.heap.size, 5, none⟩ = some (.slice A5 p.f5.length c5) := blk_cells BX4.out 5 _ H5.out; have hcc : w4.cell? ⟨w1.heap.size, 0, none⟩ = some (.int .i64 cols) := cell0_of CC4.out; have hcd : w4.cell? ⟨w2.heap.size, 0, none⟩ = some (.int .i64 deep) := cell0_of CD4.out))
  go_ret
  exact ⟨rfl, BW4.out⟩
 rw [if_neg q4] at h; have q4b : (p.f4 != 0) = false := by simpa using q4
 clear q4; by_cases q2 : p.f2.toList ≠ []
 ·rw [if_pos q2] at h; obtain rfl := Option.some.inj h
  clear h
  have q2b : (!p.f2.toList.isEmpty) = true := by cases hx_ : p.f2.toList with
   | nil => exact absurd hx_ q2
   | cons => rfl
  go_enter Try.func61, Try.ntmps61
  go_wp2_with (first
   | ((with_reducible refine gate_dst (N := 3) rfl ?_); refine box_all rfl rfl (cs := cs.toArray) rfl (fun W => by rw [List.size_toArray, HL6.out]; exact HSZ.out W) ?_; intro w1 hbx hbw; have BW1 := Aside0.mk hbw; have BX1 := Aside0.mk hbx; clear hbx hbw)
   | ((with_reducible refine gate_dst (N := 4) rfl ?_); refine box_num rfl rfl (k := .i64) (n := cols) rfl ?_; intro w2 hbx hbw; have BW2 := Aside0.mk (below_step BW1.out hbw); have BX2 := Aside0.mk (blk_keep hbw BX1.out); have CC2 := Aside0.mk hbx; clear hbx hbw BW1 BX1)
   | ((with_reducible refine gate_dst (N := 5) rfl ?_); refine box_num rfl rfl (k := .i64) (n := deep) rfl ?_; intro w3 hbx hbw; have BW3 := Aside0.mk (below_step BW2.out hbw); have BX3 := Aside0.mk (blk_keep hbw BX2.out); have CC3 := Aside0.mk (blk_keep hbw CC2.out); have CD3 := Aside0.mk hbx; clear hbx hbw BW2 BX2 CC2; have hcv0 : w3.cell? ⟨w.heap.size, 0, none⟩ = some (.int .i64 p.f0) := blk_cells BX3.out 0 _ H0.out; have hcv1 : w3.cell? ⟨w.heap.size, 1, none⟩ = some (.int .i64 p.f1) := blk_cells BX3.out 1 _ H1.out; have hcv2 : w3.cell? ⟨w.heap.size, 2, none⟩ = some (.string p.f2) := blk_cells BX3.out 2 _ H2.out; have hcv3 : w3.cell? ⟨w.heap.size, 3, none⟩ = some (.int .i64 p.f3) := blk_cells BX3.out 3 _ H3.out; have hcv4 : w3.cell? ⟨w.heap.size, 4, none⟩ = some (.int .i64 p.f4) := blk_cells BX3.out 4 _ H4.out; have hcv5 : w3.cell? ⟨w.heap.size, 5, none⟩ = some (.slice A5 p.f5.length c5) := blk_cells BX3.out 5 _ H5.out; have hcc : w3.cell? ⟨w1.heap.size, 0, none⟩ = some (.int .i64 cols) := cell0_of CC3.out; have hcd : w3.cell? ⟨w2.heap.size, 0, none⟩ = some (.int .i64 deep) := cell0_of CD3.out)
   | (go_at_call 79; refine (HJ.out _).mono ?_; rintro e w4 ⟨rfl, hd4⟩; have hb4 := hd4.below; have BW4 := Aside0.mk (below_step BW3.out hb4); have BX4 := Aside0.mk (blk_keep hb4 BX3.out); have CC4 := Aside0.mk (blk_keep hb4 CC3.out); have CD4 := Aside0.mk (blk_keep hb4 CD3.out); clear hb4 hd4 BW3 BX3 CC3 CD3; clear hcv0 hcv1 hcv2 hcv3 hcv4 hcv5 hcc hcd; have hcv0 : w4.cell? ⟨w.heap.size, 0, none⟩ = some (.int .i64 p.f0) := blk_cells BX4.out 0 _ H0.out; have hcv1 : w4.cell? ⟨w.heap.size, 1, none⟩ = some (.int .i64 p.f1) := blk_cells BX4.out 1 _ H1.out; have hcv2 : w4.cell? ⟨w.heap.size, 2, none⟩ = some (.string p.f2) := blk_cells BX4.out 2 _ H2.out; have hcv3 : w4.cell? ⟨w.heap.size, 3, none⟩ = some (.int .i64 p.f3) := blk_cells BX4.out 3 _ H3.out; have hcv4 : w4.cell? ⟨w.heap.size, 4, none⟩ = some (.int .i64 p.f4) := blk_cells BX4.out 4 _ H4.out; have hcv5 : w4.cell? ⟨w.heap.size, 5, none⟩ = some (.slice A5 p.f5.length c5) := blk_cells BX4.out 5 _ H5.out; have hcc : w4.cell? ⟨w1.heap.size, 0, none⟩ = some (.int .i64 cols) := cell0_of CC4.out; have hcd : w4.cell? ⟨w2.heap.size, 0, none⟩ = some (.int .i64 deep) := cell0_of CD4.out))
  go_ret
  exact ⟨rfl, BW4.out⟩
 rw [if_neg q2] at h; have q2c : p.f2.toList = [] := Decidable.not_not.1 q2; have q2b : (!p.f2.toList.isEmpty) = false := by rw [q2c]; rfl
 by_cases q5 : p.f5.length < 1
 ·rw [if_pos q5] at h; obtain rfl := Option.some.inj h
  clear h; have q5b : decide (p.f5.length < 1) = true := decide_eq_true q5; have q5i : decide ((p.f5.length : Int) < 1) = true := decide_eq_true (by omega)
  go_enter Try.func61, Try.ntmps61
  go_wp2_with (first
   | ((with_reducible refine gate_dst (N := 3) rfl ?_); refine box_all rfl rfl (cs := cs.toArray) rfl (fun W => by rw [List.size_toArray, HL6.out]; exact HSZ.out W) ?_; intro w1 hbx hbw; have BW1 := Aside0.mk hbw; have BX1 := Aside0.mk hbx; clear hbx hbw)
   | ((with_reducible refine gate_dst (N := 4) rfl ?_); refine box_num rfl rfl (k := .i64) (n := cols) rfl ?_; intro w2 hbx hbw; have BW2 := Aside0.mk (below_step BW1.out hbw); have BX2 := Aside0.mk (blk_keep hbw BX1.out); have CC2 := Aside0.mk hbx; clear hbx hbw BW1 BX1)
   | ((with_reducible refine gate_dst (N := 5) rfl ?_); refine box_num rfl rfl (k := .i64) (n := deep) rfl ?_; intro w3 hbx hbw; have BW3 := Aside0.mk (below_step BW2.out hbw); have BX3 := Aside0.mk (blk_keep hbw BX2.out); have CC3 := Aside0.mk (blk_keep hbw CC2.out); have CD3 := Aside0.mk hbx; clear hbx hbw BW2 BX2 CC2; have hcv0 : w3.cell? ⟨w.heap.size, 0, none⟩ = some (.int .i64 p.f0) := blk_cells BX3.out 0 _ H0.out; have hcv1 : w3.cell? ⟨w.heap.size, 1, none⟩ = some (.int .i64 p.f1) := blk_cells BX3.out 1 _ H1.out; have hcv2 : w3.cell? ⟨w.heap.size, 2, none⟩ = some (.string p.f2) := blk_cells BX3.out 2 _ H2.out; have hcv3 : w3.cell? ⟨w.heap.size, 3, none⟩ = some (.int .i64 p.f3) := blk_cells BX3.out 3 _ H3.out; have hcv4 : w3.cell? ⟨w.heap.size, 4, none⟩ = some (.int .i64 p.f4) := blk_cells BX3.out 4 _ H4.out; have hcv5 : w3.cell? ⟨w.heap.size, 5, none⟩ = some (.slice A5 p.f5.length c5) := blk_cells BX3.out 5 _ H5.out; have hcc : w3.cell? ⟨w1.heap.size, 0, none⟩ = some (.int .i64 cols) := cell0_of CC3.out; have hcd : w3.cell? ⟨w2.heap.size, 0, none⟩ = some (.int .i64 deep) := cell0_of CD3.out)
   | (go_at_call 79; refine (HJ.out _).mono ?_; rintro e w4 ⟨rfl, hd4⟩; have hb4 := hd4.below; have BW4 := Aside0.mk (below_step BW3.out hb4); have BX4 := Aside0.mk (blk_keep hb4 BX3.out); have CC4 := Aside0.mk (blk_keep hb4 CC3.out); have CD4 := Aside0.mk (blk_keep hb4 CD3.out); clear hb4 hd4 BW3 BX3 CC3 CD3; clear hcv0 hcv1 hcv2 hcv3 hcv4 hcv5 hcc hcd; have hcv0 : w4.cell? ⟨w.heap.size, 0, none⟩ = some (.int .i64 p.f0) := blk_cells BX4.out 0 _ H0.out; have hcv1 : w4.cell? ⟨w.heap.size, 1, none⟩ = some (.int .i64 p.f1) := blk_cells BX4.out 1 _ H1.out; have hcv2 : w4.cell? ⟨w.heap.size, 2, none⟩ = some (.string p.f2) := blk_cells BX4.out 2 _ H2.out; have hcv3 : w4.cell? ⟨w.heap.size, 3, none⟩ = some (.int .i64 p.f3) := blk_cells BX4.out 3 _ H3.out; have hcv4 : w4.cell? ⟨w.heap.size, 4, none⟩ = some (.int .i64 p.f4) := blk_cells BX4.out 4 _ H4.out; have hcv5 : w4.cell? ⟨w.heap.size, 5, none⟩ = some (.slice A5 p.f5.length c5) := blk_cells BX4.out 5 _ H5.out; have hcc : w4.cell? ⟨w1.heap.size, 0, none⟩ = some (.int .i64 cols) := cell0_of CC4.out; have hcd : w4.cell? ⟨w2.heap.size, 0, none⟩ = some (.int .i64 deep) := cell0_of CD4.out))
  go_ret
  exact ⟨rfl, BW4.out⟩
 rw [if_neg q5] at h; have q5b : decide (p.f5.length < 1) = false := decide_eq_false q5; have q5i : decide ((p.f5.length : Int) < 1) = false := decide_eq_false (by omega)
 by_cases q6 : 16 < p.f5.length
 ·rw [if_pos q6] at h; obtain rfl := Option.some.inj h
  clear h; have q6b : decide (16 < p.f5.length) = true := decide_eq_true q6; have q6i : decide ((16 : Int) < (p.f5.length : Int)) = true := decide_eq_true (by omega)
  go_enter Try.func61, Try.ntmps61
  go_wp2_with (first
   | ((with_reducible refine gate_dst (N := 3) rfl ?_); refine box_all rfl rfl (cs := cs.toArray) rfl (fun W => by rw [List.size_toArray, HL6.out]; exact HSZ.out W) ?_; intro w1 hbx hbw; have BW1 := Aside0.mk hbw; have BX1 := Aside0.mk hbx; clear hbx hbw)
   | ((with_reducible refine gate_dst (N := 4) rfl ?_); refine box_num rfl rfl (k := .i64) (n := cols) rfl ?_; intro w2 hbx hbw; have BW2 := Aside0.mk (below_step BW1.out hbw); have BX2 := Aside0.mk (blk_keep hbw BX1.out); have CC2 := Aside0.mk hbx; clear hbx hbw BW1 BX1)
   | ((with_reducible refine gate_dst (N := 5) rfl ?_); refine box_num rfl rfl (k := .i64) (n := deep) rfl ?_; intro w3 hbx hbw; have BW3 := Aside0.mk (below_step BW2.out hbw); have BX3 := Aside0.mk (blk_keep hbw BX2.out); have CC3 := Aside0.mk (blk_keep hbw CC2.out); have CD3 := Aside0.mk hbx; clear hbx hbw BW2 BX2 CC2; have hcv0 : w3.cell? ⟨w.heap.size, 0, none⟩ = some (.int .i64 p.f0) := blk_cells BX3.out 0 _ H0.out; have hcv1 : w3.cell? ⟨w.heap.size, 1, none⟩ = some (.int .i64 p.f1) := blk_cells BX3.out 1 _ H1.out; have hcv2 : w3.cell? ⟨w.heap.size, 2, none⟩ = some (.string p.f2) := blk_cells BX3.out 2 _ H2.out; have hcv3 : w3.cell? ⟨w.heap.size, 3, none⟩ = some (.int .i64 p.f3) := blk_cells BX3.out 3 _ H3.out; have hcv4 : w3.cell? ⟨w.heap.size, 4, none⟩ = some (.int .i64 p.f4) := blk_cells BX3.out 4 _ H4.out; have hcv5 : w3.cell? ⟨w.heap.size, 5, none⟩ = some (.slice A5 p.f5.length c5) := blk_cells BX3.out 5 _ H5.out; have hcc : w3.cell? ⟨w1.heap.size, 0, none⟩ = some (.int .i64 cols) := cell0_of CC3.out; have hcd : w3.cell? ⟨w2.heap.size, 0, none⟩ = some (.int .i64 deep) := cell0_of CD3.out)
   | (go_at_call 79; refine (HJ.out _).mono ?_; rintro e w4 ⟨rfl, hd4⟩; have hb4 := hd4.below; have BW4 := Aside0.mk (below_step BW3.out hb4); have BX4 := Aside0.mk (blk_keep hb4 BX3.out); have CC4 := Aside0.mk (blk_keep hb4 CC3.out); have CD4 := Aside0.mk (blk_keep hb4 CD3.out); clear hb4 hd4 BW3 BX3 CC3 CD3; clear hcv0 hcv1 hcv2 hcv3 hcv4 hcv5 hcc hcd; have hcv0 : w4.cell? ⟨w.heap.size, 0, none⟩ = some (.int .i64 p.f0) := blk_cells BX4.out 0 _ H0.out; have hcv1 : w4.cell? ⟨w.heap.size, 1, none⟩ = some (.int .i64 p.f1) := blk_cells BX4.out 1 _ H1.out; have hcv2 : w4.cell? ⟨w.heap.size, 2, none⟩ = some (.string p.f2) := blk_cells BX4.out 2 _ H2.out; have hcv3 : w4.cell? ⟨w.heap.size, 3, none⟩ = some (.int .i64 p.f3) := blk_cells BX4.out 3 _ H3.out; have hcv4 : w4.cell? ⟨w.heap.size, 4, none⟩ = some (.int .i64 p.f4) := blk_cells BX4.out 4 _ H4.out; have hcv5 : w4.cell? ⟨w.heap.size, 5, none⟩ = some (.slice A5 p.f5.length c5) := blk_cells BX4.out 5 _ H5.out; have hcc : w4.cell? ⟨w1.heap.size, 0, none⟩ = some (.int .i64 cols) := cell0_of CC4.out; have hcd : w4.cell? ⟨w2.heap.size, 0, none⟩ = some (.int .i64 deep) := cell0_of CD4.out))
  go_ret
  exact ⟨rfl, BW4.out⟩
 rw [if_neg q6] at h; have q6b : decide (16 < p.f5.length) = false := decide_eq_false q6; have q6i : decide ((16 : Int) < (p.f5.length : Int)) = false := decide_eq_false (by omega)
 by_cases q7 : p.f0 = 14 ∧ 1 < p.f5.length
 ·rw [if_pos q7] at h; obtain rfl := Option.some.inj h
  have q7a : (p.f0 == 14) = true := beq_iff_eq.mpr q7.1; have q7b : decide (1 < p.f5.length) = true := decide_eq_true q7.2; have q7c : decide ((1 : Int) < (p.f5.length : Int)) = true := decide_eq_true (by omega)
  have q7d : 1 < p.f5.length := q7.2; clear h q7; go_enter Try.func61, Try.ntmps61
  go_wp2_with (first
   | ((with_reducible refine gate_dst (N := 3) rfl ?_); refine box_all rfl rfl (cs := cs.toArray) rfl (fun W => by rw [List.size_toArray, HL6.out]; exact HSZ.out W) ?_; intro w1 hbx hbw; have BW1 := Aside0.mk hbw; have BX1 := Aside0.mk hbx; clear hbx hbw)
   | ((with_reducible refine gate_dst (N := 4) rfl ?_); refine box_num rfl rfl (k := .i64) (n := cols) rfl ?_; intro w2 hbx hbw; have BW2 := Aside0.mk (below_step BW1.out hbw); have BX2 := Aside0.mk (blk_keep hbw BX1.out); have CC2 := Aside0.mk hbx; clear hbx hbw BW1 BX1)
   | ((with_reducible refine gate_dst (N := 5) rfl ?_); refine box_num rfl rfl (k := .i64) (n := deep) rfl ?_; intro w3 hbx hbw; have BW3 := Aside0.mk (below_step BW2.out hbw); have BX3 := Aside0.mk (blk_keep hbw BX2.out); have CC3 := Aside0.mk (blk_keep hbw CC2.out); have CD3 := Aside0.mk hbx; clear hbx hbw BW2 BX2 CC2; have hcv0 : w3.cell? ⟨w.heap.size, 0, none⟩ = some (.int .i64 p.f0) := blk_cells BX3.out 0 _ H0.out; have hcv1 : w3.cell? ⟨w.heap.size, 1, none⟩ = some (.int .i64 p.f1) := blk_cells BX3.out 1 _ H1.out; have hcv2 : w3.cell? ⟨w.heap.size, 2, none⟩ = some (.string p.f2) := blk_cells BX3.out 2 _ H2.out; have hcv3 : w3.cell? ⟨w.heap.size, 3, none⟩ = some (.int .i64 p.f3) := blk_cells BX3.out 3 _ H3.out; have hcv4 : w3.cell? ⟨w.heap.size, 4, none⟩ = some (.int .i64 p.f4) := blk_cells BX3.out 4 _ H4.out; have hcv5 : w3.cell? ⟨w.heap.size, 5, none⟩ = some (.slice A5 p.f5.length c5) := blk_cells BX3.out 5 _ H5.out; have hcc : w3.cell? ⟨w1.heap.size, 0, none⟩ = some (.int .i64 cols) := cell0_of CC3.out; have hcd : w3.cell? ⟨w2.heap.size, 0, none⟩ = some (.int .i64 deep) := cell0_of CD3.out)
   | (go_at_call 79; refine (HJ.out _).mono ?_; rintro e w4 ⟨rfl, hd4⟩; have hb4 := hd4.below; have BW4 := Aside0.mk (below_step BW3.out hb4); have BX4 := Aside0.mk (blk_keep hb4 BX3.out); have CC4 := Aside0.mk (blk_keep hb4 CC3.out); have CD4 := Aside0.mk (blk_keep hb4 CD3.out); clear hb4 hd4 BW3 BX3 CC3 CD3; clear hcv0 hcv1 hcv2 hcv3 hcv4 hcv5 hcc hcd; have hcv0 : w4.cell? ⟨w.heap.size, 0, none⟩ = some (.int .i64 p.f0) := blk_cells BX4.out 0 _ H0.out; have hcv1 : w4.cell? ⟨w.heap.size, 1, none⟩ = some (.int .i64 p.f1) := blk_cells BX4.out 1 _ H1.out; have hcv2 : w4.cell? ⟨w.heap.size, 2, none⟩ = some (.string p.f2) := blk_cells BX4.out 2 _ H2.out; have hcv3 : w4.cell? ⟨w.heap.size, 3, none⟩ = some (.int .i64 p.f3) := blk_cells BX4.out 3 _ H3.out; have hcv4 : w4.cell? ⟨w.heap.size, 4, none⟩ = some (.int .i64 p.f4) := blk_cells BX4.out 4 _ H4.out; have hcv5 : w4.cell? ⟨w.heap.size, 5, none⟩ = some (.slice A5 p.f5.length c5) := blk_cells BX4.out 5 _ H5.out; have hcc : w4.cell? ⟨w1.heap.size, 0, none⟩ = some (.int .i64 cols) := cell0_of CC4.out; have hcd : w4.cell? ⟨w2.heap.size, 0, none⟩ = some (.int .i64 deep) := cell0_of CD4.out))
  go_ret
  exact ⟨rfl, BW4.out⟩
 rw [if_neg q7] at h; by_cases q8 : deep ≤ 1
 ·rw [if_pos q8] at h; obtain rfl := Option.some.inj h
  have q8b : decide (deep ≤ 1) = true := decide_eq_true q8; clear h; by_cases q9 : p.f0 = 14
  ·have q9a : (p.f0 == 14) = true := beq_iff_eq.mpr q9; have q9d : ¬ 1 < p.f5.length := fun z => q7 ⟨q9, z⟩
   have q9b : decide (1 < p.f5.length) = false := decide_eq_false q9d; have q9c : decide ((1 : Int) < (p.f5.length : Int)) = false := decide_eq_false (by omega)
   clear q7 q9; go_enter Try.func61, Try.ntmps61
   go_wp2_with (first
    | ((with_reducible refine gate_dst (N := 3) rfl ?_); refine box_all rfl rfl (cs := cs.toArray) rfl (fun W => by rw [List.size_toArray, HL6.out]; exact HSZ.out W) ?_; intro w1 hbx hbw; have BW1 := Aside0.mk hbw; have BX1 := Aside0.mk hbx; clear hbx hbw)
    | ((with_reducible refine gate_dst (N := 4) rfl ?_); refine box_num rfl rfl (k := .i64) (n := cols) rfl ?_; intro w2 hbx hbw; have BW2 := Aside0.mk (below_step BW1.out hbw); have BX2 := Aside0.mk (blk_keep hbw BX1.out); have CC2 := Aside0.mk hbx; clear hbx hbw BW1 BX1)
    | ((with_reducible refine gate_dst (N := 5) rfl ?_); refine box_num rfl rfl (k := .i64) (n := deep) rfl ?_; intro w3 hbx hbw; have BW3 := Aside0.mk (below_step BW2.out hbw); have BX3 := Aside0.mk (blk_keep hbw BX2.out); have CC3 := Aside0.mk (blk_keep hbw CC2.out); have CD3 := Aside0.mk hbx; clear hbx hbw BW2 BX2 CC2; have hcv0 : w3.cell? ⟨w.heap.size, 0, none⟩ = some (.int .i64 p.f0) := blk_cells BX3.out 0 _ H0.out; have hcv1 : w3.cell? ⟨w.heap.size, 1, none⟩ = some (.int .i64 p.f1) := blk_cells BX3.out 1 _ H1.out; have hcv2 : w3.cell? ⟨w.heap.size, 2, none⟩ = some (.string p.f2) := blk_cells BX3.out 2 _ H2.out; have hcv3 : w3.cell? ⟨w.heap.size, 3, none⟩ = some (.int .i64 p.f3) := blk_cells BX3.out 3 _ H3.out; have hcv4 : w3.cell? ⟨w.heap.size, 4, none⟩ = some (.int .i64 p.f4) := blk_cells BX3.out 4 _ H4.out; have hcv5 : w3.cell? ⟨w.heap.size, 5, none⟩ = some (.slice A5 p.f5.length c5) := blk_cells BX3.out 5 _ H5.out; have hcc : w3.cell? ⟨w1.heap.size, 0, none⟩ = some (.int .i64 cols) := cell0_of CC3.out; have hcd : w3.cell? ⟨w2.heap.size, 0, none⟩ = some (.int .i64 deep) := cell0_of CD3.out)
    | (go_at_call 79; refine (HJ.out _).mono ?_; rintro e w4 ⟨rfl, hd4⟩; have hb4 := hd4.below; have BW4 := Aside0.mk (below_step BW3.out hb4); have BX4 := Aside0.mk (blk_keep hb4 BX3.out); have CC4 := Aside0.mk (blk_keep hb4 CC3.out); have CD4 := Aside0.mk (blk_keep hb4 CD3.out); clear hb4 hd4 BW3 BX3 CC3 CD3; clear hcv0 hcv1 hcv2 hcv3 hcv4 hcv5 hcc hcd; have hcv0 : w4.cell? ⟨w.heap.size, 0, none⟩ = some (.int .i64 p.f0) := blk_cells BX4.out 0 _ H0.out; have hcv1 : w4.cell? ⟨w.heap.size, 1, none⟩ = some (.int .i64 p.f1) := blk_cells BX4.out 1 _ H1.out; have hcv2 : w4.cell? ⟨w.heap.size, 2, none⟩ = some (.string p.f2) := blk_cells BX4.out 2 _ H2.out; have hcv3 : w4.cell? ⟨w.heap.size, 3, none⟩ = some (.int .i64 p.f3) := blk_cells BX4.out 3 _ H3.out; have hcv4 : w4.cell? ⟨w.heap.size, 4, none⟩ = some (.int .i64 p.f4) := blk_cells BX4.out 4 _ H4.out; have hcv5 : w4.cell? ⟨w.heap.size, 5, none⟩ = some (.slice A5 p.f5.length c5) := blk_cells BX4.out 5 _ H5.out; have hcc : w4.cell? ⟨w1.heap.size, 0, none⟩ = some (.int .i64 cols) := cell0_of CC4.out; have hcd : w4.cell? ⟨w2.heap.size, 0, none⟩ = some (.int .i64 deep) := cell0_of CD4.out))
   go_ret
   exact ⟨rfl, BW4.out⟩
  ·have q9a : (p.f0 == 14) = false := beq_eq_false_iff_ne.mpr q9; clear q7 q9; go_enter Try.func61, Try.ntmps61
   go_wp2_with (first
    | ((with_reducible refine gate_dst (N := 3) rfl ?_); refine box_all rfl rfl (cs := cs.toArray) rfl (fun W => by rw [List.size_toArray, HL6.out]; exact HSZ.out W) ?_; intro w1 hbx hbw; have BW1 := Aside0.mk hbw; have BX1 := Aside0.mk hbx; clear hbx hbw)
    | ((with_reducible refine gate_dst (N := 4) rfl ?_); refine box_num rfl rfl (k := .i64) (n := cols) rfl ?_; intro w2 hbx hbw; have BW2 := Aside0.mk (below_step BW1.out hbw); have BX2 := Aside0.mk (blk_keep hbw BX1.out); have CC2 := Aside0.mk hbx; clear hbx hbw BW1 BX1)
    | ((with_reducible refine gate_dst (N := 5) rfl ?_); refine box_num rfl rfl (k := .i64) (n := deep) rfl ?_; intro w3 hbx hbw; have BW3 := Aside0.mk (below_step BW2.out hbw); have BX3 := Aside0.mk (blk_keep hbw BX2.out); have CC3 := Aside0.mk (blk_keep hbw CC2.out); have CD3 := Aside0.mk hbx; clear hbx hbw BW2 BX2 CC2; have hcv0 : w3.cell? ⟨w.heap.size, 0, none⟩ = some (.int .i64 p.f0) := blk_cells BX3.out 0 _ H0.out; have hcv1 : w3.cell? ⟨w.heap.size, 1, none⟩ = some (.int .i64 p.f1) := blk_cells BX3.out 1 _ H1.out; have hcv2 : w3.cell? ⟨w.heap.size, 2, none⟩ = some (.string p.f2) := blk_cells BX3.out 2 _ H2.out; have hcv3 : w3.cell? ⟨w.heap.size, 3, none⟩ = some (.int .i64 p.f3) := blk_cells BX3.out 3 _ H3.out; have hcv4 : w3.cell? ⟨w.heap.size, 4, none⟩ = some (.int .i64 p.f4) := blk_cells BX3.out 4 _ H4.out; have hcv5 : w3.cell? ⟨w.heap.size, 5, none⟩ = some (.slice A5 p.f5.length c5) := blk_cells BX3.out 5 _ H5.out; have hcc : w3.cell? ⟨w1.heap.size, 0, none⟩ = some (.int .i64 cols) := cell0_of CC3.out; have hcd : w3.cell? ⟨w2.heap.size, 0, none⟩ = some (.int .i64 deep) := cell0_of CD3.out)
    | (go_at_call 79; refine (HJ.out _).mono ?_; rintro e w4 ⟨rfl, hd4⟩; have hb4 := hd4.below; have BW4 := Aside0.mk (below_step BW3.out hb4); have BX4 := Aside0.mk (blk_keep hb4 BX3.out); have CC4 := Aside0.mk (blk_keep hb4 CC3.out); have CD4 := Aside0.mk (blk_keep hb4 CD3.out); clear hb4 hd4 BW3 BX3 CC3 CD3; clear hcv0 hcv1 hcv2 hcv3 hcv4 hcv5 hcc hcd; have hcv0 : w4.cell? ⟨w.heap.size, 0, none⟩ = some (.int .i64 p.f0) := blk_cells BX4.out 0 _ H0.out; have hcv1 : w4.cell? ⟨w.heap.size, 1, none⟩ = some (.int .i64 p.f1) := blk_cells BX4.out 1 _ H1.out; have hcv2 : w4.cell? ⟨w.heap.size, 2, none⟩ = some (.string p.f2) := blk_cells BX4.out 2 _ H2.out; have hcv3 : w4.cell? ⟨w.heap.size, 3, none⟩ = some (.int .i64 p.f3) := blk_cells BX4.out 3 _ H3.out; have hcv4 : w4.cell? ⟨w.heap.size, 4, none⟩ = some (.int .i64 p.f4) := blk_cells BX4.out 4 _ H4.out; have hcv5 : w4.cell? ⟨w.heap.size, 5, none⟩ = some (.slice A5 p.f5.length c5) := blk_cells BX4.out 5 _ H5.out; have hcc : w4.cell? ⟨w1.heap.size, 0, none⟩ = some (.int .i64 cols) := cell0_of CC4.out; have hcd : w4.cell? ⟨w2.heap.size, 0, none⟩ = some (.int .i64 deep) := cell0_of CD4.out))
   go_ret
   exact ⟨rfl, BW4.out⟩
 rw [if_neg q8] at h; have q8b : decide (deep ≤ 1) = false := decide_eq_false q8; obtain ⟨z, hz, rfl⟩ := Option.map_eq_some_iff.1 h
 have HCT := Aside0.mk (fun W (Bc Bd : Nat) (hb : Below w.heap.size w W) (hc : W.heap[Bc]? = some (.cells #[.int .i64 cols] 3 (0, 0))) (hd : W.heap[Bd]? = some (.cells #[.int .i64 deep] 3 (0, 0))) => need_right.kids.contains (fun q => (rightP k q cols (wrap64 (deep - 1))).map (!·)) (.pointer (some ⟨Bc, 0, none⟩)) (.pointer (some ⟨Bd, 0, none⟩)) A5 c5 p.f5 z W (Kd.C_below HK5.out hb) (fun x c b W2 _ hb2 hKx hg => need_right.clo k IH.out x c cols deep b W2 Bc Bd hKx (cell0_of (blk_keep hb2 hc)) (cell0_of (blk_keep hb2 hd)) hg) hz)
 clear h hz; by_cases q9 : p.f0 = 14
 ·have q9a : (p.f0 == 14) = true := beq_iff_eq.mpr q9; have q9d : ¬ 1 < p.f5.length := fun z => q7 ⟨q9, z⟩
  have q9b : decide (1 < p.f5.length) = false := decide_eq_false q9d; have q9c : decide ((1 : Int) < (p.f5.length : Int)) = false := decide_eq_false (by omega)
  clear q7 q9; go_enter Try.func61, Try.ntmps61
  go_wp2_with (first
   | ((with_reducible refine gate_dst (N := 3) rfl ?_); refine box_all rfl rfl (cs := cs.toArray) rfl (fun W => by rw [List.size_toArray, HL6.out]; exact HSZ.out W) ?_; intro w1 hbx hbw; have BW1 := Aside0.mk hbw; have BX1 := Aside0.mk hbx; clear hbx hbw)
   | ((with_reducible refine gate_dst (N := 4) rfl ?_); refine box_num rfl rfl (k := .i64) (n := cols) rfl ?_; intro w2 hbx hbw; have BW2 := Aside0.mk (below_step BW1.out hbw); have BX2 := Aside0.mk (blk_keep hbw BX1.out); have CC2 := Aside0.mk hbx; clear hbx hbw BW1 BX1)
   | ((with_reducible refine gate_dst (N := 5) rfl ?_); refine box_num rfl rfl (k := .i64) (n := deep) rfl ?_; intro w3 hbx hbw; have BW3 := Aside0.mk (below_step BW2.out hbw); have BX3 := Aside0.mk (blk_keep hbw BX2.out); have CC3 := Aside0.mk (blk_keep hbw CC2.out); have CD3 := Aside0.mk hbx; clear hbx hbw BW2 BX2 CC2; have hcv0 : w3.cell? ⟨w.heap.size, 0, none⟩ = some (.int .i64 p.f0) := blk_cells BX3.out 0 _ H0.out; have hcv1 : w3.cell? ⟨w.heap.size, 1, none⟩ = some (.int .i64 p.f1) := blk_cells BX3.out 1 _ H1.out; have hcv2 : w3.cell? ⟨w.heap.size, 2, none⟩ = some (.string p.f2) := blk_cells BX3.out 2 _ H2.out; have hcv3 : w3.cell? ⟨w.heap.size, 3, none⟩ = some (.int .i64 p.f3) := blk_cells BX3.out 3 _ H3.out; have hcv4 : w3.cell? ⟨w.heap.size, 4, none⟩ = some (.int .i64 p.f4) := blk_cells BX3.out 4 _ H4.out; have hcv5 : w3.cell? ⟨w.heap.size, 5, none⟩ = some (.slice A5 p.f5.length c5) := blk_cells BX3.out 5 _ H5.out; have hcc : w3.cell? ⟨w1.heap.size, 0, none⟩ = some (.int .i64 cols) := cell0_of CC3.out; have hcd : w3.cell? ⟨w2.heap.size, 0, none⟩ = some (.int .i64 deep) := cell0_of CD3.out)
   | (go_at_call 79; refine (HJ.out _).mono ?_; rintro e w4 ⟨rfl, hd4⟩; have hb4 := hd4.below; have BW4 := Aside0.mk (below_step BW3.out hb4); have BX4 := Aside0.mk (blk_keep hb4 BX3.out); have CC4 := Aside0.mk (blk_keep hb4 CC3.out); have CD4 := Aside0.mk (blk_keep hb4 CD3.out); clear hb4 hd4 BW3 BX3 CC3 CD3; clear hcv0 hcv1 hcv2 hcv3 hcv4 hcv5 hcc hcd; have hcv0 : w4.cell? ⟨w.heap.size, 0, none⟩ = some (.int .i64 p.f0) := blk_cells BX4.out 0 _ H0.out; have hcv1 : w4.cell? ⟨w.heap.size, 1, none⟩ = some (.int .i64 p.f1) := blk_cells BX4.out 1 _ H1.out; have hcv2 : w4.cell? ⟨w.heap.size, 2, none⟩ = some (.string p.f2) := blk_cells BX4.out 2 _ H2.out; have hcv3 : w4.cell? ⟨w.heap.size, 3, none⟩ = some (.int .i64 p.f3) := blk_cells BX4.out 3 _ H3.out; have hcv4 : w4.cell? ⟨w.heap.size, 4, none⟩ = some (.int .i64 p.f4) := blk_cells BX4.out 4 _ H4.out; have hcv5 : w4.cell? ⟨w.heap.size, 5, none⟩ = some (.slice A5 p.f5.length c5) := blk_cells BX4.out 5 _ H5.out; have hcc : w4.cell? ⟨w1.heap.size, 0, none⟩ = some (.int .i64 cols) := cell0_of CC4.out; have hcd : w4.cell? ⟨w2.heap.size, 0, none⟩ = some (.int .i64 deep) := cell0_of CD4.out)
   | (go_at_call 81; refine (HCT.out _ w1.heap.size w2.heap.size BW4.out CC4.out CD4.out).mono ?_; rintro e w5 ⟨rfl, hb5⟩; have BW5 := Aside0.mk (below_step BW4.out hb5); clear hb5))
  go_ret
  exact ⟨rfl, BW5.out⟩
 ·have q9a : (p.f0 == 14) = false := beq_eq_false_iff_ne.mpr q9; clear q7 q9; go_enter Try.func61, Try.ntmps61
  go_wp2_with (first
   | ((with_reducible refine gate_dst (N := 3) rfl ?_); refine box_all rfl rfl (cs := cs.toArray) rfl (fun W => by rw [List.size_toArray, HL6.out]; exact HSZ.out W) ?_; intro w1 hbx hbw; have BW1 := Aside0.mk hbw; have BX1 := Aside0.mk hbx; clear hbx hbw)
   | ((with_reducible refine gate_dst (N := 4) rfl ?_); refine box_num rfl rfl (k := .i64) (n := cols) rfl ?_; intro w2 hbx hbw; have BW2 := Aside0.mk (below_step BW1.out hbw); have BX2 := Aside0.mk (blk_keep hbw BX1.out); have CC2 := Aside0.mk hbx; clear hbx hbw BW1 BX1)
   | ((with_reducible refine gate_dst (N := 5) rfl ?_); refine box_num rfl rfl (k := .i64) (n := deep) rfl ?_; intro w3 hbx hbw; have BW3 := Aside0.mk (below_step BW2.out hbw); have BX3 := Aside0.mk (blk_keep hbw BX2.out); have CC3 := Aside0.mk (blk_keep hbw CC2.out); have CD3 := Aside0.mk hbx; clear hbx hbw BW2 BX2 CC2; have hcv0 : w3.cell? ⟨w.heap.size, 0, none⟩ = some (.int .i64 p.f0) := blk_cells BX3.out 0 _ H0.out; have hcv1 : w3.cell? ⟨w.heap.size, 1, none⟩ = some (.int .i64 p.f1) := blk_cells BX3.out 1 _ H1.out; have hcv2 : w3.cell? ⟨w.heap.size, 2, none⟩ = some (.string p.f2) := blk_cells BX3.out 2 _ H2.out; have hcv3 : w3.cell? ⟨w.heap.size, 3, none⟩ = some (.int .i64 p.f3) := blk_cells BX3.out 3 _ H3.out; have hcv4 : w3.cell? ⟨w.heap.size, 4, none⟩ = some (.int .i64 p.f4) := blk_cells BX3.out 4 _ H4.out; have hcv5 : w3.cell? ⟨w.heap.size, 5, none⟩ = some (.slice A5 p.f5.length c5) := blk_cells BX3.out 5 _ H5.out; have hcc : w3.cell? ⟨w1.heap.size, 0, none⟩ = some (.int .i64 cols) := cell0_of CC3.out; have hcd : w3.cell? ⟨w2.heap.size, 0, none⟩ = some (.int .i64 deep) := cell0_of CD3.out)
   | (go_at_call 79; refine (HJ.out _).mono ?_; rintro e w4 ⟨rfl, hd4⟩; have hb4 := hd4.below; have BW4 := Aside0.mk (below_step BW3.out hb4); have BX4 := Aside0.mk (blk_keep hb4 BX3.out); have CC4 := Aside0.mk (blk_keep hb4 CC3.out); have CD4 := Aside0.mk (blk_keep hb4 CD3.out); clear hb4 hd4 BW3 BX3 CC3 CD3; clear hcv0 hcv1 hcv2 hcv3 hcv4 hcv5 hcc hcd; have hcv0 : w4.cell? ⟨w.heap.size, 0, none⟩ = some (.int .i64 p.f0) := blk_cells BX4.out 0 _ H0.out; have hcv1 : w4.cell? ⟨w.heap.size, 1, none⟩ = some (.int .i64 p.f1) := blk_cells BX4.out 1 _ H1.out; have hcv2 : w4.cell? ⟨w.heap.size, 2, none⟩ = some (.string p.f2) := blk_cells BX4.out 2 _ H2.out; have hcv3 : w4.cell? ⟨w.heap.size, 3, none⟩ = some (.int .i64 p.f3) := blk_cells BX4.out 3 _ H3.out; have hcv4 : w4.cell? ⟨w.heap.size, 4, none⟩ = some (.int .i64 p.f4) := blk_cells BX4.out 4 _ H4.out; have hcv5 : w4.cell? ⟨w.heap.size, 5, none⟩ = some (.slice A5 p.f5.length c5) := blk_cells BX4.out 5 _ H5.out; have hcc : w4.cell? ⟨w1.heap.size, 0, none⟩ = some (.int .i64 cols) := cell0_of CC4.out; have hcd : w4.cell? ⟨w2.heap.size, 0, none⟩ = some (.int .i64 deep) := cell0_of CD4.out)
   | (go_at_call 81; refine (HCT.out _ w1.heap.size w2.heap.size BW4.out CC4.out CD4.out).mono ?_; rintro e w5 ⟨rfl, hb5⟩; have BW5 := Aside0.mk (below_step BW4.out hb5); clear hb5))
  go_ret
  exact ⟨rfl, BW5.out⟩
theorem rightP_mono : ∀ k p cols deep, LeO (rightP k p cols deep) (rightP (k + 1) p cols deep)
 | 0, p, cols, deep => fun r hr => by cases hr
 | k + 1, p, cols, deep => by
  unfold rightP
  refine LeO.bind' LeO.same fun j => LeO.ite' (LeO.ite' (need_leaf.mono _ _ _ _ _ _ _ k) LeO.same) ?_
  repeat (first | refine LeO.ite' LeO.same ?_)
  exact LeO.map' (anyE_mono (fun q => LeO.map' (rightP_mono k q cols _)) _)
theorem need_right.mono : ∀ y0 y1 y2 y3 y4 y5 y6 y7 k, LeO (need_right.f k y0 y1 y2 y3 y4 y5 y6 y7) (need_right.f (k + 1) y0 y1 y2 y3 y4 y5 y6 y7) := fun _ _ _ _ _ _ _ _ k => rightP_mono k _ _ _
theorem need_right.calls (k : Nat) (a0_0 : Int) (a0_1 : Int) (a0_2 : ByteArray) (a0_3 : Int) (a0_4 : Int) (A0_5 : Option Addr) (c0_5 : Nat) (l0_5 : List (S24)) (a1 : Int) (a2 : Int) (r : Bool) (w : World) (hr0_5 : Kd.C k24 w A0_5 l0_5.length l0_5) (hc0_5 : l0_5.length ≤ c0_5) (h : need_right.f k a0_0 a0_1 a0_2 a0_3 a0_4 l0_5 a1 a2 = some r) :
  Calls Try.prog 61 #[.agg #[.int .i64 a0_0, .int .i64 a0_1, .string a0_2, .int .i64 a0_3, .int .i64 a0_4, .slice A0_5 l0_5.length c0_5], .int .i64 a1, .int .i64 a2] w fun e w' => e = .returned (.bool r) ∧ Below w.heap.size w w' :=
 need_right.core k ⟨a0_0, a0_1, a0_2, a0_3, a0_4, l0_5⟩ _ a1 a2 r w (k24_mk w ⟨a0_0, a0_1, a0_2, a0_3, a0_4, l0_5⟩ hc0_5 hr0_5) h

/-! ### need_Right: function 43 -/
def need_Right.f (k : Nat) (a0_0 : Int) (a0_1 : Int) (a0_2 : ByteArray) (a0_3 : Int) (a0_4 : Int) (l0_5 : List (S24)) (a1 : Int) : Option (Bool) := (need_right.f k a0_0 a0_1 a0_2 a0_3 a0_4 l0_5 a1 12).bind fun t115 => (some t115)
theorem need_Right.mono : ∀ a0 a1 a2 a3 a4 a5 a6 k, LeO (need_Right.f k a0 a1 a2 a3 a4 a5 a6) (need_Right.f (k + 1) a0 a1 a2 a3 a4 a5 a6) := by
 intro a0 a1 a2 a3 a4 a5 a6 k
 unfold need_Right.f
 repeat' first
   | (with_reducible exact need_right.mono _ _ _ _ _ _ _ _ _)
   | (with_reducible exact LeO.refl _)
   | (with_reducible exact LeO.none _)
   | (with_reducible refine LeO.ite ?_ ?_)
   | (with_reducible refine LeO.bind ?_ (fun _ => ?_))
   | exact need_right.mono _ _ _ _ _ _ _ _ _
   | exact LeO.none _
   | refine LeO.ite ?_ ?_
   | refine LeO.bind ?_ (fun _ => ?_)
theorem need_Right.calls (k : Nat) (a0_0 : Int) (a0_1 : Int) (a0_2 : ByteArray) (a0_3 : Int) (a0_4 : Int) (A0_5 : Option Addr) (c0_5 : Nat) (l0_5 : List (S24)) (a1 : Int) (r : Bool) (w : World) (hr0_5 : Kd.C k24 w A0_5 l0_5.length l0_5) (hc0_5 : l0_5.length ≤ c0_5) (h : need_Right.f k a0_0 a0_1 a0_2 a0_3 a0_4 l0_5 a1 = some r) :
  Calls Try.prog 43 #[.agg #[.int .i64 a0_0, .int .i64 a0_1, .string a0_2, .int .i64 a0_3, .int .i64 a0_4, .slice A0_5 l0_5.length c0_5], .int .i64 a1] w fun e w' => e = .returned (.bool r) ∧ Below w.heap.size w w' := by
 have hu24 := Try.underlying24; have HR0_5 := Aside0.mk hr0_5; have HC0_5 := Aside0.mk hc0_5; clear hr0_5 hc0_5; have HB := Aside0.mk (Below.refl w.heap.size w)
 have H : ((need_right.f k a0_0 a0_1 a0_2 a0_3 a0_4 l0_5 a1 12).bind fun t115 => (some t115)) = some r := h; clear h; replace H := Option.bind_eq_some_iff.mp H; obtain ⟨t115, A30, H⟩ := H; replace H : (some t115) = some r := H
 have A3 := Aside0.mk A30; clear A30; obtain rfl := Option.some.inj H
 go_enter Try.func43, Try.ntmps43
 go_wp2_with (first | ((with_reducible refine gate_dst (N := 2) rfl ?_); refine box_event ?hg (N := 2) ?hd (cs := #[.int .i64 a0_0, .int .i64 a0_1, .string a0_2, .int .i64 a0_3, .int .i64 a0_4, .slice A0_5 l0_5.length c0_5]) (t := 24) ?hr ?_; (case hd => rfl); (case hg => rfl); (case hr => first | (go_simp; done) | (go_simp; rfl) | (go_simp; simp (disch := omega) only [Go.u8_and63, Go.u8_and31, Go.u8_and15, Go.u8_and7, Go.u8_or128, Go.u8_or192, Go.u8_or224, Go.u8_or240, m64]; done)); intro gb114 hg w4 hbox hb; have n0_ := Aside0.mk (below_step (mvB HB.out) hb); have n1_ := Aside0.mk (hbox); have n2_ := Aside0.mk ((by rw [hg]; exact (below_size (mvB HB.out)) : w.heap.size ≤ gb114)); have n3_ := Aside0.mk ((by rw [hg]; exact (below_size (mvB HB.out)) : w.heap.size ≤ gb114)); clear HB; have HB := n0_; have BK114 := n1_; have GW114 := n2_; have GE114 := n3_; clear n0_ n1_ n2_ n3_; clear hb hbox hg; have hcz5_0 : w4.cell? ⟨gb114, 0, none⟩ = some (.int .i64 a0_0) := (blk_cell BK114.out 0).trans rfl; have hcz5_1 : w4.cell? ⟨gb114, 1, none⟩ = some (.int .i64 a0_1) := (blk_cell BK114.out 1).trans rfl; have hcz5_2 : w4.cell? ⟨gb114, 2, none⟩ = some (.string a0_2) := (blk_cell BK114.out 2).trans rfl; have hcz5_3 : w4.cell? ⟨gb114, 3, none⟩ = some (.int .i64 a0_3) := (blk_cell BK114.out 3).trans rfl; have hcz5_4 : w4.cell? ⟨gb114, 4, none⟩ = some (.int .i64 a0_4) := (blk_cell BK114.out 4).trans rfl; have hcz5_5 : w4.cell? ⟨gb114, 5, none⟩ = some (.slice A0_5 l0_5.length c0_5) := (blk_cell BK114.out 5).trans rfl; have hfz5_0 := blk_frozen BK114.out 0; have hfz5_1 := blk_frozen BK114.out 1; have hfz5_2 := blk_frozen BK114.out 2; have hfz5_3 := blk_frozen BK114.out 3; have hfz5_4 := blk_frozen BK114.out 4; have hfz5_5 := blk_frozen BK114.out 5) | ((with_reducible refine gate_callee (f := 61) rfl ?_); refine goesL_ (some 7) rfl rfl Try.func61 (by kernel_rfl) rfl #[.agg #[.int .i64 a0_0, .int .i64 a0_1, .string a0_2, .int .i64 a0_3, .int .i64 a0_4, .slice A0_5 l0_5.length c0_5], .int .i64 a1, .int .i64 12] rfl (by (try simp only [List.map_toArray, List.map_cons, List.map_nil]); first | done | rfl | (simp only [List.length_drop, List.length_take]; rfl)) ?_; (with_reducible refine (need_right.calls k a0_0 a0_1 a0_2 a0_3 a0_4 _ _ l0_5 a1 12 t115 _ ?side1 ?side2 A3.out).mono ?_); (case side1 => repeat (first | exact (Kd.C_below HR0_5.out HB.out) | (with_reducible refine Kd.C_alloc ?_ _) | (with_reducible refine Kd.C_drewN ?_ _) | (with_reducible refine Kd.C_drew ?_))); (case side2 => exact HC0_5.out); rintro e w6 ⟨rfl, hb⟩; refine ⟨_, rfl, ?_⟩; have n0_ := Aside0.mk (blk_below (g := gb114) (o := .cells #[.int .i64 a0_0, .int .i64 a0_1, .string a0_2, .int .i64 a0_3, .int .i64 a0_4, .slice A0_5 l0_5.length c0_5] 24 (0, 0)) (mvK BK114.out) hb); have n1_ := Aside0.mk (below_step (mvG HB.out GE114.out) hb); clear BK114; clear HB; have BK114 := n0_; have HB := n1_; clear n0_ n1_; (try clear hb); (try clear hb2); (try clear hk); (try clear hi)))
 go_ret
 exact exB (mvG HB.out GE114.out)

end Go.Proofs.Ytomccmodlkdcbaa.Q
