-- PRINTED by print.py (a twelfth state) out of the translation. Not trusted: Lean checks it.
import Derived.Test.YtdccooaddoafnaaGreatDoorQx0
import Derived.Test.YtdccooaddoafnaaGreatDoorQx11
import Derived.Test.YtdccooaddoafnaaGreatDoorQx12
import Derived.Test.YtdccooaddoafnaaGreatDoorQx13
import Derived.Test.YtdccooaddoafnaaGreatDoorQx14
import Derived.Test.YtdccooaddoafnaaGreatDoorQx17
namespace Go.Proofs.YtdccooaddoafnaaGreatDoor.Q
open Go.RowKit Go.Proofs.YtdccooaddoafnaaGreatDoorW.PrintWords Go.Proofs.YtdccooaddoafnaaGreatDoorW.PrintLast Go.Proofs.YtdccooaddoafnaaGreatDoorW.PrintMore
attribute [local go_sem] str_gtr str_geq str_leq max2_int min2_int max_two min_two max_three min_three max_four min_four
set_option linter.unusedVariables false
set_option maxHeartbeats 8000000
set_option maxRecDepth 1000000
set_option linter.unusedSimpArgs false

/-! ### hopperref16_Says: function 10 -/
-- told by hand
/-- How many kids say No, Yes, Unknown. -/
def cnt3 (g : S24 → Option Int) : List S24 → Nat → Nat → Nat → Option (Nat × Nat × Nat)
 | [], a, b, c => some (a, b, c)
 | q :: qs, a, b, c => (g q).bind fun x => if x = 0 then cnt3 g qs (a + 1) b c else if x = 1 then cnt3 g qs a (b + 1) c else cnt3 g qs a b (c + 1)
def fin3 (kd : Int) (a b c : Nat) : Int := if kd = 12 then (if 0 < a then 0 else if c = 0 then 1 else 2) else if kd = 13 then (if b = 0 ∧ c = 0 then 0 else if 0 < b then 1 else 2) else (if 0 < b then 0 else if c = 0 then 1 else 2)
def tst (kd c : Int) : Bool := if kd = 1 then c == 0 else if kd = 2 then c != 0 else if kd = 3 then decide (c < 0) else if kd = 4 then decide (c ≤ 0) else if kd = 5 then decide (0 < c) else decide (0 ≤ c)
def endsS (s x : ByteArray) : Bool := if x.size ≤ s.size then (s.extract (s.size - x.size) s.size).toList == x.toList else false
def bitS (b : Bool) : Int := if b = true then 1 else 0
def refLeaf (k : Nat) (p : S24) (v : S38) : Option Int := if p.f0 = 11 then some (bitS v.f0) else if v.f0 = true then (if p.f0 < 12 then some 2 else none) else if p.f0 = 7 then (hopperref16_Begins.f v.f1 p.f2).map bitS else if p.f0 = 8 then (if v.f1.size ≤ 9223372036854775807 then some (bitS (endsS v.f1 p.f2)) else none) else
 if p.f0 = 9 then (hopperref16_has.f k v.f1 p.f2).map bitS else if p.f0 = 10 then (hopperref09_Parse.f k p.f2 p.f3).bind fun x => (hopperref09_Match.f k x.1 v.f1).map bitS else if 1 ≤ p.f0 ∧ p.f0 ≤ 6 then (hopperref16_Compare.f k v.f1 p.f2 p.f4).map fun c => bitS (tst p.f0 c) else none
def refSaysP : Nat → S24 → List S38 → Option Int
 | 0, _, _ => none
 | k + 1, p, row => if 12 ≤ p.f0 ∧ p.f0 ≤ 14 then (cnt3 (fun q => refSaysP k q row) p.f5 0 0 0).map (fun x => fin3 p.f0 x.1 x.2.1 x.2.2) else
  if 0 ≤ p.f1 then if p.f1 < (row.length : Int) then refLeaf k p (rd_T38 row p.f1) else none else none
def hopperref16_Says.f (k : Nat) (a0_0 : Int) (a0_1 : Int) (a0_2 : ByteArray) (a0_3 : Int) (a0_4 : Int) (l0_5 : List S24) (l1 : List S38) : Option Int := refSaysP k ⟨a0_0, a0_1, a0_2, a0_3, a0_4, l0_5⟩ l1
/-- What a step below tells of the function itself. -/
def hopperref16_Says.IH (k : Nat) : Prop := ∀ (p : S24) (cs : List Value) (A1 : Option Addr) (c1 : Nat) (row : List S38) (r : Int) (w : World), k24.K w p cs → Kd.C k38 w A1 row.length row → row.length ≤ c1 → refSaysP k p row = some r →
  Calls Tryz.prog 10 #[.agg cs.toArray, .slice A1 row.length c1] w fun e w' => e = .returned (.int .i64 r) ∧ Below w.heap.size w w'
theorem hopperref16_Says.null (k : Nat) (p : S24) (cs : List Value) (kd : Int) (A1 : Option Addr) (c1 : Nat) (row : List S38) (j : Nat) (vn : Bool) (vs : ByteArray) (w : World) (hL : cs.length = 6) (h0 : cs[0]? = some (.int .i64 kd)) (h1 : cs[1]? = some (.int .i64 (j : Int))) (h2 : cs[2]? = some (.string p.f2)) (h3 : cs[3]? = some (.int .i64 p.f3)) (h4 : cs[4]? = some (.int .i64 p.f4)) (hj : j < row.length) (ad : Addr) (hA : A1 = some ad) (hn : row.length ≤ 9223372036854775807) (hcell : ∀ t v, ([Value.bool vn, Value.string vs] : List Value)[t]? = some v → w.cell? ((ad.add (j * 2)).add t) = some v) (hk : kd = 11) :
  Calls Tryz.prog 10 #[.agg cs.toArray, .slice A1 row.length c1] w fun e w' => e = .returned (.int .i64 (bitS vn)) ∧ Below w.heap.size w w' := by
 subst hA; have hup := Tryz.underlying24; have huv := Tryz.underlying38; have HAGG := Aside0.mk (show ∀ W, (isAgg 24).run Tryz.prog W = .ok true W from fun W => by first | exact Tryz.isAgg24 | exact Tryz.isAgg24 W | go_simp)
 have HSZ := Aside0.mk (show ∀ W, (sizeOf 24).run Tryz.prog W = .ok 6 W from fun W => by first | exact Tryz.sizeOf24 | exact Tryz.sizeOf24 W | go_simp)
 have HAGGV := Aside0.mk (show ∀ W, (isAgg 38).run Tryz.prog W = .ok true W from fun W => by first | exact Tryz.isAgg38 | exact Tryz.isAgg38 W | go_simp)
 have HSZV := Aside0.mk (show ∀ W, (sizeOf 38).run Tryz.prog W = .ok 2 W from fun W => by first | exact Tryz.sizeOf38 | exact Tryz.sizeOf38 W | go_simp)
 have HL6 := Aside0.mk hL; have H0 := Aside0.mk h0; have H1 := Aside0.mk h1; have H2 := Aside0.mk h2; have H3 := Aside0.mk h3; have H4 := Aside0.mk h4; have HCELL := Aside0.mk hcell; have hjz : (j : Int) < (row.length : Int) := by omega
 have hj0 : (0 : Int) ≤ (j : Int) := by omega
 have HBIT := Aside0.mk (fun (b : Bool) (W : World) => hopperref16_bit.calls b (if b = true then 1 else 0) W (by unfold hopperref16_bit.f; cases b <;> rfl))
 clear hL h0 h1 h2 h3 h4 hcell hn; subst hk; go_enter Tryz.func10, Tryz.ntmps10
 go_wp2_with (first
  | ((with_reducible refine gate_dst (N := 2) rfl ?_); refine box_all rfl rfl (cs := cs.toArray) rfl (fun W => by rw [List.size_toArray, HL6.out]; exact HSZ.out W) ?_; intro w1 hbx hbw; have BW1 := Aside0.mk hbw; have BX1 := Aside0.mk hbx; have hcv0 : w1.cell? ⟨w.heap.size, 0, none⟩ = some _ := blk_cells BX1.out 0 _ H0.out; have hcv1 : w1.cell? ⟨w.heap.size, 1, none⟩ = some _ := blk_cells BX1.out 1 _ H1.out; clear hbx hbw)
  | ((with_reducible refine gate_dst (N := 90) rfl ?_); refine load_all rfl rfl (cs := [.bool vn, .string vs]) rfl HAGGV.out (fun W => HSZV.out W) (fun j v hj => (BW1.out.cell (World.block_lt_of_cell? w _ (HCELL.out j v hj))).trans (HCELL.out j v hj)) ?_)
  | ((with_reducible refine gate_store (t := 38) (p := 10) rfl ?_); refine store_all (g := w1.heap.size) (cs := #[.bool vn, .string vs]) (t' := 38) rfl rfl rfl rfl rfl (fun W => HSZV.out W) (heap_alloc_new w1 _) rfl (fun u hu => by have h2 : u = Value.bool vn ∨ u = Value.string vs := (by simpa using hu); rcases h2 with rfl | rfl <;> rfl) ?_; intro w3 hbx hoth hs3 hos htp hou; have B3 := Aside0.mk (show Below w1.heap.size w1 w3 from ⟨by rw [hos]; rfl, by rw [htp]; rfl, by rw [hou]; rfl, by rw [hs3]; simp, fun k hk => by rw [hoth k (Nat.ne_of_lt hk)]; exact Below.heap_alloc w1 _ k hk⟩); have BW3 := Aside0.mk (below_step BW1.out B3.out); have BX3 := Aside0.mk (blk_keep B3.out BX1.out); have BV3 := Aside0.mk hbx; have hvn : w3.cell? ⟨w1.heap.size, 0, none⟩ = some (.bool vn) := blk_cells (cs := [.bool vn, .string vs]) hbx 0 _ rfl; have hvs : w3.cell? ⟨w1.heap.size, 1, none⟩ = some (.string vs) := blk_cells (cs := [.bool vn, .string vs]) hbx 1 _ rfl; clear hcv0 hcv1; have hcv0 : w3.cell? ⟨w.heap.size, 0, none⟩ = some _ := blk_cells BX3.out 0 _ H0.out; have hcv1 : w3.cell? ⟨w.heap.size, 1, none⟩ = some _ := blk_cells BX3.out 1 _ H1.out; clear hbx hoth hs3 hos htp hou)
  | (go_at_call 19; refine (HBIT.out _ _).mono ?_; rintro e w7 ⟨rfl, hd7⟩; have BW9 := Aside0.mk (below_step BW3.out hd7.below); clear hd7))
 all_goals go_ret
 all_goals exact ⟨rfl, BW9.out⟩
theorem hopperref16_Says.unk (k : Nat) (p : S24) (cs : List Value) (kd : Int) (A1 : Option Addr) (c1 : Nat) (row : List S38) (j : Nat) (vn : Bool) (vs : ByteArray) (w : World) (hL : cs.length = 6) (h0 : cs[0]? = some (.int .i64 kd)) (h1 : cs[1]? = some (.int .i64 (j : Int))) (h2 : cs[2]? = some (.string p.f2)) (h3 : cs[3]? = some (.int .i64 p.f3)) (h4 : cs[4]? = some (.int .i64 p.f4)) (hj : j < row.length) (ad : Addr) (hA : A1 = some ad) (hn : row.length ≤ 9223372036854775807) (hcell : ∀ t v, ([Value.bool vn, Value.string vs] : List Value)[t]? = some v → w.cell? ((ad.add (j * 2)).add t) = some v) (hk : kd ≠ 11) (hk2 : kd < 12) (hv : vn = true) :
  Calls Tryz.prog 10 #[.agg cs.toArray, .slice A1 row.length c1] w fun e w' => e = .returned (.int .i64 2) ∧ Below w.heap.size w w' := by
 subst hA; have hup := Tryz.underlying24; have huv := Tryz.underlying38; have HAGG := Aside0.mk (show ∀ W, (isAgg 24).run Tryz.prog W = .ok true W from fun W => by first | exact Tryz.isAgg24 | exact Tryz.isAgg24 W | go_simp)
 have HSZ := Aside0.mk (show ∀ W, (sizeOf 24).run Tryz.prog W = .ok 6 W from fun W => by first | exact Tryz.sizeOf24 | exact Tryz.sizeOf24 W | go_simp)
 have HAGGV := Aside0.mk (show ∀ W, (isAgg 38).run Tryz.prog W = .ok true W from fun W => by first | exact Tryz.isAgg38 | exact Tryz.isAgg38 W | go_simp)
 have HSZV := Aside0.mk (show ∀ W, (sizeOf 38).run Tryz.prog W = .ok 2 W from fun W => by first | exact Tryz.sizeOf38 | exact Tryz.sizeOf38 W | go_simp)
 have HL6 := Aside0.mk hL; have H0 := Aside0.mk h0; have H1 := Aside0.mk h1; have H2 := Aside0.mk h2; have H3 := Aside0.mk h3; have H4 := Aside0.mk h4; have HCELL := Aside0.mk hcell; have hjz : (j : Int) < (row.length : Int) := by omega
 have hj0 : (0 : Int) ≤ (j : Int) := by omega
 have HBIT := Aside0.mk (fun (b : Bool) (W : World) => hopperref16_bit.calls b (if b = true then 1 else 0) W (by unfold hopperref16_bit.f; cases b <;> rfl))
 clear hL h0 h1 h2 h3 h4 hcell hn; subst hv; have q11 : (kd == 11) = false := beq_eq_false_iff_ne.mpr hk; have q12 : decide (12 ≤ kd) = false := decide_eq_false (by omega)
 clear hk hk2; go_enter Tryz.func10, Tryz.ntmps10
 go_wp2_with (first
  | ((with_reducible refine gate_dst (N := 2) rfl ?_); refine box_all rfl rfl (cs := cs.toArray) rfl (fun W => by rw [List.size_toArray, HL6.out]; exact HSZ.out W) ?_; intro w1 hbx hbw; have BW1 := Aside0.mk hbw; have BX1 := Aside0.mk hbx; have hcv0 : w1.cell? ⟨w.heap.size, 0, none⟩ = some _ := blk_cells BX1.out 0 _ H0.out; have hcv1 : w1.cell? ⟨w.heap.size, 1, none⟩ = some _ := blk_cells BX1.out 1 _ H1.out; clear hbx hbw)
  | ((with_reducible refine gate_dst (N := 90) rfl ?_); refine load_all rfl rfl (cs := [.bool true, .string vs]) rfl HAGGV.out (fun W => HSZV.out W) (fun j v hj => (BW1.out.cell (World.block_lt_of_cell? w _ (HCELL.out j v hj))).trans (HCELL.out j v hj)) ?_)
  | ((with_reducible refine gate_store (t := 38) (p := 10) rfl ?_); refine store_all (g := w1.heap.size) (cs := #[.bool true, .string vs]) (t' := 38) rfl rfl rfl rfl rfl (fun W => HSZV.out W) (heap_alloc_new w1 _) rfl (fun u hu => by have h2 : u = Value.bool true ∨ u = Value.string vs := (by simpa using hu); rcases h2 with rfl | rfl <;> rfl) ?_; intro w3 hbx hoth hs3 hos htp hou; have B3 := Aside0.mk (show Below w1.heap.size w1 w3 from ⟨by rw [hos]; rfl, by rw [htp]; rfl, by rw [hou]; rfl, by rw [hs3]; simp, fun k hk => by rw [hoth k (Nat.ne_of_lt hk)]; exact Below.heap_alloc w1 _ k hk⟩); have BW3 := Aside0.mk (below_step BW1.out B3.out); have BX3 := Aside0.mk (blk_keep B3.out BX1.out); have BV3 := Aside0.mk hbx; have hvn : w3.cell? ⟨w1.heap.size, 0, none⟩ = some (.bool true) := blk_cells (cs := [.bool true, .string vs]) hbx 0 _ rfl; have hvs : w3.cell? ⟨w1.heap.size, 1, none⟩ = some (.string vs) := blk_cells (cs := [.bool true, .string vs]) hbx 1 _ rfl; clear hcv0 hcv1; have hcv0 : w3.cell? ⟨w.heap.size, 0, none⟩ = some _ := blk_cells BX3.out 0 _ H0.out; have hcv1 : w3.cell? ⟨w.heap.size, 1, none⟩ = some _ := blk_cells BX3.out 1 _ H1.out; clear hbx hoth hs3 hos htp hou))
 all_goals go_ret
 exact ⟨rfl, BW3.out⟩
theorem hopperref16_Says.begins (k : Nat) (p : S24) (cs : List Value) (kd : Int) (A1 : Option Addr) (c1 : Nat) (row : List S38) (j : Nat) (vn : Bool) (vs : ByteArray) (w : World) (hL : cs.length = 6) (h0 : cs[0]? = some (.int .i64 kd)) (h1 : cs[1]? = some (.int .i64 (j : Int))) (h2 : cs[2]? = some (.string p.f2)) (h3 : cs[3]? = some (.int .i64 p.f3)) (h4 : cs[4]? = some (.int .i64 p.f4)) (hj : j < row.length) (ad : Addr) (hA : A1 = some ad) (hn : row.length ≤ 9223372036854775807) (hcell : ∀ t v, ([Value.bool vn, Value.string vs] : List Value)[t]? = some v → w.cell? ((ad.add (j * 2)).add t) = some v) (hk : kd = 7) (hv : vn = false) (b : Bool) (h : hopperref16_Begins.f vs p.f2 = some b) :
  Calls Tryz.prog 10 #[.agg cs.toArray, .slice A1 row.length c1] w fun e w' => e = .returned (.int .i64 (bitS b)) ∧ Below w.heap.size w w' := by
 subst hA; have hup := Tryz.underlying24; have huv := Tryz.underlying38; have HAGG := Aside0.mk (show ∀ W, (isAgg 24).run Tryz.prog W = .ok true W from fun W => by first | exact Tryz.isAgg24 | exact Tryz.isAgg24 W | go_simp)
 have HSZ := Aside0.mk (show ∀ W, (sizeOf 24).run Tryz.prog W = .ok 6 W from fun W => by first | exact Tryz.sizeOf24 | exact Tryz.sizeOf24 W | go_simp)
 have HAGGV := Aside0.mk (show ∀ W, (isAgg 38).run Tryz.prog W = .ok true W from fun W => by first | exact Tryz.isAgg38 | exact Tryz.isAgg38 W | go_simp)
 have HSZV := Aside0.mk (show ∀ W, (sizeOf 38).run Tryz.prog W = .ok 2 W from fun W => by first | exact Tryz.sizeOf38 | exact Tryz.sizeOf38 W | go_simp)
 have HL6 := Aside0.mk hL; have H0 := Aside0.mk h0; have H1 := Aside0.mk h1; have H2 := Aside0.mk h2; have H3 := Aside0.mk h3; have H4 := Aside0.mk h4; have HCELL := Aside0.mk hcell; have hjz : (j : Int) < (row.length : Int) := by omega
 have hj0 : (0 : Int) ≤ (j : Int) := by omega
 have HBIT := Aside0.mk (fun (b : Bool) (W : World) => hopperref16_bit.calls b (if b = true then 1 else 0) W (by unfold hopperref16_bit.f; cases b <;> rfl))
 clear hL h0 h1 h2 h3 h4 hcell hn; subst hv; subst hk; have HX := Aside0.mk (fun W (hb : Below w.heap.size w W) => ((hopperref16_Begins.calls vs p.f2 b W h).mono (fun e w' hh => ⟨hh.1, hh.2.below⟩) : Calls Tryz.prog 20 #[.string vs, .string p.f2] W fun e w' => e = .returned (.bool b) ∧ Below W.heap.size W w'))
 clear h; go_enter Tryz.func10, Tryz.ntmps10
 go_wp2_with (first
  | ((with_reducible refine gate_dst (N := 2) rfl ?_); refine box_all rfl rfl (cs := cs.toArray) rfl (fun W => by rw [List.size_toArray, HL6.out]; exact HSZ.out W) ?_; intro w1 hbx hbw; have BW1 := Aside0.mk hbw; have BX1 := Aside0.mk hbx; have hcv0 : w1.cell? ⟨w.heap.size, 0, none⟩ = some _ := blk_cells BX1.out 0 _ H0.out; have hcv1 : w1.cell? ⟨w.heap.size, 1, none⟩ = some _ := blk_cells BX1.out 1 _ H1.out; have hcv2 : w1.cell? ⟨w.heap.size, 2, none⟩ = some _ := blk_cells BX1.out 2 _ H2.out; clear hbx hbw)
  | ((with_reducible refine gate_dst (N := 90) rfl ?_); refine load_all rfl rfl (cs := [.bool false, .string vs]) rfl HAGGV.out (fun W => HSZV.out W) (fun j v hj => (BW1.out.cell (World.block_lt_of_cell? w _ (HCELL.out j v hj))).trans (HCELL.out j v hj)) ?_)
  | ((with_reducible refine gate_store (t := 38) (p := 10) rfl ?_); refine store_all (g := w1.heap.size) (cs := #[.bool false, .string vs]) (t' := 38) rfl rfl rfl rfl rfl (fun W => HSZV.out W) (heap_alloc_new w1 _) rfl (fun u hu => by have h2 : u = Value.bool false ∨ u = Value.string vs := (by simpa using hu); rcases h2 with rfl | rfl <;> rfl) ?_; intro w3 hbx hoth hs3 hos htp hou; have B3 := Aside0.mk (show Below w1.heap.size w1 w3 from ⟨by rw [hos]; rfl, by rw [htp]; rfl, by rw [hou]; rfl, by rw [hs3]; simp, fun k hk => by rw [hoth k (Nat.ne_of_lt hk)]; exact Below.heap_alloc w1 _ k hk⟩); have BW3 := Aside0.mk (below_step BW1.out B3.out); have BX3 := Aside0.mk (blk_keep B3.out BX1.out); have BV3 := Aside0.mk hbx; have hvn : w3.cell? ⟨w1.heap.size, 0, none⟩ = some (.bool false) := blk_cells (cs := [.bool false, .string vs]) hbx 0 _ rfl; have hvs : w3.cell? ⟨w1.heap.size, 1, none⟩ = some (.string vs) := blk_cells (cs := [.bool false, .string vs]) hbx 1 _ rfl; clear hcv0 hcv1 hcv2; have hcv0 : w3.cell? ⟨w.heap.size, 0, none⟩ = some _ := blk_cells BX3.out 0 _ H0.out; have hcv1 : w3.cell? ⟨w.heap.size, 1, none⟩ = some _ := blk_cells BX3.out 1 _ H1.out; have hcv2 : w3.cell? ⟨w.heap.size, 2, none⟩ = some _ := blk_cells BX3.out 2 _ H2.out; clear hbx hoth hs3 hos htp hou)
  | (go_at_call 20; refine (HX.out _ BW3.out).mono ?_; rintro e w6 ⟨rfl, hb6⟩; have BW6 := Aside0.mk (below_step BW3.out hb6); clear hb6)
  | (go_at_call 19; refine (HBIT.out _ _).mono ?_; rintro e w7 ⟨rfl, hd7⟩; have BW9 := Aside0.mk (below_step BW6.out hd7.below); clear hd7))
 all_goals go_ret
 all_goals exact ⟨rfl, BW9.out⟩
theorem hopperref16_Says.has (k : Nat) (p : S24) (cs : List Value) (kd : Int) (A1 : Option Addr) (c1 : Nat) (row : List S38) (j : Nat) (vn : Bool) (vs : ByteArray) (w : World) (hL : cs.length = 6) (h0 : cs[0]? = some (.int .i64 kd)) (h1 : cs[1]? = some (.int .i64 (j : Int))) (h2 : cs[2]? = some (.string p.f2)) (h3 : cs[3]? = some (.int .i64 p.f3)) (h4 : cs[4]? = some (.int .i64 p.f4)) (hj : j < row.length) (ad : Addr) (hA : A1 = some ad) (hn : row.length ≤ 9223372036854775807) (hcell : ∀ t v, ([Value.bool vn, Value.string vs] : List Value)[t]? = some v → w.cell? ((ad.add (j * 2)).add t) = some v) (hk : kd = 9) (hv : vn = false) (b : Bool) (h : hopperref16_has.f k vs p.f2 = some b) :
  Calls Tryz.prog 10 #[.agg cs.toArray, .slice A1 row.length c1] w fun e w' => e = .returned (.int .i64 (bitS b)) ∧ Below w.heap.size w w' := by
 subst hA; have hup := Tryz.underlying24; have huv := Tryz.underlying38; have HAGG := Aside0.mk (show ∀ W, (isAgg 24).run Tryz.prog W = .ok true W from fun W => by first | exact Tryz.isAgg24 | exact Tryz.isAgg24 W | go_simp)
 have HSZ := Aside0.mk (show ∀ W, (sizeOf 24).run Tryz.prog W = .ok 6 W from fun W => by first | exact Tryz.sizeOf24 | exact Tryz.sizeOf24 W | go_simp)
 have HAGGV := Aside0.mk (show ∀ W, (isAgg 38).run Tryz.prog W = .ok true W from fun W => by first | exact Tryz.isAgg38 | exact Tryz.isAgg38 W | go_simp)
 have HSZV := Aside0.mk (show ∀ W, (sizeOf 38).run Tryz.prog W = .ok 2 W from fun W => by first | exact Tryz.sizeOf38 | exact Tryz.sizeOf38 W | go_simp)
 have HL6 := Aside0.mk hL; have H0 := Aside0.mk h0; have H1 := Aside0.mk h1; have H2 := Aside0.mk h2; have H3 := Aside0.mk h3; have H4 := Aside0.mk h4; have HCELL := Aside0.mk hcell; have hjz : (j : Int) < (row.length : Int) := by omega
 have hj0 : (0 : Int) ≤ (j : Int) := by omega
 have HBIT := Aside0.mk (fun (b : Bool) (W : World) => hopperref16_bit.calls b (if b = true then 1 else 0) W (by unfold hopperref16_bit.f; cases b <;> rfl))
 clear hL h0 h1 h2 h3 h4 hcell hn; subst hv; subst hk; have HX := Aside0.mk (fun W (hb : Below w.heap.size w W) => ((hopperref16_has.calls k vs p.f2 b W h).mono (fun e w' hh => ⟨hh.1, hh.2.below⟩) : Calls Tryz.prog 21 #[.string vs, .string p.f2] W fun e w' => e = .returned (.bool b) ∧ Below W.heap.size W w'))
 clear h; go_enter Tryz.func10, Tryz.ntmps10
 go_wp2_with (first
  | ((with_reducible refine gate_dst (N := 2) rfl ?_); refine box_all rfl rfl (cs := cs.toArray) rfl (fun W => by rw [List.size_toArray, HL6.out]; exact HSZ.out W) ?_; intro w1 hbx hbw; have BW1 := Aside0.mk hbw; have BX1 := Aside0.mk hbx; have hcv0 : w1.cell? ⟨w.heap.size, 0, none⟩ = some _ := blk_cells BX1.out 0 _ H0.out; have hcv1 : w1.cell? ⟨w.heap.size, 1, none⟩ = some _ := blk_cells BX1.out 1 _ H1.out; have hcv2 : w1.cell? ⟨w.heap.size, 2, none⟩ = some _ := blk_cells BX1.out 2 _ H2.out; clear hbx hbw)
  | ((with_reducible refine gate_dst (N := 90) rfl ?_); refine load_all rfl rfl (cs := [.bool false, .string vs]) rfl HAGGV.out (fun W => HSZV.out W) (fun j v hj => (BW1.out.cell (World.block_lt_of_cell? w _ (HCELL.out j v hj))).trans (HCELL.out j v hj)) ?_)
  | ((with_reducible refine gate_store (t := 38) (p := 10) rfl ?_); refine store_all (g := w1.heap.size) (cs := #[.bool false, .string vs]) (t' := 38) rfl rfl rfl rfl rfl (fun W => HSZV.out W) (heap_alloc_new w1 _) rfl (fun u hu => by have h2 : u = Value.bool false ∨ u = Value.string vs := (by simpa using hu); rcases h2 with rfl | rfl <;> rfl) ?_; intro w3 hbx hoth hs3 hos htp hou; have B3 := Aside0.mk (show Below w1.heap.size w1 w3 from ⟨by rw [hos]; rfl, by rw [htp]; rfl, by rw [hou]; rfl, by rw [hs3]; simp, fun k hk => by rw [hoth k (Nat.ne_of_lt hk)]; exact Below.heap_alloc w1 _ k hk⟩); have BW3 := Aside0.mk (below_step BW1.out B3.out); have BX3 := Aside0.mk (blk_keep B3.out BX1.out); have BV3 := Aside0.mk hbx; have hvn : w3.cell? ⟨w1.heap.size, 0, none⟩ = some (.bool false) := blk_cells (cs := [.bool false, .string vs]) hbx 0 _ rfl; have hvs : w3.cell? ⟨w1.heap.size, 1, none⟩ = some (.string vs) := blk_cells (cs := [.bool false, .string vs]) hbx 1 _ rfl; clear hcv0 hcv1 hcv2; have hcv0 : w3.cell? ⟨w.heap.size, 0, none⟩ = some _ := blk_cells BX3.out 0 _ H0.out; have hcv1 : w3.cell? ⟨w.heap.size, 1, none⟩ = some _ := blk_cells BX3.out 1 _ H1.out; have hcv2 : w3.cell? ⟨w.heap.size, 2, none⟩ = some _ := blk_cells BX3.out 2 _ H2.out; clear hbx hoth hs3 hos htp hou)
  | (go_at_call 21; refine (HX.out _ BW3.out).mono ?_; rintro e w6 ⟨rfl, hb6⟩; have BW6 := Aside0.mk (below_step BW3.out hb6); clear hb6)
  | (go_at_call 19; refine (HBIT.out _ _).mono ?_; rintro e w7 ⟨rfl, hd7⟩; have BW9 := Aside0.mk (below_step BW6.out hd7.below); clear hd7))
 all_goals go_ret
 all_goals exact ⟨rfl, BW9.out⟩
theorem hopperref16_Says.like (k : Nat) (p : S24) (cs : List Value) (kd : Int) (A1 : Option Addr) (c1 : Nat) (row : List S38) (j : Nat) (vn : Bool) (vs : ByteArray) (w : World) (hL : cs.length = 6) (h0 : cs[0]? = some (.int .i64 kd)) (h1 : cs[1]? = some (.int .i64 (j : Int))) (h2 : cs[2]? = some (.string p.f2)) (h3 : cs[3]? = some (.int .i64 p.f3)) (h4 : cs[4]? = some (.int .i64 p.f4)) (hj : j < row.length) (ad : Addr) (hA : A1 = some ad) (hn : row.length ≤ 9223372036854775807) (hcell : ∀ t v, ([Value.bool vn, Value.string vs] : List Value)[t]? = some v → w.cell? ((ad.add (j * 2)).add t) = some v) (hk : kd = 10) (hv : vn = false) (x1 : List Int) (x2 : Int) (b : Bool) (h : hopperref09_Parse.f k p.f2 p.f3 = some (x1, x2)) (h' : hopperref09_Match.f k x1 vs = some b) :
  Calls Tryz.prog 10 #[.agg cs.toArray, .slice A1 row.length c1] w fun e w' => e = .returned (.int .i64 (bitS b)) ∧ Below w.heap.size w w' := by
 subst hA; have hup := Tryz.underlying24; have huv := Tryz.underlying38; have HAGG := Aside0.mk (show ∀ W, (isAgg 24).run Tryz.prog W = .ok true W from fun W => by first | exact Tryz.isAgg24 | exact Tryz.isAgg24 W | go_simp)
 have HSZ := Aside0.mk (show ∀ W, (sizeOf 24).run Tryz.prog W = .ok 6 W from fun W => by first | exact Tryz.sizeOf24 | exact Tryz.sizeOf24 W | go_simp)
 have HAGGV := Aside0.mk (show ∀ W, (isAgg 38).run Tryz.prog W = .ok true W from fun W => by first | exact Tryz.isAgg38 | exact Tryz.isAgg38 W | go_simp)
 have HSZV := Aside0.mk (show ∀ W, (sizeOf 38).run Tryz.prog W = .ok 2 W from fun W => by first | exact Tryz.sizeOf38 | exact Tryz.sizeOf38 W | go_simp)
 have HL6 := Aside0.mk hL; have H0 := Aside0.mk h0; have H1 := Aside0.mk h1; have H2 := Aside0.mk h2; have H3 := Aside0.mk h3; have H4 := Aside0.mk h4; have HCELL := Aside0.mk hcell; have hjz : (j : Int) < (row.length : Int) := by omega
 have hj0 : (0 : Int) ≤ (j : Int) := by omega
 have HBIT := Aside0.mk (fun (b : Bool) (W : World) => hopperref16_bit.calls b (if b = true then 1 else 0) W (by unfold hopperref16_bit.f; cases b <;> rfl))
 clear hL h0 h1 h2 h3 h4 hcell hn; subst hv; subst hk; have HX := Aside0.mk (fun W (hb : Below w.heap.size w W) => hopperref09_Parse.calls k p.f2 p.f3 x1 x2 W h)
 have HY := Aside0.mk (fun W (A : Option Addr) (c : Nat) (hr : Kd.C (Kd.int .i64) W A x1.length x1) (hc : x1.length ≤ c) => ((hopperref09_Match.calls k A c x1 vs b W hr hc h').mono (fun e w' hh => ⟨hh.1, by first | exact hh.2 | exact hh.2.below⟩) : Calls Tryz.prog 22 #[.slice A x1.length c, .string vs] W fun e w' => e = .returned (.bool b) ∧ Below W.heap.size W w'))
 clear h h'; go_enter Tryz.func10, Tryz.ntmps10
 go_wp2_with (first
  | ((with_reducible refine gate_dst (N := 2) rfl ?_); refine box_all rfl rfl (cs := cs.toArray) rfl (fun W => by rw [List.size_toArray, HL6.out]; exact HSZ.out W) ?_; intro w1 hbx hbw; have BW1 := Aside0.mk hbw; have BX1 := Aside0.mk hbx; have hcv0 : w1.cell? ⟨w.heap.size, 0, none⟩ = some _ := blk_cells BX1.out 0 _ H0.out; have hcv1 : w1.cell? ⟨w.heap.size, 1, none⟩ = some _ := blk_cells BX1.out 1 _ H1.out; have hcv2 : w1.cell? ⟨w.heap.size, 2, none⟩ = some _ := blk_cells BX1.out 2 _ H2.out; have hcv3 : w1.cell? ⟨w.heap.size, 3, none⟩ = some _ := blk_cells BX1.out 3 _ H3.out; clear hbx hbw)
  | ((with_reducible refine gate_dst (N := 90) rfl ?_); refine load_all rfl rfl (cs := [.bool false, .string vs]) rfl HAGGV.out (fun W => HSZV.out W) (fun j v hj => (BW1.out.cell (World.block_lt_of_cell? w _ (HCELL.out j v hj))).trans (HCELL.out j v hj)) ?_)
  | ((with_reducible refine gate_store (t := 38) (p := 10) rfl ?_); refine store_all (g := w1.heap.size) (cs := #[.bool false, .string vs]) (t' := 38) rfl rfl rfl rfl rfl (fun W => HSZV.out W) (heap_alloc_new w1 _) rfl (fun u hu => by have h2 : u = Value.bool false ∨ u = Value.string vs := (by simpa using hu); rcases h2 with rfl | rfl <;> rfl) ?_; intro w3 hbx hoth hs3 hos htp hou; have B3 := Aside0.mk (show Below w1.heap.size w1 w3 from ⟨by rw [hos]; rfl, by rw [htp]; rfl, by rw [hou]; rfl, by rw [hs3]; simp, fun k hk => by rw [hoth k (Nat.ne_of_lt hk)]; exact Below.heap_alloc w1 _ k hk⟩); have BW3 := Aside0.mk (below_step BW1.out B3.out); have BX3 := Aside0.mk (blk_keep B3.out BX1.out); have BV3 := Aside0.mk hbx; have hvn : w3.cell? ⟨w1.heap.size, 0, none⟩ = some (.bool false) := blk_cells (cs := [.bool false, .string vs]) hbx 0 _ rfl; have hvs : w3.cell? ⟨w1.heap.size, 1, none⟩ = some (.string vs) := blk_cells (cs := [.bool false, .string vs]) hbx 1 _ rfl; clear hcv0 hcv1 hcv2 hcv3; have hcv0 : w3.cell? ⟨w.heap.size, 0, none⟩ = some _ := blk_cells BX3.out 0 _ H0.out; have hcv1 : w3.cell? ⟨w.heap.size, 1, none⟩ = some _ := blk_cells BX3.out 1 _ H1.out; have hcv2 : w3.cell? ⟨w.heap.size, 2, none⟩ = some _ := blk_cells BX3.out 2 _ H2.out; have hcv3 : w3.cell? ⟨w.heap.size, 3, none⟩ = some _ := blk_cells BX3.out 3 _ H3.out; clear hbx hoth hs3 hos htp hou)
  | (go_at_call 15; refine (HX.out _ BW3.out).mono ?_; rintro e w5 ⟨v5, rfl, hR5, hb5⟩; obtain ⟨Ar, cr, rfl, hlr, hCr⟩ := Kd.R_reads hR5; have HCR := Aside0.mk hCr; have HLR := Aside0.mk hlr; have BW5 := Aside0.mk (below_step BW3.out hb5); have hvs5 : w5.cell? ⟨w1.heap.size, 1, none⟩ = some (.string vs) := blk_cells (cs := [.bool false, .string vs]) (blk_keep hb5 BV3.out) 1 _ rfl; clear hvs hvn; have hvs := hvs5; clear hvs5; clear hb5 hR5 hlr hCr)
  | (go_at_call 22; refine (HY.out _ Ar cr HCR.out HLR.out).mono ?_; rintro e w6 ⟨rfl, hb6⟩; have BW6 := Aside0.mk (below_step BW5.out hb6); clear hb6)
  | (go_at_call 19; refine (HBIT.out _ _).mono ?_; rintro e w7 ⟨rfl, hd7⟩; have BW9 := Aside0.mk (below_step BW6.out hd7.below); clear hd7))
 all_goals go_ret
 all_goals exact ⟨rfl, BW9.out⟩
theorem hopperref16_Says.ends_true (k : Nat) (p : S24) (cs : List Value) (kd : Int) (A1 : Option Addr) (c1 : Nat) (row : List S38) (j : Nat) (vn : Bool) (vs : ByteArray) (w : World) (hL : cs.length = 6) (h0 : cs[0]? = some (.int .i64 kd)) (h1 : cs[1]? = some (.int .i64 (j : Int))) (h2 : cs[2]? = some (.string p.f2)) (h3 : cs[3]? = some (.int .i64 p.f3)) (h4 : cs[4]? = some (.int .i64 p.f4)) (hj : j < row.length) (ad : Addr) (hA : A1 = some ad) (hn : row.length ≤ 9223372036854775807) (hcell : ∀ t v, ([Value.bool vn, Value.string vs] : List Value)[t]? = some v → w.cell? ((ad.add (j * 2)).add t) = some v) (hk : kd = 8) (hv : vn = false) (hz : p.f2.size ≤ vs.size) (hm : vs.size ≤ 9223372036854775807) :
  Calls Tryz.prog 10 #[.agg cs.toArray, .slice A1 row.length c1] w fun e w' => e = .returned (.int .i64 (bitS (endsS vs p.f2))) ∧ Below w.heap.size w w' := by
 subst hA; have hup := Tryz.underlying24; have huv := Tryz.underlying38; have HAGG := Aside0.mk (show ∀ W, (isAgg 24).run Tryz.prog W = .ok true W from fun W => by first | exact Tryz.isAgg24 | exact Tryz.isAgg24 W | go_simp)
 have HSZ := Aside0.mk (show ∀ W, (sizeOf 24).run Tryz.prog W = .ok 6 W from fun W => by first | exact Tryz.sizeOf24 | exact Tryz.sizeOf24 W | go_simp)
 have HAGGV := Aside0.mk (show ∀ W, (isAgg 38).run Tryz.prog W = .ok true W from fun W => by first | exact Tryz.isAgg38 | exact Tryz.isAgg38 W | go_simp)
 have HSZV := Aside0.mk (show ∀ W, (sizeOf 38).run Tryz.prog W = .ok 2 W from fun W => by first | exact Tryz.sizeOf38 | exact Tryz.sizeOf38 W | go_simp)
 have HL6 := Aside0.mk hL; have H0 := Aside0.mk h0; have H1 := Aside0.mk h1; have H2 := Aside0.mk h2; have H3 := Aside0.mk h3; have H4 := Aside0.mk h4; have HCELL := Aside0.mk hcell; have hjz : (j : Int) < (row.length : Int) := by omega
 have hj0 : (0 : Int) ≤ (j : Int) := by omega
 have HBIT := Aside0.mk (fun (b : Bool) (W : World) => hopperref16_bit.calls b (if b = true then 1 else 0) W (by unfold hopperref16_bit.f; cases b <;> rfl))
 clear hL h0 h1 h2 h3 h4 hcell hn; subst hv; subst hk; have hsz : p.f2.size ≤ vs.size := hz; have hszz : (p.f2.size : Int) ≤ (vs.size : Int) := by omega
 have hszb : decide ((p.f2.size : Int) ≤ (vs.size : Int)) = true := decide_eq_true hszz; have HE := Aside0.mk (show endsS vs p.f2 = ((vs.extract (vs.size - p.f2.size) vs.size).toList == p.f2.toList) from by unfold endsS; rw [if_pos hz])
 clear hz; go_enter Tryz.func10, Tryz.ntmps10
 go_wp2_with (first
  | ((with_reducible refine gate_dst (N := 2) rfl ?_); refine box_all rfl rfl (cs := cs.toArray) rfl (fun W => by rw [List.size_toArray, HL6.out]; exact HSZ.out W) ?_; intro w1 hbx hbw; have BW1 := Aside0.mk hbw; have BX1 := Aside0.mk hbx; have hcv0 : w1.cell? ⟨w.heap.size, 0, none⟩ = some _ := blk_cells BX1.out 0 _ H0.out; have hcv1 : w1.cell? ⟨w.heap.size, 1, none⟩ = some _ := blk_cells BX1.out 1 _ H1.out; have hcv2 : w1.cell? ⟨w.heap.size, 2, none⟩ = some _ := blk_cells BX1.out 2 _ H2.out; clear hbx hbw)
  | ((with_reducible refine gate_dst (N := 90) rfl ?_); refine load_all rfl rfl (cs := [.bool false, .string vs]) rfl HAGGV.out (fun W => HSZV.out W) (fun j v hj => (BW1.out.cell (World.block_lt_of_cell? w _ (HCELL.out j v hj))).trans (HCELL.out j v hj)) ?_)
  | ((with_reducible refine gate_store (t := 38) (p := 10) rfl ?_); refine store_all (g := w1.heap.size) (cs := #[.bool false, .string vs]) (t' := 38) rfl rfl rfl rfl rfl (fun W => HSZV.out W) (heap_alloc_new w1 _) rfl (fun u hu => by have h2 : u = Value.bool false ∨ u = Value.string vs := (by simpa using hu); rcases h2 with rfl | rfl <;> rfl) ?_; intro w3 hbx hoth hs3 hos htp hou; have B3 := Aside0.mk (show Below w1.heap.size w1 w3 from ⟨by rw [hos]; rfl, by rw [htp]; rfl, by rw [hou]; rfl, by rw [hs3]; simp, fun k hk => by rw [hoth k (Nat.ne_of_lt hk)]; exact Below.heap_alloc w1 _ k hk⟩); have BW3 := Aside0.mk (below_step BW1.out B3.out); have BX3 := Aside0.mk (blk_keep B3.out BX1.out); have BV3 := Aside0.mk hbx; have hvn : w3.cell? ⟨w1.heap.size, 0, none⟩ = some (.bool false) := blk_cells (cs := [.bool false, .string vs]) hbx 0 _ rfl; have hvs : w3.cell? ⟨w1.heap.size, 1, none⟩ = some (.string vs) := blk_cells (cs := [.bool false, .string vs]) hbx 1 _ rfl; clear hcv0 hcv1 hcv2; have hcv0 : w3.cell? ⟨w.heap.size, 0, none⟩ = some _ := blk_cells BX3.out 0 _ H0.out; have hcv1 : w3.cell? ⟨w.heap.size, 1, none⟩ = some _ := blk_cells BX3.out 1 _ H1.out; have hcv2 : w3.cell? ⟨w.heap.size, 2, none⟩ = some _ := blk_cells BX3.out 2 _ H2.out; clear hbx hoth hs3 hos htp hou))
 repeat (go_quiet (first | (go_at_call 19; (refine (HBIT.out _ _).mono ?_); rintro e w' ⟨rfl, ⟨nd, rfl⟩⟩; (try first | exact ⟨rfl, _, World.drewN_drewN _ _ _⟩ | exact ⟨rfl, _, Eq.trans (World.drewN_drewN _ _ _) (congrArg (World.drewN _) (Nat.add_assoc _ _ _))⟩))); try go_wp2)
 all_goals go_ret
 all_goals exact ⟨by rw [HE.out]; first | rfl | (rw [h]; rfl) | (rw [(Bool.not_eq_true _).mp h]; rfl), by first | exact BW3.out | exact pw_below_drewN BW3.out _⟩
theorem hopperref16_Says.ends_false (k : Nat) (p : S24) (cs : List Value) (kd : Int) (A1 : Option Addr) (c1 : Nat) (row : List S38) (j : Nat) (vn : Bool) (vs : ByteArray) (w : World) (hL : cs.length = 6) (h0 : cs[0]? = some (.int .i64 kd)) (h1 : cs[1]? = some (.int .i64 (j : Int))) (h2 : cs[2]? = some (.string p.f2)) (h3 : cs[3]? = some (.int .i64 p.f3)) (h4 : cs[4]? = some (.int .i64 p.f4)) (hj : j < row.length) (ad : Addr) (hA : A1 = some ad) (hn : row.length ≤ 9223372036854775807) (hcell : ∀ t v, ([Value.bool vn, Value.string vs] : List Value)[t]? = some v → w.cell? ((ad.add (j * 2)).add t) = some v) (hk : kd = 8) (hv : vn = false) (hz : ¬ p.f2.size ≤ vs.size) (hm : vs.size ≤ 9223372036854775807) :
  Calls Tryz.prog 10 #[.agg cs.toArray, .slice A1 row.length c1] w fun e w' => e = .returned (.int .i64 (bitS (endsS vs p.f2))) ∧ Below w.heap.size w w' := by
 subst hA; have hup := Tryz.underlying24; have huv := Tryz.underlying38; have HAGG := Aside0.mk (show ∀ W, (isAgg 24).run Tryz.prog W = .ok true W from fun W => by first | exact Tryz.isAgg24 | exact Tryz.isAgg24 W | go_simp)
 have HSZ := Aside0.mk (show ∀ W, (sizeOf 24).run Tryz.prog W = .ok 6 W from fun W => by first | exact Tryz.sizeOf24 | exact Tryz.sizeOf24 W | go_simp)
 have HAGGV := Aside0.mk (show ∀ W, (isAgg 38).run Tryz.prog W = .ok true W from fun W => by first | exact Tryz.isAgg38 | exact Tryz.isAgg38 W | go_simp)
 have HSZV := Aside0.mk (show ∀ W, (sizeOf 38).run Tryz.prog W = .ok 2 W from fun W => by first | exact Tryz.sizeOf38 | exact Tryz.sizeOf38 W | go_simp)
 have HL6 := Aside0.mk hL; have H0 := Aside0.mk h0; have H1 := Aside0.mk h1; have H2 := Aside0.mk h2; have H3 := Aside0.mk h3; have H4 := Aside0.mk h4; have HCELL := Aside0.mk hcell; have hjz : (j : Int) < (row.length : Int) := by omega
 have hj0 : (0 : Int) ≤ (j : Int) := by omega
 have HBIT := Aside0.mk (fun (b : Bool) (W : World) => hopperref16_bit.calls b (if b = true then 1 else 0) W (by unfold hopperref16_bit.f; cases b <;> rfl))
 clear hL h0 h1 h2 h3 h4 hcell hn; subst hv; subst hk; have hszN : ¬ p.f2.size ≤ vs.size := hz; have hszz : ¬ (p.f2.size : Int) ≤ (vs.size : Int) := by omega
 have hszb : decide ((p.f2.size : Int) ≤ (vs.size : Int)) = false := decide_eq_false hszz; have HE := Aside0.mk (show endsS vs p.f2 = false from by unfold endsS; rw [if_neg hz])
 clear hz; go_enter Tryz.func10, Tryz.ntmps10
 go_wp2_with (first
  | ((with_reducible refine gate_dst (N := 2) rfl ?_); refine box_all rfl rfl (cs := cs.toArray) rfl (fun W => by rw [List.size_toArray, HL6.out]; exact HSZ.out W) ?_; intro w1 hbx hbw; have BW1 := Aside0.mk hbw; have BX1 := Aside0.mk hbx; have hcv0 : w1.cell? ⟨w.heap.size, 0, none⟩ = some _ := blk_cells BX1.out 0 _ H0.out; have hcv1 : w1.cell? ⟨w.heap.size, 1, none⟩ = some _ := blk_cells BX1.out 1 _ H1.out; have hcv2 : w1.cell? ⟨w.heap.size, 2, none⟩ = some _ := blk_cells BX1.out 2 _ H2.out; clear hbx hbw)
  | ((with_reducible refine gate_dst (N := 90) rfl ?_); refine load_all rfl rfl (cs := [.bool false, .string vs]) rfl HAGGV.out (fun W => HSZV.out W) (fun j v hj => (BW1.out.cell (World.block_lt_of_cell? w _ (HCELL.out j v hj))).trans (HCELL.out j v hj)) ?_)
  | ((with_reducible refine gate_store (t := 38) (p := 10) rfl ?_); refine store_all (g := w1.heap.size) (cs := #[.bool false, .string vs]) (t' := 38) rfl rfl rfl rfl rfl (fun W => HSZV.out W) (heap_alloc_new w1 _) rfl (fun u hu => by have h2 : u = Value.bool false ∨ u = Value.string vs := (by simpa using hu); rcases h2 with rfl | rfl <;> rfl) ?_; intro w3 hbx hoth hs3 hos htp hou; have B3 := Aside0.mk (show Below w1.heap.size w1 w3 from ⟨by rw [hos]; rfl, by rw [htp]; rfl, by rw [hou]; rfl, by rw [hs3]; simp, fun k hk => by rw [hoth k (Nat.ne_of_lt hk)]; exact Below.heap_alloc w1 _ k hk⟩); have BW3 := Aside0.mk (below_step BW1.out B3.out); have BX3 := Aside0.mk (blk_keep B3.out BX1.out); have BV3 := Aside0.mk hbx; have hvn : w3.cell? ⟨w1.heap.size, 0, none⟩ = some (.bool false) := blk_cells (cs := [.bool false, .string vs]) hbx 0 _ rfl; have hvs : w3.cell? ⟨w1.heap.size, 1, none⟩ = some (.string vs) := blk_cells (cs := [.bool false, .string vs]) hbx 1 _ rfl; clear hcv0 hcv1 hcv2; have hcv0 : w3.cell? ⟨w.heap.size, 0, none⟩ = some _ := blk_cells BX3.out 0 _ H0.out; have hcv1 : w3.cell? ⟨w.heap.size, 1, none⟩ = some _ := blk_cells BX3.out 1 _ H1.out; have hcv2 : w3.cell? ⟨w.heap.size, 2, none⟩ = some _ := blk_cells BX3.out 2 _ H2.out; clear hbx hoth hs3 hos htp hou))
 repeat (go_quiet (first | (go_at_call 19; (refine (HBIT.out _ _).mono ?_); rintro e w' ⟨rfl, ⟨nd, rfl⟩⟩; (try first | exact ⟨rfl, _, World.drewN_drewN _ _ _⟩ | exact ⟨rfl, _, Eq.trans (World.drewN_drewN _ _ _) (congrArg (World.drewN _) (Nat.add_assoc _ _ _))⟩))); try go_wp2)
 all_goals go_ret
 all_goals exact ⟨by rw [HE.out]; first | rfl | (rw [h]; rfl) | (rw [(Bool.not_eq_true _).mp h]; rfl), by first | exact BW3.out | exact pw_below_drewN BW3.out _⟩
theorem hopperref16_Says.cmp (k : Nat) (p : S24) (cs : List Value) (kd : Int) (A1 : Option Addr) (c1 : Nat) (row : List S38) (j : Nat) (vn : Bool) (vs : ByteArray) (w : World) (hL : cs.length = 6) (h0 : cs[0]? = some (.int .i64 kd)) (h1 : cs[1]? = some (.int .i64 (j : Int))) (h2 : cs[2]? = some (.string p.f2)) (h3 : cs[3]? = some (.int .i64 p.f3)) (h4 : cs[4]? = some (.int .i64 p.f4)) (hj : j < row.length) (ad : Addr) (hA : A1 = some ad) (hn : row.length ≤ 9223372036854775807) (hcell : ∀ t v, ([Value.bool vn, Value.string vs] : List Value)[t]? = some v → w.cell? ((ad.add (j * 2)).add t) = some v) (hk : kd = 1 ∨ kd = 2 ∨ kd = 3 ∨ kd = 4 ∨ kd = 5 ∨ kd = 6) (hv : vn = false) (c : Int) (h : hopperref16_Compare.f k vs p.f2 p.f4 = some c) :
  Calls Tryz.prog 10 #[.agg cs.toArray, .slice A1 row.length c1] w fun e w' => e = .returned (.int .i64 (bitS (tst kd c))) ∧ Below w.heap.size w w' := by
 subst hA; have hup := Tryz.underlying24; have huv := Tryz.underlying38; have HAGG := Aside0.mk (show ∀ W, (isAgg 24).run Tryz.prog W = .ok true W from fun W => by first | exact Tryz.isAgg24 | exact Tryz.isAgg24 W | go_simp)
 have HSZ := Aside0.mk (show ∀ W, (sizeOf 24).run Tryz.prog W = .ok 6 W from fun W => by first | exact Tryz.sizeOf24 | exact Tryz.sizeOf24 W | go_simp)
 have HAGGV := Aside0.mk (show ∀ W, (isAgg 38).run Tryz.prog W = .ok true W from fun W => by first | exact Tryz.isAgg38 | exact Tryz.isAgg38 W | go_simp)
 have HSZV := Aside0.mk (show ∀ W, (sizeOf 38).run Tryz.prog W = .ok 2 W from fun W => by first | exact Tryz.sizeOf38 | exact Tryz.sizeOf38 W | go_simp)
 have HL6 := Aside0.mk hL; have H0 := Aside0.mk h0; have H1 := Aside0.mk h1; have H2 := Aside0.mk h2; have H3 := Aside0.mk h3; have H4 := Aside0.mk h4; have HCELL := Aside0.mk hcell; have hjz : (j : Int) < (row.length : Int) := by omega
 have hj0 : (0 : Int) ≤ (j : Int) := by omega
 have HBIT := Aside0.mk (fun (b : Bool) (W : World) => hopperref16_bit.calls b (if b = true then 1 else 0) W (by unfold hopperref16_bit.f; cases b <;> rfl))
 clear hL h0 h1 h2 h3 h4 hcell hn; subst hv; have HX := Aside0.mk (fun W (hb : Below w.heap.size w W) => ((hopperref16_Compare.calls k vs p.f2 p.f4 c W h).mono (fun e w' hh => ⟨hh.1, by first | exact hh.2 | exact hh.2.below⟩) : Calls Tryz.prog 23 #[.string vs, .string p.f2, .int .i64 p.f4] W fun e w' => e = .returned (.int .i64 c) ∧ Below W.heap.size W w'))
 clear h; rcases Int.lt_trichotomy c 0 with hc | hc | hc
 case' inl => have t1 : (c == 0) = false := beq_eq_false_iff_ne.mpr (by omega); have t2 : (c != 0) = true := bne_iff_ne.mpr (by omega); have t3 : decide (c < 0) = true := decide_eq_true (by omega); have t4 : decide (c ≤ 0) = true := decide_eq_true (by omega); have t5 : decide (0 < c) = false := decide_eq_false (by omega); have t6 : decide (0 ≤ c) = false := decide_eq_false (by omega)
 case' inr.inl => have t1 : (c == 0) = true := beq_iff_eq.mpr hc; have t2 : (c != 0) = false := bne_eq_false_iff_eq.mpr hc; have t3 : decide (c < 0) = false := decide_eq_false (by omega); have t4 : decide (c ≤ 0) = true := decide_eq_true (by omega); have t5 : decide (0 < c) = false := decide_eq_false (by omega); have t6 : decide (0 ≤ c) = true := decide_eq_true (by omega)
 case' inr.inr => have t1 : (c == 0) = false := beq_eq_false_iff_ne.mpr (by omega); have t2 : (c != 0) = true := bne_iff_ne.mpr (by omega); have t3 : decide (c < 0) = false := decide_eq_false (by omega); have t4 : decide (c ≤ 0) = false := decide_eq_false (by omega); have t5 : decide (0 < c) = true := decide_eq_true (by omega); have t6 : decide (0 ≤ c) = true := decide_eq_true (by omega)
 all_goals
  have HQ := Aside0.mk (show tst 1 c = (c == 0) ∧ tst 2 c = (c != 0) ∧ tst 3 c = decide (c < 0) ∧ tst 4 c = decide (c ≤ 0) ∧ tst 5 c = decide (0 < c) ∧ tst 6 c = decide (0 ≤ c) from ⟨rfl, rfl, rfl, rfl, rfl, rfl⟩)
  rcases hk with rfl | rfl | rfl | rfl | rfl | rfl
 all_goals
  clear hc; go_enter Tryz.func10, Tryz.ntmps10
  go_wp2_with (first
   | ((with_reducible refine gate_dst (N := 2) rfl ?_); refine box_all rfl rfl (cs := cs.toArray) rfl (fun W => by rw [List.size_toArray, HL6.out]; exact HSZ.out W) ?_; intro w1 hbx hbw; have BW1 := Aside0.mk hbw; have BX1 := Aside0.mk hbx; have hcv0 : w1.cell? ⟨w.heap.size, 0, none⟩ = some _ := blk_cells BX1.out 0 _ H0.out; have hcv1 : w1.cell? ⟨w.heap.size, 1, none⟩ = some _ := blk_cells BX1.out 1 _ H1.out; have hcv2 : w1.cell? ⟨w.heap.size, 2, none⟩ = some _ := blk_cells BX1.out 2 _ H2.out; have hcv4 : w1.cell? ⟨w.heap.size, 4, none⟩ = some _ := blk_cells BX1.out 4 _ H4.out; clear hbx hbw)
   | ((with_reducible refine gate_dst (N := 90) rfl ?_); refine load_all rfl rfl (cs := [.bool false, .string vs]) rfl HAGGV.out (fun W => HSZV.out W) (fun j v hj => (BW1.out.cell (World.block_lt_of_cell? w _ (HCELL.out j v hj))).trans (HCELL.out j v hj)) ?_)
   | ((with_reducible refine gate_store (t := 38) (p := 10) rfl ?_); refine store_all (g := w1.heap.size) (cs := #[.bool false, .string vs]) (t' := 38) rfl rfl rfl rfl rfl (fun W => HSZV.out W) (heap_alloc_new w1 _) rfl (fun u hu => by have h2 : u = Value.bool false ∨ u = Value.string vs := (by simpa using hu); rcases h2 with rfl | rfl <;> rfl) ?_; intro w3 hbx hoth hs3 hos htp hou; have B3 := Aside0.mk (show Below w1.heap.size w1 w3 from ⟨by rw [hos]; rfl, by rw [htp]; rfl, by rw [hou]; rfl, by rw [hs3]; simp, fun k hk => by rw [hoth k (Nat.ne_of_lt hk)]; exact Below.heap_alloc w1 _ k hk⟩); have BW3 := Aside0.mk (below_step BW1.out B3.out); have BX3 := Aside0.mk (blk_keep B3.out BX1.out); have BV3 := Aside0.mk hbx; have hvn : w3.cell? ⟨w1.heap.size, 0, none⟩ = some (.bool false) := blk_cells (cs := [.bool false, .string vs]) hbx 0 _ rfl; have hvs : w3.cell? ⟨w1.heap.size, 1, none⟩ = some (.string vs) := blk_cells (cs := [.bool false, .string vs]) hbx 1 _ rfl; clear hcv0 hcv1 hcv2 hcv4; have hcv0 : w3.cell? ⟨w.heap.size, 0, none⟩ = some _ := blk_cells BX3.out 0 _ H0.out; have hcv1 : w3.cell? ⟨w.heap.size, 1, none⟩ = some _ := blk_cells BX3.out 1 _ H1.out; have hcv2 : w3.cell? ⟨w.heap.size, 2, none⟩ = some _ := blk_cells BX3.out 2 _ H2.out; have hcv4 : w3.cell? ⟨w.heap.size, 4, none⟩ = some _ := blk_cells BX3.out 4 _ H4.out; clear hbx hoth hs3 hos htp hou)
   | (go_at_call 23; refine (HX.out _ BW3.out).mono ?_; rintro e w6 ⟨rfl, hb6⟩; have BW6 := Aside0.mk (below_step BW3.out hb6); have hcw0 : w6.cell? ⟨w.heap.size, 0, none⟩ = some _ := blk_cells (blk_keep hb6 BX3.out) 0 _ H0.out; clear hb6)
   | (go_at_call 19; refine (HBIT.out _ _).mono ?_; rintro e w7 ⟨rfl, hd7⟩; have BW9 := Aside0.mk (below_step BW6.out hd7.below); clear hd7))
  all_goals go_ret
  exact ⟨by obtain ⟨z1, z2, z3, z4, z5, z6⟩ := HQ.out; simp only [z1, z2, z3, z4, z5, z6, t1, t2, t3, t4, t5, t6, bitS] <;> rfl, BW9.out⟩
theorem hopperref16_Says.kids (k : Nat) (ih : hopperref16_Says.IH k) (p : S24) (cs : List Value) (A1 : Option Addr) (c1 : Nat) (row : List S38) (kd : Int) (hkd : kd = 12 ∨ kd = 13 ∨ kd = 14) (A5 : Option Addr) (c5 : Nat) (r1 r2 r3 : Nat) (w : World) (hL : cs.length = 6) (h0 : cs[0]? = some (.int .i64 kd)) (h5 : cs[5]? = some (.slice A5 p.f5.length c5)) (hk5 : Kd.C k24 w A5 p.f5.length p.f5) (hrow : Kd.C k38 w A1 row.length row) (hc1 : row.length ≤ c1) (h : cnt3 (fun q => refSaysP k q row) p.f5 0 0 0 = some (r1, r2, r3)) :
  Calls Tryz.prog 10 #[.agg cs.toArray, .slice A1 row.length c1] w fun e w' => e = .returned (.int .i64 (fin3 kd r1 r2 r3)) ∧ Below w.heap.size w w' := by
 have hup := Tryz.underlying24; have HAGG := Aside0.mk (show ∀ W, (isAgg 24).run Tryz.prog W = .ok true W from fun W => by first | exact Tryz.isAgg24 | exact Tryz.isAgg24 W | go_simp)
 have HSZ := Aside0.mk (show ∀ W, (sizeOf 24).run Tryz.prog W = .ok 6 W from fun W => by first | exact Tryz.sizeOf24 | exact Tryz.sizeOf24 W | go_simp)
 have HL6 := Aside0.mk hL; have H0 := Aside0.mk h0; have H5 := Aside0.mk h5; have HK5 := Aside0.mk hk5; have HN := Aside0.mk (hk5.2.1 : p.f5.length ≤ 9223372036854775807)
 have IH := Aside0.mk (fun (q : S24) (cs : List Value) (r : Int) (W : World) (hb : Below w.heap.size w W) (hK : k24.K W q cs) (hp : refSaysP k q row = some r) => ih q cs A1 c1 row r W hK (Kd.C_below hrow hb) hc1 hp)
 have HH := Aside0.mk h; have h12 : (12 : Int) ≤ kd := by omega
 have q12 : decide ((12 : Int) ≤ kd) = true := decide_eq_true h12; clear hL h0 h5 hk5 hrow hc1 h ih; go_enter Tryz.func10, Tryz.ntmps10
 go_wp2_with (first
  | ((with_reducible refine gate_dst (N := 2) rfl ?_); refine box_all rfl rfl (cs := cs.toArray) rfl (fun W => by rw [List.size_toArray, HL6.out]; exact HSZ.out W) ?_; intro w1 hbx hbw; have BW1 := Aside0.mk hbw; have BX1 := Aside0.mk hbx; have hcv0 : w1.cell? ⟨w.heap.size, 0, none⟩ = some _ := blk_cells BX1.out 0 _ H0.out; have hcv5 : w1.cell? ⟨w.heap.size, 5, none⟩ = some _ := blk_cells BX1.out 5 _ H5.out; clear hbx hbw))
 clear hcv0 hcv5; go_loopg [5, 6, 7, 8] p.f5.length (fun gg s5 s6 s7 s8 wr => ∃ (i a b c : Nat), s5 = .int .i64 a ∧ s6 = .int .i64 b ∧ s7 = .int .i64 c ∧ s8 = .int .i64 i ∧ i ≤ p.f5.length ∧ p.f5.length - i ≤ gg ∧ a + b + c ≤ i ∧ Aside0 (Below w.heap.size w wr) ∧ Aside0 (wr.heap[w.heap.size]? = some (.cells cs.toArray 24 (0, 0))) ∧ Aside0 (cnt3 (fun q => refSaysP k q row) (p.f5.drop i) a b c = some (r1, r2, r3)))
 case atStart => exact ⟨0, 0, 0, 0, rfl, rfl, rfl, rfl, Nat.zero_le _, by omega, by omega, BW1, BX1, HH⟩
 case round =>
  clear HH BW1 BX1; obtain ⟨i, a, b, cc, rfl, rfl, rfl, rfl, hi, hg, habc, BW, BX, HF⟩ := hrel; have hn := HN.out; have hcv5 : wr.cell? ⟨w.heap.size, 5, none⟩ = some (.slice A5 p.f5.length c5) := blk_cells BX.out 5 _ H5.out; by_cases hlt : i < p.f5.length
  ·have hltz : (i : Int) < (p.f5.length : Int) := by omega
   have hi0 : (0 : Int) ≤ (i : Int) := by omega
   have ha0 : (0 : Int) ≤ (a : Int) ∧ (a : Int) ≤ 9223372036854775806 := by omega
   have hb0 : (0 : Int) ≤ (b : Int) ∧ (b : Int) ≤ 9223372036854775806 := by omega
   have hc0 : (0 : Int) ≤ (cc : Int) ∧ (cc : Int) ≤ 9223372036854775806 := by omega
   have hks := HF.out; rw [drop_getE z24 p.f5 i hlt] at hks
   simp only [cnt3] at hks
   obtain ⟨x, hx, hks⟩ := Option.bind_eq_some_iff.1 hks
   obtain ⟨ad, c, e0, hcl, hKu, hcell⟩ := Kd.C_elem HK5.out z24 i hlt
   replace hcell : ∀ j v, c[j]? = some v → w.cell? ((ad.add (i * 6)).add j) = some v := hcell
   replace hcl : c.length = 6 := hcl
   subst e0; have HCALL := Aside0.mk (fun W (hb : Below w.heap.size w W) => IH.out (p.f5.getD i z24) c x W hb (k24.K_below hb hKu) hx)
   have HCLN := Aside0.mk hcl; have HCELL := Aside0.mk (show ∀ j v, c[j]? = some v → wr.cell? ((ad.add (i * 6)).add j) = some v from fun j v hj => (BW.out.cell (World.block_lt_of_cell? w _ (hcell j v hj))).trans (hcell j v hj))
   clear hKu hx HF hcl hcell; by_cases q0 : x = 0
   ·rw [if_pos q0] at hks; subst q0; have HF := Aside0.mk hks; clear hks
    go_wp2_with (first
    | ((with_reducible refine gate_dst (N := 28) rfl ?_); refine load_all rfl rfl (cs := c) rfl HAGG.out (fun W => by rw [HCLN.out]; exact HSZ.out W) HCELL.out ?_)
    | (go_at_call 10; refine (HCALL.out _ BW.out).mono ?_; rintro e w4 ⟨rfl, hb4⟩; have BW4 := Aside0.mk (below_step BW.out hb4); have BX4 := Aside0.mk (blk_keep hb4 BX.out); clear hb4))
    go_roundg (p.f5.length - (i + 1))
    case measure => omega
    case rel => have hn := HN.out; exact ⟨i + 1, a + 1, b, cc, by first | rfl | go_num | (congr 1; unfold wrap64; omega), by first | rfl | go_num | (congr 1; unfold wrap64; omega), by first | rfl | go_num | (congr 1; unfold wrap64; omega), by first | go_num | (congr 1; unfold wrap64; omega), by omega, by omega, by omega, BW4, BX4, HF⟩
   rw [if_neg q0] at hks; have q0b : (x == 0) = false := beq_eq_false_iff_ne.mpr q0; by_cases q1 : x = 1
   ·rw [if_pos q1] at hks; subst q1; clear q0b; have HF := Aside0.mk hks; clear hks
    go_wp2_with (first
    | ((with_reducible refine gate_dst (N := 28) rfl ?_); refine load_all rfl rfl (cs := c) rfl HAGG.out (fun W => by rw [HCLN.out]; exact HSZ.out W) HCELL.out ?_)
    | (go_at_call 10; refine (HCALL.out _ BW.out).mono ?_; rintro e w4 ⟨rfl, hb4⟩; have BW4 := Aside0.mk (below_step BW.out hb4); have BX4 := Aside0.mk (blk_keep hb4 BX.out); clear hb4))
    go_roundg (p.f5.length - (i + 1))
    case measure => omega
    case rel => have hn := HN.out; exact ⟨i + 1, a, b + 1, cc, by first | rfl | go_num | (congr 1; unfold wrap64; omega), by first | rfl | go_num | (congr 1; unfold wrap64; omega), by first | rfl | go_num | (congr 1; unfold wrap64; omega), by first | go_num | (congr 1; unfold wrap64; omega), by omega, by omega, by omega, BW4, BX4, HF⟩
   rw [if_neg q1] at hks
   ·have q1b : (x == 1) = false := beq_eq_false_iff_ne.mpr q1; clear q0 q1; have HF := Aside0.mk hks; clear hks
    go_wp2_with (first
    | ((with_reducible refine gate_dst (N := 28) rfl ?_); refine load_all rfl rfl (cs := c) rfl HAGG.out (fun W => by rw [HCLN.out]; exact HSZ.out W) HCELL.out ?_)
    | (go_at_call 10; refine (HCALL.out _ BW.out).mono ?_; rintro e w4 ⟨rfl, hb4⟩; have BW4 := Aside0.mk (below_step BW.out hb4); have BX4 := Aside0.mk (blk_keep hb4 BX.out); clear hb4))
    go_roundg (p.f5.length - (i + 1))
    case measure => omega
    case rel => have hn := HN.out; exact ⟨i + 1, a, b, cc + 1, by first | rfl | go_num | (congr 1; unfold wrap64; omega), by first | rfl | go_num | (congr 1; unfold wrap64; omega), by first | rfl | go_num | (congr 1; unfold wrap64; omega), by first | go_num | (congr 1; unfold wrap64; omega), by omega, by omega, by omega, BW4, BX4, HF⟩
  ·have hltz : ¬ (i : Int) < (p.f5.length : Int) := by omega
   have hks := HF.out; rw [List.drop_of_length_le (by omega)] at hks
   simp only [cnt3] at hks
   injection hks with hks
   injection hks with e1 hks
   injection hks with e2 e3
   subst e1 e2 e3
   have hcv0 : wr.cell? ⟨w.heap.size, 0, none⟩ = some _ := blk_cells BX.out 0 _ H0.out; clear HF hn h12 q12 habc; rcases Nat.eq_zero_or_pos a with rfl | za
   case' inr => have za1 : decide (0 < a) = true := decide_eq_true za; have za2 : decide ((0 : Int) < (a : Int)) = true := decide_eq_true (by omega); have za3 : ((a : Int) == 0) = false := beq_eq_false_iff_ne.mpr (by omega)
   all_goals
    rcases Nat.eq_zero_or_pos b with rfl | zb
   case' inl.inr | inr.inr => have zb1 : decide (0 < b) = true := decide_eq_true zb; have zb2 : decide ((0 : Int) < (b : Int)) = true := decide_eq_true (by omega); have zb3 : ((b : Int) == 0) = false := beq_eq_false_iff_ne.mpr (by omega)
   all_goals
    rcases Nat.eq_zero_or_pos cc with rfl | zc
   case' inl.inl.inr | inl.inr.inr | inr.inl.inr | inr.inr.inr => have zc1 : decide (0 < cc) = true := decide_eq_true zc; have zc2 : decide ((0 : Int) < (cc : Int)) = true := decide_eq_true (by omega); have zc3 : ((cc : Int) == 0) = false := beq_eq_false_iff_ne.mpr (by omega)
   all_goals
    rcases hkd with rfl | rfl | rfl
   all_goals
    go_wp2
    go_ret
    exact ⟨by first | rfl | (simp [fin3]; done) | (simp [fin3]; omega) | (simp [fin3, *]; done), BW.out⟩
theorem hopperref16_Says.core (k : Nat) : hopperref16_Says.IH k := by
 induction k with
 | zero => intro p cs A1 c1 row r w _ _ _ h; cases h
 | succ k ih =>
 intro p cs A1 c1 row r w hK hrow hc1 h
 unfold refSaysP at h
 have hL : cs.length = 6 := k24.K_len hK; obtain ⟨A5, c5, ecs, hl5, hk5⟩ := k24_open hK
 have h0 : cs[0]? = some (.int .i64 p.f0) := by rw [ecs]; rfl
 have h1 : cs[1]? = some (.int .i64 p.f1) := by rw [ecs]; rfl
 have h2 : cs[2]? = some (.string p.f2) := by rw [ecs]; rfl
 have h3 : cs[3]? = some (.int .i64 p.f3) := by rw [ecs]; rfl
 have h4 : cs[4]? = some (.int .i64 p.f4) := by rw [ecs]; rfl
 have h5 : cs[5]? = some (.slice A5 p.f5.length c5) := by rw [ecs]; rfl
 by_cases q : 12 ≤ p.f0 ∧ p.f0 ≤ 14
 ·rw [if_pos q] at h; obtain ⟨⟨r1, r2, r3⟩, hc, e⟩ := Option.map_eq_some_iff.1 h
  rw [← e]
  exact hopperref16_Says.kids k ih p cs A1 c1 row p.f0 (by omega) A5 c5 r1 r2 r3 w hL h0 h5 hk5 hrow hc1 hc
 rw [if_neg q] at h; by_cases g0 : 0 ≤ p.f1
 case neg => rw [if_neg g0] at h; cases h
 rw [if_pos g0] at h; by_cases gi : p.f1 < (row.length : Int)
 case neg => rw [if_neg gi] at h; cases h
 rw [if_pos gi] at h; obtain ⟨j, ej⟩ : ∃ j : Nat, p.f1 = (j : Int) := ⟨p.f1.toNat, by omega⟩
 rw [ej] at h1 h gi
 have hj : j < row.length := by omega
 obtain ⟨ad, c, e0, hcl, hKu, hcell⟩ := Kd.C_elem hrow z38 j hj
 have e2 : rd_T38 row (j : Int) = row.getD j z38 := by unfold rd_T38; rw [show ((j : Int)).toNat = j by omega]
 rw [e2] at h
 generalize row.getD j z38 = v at h hKu
 obtain rfl := k38_open hKu
 obtain ⟨vn, vs⟩ := v; replace hcell : ∀ t u, ([Value.bool vn, Value.string vs] : List Value)[t]? = some u → w.cell? ((ad.add (j * 2)).add t) = some u := hcell
 have hn : row.length ≤ 9223372036854775807 := hrow.2.1; unfold refLeaf at h
 simp only at h
 by_cases q11 : p.f0 = 11
 ·rw [if_pos q11] at h; obtain rfl := Option.some.inj h
  exact hopperref16_Says.null k p cs p.f0 A1 c1 row j vn vs w hL h0 h1 h2 h3 h4 hj ad e0 hn hcell q11
 rw [if_neg q11] at h
 cases vn with
 | true =>
  rw [if_pos rfl] at h; by_cases q12 : p.f0 < 12
  ·rw [if_pos q12] at h; obtain rfl := Option.some.inj h; exact hopperref16_Says.unk k p cs p.f0 A1 c1 row j true vs w hL h0 h1 h2 h3 h4 hj ad e0 hn hcell q11 q12 rfl
  ·rw [if_neg q12] at h; cases h
 | false =>
 rw [if_neg (by decide)] at h
 by_cases q7 : p.f0 = 7
 ·rw [if_pos q7] at h; obtain ⟨b, hb, rfl⟩ := Option.map_eq_some_iff.1 h
  exact hopperref16_Says.begins k p cs p.f0 A1 c1 row j false vs w hL h0 h1 h2 h3 h4 hj ad e0 hn hcell q7 rfl b hb
 rw [if_neg q7] at h; by_cases q8 : p.f0 = 8
 ·rw [if_pos q8] at h; by_cases hm : vs.size ≤ 9223372036854775807
  case neg => rw [if_neg hm] at h; cases h
  rw [if_pos hm] at h; obtain rfl := Option.some.inj h
  by_cases hz : p.f2.size ≤ vs.size
  ·exact hopperref16_Says.ends_true k p cs p.f0 A1 c1 row j false vs w hL h0 h1 h2 h3 h4 hj ad e0 hn hcell q8 rfl hz hm
  ·exact hopperref16_Says.ends_false k p cs p.f0 A1 c1 row j false vs w hL h0 h1 h2 h3 h4 hj ad e0 hn hcell q8 rfl hz hm
 rw [if_neg q8] at h; by_cases q9 : p.f0 = 9
 ·rw [if_pos q9] at h; obtain ⟨b, hb, rfl⟩ := Option.map_eq_some_iff.1 h
  exact hopperref16_Says.has k p cs p.f0 A1 c1 row j false vs w hL h0 h1 h2 h3 h4 hj ad e0 hn hcell q9 rfl b hb
 rw [if_neg q9] at h; by_cases q10 : p.f0 = 10
 ·rw [if_pos q10] at h; obtain ⟨⟨x1, x2⟩, hx, h⟩ := Option.bind_eq_some_iff.1 h
  obtain ⟨b, hb, rfl⟩ := Option.map_eq_some_iff.1 h
  exact hopperref16_Says.like k p cs p.f0 A1 c1 row j false vs w hL h0 h1 h2 h3 h4 hj ad e0 hn hcell q10 rfl x1 x2 b hx hb
 rw [if_neg q10] at h; by_cases q6 : 1 ≤ p.f0 ∧ p.f0 ≤ 6
 ·rw [if_pos q6] at h; obtain ⟨c, hc, rfl⟩ := Option.map_eq_some_iff.1 h
  exact hopperref16_Says.cmp k p cs p.f0 A1 c1 row j false vs w hL h0 h1 h2 h3 h4 hj ad e0 hn hcell (by omega) rfl c hc
 ·rw [if_neg q6] at h; cases h
theorem hopperref16_Says.calls (k : Nat) (a0_0 : Int) (a0_1 : Int) (a0_2 : ByteArray) (a0_3 : Int) (a0_4 : Int) (A0_5 : Option Addr) (c0_5 : Nat) (l0_5 : List (S24)) (A1 : Option Addr) (c1 : Nat) (l1 : List (S38)) (r : Int) (w : World) (hr0_5 : Kd.C k24 w A0_5 l0_5.length l0_5) (hc0_5 : l0_5.length ≤ c0_5) (hr1 : Kd.C k38 w A1 l1.length l1) (hc1 : l1.length ≤ c1) (h : hopperref16_Says.f k a0_0 a0_1 a0_2 a0_3 a0_4 l0_5 l1 = some r) :
  Calls Tryz.prog 10 #[.agg #[.int .i64 a0_0, .int .i64 a0_1, .string a0_2, .int .i64 a0_3, .int .i64 a0_4, .slice A0_5 l0_5.length c0_5], .slice A1 l1.length c1] w fun e w' => e = .returned (.int .i64 r) ∧ Below w.heap.size w w' :=
 hopperref16_Says.core k ⟨a0_0, a0_1, a0_2, a0_3, a0_4, l0_5⟩ _ A1 c1 l1 r w (k24_mk w ⟨a0_0, a0_1, a0_2, a0_3, a0_4, l0_5⟩ hc0_5 hr0_5) hr1 hc1 h

end Go.Proofs.YtdccooaddoafnaaGreatDoor.Q
