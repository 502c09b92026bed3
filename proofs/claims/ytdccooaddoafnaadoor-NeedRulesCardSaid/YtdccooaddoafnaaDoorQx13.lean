-- PRINTED by print.py (a twelfth state) out of the translation. Not trusted: Lean checks it.
import Derived.Test.YtdccooaddoafnaaDoorQx0
import Derived.Test.YtdccooaddoafnaaDoorQx10
import Derived.Test.YtdccooaddoafnaaDoorQx11
import Derived.Test.YtdccooaddoafnaaDoorQx12
namespace Go.Proofs.YtdccooaddoafnaaDoor.Q
open Go.RowKit Go.Proofs.YtdccooaddoafnaaDoorW.PrintWords Go.Proofs.YtdccooaddoafnaaDoorW.PrintLast Go.Proofs.YtdccooaddoafnaaDoorW.PrintMore
attribute [local go_sem] str_gtr str_geq str_leq max2_int min2_int max_two min_two max_three min_three max_four min_four
set_option linter.unusedVariables false
set_option maxHeartbeats 8000000
set_option maxRecDepth 1000000
set_option linter.unusedSimpArgs false

/-! ### hopperlaw16_NeedRules: function 6 -/
-- told by hand
/-- A block of whole structs, read as a row. -/
theorem C_blk {α : Type} {d : Kd α} {e : TypeId} {W : World} {g n : Nat} {xs : List α} {inner : List Value} (hb : W.heap[g]? = some (.cells inner.toArray e (0, 0))) (hr : Reps (d.K W) d.sz xs inner) (hn : xs.length = n) (hm : n ≤ 9223372036854775807) : Kd.C d W (some ⟨g, 0, none⟩) n xs := by
 refine ⟨hn, hm, fun _ => ⟨_, rfl, fun j x hj => ?_⟩⟩
 have hx := hr.2 j x hj; refine ⟨_, d.K_len hx, hx, fun i u hu => ?_⟩
 rw [List.getElem?_take] at hu
 split at hu
 ·rw [List.getElem?_drop] at hu
  exact blk_cells hb _ _ hu
 ·cases hu
theorem reps_one {α : Type} {R : α → List Value → Prop} {sz : Nat} {x : α} {cs : List Value} (h : R x cs) (hl : cs.length = sz) : Reps R sz [x] cs := by
 refine ⟨by simp [hl], fun j p hj => ?_⟩
 cases j with
 | zero => cases Option.some.inj hj; simpa [← hl] using h
 | succ j => simp at hj
theorem reps_two {α : Type} {R : α → List Value → Prop} {sz : Nat} {x y : α} {cs ds : List Value} (h : R x cs) (hl : cs.length = sz) (h2 : R y ds) (hl2 : ds.length = sz) : Reps R sz [x, y] (cs ++ ds) := by
 refine ⟨by simp [hl, hl2]; omega, fun j p hj => ?_⟩
 match j, hj with
 | 0, hj => cases Option.some.inj hj; simpa [← hl] using h
 | 1, hj => cases Option.some.inj hj; simpa [← hl, hl2] using (show R y (ds.take ds.length) by simpa using h2)
theorem load_run6 {W : World} {a : Act} {p : Tmp} {o : Oper} (ho : o.op = .load 24 (.tmp p)) {g : Nat} {cs : List Value} (hp : a.eval (.tmp p) = .pointer (some ⟨g, 0, none⟩)) (hl : cs.length = 6) (hb : W.heap[g]? = some (.cells cs.toArray 24 (0, 0))) : (execOp a.eval o).run Tryd.prog W = .ok (.value (.agg cs.toArray)) W := by
 have hagg : ∀ W, (isAgg 24).run Tryd.prog W = .ok true W := fun W => by first | exact Tryd.isAgg24 | exact Tryd.isAgg24 W | go_simp
 have hsz : ∀ W, (sizeOf 24).run Tryd.prog W = .ok cs.length W := fun W => by rw [hl]; first | exact Tryd.sizeOf24 | exact Tryd.sizeOf24 W | go_simp
 have h0 := loadFrom_list Tryd.prog W ⟨g, 0, none⟩ cs cs.length rfl (blk_cells hb)
 unfold execOp
 rw [ho]
 simp only [hp]
 simp [Instr.loadAt, loadVar, hagg, hsz, Instr.sureAddr, loadCells, h0]
def notS (p : S24) : S24 := ⟨14, 0, ⟨#[]⟩, 0, 0, [p]⟩
def twoS (k : Int) (p q : S24) : S24 := ⟨k, 0, ⟨#[]⟩, 0, 0, [p, q]⟩
theorem C_one {W : World} {p : S24} {g : Nat} {cs : List Value} (hb : W.heap[g]? = some (.cells cs.toArray 24 (0, 0))) (hK : k24.K W p cs) : Kd.C k24 W (some ⟨g, 0, none⟩) 1 [p] :=
 C_blk hb (reps_one (R := k24.K W) hK (k24.K_len hK)) rfl (by decide)
theorem C_two {W : World} {p q : S24} {g : Nat} {cs ds : List Value} (hb : W.heap[g]? = some (.cells (cs ++ ds).toArray 24 (0, 0))) (hK : k24.K W p cs) (hK2 : k24.K W q ds) : Kd.C k24 W (some ⟨g, 0, none⟩) 2 [p, q] :=
 C_blk hb (reps_two (R := k24.K W) hK (k24.K_len hK) hK2 (k24.K_len hK2)) rfl (by decide)
theorem K_not {W : World} {p : S24} {g : Nat} {cs : List Value} (hb : W.heap[g]? = some (.cells cs.toArray 24 (0, 0))) (hK : k24.K W p cs) : k24.K W (notS p) [.int .i64 14, .int .i64 0, .string (⟨#[]⟩ : ByteArray), .int .i64 0, .int .i64 0, .slice (some ⟨g, 0, none⟩) 1 1] :=
 k24_mk W (notS p) (A5 := some ⟨g, 0, none⟩) (c5 := 1) (Nat.le_refl _) (C_one hb hK)
theorem K_two {W : World} {p q : S24} {g : Nat} {k : Int} {cs ds : List Value} (hb : W.heap[g]? = some (.cells (cs ++ ds).toArray 24 (0, 0))) (hK : k24.K W p cs) (hK2 : k24.K W q ds) : k24.K W (twoS k p q) [.int .i64 k, .int .i64 0, .string (⟨#[]⟩ : ByteArray), .int .i64 0, .int .i64 0, .slice (some ⟨g, 0, none⟩) 2 2] :=
 k24_mk W (twoS k p q) (A5 := some ⟨g, 0, none⟩) (c5 := 2) (Nat.le_refl _) (C_two hb hK hK2)
section
variable {Pr : Program} {ops : Array Oper} {rest : List Oper} {o : Oper} {a : Act} {Q : Exit → Act → World → Prop}
/-- A literal of whole structs, as one event. -/
theorem lit_event {α : Type} (e : TypeId) {W : World} (N : Tmp) (hd : o.dst = some N) (hgd : o.guard = none) (xs : List α) (inner : List Value)
  (hrun : (execOp a.eval o).run Pr W = .ok (.value (.slice (some ⟨W.heap.size, 0, none⟩) xs.length xs.length)) (W.alloc (.cells inner.toArray e)))
  (h : ∀ g w1, W.heap.size ≤ g → w1.heap[g]? = some (.cells inner.toArray e (0, 0)) → Below W.heap.size W w1 → wpList Pr ops Q rest (a.put o.dst (.slice (some ⟨g, 0, none⟩) xs.length xs.length)) w1) : wpList Pr ops Q (o :: rest) a W :=
 Kd.event_run hgd hrun (h _ _ (Nat.le_refl _) (heap_alloc_new W _) ((Below.refl _ W).alloc (Nat.le_refl _) _))
/-- The same in a drawn region. -/
theorem lit_step {Kc : Act → World → Prop} {α : Type} (e : TypeId) {W : World} (hw : Region.wanted o (yielded ops a.tmps) = true) (xs : List α) (inner : List Value)
  (hrun : (execOp a.eval o).run Pr W = .ok (.value (.slice (some ⟨W.heap.size, 0, none⟩) xs.length xs.length)) (W.alloc (.cells inner.toArray e)))
  (h : ∀ g w1, W.heap.size ≤ g → w1.heap[g]? = some (.cells inner.toArray e (0, 0)) → Below W.heap.size W w1 → Kc (a.put o.dst (.slice (some ⟨g, 0, none⟩) xs.length xs.length)) w1) : if Region.wanted o (yielded ops a.tmps) = true then Oper.wp Pr o a W Kc Q else Kc (a.put o.dst undef) W :=
 event_step hw hrun (h _ _ (Nat.le_refl _) (heap_alloc_new W _) ((Below.refl _ W).alloc (Nat.le_refl _) _))
theorem store_all_step {Kc : Act → World → Prop} {W : World} (hw : Region.wanted o (yielded ops a.tmps) = true) {t : TypeId} {p : Tmp} {v : Operand} (ho : o.op = .store t (.tmp p) v) (hN : o.dst = none) {g : Nat} {cs cur : Array Value} {t' : TypeId}
  (hp : a.eval (.tmp p) = .pointer (some ⟨g, 0, none⟩)) (hv : a.eval v = .agg cs) (hsz : ∀ w, (sizeOf t).run Pr w = .ok cs.size w) (hb : W.heap[g]? = some (.cells cur t' (0, 0))) (hl : cs.size = cur.size) (h1 : ∀ u ∈ cs.toList, u.oneCell' = true)
  (h : ∀ w', w'.heap[g]? = some (.cells cs t' (0, 0)) → (∀ k, k ≠ g → w'.heap[k]? = W.heap[k]?) → w'.heap.size = W.heap.size → w'.os = W.os → w'.tape = W.tape → w'.output = W.output → Kc a w') : if Region.wanted o (yielded ops a.tmps) = true then Oper.wp Pr o a W Kc Q else Kc (a.put o.dst undef) W := by
 have hrun : (execOp a.eval o).run Pr W = .ok .skip (W.setRow g cs) := by
  have h0 := run_storeCells_from g t' cs.toList 0 cur W hb (by simpa using hl) h1 (P := Pr)
  simp only [List.take_zero, List.nil_append, Array.toArray_toList] at h0
  unfold execOp
  rw [ho]
  simp only [hp, hv]
  simp [Instr.storeAt, storeVar, hsz, Value.cells, h0, Instr.sureAddr]
 rw [if_pos hw]
 unfold Oper.wp
 rw [hrun]
 show Kc (a.put o.dst undef) (W.setRow g cs)
 rw [hN]
 exact h _ (setRow_heap W g cur cs t' (0, 0) hb) (fun k hk => setRow_other W g k cs hk) (by simp [World.setRow]) rfl rfl rfl
end
theorem hopperlaw16_not.core (p : S24) (A : Option Addr) (c : Nat) (w : World) (hr : Kd.C k24 w A p.f5.length p.f5) (hc : p.f5.length ≤ c) :
  Calls Tryd.prog 17 #[.agg #[.int .i64 p.f0, .int .i64 p.f1, .string p.f2, .int .i64 p.f3, .int .i64 p.f4, .slice A p.f5.length c]] w fun e w' => ∃ g, e = .returned (.agg #[.int .i64 14, .int .i64 0, .string (⟨#[]⟩ : ByteArray), .int .i64 0, .int .i64 0, .slice (some ⟨g, 0, none⟩) 1 1]) ∧ w.heap.size ≤ g ∧ w'.heap[g]? = some (.cells #[.int .i64 p.f0, .int .i64 p.f1, .string p.f2, .int .i64 p.f3, .int .i64 p.f4, .slice A p.f5.length c] 24 (0, 0)) ∧ Below w.heap.size w w' := by
 have hu := Tryd.underlying24; have HAGG := Aside0.mk (show ∀ W, (isAgg 24).run Tryd.prog W = .ok true W from fun W => by first | exact Tryd.isAgg24 | exact Tryd.isAgg24 W | go_simp)
 have HSZ := Aside0.mk (show ∀ W, (sizeOf 24).run Tryd.prog W = .ok 6 W from fun W => by first | exact Tryd.sizeOf24 | exact Tryd.sizeOf24 W | go_simp)
 have hKp := k24_mk w p hc hr; have HK := Aside0.mk hKp; clear hr hc hKp; go_enter Tryd.func17, Tryd.ntmps17
 go_wp2_with (first
  | ((with_reducible refine gate_dst (N := 1) rfl ?_); refine box_all rfl rfl (cs := #[.int .i64 p.f0, .int .i64 p.f1, .string p.f2, .int .i64 p.f3, .int .i64 p.f4, .slice A p.f5.length c]) rfl (fun W => HSZ.out W) ?_; intro w1 hbx hbw; have BW1 := Aside0.mk hbw; have BX1 := Aside0.mk hbx; clear hbx hbw)
  | ((with_reducible refine gate_dst (N := 2) rfl ?_); refine box_event ?hg (N := 2) ?hd (cs := #[.int .i64 0, .int .i64 0, .string (⟨#[]⟩ : ByteArray), .int .i64 0, .int .i64 0, .slice none 0 0]) (t := 24) ?hr ?_; (case hd => rfl); (case hg => rfl); (case hr => first | (go_simp; done) | (go_simp; rfl)); intro gz hg w2 hbox hb; have BZ2 := Aside0.mk hbox; have BX2 := Aside0.mk (blk_keep hb BX1.out); have BW2 := Aside0.mk (below_step BW1.out hb); have GE2 := Aside0.mk (show w.heap.size ≤ gz from by rw [hg]; exact below_size BW1.out); clear hbox hb hg)
  | ((with_reducible refine gate_dst (N := 3) rfl ?_); refine load_all rfl rfl (cs := [.int .i64 p.f0, .int .i64 p.f1, .string p.f2, .int .i64 p.f3, .int .i64 p.f4, .slice A p.f5.length c]) rfl HAGG.out (fun W => HSZ.out W) (blk_cells BX2.out) ?_)
  | ((with_reducible refine gate_dst (N := 4) rfl ?_); refine lit_event 24 4 rfl rfl [p] [.int .i64 p.f0, .int .i64 p.f1, .string p.f2, .int .i64 p.f3, .int .i64 p.f4, .slice A p.f5.length c] ?hr ?_; (case hr => first | (go_simp; done) | (go_simp; rfl)); intro g w3 hge hC hb; have HC := Aside0.mk hC; have HNE := Aside0.mk (show gz < g from Nat.lt_of_lt_of_le (Array.getElem?_eq_some_iff.1 BZ2.out).1 hge); have BW3 := Aside0.mk (below_step BW2.out hb); have BZ3 := Aside0.mk (blk_keep hb BZ2.out); clear hC hb hge)
  | ((with_reducible refine gate_store (t := 24) (p := 2) rfl ?_); refine store_all (g := gz) (cs := #[.int .i64 14, .int .i64 0, .string (⟨#[]⟩ : ByteArray), .int .i64 0, .int .i64 0, .slice (some ⟨g, 0, none⟩) 1 1]) (t' := 24) rfl rfl rfl rfl rfl (fun W => HSZ.out W) BZ3.out rfl (by intro u hu; simp only [List.mem_cons, List.not_mem_nil, or_false] at hu; rcases hu with rfl | rfl | rfl | rfl | rfl | rfl <;> rfl) ?_; intro w4 hbx hoth hs3 hos htp hou; have BZ4 := Aside0.mk hbx; have HC4 := Aside0.mk ((hoth g (Nat.ne_of_gt HNE.out)).trans HC.out); have BW4 := Aside0.mk (show Below w.heap.size w w4 from ⟨hos.trans BW3.out.os, htp.trans BW3.out.tape, hou.trans BW3.out.output, by rw [hs3]; exact BW3.out.size, fun k_ hk_ => (hoth k_ (by have := GE2.out; omega)).trans (BW3.out.block k_ hk_)⟩); clear hbx hoth hs3 hos htp hou))
 refine bodyPost_ret (results_cell_row rfl _ _ gz 24 #[.int .i64 14, .int .i64 0, .string (⟨#[]⟩ : ByteArray), .int .i64 0, .int .i64 0, .slice (some ⟨g, 0, none⟩) 1 1] (0, 0) _ rfl BZ4.out hu rfl (by kernel_rfl)) rfl ?_
 exact ⟨g, rfl, by have := GE2.out; have := HNE.out; omega, HC4.out, BW4.out⟩
def saysS (k : Nat) (p : S24) (row : List S40) : Option Int := need_Says.f k p.f0 p.f1 p.f2 p.f3 p.f4 p.f5 row
def smallS (k : Nat) (p : S24) : Option Bool := hopperref16_Small.f k p.f0 p.f1 p.f2 p.f3 p.f4 p.f5 20
def rightS (k : Nat) (p : S24) (row : List S40) : Option Bool := hopperref16_Right.f k p.f0 p.f1 p.f2 p.f3 p.f4 p.f5 (row.length : Int) 9
/-- What is asked of the answers. -/
def rulesB (x y1 y2 y3 y4 y5 : Int) : Bool := y1 == x && y2 == x && y3 == y4 && ((x == 2) == (y5 == 2))
def lawRulesP (k : Nat) (p q : S24) (row : List S40) : Option Bool := (hopperlaw16_awake.f k).bind fun t => if t = true then (smallS k p).bind fun b1 => if b1 = true then (smallS k q).bind fun b2 => if b2 = true then if row.length ≤ 8 then
 (rightS k p row).bind fun b3 => if b3 = true then (rightS k q row).bind fun b4 => if b4 = true then (hopperref16_Rows.f k [row] (row.length : Int)).bind fun b5 => if b5 = true then
 (saysS k p row).bind fun x => (saysS k (notS (notS p)) row).bind fun y1 => (saysS k (twoS 13 p p) row).bind fun y2 => (saysS k (notS (twoS 12 p q)) row).bind fun y3 => (saysS k (twoS 13 (notS p) (notS q)) row).bind fun y4 => (saysS k (notS p) row).bind fun y5 => if rulesB x y1 y2 y3 y4 y5 = true then some true else none
 else some true else some true else some true else some true else some true else some true else none
theorem hopperlaw16_NeedRules.early0 (k : Nat) (p q : S24) (Ap : Option Addr) (cp : Nat) (Aq : Option Addr) (cq : Nat) (Ar : Option Addr) (cr : Nat) (row : List S40) (w : World) (hrp : Kd.C k24 w Ap p.f5.length p.f5) (hcp : p.f5.length ≤ cp) (hrq : Kd.C k24 w Aq q.f5.length q.f5) (hcq : q.f5.length ≤ cq) (hrr : Kd.C k40 w Ar row.length row) (hcr : row.length ≤ cr) (hT : Facts w) (haw : hopperlaw16_awake.f k = some true) (h0 : smallS k p = some false) :
  Calls Tryd.prog 6 #[.agg #[.int .i64 p.f0, .int .i64 p.f1, .string p.f2, .int .i64 p.f3, .int .i64 p.f4, .slice Ap p.f5.length cp], .agg #[.int .i64 q.f0, .int .i64 q.f1, .string q.f2, .int .i64 q.f3, .int .i64 q.f4, .slice Aq q.f5.length cq], .slice Ar row.length cr] w fun e w' => e = .returned (.bool true) ∧ Below w.heap.size w w' := by
 have hup := Tryd.underlying24; have huv := Tryd.underlying40; have HAGG := Aside0.mk (show ∀ W, (isAgg 24).run Tryd.prog W = .ok true W from fun W => by first | exact Tryd.isAgg24 | exact Tryd.isAgg24 W | go_simp)
 have HSZ := Aside0.mk (show ∀ W, (sizeOf 24).run Tryd.prog W = .ok 6 W from fun W => by first | exact Tryd.sizeOf24 | exact Tryd.sizeOf24 W | go_simp)
 have HT := Aside0.mk hT; have HAW := Aside0.mk (fun W (hT : Facts W) => hopperlaw16_awake.calls k true W hT haw)
 have HSP := Aside0.mk (fun W (hb : Below w.heap.size w W) => hopperref16_Small.calls k p.f0 p.f1 p.f2 p.f3 p.f4 Ap cp p.f5 20 false W (Kd.C_below hrp hb) hcp h0)
 have TK0 : True := trivial; have TK1 : True := trivial; have TK2 : True := trivial; clear haw hrp hcp hrq hcq hrr hcr hT h0; go_enter Tryd.func6, Tryd.ntmps6
 go_wp2_with (first
  | ((with_reducible refine gate_dst (N := 3) rfl ?_); refine box_all rfl rfl (cs := #[.int .i64 p.f0, .int .i64 p.f1, .string p.f2, .int .i64 p.f3, .int .i64 p.f4, .slice Ap p.f5.length cp]) rfl (fun W => HSZ.out W) ?_; intro v1 hbx hbw; have BW1 := Aside0.mk hbw; have BX1 := Aside0.mk hbx; clear hbx hbw)
  | ((with_reducible refine gate_dst (N := 4) rfl ?_); refine box_all rfl rfl (cs := #[.int .i64 q.f0, .int .i64 q.f1, .string q.f2, .int .i64 q.f3, .int .i64 q.f4, .slice Aq q.f5.length cq]) rfl (fun W => HSZ.out W) ?_; intro v2 hbx hbw; have BQ0 := Aside0.mk hbx; have BP0 := Aside0.mk (blk_keep hbw BX1.out); have HB0 := Aside0.mk (below_step BW1.out hbw); clear hbx hbw BW1 BX1)
  | (have tk_ := TK0; clear tk_ TK0; go_at_call 8; refine (HAW.out _ (HT.out.below HB0.out)).mono ?_; rintro e u1 ⟨rfl, hb⟩; have HB1 := Aside0.mk (below_step HB0.out hb); have BP1 := Aside0.mk (blk_keep hb BP0.out); have BQ1 := Aside0.mk (blk_keep hb BQ0.out); clear HB0 BP0 BQ0; clear hb)
  | ((with_reducible refine gate_dst (N := 14) rfl ?_); (try (refine gate_guard (by rfl) ?_; dsimp only)); refine load_all rfl rfl (cs := [.int .i64 p.f0, .int .i64 p.f1, .string p.f2, .int .i64 p.f3, .int .i64 p.f4, .slice Ap p.f5.length cp]) rfl HAGG.out (fun W => HSZ.out W) (blk_cells BP1.out) ?_)
  | (have tk_ := TK1; clear tk_ TK1; go_at_call 9; refine (HSP.out _ HB1.out).mono ?_; rintro e u2 ⟨rfl, hb⟩; have HB2 := Aside0.mk (below_step HB1.out hb); have BP2 := Aside0.mk (blk_keep hb BP1.out); have BQ2 := Aside0.mk (blk_keep hb BQ1.out); clear HB1 BP1 BQ1; clear hb)
  | (have tk_ := TK2; clear tk_ TK2; go_at_call 8; refine (HAW.out _ (HT.out.below HB2.out)).mono ?_; rintro e u3 ⟨rfl, hb⟩; have HB3 := Aside0.mk (below_step HB2.out hb); have BP3 := Aside0.mk (blk_keep hb BP2.out); have BQ3 := Aside0.mk (blk_keep hb BQ2.out); clear HB2 BP2 BQ2; clear hb))
 go_ret
 exact ⟨rfl, HB3.out⟩
theorem hopperlaw16_NeedRules.early1 (k : Nat) (p q : S24) (Ap : Option Addr) (cp : Nat) (Aq : Option Addr) (cq : Nat) (Ar : Option Addr) (cr : Nat) (row : List S40) (w : World) (hrp : Kd.C k24 w Ap p.f5.length p.f5) (hcp : p.f5.length ≤ cp) (hrq : Kd.C k24 w Aq q.f5.length q.f5) (hcq : q.f5.length ≤ cq) (hrr : Kd.C k40 w Ar row.length row) (hcr : row.length ≤ cr) (hT : Facts w) (haw : hopperlaw16_awake.f k = some true) (h0 : smallS k p = some true) (h1 : smallS k q = some false) :
  Calls Tryd.prog 6 #[.agg #[.int .i64 p.f0, .int .i64 p.f1, .string p.f2, .int .i64 p.f3, .int .i64 p.f4, .slice Ap p.f5.length cp], .agg #[.int .i64 q.f0, .int .i64 q.f1, .string q.f2, .int .i64 q.f3, .int .i64 q.f4, .slice Aq q.f5.length cq], .slice Ar row.length cr] w fun e w' => e = .returned (.bool true) ∧ Below w.heap.size w w' := by
 have hup := Tryd.underlying24; have huv := Tryd.underlying40; have HAGG := Aside0.mk (show ∀ W, (isAgg 24).run Tryd.prog W = .ok true W from fun W => by first | exact Tryd.isAgg24 | exact Tryd.isAgg24 W | go_simp)
 have HSZ := Aside0.mk (show ∀ W, (sizeOf 24).run Tryd.prog W = .ok 6 W from fun W => by first | exact Tryd.sizeOf24 | exact Tryd.sizeOf24 W | go_simp)
 have HT := Aside0.mk hT; have HAW := Aside0.mk (fun W (hT : Facts W) => hopperlaw16_awake.calls k true W hT haw)
 have HSP := Aside0.mk (fun W (hb : Below w.heap.size w W) => hopperref16_Small.calls k p.f0 p.f1 p.f2 p.f3 p.f4 Ap cp p.f5 20 true W (Kd.C_below hrp hb) hcp h0)
 have HSQ := Aside0.mk (fun W (hb : Below w.heap.size w W) => hopperref16_Small.calls k q.f0 q.f1 q.f2 q.f3 q.f4 Aq cq q.f5 20 false W (Kd.C_below hrq hb) hcq h1)
 have TK0 : True := trivial; have TK1 : True := trivial; have TK2 : True := trivial; have TK3 : True := trivial; clear haw hrp hcp hrq hcq hrr hcr hT h0 h1; go_enter Tryd.func6, Tryd.ntmps6
 go_wp2_with (first
  | ((with_reducible refine gate_dst (N := 3) rfl ?_); refine box_all rfl rfl (cs := #[.int .i64 p.f0, .int .i64 p.f1, .string p.f2, .int .i64 p.f3, .int .i64 p.f4, .slice Ap p.f5.length cp]) rfl (fun W => HSZ.out W) ?_; intro v1 hbx hbw; have BW1 := Aside0.mk hbw; have BX1 := Aside0.mk hbx; clear hbx hbw)
  | ((with_reducible refine gate_dst (N := 4) rfl ?_); refine box_all rfl rfl (cs := #[.int .i64 q.f0, .int .i64 q.f1, .string q.f2, .int .i64 q.f3, .int .i64 q.f4, .slice Aq q.f5.length cq]) rfl (fun W => HSZ.out W) ?_; intro v2 hbx hbw; have BQ0 := Aside0.mk hbx; have BP0 := Aside0.mk (blk_keep hbw BX1.out); have HB0 := Aside0.mk (below_step BW1.out hbw); clear hbx hbw BW1 BX1)
  | (have tk_ := TK0; clear tk_ TK0; go_at_call 8; refine (HAW.out _ (HT.out.below HB0.out)).mono ?_; rintro e u1 ⟨rfl, hb⟩; have HB1 := Aside0.mk (below_step HB0.out hb); have BP1 := Aside0.mk (blk_keep hb BP0.out); have BQ1 := Aside0.mk (blk_keep hb BQ0.out); clear HB0 BP0 BQ0; clear hb)
  | ((with_reducible refine gate_dst (N := 14) rfl ?_); (try (refine gate_guard (by rfl) ?_; dsimp only)); refine load_all rfl rfl (cs := [.int .i64 p.f0, .int .i64 p.f1, .string p.f2, .int .i64 p.f3, .int .i64 p.f4, .slice Ap p.f5.length cp]) rfl HAGG.out (fun W => HSZ.out W) (blk_cells BP1.out) ?_)
  | (have tk_ := TK1; clear tk_ TK1; go_at_call 9; refine (HSP.out _ HB1.out).mono ?_; rintro e u2 ⟨rfl, hb⟩; have HB2 := Aside0.mk (below_step HB1.out hb); have BP2 := Aside0.mk (blk_keep hb BP1.out); have BQ2 := Aside0.mk (blk_keep hb BQ1.out); clear HB1 BP1 BQ1; clear hb)
  | ((with_reducible refine gate_dst (N := 19) rfl ?_); (try (refine gate_guard (by rfl) ?_; dsimp only)); refine load_all rfl rfl (cs := [.int .i64 q.f0, .int .i64 q.f1, .string q.f2, .int .i64 q.f3, .int .i64 q.f4, .slice Aq q.f5.length cq]) rfl HAGG.out (fun W => HSZ.out W) (blk_cells BQ2.out) ?_)
  | (have tk_ := TK2; clear tk_ TK2; go_at_call 9; refine (HSQ.out _ HB2.out).mono ?_; rintro e u3 ⟨rfl, hb⟩; have HB3 := Aside0.mk (below_step HB2.out hb); have BP3 := Aside0.mk (blk_keep hb BP2.out); have BQ3 := Aside0.mk (blk_keep hb BQ2.out); clear HB2 BP2 BQ2; clear hb)
  | (have tk_ := TK3; clear tk_ TK3; go_at_call 8; refine (HAW.out _ (HT.out.below HB3.out)).mono ?_; rintro e u4 ⟨rfl, hb⟩; have HB4 := Aside0.mk (below_step HB3.out hb); have BP4 := Aside0.mk (blk_keep hb BP3.out); have BQ4 := Aside0.mk (blk_keep hb BQ3.out); clear HB3 BP3 BQ3; clear hb))
 go_ret
 exact ⟨rfl, HB4.out⟩
theorem hopperlaw16_NeedRules.early2 (k : Nat) (p q : S24) (Ap : Option Addr) (cp : Nat) (Aq : Option Addr) (cq : Nat) (Ar : Option Addr) (cr : Nat) (row : List S40) (w : World) (hrp : Kd.C k24 w Ap p.f5.length p.f5) (hcp : p.f5.length ≤ cp) (hrq : Kd.C k24 w Aq q.f5.length q.f5) (hcq : q.f5.length ≤ cq) (hrr : Kd.C k40 w Ar row.length row) (hcr : row.length ≤ cr) (hT : Facts w) (haw : hopperlaw16_awake.f k = some true) (h0 : smallS k p = some true) (h1 : smallS k q = some true) (h2 : 8 < row.length) :
  Calls Tryd.prog 6 #[.agg #[.int .i64 p.f0, .int .i64 p.f1, .string p.f2, .int .i64 p.f3, .int .i64 p.f4, .slice Ap p.f5.length cp], .agg #[.int .i64 q.f0, .int .i64 q.f1, .string q.f2, .int .i64 q.f3, .int .i64 q.f4, .slice Aq q.f5.length cq], .slice Ar row.length cr] w fun e w' => e = .returned (.bool true) ∧ Below w.heap.size w w' := by
 have hup := Tryd.underlying24; have huv := Tryd.underlying40; have HAGG := Aside0.mk (show ∀ W, (isAgg 24).run Tryd.prog W = .ok true W from fun W => by first | exact Tryd.isAgg24 | exact Tryd.isAgg24 W | go_simp)
 have HSZ := Aside0.mk (show ∀ W, (sizeOf 24).run Tryd.prog W = .ok 6 W from fun W => by first | exact Tryd.sizeOf24 | exact Tryd.sizeOf24 W | go_simp)
 have HT := Aside0.mk hT; have HAW := Aside0.mk (fun W (hT : Facts W) => hopperlaw16_awake.calls k true W hT haw)
 have HSP := Aside0.mk (fun W (hb : Below w.heap.size w W) => hopperref16_Small.calls k p.f0 p.f1 p.f2 p.f3 p.f4 Ap cp p.f5 20 true W (Kd.C_below hrp hb) hcp h0)
 have HSQ := Aside0.mk (fun W (hb : Below w.heap.size w W) => hopperref16_Small.calls k q.f0 q.f1 q.f2 q.f3 q.f4 Aq cq q.f5 20 true W (Kd.C_below hrq hb) hcq h1)
 have hl8 : decide ((row.length : Int) > 8) = true := decide_eq_true (by omega)
 have hl8' : decide (8 < (row.length : Int)) = true := decide_eq_true (by omega)
 have TK0 : True := trivial; have TK1 : True := trivial; have TK2 : True := trivial; have TK3 : True := trivial; clear haw hrp hcp hrq hcq hrr hcr hT h0 h1 h2; go_enter Tryd.func6, Tryd.ntmps6
 go_wp2_with (first
  | ((with_reducible refine gate_dst (N := 3) rfl ?_); refine box_all rfl rfl (cs := #[.int .i64 p.f0, .int .i64 p.f1, .string p.f2, .int .i64 p.f3, .int .i64 p.f4, .slice Ap p.f5.length cp]) rfl (fun W => HSZ.out W) ?_; intro v1 hbx hbw; have BW1 := Aside0.mk hbw; have BX1 := Aside0.mk hbx; clear hbx hbw)
  | ((with_reducible refine gate_dst (N := 4) rfl ?_); refine box_all rfl rfl (cs := #[.int .i64 q.f0, .int .i64 q.f1, .string q.f2, .int .i64 q.f3, .int .i64 q.f4, .slice Aq q.f5.length cq]) rfl (fun W => HSZ.out W) ?_; intro v2 hbx hbw; have BQ0 := Aside0.mk hbx; have BP0 := Aside0.mk (blk_keep hbw BX1.out); have HB0 := Aside0.mk (below_step BW1.out hbw); clear hbx hbw BW1 BX1)
  | (have tk_ := TK0; clear tk_ TK0; go_at_call 8; refine (HAW.out _ (HT.out.below HB0.out)).mono ?_; rintro e u1 ⟨rfl, hb⟩; have HB1 := Aside0.mk (below_step HB0.out hb); have BP1 := Aside0.mk (blk_keep hb BP0.out); have BQ1 := Aside0.mk (blk_keep hb BQ0.out); clear HB0 BP0 BQ0; clear hb)
  | ((with_reducible refine gate_dst (N := 14) rfl ?_); (try (refine gate_guard (by rfl) ?_; dsimp only)); refine load_all rfl rfl (cs := [.int .i64 p.f0, .int .i64 p.f1, .string p.f2, .int .i64 p.f3, .int .i64 p.f4, .slice Ap p.f5.length cp]) rfl HAGG.out (fun W => HSZ.out W) (blk_cells BP1.out) ?_)
  | (have tk_ := TK1; clear tk_ TK1; go_at_call 9; refine (HSP.out _ HB1.out).mono ?_; rintro e u2 ⟨rfl, hb⟩; have HB2 := Aside0.mk (below_step HB1.out hb); have BP2 := Aside0.mk (blk_keep hb BP1.out); have BQ2 := Aside0.mk (blk_keep hb BQ1.out); clear HB1 BP1 BQ1; clear hb)
  | ((with_reducible refine gate_dst (N := 19) rfl ?_); (try (refine gate_guard (by rfl) ?_; dsimp only)); refine load_all rfl rfl (cs := [.int .i64 q.f0, .int .i64 q.f1, .string q.f2, .int .i64 q.f3, .int .i64 q.f4, .slice Aq q.f5.length cq]) rfl HAGG.out (fun W => HSZ.out W) (blk_cells BQ2.out) ?_)
  | (have tk_ := TK2; clear tk_ TK2; go_at_call 9; refine (HSQ.out _ HB2.out).mono ?_; rintro e u3 ⟨rfl, hb⟩; have HB3 := Aside0.mk (below_step HB2.out hb); have BP3 := Aside0.mk (blk_keep hb BP2.out); have BQ3 := Aside0.mk (blk_keep hb BQ2.out); clear HB2 BP2 BQ2; clear hb)
  | (have tk_ := TK3; clear tk_ TK3; go_at_call 8; refine (HAW.out _ (HT.out.below HB3.out)).mono ?_; rintro e u4 ⟨rfl, hb⟩; have HB4 := Aside0.mk (below_step HB3.out hb); have BP4 := Aside0.mk (blk_keep hb BP3.out); have BQ4 := Aside0.mk (blk_keep hb BQ3.out); clear HB3 BP3 BQ3; clear hb))
 go_ret
 exact ⟨rfl, HB4.out⟩
theorem hopperlaw16_NeedRules.early3 (k : Nat) (p q : S24) (Ap : Option Addr) (cp : Nat) (Aq : Option Addr) (cq : Nat) (Ar : Option Addr) (cr : Nat) (row : List S40) (w : World) (hrp : Kd.C k24 w Ap p.f5.length p.f5) (hcp : p.f5.length ≤ cp) (hrq : Kd.C k24 w Aq q.f5.length q.f5) (hcq : q.f5.length ≤ cq) (hrr : Kd.C k40 w Ar row.length row) (hcr : row.length ≤ cr) (hT : Facts w) (haw : hopperlaw16_awake.f k = some true) (h0 : smallS k p = some true) (h1 : smallS k q = some true) (h2 : row.length ≤ 8) (h3 : rightS k p row = some false) :
  Calls Tryd.prog 6 #[.agg #[.int .i64 p.f0, .int .i64 p.f1, .string p.f2, .int .i64 p.f3, .int .i64 p.f4, .slice Ap p.f5.length cp], .agg #[.int .i64 q.f0, .int .i64 q.f1, .string q.f2, .int .i64 q.f3, .int .i64 q.f4, .slice Aq q.f5.length cq], .slice Ar row.length cr] w fun e w' => e = .returned (.bool true) ∧ Below w.heap.size w w' := by
 have hup := Tryd.underlying24; have huv := Tryd.underlying40; have HAGG := Aside0.mk (show ∀ W, (isAgg 24).run Tryd.prog W = .ok true W from fun W => by first | exact Tryd.isAgg24 | exact Tryd.isAgg24 W | go_simp)
 have HSZ := Aside0.mk (show ∀ W, (sizeOf 24).run Tryd.prog W = .ok 6 W from fun W => by first | exact Tryd.sizeOf24 | exact Tryd.sizeOf24 W | go_simp)
 have HT := Aside0.mk hT; have HAW := Aside0.mk (fun W (hT : Facts W) => hopperlaw16_awake.calls k true W hT haw)
 have HSP := Aside0.mk (fun W (hb : Below w.heap.size w W) => hopperref16_Small.calls k p.f0 p.f1 p.f2 p.f3 p.f4 Ap cp p.f5 20 true W (Kd.C_below hrp hb) hcp h0)
 have HSQ := Aside0.mk (fun W (hb : Below w.heap.size w W) => hopperref16_Small.calls k q.f0 q.f1 q.f2 q.f3 q.f4 Aq cq q.f5 20 true W (Kd.C_below hrq hb) hcq h1)
 have hl8 : decide ((row.length : Int) > 8) = false := decide_eq_false (by omega)
 have hl8' : decide (8 < (row.length : Int)) = false := decide_eq_false (by omega)
 have HRP := Aside0.mk (fun W (hb : Below w.heap.size w W) => hopperref16_Right.calls k p.f0 p.f1 p.f2 p.f3 p.f4 Ap cp p.f5 (row.length : Int) 9 false W (Kd.C_below hrp hb) hcp h3)
 have TK0 : True := trivial; have TK1 : True := trivial; have TK2 : True := trivial; have TK3 : True := trivial; have TK4 : True := trivial; clear haw hrp hcp hrq hcq hrr hcr hT h0 h1 h2 h3; go_enter Tryd.func6, Tryd.ntmps6
 go_wp2_with (first
  | ((with_reducible refine gate_dst (N := 3) rfl ?_); refine box_all rfl rfl (cs := #[.int .i64 p.f0, .int .i64 p.f1, .string p.f2, .int .i64 p.f3, .int .i64 p.f4, .slice Ap p.f5.length cp]) rfl (fun W => HSZ.out W) ?_; intro v1 hbx hbw; have BW1 := Aside0.mk hbw; have BX1 := Aside0.mk hbx; clear hbx hbw)
  | ((with_reducible refine gate_dst (N := 4) rfl ?_); refine box_all rfl rfl (cs := #[.int .i64 q.f0, .int .i64 q.f1, .string q.f2, .int .i64 q.f3, .int .i64 q.f4, .slice Aq q.f5.length cq]) rfl (fun W => HSZ.out W) ?_; intro v2 hbx hbw; have BQ0 := Aside0.mk hbx; have BP0 := Aside0.mk (blk_keep hbw BX1.out); have HB0 := Aside0.mk (below_step BW1.out hbw); clear hbx hbw BW1 BX1)
  | (have tk_ := TK0; clear tk_ TK0; go_at_call 8; refine (HAW.out _ (HT.out.below HB0.out)).mono ?_; rintro e u1 ⟨rfl, hb⟩; have HB1 := Aside0.mk (below_step HB0.out hb); have BP1 := Aside0.mk (blk_keep hb BP0.out); have BQ1 := Aside0.mk (blk_keep hb BQ0.out); clear HB0 BP0 BQ0; clear hb)
  | ((with_reducible refine gate_dst (N := 14) rfl ?_); (try (refine gate_guard (by rfl) ?_; dsimp only)); refine load_all rfl rfl (cs := [.int .i64 p.f0, .int .i64 p.f1, .string p.f2, .int .i64 p.f3, .int .i64 p.f4, .slice Ap p.f5.length cp]) rfl HAGG.out (fun W => HSZ.out W) (blk_cells BP1.out) ?_)
  | (have tk_ := TK1; clear tk_ TK1; go_at_call 9; refine (HSP.out _ HB1.out).mono ?_; rintro e u2 ⟨rfl, hb⟩; have HB2 := Aside0.mk (below_step HB1.out hb); have BP2 := Aside0.mk (blk_keep hb BP1.out); have BQ2 := Aside0.mk (blk_keep hb BQ1.out); clear HB1 BP1 BQ1; clear hb)
  | ((with_reducible refine gate_dst (N := 19) rfl ?_); (try (refine gate_guard (by rfl) ?_; dsimp only)); refine load_all rfl rfl (cs := [.int .i64 q.f0, .int .i64 q.f1, .string q.f2, .int .i64 q.f3, .int .i64 q.f4, .slice Aq q.f5.length cq]) rfl HAGG.out (fun W => HSZ.out W) (blk_cells BQ2.out) ?_)
  | (have tk_ := TK2; clear tk_ TK2; go_at_call 9; refine (HSQ.out _ HB2.out).mono ?_; rintro e u3 ⟨rfl, hb⟩; have HB3 := Aside0.mk (below_step HB2.out hb); have BP3 := Aside0.mk (blk_keep hb BP2.out); have BQ3 := Aside0.mk (blk_keep hb BQ2.out); clear HB2 BP2 BQ2; clear hb)
  | ((with_reducible refine gate_dst (N := 29) rfl ?_); (try (refine gate_guard (by rfl) ?_; dsimp only)); refine load_all rfl rfl (cs := [.int .i64 p.f0, .int .i64 p.f1, .string p.f2, .int .i64 p.f3, .int .i64 p.f4, .slice Ap p.f5.length cp]) rfl HAGG.out (fun W => HSZ.out W) (blk_cells BP3.out) ?_)
  | (have tk_ := TK3; clear tk_ TK3; go_at_call 11; refine (HRP.out _ HB3.out).mono ?_; rintro e u4 ⟨rfl, hb⟩; have HB4 := Aside0.mk (below_step HB3.out hb); have BP4 := Aside0.mk (blk_keep hb BP3.out); have BQ4 := Aside0.mk (blk_keep hb BQ3.out); clear HB3 BP3 BQ3; clear hb)
  | (have tk_ := TK4; clear tk_ TK4; go_at_call 8; refine (HAW.out _ (HT.out.below HB4.out)).mono ?_; rintro e u5 ⟨rfl, hb⟩; have HB5 := Aside0.mk (below_step HB4.out hb); have BP5 := Aside0.mk (blk_keep hb BP4.out); have BQ5 := Aside0.mk (blk_keep hb BQ4.out); clear HB4 BP4 BQ4; clear hb))
 go_ret
 exact ⟨rfl, HB5.out⟩
theorem hopperlaw16_NeedRules.early4 (k : Nat) (p q : S24) (Ap : Option Addr) (cp : Nat) (Aq : Option Addr) (cq : Nat) (Ar : Option Addr) (cr : Nat) (row : List S40) (w : World) (hrp : Kd.C k24 w Ap p.f5.length p.f5) (hcp : p.f5.length ≤ cp) (hrq : Kd.C k24 w Aq q.f5.length q.f5) (hcq : q.f5.length ≤ cq) (hrr : Kd.C k40 w Ar row.length row) (hcr : row.length ≤ cr) (hT : Facts w) (haw : hopperlaw16_awake.f k = some true) (h0 : smallS k p = some true) (h1 : smallS k q = some true) (h2 : row.length ≤ 8) (h3 : rightS k p row = some true) (h4 : rightS k q row = some false) :
  Calls Tryd.prog 6 #[.agg #[.int .i64 p.f0, .int .i64 p.f1, .string p.f2, .int .i64 p.f3, .int .i64 p.f4, .slice Ap p.f5.length cp], .agg #[.int .i64 q.f0, .int .i64 q.f1, .string q.f2, .int .i64 q.f3, .int .i64 q.f4, .slice Aq q.f5.length cq], .slice Ar row.length cr] w fun e w' => e = .returned (.bool true) ∧ Below w.heap.size w w' := by
 have hup := Tryd.underlying24; have huv := Tryd.underlying40; have HAGG := Aside0.mk (show ∀ W, (isAgg 24).run Tryd.prog W = .ok true W from fun W => by first | exact Tryd.isAgg24 | exact Tryd.isAgg24 W | go_simp)
 have HSZ := Aside0.mk (show ∀ W, (sizeOf 24).run Tryd.prog W = .ok 6 W from fun W => by first | exact Tryd.sizeOf24 | exact Tryd.sizeOf24 W | go_simp)
 have HT := Aside0.mk hT; have HAW := Aside0.mk (fun W (hT : Facts W) => hopperlaw16_awake.calls k true W hT haw)
 have HSP := Aside0.mk (fun W (hb : Below w.heap.size w W) => hopperref16_Small.calls k p.f0 p.f1 p.f2 p.f3 p.f4 Ap cp p.f5 20 true W (Kd.C_below hrp hb) hcp h0)
 have HSQ := Aside0.mk (fun W (hb : Below w.heap.size w W) => hopperref16_Small.calls k q.f0 q.f1 q.f2 q.f3 q.f4 Aq cq q.f5 20 true W (Kd.C_below hrq hb) hcq h1)
 have hl8 : decide ((row.length : Int) > 8) = false := decide_eq_false (by omega)
 have hl8' : decide (8 < (row.length : Int)) = false := decide_eq_false (by omega)
 have HRP := Aside0.mk (fun W (hb : Below w.heap.size w W) => hopperref16_Right.calls k p.f0 p.f1 p.f2 p.f3 p.f4 Ap cp p.f5 (row.length : Int) 9 true W (Kd.C_below hrp hb) hcp h3)
 have HRQ := Aside0.mk (fun W (hb : Below w.heap.size w W) => hopperref16_Right.calls k q.f0 q.f1 q.f2 q.f3 q.f4 Aq cq q.f5 (row.length : Int) 9 false W (Kd.C_below hrq hb) hcq h4)
 have TK0 : True := trivial; have TK1 : True := trivial; have TK2 : True := trivial; have TK3 : True := trivial; have TK4 : True := trivial; have TK5 : True := trivial; clear haw hrp hcp hrq hcq hrr hcr hT h0 h1 h2 h3 h4; go_enter Tryd.func6, Tryd.ntmps6
 go_wp2_with (first
  | ((with_reducible refine gate_dst (N := 3) rfl ?_); refine box_all rfl rfl (cs := #[.int .i64 p.f0, .int .i64 p.f1, .string p.f2, .int .i64 p.f3, .int .i64 p.f4, .slice Ap p.f5.length cp]) rfl (fun W => HSZ.out W) ?_; intro v1 hbx hbw; have BW1 := Aside0.mk hbw; have BX1 := Aside0.mk hbx; clear hbx hbw)
  | ((with_reducible refine gate_dst (N := 4) rfl ?_); refine box_all rfl rfl (cs := #[.int .i64 q.f0, .int .i64 q.f1, .string q.f2, .int .i64 q.f3, .int .i64 q.f4, .slice Aq q.f5.length cq]) rfl (fun W => HSZ.out W) ?_; intro v2 hbx hbw; have BQ0 := Aside0.mk hbx; have BP0 := Aside0.mk (blk_keep hbw BX1.out); have HB0 := Aside0.mk (below_step BW1.out hbw); clear hbx hbw BW1 BX1)
  | (have tk_ := TK0; clear tk_ TK0; go_at_call 8; refine (HAW.out _ (HT.out.below HB0.out)).mono ?_; rintro e u1 ⟨rfl, hb⟩; have HB1 := Aside0.mk (below_step HB0.out hb); have BP1 := Aside0.mk (blk_keep hb BP0.out); have BQ1 := Aside0.mk (blk_keep hb BQ0.out); clear HB0 BP0 BQ0; clear hb)
  | ((with_reducible refine gate_dst (N := 14) rfl ?_); (try (refine gate_guard (by rfl) ?_; dsimp only)); refine load_all rfl rfl (cs := [.int .i64 p.f0, .int .i64 p.f1, .string p.f2, .int .i64 p.f3, .int .i64 p.f4, .slice Ap p.f5.length cp]) rfl HAGG.out (fun W => HSZ.out W) (blk_cells BP1.out) ?_)
  | (have tk_ := TK1; clear tk_ TK1; go_at_call 9; refine (HSP.out _ HB1.out).mono ?_; rintro e u2 ⟨rfl, hb⟩; have HB2 := Aside0.mk (below_step HB1.out hb); have BP2 := Aside0.mk (blk_keep hb BP1.out); have BQ2 := Aside0.mk (blk_keep hb BQ1.out); clear HB1 BP1 BQ1; clear hb)
  | ((with_reducible refine gate_dst (N := 19) rfl ?_); (try (refine gate_guard (by rfl) ?_; dsimp only)); refine load_all rfl rfl (cs := [.int .i64 q.f0, .int .i64 q.f1, .string q.f2, .int .i64 q.f3, .int .i64 q.f4, .slice Aq q.f5.length cq]) rfl HAGG.out (fun W => HSZ.out W) (blk_cells BQ2.out) ?_)
  | (have tk_ := TK2; clear tk_ TK2; go_at_call 9; refine (HSQ.out _ HB2.out).mono ?_; rintro e u3 ⟨rfl, hb⟩; have HB3 := Aside0.mk (below_step HB2.out hb); have BP3 := Aside0.mk (blk_keep hb BP2.out); have BQ3 := Aside0.mk (blk_keep hb BQ2.out); clear HB2 BP2 BQ2; clear hb)
  | ((with_reducible refine gate_dst (N := 29) rfl ?_); (try (refine gate_guard (by rfl) ?_; dsimp only)); refine load_all rfl rfl (cs := [.int .i64 p.f0, .int .i64 p.f1, .string p.f2, .int .i64 p.f3, .int .i64 p.f4, .slice Ap p.f5.length cp]) rfl HAGG.out (fun W => HSZ.out W) (blk_cells BP3.out) ?_)
  | (have tk_ := TK3; clear tk_ TK3; go_at_call 11; refine (HRP.out _ HB3.out).mono ?_; rintro e u4 ⟨rfl, hb⟩; have HB4 := Aside0.mk (below_step HB3.out hb); have BP4 := Aside0.mk (blk_keep hb BP3.out); have BQ4 := Aside0.mk (blk_keep hb BQ3.out); clear HB3 BP3 BQ3; clear hb)
  | ((with_reducible refine gate_dst (N := 36) rfl ?_); (try (refine gate_guard (by rfl) ?_; dsimp only)); refine load_all rfl rfl (cs := [.int .i64 q.f0, .int .i64 q.f1, .string q.f2, .int .i64 q.f3, .int .i64 q.f4, .slice Aq q.f5.length cq]) rfl HAGG.out (fun W => HSZ.out W) (blk_cells BQ4.out) ?_)
  | (have tk_ := TK4; clear tk_ TK4; go_at_call 11; refine (HRQ.out _ HB4.out).mono ?_; rintro e u5 ⟨rfl, hb⟩; have HB5 := Aside0.mk (below_step HB4.out hb); have BP5 := Aside0.mk (blk_keep hb BP4.out); have BQ5 := Aside0.mk (blk_keep hb BQ4.out); clear HB4 BP4 BQ4; clear hb)
  | (have tk_ := TK5; clear tk_ TK5; go_at_call 8; refine (HAW.out _ (HT.out.below HB5.out)).mono ?_; rintro e u6 ⟨rfl, hb⟩; have HB6 := Aside0.mk (below_step HB5.out hb); have BP6 := Aside0.mk (blk_keep hb BP5.out); have BQ6 := Aside0.mk (blk_keep hb BQ5.out); clear HB5 BP5 BQ5; clear hb))
 go_ret
 exact ⟨rfl, HB6.out⟩
theorem hopperlaw16_NeedRules.early5 (k : Nat) (p q : S24) (Ap : Option Addr) (cp : Nat) (Aq : Option Addr) (cq : Nat) (Ar : Option Addr) (cr : Nat) (row : List S40) (w : World) (hrp : Kd.C k24 w Ap p.f5.length p.f5) (hcp : p.f5.length ≤ cp) (hrq : Kd.C k24 w Aq q.f5.length q.f5) (hcq : q.f5.length ≤ cq) (hrr : Kd.C k40 w Ar row.length row) (hcr : row.length ≤ cr) (hT : Facts w) (haw : hopperlaw16_awake.f k = some true) (h0 : smallS k p = some true) (h1 : smallS k q = some true) (h2 : row.length ≤ 8) (h3 : rightS k p row = some true) (h4 : rightS k q row = some true) (h5 : hopperref16_Rows.f k [row] (row.length : Int) = some false) :
  Calls Tryd.prog 6 #[.agg #[.int .i64 p.f0, .int .i64 p.f1, .string p.f2, .int .i64 p.f3, .int .i64 p.f4, .slice Ap p.f5.length cp], .agg #[.int .i64 q.f0, .int .i64 q.f1, .string q.f2, .int .i64 q.f3, .int .i64 q.f4, .slice Aq q.f5.length cq], .slice Ar row.length cr] w fun e w' => e = .returned (.bool true) ∧ Below w.heap.size w w' := by
 have hup := Tryd.underlying24; have huv := Tryd.underlying40; have HAGG := Aside0.mk (show ∀ W, (isAgg 24).run Tryd.prog W = .ok true W from fun W => by first | exact Tryd.isAgg24 | exact Tryd.isAgg24 W | go_simp)
 have HSZ := Aside0.mk (show ∀ W, (sizeOf 24).run Tryd.prog W = .ok 6 W from fun W => by first | exact Tryd.sizeOf24 | exact Tryd.sizeOf24 W | go_simp)
 have HT := Aside0.mk hT; have HAW := Aside0.mk (fun W (hT : Facts W) => hopperlaw16_awake.calls k true W hT haw)
 have HSP := Aside0.mk (fun W (hb : Below w.heap.size w W) => hopperref16_Small.calls k p.f0 p.f1 p.f2 p.f3 p.f4 Ap cp p.f5 20 true W (Kd.C_below hrp hb) hcp h0)
 have HSQ := Aside0.mk (fun W (hb : Below w.heap.size w W) => hopperref16_Small.calls k q.f0 q.f1 q.f2 q.f3 q.f4 Aq cq q.f5 20 true W (Kd.C_below hrq hb) hcq h1)
 have hl8 : decide ((row.length : Int) > 8) = false := decide_eq_false (by omega)
 have hl8' : decide (8 < (row.length : Int)) = false := decide_eq_false (by omega)
 have HRP := Aside0.mk (fun W (hb : Below w.heap.size w W) => hopperref16_Right.calls k p.f0 p.f1 p.f2 p.f3 p.f4 Ap cp p.f5 (row.length : Int) 9 true W (Kd.C_below hrp hb) hcp h3)
 have HRQ := Aside0.mk (fun W (hb : Below w.heap.size w W) => hopperref16_Right.calls k q.f0 q.f1 q.f2 q.f3 q.f4 Aq cq q.f5 (row.length : Int) 9 true W (Kd.C_below hrq hb) hcq h4)
 have HRW := Aside0.mk (fun g W (hb : Below w.heap.size w W) (hg : W.heap[g]? = some (.cells [.slice Ar row.length cr].toArray 36 (0, 0))) => hopperref16_Rows.calls k (some ⟨g, 0, none⟩) 1 [row] (row.length : Int) false W (C_blk hg (reps_one (R := (Kd.slice 40 k40).K W) ⟨Ar, cr, rfl, hcr, Kd.C_below hrr hb⟩ rfl) rfl (show 1 ≤ 9223372036854775807 by decide)) (by simp) h5)
 have TK0 : True := trivial; have TK1 : True := trivial; have TK2 : True := trivial; have TK3 : True := trivial; have TK4 : True := trivial; have TK5 : True := trivial; have TK6 : True := trivial; clear haw hrp hcp hrq hcq hrr hcr hT h0 h1 h2 h3 h4 h5; go_enter Tryd.func6, Tryd.ntmps6
 go_wp2_with (first
  | ((with_reducible refine gate_dst (N := 3) rfl ?_); refine box_all rfl rfl (cs := #[.int .i64 p.f0, .int .i64 p.f1, .string p.f2, .int .i64 p.f3, .int .i64 p.f4, .slice Ap p.f5.length cp]) rfl (fun W => HSZ.out W) ?_; intro v1 hbx hbw; have BW1 := Aside0.mk hbw; have BX1 := Aside0.mk hbx; clear hbx hbw)
  | ((with_reducible refine gate_dst (N := 4) rfl ?_); refine box_all rfl rfl (cs := #[.int .i64 q.f0, .int .i64 q.f1, .string q.f2, .int .i64 q.f3, .int .i64 q.f4, .slice Aq q.f5.length cq]) rfl (fun W => HSZ.out W) ?_; intro v2 hbx hbw; have BQ0 := Aside0.mk hbx; have BP0 := Aside0.mk (blk_keep hbw BX1.out); have HB0 := Aside0.mk (below_step BW1.out hbw); clear hbx hbw BW1 BX1)
  | (have tk_ := TK0; clear tk_ TK0; go_at_call 8; refine (HAW.out _ (HT.out.below HB0.out)).mono ?_; rintro e u1 ⟨rfl, hb⟩; have HB1 := Aside0.mk (below_step HB0.out hb); have BP1 := Aside0.mk (blk_keep hb BP0.out); have BQ1 := Aside0.mk (blk_keep hb BQ0.out); clear HB0 BP0 BQ0; clear hb)
  | ((with_reducible refine gate_dst (N := 14) rfl ?_); (try (refine gate_guard (by rfl) ?_; dsimp only)); refine load_all rfl rfl (cs := [.int .i64 p.f0, .int .i64 p.f1, .string p.f2, .int .i64 p.f3, .int .i64 p.f4, .slice Ap p.f5.length cp]) rfl HAGG.out (fun W => HSZ.out W) (blk_cells BP1.out) ?_)
  | (have tk_ := TK1; clear tk_ TK1; go_at_call 9; refine (HSP.out _ HB1.out).mono ?_; rintro e u2 ⟨rfl, hb⟩; have HB2 := Aside0.mk (below_step HB1.out hb); have BP2 := Aside0.mk (blk_keep hb BP1.out); have BQ2 := Aside0.mk (blk_keep hb BQ1.out); clear HB1 BP1 BQ1; clear hb)
  | ((with_reducible refine gate_dst (N := 19) rfl ?_); (try (refine gate_guard (by rfl) ?_; dsimp only)); refine load_all rfl rfl (cs := [.int .i64 q.f0, .int .i64 q.f1, .string q.f2, .int .i64 q.f3, .int .i64 q.f4, .slice Aq q.f5.length cq]) rfl HAGG.out (fun W => HSZ.out W) (blk_cells BQ2.out) ?_)
  | (have tk_ := TK2; clear tk_ TK2; go_at_call 9; refine (HSQ.out _ HB2.out).mono ?_; rintro e u3 ⟨rfl, hb⟩; have HB3 := Aside0.mk (below_step HB2.out hb); have BP3 := Aside0.mk (blk_keep hb BP2.out); have BQ3 := Aside0.mk (blk_keep hb BQ2.out); clear HB2 BP2 BQ2; clear hb)
  | ((with_reducible refine gate_dst (N := 29) rfl ?_); (try (refine gate_guard (by rfl) ?_; dsimp only)); refine load_all rfl rfl (cs := [.int .i64 p.f0, .int .i64 p.f1, .string p.f2, .int .i64 p.f3, .int .i64 p.f4, .slice Ap p.f5.length cp]) rfl HAGG.out (fun W => HSZ.out W) (blk_cells BP3.out) ?_)
  | (have tk_ := TK3; clear tk_ TK3; go_at_call 11; refine (HRP.out _ HB3.out).mono ?_; rintro e u4 ⟨rfl, hb⟩; have HB4 := Aside0.mk (below_step HB3.out hb); have BP4 := Aside0.mk (blk_keep hb BP3.out); have BQ4 := Aside0.mk (blk_keep hb BQ3.out); clear HB3 BP3 BQ3; clear hb)
  | ((with_reducible refine gate_dst (N := 36) rfl ?_); (try (refine gate_guard (by rfl) ?_; dsimp only)); refine load_all rfl rfl (cs := [.int .i64 q.f0, .int .i64 q.f1, .string q.f2, .int .i64 q.f3, .int .i64 q.f4, .slice Aq q.f5.length cq]) rfl HAGG.out (fun W => HSZ.out W) (blk_cells BQ4.out) ?_)
  | (have tk_ := TK4; clear tk_ TK4; go_at_call 11; refine (HRQ.out _ HB4.out).mono ?_; rintro e u5 ⟨rfl, hb⟩; have HB5 := Aside0.mk (below_step HB4.out hb); have BP5 := Aside0.mk (blk_keep hb BP4.out); have BQ5 := Aside0.mk (blk_keep hb BQ4.out); clear HB4 BP4 BQ4; clear hb)
  | ((with_reducible refine gate_dst (N := 44) rfl ?_); (try (refine gate_guard (by rfl) ?_; dsimp only)); refine lit_event 36 44 rfl rfl [row] [.slice Ar row.length cr] ?hr ?_; (case hr => first | (go_simp; done) | (go_simp; rfl)); intro g5 w5 hge hC hb; have HL5 := Aside0.mk hC; have HB6 := Aside0.mk (below_step HB5.out hb); have BP6 := Aside0.mk (blk_keep hb BP5.out); have BQ6 := Aside0.mk (blk_keep hb BQ5.out); clear HB5 BP5 BQ5; clear hb hC hge)
  | (have tk_ := TK5; clear tk_ TK5; go_at_call 12; refine (HRW.out _ _ HB6.out HL5.out).mono ?_; rintro e u7 ⟨rfl, hb⟩; have HB7 := Aside0.mk (below_step HB6.out hb.below); have BP7 := Aside0.mk (blk_keep hb.below BP6.out); have BQ7 := Aside0.mk (blk_keep hb.below BQ6.out); clear HB6 BP6 BQ6; clear hb)
  | (have tk_ := TK6; clear tk_ TK6; go_at_call 8; refine (HAW.out _ (HT.out.below HB7.out)).mono ?_; rintro e u8 ⟨rfl, hb⟩; have HB8 := Aside0.mk (below_step HB7.out hb); have BP8 := Aside0.mk (blk_keep hb BP7.out); have BQ8 := Aside0.mk (blk_keep hb BQ7.out); clear HB7 BP7 BQ7; clear hb))
 go_ret
 exact ⟨rfl, HB8.out⟩
theorem hopperlaw16_NeedRules.main (k : Nat) (p q : S24) (Ap : Option Addr) (cp : Nat) (Aq : Option Addr) (cq : Nat) (Ar : Option Addr) (cr : Nat) (row : List S40) (w : World) (hrp : Kd.C k24 w Ap p.f5.length p.f5) (hcp : p.f5.length ≤ cp) (hrq : Kd.C k24 w Aq q.f5.length q.f5) (hcq : q.f5.length ≤ cq) (hrr : Kd.C k40 w Ar row.length row) (hcr : row.length ≤ cr) (hT : Facts w) (haw : hopperlaw16_awake.f k = some true) (h0 : smallS k p = some true) (h1 : smallS k q = some true) (h2 : row.length ≤ 8) (h3 : rightS k p row = some true) (h4 : rightS k q row = some true) (h5 : hopperref16_Rows.f k [row] (row.length : Int) = some true) (x y3 y5 : Int) (hx : saysS k p row = some x) (hy1 : saysS k (notS (notS p)) row = some x) (hy2 : saysS k (twoS 13 p p) row = some x) (hy3 : saysS k (notS (twoS 12 p q)) row = some y3) (hy4 : saysS k (twoS 13 (notS p) (notS q)) row = some y3) (hy5 : saysS k (notS p) row = some y5) (hR : (x == 2) = (y5 == 2)) :
  Calls Tryd.prog 6 #[.agg #[.int .i64 p.f0, .int .i64 p.f1, .string p.f2, .int .i64 p.f3, .int .i64 p.f4, .slice Ap p.f5.length cp], .agg #[.int .i64 q.f0, .int .i64 q.f1, .string q.f2, .int .i64 q.f3, .int .i64 q.f4, .slice Aq q.f5.length cq], .slice Ar row.length cr] w fun e w' => e = .returned (.bool true) ∧ Below w.heap.size w w' := by
 have hup := Tryd.underlying24; have huv := Tryd.underlying40; have HAGG := Aside0.mk (show ∀ W, (isAgg 24).run Tryd.prog W = .ok true W from fun W => by first | exact Tryd.isAgg24 | exact Tryd.isAgg24 W | go_simp)
 have HSZ := Aside0.mk (show ∀ W, (sizeOf 24).run Tryd.prog W = .ok 6 W from fun W => by first | exact Tryd.sizeOf24 | exact Tryd.sizeOf24 W | go_simp)
 have HT := Aside0.mk hT; have HAW := Aside0.mk (fun W (hT : Facts W) => hopperlaw16_awake.calls k true W hT haw)
 have HSP := Aside0.mk (fun W (hb : Below w.heap.size w W) => hopperref16_Small.calls k p.f0 p.f1 p.f2 p.f3 p.f4 Ap cp p.f5 20 true W (Kd.C_below hrp hb) hcp h0)
 have HSQ := Aside0.mk (fun W (hb : Below w.heap.size w W) => hopperref16_Small.calls k q.f0 q.f1 q.f2 q.f3 q.f4 Aq cq q.f5 20 true W (Kd.C_below hrq hb) hcq h1)
 have hl8 : decide ((row.length : Int) > 8) = false := decide_eq_false (by omega)
 have hl8' : decide (8 < (row.length : Int)) = false := decide_eq_false (by omega)
 have HRP := Aside0.mk (fun W (hb : Below w.heap.size w W) => hopperref16_Right.calls k p.f0 p.f1 p.f2 p.f3 p.f4 Ap cp p.f5 (row.length : Int) 9 true W (Kd.C_below hrp hb) hcp h3)
 have HRQ := Aside0.mk (fun W (hb : Below w.heap.size w W) => hopperref16_Right.calls k q.f0 q.f1 q.f2 q.f3 q.f4 Aq cq q.f5 (row.length : Int) 9 true W (Kd.C_below hrq hb) hcq h4)
 have HRW := Aside0.mk (fun g W (hb : Below w.heap.size w W) (hg : W.heap[g]? = some (.cells [.slice Ar row.length cr].toArray 36 (0, 0))) => hopperref16_Rows.calls k (some ⟨g, 0, none⟩) 1 [row] (row.length : Int) true W (C_blk hg (reps_one (R := (Kd.slice 40 k40).K W) ⟨Ar, cr, rfl, hcr, Kd.C_below hrr hb⟩ rfl) rfl (show 1 ≤ 9223372036854775807 by decide)) (by simp) h5)
 have KP := fun W (hb : Below w.heap.size w W) => k24_mk W p hcp (Kd.C_below hrp hb)
 have KQ := fun W (hb : Below w.heap.size w W) => k24_mk W q hcq (Kd.C_below hrq hb)
 have HKP := Aside0.mk KP; have HKQ := Aside0.mk KQ; have HS0 := Aside0.mk (fun W (hb : Below w.heap.size w W) => need_Says.calls k p.f0 p.f1 p.f2 p.f3 p.f4 Ap cp p.f5 Ar cr row x W (Kd.C_below hrp hb) hcp (Kd.C_below hrr hb) hcr (hT.below hb) hx)
 have HSY := Aside0.mk (fun (z : Int) (kd : Int) (g n : Nat) (l : List S24) (y : Int) W (hb : Below w.heap.size w W) (hn : l.length = n) (hC : Kd.C k24 W (some ⟨g, 0, none⟩) n l) (hy : need_Says.f k kd 0 ⟨#[]⟩ 0 0 l row = some y) => (by subst hn; exact need_Says.calls k kd 0 ⟨#[]⟩ 0 0 (some ⟨g, 0, none⟩) l.length l Ar cr row y W hC (Nat.le_refl _) (Kd.C_below hrr hb) hcr (hT.below hb) hy : Calls Tryd.prog 16 #[.agg #[.int .i64 kd, .int .i64 0, .string (⟨#[]⟩ : ByteArray), .int .i64 0, .int .i64 0, .slice (some ⟨g, 0, none⟩) n n], .slice Ar row.length cr] W fun e w' => e = .returned (.int .i64 y) ∧ Below W.heap.size W w'))
 have HNP := Aside0.mk (fun W (hb : Below w.heap.size w W) => hopperlaw16_not.core p Ap cp W (Kd.C_below hrp hb) hcp)
 have HNQ := Aside0.mk (fun W (hb : Below w.heap.size w W) => hopperlaw16_not.core q Aq cq W (Kd.C_below hrq hb) hcq)
 have HNN := Aside0.mk (fun (kd : Int) (g n : Nat) (l : List S24) W (hn : l.length = n) (hC : Kd.C k24 W (some ⟨g, 0, none⟩) n l) => (by subst hn; exact hopperlaw16_not.core ⟨kd, 0, ⟨#[]⟩, 0, 0, l⟩ (some ⟨g, 0, none⟩) l.length W hC (Nat.le_refl _) : Calls Tryd.prog 17 #[.agg #[.int .i64 kd, .int .i64 0, .string (⟨#[]⟩ : ByteArray), .int .i64 0, .int .i64 0, .slice (some ⟨g, 0, none⟩) n n]] W fun e w' => ∃ g', e = .returned (.agg #[.int .i64 14, .int .i64 0, .string (⟨#[]⟩ : ByteArray), .int .i64 0, .int .i64 0, .slice (some ⟨g', 0, none⟩) 1 1]) ∧ W.heap.size ≤ g' ∧ w'.heap[g']? = some (.cells #[.int .i64 kd, .int .i64 0, .string (⟨#[]⟩ : ByteArray), .int .i64 0, .int .i64 0, .slice (some ⟨g, 0, none⟩) n n] 24 (0, 0)) ∧ Below W.heap.size W w'))
 have HY := Aside0.mk (show _ ∧ _ ∧ _ ∧ _ ∧ _ from ⟨hy1, hy2, hy3, hy4, hy5⟩)
 have HRR := Aside0.mk hR; have TK0 : True := trivial; have TK1 : True := trivial; have TK2 : True := trivial; have TK3 : True := trivial; have TK4 : True := trivial; have TK5 : True := trivial; have TK6 : True := trivial; clear haw hrp hcp hrq hcq hrr hcr hT hR h0 h1 h2 h3 h4 h5 KP KQ hx hy1 hy2 hy3 hy4 hy5; go_enter Tryd.func6, Tryd.ntmps6
 go_wp2_with (first
  | ((with_reducible refine gate_dst (N := 3) rfl ?_); refine box_all rfl rfl (cs := #[.int .i64 p.f0, .int .i64 p.f1, .string p.f2, .int .i64 p.f3, .int .i64 p.f4, .slice Ap p.f5.length cp]) rfl (fun W => HSZ.out W) ?_; intro v1 hbx hbw; have BW1 := Aside0.mk hbw; have BX1 := Aside0.mk hbx; clear hbx hbw)
  | ((with_reducible refine gate_dst (N := 4) rfl ?_); refine box_all rfl rfl (cs := #[.int .i64 q.f0, .int .i64 q.f1, .string q.f2, .int .i64 q.f3, .int .i64 q.f4, .slice Aq q.f5.length cq]) rfl (fun W => HSZ.out W) ?_; intro v2 hbx hbw; have BQ0 := Aside0.mk hbx; have BP0 := Aside0.mk (blk_keep hbw BX1.out); have HB0 := Aside0.mk (below_step BW1.out hbw); clear hbx hbw BW1 BX1)
  | (have tk_ := TK0; clear tk_ TK0; go_at_call 8; refine (HAW.out _ (HT.out.below HB0.out)).mono ?_; rintro e u1 ⟨rfl, hb⟩; have HB1 := Aside0.mk (below_step HB0.out hb); have BP1 := Aside0.mk (blk_keep hb BP0.out); have BQ1 := Aside0.mk (blk_keep hb BQ0.out); clear HB0 BP0 BQ0; clear hb)
  | ((with_reducible refine gate_dst (N := 14) rfl ?_); (try (refine gate_guard (by rfl) ?_; dsimp only)); refine load_all rfl rfl (cs := [.int .i64 p.f0, .int .i64 p.f1, .string p.f2, .int .i64 p.f3, .int .i64 p.f4, .slice Ap p.f5.length cp]) rfl HAGG.out (fun W => HSZ.out W) (blk_cells BP1.out) ?_)
  | (have tk_ := TK1; clear tk_ TK1; go_at_call 9; refine (HSP.out _ HB1.out).mono ?_; rintro e u2 ⟨rfl, hb⟩; have HB2 := Aside0.mk (below_step HB1.out hb); have BP2 := Aside0.mk (blk_keep hb BP1.out); have BQ2 := Aside0.mk (blk_keep hb BQ1.out); clear HB1 BP1 BQ1; clear hb)
  | ((with_reducible refine gate_dst (N := 19) rfl ?_); (try (refine gate_guard (by rfl) ?_; dsimp only)); refine load_all rfl rfl (cs := [.int .i64 q.f0, .int .i64 q.f1, .string q.f2, .int .i64 q.f3, .int .i64 q.f4, .slice Aq q.f5.length cq]) rfl HAGG.out (fun W => HSZ.out W) (blk_cells BQ2.out) ?_)
  | (have tk_ := TK2; clear tk_ TK2; go_at_call 9; refine (HSQ.out _ HB2.out).mono ?_; rintro e u3 ⟨rfl, hb⟩; have HB3 := Aside0.mk (below_step HB2.out hb); have BP3 := Aside0.mk (blk_keep hb BP2.out); have BQ3 := Aside0.mk (blk_keep hb BQ2.out); clear HB2 BP2 BQ2; clear hb)
  | ((with_reducible refine gate_dst (N := 29) rfl ?_); (try (refine gate_guard (by rfl) ?_; dsimp only)); refine load_all rfl rfl (cs := [.int .i64 p.f0, .int .i64 p.f1, .string p.f2, .int .i64 p.f3, .int .i64 p.f4, .slice Ap p.f5.length cp]) rfl HAGG.out (fun W => HSZ.out W) (blk_cells BP3.out) ?_)
  | (have tk_ := TK3; clear tk_ TK3; go_at_call 11; refine (HRP.out _ HB3.out).mono ?_; rintro e u4 ⟨rfl, hb⟩; have HB4 := Aside0.mk (below_step HB3.out hb); have BP4 := Aside0.mk (blk_keep hb BP3.out); have BQ4 := Aside0.mk (blk_keep hb BQ3.out); clear HB3 BP3 BQ3; clear hb)
  | ((with_reducible refine gate_dst (N := 36) rfl ?_); (try (refine gate_guard (by rfl) ?_; dsimp only)); refine load_all rfl rfl (cs := [.int .i64 q.f0, .int .i64 q.f1, .string q.f2, .int .i64 q.f3, .int .i64 q.f4, .slice Aq q.f5.length cq]) rfl HAGG.out (fun W => HSZ.out W) (blk_cells BQ4.out) ?_)
  | (have tk_ := TK4; clear tk_ TK4; go_at_call 11; refine (HRQ.out _ HB4.out).mono ?_; rintro e u5 ⟨rfl, hb⟩; have HB5 := Aside0.mk (below_step HB4.out hb); have BP5 := Aside0.mk (blk_keep hb BP4.out); have BQ5 := Aside0.mk (blk_keep hb BQ4.out); clear HB4 BP4 BQ4; clear hb)
  | ((with_reducible refine gate_dst (N := 44) rfl ?_); (try (refine gate_guard (by rfl) ?_; dsimp only)); refine lit_event 36 44 rfl rfl [row] [.slice Ar row.length cr] ?hr ?_; (case hr => first | (go_simp; done) | (go_simp; rfl)); intro g5 w5 hge hC hb; have HL5 := Aside0.mk hC; have HB6 := Aside0.mk (below_step HB5.out hb); have BP6 := Aside0.mk (blk_keep hb BP5.out); have BQ6 := Aside0.mk (blk_keep hb BQ5.out); clear HB5 BP5 BQ5; clear hb hC hge)
  | (have tk_ := TK5; clear tk_ TK5; go_at_call 12; refine (HRW.out _ _ HB6.out HL5.out).mono ?_; rintro e u7 ⟨rfl, hb⟩; have HB7 := Aside0.mk (below_step HB6.out hb.below); have BP7 := Aside0.mk (blk_keep hb.below BP6.out); have BQ7 := Aside0.mk (blk_keep hb.below BQ6.out); clear HB6 BP6 BQ6; clear hb)
  | ((with_reducible refine gate_dst (N := 51) rfl ?_); (try (refine gate_guard (by rfl) ?_; dsimp only)); refine load_all rfl rfl (cs := [.int .i64 p.f0, .int .i64 p.f1, .string p.f2, .int .i64 p.f3, .int .i64 p.f4, .slice Ap p.f5.length cp]) rfl HAGG.out (fun W => HSZ.out W) (blk_cells BP7.out) ?_)
  | (have tk_ := TK6; clear tk_ TK6; go_at_call 16; refine (HS0.out _ HB7.out).mono ?_; rintro e u8 ⟨rfl, hb⟩; have HB8 := Aside0.mk (below_step HB7.out hb); have BP8 := Aside0.mk (blk_keep hb BP7.out); have BQ8 := Aside0.mk (blk_keep hb BQ7.out); clear HB7 BP7 BQ7; clear hb)
  | ((with_reducible refine gate_dst (N := 54) rfl ?_); (try (refine gate_guard (by rfl) ?_; dsimp only)); refine load_all rfl rfl (cs := [.int .i64 p.f0, .int .i64 p.f1, .string p.f2, .int .i64 p.f3, .int .i64 p.f4, .slice Ap p.f5.length cp]) rfl HAGG.out (fun W => HSZ.out W) (blk_cells BP8.out) ?_)
  | ((with_reducible refine gate_dst (N := 55) rfl ?_); (try (refine gate_guard (by rfl) ?_; dsimp only)); refine load_all rfl rfl (cs := [.int .i64 q.f0, .int .i64 q.f1, .string q.f2, .int .i64 q.f3, .int .i64 q.f4, .slice Aq q.f5.length cq]) rfl HAGG.out (fun W => HSZ.out W) (blk_cells BQ8.out) ?_)
  | ((with_reducible refine gate_dst (N := 56) rfl ?_); refine lit_event 24 56 rfl rfl [p, q] ([.int .i64 p.f0, .int .i64 p.f1, .string p.f2, .int .i64 p.f3, .int .i64 p.f4, .slice Ap p.f5.length cp] ++ [.int .i64 q.f0, .int .i64 q.f1, .string q.f2, .int .i64 q.f3, .int .i64 q.f4, .slice Aq q.f5.length cq]) ?hr ?_; (case hr => first | (go_simp; done) | (go_simp; rfl)); intro gl w7 hge hC hb; have HL1 := Aside0.mk hC; have HB9 := Aside0.mk (below_step HB8.out hb); have BP9 := Aside0.mk (blk_keep hb BP8.out); have BQ9 := Aside0.mk (blk_keep hb BQ8.out); clear HB8 BP8 BQ8; clear hb hC hge)
  | ((with_reducible refine gate_dst (N := 8) rfl ?_); refine box_event ?hg (N := 8) ?hd (cs := #[.int .i64 0, .int .i64 0, .string (⟨#[]⟩ : ByteArray), .int .i64 0, .int .i64 0, .slice none 0 0]) (t := 24) ?hr ?_; (case hd => rfl); (case hg => rfl); (case hr => first | (go_simp; done) | (go_simp; rfl)); intro ga hg w8 hbox hb; have BA1 := Aside0.mk hbox; have LP1 := Aside0.mk (show w.heap.size < ga from hg ▸ (Array.getElem?_eq_some_iff.1 BP9.out).1); have LQ1 := Aside0.mk (show v1.heap.size < ga from hg ▸ (Array.getElem?_eq_some_iff.1 BQ9.out).1); have LL1 := Aside0.mk (show gl < ga from hg ▸ (Array.getElem?_eq_some_iff.1 HL1.out).1); have HL2 := Aside0.mk (blk_keep hb HL1.out); have HB10 := Aside0.mk (below_step HB9.out hb); have BP10 := Aside0.mk (blk_keep hb BP9.out); have BQ10 := Aside0.mk (blk_keep hb BQ9.out); clear HB9 BP9 BQ9; clear hbox hb hg HL1)
  | ((with_reducible refine gate_store (t := 24) (p := 8) rfl ?_); refine store_all (g := ga) (cs := #[.int .i64 12, .int .i64 0, .string (⟨#[]⟩ : ByteArray), .int .i64 0, .int .i64 0, .slice (some ⟨gl, 0, none⟩) 2 2]) (t' := 24) rfl rfl rfl rfl rfl (fun W => HSZ.out W) BA1.out rfl (by intro u hu; simp only [List.mem_cons, List.not_mem_nil, or_false] at hu; rcases hu with rfl | rfl | rfl | rfl | rfl | rfl <;> rfl) ?_; intro w9 hbx hoth hs3 hos htp hou; have BA := Aside0.mk hbx; have BP := Aside0.mk ((hoth _ (Nat.ne_of_lt LP1.out)).trans BP10.out); have BQ := Aside0.mk ((hoth _ (Nat.ne_of_lt LQ1.out)).trans BQ10.out); have HL := Aside0.mk ((hoth _ (Nat.ne_of_lt LL1.out)).trans HL2.out); have HB := Aside0.mk (show Below w.heap.size w w9 from ⟨hos.trans HB10.out.os, htp.trans HB10.out.tape, hou.trans HB10.out.output, by rw [hs3]; exact HB10.out.size, fun k_ hk_ => (hoth k_ (by have := LP1.out; omega)).trans (HB10.out.block k_ hk_)⟩); clear hbx hoth hs3 hos htp hou HB10 BP10 BQ10 BA1 HL2 LP1 LQ1 LL1))
 have HBd := below_drew1 HB.out; have BPd := blk_drew BP.out; have BQd := blk_drew BQ.out; have BAd := blk_drew BA.out; have HLd := blk_drew HL.out; clear HB BP BQ BA HL; refine start_ (n := 8) (S := fun w' => Below w9.drew.heap.size w9.drew w') (ds := []) #[false, false, false, false, false, false, false, false] (by kernel_rfl) rfl rfl (Below.refl _ _) (fun hHeld => ?_)
 generalize w9.drew = wR at HBd BPd BQd BAd HLd hHeld ⊢
 have HBR := Aside0.mk HBd; have BPR := Aside0.mk BPd; have BQR := Aside0.mk BQd; have BAR := Aside0.mk BAd; have HLR := Aside0.mk HLd; clear HBd BPd BQd BAd HLd; refine take_ (i := 0) (N := some 58) (v := .agg #[.int .i64 p.f0, .int .i64 p.f1, .string p.f2, .int .i64 p.f3, .int .i64 p.f4, .slice Ap p.f5.length cp]) (a' := ?z1a) #[true, false, false, false, false, false, false, false] rfl rfl (by kernel_rfl) (fun _ _ _ h => h) (Or.inl ⟨by rfl, fun w' hs => load_run6 rfl (cs := [.int .i64 p.f0, .int .i64 p.f1, .string p.f2, .int .i64 p.f3, .int .i64 p.f4, .slice Ap p.f5.length cp]) rfl rfl (blk_keep hs BPR.out)⟩) hHeld ?z1h ?z1c
 case z1h => simp only [Act.put, List.setIfInBounds_toArray, List.set_cons_zero, List.set_cons_succ, i64_w, i32_w]; rfl
 case z1c =>
 refine take_ (i := 2) (N := some 60) (v := .agg #[.int .i64 q.f0, .int .i64 q.f1, .string q.f2, .int .i64 q.f3, .int .i64 q.f4, .slice Aq q.f5.length cq]) (a' := ?z2a) #[true, false, true, false, false, false, false, false] rfl rfl (by kernel_rfl) (fun _ _ _ h => h) (Or.inl ⟨by rfl, fun w' hs => load_run6 rfl (cs := [.int .i64 q.f0, .int .i64 q.f1, .string q.f2, .int .i64 q.f3, .int .i64 q.f4, .slice Aq q.f5.length cq]) rfl rfl (blk_keep hs BQR.out)⟩) hHeld ?z2h ?z2c
 case z2h => simp only [Act.put, List.setIfInBounds_toArray, List.set_cons_zero, List.set_cons_succ, i64_w, i32_w]; rfl
 case z2c =>
 refine join_ (σ := Nat × Nat × Nat × Nat) 1 #[true, true, true, true, true, true, true, false] (fun s_ => [(59, .agg #[.int .i64 14, .int .i64 0, .string (⟨#[]⟩ : ByteArray), .int .i64 0, .int .i64 0, .slice (some ⟨s_.1, 0, none⟩) 1 1]), (61, .agg #[.int .i64 14, .int .i64 0, .string (⟨#[]⟩ : ByteArray), .int .i64 0, .int .i64 0, .slice (some ⟨s_.2.1, 0, none⟩) 1 1]), (62, .slice (some ⟨s_.2.2.1, 0, none⟩) 2 2), (63, .agg #[.int .i64 13, .int .i64 0, .string (⟨#[]⟩ : ByteArray), .int .i64 0, .int .i64 0, .slice (some ⟨s_.2.2.1, 0, none⟩) 2 2]), (9, .pointer (some ⟨s_.2.2.2, 0, none⟩))]) (fun s_ w' => Aside0 (w'.heap[s_.1]? = some (.cells ([.int .i64 p.f0, .int .i64 p.f1, .string p.f2, .int .i64 p.f3, .int .i64 p.f4, .slice Ap p.f5.length cp] : List Value).toArray 24 (0, 0))) ∧ Aside0 (w'.heap[s_.2.1]? = some (.cells ([.int .i64 q.f0, .int .i64 q.f1, .string q.f2, .int .i64 q.f3, .int .i64 q.f4, .slice Aq q.f5.length cq] : List Value).toArray 24 (0, 0))) ∧ Aside0 (w'.heap[s_.2.2.1]? = some (.cells ([.int .i64 14, .int .i64 0, .string (⟨#[]⟩ : ByteArray), .int .i64 0, .int .i64 0, .slice (some ⟨s_.1, 0, none⟩) 1 1] ++ [.int .i64 14, .int .i64 0, .string (⟨#[]⟩ : ByteArray), .int .i64 0, .int .i64 0, .slice (some ⟨s_.2.1, 0, none⟩) 1 1] : List Value).toArray 24 (0, 0))) ∧ Aside0 (w'.heap[s_.2.2.2]? = some (.cells ([.int .i64 0, .int .i64 0, .string (⟨#[]⟩ : ByteArray), .int .i64 0, .int .i64 0, .slice none 0 0] : List Value).toArray 24 (0, 0))) ∧ Aside0 (s_.1 ≠ s_.2.2.2) ∧ Aside0 (s_.2.1 ≠ s_.2.2.2) ∧ Aside0 (s_.2.2.1 ≠ s_.2.2.2) ∧ Aside0 (wR.heap.size ≤ s_.2.2.2) ∧ Aside0 (Below wR.heap.size wR w')) ?_ ?_
 rotate_left
 ·intro hCont
  refine two_ (i := 1) (j := 6) (Ni := some 59) (Nj := some 9) #[true, true, true, false, false, false, false, false] #[true, false, true, false, false, false, true, false] rfl rfl rfl rfl (by kernel_rfl) (by decide) (by decide) (fun K hK => ?_) (fun K hK => ?_)
  ·skip
   refine goes_ Tryd.func17 (by kernel_rfl) rfl #[.agg #[.int .i64 p.f0, .int .i64 p.f1, .string p.f2, .int .i64 p.f3, .int .i64 p.f4, .slice Ap p.f5.length cp]] (by rfl) rfl rfl (by (try simp only [List.map_toArray, List.map_cons, List.map_nil]); first | done | rfl) ?_
   refine (HNP.out _ (below_step HBR.out hHeld)).mono ?_
   rintro e wx4 ⟨g1, rfl, hge, hC, hb⟩
   refine ⟨_, rfl, ?_⟩
   have Ng1 := Aside0.mk hC; have hS := below_step hHeld hb; clear hb hC hge hHeld; refine hK.out _ _ hS (fun hHeld => ?_)
   clear hK K hS; refine norm_ (a' := ?z5a) ?z5h ?z5c
   case z5h => show Act.put _ (some 59) _ = _; simp only [Act.put, List.setIfInBounds_toArray, List.set_cons_zero, List.set_cons_succ, i64_w, i32_w]; rfl
   case z5c =>
   refine two_ (i := 3) (j := 6) (Ni := some 61) (Nj := some 9) #[true, true, true, true, false, false, false, false] #[true, true, true, false, false, false, true, false] rfl rfl rfl rfl (by kernel_rfl) (by decide) (by decide) (fun K hK => ?_) (fun K hK => ?_)
   ·skip
    refine goes_ Tryd.func17 (by kernel_rfl) rfl #[.agg #[.int .i64 q.f0, .int .i64 q.f1, .string q.f2, .int .i64 q.f3, .int .i64 q.f4, .slice Aq q.f5.length cq]] (by rfl) rfl rfl (by (try simp only [List.map_toArray, List.map_cons, List.map_nil]); first | done | rfl) ?_
    refine (HNQ.out _ (below_step HBR.out hHeld)).mono ?_
    rintro e wx7 ⟨g2, rfl, hge, hC, hb⟩
    refine ⟨_, rfl, ?_⟩
    have m_ := Aside0.mk (blk_keep hb Ng1.out); clear Ng1; have Ng1 := m_; clear m_
    have Ng2 := Aside0.mk hC; have hS := below_step hHeld hb; clear hb hC hge hHeld; refine hK.out _ _ hS (fun hHeld => ?_)
    clear hK K hS; refine norm_ (a' := ?z8a) ?z8h ?z8c
    case z8h => show Act.put _ (some 61) _ = _; simp only [Act.put, List.setIfInBounds_toArray, List.set_cons_zero, List.set_cons_succ, i64_w, i32_w]; rfl
    case z8c =>
    refine two_ (i := 4) (j := 6) (Ni := some 62) (Nj := some 9) #[true, true, true, true, true, false, false, false] #[true, true, true, true, false, false, true, false] rfl rfl rfl rfl (by kernel_rfl) (by decide) (by decide) (fun K hK => ?_) (fun K hK => ?_)
    ·skip
     refine lit_step 24 (by rfl) [notS p, notS q] ([.int .i64 14, .int .i64 0, .string (⟨#[]⟩ : ByteArray), .int .i64 0, .int .i64 0, .slice (some ⟨g1, 0, none⟩) 1 1] ++ [.int .i64 14, .int .i64 0, .string (⟨#[]⟩ : ByteArray), .int .i64 0, .int .i64 0, .slice (some ⟨g2, 0, none⟩) 1 1]) ?hr ?_
     case hr => first | (go_simp; done) | (go_simp; rfl)
     intro g3 wx10 hge hC hb
     have m_ := Aside0.mk (blk_keep hb Ng1.out); clear Ng1; have Ng1 := m_; clear m_
     have m_ := Aside0.mk (blk_keep hb Ng2.out); clear Ng2; have Ng2 := m_; clear m_
     have Ng3 := Aside0.mk hC; have hS := below_step hHeld hb; clear hb hC hge hHeld; refine hK.out _ _ hS (fun hHeld => ?_)
     clear hK K hS; refine norm_ (a' := ?z11a) ?z11h ?z11c
     case z11h => show Act.put _ (some 62) _ = _; simp only [Act.put, List.setIfInBounds_toArray, List.set_cons_zero, List.set_cons_succ, i64_w, i32_w]; rfl
     case z11c =>
     refine pure_ (i := 5) (N := some 63) (v := .agg #[.int .i64 13, .int .i64 0, .string (⟨#[]⟩ : ByteArray), .int .i64 0, .int .i64 0, .slice (some ⟨g3, 0, none⟩) 2 2]) (a' := ?z12a) #[true, true, true, true, true, true, false, false] rfl rfl (by kernel_rfl) (fun _ _ _ h => h) (Or.inl ⟨by rfl, fun w' => ?z12y⟩) ?z12h ?z12c
     case z12y => first | (go_simp; done) | (go_simp; rfl) | (go_simp; simp; done)
     case z12h => simp only [Act.put, List.setIfInBounds_toArray, List.set_cons_zero, List.set_cons_succ, i64_w, i32_w]; rfl
     case z12c =>
     refine one_ (i := 6) (N := some 9) #[true, true, true, true, true, true, true, false] rfl rfl (by kernel_rfl) (by decide) (fun K hK => ?_)
     refine box_step (by rfl) (N := 9) rfl (cs := #[.int .i64 0, .int .i64 0, .string (⟨#[]⟩ : ByteArray), .int .i64 0, .int .i64 0, .slice none 0 0]) (t := 24) ?hr ?_
     case hr => first | (go_simp; done) | (go_simp; rfl)
     intro g9 hg wx13 hC hb
     have hge := Nat.le_of_eq hg.symm; clear hg; have Dg1 := Aside0.mk (show g1 ≠ g9 from Nat.ne_of_lt (Nat.lt_of_lt_of_le (Array.getElem?_eq_some_iff.1 Ng1.out).1 hge))
     have Dg2 := Aside0.mk (show g2 ≠ g9 from Nat.ne_of_lt (Nat.lt_of_lt_of_le (Array.getElem?_eq_some_iff.1 Ng2.out).1 hge))
     have Dg3 := Aside0.mk (show g3 ≠ g9 from Nat.ne_of_lt (Nat.lt_of_lt_of_le (Array.getElem?_eq_some_iff.1 Ng3.out).1 hge))
     have E9 := Aside0.mk (show wR.heap.size ≤ g9 from Nat.le_trans (below_size hHeld) hge)
     have m_ := Aside0.mk (blk_keep hb Ng1.out); clear Ng1; have Ng1 := m_; clear m_
     have m_ := Aside0.mk (blk_keep hb Ng2.out); clear Ng2; have Ng2 := m_; clear m_
     have m_ := Aside0.mk (blk_keep hb Ng3.out); clear Ng3; have Ng3 := m_; clear m_
     have Ng9 := Aside0.mk hC; have hS := below_step hHeld hb; clear hb hC hge hHeld; refine hK.out _ _ hS (fun hHeld => ?_)
     clear hK K hS; refine norm_ (a' := ?z14a) ?z14h ?z14c
     case z14h => show Act.put _ (some 9) _ = _; simp only [Act.put, List.setIfInBounds_toArray, List.set_cons_zero, List.set_cons_succ, i64_w, i32_w]; rfl
     case z14c =>
     exact norm_ (by simp only [putAll, Act.put, List.setIfInBounds_toArray, List.set_cons_zero, List.set_cons_succ]; rfl) (hCont (g1, g2, g3, g9) _ ⟨Ng1, Ng2, Ng3, Ng9, Dg1, Dg2, Dg3, E9, ⟨hHeld⟩⟩)
    ·skip
     refine box_step (by rfl) (N := 9) rfl (cs := #[.int .i64 0, .int .i64 0, .string (⟨#[]⟩ : ByteArray), .int .i64 0, .int .i64 0, .slice none 0 0]) (t := 24) ?hr ?_
     case hr => first | (go_simp; done) | (go_simp; rfl)
     intro g9 hg wx15 hC hb
     have hge := Nat.le_of_eq hg.symm; clear hg; have Dg1 := Aside0.mk (show g1 ≠ g9 from Nat.ne_of_lt (Nat.lt_of_lt_of_le (Array.getElem?_eq_some_iff.1 Ng1.out).1 hge))
     have Dg2 := Aside0.mk (show g2 ≠ g9 from Nat.ne_of_lt (Nat.lt_of_lt_of_le (Array.getElem?_eq_some_iff.1 Ng2.out).1 hge))
     have E9 := Aside0.mk (show wR.heap.size ≤ g9 from Nat.le_trans (below_size hHeld) hge)
     have m_ := Aside0.mk (blk_keep hb Ng1.out); clear Ng1; have Ng1 := m_; clear m_
     have m_ := Aside0.mk (blk_keep hb Ng2.out); clear Ng2; have Ng2 := m_; clear m_
     have Ng9 := Aside0.mk hC; have hS := below_step hHeld hb; clear hb hC hge hHeld; refine hK.out _ _ hS (fun hHeld => ?_)
     clear hK K hS; refine norm_ (a' := ?z16a) ?z16h ?z16c
     case z16h => show Act.put _ (some 9) _ = _; simp only [Act.put, List.setIfInBounds_toArray, List.set_cons_zero, List.set_cons_succ, i64_w, i32_w]; rfl
     case z16c =>
     refine one_ (i := 4) (N := some 62) #[true, true, true, true, true, false, true, false] rfl rfl (by kernel_rfl) (by decide) (fun K hK => ?_)
     refine lit_step 24 (by rfl) [notS p, notS q] ([.int .i64 14, .int .i64 0, .string (⟨#[]⟩ : ByteArray), .int .i64 0, .int .i64 0, .slice (some ⟨g1, 0, none⟩) 1 1] ++ [.int .i64 14, .int .i64 0, .string (⟨#[]⟩ : ByteArray), .int .i64 0, .int .i64 0, .slice (some ⟨g2, 0, none⟩) 1 1]) ?hr ?_
     case hr => first | (go_simp; done) | (go_simp; rfl)
     intro g3 wx17 hge hC hb
     have Dg3 := Aside0.mk (show g3 ≠ g9 from Nat.ne_of_gt (Nat.lt_of_lt_of_le (Array.getElem?_eq_some_iff.1 Ng9.out).1 hge))
     have m_ := Aside0.mk (blk_keep hb Ng1.out); clear Ng1; have Ng1 := m_; clear m_
     have m_ := Aside0.mk (blk_keep hb Ng2.out); clear Ng2; have Ng2 := m_; clear m_
     have m_ := Aside0.mk (blk_keep hb Ng9.out); clear Ng9; have Ng9 := m_; clear m_
     have Ng3 := Aside0.mk hC; have hS := below_step hHeld hb; clear hb hC hge hHeld; refine hK.out _ _ hS (fun hHeld => ?_)
     clear hK K hS; refine norm_ (a' := ?z18a) ?z18h ?z18c
     case z18h => show Act.put _ (some 62) _ = _; simp only [Act.put, List.setIfInBounds_toArray, List.set_cons_zero, List.set_cons_succ, i64_w, i32_w]; rfl
     case z18c =>
     refine pure_ (i := 5) (N := some 63) (v := .agg #[.int .i64 13, .int .i64 0, .string (⟨#[]⟩ : ByteArray), .int .i64 0, .int .i64 0, .slice (some ⟨g3, 0, none⟩) 2 2]) (a' := ?z19a) #[true, true, true, true, true, true, true, false] rfl rfl (by kernel_rfl) (fun _ _ _ h => h) (Or.inl ⟨by rfl, fun w' => ?z19y⟩) ?z19h ?z19c
     case z19y => first | (go_simp; done) | (go_simp; rfl) | (go_simp; simp; done)
     case z19h => simp only [Act.put, List.setIfInBounds_toArray, List.set_cons_zero, List.set_cons_succ, i64_w, i32_w]; rfl
     case z19c =>
     exact norm_ (by simp only [putAll, Act.put, List.setIfInBounds_toArray, List.set_cons_zero, List.set_cons_succ]; rfl) (hCont (g1, g2, g3, g9) _ ⟨Ng1, Ng2, Ng3, Ng9, Dg1, Dg2, Dg3, E9, ⟨hHeld⟩⟩)
   ·skip
    refine box_step (by rfl) (N := 9) rfl (cs := #[.int .i64 0, .int .i64 0, .string (⟨#[]⟩ : ByteArray), .int .i64 0, .int .i64 0, .slice none 0 0]) (t := 24) ?hr ?_
    case hr => first | (go_simp; done) | (go_simp; rfl)
    intro g9 hg wx20 hC hb
    have hge := Nat.le_of_eq hg.symm; clear hg; have Dg1 := Aside0.mk (show g1 ≠ g9 from Nat.ne_of_lt (Nat.lt_of_lt_of_le (Array.getElem?_eq_some_iff.1 Ng1.out).1 hge))
    have E9 := Aside0.mk (show wR.heap.size ≤ g9 from Nat.le_trans (below_size hHeld) hge)
    have m_ := Aside0.mk (blk_keep hb Ng1.out); clear Ng1; have Ng1 := m_; clear m_
    have Ng9 := Aside0.mk hC; have hS := below_step hHeld hb; clear hb hC hge hHeld; refine hK.out _ _ hS (fun hHeld => ?_)
    clear hK K hS; refine norm_ (a' := ?z21a) ?z21h ?z21c
    case z21h => show Act.put _ (some 9) _ = _; simp only [Act.put, List.setIfInBounds_toArray, List.set_cons_zero, List.set_cons_succ, i64_w, i32_w]; rfl
    case z21c =>
    refine one_ (i := 3) (N := some 61) #[true, true, true, true, false, false, true, false] rfl rfl (by kernel_rfl) (by decide) (fun K hK => ?_)
    refine goes_ Tryd.func17 (by kernel_rfl) rfl #[.agg #[.int .i64 q.f0, .int .i64 q.f1, .string q.f2, .int .i64 q.f3, .int .i64 q.f4, .slice Aq q.f5.length cq]] (by rfl) rfl rfl (by (try simp only [List.map_toArray, List.map_cons, List.map_nil]); first | done | rfl) ?_
    refine (HNQ.out _ (below_step HBR.out hHeld)).mono ?_
    rintro e wx22 ⟨g2, rfl, hge, hC, hb⟩
    refine ⟨_, rfl, ?_⟩
    have Dg2 := Aside0.mk (show g2 ≠ g9 from Nat.ne_of_gt (Nat.lt_of_lt_of_le (Array.getElem?_eq_some_iff.1 Ng9.out).1 hge))
    have m_ := Aside0.mk (blk_keep hb Ng1.out); clear Ng1; have Ng1 := m_; clear m_
    have m_ := Aside0.mk (blk_keep hb Ng9.out); clear Ng9; have Ng9 := m_; clear m_
    have Ng2 := Aside0.mk hC; have hS := below_step hHeld hb; clear hb hC hge hHeld; refine hK.out _ _ hS (fun hHeld => ?_)
    clear hK K hS; refine norm_ (a' := ?z23a) ?z23h ?z23c
    case z23h => show Act.put _ (some 61) _ = _; simp only [Act.put, List.setIfInBounds_toArray, List.set_cons_zero, List.set_cons_succ, i64_w, i32_w]; rfl
    case z23c =>
    refine one_ (i := 4) (N := some 62) #[true, true, true, true, true, false, true, false] rfl rfl (by kernel_rfl) (by decide) (fun K hK => ?_)
    refine lit_step 24 (by rfl) [notS p, notS q] ([.int .i64 14, .int .i64 0, .string (⟨#[]⟩ : ByteArray), .int .i64 0, .int .i64 0, .slice (some ⟨g1, 0, none⟩) 1 1] ++ [.int .i64 14, .int .i64 0, .string (⟨#[]⟩ : ByteArray), .int .i64 0, .int .i64 0, .slice (some ⟨g2, 0, none⟩) 1 1]) ?hr ?_
    case hr => first | (go_simp; done) | (go_simp; rfl)
    intro g3 wx24 hge hC hb
    have Dg3 := Aside0.mk (show g3 ≠ g9 from Nat.ne_of_gt (Nat.lt_of_lt_of_le (Array.getElem?_eq_some_iff.1 Ng9.out).1 hge))
    have m_ := Aside0.mk (blk_keep hb Ng1.out); clear Ng1; have Ng1 := m_; clear m_
    have m_ := Aside0.mk (blk_keep hb Ng9.out); clear Ng9; have Ng9 := m_; clear m_
    have m_ := Aside0.mk (blk_keep hb Ng2.out); clear Ng2; have Ng2 := m_; clear m_
    have Ng3 := Aside0.mk hC; have hS := below_step hHeld hb; clear hb hC hge hHeld; refine hK.out _ _ hS (fun hHeld => ?_)
    clear hK K hS; refine norm_ (a' := ?z25a) ?z25h ?z25c
    case z25h => show Act.put _ (some 62) _ = _; simp only [Act.put, List.setIfInBounds_toArray, List.set_cons_zero, List.set_cons_succ, i64_w, i32_w]; rfl
    case z25c =>
    refine pure_ (i := 5) (N := some 63) (v := .agg #[.int .i64 13, .int .i64 0, .string (⟨#[]⟩ : ByteArray), .int .i64 0, .int .i64 0, .slice (some ⟨g3, 0, none⟩) 2 2]) (a' := ?z26a) #[true, true, true, true, true, true, true, false] rfl rfl (by kernel_rfl) (fun _ _ _ h => h) (Or.inl ⟨by rfl, fun w' => ?z26y⟩) ?z26h ?z26c
    case z26y => first | (go_simp; done) | (go_simp; rfl) | (go_simp; simp; done)
    case z26h => simp only [Act.put, List.setIfInBounds_toArray, List.set_cons_zero, List.set_cons_succ, i64_w, i32_w]; rfl
    case z26c =>
    exact norm_ (by simp only [putAll, Act.put, List.setIfInBounds_toArray, List.set_cons_zero, List.set_cons_succ]; rfl) (hCont (g1, g2, g3, g9) _ ⟨Ng1, Ng2, Ng3, Ng9, Dg1, Dg2, Dg3, E9, ⟨hHeld⟩⟩)
  ·skip
   refine box_step (by rfl) (N := 9) rfl (cs := #[.int .i64 0, .int .i64 0, .string (⟨#[]⟩ : ByteArray), .int .i64 0, .int .i64 0, .slice none 0 0]) (t := 24) ?hr ?_
   case hr => first | (go_simp; done) | (go_simp; rfl)
   intro g9 hg wx27 hC hb
   have hge := Nat.le_of_eq hg.symm; clear hg; have E9 := Aside0.mk (show wR.heap.size ≤ g9 from Nat.le_trans (below_size hHeld) hge)
   have Ng9 := Aside0.mk hC; have hS := below_step hHeld hb; clear hb hC hge hHeld; refine hK.out _ _ hS (fun hHeld => ?_)
   clear hK K hS; refine norm_ (a' := ?z28a) ?z28h ?z28c
   case z28h => show Act.put _ (some 9) _ = _; simp only [Act.put, List.setIfInBounds_toArray, List.set_cons_zero, List.set_cons_succ, i64_w, i32_w]; rfl
   case z28c =>
   refine one_ (i := 1) (N := some 59) #[true, true, true, false, false, false, true, false] rfl rfl (by kernel_rfl) (by decide) (fun K hK => ?_)
   refine goes_ Tryd.func17 (by kernel_rfl) rfl #[.agg #[.int .i64 p.f0, .int .i64 p.f1, .string p.f2, .int .i64 p.f3, .int .i64 p.f4, .slice Ap p.f5.length cp]] (by rfl) rfl rfl (by (try simp only [List.map_toArray, List.map_cons, List.map_nil]); first | done | rfl) ?_
   refine (HNP.out _ (below_step HBR.out hHeld)).mono ?_
   rintro e wx29 ⟨g1, rfl, hge, hC, hb⟩
   refine ⟨_, rfl, ?_⟩
   have Dg1 := Aside0.mk (show g1 ≠ g9 from Nat.ne_of_gt (Nat.lt_of_lt_of_le (Array.getElem?_eq_some_iff.1 Ng9.out).1 hge))
   have m_ := Aside0.mk (blk_keep hb Ng9.out); clear Ng9; have Ng9 := m_; clear m_
   have Ng1 := Aside0.mk hC; have hS := below_step hHeld hb; clear hb hC hge hHeld; refine hK.out _ _ hS (fun hHeld => ?_)
   clear hK K hS; refine norm_ (a' := ?z30a) ?z30h ?z30c
   case z30h => show Act.put _ (some 59) _ = _; simp only [Act.put, List.setIfInBounds_toArray, List.set_cons_zero, List.set_cons_succ, i64_w, i32_w]; rfl
   case z30c =>
   refine one_ (i := 3) (N := some 61) #[true, true, true, true, false, false, true, false] rfl rfl (by kernel_rfl) (by decide) (fun K hK => ?_)
   refine goes_ Tryd.func17 (by kernel_rfl) rfl #[.agg #[.int .i64 q.f0, .int .i64 q.f1, .string q.f2, .int .i64 q.f3, .int .i64 q.f4, .slice Aq q.f5.length cq]] (by rfl) rfl rfl (by (try simp only [List.map_toArray, List.map_cons, List.map_nil]); first | done | rfl) ?_
   refine (HNQ.out _ (below_step HBR.out hHeld)).mono ?_
   rintro e wx31 ⟨g2, rfl, hge, hC, hb⟩
   refine ⟨_, rfl, ?_⟩
   have Dg2 := Aside0.mk (show g2 ≠ g9 from Nat.ne_of_gt (Nat.lt_of_lt_of_le (Array.getElem?_eq_some_iff.1 Ng9.out).1 hge))
   have m_ := Aside0.mk (blk_keep hb Ng9.out); clear Ng9; have Ng9 := m_; clear m_
   have m_ := Aside0.mk (blk_keep hb Ng1.out); clear Ng1; have Ng1 := m_; clear m_
   have Ng2 := Aside0.mk hC; have hS := below_step hHeld hb; clear hb hC hge hHeld; refine hK.out _ _ hS (fun hHeld => ?_)
   clear hK K hS; refine norm_ (a' := ?z32a) ?z32h ?z32c
   case z32h => show Act.put _ (some 61) _ = _; simp only [Act.put, List.setIfInBounds_toArray, List.set_cons_zero, List.set_cons_succ, i64_w, i32_w]; rfl
   case z32c =>
   refine one_ (i := 4) (N := some 62) #[true, true, true, true, true, false, true, false] rfl rfl (by kernel_rfl) (by decide) (fun K hK => ?_)
   refine lit_step 24 (by rfl) [notS p, notS q] ([.int .i64 14, .int .i64 0, .string (⟨#[]⟩ : ByteArray), .int .i64 0, .int .i64 0, .slice (some ⟨g1, 0, none⟩) 1 1] ++ [.int .i64 14, .int .i64 0, .string (⟨#[]⟩ : ByteArray), .int .i64 0, .int .i64 0, .slice (some ⟨g2, 0, none⟩) 1 1]) ?hr ?_
   case hr => first | (go_simp; done) | (go_simp; rfl)
   intro g3 wx33 hge hC hb
   have Dg3 := Aside0.mk (show g3 ≠ g9 from Nat.ne_of_gt (Nat.lt_of_lt_of_le (Array.getElem?_eq_some_iff.1 Ng9.out).1 hge))
   have m_ := Aside0.mk (blk_keep hb Ng9.out); clear Ng9; have Ng9 := m_; clear m_
   have m_ := Aside0.mk (blk_keep hb Ng1.out); clear Ng1; have Ng1 := m_; clear m_
   have m_ := Aside0.mk (blk_keep hb Ng2.out); clear Ng2; have Ng2 := m_; clear m_
   have Ng3 := Aside0.mk hC; have hS := below_step hHeld hb; clear hb hC hge hHeld; refine hK.out _ _ hS (fun hHeld => ?_)
   clear hK K hS; refine norm_ (a' := ?z34a) ?z34h ?z34c
   case z34h => show Act.put _ (some 62) _ = _; simp only [Act.put, List.setIfInBounds_toArray, List.set_cons_zero, List.set_cons_succ, i64_w, i32_w]; rfl
   case z34c =>
   refine pure_ (i := 5) (N := some 63) (v := .agg #[.int .i64 13, .int .i64 0, .string (⟨#[]⟩ : ByteArray), .int .i64 0, .int .i64 0, .slice (some ⟨g3, 0, none⟩) 2 2]) (a' := ?z35a) #[true, true, true, true, true, true, true, false] rfl rfl (by kernel_rfl) (fun _ _ _ h => h) (Or.inl ⟨by rfl, fun w' => ?z35y⟩) ?z35h ?z35c
   case z35y => first | (go_simp; done) | (go_simp; rfl) | (go_simp; simp; done)
   case z35h => simp only [Act.put, List.setIfInBounds_toArray, List.set_cons_zero, List.set_cons_succ, i64_w, i32_w]; rfl
   case z35c =>
   exact norm_ (by simp only [putAll, Act.put, List.setIfInBounds_toArray, List.set_cons_zero, List.set_cons_succ]; rfl) (hCont (g1, g2, g3, g9) _ ⟨Ng1, Ng2, Ng3, Ng9, Dg1, Dg2, Dg3, E9, ⟨hHeld⟩⟩)
 rintro ⟨g1, g2, g3, g9⟩ wS ⟨N1, N2, N3, N9, D1, D2, D3, E9, HS⟩
 dsimp only at N1 N2 N3 N9 D1 D2 D3 E9 HS
 clear hHeld; have hHeld := HS.out; refine norm_ (a' := ?z36a) ?z36h ?z36c
 case z36h => simp only [putAll, Act.put, List.setIfInBounds_toArray, List.set_cons_zero, List.set_cons_succ]; rfl
 case z36c =>
 refine one_ (i := 7) (N := none) #[true, true, true, true, true, true, true, true] rfl rfl (by kernel_rfl) (by decide) (fun K hK => ?_)
 refine store_all_step (by rfl) (t := 24) (p := 9) rfl rfl (g := g9) (cs := #[.int .i64 13, .int .i64 0, .string (⟨#[]⟩ : ByteArray), .int .i64 0, .int .i64 0, .slice (some ⟨g3, 0, none⟩) 2 2]) (t' := 24) rfl rfl (fun W => HSZ.out W) N9.out rfl (by intro u hu; simp only [List.mem_cons, List.not_mem_nil, or_false] at hu; rcases hu with rfl | rfl | rfl | rfl | rfl | rfl <;> rfl) ?_
 intro wT hbx hoth hs3 hos htp hou
 have hST : Below wR.heap.size wR wT := ⟨hos.trans HS.out.os, htp.trans HS.out.tape, hou.trans HS.out.output, by rw [hs3]; exact HS.out.size, fun k_ hk_ => (hoth k_ (by have := E9.out; omega)).trans (HS.out.block k_ hk_)⟩
 have M1 := Aside0.mk ((hoth _ D1.out).trans N1.out)
 have M2 := Aside0.mk ((hoth _ D2.out).trans N2.out)
 have M3 := Aside0.mk ((hoth _ D3.out).trans N3.out)
 have B9 := Aside0.mk hbx; have BP := Aside0.mk (blk_keep hST BPR.out)
 have BQ := Aside0.mk (blk_keep hST BQR.out)
 have BA := Aside0.mk (blk_keep hST BAR.out)
 have HL := Aside0.mk (blk_keep hST HLR.out)
 have HB := Aside0.mk (below_step HBR.out hST)
 clear N1 N2 N3 N9 D1 D2 D3 E9 HS BPR BQR BAR HLR HBR hbx hoth hs3 hos htp hou hHeld; refine hK.out _ _ hST (fun hHeld => ?_)
 clear hK K hST; refine done_ (by kernel_rfl) ?_
 clear hHeld
 go_wp2_with (first
  | ((with_reducible refine gate_dst (N := 64) rfl ?_); refine load_all rfl rfl (cs := [.int .i64 p.f0, .int .i64 p.f1, .string p.f2, .int .i64 p.f3, .int .i64 p.f4, .slice Ap p.f5.length cp]) rfl HAGG.out (fun W => HSZ.out W) (blk_cells BP.out) ?_)
  | ((with_reducible refine gate_dst (N := 65) rfl ?_); refine load_all rfl rfl (cs := [.int .i64 p.f0, .int .i64 p.f1, .string p.f2, .int .i64 p.f3, .int .i64 p.f4, .slice Ap p.f5.length cp]) rfl HAGG.out (fun W => HSZ.out W) (blk_cells BP.out) ?_)
  | ((with_reducible refine gate_dst (N := 66) rfl ?_); refine lit_event 24 66 rfl rfl [p, p] ([.int .i64 p.f0, .int .i64 p.f1, .string p.f2, .int .i64 p.f3, .int .i64 p.f4, .slice Ap p.f5.length cp] ++ [.int .i64 p.f0, .int .i64 p.f1, .string p.f2, .int .i64 p.f3, .int .i64 p.f4, .slice Ap p.f5.length cp]) ?hr ?_; (case hr => first | (go_simp; done) | (go_simp; rfl)); intro gm wU hge hC hb; have m_ := Aside0.mk (blk_keep hb BP.out); clear BP; have BP := m_; clear m_; have m_ := Aside0.mk (blk_keep hb BQ.out); clear BQ; have BQ := m_; clear m_; have m_ := Aside0.mk (blk_keep hb BA.out); clear BA; have BA := m_; clear m_; have m_ := Aside0.mk (blk_keep hb HL.out); clear HL; have HL := m_; clear m_; have m_ := Aside0.mk (blk_keep hb M1.out); clear M1; have M1 := m_; clear m_; have m_ := Aside0.mk (blk_keep hb M2.out); clear M2; have M2 := m_; clear m_; have m_ := Aside0.mk (blk_keep hb M3.out); clear M3; have M3 := m_; clear m_; have m_ := Aside0.mk (blk_keep hb B9.out); clear B9; have B9 := m_; clear m_; have HX := Aside0.mk hC; have HBU := Aside0.mk (below_step HB.out hb); clear HB hb hC hge)
  | ((with_reducible refine gate_dst (N := 10) rfl ?_); refine box_event ?hg (N := 10) ?hd (cs := #[.int .i64 0, .int .i64 0, .string (⟨#[]⟩ : ByteArray), .int .i64 0, .int .i64 0, .slice none 0 0]) (t := 24) ?hr ?_; (case hd => rfl); (case hg => rfl); (case hr => first | (go_simp; done) | (go_simp; rfl)); intro gx hg wV hbox hb; have LTBP := Aside0.mk (show w.heap.size < gx from hg ▸ (Array.getElem?_eq_some_iff.1 BP.out).1); have LTBQ := Aside0.mk (show v1.heap.size < gx from hg ▸ (Array.getElem?_eq_some_iff.1 BQ.out).1); have LTBA := Aside0.mk (show ga < gx from hg ▸ (Array.getElem?_eq_some_iff.1 BA.out).1); have LTHL := Aside0.mk (show gl < gx from hg ▸ (Array.getElem?_eq_some_iff.1 HL.out).1); have LTM1 := Aside0.mk (show g1 < gx from hg ▸ (Array.getElem?_eq_some_iff.1 M1.out).1); have LTM2 := Aside0.mk (show g2 < gx from hg ▸ (Array.getElem?_eq_some_iff.1 M2.out).1); have LTM3 := Aside0.mk (show g3 < gx from hg ▸ (Array.getElem?_eq_some_iff.1 M3.out).1); have LTB9 := Aside0.mk (show g9 < gx from hg ▸ (Array.getElem?_eq_some_iff.1 B9.out).1); have LTHX := Aside0.mk (show gm < gx from hg ▸ (Array.getElem?_eq_some_iff.1 HX.out).1); have m_ := Aside0.mk (blk_keep hb BP.out); clear BP; have BP := m_; clear m_; have m_ := Aside0.mk (blk_keep hb BQ.out); clear BQ; have BQ := m_; clear m_; have m_ := Aside0.mk (blk_keep hb BA.out); clear BA; have BA := m_; clear m_; have m_ := Aside0.mk (blk_keep hb HL.out); clear HL; have HL := m_; clear m_; have m_ := Aside0.mk (blk_keep hb M1.out); clear M1; have M1 := m_; clear m_; have m_ := Aside0.mk (blk_keep hb M2.out); clear M2; have M2 := m_; clear m_; have m_ := Aside0.mk (blk_keep hb M3.out); clear M3; have M3 := m_; clear m_; have m_ := Aside0.mk (blk_keep hb B9.out); clear B9; have B9 := m_; clear m_; have m_ := Aside0.mk (blk_keep hb HX.out); clear HX; have HX := m_; clear m_; have BX1 := Aside0.mk hbox; have EX := Aside0.mk (show w.heap.size ≤ gx from by rw [hg]; exact below_size HBU.out); have HBV := Aside0.mk (below_step HBU.out hb); clear HBU hbox hb hg)
  | ((with_reducible refine gate_store (t := 24) (p := 10) rfl ?_); refine store_all (g := gx) (cs := #[.int .i64 13, .int .i64 0, .string (⟨#[]⟩ : ByteArray), .int .i64 0, .int .i64 0, .slice (some ⟨gm, 0, none⟩) 2 2]) (t' := 24) rfl rfl rfl rfl rfl (fun W => HSZ.out W) BX1.out rfl (by intro u hu; simp only [List.mem_cons, List.not_mem_nil, or_false] at hu; rcases hu with rfl | rfl | rfl | rfl | rfl | rfl <;> rfl) ?_; intro wW hbx hoth hs3 hos htp hou; have BX := Aside0.mk hbx; have m_ := Aside0.mk ((hoth _ (Nat.ne_of_lt LTBP.out)).trans BP.out); clear BP LTBP; have BP := m_; clear m_; have m_ := Aside0.mk ((hoth _ (Nat.ne_of_lt LTBQ.out)).trans BQ.out); clear BQ LTBQ; have BQ := m_; clear m_; have m_ := Aside0.mk ((hoth _ (Nat.ne_of_lt LTBA.out)).trans BA.out); clear BA LTBA; have BA := m_; clear m_; have m_ := Aside0.mk ((hoth _ (Nat.ne_of_lt LTHL.out)).trans HL.out); clear HL LTHL; have HL := m_; clear m_; have m_ := Aside0.mk ((hoth _ (Nat.ne_of_lt LTM1.out)).trans M1.out); clear M1 LTM1; have M1 := m_; clear m_; have m_ := Aside0.mk ((hoth _ (Nat.ne_of_lt LTM2.out)).trans M2.out); clear M2 LTM2; have M2 := m_; clear m_; have m_ := Aside0.mk ((hoth _ (Nat.ne_of_lt LTM3.out)).trans M3.out); clear M3 LTM3; have M3 := m_; clear m_; have m_ := Aside0.mk ((hoth _ (Nat.ne_of_lt LTB9.out)).trans B9.out); clear B9 LTB9; have B9 := m_; clear m_; have m_ := Aside0.mk ((hoth _ (Nat.ne_of_lt LTHX.out)).trans HX.out); clear HX LTHX; have HX := m_; clear m_; have HB := Aside0.mk (show Below w.heap.size w wW from ⟨hos.trans HBV.out.os, htp.trans HBV.out.tape, hou.trans HBV.out.output, by rw [hs3]; exact HBV.out.size, fun k_ hk_ => (hoth k_ (by have := EX.out; omega)).trans (HBV.out.block k_ hk_)⟩); clear hbx hoth hs3 hos htp hou HBV BX1 EX))
 have dBP := blk_drew BP.out; have dBQ := blk_drew BQ.out; have dBA := blk_drew BA.out; have dHL := blk_drew HL.out; have dM1 := blk_drew M1.out; have dM2 := blk_drew M2.out; have dM3 := blk_drew M3.out; have dB9 := blk_drew B9.out; have dHX := blk_drew HX.out; have dBX := blk_drew BX.out; have dHB := below_drew1 HB.out; clear HB BP BQ BA HL M1 M2 M3 B9 HX BX; refine start_ (n := 35) (S := fun w' => Below wW.drew.heap.size wW.drew w') (ds := []) #[false, false, false, false, false, false, false, false, false, false, false, false, false, false, false, false, false, false, false, false, false, false, false, false, false, false, false, false, false, false, false, false, false, false, false] (by kernel_rfl) rfl rfl (Below.refl _ _) (fun hHeld => ?_)
 generalize wW.drew = wR at dHB dBP dBQ dBA dHL dM1 dM2 dM3 dB9 dHX dBX hHeld ⊢
 have BPR := Aside0.mk dBP; have BQR := Aside0.mk dBQ; have BAR := Aside0.mk dBA; have HLR := Aside0.mk dHL; have M1R := Aside0.mk dM1; have M2R := Aside0.mk dM2; have M3R := Aside0.mk dM3; have B9R := Aside0.mk dB9; have HXR := Aside0.mk dHX; have BXR := Aside0.mk dBX; have HBR := Aside0.mk dHB; clear dHB dBP dBQ dBA dHL dM1 dM2 dM3 dB9 dHX dBX; obtain ⟨b_, hb1, hb2⟩ : ∃ b_ : Bool, (x == 2) = b_ ∧ (y5 == 2) = b_ := ⟨(x == 2), rfl, HRR.out.symm⟩
 have HB1 := Aside0.mk hb1; have HB2 := Aside0.mk hb2; clear hb1 hb2; refine take_ (i := 0) (N := some 68) (v := .agg #[.int .i64 p.f0, .int .i64 p.f1, .string p.f2, .int .i64 p.f3, .int .i64 p.f4, .slice Ap p.f5.length cp]) (a' := ?z37a) #[true, false, false, false, false, false, false, false, false, false, false, false, false, false, false, false, false, false, false, false, false, false, false, false, false, false, false, false, false, false, false, false, false, false, false] rfl rfl (by kernel_rfl) (fun _ _ _ h => h) (Or.inl ⟨by rfl, fun w' hs => load_run6 rfl (cs := [.int .i64 p.f0, .int .i64 p.f1, .string p.f2, .int .i64 p.f3, .int .i64 p.f4, .slice Ap p.f5.length cp]) rfl rfl (blk_keep hs BPR.out)⟩) hHeld ?z37h ?z37c
 case z37h => simp only [Act.put, List.setIfInBounds_toArray, List.set_cons_zero, List.set_cons_succ, i64_w, i32_w]; rfl
 case z37c =>
 refine pure_ (i := 3) (N := some 71) (v := .slice Ar row.length cr) (a' := ?z38a) #[true, false, false, true, false, false, false, false, false, false, false, false, false, false, false, false, false, false, false, false, false, false, false, false, false, false, false, false, false, false, false, false, false, false, false] rfl rfl (by kernel_rfl) (fun _ _ _ h => h) (Or.inl ⟨by rfl, fun w' => ?z38y⟩) ?z38h ?z38c
 case z38y => first | (go_simp; done) | (go_simp; rfl) | (go_simp; simp; done)
 case z38h => simp only [Act.put, List.setIfInBounds_toArray, List.set_cons_zero, List.set_cons_succ, i64_w, i32_w]; rfl
 case z38c =>
 refine pure_ (i := 5) (N := some 73) (v := .int .i64 x) (a' := ?z39a) #[true, false, false, true, false, true, false, false, false, false, false, false, false, false, false, false, false, false, false, false, false, false, false, false, false, false, false, false, false, false, false, false, false, false, false] rfl rfl (by kernel_rfl) (fun _ _ _ h => h) (Or.inl ⟨by rfl, fun w' => ?z39y⟩) ?z39h ?z39c
 case z39y => first | (go_simp; done) | (go_simp; rfl) | (go_simp; simp; done)
 case z39h => simp only [Act.put, List.setIfInBounds_toArray, List.set_cons_zero, List.set_cons_succ, i64_w, i32_w]; rfl
 case z39c =>
 refine one_ (i := 1) (N := some 69) #[true, true, false, true, false, true, false, false, false, false, false, false, false, false, false, false, false, false, false, false, false, false, false, false, false, false, false, false, false, false, false, false, false, false, false] rfl rfl (by kernel_rfl) (by decide) (fun K hK => ?_)
 refine goes_ Tryd.func17 (by kernel_rfl) rfl #[.agg #[.int .i64 p.f0, .int .i64 p.f1, .string p.f2, .int .i64 p.f3, .int .i64 p.f4, .slice Ap p.f5.length cp]] (by rfl) rfl rfl (by (try simp only [List.map_toArray, List.map_cons, List.map_nil]); first | done | rfl) ?_
 refine (HNP.out _ (below_step HBR.out hHeld)).mono ?_
 rintro e wC ⟨ga1, rfl, hge, hC, hb⟩
 refine ⟨_, rfl, ?_⟩
 have N69 := Aside0.mk hC; clear hC hge; have hS := below_step hHeld hb; clear hb hHeld; refine hK.out _ _ hS (fun hHeld => ?_)
 clear hK K hS; refine norm_ (a' := ?z40a) ?z40h ?z40c
 case z40h => show Act.put _ (some 69) _ = _; simp only [Act.put, List.setIfInBounds_toArray, List.set_cons_zero, List.set_cons_succ, i64_w, i32_w]; rfl
 case z40c =>
 refine one_ (i := 2) (N := some 70) #[true, true, true, true, false, true, false, false, false, false, false, false, false, false, false, false, false, false, false, false, false, false, false, false, false, false, false, false, false, false, false, false, false, false, false] rfl rfl (by kernel_rfl) (by decide) (fun K hK => ?_)
 refine goes_ Tryd.func17 (by kernel_rfl) rfl #[.agg #[.int .i64 14, .int .i64 0, .string (⟨#[]⟩ : ByteArray), .int .i64 0, .int .i64 0, .slice (some ⟨ga1, 0, none⟩) 1 1]] (by rfl) rfl rfl (by (try simp only [List.map_toArray, List.map_cons, List.map_nil]); first | done | rfl) ?_
 refine (HNN.out 14 ga1 1 [p] _ rfl (C_one N69.out (HKP.out _ (below_step HBR.out hHeld)))).mono ?_
 rintro e wC ⟨ga2, rfl, hge, hC, hb⟩
 refine ⟨_, rfl, ?_⟩
 have N70 := Aside0.mk hC; have m_ := Aside0.mk (blk_keep hb N69.out)
 clear N69; have N69 := m_; clear m_ hC hge; have hS := below_step hHeld hb; clear hb hHeld; refine hK.out _ _ hS (fun hHeld => ?_)
 clear hK K hS; refine norm_ (a' := ?z41a) ?z41h ?z41c
 case z41h => show Act.put _ (some 70) _ = _; simp only [Act.put, List.setIfInBounds_toArray, List.set_cons_zero, List.set_cons_succ, i64_w, i32_w]; rfl
 case z41c =>
 refine one_ (i := 4) (N := some 72) #[true, true, true, true, true, true, false, false, false, false, false, false, false, false, false, false, false, false, false, false, false, false, false, false, false, false, false, false, false, false, false, false, false, false, false] rfl rfl (by kernel_rfl) (by decide) (fun K hK => ?_)
 refine goes_ Tryd.func16 (by kernel_rfl) rfl #[.agg #[.int .i64 14, .int .i64 0, .string (⟨#[]⟩ : ByteArray), .int .i64 0, .int .i64 0, .slice (some ⟨ga2, 0, none⟩) 1 1], .slice Ar row.length cr] (by rfl) rfl rfl (by (try simp only [List.map_toArray, List.map_cons, List.map_nil]); first | done | rfl) ?_
 refine (HSY.out 0 14 ga2 1 [notS p] x _ (below_step HBR.out hHeld) rfl (C_one N70.out (K_not N69.out (HKP.out _ (below_step HBR.out hHeld)))) HY.out.1).mono ?_
 rintro e wC ⟨rfl, hb⟩
 refine ⟨_, rfl, ?_⟩
 clear N69 N70; have hS := below_step hHeld hb; clear hb hHeld; refine hK.out _ _ hS (fun hHeld => ?_)
 clear hK K hS; refine norm_ (a' := ?z42a) ?z42h ?z42c
 case z42h => show Act.put _ (some 72) _ = _; simp only [Act.put, List.setIfInBounds_toArray, List.set_cons_zero, List.set_cons_succ, i64_w, i32_w]; rfl
 case z42c =>
 refine pure_ (i := 6) (N := some 74) (v := .bool true) (a' := ?z43a) #[true, true, true, true, true, true, true, false, false, false, false, false, false, false, false, false, false, false, false, false, false, false, false, false, false, false, false, false, false, false, false, false, false, false, false] rfl rfl (by kernel_rfl) (fun _ _ _ h => h) (Or.inl ⟨by rfl, fun w' => ?z43y⟩) ?z43h ?z43c
 case z43y => first | (go_simp; done) | (go_simp; rfl) | (go_simp; simp; done)
 case z43h => simp only [Act.put, List.setIfInBounds_toArray, List.set_cons_zero, List.set_cons_succ, i64_w, i32_w]; rfl
 case z43c =>
 refine pure_ (i := 7) (N := some 75) (v := .bool true) (a' := ?z44a) #[true, true, true, true, true, true, true, true, false, false, false, false, false, false, false, false, false, false, false, false, false, false, false, false, false, false, false, false, false, false, false, false, false, false, false] rfl rfl (by kernel_rfl) (fun _ _ _ h => h) (Or.inl ⟨by rfl, fun w' => ?z44y⟩) ?z44h ?z44c
 case z44y => first | (go_simp; done) | (go_simp; rfl) | (go_simp; simp; done)
 case z44h => simp only [Act.put, List.setIfInBounds_toArray, List.set_cons_zero, List.set_cons_succ, i64_w, i32_w]; rfl
 case z44c =>
 refine take_ (i := 8) (N := some 76) (v := .agg #[.int .i64 13, .int .i64 0, .string (⟨#[]⟩ : ByteArray), .int .i64 0, .int .i64 0, .slice (some ⟨gm, 0, none⟩) 2 2]) (a' := ?z45a) #[true, true, true, true, true, true, true, true, true, false, false, false, false, false, false, false, false, false, false, false, false, false, false, false, false, false, false, false, false, false, false, false, false, false, false] rfl rfl (by kernel_rfl) (fun _ _ _ h => h) (Or.inl ⟨by rfl, fun w' hs => load_run6 rfl (cs := [.int .i64 13, .int .i64 0, .string (⟨#[]⟩ : ByteArray), .int .i64 0, .int .i64 0, .slice (some ⟨gm, 0, none⟩) 2 2]) rfl rfl (blk_keep hs BXR.out)⟩) hHeld ?z45h ?z45c
 case z45h => simp only [Act.put, List.setIfInBounds_toArray, List.set_cons_zero, List.set_cons_succ, i64_w, i32_w]; rfl
 case z45c =>
 refine pure_ (i := 9) (N := some 77) (v := .slice Ar row.length cr) (a' := ?z46a) #[true, true, true, true, true, true, true, true, true, true, false, false, false, false, false, false, false, false, false, false, false, false, false, false, false, false, false, false, false, false, false, false, false, false, false] rfl rfl (by kernel_rfl) (fun _ _ _ h => h) (Or.inl ⟨by rfl, fun w' => ?z46y⟩) ?z46h ?z46c
 case z46y => first | (go_simp; done) | (go_simp; rfl) | (go_simp; simp; done)
 case z46h => simp only [Act.put, List.setIfInBounds_toArray, List.set_cons_zero, List.set_cons_succ, i64_w, i32_w]; rfl
 case z46c =>
 refine pure_ (i := 11) (N := some 79) (v := .int .i64 x) (a' := ?z47a) #[true, true, true, true, true, true, true, true, true, true, false, true, false, false, false, false, false, false, false, false, false, false, false, false, false, false, false, false, false, false, false, false, false, false, false] rfl rfl (by kernel_rfl) (fun _ _ _ h => h) (Or.inl ⟨by rfl, fun w' => ?z47y⟩) ?z47h ?z47c
 case z47y => first | (go_simp; done) | (go_simp; rfl) | (go_simp; simp; done)
 case z47h => simp only [Act.put, List.setIfInBounds_toArray, List.set_cons_zero, List.set_cons_succ, i64_w, i32_w]; rfl
 case z47c =>
 refine one_ (i := 10) (N := some 78) #[true, true, true, true, true, true, true, true, true, true, true, true, false, false, false, false, false, false, false, false, false, false, false, false, false, false, false, false, false, false, false, false, false, false, false] rfl rfl (by kernel_rfl) (by decide) (fun K hK => ?_)
 refine goes_ Tryd.func16 (by kernel_rfl) rfl #[.agg #[.int .i64 13, .int .i64 0, .string (⟨#[]⟩ : ByteArray), .int .i64 0, .int .i64 0, .slice (some ⟨gm, 0, none⟩) 2 2], .slice Ar row.length cr] (by rfl) rfl rfl (by (try simp only [List.map_toArray, List.map_cons, List.map_nil]); first | done | rfl) ?_
 refine (HSY.out 0 13 gm 2 [p, p] x _ (below_step HBR.out hHeld) rfl (C_two (blk_keep hHeld HXR.out) (HKP.out _ (below_step HBR.out hHeld)) (HKP.out _ (below_step HBR.out hHeld))) HY.out.2.1).mono ?_
 rintro e wC ⟨rfl, hb⟩
 refine ⟨_, rfl, ?_⟩
 have hS := below_step hHeld hb; clear hb hHeld; refine hK.out _ _ hS (fun hHeld => ?_)
 clear hK K hS; refine norm_ (a' := ?z48a) ?z48h ?z48c
 case z48h => show Act.put _ (some 78) _ = _; simp only [Act.put, List.setIfInBounds_toArray, List.set_cons_zero, List.set_cons_succ, i64_w, i32_w]; rfl
 case z48c =>
 refine pure_ (i := 12) (N := some 80) (v := .bool true) (a' := ?z49a) #[true, true, true, true, true, true, true, true, true, true, true, true, true, false, false, false, false, false, false, false, false, false, false, false, false, false, false, false, false, false, false, false, false, false, false] rfl rfl (by kernel_rfl) (fun _ _ _ h => h) (Or.inl ⟨by rfl, fun w' => ?z49y⟩) ?z49h ?z49c
 case z49y => first | (go_simp; done) | (go_simp; rfl) | (go_simp; simp; done)
 case z49h => simp only [Act.put, List.setIfInBounds_toArray, List.set_cons_zero, List.set_cons_succ, i64_w, i32_w]; rfl
 case z49c =>
 refine pure_ (i := 13) (N := some 81) (v := .bool true) (a' := ?z50a) #[true, true, true, true, true, true, true, true, true, true, true, true, true, true, false, false, false, false, false, false, false, false, false, false, false, false, false, false, false, false, false, false, false, false, false] rfl rfl (by kernel_rfl) (fun _ _ _ h => h) (Or.inl ⟨by rfl, fun w' => ?z50y⟩) ?z50h ?z50c
 case z50y => first | (go_simp; done) | (go_simp; rfl) | (go_simp; simp; done)
 case z50h => simp only [Act.put, List.setIfInBounds_toArray, List.set_cons_zero, List.set_cons_succ, i64_w, i32_w]; rfl
 case z50c =>
 refine pure_ (i := 14) (N := some 82) (v := .bool true) (a' := ?z51a) #[true, true, true, true, true, true, true, true, true, true, true, true, true, true, true, false, false, false, false, false, false, false, false, false, false, false, false, false, false, false, false, false, false, false, false] rfl rfl (by kernel_rfl) (fun _ _ _ h => h) (Or.inl ⟨by rfl, fun w' => ?z51y⟩) ?z51h ?z51c
 case z51y => first | (go_simp; done) | (go_simp; rfl) | (go_simp; simp; done)
 case z51h => simp only [Act.put, List.setIfInBounds_toArray, List.set_cons_zero, List.set_cons_succ, i64_w, i32_w]; rfl
 case z51c =>
 refine take_ (i := 15) (N := some 83) (v := .agg #[.int .i64 12, .int .i64 0, .string (⟨#[]⟩ : ByteArray), .int .i64 0, .int .i64 0, .slice (some ⟨gl, 0, none⟩) 2 2]) (a' := ?z52a) #[true, true, true, true, true, true, true, true, true, true, true, true, true, true, true, true, false, false, false, false, false, false, false, false, false, false, false, false, false, false, false, false, false, false, false] rfl rfl (by kernel_rfl) (fun _ _ _ h => h) (Or.inl ⟨by rfl, fun w' hs => load_run6 rfl (cs := [.int .i64 12, .int .i64 0, .string (⟨#[]⟩ : ByteArray), .int .i64 0, .int .i64 0, .slice (some ⟨gl, 0, none⟩) 2 2]) rfl rfl (blk_keep hs BAR.out)⟩) hHeld ?z52h ?z52c
 case z52h => simp only [Act.put, List.setIfInBounds_toArray, List.set_cons_zero, List.set_cons_succ, i64_w, i32_w]; rfl
 case z52c =>
 refine pure_ (i := 17) (N := some 85) (v := .slice Ar row.length cr) (a' := ?z53a) #[true, true, true, true, true, true, true, true, true, true, true, true, true, true, true, true, false, true, false, false, false, false, false, false, false, false, false, false, false, false, false, false, false, false, false] rfl rfl (by kernel_rfl) (fun _ _ _ h => h) (Or.inl ⟨by rfl, fun w' => ?z53y⟩) ?z53h ?z53c
 case z53y => first | (go_simp; done) | (go_simp; rfl) | (go_simp; simp; done)
 case z53h => simp only [Act.put, List.setIfInBounds_toArray, List.set_cons_zero, List.set_cons_succ, i64_w, i32_w]; rfl
 case z53c =>
 refine take_ (i := 19) (N := some 87) (v := .agg #[.int .i64 13, .int .i64 0, .string (⟨#[]⟩ : ByteArray), .int .i64 0, .int .i64 0, .slice (some ⟨g3, 0, none⟩) 2 2]) (a' := ?z54a) #[true, true, true, true, true, true, true, true, true, true, true, true, true, true, true, true, false, true, false, true, false, false, false, false, false, false, false, false, false, false, false, false, false, false, false] rfl rfl (by kernel_rfl) (fun _ _ _ h => h) (Or.inl ⟨by rfl, fun w' hs => load_run6 rfl (cs := [.int .i64 13, .int .i64 0, .string (⟨#[]⟩ : ByteArray), .int .i64 0, .int .i64 0, .slice (some ⟨g3, 0, none⟩) 2 2]) rfl rfl (blk_keep hs B9R.out)⟩) hHeld ?z54h ?z54c
 case z54h => simp only [Act.put, List.setIfInBounds_toArray, List.set_cons_zero, List.set_cons_succ, i64_w, i32_w]; rfl
 case z54c =>
 refine pure_ (i := 20) (N := some 88) (v := .slice Ar row.length cr) (a' := ?z55a) #[true, true, true, true, true, true, true, true, true, true, true, true, true, true, true, true, false, true, false, true, true, false, false, false, false, false, false, false, false, false, false, false, false, false, false] rfl rfl (by kernel_rfl) (fun _ _ _ h => h) (Or.inl ⟨by rfl, fun w' => ?z55y⟩) ?z55h ?z55c
 case z55y => first | (go_simp; done) | (go_simp; rfl) | (go_simp; simp; done)
 case z55h => simp only [Act.put, List.setIfInBounds_toArray, List.set_cons_zero, List.set_cons_succ, i64_w, i32_w]; rfl
 case z55c =>
 refine one_ (i := 16) (N := some 84) #[true, true, true, true, true, true, true, true, true, true, true, true, true, true, true, true, true, true, false, true, true, false, false, false, false, false, false, false, false, false, false, false, false, false, false] rfl rfl (by kernel_rfl) (by decide) (fun K hK => ?_)
 refine goes_ Tryd.func17 (by kernel_rfl) rfl #[.agg #[.int .i64 12, .int .i64 0, .string (⟨#[]⟩ : ByteArray), .int .i64 0, .int .i64 0, .slice (some ⟨gl, 0, none⟩) 2 2]] (by rfl) rfl rfl (by (try simp only [List.map_toArray, List.map_cons, List.map_nil]); first | done | rfl) ?_
 refine (HNN.out 12 gl 2 [p, q] _ rfl (C_two (blk_keep hHeld HLR.out) (HKP.out _ (below_step HBR.out hHeld)) (HKQ.out _ (below_step HBR.out hHeld)))).mono ?_
 rintro e wC ⟨gb1, rfl, hge, hC, hb⟩
 refine ⟨_, rfl, ?_⟩
 have N84 := Aside0.mk hC; clear hC hge; have hS := below_step hHeld hb; clear hb hHeld; refine hK.out _ _ hS (fun hHeld => ?_)
 clear hK K hS; refine norm_ (a' := ?z56a) ?z56h ?z56c
 case z56h => show Act.put _ (some 84) _ = _; simp only [Act.put, List.setIfInBounds_toArray, List.set_cons_zero, List.set_cons_succ, i64_w, i32_w]; rfl
 case z56c =>
 refine one_ (i := 18) (N := some 86) #[true, true, true, true, true, true, true, true, true, true, true, true, true, true, true, true, true, true, true, true, true, false, false, false, false, false, false, false, false, false, false, false, false, false, false] rfl rfl (by kernel_rfl) (by decide) (fun K hK => ?_)
 refine goes_ Tryd.func16 (by kernel_rfl) rfl #[.agg #[.int .i64 14, .int .i64 0, .string (⟨#[]⟩ : ByteArray), .int .i64 0, .int .i64 0, .slice (some ⟨gb1, 0, none⟩) 1 1], .slice Ar row.length cr] (by rfl) rfl rfl (by (try simp only [List.map_toArray, List.map_cons, List.map_nil]); first | done | rfl) ?_
 refine (HSY.out 0 14 gb1 1 [twoS 12 p q] y3 _ (below_step HBR.out hHeld) rfl (C_one N84.out (K_two (blk_keep hHeld HLR.out) (HKP.out _ (below_step HBR.out hHeld)) (HKQ.out _ (below_step HBR.out hHeld)))) HY.out.2.2.1).mono ?_
 rintro e wC ⟨rfl, hb⟩
 refine ⟨_, rfl, ?_⟩
 clear N84; have hS := below_step hHeld hb; clear hb hHeld; refine hK.out _ _ hS (fun hHeld => ?_)
 clear hK K hS; refine norm_ (a' := ?z57a) ?z57h ?z57c
 case z57h => show Act.put _ (some 86) _ = _; simp only [Act.put, List.setIfInBounds_toArray, List.set_cons_zero, List.set_cons_succ, i64_w, i32_w]; rfl
 case z57c =>
 refine one_ (i := 21) (N := some 89) #[true, true, true, true, true, true, true, true, true, true, true, true, true, true, true, true, true, true, true, true, true, true, false, false, false, false, false, false, false, false, false, false, false, false, false] rfl rfl (by kernel_rfl) (by decide) (fun K hK => ?_)
 refine goes_ Tryd.func16 (by kernel_rfl) rfl #[.agg #[.int .i64 13, .int .i64 0, .string (⟨#[]⟩ : ByteArray), .int .i64 0, .int .i64 0, .slice (some ⟨g3, 0, none⟩) 2 2], .slice Ar row.length cr] (by rfl) rfl rfl (by (try simp only [List.map_toArray, List.map_cons, List.map_nil]); first | done | rfl) ?_
 refine (HSY.out 0 13 g3 2 [notS p, notS q] y3 _ (below_step HBR.out hHeld) rfl (C_two (blk_keep hHeld M3R.out) (K_not (blk_keep hHeld M1R.out) (HKP.out _ (below_step HBR.out hHeld))) (K_not (blk_keep hHeld M2R.out) (HKQ.out _ (below_step HBR.out hHeld)))) HY.out.2.2.2.1).mono ?_
 rintro e wC ⟨rfl, hb⟩
 refine ⟨_, rfl, ?_⟩
 have hS := below_step hHeld hb; clear hb hHeld; refine hK.out _ _ hS (fun hHeld => ?_)
 clear hK K hS; refine norm_ (a' := ?z58a) ?z58h ?z58c
 case z58h => show Act.put _ (some 89) _ = _; simp only [Act.put, List.setIfInBounds_toArray, List.set_cons_zero, List.set_cons_succ, i64_w, i32_w]; rfl
 case z58c =>
 refine pure_ (i := 22) (N := some 90) (v := .bool true) (a' := ?z59a) #[true, true, true, true, true, true, true, true, true, true, true, true, true, true, true, true, true, true, true, true, true, true, true, false, false, false, false, false, false, false, false, false, false, false, false] rfl rfl (by kernel_rfl) (fun _ _ _ h => h) (Or.inl ⟨by rfl, fun w' => ?z59y⟩) ?z59h ?z59c
 case z59y => first | (go_simp; done) | (go_simp; rfl) | (go_simp; simp; done)
 case z59h => simp only [Act.put, List.setIfInBounds_toArray, List.set_cons_zero, List.set_cons_succ, i64_w, i32_w]; rfl
 case z59c =>
 refine pure_ (i := 23) (N := some 91) (v := .bool true) (a' := ?z60a) #[true, true, true, true, true, true, true, true, true, true, true, true, true, true, true, true, true, true, true, true, true, true, true, true, false, false, false, false, false, false, false, false, false, false, false] rfl rfl (by kernel_rfl) (fun _ _ _ h => h) (Or.inl ⟨by rfl, fun w' => ?z60y⟩) ?z60h ?z60c
 case z60y => first | (go_simp; done) | (go_simp; rfl) | (go_simp; simp; done)
 case z60h => simp only [Act.put, List.setIfInBounds_toArray, List.set_cons_zero, List.set_cons_succ, i64_w, i32_w]; rfl
 case z60c =>
 refine pure_ (i := 24) (N := some 92) (v := .bool true) (a' := ?z61a) #[true, true, true, true, true, true, true, true, true, true, true, true, true, true, true, true, true, true, true, true, true, true, true, true, true, false, false, false, false, false, false, false, false, false, false] rfl rfl (by kernel_rfl) (fun _ _ _ h => h) (Or.inl ⟨by rfl, fun w' => ?z61y⟩) ?z61h ?z61c
 case z61y => first | (go_simp; done) | (go_simp; rfl) | (go_simp; simp; done)
 case z61h => simp only [Act.put, List.setIfInBounds_toArray, List.set_cons_zero, List.set_cons_succ, i64_w, i32_w]; rfl
 case z61c =>
 refine pure_ (i := 25) (N := some 93) (v := .int .i64 x) (a' := ?z62a) #[true, true, true, true, true, true, true, true, true, true, true, true, true, true, true, true, true, true, true, true, true, true, true, true, true, true, false, false, false, false, false, false, false, false, false] rfl rfl (by kernel_rfl) (fun _ _ _ h => h) (Or.inl ⟨by rfl, fun w' => ?z62y⟩) ?z62h ?z62c
 case z62y => first | (go_simp; done) | (go_simp; rfl) | (go_simp; simp; done)
 case z62h => simp only [Act.put, List.setIfInBounds_toArray, List.set_cons_zero, List.set_cons_succ, i64_w, i32_w]; rfl
 case z62c =>
 refine pure_ (i := 26) (N := some 94) (v := .bool b_) (a' := ?z63a) #[true, true, true, true, true, true, true, true, true, true, true, true, true, true, true, true, true, true, true, true, true, true, true, true, true, true, true, false, false, false, false, false, false, false, false] rfl rfl (by kernel_rfl) (fun _ _ _ h => h) (Or.inl ⟨by rfl, fun w' => ?z63y⟩) ?z63h ?z63c
 case z63y => first | (go_simp; done) | (go_simp; rfl) | (go_simp; simp [HB1.out]; done) | (go_simp; exact HB1.out)
 case z63h => simp only [Act.put, List.setIfInBounds_toArray, List.set_cons_zero, List.set_cons_succ, i64_w, i32_w]; rfl
 case z63c =>
 refine take_ (i := 27) (N := some 95) (v := .agg #[.int .i64 p.f0, .int .i64 p.f1, .string p.f2, .int .i64 p.f3, .int .i64 p.f4, .slice Ap p.f5.length cp]) (a' := ?z64a) #[true, true, true, true, true, true, true, true, true, true, true, true, true, true, true, true, true, true, true, true, true, true, true, true, true, true, true, true, false, false, false, false, false, false, false] rfl rfl (by kernel_rfl) (fun _ _ _ h => h) (Or.inl ⟨by rfl, fun w' hs => load_run6 rfl (cs := [.int .i64 p.f0, .int .i64 p.f1, .string p.f2, .int .i64 p.f3, .int .i64 p.f4, .slice Ap p.f5.length cp]) rfl rfl (blk_keep hs BPR.out)⟩) hHeld ?z64h ?z64c
 case z64h => simp only [Act.put, List.setIfInBounds_toArray, List.set_cons_zero, List.set_cons_succ, i64_w, i32_w]; rfl
 case z64c =>
 refine pure_ (i := 29) (N := some 97) (v := .slice Ar row.length cr) (a' := ?z65a) #[true, true, true, true, true, true, true, true, true, true, true, true, true, true, true, true, true, true, true, true, true, true, true, true, true, true, true, true, false, true, false, false, false, false, false] rfl rfl (by kernel_rfl) (fun _ _ _ h => h) (Or.inl ⟨by rfl, fun w' => ?z65y⟩) ?z65h ?z65c
 case z65y => first | (go_simp; done) | (go_simp; rfl) | (go_simp; simp; done)
 case z65h => simp only [Act.put, List.setIfInBounds_toArray, List.set_cons_zero, List.set_cons_succ, i64_w, i32_w]; rfl
 case z65c =>
 refine one_ (i := 28) (N := some 96) #[true, true, true, true, true, true, true, true, true, true, true, true, true, true, true, true, true, true, true, true, true, true, true, true, true, true, true, true, true, true, false, false, false, false, false] rfl rfl (by kernel_rfl) (by decide) (fun K hK => ?_)
 refine goes_ Tryd.func17 (by kernel_rfl) rfl #[.agg #[.int .i64 p.f0, .int .i64 p.f1, .string p.f2, .int .i64 p.f3, .int .i64 p.f4, .slice Ap p.f5.length cp]] (by rfl) rfl rfl (by (try simp only [List.map_toArray, List.map_cons, List.map_nil]); first | done | rfl) ?_
 refine (HNP.out _ (below_step HBR.out hHeld)).mono ?_
 rintro e wC ⟨gc1, rfl, hge, hC, hb⟩
 refine ⟨_, rfl, ?_⟩
 have N96 := Aside0.mk hC; clear hC hge; have hS := below_step hHeld hb; clear hb hHeld; refine hK.out _ _ hS (fun hHeld => ?_)
 clear hK K hS; refine norm_ (a' := ?z66a) ?z66h ?z66c
 case z66h => show Act.put _ (some 96) _ = _; simp only [Act.put, List.setIfInBounds_toArray, List.set_cons_zero, List.set_cons_succ, i64_w, i32_w]; rfl
 case z66c =>
 refine one_ (i := 30) (N := some 98) #[true, true, true, true, true, true, true, true, true, true, true, true, true, true, true, true, true, true, true, true, true, true, true, true, true, true, true, true, true, true, true, false, false, false, false] rfl rfl (by kernel_rfl) (by decide) (fun K hK => ?_)
 refine goes_ Tryd.func16 (by kernel_rfl) rfl #[.agg #[.int .i64 14, .int .i64 0, .string (⟨#[]⟩ : ByteArray), .int .i64 0, .int .i64 0, .slice (some ⟨gc1, 0, none⟩) 1 1], .slice Ar row.length cr] (by rfl) rfl rfl (by (try simp only [List.map_toArray, List.map_cons, List.map_nil]); first | done | rfl) ?_
 refine (HSY.out 0 14 gc1 1 [p] y5 _ (below_step HBR.out hHeld) rfl (C_one N96.out (HKP.out _ (below_step HBR.out hHeld))) HY.out.2.2.2.2).mono ?_
 rintro e wC ⟨rfl, hb⟩
 refine ⟨_, rfl, ?_⟩
 clear N96; have hS := below_step hHeld hb; clear hb hHeld; refine hK.out _ _ hS (fun hHeld => ?_)
 clear hK K hS; refine norm_ (a' := ?z67a) ?z67h ?z67c
 case z67h => show Act.put _ (some 98) _ = _; simp only [Act.put, List.setIfInBounds_toArray, List.set_cons_zero, List.set_cons_succ, i64_w, i32_w]; rfl
 case z67c =>
 refine pure_ (i := 31) (N := some 99) (v := .bool b_) (a' := ?z68a) #[true, true, true, true, true, true, true, true, true, true, true, true, true, true, true, true, true, true, true, true, true, true, true, true, true, true, true, true, true, true, true, true, false, false, false] rfl rfl (by kernel_rfl) (fun _ _ _ h => h) (Or.inl ⟨by rfl, fun w' => ?z68y⟩) ?z68h ?z68c
 case z68y => first | (go_simp; done) | (go_simp; rfl) | (go_simp; simp [HB2.out]; done) | (go_simp; exact HB2.out)
 case z68h => simp only [Act.put, List.setIfInBounds_toArray, List.set_cons_zero, List.set_cons_succ, i64_w, i32_w]; rfl
 case z68c =>
 refine pure_ (i := 32) (N := some 100) (v := .bool true) (a' := ?z69a) #[true, true, true, true, true, true, true, true, true, true, true, true, true, true, true, true, true, true, true, true, true, true, true, true, true, true, true, true, true, true, true, true, true, false, false] rfl rfl (by kernel_rfl) (fun _ _ _ h => h) (Or.inl ⟨by rfl, fun w' => ?z69y⟩) ?z69h ?z69c
 case z69y => first | (go_simp; done) | (go_simp; rfl) | (go_simp; simp; done)
 case z69h => simp only [Act.put, List.setIfInBounds_toArray, List.set_cons_zero, List.set_cons_succ, i64_w, i32_w]; rfl
 case z69c =>
 refine pure_ (i := 33) (N := some 101) (v := .bool true) (a' := ?z70a) #[true, true, true, true, true, true, true, true, true, true, true, true, true, true, true, true, true, true, true, true, true, true, true, true, true, true, true, true, true, true, true, true, true, true, false] rfl rfl (by kernel_rfl) (fun _ _ _ h => h) (Or.inl ⟨by rfl, fun w' => ?z70y⟩) ?z70h ?z70c
 case z70y => first | (go_simp; done) | (go_simp; rfl) | (go_simp; simp; done)
 case z70h => simp only [Act.put, List.setIfInBounds_toArray, List.set_cons_zero, List.set_cons_succ, i64_w, i32_w]; rfl
 case z70c =>
 refine pure_ (i := 34) (N := some 6) (v := .bool true) (a' := ?z71a) #[true, true, true, true, true, true, true, true, true, true, true, true, true, true, true, true, true, true, true, true, true, true, true, true, true, true, true, true, true, true, true, true, true, true, true] rfl rfl (by kernel_rfl) (fun _ _ _ h => h) (Or.inl ⟨by rfl, fun w' => ?z71y⟩) ?z71h ?z71c
 case z71y => first | (go_simp; done) | (go_simp; rfl) | (go_simp; simp; done)
 case z71h => simp only [Act.put, List.setIfInBounds_toArray, List.set_cons_zero, List.set_cons_succ, i64_w, i32_w]; rfl
 case z71c =>
 refine done_ (by kernel_rfl) ?_
 have HBE := Aside0.mk (below_step HBR.out hHeld)
 clear hHeld; go_wp2_with (fail)
 go_ret
 exact ⟨rfl, HBE.out⟩
def hopperlaw16_NeedRules.f (k : Nat) (a0_0 : Int) (a0_1 : Int) (a0_2 : ByteArray) (a0_3 : Int) (a0_4 : Int) (l0_5 : List S24) (a1_0 : Int) (a1_1 : Int) (a1_2 : ByteArray) (a1_3 : Int) (a1_4 : Int) (l1_5 : List S24) (l2 : List S40) : Option Bool := lawRulesP k ⟨a0_0, a0_1, a0_2, a0_3, a0_4, l0_5⟩ ⟨a1_0, a1_1, a1_2, a1_3, a1_4, l1_5⟩ l2
theorem hopperlaw16_NeedRules.calls (k : Nat) (a0_0 : Int) (a0_1 : Int) (a0_2 : ByteArray) (a0_3 : Int) (a0_4 : Int) (A0_5 : Option Addr) (c0_5 : Nat) (l0_5 : List (S24)) (a1_0 : Int) (a1_1 : Int) (a1_2 : ByteArray) (a1_3 : Int) (a1_4 : Int) (A1_5 : Option Addr) (c1_5 : Nat) (l1_5 : List (S24)) (A2 : Option Addr) (c2 : Nat) (l2 : List (S40)) (r : Bool) (w : World) (hr0_5 : Kd.C k24 w A0_5 l0_5.length l0_5) (hc0_5 : l0_5.length ≤ c0_5) (hr1_5 : Kd.C k24 w A1_5 l1_5.length l1_5) (hc1_5 : l1_5.length ≤ c1_5) (hr2 : Kd.C k40 w A2 l2.length l2) (hc2 : l2.length ≤ c2) (hU : Facts w) (h : hopperlaw16_NeedRules.f k a0_0 a0_1 a0_2 a0_3 a0_4 l0_5 a1_0 a1_1 a1_2 a1_3 a1_4 l1_5 l2 = some r) :
  Calls Tryd.prog 6 #[.agg #[.int .i64 a0_0, .int .i64 a0_1, .string a0_2, .int .i64 a0_3, .int .i64 a0_4, .slice A0_5 l0_5.length c0_5], .agg #[.int .i64 a1_0, .int .i64 a1_1, .string a1_2, .int .i64 a1_3, .int .i64 a1_4, .slice A1_5 l1_5.length c1_5], .slice A2 l2.length c2] w fun e w' => e = .returned (.bool r) ∧ Below w.heap.size w w' := by
 unfold hopperlaw16_NeedRules.f lawRulesP at h
 obtain ⟨t, haw, h⟩ := Option.bind_eq_some_iff.1 h
 cases t with
 | false => rw [if_neg (by decide)] at h; cases h
 | true =>
 rw [if_pos rfl] at h; obtain ⟨b, h0, h⟩ := Option.bind_eq_some_iff.1 h
 cases b with
 | false => rw [if_neg (by decide)] at h; obtain rfl := Option.some.inj h; exact hopperlaw16_NeedRules.early0 k ⟨a0_0, a0_1, a0_2, a0_3, a0_4, l0_5⟩ ⟨a1_0, a1_1, a1_2, a1_3, a1_4, l1_5⟩ A0_5 c0_5 A1_5 c1_5 A2 c2 l2 w hr0_5 hc0_5 hr1_5 hc1_5 hr2 hc2 hU haw h0
 | true =>
 rw [if_pos rfl] at h; obtain ⟨b, h1, h⟩ := Option.bind_eq_some_iff.1 h
 cases b with
 | false => rw [if_neg (by decide)] at h; obtain rfl := Option.some.inj h; exact hopperlaw16_NeedRules.early1 k ⟨a0_0, a0_1, a0_2, a0_3, a0_4, l0_5⟩ ⟨a1_0, a1_1, a1_2, a1_3, a1_4, l1_5⟩ A0_5 c0_5 A1_5 c1_5 A2 c2 l2 w hr0_5 hc0_5 hr1_5 hc1_5 hr2 hc2 hU haw h0 h1
 | true =>
 rw [if_pos rfl] at h; by_cases h2 : l2.length ≤ 8
 case neg => rw [if_neg h2] at h; obtain rfl := Option.some.inj h; exact hopperlaw16_NeedRules.early2 k ⟨a0_0, a0_1, a0_2, a0_3, a0_4, l0_5⟩ ⟨a1_0, a1_1, a1_2, a1_3, a1_4, l1_5⟩ A0_5 c0_5 A1_5 c1_5 A2 c2 l2 w hr0_5 hc0_5 hr1_5 hc1_5 hr2 hc2 hU haw h0 h1 (by omega)
 rw [if_pos h2] at h; obtain ⟨b, h3, h⟩ := Option.bind_eq_some_iff.1 h
 cases b with
 | false => rw [if_neg (by decide)] at h; obtain rfl := Option.some.inj h; exact hopperlaw16_NeedRules.early3 k ⟨a0_0, a0_1, a0_2, a0_3, a0_4, l0_5⟩ ⟨a1_0, a1_1, a1_2, a1_3, a1_4, l1_5⟩ A0_5 c0_5 A1_5 c1_5 A2 c2 l2 w hr0_5 hc0_5 hr1_5 hc1_5 hr2 hc2 hU haw h0 h1 h2 h3
 | true =>
 rw [if_pos rfl] at h; obtain ⟨b, h4, h⟩ := Option.bind_eq_some_iff.1 h
 cases b with
 | false => rw [if_neg (by decide)] at h; obtain rfl := Option.some.inj h; exact hopperlaw16_NeedRules.early4 k ⟨a0_0, a0_1, a0_2, a0_3, a0_4, l0_5⟩ ⟨a1_0, a1_1, a1_2, a1_3, a1_4, l1_5⟩ A0_5 c0_5 A1_5 c1_5 A2 c2 l2 w hr0_5 hc0_5 hr1_5 hc1_5 hr2 hc2 hU haw h0 h1 h2 h3 h4
 | true =>
 rw [if_pos rfl] at h; obtain ⟨b, h5, h⟩ := Option.bind_eq_some_iff.1 h
 cases b with
 | false => rw [if_neg (by decide)] at h; obtain rfl := Option.some.inj h; exact hopperlaw16_NeedRules.early5 k ⟨a0_0, a0_1, a0_2, a0_3, a0_4, l0_5⟩ ⟨a1_0, a1_1, a1_2, a1_3, a1_4, l1_5⟩ A0_5 c0_5 A1_5 c1_5 A2 c2 l2 w hr0_5 hc0_5 hr1_5 hc1_5 hr2 hc2 hU haw h0 h1 h2 h3 h4 h5
 | true =>
 rw [if_pos rfl] at h; obtain ⟨x, hx, h⟩ := Option.bind_eq_some_iff.1 h
 obtain ⟨y1, hy1, h⟩ := Option.bind_eq_some_iff.1 h
 obtain ⟨y2, hy2, h⟩ := Option.bind_eq_some_iff.1 h
 obtain ⟨y3, hy3, h⟩ := Option.bind_eq_some_iff.1 h
 obtain ⟨y4, hy4, h⟩ := Option.bind_eq_some_iff.1 h
 obtain ⟨y5, hy5, h⟩ := Option.bind_eq_some_iff.1 h
 by_cases hR : rulesB x y1 y2 y3 y4 y5 = true
 case neg => rw [if_neg hR] at h; cases h
 rw [if_pos hR] at h; obtain rfl := Option.some.inj h
 simp only [rulesB, Bool.and_eq_true, beq_iff_eq] at hR
 obtain ⟨⟨⟨e1, e2⟩, e3⟩, e5⟩ := hR; exact hopperlaw16_NeedRules.main k ⟨a0_0, a0_1, a0_2, a0_3, a0_4, l0_5⟩ ⟨a1_0, a1_1, a1_2, a1_3, a1_4, l1_5⟩ A0_5 c0_5 A1_5 c1_5 A2 c2 l2 w hr0_5 hc0_5 hr1_5 hc1_5 hr2 hc2 hU haw h0 h1 h2 h3 h4 h5 x y3 y5 hx (e1 ▸ hy1) (e2 ▸ hy2) hy3 (e3.symm ▸ hy4) hy5 e5

/-- THE ONE PURE STATEMENT of hopperlaw16_NeedRules: yours. -/
def hopperlaw16_NeedRules.Pure : Prop := ∀ (a0_0 : Int) (a0_1 : Int) (a0_2 : ByteArray) (a0_3 : Int) (a0_4 : Int) (l0_5 : List (S24)) (a1_0 : Int) (a1_1 : Int) (a1_2 : ByteArray) (a1_3 : Int) (a1_4 : Int) (l1_5 : List (S24)) (l2 : List (S40)), (fun x_ : Int => (Lit.int .i64 x_).wf = true) a0_0 → (fun x_ : Int => (Lit.int .i64 x_).wf = true) a0_1 → (fun x_ : ByteArray => x_.size ≤ maxLen) a0_2 → (fun x_ : Int => (Lit.int .i64 x_).wf = true) a0_3 → (fun x_ : Int => (Lit.int .i64 x_).wf = true) a0_4 → (WfSl Wf24) l0_5 → (fun x_ : Int => (Lit.int .i64 x_).wf = true) a1_0 → (fun x_ : Int => (Lit.int .i64 x_).wf = true) a1_1 → (fun x_ : ByteArray => x_.size ≤ maxLen) a1_2 → (fun x_ : Int => (Lit.int .i64 x_).wf = true) a1_3 → (fun x_ : Int => (Lit.int .i64 x_).wf = true) a1_4 → (WfSl Wf24) l1_5 → (WfSl Wf40) l2 → ∃ k, hopperlaw16_NeedRules.f k a0_0 a0_1 a0_2 a0_3 a0_4 l0_5 a1_0 a1_1 a1_2 a1_3 a1_4 l1_5 l2 = some true

end Go.Proofs.YtdccooaddoafnaaDoor.Q
