-- PRINTED by print.py (a twelfth state) out of the translation. Not trusted: Lean checks it.
import Derived.Test.YtdojgfkcpaeacaaDoorQx0
import Derived.Test.YtdojgfkcpaeacaaDoorQx8
import Derived.Test.YtdojgfkcpaeacaaDoorQx11
import Derived.Test.YtdojgfkcpaeacaaDoorQx13
import Derived.Test.YtdojgfkcpaeacaaDoorQx14
import Derived.Test.YtdojgfkcpaeacaaDoorQx15
namespace Go.Proofs.YtdojgfkcpaeacaaDoor.Q
open Go.RowKit Go.Proofs.YtdojgfkcpaeacaaDoorW.PrintWords Go.Proofs.YtdojgfkcpaeacaaDoorW.PrintLast Go.Proofs.YtdojgfkcpaeacaaDoorW.PrintMore
attribute [local go_sem] str_gtr str_geq str_leq max2_int min2_int max_two min_two max_three min_three max_four min_four
set_option linter.unusedVariables false
set_option maxHeartbeats 8000000
set_option maxRecDepth 1000000
set_option linter.unusedSimpArgs false

/-! ### hopperlaw24_OrderKeeps: function 8 -/
-- told by hand
/-! #### a row of slices, as its cells -/
abbrev SlP := Option Addr × Nat × Nat
def encSl : SlP → Value := fun p => .slice p.1 p.2.1 p.2.2
def kSl : Kd SlP := Kd.scalar encSl (fun _ => rfl)
/-- The row that a slice leads to stands: its cells can be written. -/
def Good (W : World) (base : Nat) (p : SlP) : Prop := p.2.1 = 0 ∨ ∃ b arr, p.1 = some ⟨b, 0, none⟩ ∧ base ≤ b ∧ W.heap[b]? = some (.cells arr 36 (0, 0)) ∧ p.2.1 * 2 ≤ arr.size ∧ p.2.1 ≤ 9223372036854775807
def OutX (W : World) (gx : Nat) (ps : List SlP) : Prop := ∃ cur : Array Value, W.heap[gx]? = some (.cells cur 28 (0, 0)) ∧ ∀ (j : Nat) (p : SlP), ps[j]? = some p → cur[j]? = some (encSl p)
theorem R_good {W : World} {base : Nat} {ok : Nat → Prop} {v : Value} {r : List S36} (h : k36.R 36 W base ok v r) : ∃ p : SlP, v = encSl p ∧ Good W base p := by
 obtain ⟨_, inner, ho, _⟩ := h; obtain ⟨_, ⟨hv, _⟩ | ⟨g, cap, cur, hv, hb, hblk, hnc, hcm, hsz, _⟩⟩ := ho
 ·exact ⟨(none, 0, 0), hv, .inl rfl⟩
 ·refine ⟨(some ⟨g, 0, none⟩, r.length, cap), hv, .inr ⟨g, cur, rfl, hb, hblk, ?_, Nat.le_trans hnc (by simpa [maxLen] using hcm)⟩⟩
  have hsz2 : cur.size = cap * 2 := hsz; show r.length * 2 ≤ cur.size
  omega
theorem choose_all {α β : Type} {f : α → β} {P : α → Prop} : ∀ l : List β, (∀ u, u ∈ l → ∃ p, u = f p ∧ P p) → ∃ ps : List α, ps.map f = l ∧ ∀ p, p ∈ ps → P p
 | [], _ => ⟨[], rfl, fun p h => by cases h⟩
 | u :: us, h => by
  obtain ⟨p, hp, hP⟩ := h u (List.mem_cons_self ..)
  obtain ⟨ps, h1, h2⟩ := choose_all us fun v hv => h v (List.mem_cons_of_mem _ hv)
  refine ⟨p :: ps, by rw [List.map_cons, h1, hp], fun q hq => ?_⟩
  rcases List.mem_cons.1 hq with rfl | hq
  ·exact hP
  ·exact h2 q hq
theorem one_at {l : List Value} {j : Nat} {v : Value} : (l.drop (j * 1)).take 1 = [v] ↔ l[j]? = some v := by
 rw [Nat.mul_one]
 constructor
 ·intro h
  have : ((l.drop j).take 1)[0]? = some v := by rw [h]; rfl
  rw [List.getElem?_take] at this
  simpa using this
 ·intro h
  have hj : j < l.length := (List.getElem?_eq_some_iff.1 h).1
  rw [List.drop_eq_getElem_cons hj]
  have : l[j] = v := by rw [List.getElem?_eq_getElem hj] at h; exact Option.some.inj h
  rw [this]; rfl
theorem S_sl {W : World} {base : Nat} {ok : Nat → Prop} {v : Value} {xs : List (List S36)} (h : Kd.S (Kd.slice 36 k36) 28 W base ok v xs) : ∃ ps, kSl.R 28 W base ok v ps ∧ ps.length = xs.length ∧ ∀ p, p ∈ ps → Good W base p := by
 obtain ⟨h0, inner, ho, hr⟩ := Kd.S_R h
 have hlen : inner.length = xs.length := by have := hr.1; exact this.trans (Nat.mul_one _)
 obtain ⟨ps, hps, hg⟩ := choose_all (f := encSl) (P := Good W base) inner fun u hu => by
  obtain ⟨j, hj, rfl⟩ := List.getElem_of_mem hu
  obtain ⟨v, e, hR⟩ := hr.2 j xs[j] (List.getElem?_eq_getElem (by omega))
  have e2 : inner[j]? = some v := one_at.1 e; rw [List.getElem?_eq_getElem hj] at e2
  rw [Option.some.inj e2]
  exact R_good hR
 have hl2 : ps.length = xs.length := by rw [← hlen, ← hps, List.length_map]
 refine ⟨ps, ⟨h0, inner, by rw [hl2]; exact ho, ⟨by rw [hlen, hl2]; exact (Nat.mul_one _).symm, fun j p hj => ?_⟩⟩, hl2, hg⟩
 show (inner.drop (j * 1)).take 1 = [encSl p]
 rw [one_at, ← hps, List.getElem?_map, hj]
 first | done | rfl
theorem x_open {W : World} {base : Nat} {ok : Nat → Prop} {v : Value} {ps : List SlP} (h : kSl.R 28 W base ok v ps) : ∃ Ax cx gx, v = .slice Ax ps.length cx ∧ (0 < ps.length → Ax = some ⟨gx, 0, none⟩ ∧ OutX W gx ps) := by
 obtain ⟨_, inner, ⟨_, ⟨hv, hn⟩ | ⟨g, cap, cur, hv, hb, hblk, hnc, _, hsz, htk⟩⟩, hr⟩ := h
 ·exact ⟨none, 0, 0, by rw [hn]; exact hv, fun h => absurd hn (by omega)⟩
 ·refine ⟨_, _, g, hv, fun _ => ⟨rfl, cur, hblk, fun j p hj => ?_⟩⟩
  have h1 : (inner.drop (j * 1)).take 1 = [encSl p] := hr.2 j p hj; rw [one_at, ← htk, List.getElem?_take] at h1
  split at h1
  ·simpa using h1
  ·cases h1
theorem outx_cell {W : World} {gx : Nat} {ps : List SlP} (h : OutX W gx ps) {j : Nat} {p : SlP} (hj : ps[j]? = some p) : W.cell? ⟨gx, j, none⟩ = some (encSl p) := by
 obtain ⟨cur, hb, hc⟩ := h; unfold World.cell?
 simpa [hb] using hc j p hj
theorem good_grown {W w1 : World} {row : Option Nat} {base : Nat} {p : SlP} (hg : W.grownBy w1 row) (hne : ∀ b arr, W.heap[b]? = some (.cells arr 36 (0, 0)) → some b ≠ row) (h : Good W base p) : Good w1 base p := by
 rcases h with h | ⟨b, arr, h1, h2, h3, h4⟩
 ·exact .inl h
 ·exact .inr ⟨b, arr, h1, h2, blk_grown h3 hg (hne b arr h3), h4⟩
theorem good_put {W w' : World} {b base : Nat} {arr arr' : Array Value} {p : SlP} (hb : W.heap[b]? = some (.cells arr 36 (0, 0))) (hb' : w'.heap[b]? = some (.cells arr' 36 (0, 0))) (hsz : arr'.size = arr.size) (hoth : ∀ k, k ≠ b → w'.heap[k]? = W.heap[k]?) (h : Good W base p) : Good w' base p := by
 rcases h with h | ⟨b2, arr2, h1, h2, h3, h4⟩
 ·exact .inl h
 ·by_cases e : b2 = b
  ·subst e
   have e2 : arr2 = arr := by
    rw [h3] at hb
    injection hb with hb
    injection hb
   exact .inr ⟨b2, arr', h1, h2, hb', by rw [hsz, ← e2]; exact h4.1, h4.2⟩
  ·exact .inr ⟨b2, arr2, h1, h2, (hoth b2 e).trans h3, h4⟩
theorem outx_put {W w' : World} {b gx : Nat} {arr : Array Value} {ps : List SlP} (hb : W.heap[b]? = some (.cells arr 36 (0, 0))) (hoth : ∀ k, k ≠ b → w'.heap[k]? = W.heap[k]?) (h : OutX W gx ps) : OutX w' gx ps := by
 obtain ⟨cur, h1, h2⟩ := h; exact ⟨cur, (hoth gx (blk_ne h1 hb (by decide))).trans h1, h2⟩
section
variable {Pr : Program} {ops : Array Oper} {rest : List Oper} {o : Oper} {a : Act} {Q : Exit → Act → World → Prop}
/-- A struct stored into an element of a row, as one event. -/
theorem store_el {W : World} (hgd : o.guard = none) {t : TypeId} {p : Tmp} {v : Operand} (ho : o.op = .store t (.tmp p) v) (hN : o.dst = none) {b off : Nat} {cs : List Value} {arr : Array Value} {t' : TypeId}
  (hp : a.eval (.tmp p) = .pointer (some ⟨b, off, none⟩)) (hv : a.eval v = .agg cs.toArray) (hsz : ∀ w, (sizeOf t).run Pr w = .ok cs.length w) (hb : W.heap[b]? = some (.cells arr t' (0, 0))) (hj : off + cs.length ≤ arr.size) (h1 : ∀ u ∈ cs, u.oneCell' = true)
  (h : ∀ w' arr', w'.heap[b]? = some (.cells arr' t' (0, 0)) → arr'.size = arr.size → (∀ k, k ≠ b → w'.heap[k]? = W.heap[k]?) → w'.heap.size = W.heap.size → w'.os = W.os → w'.tape = W.tape → w'.output = W.output → wpList Pr ops Q rest a w') : wpList Pr ops Q (o :: rest) a W := by
 have h0 := run_storeCells_at b off t' cs 0 arr W hb (by simpa using hj) h1 (P := Pr)
 obtain ⟨W2, hW2⟩ : ∃ W2, W2 = W.setRow b (arr.toList.take (off + 0) ++ cs ++ arr.toList.drop (off + 0 + cs.length)).toArray := ⟨_, rfl⟩
 rw [← hW2] at h0
 have hrun : (execOp a.eval o).run Pr W = .ok .skip W2 := by
  unfold execOp
  rw [ho]
  simp only [hp, hv]
  simp [Instr.storeAt, storeVar, hsz, Value.cells, Instr.sureAddr, h0]
 rw [hW2] at hrun
 refine store_event hgd ho hN hrun (fun w' e => ?_)
 subst e; exact h _ _ (setRow_heap W b arr _ t' (0, 0) hb) (by simp; omega) (fun k hk => setRow_other W b k _ hk) (by simp [World.setRow]) rfl rfl rfl
end
def fineB (rows : List (List S36)) : Bool := decide (rows.length ≤ 1000) && rows.all fun r => decide (r.length ≤ 1000)
def lawKeepsP (k : Nat) (rows : List (List S36)) (cols : Int) (keys : List S39) : Option Bool := (hopperlaw24_awake.f k).bind fun t => if t = true then (hopperref16_Rows.f k rows cols).bind fun b => if b = true then (hopperref24_Right.f k keys cols).bind fun c => if c = true then if fineB rows = true then
 (order_Rows.f k rows keys).bind fun r1 => (order_Cut.f k rows 0 1000).bind fun r2 => if r1.length + r2.length ≤ 100000 then (hopperref18_Same.f k rows rows).bind fun s => if s = true then some true else none else none
 else none else some true else some true else none
def hopperlaw24_OrderKeeps.f (k : Nat) (l0 : List (List S36)) (a1 : Int) (l2 : List S39) : Option Bool := lawKeepsP k l0 a1 l2
theorem hopperlaw24_OrderKeeps.e0 (k : Nat) (A0 : Option Addr) (c0 : Nat) (rows : List (List S36)) (cols : Int) (A2 : Option Addr) (c2 : Nat) (keys : List S39) (w : World) (hr0 : Kd.C (Kd.slice 36 k36) w A0 rows.length rows) (hc0 : rows.length ≤ c0) (hr2 : Kd.C k39 w A2 keys.length keys) (hc2 : keys.length ≤ c2) (hT : Facts w) (haw : hopperlaw24_awake.f k = some true) (h0 : hopperref16_Rows.f k rows cols = some false) :
  Calls Tryd.prog 8 #[.slice A0 rows.length c0, .int .i64 cols, .slice A2 keys.length c2] w fun e w' => e = .returned (.bool true) ∧ Below w.heap.size w w' := by
 have HT := Aside0.mk hT; have HAW := Aside0.mk (fun W (hT : Facts W) => hopperlaw24_awake.calls k true W hT haw)
 have HRO := Aside0.mk (fun W (hb : Below w.heap.size w W) => hopperref16_Rows.calls k A0 c0 rows cols false W (Kd.C_below hr0 hb) hc0 h0)
 have TK0 : True := trivial; have TK1 : True := trivial; clear haw hr0 hc0 hr2 hc2 hT h0; go_enter Tryd.func8, Tryd.ntmps8
 go_wp2_with (first
  | (have tk_ := TK0; clear tk_ TK0; go_at_call 9; with_reducible refine (HAW.out _ HT.out).mono ?_; rintro e w1 ⟨rfl, hb⟩; have HB1 := Aside0.mk hb; clear hb)
  | (go_at_call 10; with_reducible refine (HRO.out _ HB1.out).mono ?_; rintro e w2 ⟨rfl, hb⟩; have HB2 := Aside0.mk (below_step HB1.out hb.below); clear hb HB1)
  | (have tk_ := TK1; clear tk_ TK1; go_at_call 9; with_reducible refine (HAW.out _ (HT.out.below HB2.out)).mono ?_; rintro e w4 ⟨rfl, hb⟩; have HB4 := Aside0.mk (below_step HB2.out hb); clear hb))
 go_ret
 exact ⟨rfl, HB4.out⟩
theorem hopperlaw24_OrderKeeps.e1 (k : Nat) (A0 : Option Addr) (c0 : Nat) (rows : List (List S36)) (cols : Int) (A2 : Option Addr) (c2 : Nat) (keys : List S39) (w : World) (hr0 : Kd.C (Kd.slice 36 k36) w A0 rows.length rows) (hc0 : rows.length ≤ c0) (hr2 : Kd.C k39 w A2 keys.length keys) (hc2 : keys.length ≤ c2) (hT : Facts w) (haw : hopperlaw24_awake.f k = some true) (h0 : hopperref16_Rows.f k rows cols = some true) (h1 : hopperref24_Right.f k keys cols = some false) :
  Calls Tryd.prog 8 #[.slice A0 rows.length c0, .int .i64 cols, .slice A2 keys.length c2] w fun e w' => e = .returned (.bool true) ∧ Below w.heap.size w w' := by
 have HT := Aside0.mk hT; have HAW := Aside0.mk (fun W (hT : Facts W) => hopperlaw24_awake.calls k true W hT haw)
 have HRO := Aside0.mk (fun W (hb : Below w.heap.size w W) => hopperref16_Rows.calls k A0 c0 rows cols true W (Kd.C_below hr0 hb) hc0 h0)
 have HRI := Aside0.mk (fun W (hb : Below w.heap.size w W) => hopperref24_Right.calls k A2 c2 keys cols false W (Kd.C_below hr2 hb) hc2 h1)
 have TK0 : True := trivial; have TK1 : True := trivial; clear haw hr0 hc0 hr2 hc2 hT h0 h1; go_enter Tryd.func8, Tryd.ntmps8
 go_wp2_with (first
  | (have tk_ := TK0; clear tk_ TK0; go_at_call 9; with_reducible refine (HAW.out _ HT.out).mono ?_; rintro e w1 ⟨rfl, hb⟩; have HB1 := Aside0.mk hb; clear hb)
  | (go_at_call 10; with_reducible refine (HRO.out _ HB1.out).mono ?_; rintro e w2 ⟨rfl, hb⟩; have HB2 := Aside0.mk (below_step HB1.out hb.below); clear hb HB1)
  | (go_at_call 11; with_reducible refine (HRI.out _ HB2.out).mono ?_; rintro e w3 ⟨rfl, hb⟩; have HB3 := Aside0.mk (below_step HB2.out hb.below); clear hb HB2)
  | (have tk_ := TK1; clear tk_ TK1; go_at_call 9; with_reducible refine (HAW.out _ (HT.out.below HB3.out)).mono ?_; rintro e w4 ⟨rfl, hb⟩; have HB4 := Aside0.mk (below_step HB3.out hb); clear hb))
 go_ret
 exact ⟨rfl, HB4.out⟩
theorem hopperlaw24_OrderKeeps.main (k : Nat) (A0 : Option Addr) (c0 : Nat) (rows : List (List S36)) (cols : Int) (A2 : Option Addr) (c2 : Nat) (keys : List S39) (w : World) (hr0 : Kd.C (Kd.slice 36 k36) w A0 rows.length rows) (hc0 : rows.length ≤ c0) (hr2 : Kd.C k39 w A2 keys.length keys) (hc2 : keys.length ≤ c2) (hT : Facts w) (haw : hopperlaw24_awake.f k = some true) (h0 : hopperref16_Rows.f k rows cols = some true) (h1 : hopperref24_Right.f k keys cols = some true) (hfine : fineB rows = true) (r1 r2 : List (List S36)) (h2 : order_Rows.f k rows keys = some r1) (h3 : order_Cut.f k rows 0 1000 = some r2) (hlim : r1.length + r2.length ≤ 100000) (h4 : hopperref18_Same.f k rows rows = some true) :
  Calls Tryd.prog 8 #[.slice A0 rows.length c0, .int .i64 cols, .slice A2 keys.length c2] w fun e w' => e = .returned (.bool true) ∧ Below w.heap.size w w' := by
 have HT := Aside0.mk hT; have HAW := Aside0.mk (fun W (hT : Facts W) => hopperlaw24_awake.calls k true W hT haw)
 have HRO := Aside0.mk (fun W (hb : Below w.heap.size w W) => hopperref16_Rows.calls k A0 c0 rows cols true W (Kd.C_below hr0 hb) hc0 h0)
 have HRI := Aside0.mk (fun W (hb : Below w.heap.size w W) => hopperref24_Right.calls k A2 c2 keys cols true W (Kd.C_below hr2 hb) hc2 h1)
 have TK0 : True := trivial; have TK1 : True := trivial; have HRW := Aside0.mk (fun W (hb : Below w.heap.size w W) => order_Rows.calls k A0 c0 rows A2 c2 keys r1 W (Kd.C_below hr0 hb) hc0 (Kd.C_below hr2 hb) hc2 (hT.below hb) h2)
 have HCU := Aside0.mk (fun W (hb : Below w.heap.size w W) => order_Cut.calls k A0 c0 rows 0 1000 r2 W (Kd.C_below hr0 hb) hc0 h3)
 have HSA := Aside0.mk (fun W A c (hb : Below w.heap.size w W) (hr : Kd.C (Kd.slice 36 k36) W A rows.length rows) (hc : rows.length ≤ c) => hopperref18_Same.calls k A0 c0 rows A c rows true W (Kd.C_below hr0 hb) hc0 hr hc h4)
 have HR0 := Aside0.mk hr0; have HLIM := Aside0.mk hlim; have hfn := hfine; simp only [fineB, Bool.and_eq_true, decide_eq_true_eq, List.all_eq_true] at hfn
 have HFN := Aside0.mk hfn; clear haw hr0 hc0 hr2 hc2 hT h0 h1 h2 h3 h4 hlim hfine hfn; go_enter Tryd.func8, Tryd.ntmps8
 go_wp2_with (first
  | (have tk_ := TK0; clear tk_ TK0; go_at_call 9; with_reducible refine (HAW.out _ HT.out).mono ?_; rintro e w1 ⟨rfl, hb⟩; have HB1 := Aside0.mk hb; clear hb)
  | (go_at_call 10; with_reducible refine (HRO.out _ HB1.out).mono ?_; rintro e w2 ⟨rfl, hb⟩; have HB2 := Aside0.mk (below_step HB1.out hb.below); clear hb HB1)
  | (go_at_call 11; with_reducible refine (HRI.out _ HB2.out).mono ?_; rintro e w3 ⟨rfl, hb⟩; have HB3 := Aside0.mk (below_step HB2.out hb.below); clear hb HB2))
 go_loopg [7, 8] rows.length (fun gg s7 s8 wr => ∃ (i : Nat) (v : Value), v = s7 ∧ s8 = .int .i64 i ∧ i ≤ rows.length ∧ rows.length - i ≤ gg ∧ Aside0 (Kd.S (Kd.slice 36 k36) 28 wr w.heap.size (fun _ => True) v (rows.take i)) ∧ Aside0 (Below w.heap.size w wr))
 case atStart => exact ⟨0, _, rfl, rfl, Nat.zero_le _, by omega, ⟨Kd.S_nil _ _ _ _ _⟩, HB3⟩
 case round =>
  clear HB3; obtain ⟨i, v, rfl, rfl, hin, hg0, HO, HB⟩ := hrel; by_cases hlt : i < rows.length
  ·have hltz : (i : Int) < (rows.length : Int) := by omega
   have hi0 : (0 : Int) ≤ (i : Int) := by omega
   have HRD := Aside0.mk (show rd_L6 rows (i : Int) = rows[i] from by simp [rd_L6, List.getD, hlt])
   have HTK := Aside0.mk (show rows.take (i + 1) = rows.take i ++ [rd_L6 rows (i : Int)] from by rw [HRD.out, List.take_succ_eq_append_getElem hlt])
   have HLN := Aside0.mk (show (rd_L6 rows (i : Int)).length ≤ 1000 from by rw [HRD.out]; exact HFN.out.2 _ (List.getElem_mem hlt))
   have HLT := Aside0.mk (show (rows.take i).length ≤ 1000 from Nat.le_trans (List.length_take_le _ _) (Nat.le_trans hin HFN.out.1))
   obtain ⟨ad, Ai, ci, e0, hx, hl, hi⟩ := at_L6 HR0.out (i : Int) hi0 hltz
   cases e0
   simp only [Int.toNat_natCast] at hx
   replace hx := (HB.out.cell (World.block_lt_of_cell? w _ hx)).trans hx
   have HRi := Aside0.mk hi; have HCi := Aside0.mk hl; clear hi hl
   go_wp2_with (first
    | ((with_reducible refine gate_dst (N := 34) rfl ?_); refine Kd.R_lit k36 _ 36 ?hg (N := 34) ?hd (xs := ([] : List (S36))) (inner := []) (ok := fun _ => True) (okp := fun _ => True) ?hr ?hp (fun _ hk => hk) trivial (Below.refl _ _) (Nat.le_refl _) (by simp) ?_; (case hd => rfl); (case hg => rfl); (case hr => first | (go_simp; done) | (go_simp; rfl)); (case hp => exact (Reps.none _ _)); intro vl wl hol hbl hg_ hnew_; clear hg_ hnew_; have HL := Aside0.mk hol; have HBL := Aside0.mk hbl; have hx2 := (hbl.cell (World.block_lt_of_cell? wr _ hx)).trans hx; clear hx; have hx := hx2; clear hx2; clear hol hbl)
    | ((with_reducible refine gate_builtin (b := .append) (xs := #[.tmp 34, .tmp 38]) rfl ?_); at_builtin; refine Kd.R_append_rows k36 (w0 := wr) wr.heap.size rfl (.tmp 34) (.tmp 38) 28 36 (.agg #[.bool false, .string ⟨#[]⟩]) 24 rfl Tryd.underlying28 info36 rfl (by decide) (by omega) vl [] (rd_L6 rows (i : Int)) _ _ _ (fun _ => True) (fun _ => False) rfl rfl ?aO ?aR (fun _ _ h => h) (fun _ h => h.elim) ?aF ?aB ?aS ?aL ?_; (case aR => exact Kd.C_below HRi.out (below_step HB.out HBL.out)); (case aB => exact HBL.out); (case aF => exact (fun _ _ => trivial)); (case aO => exact HL.out); (case aS => exact below_size HBL.out); (case aL => have := HLN.out; simp; omega); intro va wa ho hb hg hat; have ho2 : k36.R 36 wa wr.heap.size (fun _ => True) va (rd_L6 rows (i : Int)) := ho; have n0_ := Aside0.mk (Kd.S_elder' HO.out (Kd.R_base ho2) hb); have n1_ := Aside0.mk (Kd.R_lower ho2 (below_size HB.out)); have n2_ := Aside0.mk (below_step HB.out hb); clear HO HB HL HBL; have HO := n0_; have HN := n1_; have HB := n2_; clear n0_ n1_ n2_; clear ho ho2 hb hg hat hx; obtain ⟨Ao9, co9, eo9⟩ := Kd.R_slice HN.out; subst eo9)
    | ((with_reducible refine gate_builtin (b := .append) (xs := #[.tmp 33, .tmp 40]) rfl ?_); at_builtin; refine Kd.S_append (Kd.slice 36 k36) (w0 := w) w.heap.size rfl (.tmp 33) (.tmp 40) 22 28 (.slice none 0 0) 24 rfl Tryd.underlying22 info28 rfl (by decide) (by omega) v (rows.take i) (rd_L6 rows (i : Int)) [.slice Ao9 (rd_L6 rows (i : Int)).length co9] (fun _ => True) (fun k_ => some k_ = (.slice Ao9 (rd_L6 rows (i : Int)).length co9 : Value).ownBlock) rfl rfl ?aP (fun k_ hk_ => ((Kd.R_mono (ok' := fun k_ => ((fun _ => True)) k_ ∧ some k_ ≠ (v : Value).ownBlock) (Kd.R_apart' (HN.out) (Kd.S_typed HO.out) (by decide)) (fun k_ hk => ⟨trivial, hk.2⟩))).1 k_ hk_.symm) ?aF ?aO ?aB ?aS ?aL ?_; (case aP => exact Kd.M_row (Kd.R_mono (Kd.R_tight rfl (Kd.R_mono (ok' := fun k_ => ((fun _ => True)) k_ ∧ some k_ ≠ (v : Value).ownBlock) (Kd.R_apart' (HN.out) (Kd.S_typed HO.out) (by decide)) (fun k_ hk => ⟨trivial, hk.2⟩))) (fun _ h_ => h_))); (case aB => exact HB.out); (case aF => exact (fun _ _ => trivial)); (case aO => exact Kd.S_mono HO.out (fun k_ hk => ⟨trivial, fun e_ => hk.2 e_⟩)); (case aS => exact (below_size HB.out)); (case aL => have := HLT.out; omega); intro v149 w8 ho hb hg hat; have n0_ := Aside0.mk (hb); have n1_ := Aside0.mk (ho); clear HB HO HN; have HB := n0_; have HO := n1_; clear n0_ n1_; clear ho hb hg hat))
   go_roundg (rows.length - (i + 1))
   case measure => omega
   case rel => have := HFN.out.1; exact ⟨i + 1, _, rfl, by first | go_num | (congr 1; unfold wrap64; omega), by omega, by omega, ⟨by rw [HTK.out]; exact HO.out⟩, HB⟩
  ·have hltz : ¬ (i : Int) < (rows.length : Int) := by omega
   have hO := HO.out; rw [List.take_of_length_le (by omega)] at hO
   obtain ⟨Aw, cw, ew, hcw, hCw⟩ := Kd.S_reads hO
   subst ew; obtain ⟨wM, eM⟩ : ∃ wM, wM = wr := ⟨wr, rfl⟩
   subst eM; have HCW := Aside0.mk hCw; have HCWc := Aside0.mk hcw; clear HO hO hCw hcw
   go_wp2_with (first
    | (go_at_call 15; with_reducible refine (HRW.out _ HB.out).mono ?_; rintro e w5 ⟨va, rfl, ho, hb⟩; have HS1 := Aside0.mk ho; have HM := Aside0.mk hb; clear ho hb)
    | (go_at_call 18; with_reducible refine (HCU.out _ (below_step HB.out HM.out)).mono ?_; rintro e w6 ⟨vb, rfl, ho, hb⟩; have HS2 := Aside0.mk (Kd.S_lower ho (below_size HM.out)); have m_ := Aside0.mk (Kd.S_below HS1.out hb); clear HS1; have HS1 := m_; clear m_; have m_ := Aside0.mk (below_step HM.out hb); clear HM; have HM := m_; clear m_; clear ho hb; obtain ⟨psA, hA, hAl, hAg⟩ := S_sl HS1.out; obtain ⟨psB, hB, hBl, hBg⟩ := S_sl HS2.out; have HA := Aside0.mk hA; have HBB := Aside0.mk hB; have HAG := Aside0.mk hAg; have HBG := Aside0.mk hBg; have HPL := Aside0.mk (show psA.length + psB.length ≤ 100000 from by rw [hAl, hBl]; exact HLIM.out); clear hA hB hAg hBg hAl hBl HS1 HS2; obtain ⟨Ab, cb, eb⟩ := Kd.R_slice HBB.out; subst eb)
    | ((with_reducible refine gate_builtin (b := .append) (xs := #[.tmp 44, .tmp 46]) rfl ?_); at_builtin; refine Kd.R_append_rows kSl (w0 := wM) wM.heap.size rfl (.tmp 44) (.tmp 46) 22 28 (.slice none 0 0) 24 rfl Tryd.underlying22 info28 rfl (by decide) (by omega) va psA psB _ _ _ (fun _ => True) (fun _ => False) rfl rfl ?aO ?aR (fun _ _ h => h) (fun _ h => h.elim) ?aF ?aB ?aS ?aL ?_; (case aR => exact (Kd.R_reads' HBB.out).2.2); (case aB => exact HM.out); (case aF => exact (fun _ _ => trivial)); (case aO => exact HA.out); (case aS => exact below_size HM.out); (case aL => have := HPL.out; omega); intro vx wx ho hb hg hat; obtain ⟨ps, hR, hG, hN⟩ : ∃ ps : List SlP, kSl.R 28 wx wM.heap.size (fun _ => True) vx ps ∧ (∀ p, p ∈ ps → Good wx wM.heap.size p) ∧ ps.length ≤ 100000 := ⟨psA ++ psB, ho, fun p hp => (List.mem_append.1 hp).elim (fun h => good_grown hg (fun b arr h3 => Kd.R_ne HA.out h3 (by decide)) (HAG.out p h)) (fun h => good_grown hg (fun b arr h3 => Kd.R_ne HA.out h3 (by decide)) (HBG.out p h)), by rw [List.length_append]; exact HPL.out⟩; have HG := Aside0.mk hG; have HNL := Aside0.mk hN; clear HM HA HBB HAG HBG ho hG hN; have HM := Aside0.mk hb; clear hb hg hat; obtain ⟨Ax, cx, gx, ex, hX⟩ := x_open hR; have HX := Aside0.mk hX; clear hX hR; subst ex))
   go_loopg [10, 11] ps.length (fun gg s10 s11 wq => ∃ (i : Nat), s10 = .int .i64 i ∧ i ≤ ps.length ∧ ps.length - i ≤ gg ∧ Aside0 (Below wM.heap.size wM wq) ∧ Aside0 (0 < ps.length → Ax = some ⟨gx, 0, none⟩ ∧ OutX wq gx ps) ∧ Aside0 (∀ p, p ∈ ps → Good wq wM.heap.size p))
   case atStart => exact ⟨0, rfl, Nat.zero_le _, by omega, HM, HX, HG⟩
   case round =>
    clear HM HX HG; obtain ⟨i2, rfl, hin2, hg2, HM, HX, HG⟩ := hrel; by_cases hlt2 : i2 < ps.length
    ·have hltz2 : (i2 : Int) < (ps.length : Int) := by omega
     have hi20 : (0 : Int) ≤ (i2 : Int) := by omega
     obtain ⟨eA, _⟩ := HX.out (by omega)
     subst eA; have HXX := Aside0.mk (HX.out (by omega)).2
     clear HX; obtain ⟨⟨A, m, c⟩, hp⟩ : ∃ p, ps[i2]? = some p := ⟨_, List.getElem?_eq_getElem hlt2⟩
     have HP := Aside0.mk hp; clear hp; have HPM := Aside0.mk (List.mem_of_getElem? HP.out)
     try go_wp2
     go_loopg [11] m (fun gg s11 ws => ∃ (j : Nat), s11 = .int .i64 j ∧ j ≤ m ∧ m - j ≤ gg ∧ Aside0 (Below wM.heap.size wM ws) ∧ Aside0 (OutX ws gx ps) ∧ Aside0 (∀ p, p ∈ ps → Good ws wM.heap.size p))
     case atStart => exact ⟨0, rfl, Nat.zero_le _, by omega, HM, HXX, HG⟩
     case round =>
      clear HM HXX HG; obtain ⟨j, rfl, hjm, hg3, HM, HXX, HG⟩ := hrel; have hx : wr.cell? ⟨gx, i2, none⟩ = some (.slice A m c) := outx_cell HXX.out HP.out; by_cases hlt3 : j < m
      ·have hltz3 : (j : Int) < (m : Int) := by omega
       have hj0 : (0 : Int) ≤ (j : Int) := by omega
       rcases HG.out _ HPM.out with hz | ⟨b, arr, hA, hbase, hblk, hsz, hml⟩
       ·exact absurd (show m = 0 from hz) (by omega)
       replace hA : A = some ⟨b, 0, none⟩ := hA
       replace hsz : m * 2 ≤ arr.size := hsz
       have HML := Aside0.mk (show m ≤ 9223372036854775807 from hml)
       subst hA; have HBK := Aside0.mk hblk; have HBS := Aside0.mk hsz; have HBA := Aside0.mk hbase; have HJM := Aside0.mk hlt3; have HSZ36 := Aside0.mk (show ∀ W, (sizeOf 36).run Tryd.prog W = .ok 2 W from fun W => by first | exact Tryd.sizeOf36 | exact Tryd.sizeOf36 W | go_simp)
       clear hblk hsz hbase hml
       go_wp2_with (first
        | ((with_reducible refine gate_store (t := 36) (p := 69) rfl ?_); refine store_el (b := b) (off := j * 2) (cs := [.bool false, .string (⟨#[63]⟩ : ByteArray)]) (arr := arr) (t' := 36) rfl rfl rfl ?hp rfl HSZ36.out HBK.out ?hj ?h1 ?_; (case hp => first | rfl | (simp [Addr.add, Act.eval]; done)); (case hj => have := HBS.out; have := HJM.out; simp; omega); (case h1 => intro u hu; simp only [List.mem_cons, List.not_mem_nil, or_false] at hu; rcases hu with rfl | rfl <;> rfl); intro wt arr' hbx hszx hoth hs3 hos htp hou; have n0_ := Aside0.mk (show Below wM.heap.size wM wt from ⟨hos.trans HM.out.os, htp.trans HM.out.tape, hou.trans HM.out.output, by rw [hs3]; exact HM.out.size, fun k_ hk_ => (hoth k_ (by have := HBA.out; omega)).trans (HM.out.block k_ hk_)⟩); have n1_ := Aside0.mk (outx_put HBK.out hoth HXX.out); have n2_ := Aside0.mk (show ∀ p, p ∈ ps → Good wt wM.heap.size p from fun p hp => good_put HBK.out hbx hszx hoth (HG.out p hp)); clear HM HXX HG hbx hszx hoth hs3 hos htp hou; have HM := n0_; have HXX := n1_; have HG := n2_; clear n0_ n1_ n2_))
       go_roundg (m - (j + 1))
       case measure => omega
       case rel => have := HML.out; exact ⟨j + 1, by first | go_num | (congr 1; unfold wrap64; omega), by omega, by omega, HM, HXX, HG⟩
      ·have hltz3 : ¬ (j : Int) < (m : Int) := by omega
       go_wp2
       go_roundg (ps.length - (i2 + 1))
       case measure => omega
       case rel => have := HNL.out; exact ⟨i2 + 1, by first | go_num | (congr 1; unfold wrap64; omega), by omega, by omega, HM, ⟨fun _ => ⟨by first | trivial | rfl, HXX.out⟩⟩, HG⟩
    ·have hltz2 : ¬ (i2 : Int) < (ps.length : Int) := by omega
     go_wp2_with (first
      | (go_at_call 14; with_reducible refine (HSA.out _ Aw cw (below_step HB.out HM.out) (Kd.C_below HCW.out HM.out) HCWc.out).mono ?_; rintro e w9 ⟨rfl, hb⟩; have HBE := Aside0.mk (below_step (below_step HB.out HM.out) hb.below); clear hb))
     go_ret
     exact ⟨rfl, HBE.out⟩
theorem hopperlaw24_OrderKeeps.calls (k : Nat) (A0 : Option Addr) (c0 : Nat) (l0 : List (List (S36))) (a1 : Int) (A2 : Option Addr) (c2 : Nat) (l2 : List (S39)) (r : Bool) (w : World) (hr0 : Kd.C (Kd.slice 36 k36) w A0 l0.length l0) (hc0 : l0.length ≤ c0) (hr2 : Kd.C k39 w A2 l2.length l2) (hc2 : l2.length ≤ c2) (hT : Facts w) (h : hopperlaw24_OrderKeeps.f k l0 a1 l2 = some r) :
  Calls Tryd.prog 8 #[.slice A0 l0.length c0, .int .i64 a1, .slice A2 l2.length c2] w fun e w' => e = .returned (.bool r) ∧ Below w.heap.size w w' := by
 unfold hopperlaw24_OrderKeeps.f lawKeepsP at h
 obtain ⟨t, haw, h⟩ := Option.bind_eq_some_iff.1 h
 cases t with
 | false => rw [if_neg (by decide)] at h; cases h
 | true =>
 rw [if_pos rfl] at h; obtain ⟨b, h0, h⟩ := Option.bind_eq_some_iff.1 h
 cases b with
 | false => rw [if_neg (by decide)] at h; obtain rfl := Option.some.inj h; exact hopperlaw24_OrderKeeps.e0 k A0 c0 l0 a1 A2 c2 l2 w hr0 hc0 hr2 hc2 hT haw h0
 | true =>
 rw [if_pos rfl] at h; obtain ⟨b, h1, h⟩ := Option.bind_eq_some_iff.1 h
 cases b with
 | false => rw [if_neg (by decide)] at h; obtain rfl := Option.some.inj h; exact hopperlaw24_OrderKeeps.e1 k A0 c0 l0 a1 A2 c2 l2 w hr0 hc0 hr2 hc2 hT haw h0 h1
 | true =>
 rw [if_pos rfl] at h; by_cases hf : fineB l0 = true
 case neg => rw [if_neg hf] at h; cases h
 rw [if_pos hf] at h; obtain ⟨r1, h2, h⟩ := Option.bind_eq_some_iff.1 h
 obtain ⟨r2, h3, h⟩ := Option.bind_eq_some_iff.1 h
 by_cases hl : r1.length + r2.length ≤ 100000
 case neg => rw [if_neg hl] at h; cases h
 rw [if_pos hl] at h; obtain ⟨s, h4, h⟩ := Option.bind_eq_some_iff.1 h
 cases s with
 | false => rw [if_neg (by decide)] at h; cases h
 | true =>
 rw [if_pos rfl] at h; obtain rfl := Option.some.inj h
 exact hopperlaw24_OrderKeeps.main k A0 c0 l0 a1 A2 c2 l2 w hr0 hc0 hr2 hc2 hT haw h0 h1 hf r1 r2 h2 h3 hl h4

/-- THE ONE PURE STATEMENT of hopperlaw24_OrderKeeps: yours. -/
def hopperlaw24_OrderKeeps.Pure : Prop := ∀ (l0 : List (List (S36))) (a1 : Int) (l2 : List (S39)), (WfSl (WfSl Wf36)) l0 → (fun x_ : Int => (Lit.int .i64 x_).wf = true) a1 → (WfSl Wf39) l2 → ∃ k, hopperlaw24_OrderKeeps.f k l0 a1 l2 = some true

end Go.Proofs.YtdojgfkcpaeacaaDoor.Q
