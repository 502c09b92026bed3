-- PRINTED by print.py (a twelfth state) out of the translation. Not trusted: Lean checks it.
import Derived.Test.YtdccooaddoafnaaDoorQx0
import Derived.Test.YtdccooaddoafnaaDoorQx6
import Derived.Test.YtdccooaddoafnaaDoorQx7
namespace Go.Proofs.YtdccooaddoafnaaDoor.Q
open Go.RowKit Go.Proofs.YtdccooaddoafnaaDoorW.PrintWords Go.Proofs.YtdccooaddoafnaaDoorW.PrintLast Go.Proofs.YtdccooaddoafnaaDoorW.PrintMore
attribute [local go_sem] str_gtr str_geq str_leq max2_int min2_int max_two min_two max_three min_three max_four min_four
set_option linter.unusedVariables false
set_option maxHeartbeats 8000000
set_option maxRecDepth 1000000
set_option linter.unusedSimpArgs false

/-! ### need_Skip: function 14 -/
-- told by hand
/-- slices.IndexFunc, handed the closure. -/
theorem need_Skip.kids1.index (g : S24 → Option Bool) (v1 : Value) (A0 : Option Addr) (c0 : Nat) (l0 : List (S24)) (z : Int) (w : World) (hr : Kd.C k24 w A0 l0.length l0) (hcl : ∀ (x : S24) (c : List Value) (b : Bool) (W : World), x ∈ l0 → Below w.heap.size w W → k24.K W x c → g x = some b → Calls Tryd.prog 22 #[.agg c.toArray, v1] W fun e w' => e = .returned (.bool b) ∧ Below W.heap.size W w') (h : findE g l0 0 = some z) :
  Calls Tryd.prog 38 #[.slice A0 l0.length c0, .func (.func 22) #[] #[v1]] w fun e w' => e = .returned (.int .i64 z) ∧ Below w.heap.size w w' := by
 have hn : l0.length ≤ 9223372036854775807 := hr.2.1; have HR := Aside0.mk hr; have HCL := Aside0.mk hcl; have HN := Aside0.mk hn; have HH := Aside0.mk h; have HAGG := Aside0.mk (show ∀ W, (isAgg 24).run Tryd.prog W = .ok true W from fun W => by first | exact Tryd.isAgg24 | exact Tryd.isAgg24 W | go_simp)
 have HSZ := Aside0.mk (show ∀ W, (sizeOf 24).run Tryd.prog W = .ok 6 W from fun W => by first | exact Tryd.sizeOf24 | exact Tryd.sizeOf24 W | go_simp)
 clear hr hcl hn h; go_enter Tryd.func38, Tryd.ntmps38
 go_wp2
 go_loopg [5, 8] l0.length (fun gg v5 s8 wr => ∃ i : Nat, i ≤ l0.length ∧ l0.length - i ≤ gg ∧ s8 = .int .i64 i ∧ Aside0 (Below w.heap.size w wr) ∧ Aside0 (findE g (l0.drop i) i = some z))
 case atStart => exact ⟨0, Nat.zero_le _, by omega, rfl, ⟨Below.refl _ w⟩, HH⟩
 case round =>
  clear HH; obtain ⟨i, hi, hg, rfl, BW, HF⟩ := hrel; have hn := HN.out; by_cases hlt : i < l0.length
  ·have hltz : (i : Int) < (l0.length : Int) := by omega
   have hi0 : (0 : Int) ≤ (i : Int) := by omega
   have hks := HF.out; rw [drop_getE z24 l0 i hlt] at hks
   simp only [findE] at hks
   obtain ⟨b, hb, hks⟩ := Option.bind_eq_some_iff.1 hks
   obtain ⟨ad, c, e0, hcl, hKu, hcell⟩ := Kd.C_elem HR.out z24 i hlt
   replace hcell : ∀ j v, c[j]? = some v → w.cell? ((ad.add (i * 6)).add j) = some v := hcell
   replace hcl : c.length = 6 := hcl
   subst e0; have HCALL := Aside0.mk (HCL.out (l0.getD i z24) c b wr (getD_mem _ _ _ hlt) BW.out (k24.K_below BW.out hKu) hb)
   have HCLN := Aside0.mk hcl; have HCELL := Aside0.mk (show ∀ j v, c[j]? = some v → wr.cell? ((ad.add (i * 6)).add j) = some v from fun j v hj => (BW.out.cell (World.block_lt_of_cell? w _ (hcell j v hj))).trans (hcell j v hj))
   clear hKu hb HF hcl hcell hn
   cases b with
   | true =>
    rw [if_pos rfl] at hks; obtain rfl := Option.some.inj hks
    clear hks
    go_wp2_with (first
     | ((with_reducible refine gate_dst (N := 15) rfl ?_); refine load_all rfl rfl (cs := c) rfl HAGG.out (fun W => by rw [HCLN.out]; exact HSZ.out W) HCELL.out ?_)
     | (go_at_call 22; refine HCALL.out.mono ?_; rintro e w' ⟨rfl, hb'⟩))
    go_ret
    exact ⟨rfl, below_step BW.out hb'⟩
   | false =>
    rw [if_neg (by decide)] at hks
    have HF := Aside0.mk hks; clear hks
    go_wp2_with (first
     | ((with_reducible refine gate_dst (N := 15) rfl ?_); refine load_all rfl rfl (cs := c) rfl HAGG.out (fun W => by rw [HCLN.out]; exact HSZ.out W) HCELL.out ?_)
     | (go_at_call 22; refine HCALL.out.mono ?_; rintro e w' ⟨rfl, hb'⟩))
    go_roundg (l0.length - (i + 1))
    case measure => omega
    case rel => have hn := HN.out; exact ⟨i + 1, by omega, by omega, by first | go_num | (congr 1; unfold wrap64; omega), ⟨below_step BW.out hb'⟩, HF⟩
  ·have hltz : ¬ (i : Int) < (l0.length : Int) := by omega
   have hks := HF.out; rw [List.drop_of_length_le (by omega)] at hks
   simp only [findE] at hks
   obtain rfl := Option.some.inj hks
   clear hks HF hn; go_wp2
   go_ret
   exact ⟨rfl, BW.out⟩
/-- slices.ContainsFunc, handed the closure. -/
theorem need_Skip.kids1.contains (g : S24 → Option Bool) (v1 : Value) (A0 : Option Addr) (c0 : Nat) (l0 : List (S24)) (r : Bool) (w : World) (hr : Kd.C k24 w A0 l0.length l0) (hcl : ∀ (x : S24) (c : List Value) (b : Bool) (W : World), x ∈ l0 → Below w.heap.size w W → k24.K W x c → g x = some b → Calls Tryd.prog 22 #[.agg c.toArray, v1] W fun e w' => e = .returned (.bool b) ∧ Below W.heap.size W w') (h : anyE g l0 = some r) :
  Calls Tryd.prog 23 #[.slice A0 l0.length c0, .func (.func 22) #[] #[v1]] w fun e w' => e = .returned (.bool r) ∧ Below w.heap.size w w' := by
 obtain ⟨z, hz, e⟩ := findE_any g l0 0 r h
 have HI := Aside0.mk (need_Skip.kids1.index g v1 A0 c0 l0 z w hr hcl hz)
 clear h hz hcl hr
 cases r with
 | true =>
  have hz0 : (0 : Int) ≤ z := of_decide_eq_true e; go_enter Tryd.func23, Tryd.ntmps23
  go_wp2_with (go_at_call 38; refine HI.out.mono ?_; rintro e w' ⟨rfl, hb'⟩)
  go_ret
  exact ⟨rfl, hb'⟩
 | false =>
  have hz0 : ¬ (0 : Int) ≤ z := of_decide_eq_false e; go_enter Tryd.func23, Tryd.ntmps23
  go_wp2_with (go_at_call 38; refine HI.out.mono ?_; rintro e w' ⟨rfl, hb'⟩)
  go_ret
  exact ⟨rfl, hb'⟩
/-- slices.IndexFunc, handed the closure. -/
theorem need_Skip.kids2.index (g : S24 → Option Bool) (v1 : Value) (A0 : Option Addr) (c0 : Nat) (l0 : List (S24)) (z : Int) (w : World) (hr : Kd.C k24 w A0 l0.length l0) (hcl : ∀ (x : S24) (c : List Value) (b : Bool) (W : World), x ∈ l0 → Below w.heap.size w W → k24.K W x c → g x = some b → Calls Tryd.prog 24 #[.agg c.toArray, v1] W fun e w' => e = .returned (.bool b) ∧ Below W.heap.size W w') (h : findE g l0 0 = some z) :
  Calls Tryd.prog 38 #[.slice A0 l0.length c0, .func (.func 24) #[] #[v1]] w fun e w' => e = .returned (.int .i64 z) ∧ Below w.heap.size w w' := by
 have hn : l0.length ≤ 9223372036854775807 := hr.2.1; have HR := Aside0.mk hr; have HCL := Aside0.mk hcl; have HN := Aside0.mk hn; have HH := Aside0.mk h; have HAGG := Aside0.mk (show ∀ W, (isAgg 24).run Tryd.prog W = .ok true W from fun W => by first | exact Tryd.isAgg24 | exact Tryd.isAgg24 W | go_simp)
 have HSZ := Aside0.mk (show ∀ W, (sizeOf 24).run Tryd.prog W = .ok 6 W from fun W => by first | exact Tryd.sizeOf24 | exact Tryd.sizeOf24 W | go_simp)
 clear hr hcl hn h; go_enter Tryd.func38, Tryd.ntmps38
 go_wp2
 go_loopg [5, 8] l0.length (fun gg v5 s8 wr => ∃ i : Nat, i ≤ l0.length ∧ l0.length - i ≤ gg ∧ s8 = .int .i64 i ∧ Aside0 (Below w.heap.size w wr) ∧ Aside0 (findE g (l0.drop i) i = some z))
 case atStart => exact ⟨0, Nat.zero_le _, by omega, rfl, ⟨Below.refl _ w⟩, HH⟩
 case round =>
  clear HH; obtain ⟨i, hi, hg, rfl, BW, HF⟩ := hrel; have hn := HN.out; by_cases hlt : i < l0.length
  ·have hltz : (i : Int) < (l0.length : Int) := by omega
   have hi0 : (0 : Int) ≤ (i : Int) := by omega
   have hks := HF.out; rw [drop_getE z24 l0 i hlt] at hks
   simp only [findE] at hks
   obtain ⟨b, hb, hks⟩ := Option.bind_eq_some_iff.1 hks
   obtain ⟨ad, c, e0, hcl, hKu, hcell⟩ := Kd.C_elem HR.out z24 i hlt
   replace hcell : ∀ j v, c[j]? = some v → w.cell? ((ad.add (i * 6)).add j) = some v := hcell
   replace hcl : c.length = 6 := hcl
   subst e0; have HCALL := Aside0.mk (HCL.out (l0.getD i z24) c b wr (getD_mem _ _ _ hlt) BW.out (k24.K_below BW.out hKu) hb)
   have HCLN := Aside0.mk hcl; have HCELL := Aside0.mk (show ∀ j v, c[j]? = some v → wr.cell? ((ad.add (i * 6)).add j) = some v from fun j v hj => (BW.out.cell (World.block_lt_of_cell? w _ (hcell j v hj))).trans (hcell j v hj))
   clear hKu hb HF hcl hcell hn
   cases b with
   | true =>
    rw [if_pos rfl] at hks; obtain rfl := Option.some.inj hks
    clear hks
    go_wp2_with (first
     | ((with_reducible refine gate_dst (N := 15) rfl ?_); refine load_all rfl rfl (cs := c) rfl HAGG.out (fun W => by rw [HCLN.out]; exact HSZ.out W) HCELL.out ?_)
     | (go_at_call 24; refine HCALL.out.mono ?_; rintro e w' ⟨rfl, hb'⟩))
    go_ret
    exact ⟨rfl, below_step BW.out hb'⟩
   | false =>
    rw [if_neg (by decide)] at hks
    have HF := Aside0.mk hks; clear hks
    go_wp2_with (first
     | ((with_reducible refine gate_dst (N := 15) rfl ?_); refine load_all rfl rfl (cs := c) rfl HAGG.out (fun W => by rw [HCLN.out]; exact HSZ.out W) HCELL.out ?_)
     | (go_at_call 24; refine HCALL.out.mono ?_; rintro e w' ⟨rfl, hb'⟩))
    go_roundg (l0.length - (i + 1))
    case measure => omega
    case rel => have hn := HN.out; exact ⟨i + 1, by omega, by omega, by first | go_num | (congr 1; unfold wrap64; omega), ⟨below_step BW.out hb'⟩, HF⟩
  ·have hltz : ¬ (i : Int) < (l0.length : Int) := by omega
   have hks := HF.out; rw [List.drop_of_length_le (by omega)] at hks
   simp only [findE] at hks
   obtain rfl := Option.some.inj hks
   clear hks HF hn; go_wp2
   go_ret
   exact ⟨rfl, BW.out⟩
/-- slices.ContainsFunc, handed the closure. -/
theorem need_Skip.kids2.contains (g : S24 → Option Bool) (v1 : Value) (A0 : Option Addr) (c0 : Nat) (l0 : List (S24)) (r : Bool) (w : World) (hr : Kd.C k24 w A0 l0.length l0) (hcl : ∀ (x : S24) (c : List Value) (b : Bool) (W : World), x ∈ l0 → Below w.heap.size w W → k24.K W x c → g x = some b → Calls Tryd.prog 24 #[.agg c.toArray, v1] W fun e w' => e = .returned (.bool b) ∧ Below W.heap.size W w') (h : anyE g l0 = some r) :
  Calls Tryd.prog 23 #[.slice A0 l0.length c0, .func (.func 24) #[] #[v1]] w fun e w' => e = .returned (.bool r) ∧ Below w.heap.size w w' := by
 obtain ⟨z, hz, e⟩ := findE_any g l0 0 r h
 have HI := Aside0.mk (need_Skip.kids2.index g v1 A0 c0 l0 z w hr hcl hz)
 clear h hz hcl hr
 cases r with
 | true =>
  have hz0 : (0 : Int) ≤ z := of_decide_eq_true e; go_enter Tryd.func23, Tryd.ntmps23
  go_wp2_with (go_at_call 38; refine HI.out.mono ?_; rintro e w' ⟨rfl, hb'⟩)
  go_ret
  exact ⟨rfl, hb'⟩
 | false =>
  have hz0 : ¬ (0 : Int) ≤ z := of_decide_eq_false e; go_enter Tryd.func23, Tryd.ntmps23
  go_wp2_with (go_at_call 38; refine HI.out.mono ?_; rintro e w' ⟨rfl, hb'⟩)
  go_ret
  exact ⟨rfl, hb'⟩
/-- slices.IndexFunc, handed the closure. -/
theorem need_Skip.strs.index (g : ByteArray → Option Bool) (v1 : Value) (v2 : Value) (A0 : Option Addr) (c0 : Nat) (l0 : List (ByteArray)) (z : Int) (w : World) (hr : Kd.C Kd.string w A0 l0.length l0) (hcl : ∀ (x : ByteArray) (b : Bool) (W : World), x ∈ l0 → Below w.heap.size w W → g x = some b → Calls Tryd.prog 27 #[.string x, v1, v2] W fun e w' => e = .returned (.bool b) ∧ Below W.heap.size W w') (h : findE g l0 0 = some z) :
  Calls Tryd.prog 39 #[.slice A0 l0.length c0, .func (.func 27) #[] #[v1, v2]] w fun e w' => e = .returned (.int .i64 z) ∧ Below w.heap.size w w' := by
 have hn : l0.length ≤ 9223372036854775807 := hr.2.1; have HR := Aside0.mk hr; have HCL := Aside0.mk hcl; have HN := Aside0.mk hn; have HH := Aside0.mk h; clear hr hcl hn h; go_enter Tryd.func39, Tryd.ntmps39
 go_wp2
 go_loopg [5, 8] l0.length (fun gg v5 s8 wr => ∃ i : Nat, i ≤ l0.length ∧ l0.length - i ≤ gg ∧ s8 = .int .i64 i ∧ Aside0 (Below w.heap.size w wr) ∧ Aside0 (findE g (l0.drop i) i = some z))
 case atStart => exact ⟨0, Nat.zero_le _, by omega, rfl, ⟨Below.refl _ w⟩, HH⟩
 case round =>
  clear HH; obtain ⟨i, hi, hg, rfl, BW, HF⟩ := hrel; have hn := HN.out; by_cases hlt : i < l0.length
  ·have hltz : (i : Int) < (l0.length : Int) := by omega
   have hi0 : (0 : Int) ≤ (i : Int) := by omega
   have hks := HF.out; rw [drop_getE ByteArray.empty l0 i hlt] at hks
   simp only [findE] at hks
   obtain ⟨b, hb, hks⟩ := Option.bind_eq_some_iff.1 hks
   obtain ⟨ad, e0, hx⟩ := Kd.at_string HR.out (i : Int) hi0 hltz
   rw [show ((i : Int)).toNat = i by omega] at hx
   have hx2 : w.cell? (ad.add i) = some (.string (l0.getD i ByteArray.empty)) := by simpa [rdOf, Int.toNat_natCast] using hx
   subst e0; have hcell := (BW.out.cell (World.block_lt_of_cell? w _ hx2)).trans hx2
   have hmem := getD_mem ByteArray.empty l0 i hlt; clear hx hx2; generalize hy : l0.getD i ByteArray.empty = y at hb hcell hmem
   clear hy; have HCALL := Aside0.mk (HCL.out y b wr hmem BW.out hb)
   clear hb hmem HF hn
   cases b with
   | true =>
    rw [if_pos rfl] at hks; obtain rfl := Option.some.inj hks
    clear hks; go_wp2_with (go_at_call 27; refine HCALL.out.mono ?_; rintro e w' ⟨rfl, hb'⟩)
    go_ret
    exact ⟨rfl, below_step BW.out hb'⟩
   | false =>
    rw [if_neg (by decide)] at hks
    have HF := Aside0.mk hks; clear hks; go_wp2_with (go_at_call 27; refine HCALL.out.mono ?_; rintro e w' ⟨rfl, hb'⟩)
    go_roundg (l0.length - (i + 1))
    case measure => omega
    case rel => have hn := HN.out; exact ⟨i + 1, by omega, by omega, by first | go_num | (congr 1; unfold wrap64; omega), ⟨below_step BW.out hb'⟩, HF⟩
  ·have hltz : ¬ (i : Int) < (l0.length : Int) := by omega
   have hks := HF.out; rw [List.drop_of_length_le (by omega)] at hks
   simp only [findE] at hks
   obtain rfl := Option.some.inj hks
   clear hks HF hn; go_wp2
   go_ret
   exact ⟨rfl, BW.out⟩
/-- slices.ContainsFunc, handed the closure. -/
theorem need_Skip.strs.contains (g : ByteArray → Option Bool) (v1 : Value) (v2 : Value) (A0 : Option Addr) (c0 : Nat) (l0 : List (ByteArray)) (r : Bool) (w : World) (hr : Kd.C Kd.string w A0 l0.length l0) (hcl : ∀ (x : ByteArray) (b : Bool) (W : World), x ∈ l0 → Below w.heap.size w W → g x = some b → Calls Tryd.prog 27 #[.string x, v1, v2] W fun e w' => e = .returned (.bool b) ∧ Below W.heap.size W w') (h : anyE g l0 = some r) :
  Calls Tryd.prog 25 #[.slice A0 l0.length c0, .func (.func 27) #[] #[v1, v2]] w fun e w' => e = .returned (.bool r) ∧ Below w.heap.size w w' := by
 obtain ⟨z, hz, e⟩ := findE_any g l0 0 r h
 have HI := Aside0.mk (need_Skip.strs.index g v1 v2 A0 c0 l0 z w hr hcl hz)
 clear h hz hcl hr
 cases r with
 | true =>
  have hz0 : (0 : Int) ≤ z := of_decide_eq_true e; go_enter Tryd.func25, Tryd.ntmps25
  go_wp2_with (go_at_call 39; refine HI.out.mono ?_; rintro e w' ⟨rfl, hb'⟩)
  go_ret
  exact ⟨rfl, hb'⟩
 | false =>
  have hz0 : ¬ (0 : Int) ≤ z := of_decide_eq_false e; go_enter Tryd.func25, Tryd.ntmps25
  go_wp2_with (go_at_call 39; refine HI.out.mono ?_; rintro e w' ⟨rfl, hb'⟩)
  go_ret
  exact ⟨rfl, hb'⟩
def runsP (k : Nat) (p : S24) : Option (List ByteArray) := need_runs.f k p.f0 p.f1 p.f2 p.f3 p.f4 p.f5
/-- May a column's filter bear a string? -/
def mayAt (k : Nat) (f : List S50) (i : Int) (s : ByteArray) : Option Bool := if 0 ≤ i then if i < (f.length : Int) then mayP k (rd_T50 f i) s else none else none
def skipP : Nat → S24 → List S50 → Option Bool
 | 0, _, _ => none
 | k + 1, p, f => if p.f0 = 12 then anyE (fun q => skipP k q f) p.f5 else if p.f0 = 13 then (anyE (fun q => (skipP k q f).map (!·)) p.f5).map (!·) else if p.f0 = 14 then some false else
  (runsP k p).bind fun rs => anyE (fun s => (mayAt k f p.f1 s).map (!·)) rs
def need_Skip.f (k : Nat) (a0_0 : Int) (a0_1 : Int) (a0_2 : ByteArray) (a0_3 : Int) (a0_4 : Int) (l0_5 : List S24) (l1 : List S50) : Option Bool := skipP k ⟨a0_0, a0_1, a0_2, a0_3, a0_4, l0_5⟩ l1
/-- What a step below tells of the function itself. -/
def need_Skip.IH (k : Nat) : Prop := ∀ (p : S24) (cs : List Value) (Af : Option Addr) (cf : Nat) (f : List S50) (r : Bool) (w : World), k24.K w p cs → Kd.C k50 w Af f.length f → f.length ≤ cf → skipP k p f = some r →
  Calls Tryd.prog 14 #[.agg cs.toArray, .slice Af f.length cf] w fun e w' => e = .returned (.bool r) ∧ Below w.heap.size w w'
/-- The first closure. -/
theorem need_Skip.clo1 (k : Nat) (ih : need_Skip.IH k) (x : S24) (c : List Value) (Af : Option Addr) (cf : Nat) (f : List S50) (b : Bool) (w : World) (Bf : Nat) (hK : k24.K w x c) (hf : Kd.C k50 w Af f.length f) (hcf : f.length ≤ cf) (hc : w.heap[Bf]? = some (.cells #[.slice Af f.length cf] 31 (0, 0))) (h : skipP k x f = some b) :
  Calls Tryd.prog 22 #[.agg c.toArray, .pointer (some ⟨Bf, 0, none⟩)] w fun e w' => e = .returned (.bool b) ∧ Below w.heap.size w w' := by
 have HC := Aside0.mk hc; have HAGG := Aside0.mk (show ∀ W, (isAgg 24).run Tryd.prog W = .ok true W from fun W => by first | exact Tryd.isAgg24 | exact Tryd.isAgg24 W | go_simp)
 have HSZ := Aside0.mk (show ∀ W, (sizeOf 24).run Tryd.prog W = .ok 6 W from fun W => by first | exact Tryd.sizeOf24 | exact Tryd.sizeOf24 W | go_simp)
 have HL6 := Aside0.mk (show c.length = 6 from k24.K_len hK)
 have HCALL := Aside0.mk (fun W (hb : Below w.heap.size w W) => ih x c Af cf f b W (k24.K_below hb hK) (Kd.C_below hf hb) hcf h)
 clear hK h hc ih hf hcf; go_enter Tryd.func22, Tryd.ntmps22
 go_wp2_with (first
  | ((with_reducible refine gate_dst (N := 2) rfl ?_); refine box_all rfl rfl (cs := c.toArray) rfl (fun W => by rw [List.size_toArray, HL6.out]; exact HSZ.out W) ?_; intro w1 hbx hbw; have BW1 := Aside0.mk hbw; have BX1 := Aside0.mk hbx; have hcc : w1.cell? ⟨Bf, 0, none⟩ = some (.slice Af f.length cf) := cell0_of (blk_keep hbw HC.out); clear hbx hbw)
  | ((with_reducible refine gate_dst (N := 4) rfl ?_); refine load_all rfl rfl (cs := c) rfl HAGG.out (fun W => by rw [HL6.out]; exact HSZ.out W) (blk_cells BX1.out) ?_)
  | (go_at_call 14; refine (HCALL.out _ BW1.out).mono ?_; rintro e w5 ⟨rfl, hb5⟩; have BW5 := Aside0.mk (below_step BW1.out hb5); clear hb5))
 go_ret
 exact ⟨rfl, BW5.out⟩
/-- The second closure. -/
theorem need_Skip.clo2 (k : Nat) (ih : need_Skip.IH k) (x : S24) (c : List Value) (Af : Option Addr) (cf : Nat) (f : List S50) (b : Bool) (w : World) (Bf Bg : Nat) (hK : k24.K w x c) (hf : Kd.C k50 w Af f.length f) (hcf : f.length ≤ cf) (hc : w.heap[Bf]? = some (.cells #[.slice Af f.length cf] 31 (0, 0)))
  (hg : w.heap[Bg]? = some (.cells #[.func (.func 22) #[] #[.pointer (some ⟨Bf, 0, none⟩)]] 52 (0, 0))) (h : (skipP k x f).map (!·) = some b) :
  Calls Tryd.prog 24 #[.agg c.toArray, .pointer (some ⟨Bg, 0, none⟩)] w fun e w' => e = .returned (.bool b) ∧ Below w.heap.size w w' := by
 obtain ⟨b2, hb2, rfl⟩ := Option.map_eq_some_iff.1 h
 have HG := Aside0.mk hg; have HAGG := Aside0.mk (show ∀ W, (isAgg 24).run Tryd.prog W = .ok true W from fun W => by first | exact Tryd.isAgg24 | exact Tryd.isAgg24 W | go_simp)
 have HSZ := Aside0.mk (show ∀ W, (sizeOf 24).run Tryd.prog W = .ok 6 W from fun W => by first | exact Tryd.sizeOf24 | exact Tryd.sizeOf24 W | go_simp)
 have HL6 := Aside0.mk (show c.length = 6 from k24.K_len hK)
 have HCALL := Aside0.mk (fun W (hb : Below w.heap.size w W) => need_Skip.clo1 k ih x c Af cf f b2 W Bf (k24.K_below hb hK) (Kd.C_below hf hb) hcf (blk_keep hb hc) hb2)
 clear hK h hc ih hf hcf hg hb2; go_enter Tryd.func24, Tryd.ntmps24
 go_wp2_with (first
  | ((with_reducible refine gate_dst (N := 2) rfl ?_); refine box_all rfl rfl (cs := c.toArray) rfl (fun W => by rw [List.size_toArray, HL6.out]; exact HSZ.out W) ?_; intro w1 hbx hbw; have BW1 := Aside0.mk hbw; have BX1 := Aside0.mk hbx; have hcc : w1.cell? ⟨Bg, 0, none⟩ = some (.func (.func 22) #[] #[.pointer (some ⟨Bf, 0, none⟩)]) := cell0_of (blk_keep hbw HG.out); clear hbx hbw)
  | ((with_reducible refine gate_dst (N := 5) rfl ?_); refine load_all rfl rfl (cs := c) rfl HAGG.out (fun W => by rw [HL6.out]; exact HSZ.out W) (blk_cells BX1.out) ?_)
  | (go_at_call 22; refine (HCALL.out _ BW1.out).mono ?_; rintro e w5 ⟨rfl, hb5⟩; have BW5 := Aside0.mk (below_step BW1.out hb5); clear hb5))
 go_ret
 exact ⟨rfl, BW5.out⟩
/-- The third closure. -/
theorem need_Skip.clo3 (k : Nat) (s : ByteArray) (cs : List Value) (i : Int) (Af : Option Addr) (cf : Nat) (f : List S50) (b : Bool) (w : World) (Bf Bp : Nat) (hp1 : cs[1]? = some (.int .i64 i)) (hbp : w.heap[Bp]? = some (.cells cs.toArray 24 (0, 0))) (hf : Kd.C k50 w Af f.length f) (hcf : f.length ≤ cf) (hc : w.heap[Bf]? = some (.cells #[.slice Af f.length cf] 31 (0, 0))) (h : (mayAt k f i s).map (!·) = some b) :
  Calls Tryd.prog 27 #[.string s, .pointer (some ⟨Bf, 0, none⟩), .pointer (some ⟨Bp, 0, none⟩)] w fun e w' => e = .returned (.bool b) ∧ Below w.heap.size w w' := by
 obtain ⟨b2, hb2, rfl⟩ := Option.map_eq_some_iff.1 h
 unfold mayAt at hb2
 by_cases h0 : 0 ≤ i
 case neg => rw [if_neg h0] at hb2; cases hb2
 rw [if_pos h0] at hb2; by_cases hi : i < (f.length : Int)
 case neg => rw [if_neg hi] at hb2; cases hb2
 rw [if_pos hi] at hb2; obtain ⟨j, rfl⟩ : ∃ j : Nat, i = (j : Int) := ⟨i.toNat, by omega⟩
 have hj : j < f.length := by omega
 have hnf : f.length ≤ 9223372036854775807 := hf.2.1; obtain ⟨ad, c, e0, hcl, hKu, hcell⟩ := Kd.C_elem hf z50 j hj
 replace hcell : ∀ t v, c[t]? = some v → w.cell? ((ad.add (j * 3)).add t) = some v := hcell
 replace hcl : c.length = 3 := hcl
 have e2 : rd_T50 f (j : Int) = f.getD j z50 := by unfold rd_T50; rw [show ((j : Int)).toNat = j by omega]
 rw [e2] at hb2
 subst e0; have HAGGF := Aside0.mk (show ∀ W, (isAgg 50).run Tryd.prog W = .ok true W from fun W => by first | exact Tryd.isAgg50 | exact Tryd.isAgg50 W | go_simp)
 have HSZF := Aside0.mk (show ∀ W, (sizeOf 50).run Tryd.prog W = .ok 3 W from fun W => by first | exact Tryd.sizeOf50 | exact Tryd.sizeOf50 W | go_simp)
 have HCELL := Aside0.mk hcell; have HL3 := Aside0.mk hcl; have hcv1 : w.cell? ⟨Bp, 1, none⟩ = some (.int .i64 (j : Int)) := blk_cells hbp 1 _ hp1; have hcf0 : w.cell? ⟨Bf, 0, none⟩ = some (.slice (some ad) f.length cf) := cell0_of hc; have HCALL := Aside0.mk (gram_May.core k (f.getD j z50) c s b2 w hKu hb2)
 clear h hp1 hbp hf hc hb2 hKu hcell hcl e2; go_enter Tryd.func27, Tryd.ntmps27
 go_wp2_with (first
  | ((with_reducible refine gate_dst (N := 9) rfl ?_); refine load_all rfl rfl (cs := c) rfl HAGGF.out (fun W => by rw [HL3.out]; exact HSZF.out W) HCELL.out ?_)
  | (go_at_call 28; refine HCALL.out.mono ?_; rintro e w5 ⟨rfl, hb5⟩))
 go_ret
 exact ⟨rfl, hb5⟩
theorem need_Skip.core (k : Nat) : need_Skip.IH k := by
 induction k with
 | zero => intro p cs Af cf f r w _ _ _ h; cases h
 | succ k ih =>
 intro p cs Af cf f r w hK hf hcf h
 have hup := Tryd.underlying24; have HSZN := Aside0.mk (show ∀ W, (sizeOf 52).run Tryd.prog W = .ok 1 W from fun W => by go_simp)
 have HAGG := Aside0.mk (show ∀ W, (isAgg 24).run Tryd.prog W = .ok true W from fun W => by first | exact Tryd.isAgg24 | exact Tryd.isAgg24 W | go_simp)
 have HSZ := Aside0.mk (show ∀ W, (sizeOf 24).run Tryd.prog W = .ok 6 W from fun W => by first | exact Tryd.sizeOf24 | exact Tryd.sizeOf24 W | go_simp)
 unfold skipP at h
 have HL6 := Aside0.mk (show cs.length = 6 from k24.K_len hK)
 obtain ⟨A5, c5, ecs, hl5, hk5⟩ := k24_open hK
 have H0 := Aside0.mk (show cs[0]? = some (.int .i64 p.f0) from by rw [ecs]; rfl)
 have H1 := Aside0.mk (show cs[1]? = some (.int .i64 p.f1) from by rw [ecs]; rfl)
 have H2 := Aside0.mk (show cs[2]? = some (.string p.f2) from by rw [ecs]; rfl)
 have H3 := Aside0.mk (show cs[3]? = some (.int .i64 p.f3) from by rw [ecs]; rfl)
 have H4 := Aside0.mk (show cs[4]? = some (.int .i64 p.f4) from by rw [ecs]; rfl)
 have H5 := Aside0.mk (show cs[5]? = some (.slice A5 p.f5.length c5) from by rw [ecs]; rfl)
 have HK5 := Aside0.mk hk5; have HFC := Aside0.mk hf; have HFL := Aside0.mk hcf; have HRU0 := Aside0.mk (fun (rs : List ByteArray) (hrs : runsP k p = some rs) W (hb : Below w.heap.size w W) => show Calls Tryd.prog 26 #[.agg cs.toArray] W (fun e w' => ∃ v0_ : Value, e = .returned (v0_) ∧ Kd.R Kd.string 9 w' W.heap.size (fun _ => True) v0_ rs ∧ Below W.heap.size W w') from by rw [ecs]; exact need_runs.calls k p.f0 p.f1 p.f2 p.f3 p.f4 A5 c5 p.f5 rs W (Kd.C_below hk5 hb) hl5 hrs)
 have IH := Aside0.mk ih; clear hK hk5 hl5 ih ecs hf hcf; by_cases q12 : p.f0 = 12
 ·rw [if_pos q12] at h; have q12b : (p.f0 == 12) = true := beq_iff_eq.mpr q12; clear q12 HRU0; have HCT := Aside0.mk (fun W (Bf : Nat) (hb : Below w.heap.size w W) (hc : W.heap[Bf]? = some (.cells #[.slice Af f.length cf] 31 (0, 0))) => need_Skip.kids1.contains (fun q => skipP k q f) (.pointer (some ⟨Bf, 0, none⟩)) A5 c5 p.f5 r W (Kd.C_below HK5.out hb) (fun x c b W2 _ hb2 hKx hg => need_Skip.clo1 k IH.out x c Af cf f b W2 Bf hKx (Kd.C_below HFC.out (below_step hb hb2)) HFL.out (blk_keep hb2 hc) hg) h)
  clear h; go_enter Tryd.func14, Tryd.ntmps14
  go_wp2_with (first
   | ((with_reducible refine gate_dst (N := 2) rfl ?_); refine box_all rfl rfl (cs := cs.toArray) rfl (fun W => by rw [List.size_toArray, HL6.out]; exact HSZ.out W) ?_; intro w1 hbx hbw; have BW1 := Aside0.mk hbw; have BX1 := Aside0.mk hbx; clear hbx hbw)
   | ((with_reducible refine gate_dst (N := 3) rfl ?_); refine box_sl rfl rfl (A := Af) (n := f.length) (c := cf) rfl ?_; intro w2 hbx hbw; have BW2 := Aside0.mk (below_step BW1.out hbw); have BX2 := Aside0.mk (blk_keep hbw BX1.out); have BF2 := Aside0.mk hbx; clear hbx hbw BX1)
   | ((with_reducible refine gate_store (t := 52) (p := 5) rfl ?_); refine store_fn (g := w2.heap.size) rfl rfl rfl rfl rfl HSZN.out (heap_alloc_new w2 _) ?_; intro w3 hfn hoth hbel; have BN3 := Aside0.mk hfn; have BW3 := Aside0.mk (hbel w ((BW2.out).alloc (below_size BW2.out) _) (below_size BW2.out)); have BX3 := Aside0.mk ((hoth w.heap.size (by have := BW2.out; have h1 := blk_lt BX2.out; omega)).trans (blk_alloc BX2.out _)); have BF3 := Aside0.mk ((hoth w1.heap.size (by have h1 := blk_lt BF2.out; omega)).trans (blk_alloc BF2.out _)); have hcv0 : w3.cell? ⟨w.heap.size, 0, none⟩ = some (.int .i64 p.f0) := blk_cells BX3.out 0 _ H0.out; have hcv5 : w3.cell? ⟨w.heap.size, 5, none⟩ = some (.slice A5 p.f5.length c5) := blk_cells BX3.out 5 _ H5.out; have hcn : w3.cell? ⟨w2.heap.size, 0, none⟩ = some (.func (.func 22) #[] #[.pointer (some ⟨w1.heap.size, 0, none⟩)]) := cell0_of BN3.out; clear hfn hoth hbel BW2 BX2 BF2)
   | (go_at_call 23; refine (HCT.out _ w1.heap.size BW3.out BF3.out).mono ?_; rintro e w5 ⟨rfl, hb5⟩; have BW9 := Aside0.mk (below_step BW3.out hb5); clear hb5))
  go_ret
  exact ⟨rfl, BW9.out⟩
 rw [if_neg q12] at h; have q12b : (p.f0 == 12) = false := beq_eq_false_iff_ne.mpr q12; clear q12; by_cases q13 : p.f0 = 13
 ·rw [if_pos q13] at h; have q13b : (p.f0 == 13) = true := beq_iff_eq.mpr q13; clear q13 HRU0; obtain ⟨z, hz, rfl⟩ := Option.map_eq_some_iff.1 h
  have HCT := Aside0.mk (fun W (Bf Bg : Nat) (hb : Below w.heap.size w W) (hc : W.heap[Bf]? = some (.cells #[.slice Af f.length cf] 31 (0, 0))) (hg : W.heap[Bg]? = some (.cells #[.func (.func 22) #[] #[.pointer (some ⟨Bf, 0, none⟩)]] 52 (0, 0))) => need_Skip.kids2.contains (fun q => (skipP k q f).map (!·)) (.pointer (some ⟨Bg, 0, none⟩)) A5 c5 p.f5 z W (Kd.C_below HK5.out hb) (fun x c b W2 _ hb2 hKx hgx => need_Skip.clo2 k IH.out x c Af cf f b W2 Bf Bg hKx (Kd.C_below HFC.out (below_step hb hb2)) HFL.out (blk_keep hb2 hc) (blk_keep hb2 hg) hgx) hz)
  clear h hz; go_enter Tryd.func14, Tryd.ntmps14
  go_wp2_with (first
   | ((with_reducible refine gate_dst (N := 2) rfl ?_); refine box_all rfl rfl (cs := cs.toArray) rfl (fun W => by rw [List.size_toArray, HL6.out]; exact HSZ.out W) ?_; intro w1 hbx hbw; have BW1 := Aside0.mk hbw; have BX1 := Aside0.mk hbx; clear hbx hbw)
   | ((with_reducible refine gate_dst (N := 3) rfl ?_); refine box_sl rfl rfl (A := Af) (n := f.length) (c := cf) rfl ?_; intro w2 hbx hbw; have BW2 := Aside0.mk (below_step BW1.out hbw); have BX2 := Aside0.mk (blk_keep hbw BX1.out); have BF2 := Aside0.mk hbx; clear hbx hbw BX1)
   | ((with_reducible refine gate_store (t := 52) (p := 5) rfl ?_); refine store_fn (g := w2.heap.size) rfl rfl rfl rfl rfl HSZN.out (heap_alloc_new w2 _) ?_; intro w3 hfn hoth hbel; have BN3 := Aside0.mk hfn; have BW3 := Aside0.mk (hbel w ((BW2.out).alloc (below_size BW2.out) _) (below_size BW2.out)); have BX3 := Aside0.mk ((hoth w.heap.size (by have := BW2.out; have h1 := blk_lt BX2.out; omega)).trans (blk_alloc BX2.out _)); have BF3 := Aside0.mk ((hoth w1.heap.size (by have h1 := blk_lt BF2.out; omega)).trans (blk_alloc BF2.out _)); have hcv0 : w3.cell? ⟨w.heap.size, 0, none⟩ = some (.int .i64 p.f0) := blk_cells BX3.out 0 _ H0.out; have hcv5 : w3.cell? ⟨w.heap.size, 5, none⟩ = some (.slice A5 p.f5.length c5) := blk_cells BX3.out 5 _ H5.out; have hcn : w3.cell? ⟨w2.heap.size, 0, none⟩ = some (.func (.func 22) #[] #[.pointer (some ⟨w1.heap.size, 0, none⟩)]) := cell0_of BN3.out; clear hfn hoth hbel BW2 BX2 BF2)
   | (go_at_call 23; refine (HCT.out _ w1.heap.size w2.heap.size BW3.out BF3.out BN3.out).mono ?_; rintro e w5 ⟨rfl, hb5⟩; have BW9 := Aside0.mk (below_step BW3.out hb5); clear hb5))
  go_ret
  exact ⟨rfl, BW9.out⟩
 rw [if_neg q13] at h; have q13b : (p.f0 == 13) = false := beq_eq_false_iff_ne.mpr q13; clear q13; by_cases q14 : p.f0 = 14
 ·rw [if_pos q14] at h; obtain rfl := Option.some.inj h
  have q14b : (p.f0 == 14) = true := beq_iff_eq.mpr q14; clear q14 HRU0 h; go_enter Tryd.func14, Tryd.ntmps14
  go_wp2_with (first
   | ((with_reducible refine gate_dst (N := 2) rfl ?_); refine box_all rfl rfl (cs := cs.toArray) rfl (fun W => by rw [List.size_toArray, HL6.out]; exact HSZ.out W) ?_; intro w1 hbx hbw; have BW1 := Aside0.mk hbw; have BX1 := Aside0.mk hbx; clear hbx hbw)
   | ((with_reducible refine gate_dst (N := 3) rfl ?_); refine box_sl rfl rfl (A := Af) (n := f.length) (c := cf) rfl ?_; intro w2 hbx hbw; have BW2 := Aside0.mk (below_step BW1.out hbw); have BX2 := Aside0.mk (blk_keep hbw BX1.out); have BF2 := Aside0.mk hbx; clear hbx hbw BX1)
   | ((with_reducible refine gate_store (t := 52) (p := 5) rfl ?_); refine store_fn (g := w2.heap.size) rfl rfl rfl rfl rfl HSZN.out (heap_alloc_new w2 _) ?_; intro w3 hfn hoth hbel; have BN3 := Aside0.mk hfn; have BW3 := Aside0.mk (hbel w ((BW2.out).alloc (below_size BW2.out) _) (below_size BW2.out)); have BX3 := Aside0.mk ((hoth w.heap.size (by have := BW2.out; have h1 := blk_lt BX2.out; omega)).trans (blk_alloc BX2.out _)); have BF3 := Aside0.mk ((hoth w1.heap.size (by have h1 := blk_lt BF2.out; omega)).trans (blk_alloc BF2.out _)); have hcv0 : w3.cell? ⟨w.heap.size, 0, none⟩ = some (.int .i64 p.f0) := blk_cells BX3.out 0 _ H0.out; have hcv5 : w3.cell? ⟨w.heap.size, 5, none⟩ = some (.slice A5 p.f5.length c5) := blk_cells BX3.out 5 _ H5.out; have hcn : w3.cell? ⟨w2.heap.size, 0, none⟩ = some (.func (.func 22) #[] #[.pointer (some ⟨w1.heap.size, 0, none⟩)]) := cell0_of BN3.out; clear hfn hoth hbel BW2 BX2 BF2))
  go_ret
  exact ⟨rfl, BW3.out⟩
 rw [if_neg q14] at h; have q14b : (p.f0 == 14) = false := beq_eq_false_iff_ne.mpr q14; clear q14; obtain ⟨rs, hrs, h⟩ := Option.bind_eq_some_iff.1 h
 have HRU := Aside0.mk (HRU0.out rs hrs)
 have HCT := Aside0.mk (fun W (Bf Bp : Nat) (A : Option Addr) (c : Nat) (hb : Below w.heap.size w W) (hr : Kd.C Kd.string W A rs.length rs) (hc : W.heap[Bf]? = some (.cells #[.slice Af f.length cf] 31 (0, 0))) (hp : W.heap[Bp]? = some (.cells cs.toArray 24 (0, 0))) => need_Skip.strs.contains (fun s => (mayAt k f p.f1 s).map (!·)) (.pointer (some ⟨Bf, 0, none⟩)) (.pointer (some ⟨Bp, 0, none⟩)) A c rs r W hr (fun x b W2 _ hb2 hg => need_Skip.clo3 k x cs p.f1 Af cf f b W2 Bf Bp H1.out (blk_keep hb2 hp) (Kd.C_below HFC.out (below_step hb hb2)) HFL.out (blk_keep hb2 hc) hg) h)
 clear h hrs HRU0; go_enter Tryd.func14, Tryd.ntmps14
 go_wp2_with (first
  | ((with_reducible refine gate_dst (N := 2) rfl ?_); refine box_all rfl rfl (cs := cs.toArray) rfl (fun W => by rw [List.size_toArray, HL6.out]; exact HSZ.out W) ?_; intro w1 hbx hbw; have BW1 := Aside0.mk hbw; have BX1 := Aside0.mk hbx; clear hbx hbw)
  | ((with_reducible refine gate_dst (N := 3) rfl ?_); refine box_sl rfl rfl (A := Af) (n := f.length) (c := cf) rfl ?_; intro w2 hbx hbw; have BW2 := Aside0.mk (below_step BW1.out hbw); have BX2 := Aside0.mk (blk_keep hbw BX1.out); have BF2 := Aside0.mk hbx; clear hbx hbw BX1)
  | ((with_reducible refine gate_store (t := 52) (p := 5) rfl ?_); refine store_fn (g := w2.heap.size) rfl rfl rfl rfl rfl HSZN.out (heap_alloc_new w2 _) ?_; intro w3 hfn hoth hbel; have BN3 := Aside0.mk hfn; have BW3 := Aside0.mk (hbel w ((BW2.out).alloc (below_size BW2.out) _) (below_size BW2.out)); have BX3 := Aside0.mk ((hoth w.heap.size (by have := BW2.out; have h1 := blk_lt BX2.out; omega)).trans (blk_alloc BX2.out _)); have BF3 := Aside0.mk ((hoth w1.heap.size (by have h1 := blk_lt BF2.out; omega)).trans (blk_alloc BF2.out _)); have hcv0 : w3.cell? ⟨w.heap.size, 0, none⟩ = some (.int .i64 p.f0) := blk_cells BX3.out 0 _ H0.out; have hcv5 : w3.cell? ⟨w.heap.size, 5, none⟩ = some (.slice A5 p.f5.length c5) := blk_cells BX3.out 5 _ H5.out; have hcn : w3.cell? ⟨w2.heap.size, 0, none⟩ = some (.func (.func 22) #[] #[.pointer (some ⟨w1.heap.size, 0, none⟩)]) := cell0_of BN3.out; clear hfn hoth hbel BW2 BX2 BF2)
  | ((with_reducible refine gate_dst (N := 24) rfl ?_); refine load_all rfl rfl (cs := cs) rfl HAGG.out (fun W => by rw [HL6.out]; exact HSZ.out W) (blk_cells BX3.out) ?_)
  | (go_at_call 26; refine (HRU.out _ BW3.out).mono ?_; rintro e w5 ⟨v5, rfl, hR5, hb5⟩; obtain ⟨Ar, cr, rfl, hlr, hCr⟩ := Kd.R_reads hR5; have HCR := Aside0.mk hCr; have BW5 := Aside0.mk (below_step BW3.out hb5); have BX5 := Aside0.mk (blk_keep hb5 BX3.out); have BF5 := Aside0.mk (blk_keep hb5 BF3.out); clear hb5 hR5 hlr hCr)
  | (go_at_call 25; refine (HCT.out _ w1.heap.size w.heap.size Ar cr BW5.out HCR.out BF5.out BX5.out).mono ?_; rintro e w6 ⟨rfl, hb6⟩; have BW9 := Aside0.mk (below_step BW5.out hb6); clear hb6))
 go_ret
 exact ⟨rfl, BW9.out⟩
theorem need_Skip.calls (k : Nat) (a0_0 : Int) (a0_1 : Int) (a0_2 : ByteArray) (a0_3 : Int) (a0_4 : Int) (A0_5 : Option Addr) (c0_5 : Nat) (l0_5 : List (S24)) (A1 : Option Addr) (c1 : Nat) (l1 : List (S50)) (r : Bool) (w : World) (hr0_5 : Kd.C k24 w A0_5 l0_5.length l0_5) (hc0_5 : l0_5.length ≤ c0_5) (hr1 : Kd.C k50 w A1 l1.length l1) (hc1 : l1.length ≤ c1) (h : need_Skip.f k a0_0 a0_1 a0_2 a0_3 a0_4 l0_5 l1 = some r) :
  Calls Tryd.prog 14 #[.agg #[.int .i64 a0_0, .int .i64 a0_1, .string a0_2, .int .i64 a0_3, .int .i64 a0_4, .slice A0_5 l0_5.length c0_5], .slice A1 l1.length c1] w fun e w' => e = .returned (.bool r) ∧ Below w.heap.size w w' :=
 need_Skip.core k ⟨a0_0, a0_1, a0_2, a0_3, a0_4, l0_5⟩ _ A1 c1 l1 r w (k24_mk w ⟨a0_0, a0_1, a0_2, a0_3, a0_4, l0_5⟩ hc0_5 hr0_5) hr1 hc1 h

/-! ### need_yes: function 32 -/
def need_yes.f (a0 : Bool) : Option (Int) := if a0 = true then (some 1) else (some 0)
theorem need_yes.calls (a0 : Bool) (r : Int) (w : World) (h : need_yes.f a0 = some r) :
  Calls Tryd.prog 32 #[.bool a0] w fun e w' => e = .returned (.int .i64 r) ∧ Drawn0 w w' := by
 have H : (if a0 = true then (some 1) else (some 0)) = some r := h; clear h; by_cases c2 : a0 = true
 ·subst c2; have H1 : (some 1) = some r := by rw [if_pos rfl] at H; exact H
  clear H; have H := H1; clear H1; obtain rfl := Option.some.inj H
  go_enter Tryd.func32, Tryd.ntmps32
  go_wp2
  go_ret
  exact exD
 ·replace c2 := Bool.eq_false_iff.mpr c2; subst c2; have H1 : (some 0) = some r := by rw [if_neg (show ¬ (false = true) by decide)] at H; exact H
  clear H; have H := H1; clear H1; obtain rfl := Option.some.inj H
  go_enter Tryd.func32, Tryd.ntmps32
  go_wp2
  go_ret
  exact exD

/-! ### stringslite_HasPrefix: function 60 -/
def stringslite_HasPrefix.f (a0 : ByteArray) (a1 : ByteArray) : Option (Bool) := if (a0.size : Int) ≥ (a1.size : Int) then (if 0 ≤ (a1.size : Int) then (if (a1.size : Int) ≤ (a0.size : Int) then (some ((a0.extract 0 (a1.size)).toList == a1.toList)) else (none)) else (none)) else (some false)
theorem stringslite_HasPrefix.calls (a0 : ByteArray) (a1 : ByteArray) (r : Bool) (w : World) (h : stringslite_HasPrefix.f a0 a1 = some r) :
  Calls Tryd.prog 60 #[.string a0, .string a1] w fun e w' => e = .returned (.bool r) ∧ Drawn0 w w' := by
 have H : (if (a0.size : Int) ≥ (a1.size : Int) then (if 0 ≤ (a1.size : Int) then (if (a1.size : Int) ≤ (a0.size : Int) then (some ((a0.extract 0 (a1.size)).toList == a1.toList)) else (none)) else (none)) else (some false)) = some r := h; clear h; by_cases c3 : (a0.size : Int) ≥ (a1.size : Int)
 ·rw [if_pos c3] at H; have c3b0 : decide ((a1.size : Int) ≤ (a0.size : Int)) = true := decide_eq_true c3; have c3b1 : decide (a1.size ≤ a0.size) = true := decide_eq_true (Int.ofNat_le.mp c3)
  clear c3; by_cases c4 : 0 ≤ (a1.size : Int)
  case neg => rw [if_neg c4] at H; exact absurd H (by simp)
  rw [if_pos c4] at H; have c4b0 := eq_true c4; have c4b1 : decide (0 ≤ (a1.size : Int)) = true := decide_eq_true c4; clear c4; by_cases c5 : (a1.size : Int) ≤ (a0.size : Int)
  case neg => rw [if_neg c5] at H; exact absurd H (by simp)
  rw [if_pos c5] at H; have c5b0 := eq_true c5; have c5b1 : decide ((a1.size : Int) ≤ (a0.size : Int)) = true := decide_eq_true c5; clear c5; obtain rfl := Option.some.inj H
  go_enter Tryd.func60, Tryd.ntmps60
  go_wp2
  go_ret
  exact exD
 ·rw [if_neg c3] at H; have c3b0 : decide ((a1.size : Int) ≤ (a0.size : Int)) = false := decide_eq_false c3; have c3b1 : decide (a1.size ≤ a0.size) = false := decide_eq_false (fun h => c3 (Int.ofNat_le.mpr h))
  clear c3; obtain rfl := Option.some.inj H
  go_enter Tryd.func60, Tryd.ntmps60
  go_wp2
  go_ret
  exact exD

/-! ### strings_HasPrefix: function 47 -/
def strings_HasPrefix.f (a0 : ByteArray) (a1 : ByteArray) : Option (Bool) := (stringslite_HasPrefix.f a0 a1).bind fun t200 => (some t200)
theorem strings_HasPrefix.calls (a0 : ByteArray) (a1 : ByteArray) (r : Bool) (w : World) (h : strings_HasPrefix.f a0 a1 = some r) :
  Calls Tryd.prog 47 #[.string a0, .string a1] w fun e w' => e = .returned (.bool r) ∧ Drawn0 w w' := by
 have H : ((stringslite_HasPrefix.f a0 a1).bind fun t200 => (some t200)) = some r := h; clear h; replace H := Option.bind_eq_some_iff.mp H; obtain ⟨t200, A30, H⟩ := H; replace H : (some t200) = some r := H
 have A3 := Aside0.mk A30; clear A30; obtain rfl := Option.some.inj H
 go_enter Tryd.func47, Tryd.ntmps47
 go_wp2_with (first | ((with_reducible refine gate_callee (f := 60) rfl ?_); refine goesL_ (some 7) rfl rfl Tryd.func60 (by kernel_rfl) rfl #[.string a0, .string a1] rfl (by (try simp only [List.map_toArray, List.map_cons, List.map_nil]); first | done | rfl | (simp only [List.length_drop, List.length_take]; rfl)) ?_; (with_reducible refine (stringslite_HasPrefix.calls a0 a1 t200 _ A3.out).mono ?_); rintro e w' ⟨rfl, ⟨nd, rfl⟩⟩; refine ⟨_, rfl, ?_⟩))
 go_ret
 exact exD

/-! ### stringslite_HasSuffix: function 61 -/
def stringslite_HasSuffix.f (a0 : ByteArray) (a1 : ByteArray) : Option (Bool) := if (a0.size : Int) ≥ (a1.size : Int) then (if 0 ≤ (wrap64 ((a0.size : Int) - (a1.size : Int))) then (if (wrap64 ((a0.size : Int) - (a1.size : Int))) ≤ (a0.size : Int) then (some ((a0.extract ((wrap64 ((a0.size : Int) - (a1.size : Int))) : Int).toNat a0.size).toList == a1.toList)) else (none)) else (none)) else (some false)
theorem stringslite_HasSuffix.calls (a0 : ByteArray) (a1 : ByteArray) (r : Bool) (w : World) (h : stringslite_HasSuffix.f a0 a1 = some r) :
  Calls Tryd.prog 61 #[.string a0, .string a1] w fun e w' => e = .returned (.bool r) ∧ Drawn0 w w' := by
 have H : (if (a0.size : Int) ≥ (a1.size : Int) then (if 0 ≤ (wrap64 ((a0.size : Int) - (a1.size : Int))) then (if (wrap64 ((a0.size : Int) - (a1.size : Int))) ≤ (a0.size : Int) then (some ((a0.extract ((wrap64 ((a0.size : Int) - (a1.size : Int))) : Int).toNat a0.size).toList == a1.toList)) else (none)) else (none)) else (some false)) = some r := h; clear h; by_cases c3 : (a0.size : Int) ≥ (a1.size : Int)
 ·rw [if_pos c3] at H; have c3b0 : decide ((a1.size : Int) ≤ (a0.size : Int)) = true := decide_eq_true c3; have c3b1 : decide (a1.size ≤ a0.size) = true := decide_eq_true (Int.ofNat_le.mp c3)
  clear c3; obtain ⟨ji4, hji4⟩ : ∃ j_ : Int, (wrap64 ((a0.size : Int) - (a1.size : Int))) = j_ := ⟨_, rfl⟩
  replace H : (if 0 ≤ (ji4) then (if (ji4) ≤ (a0.size : Int) then (some ((a0.extract ((ji4) : Int).toNat a0.size).toList == a1.toList)) else (none)) else (none)) = some r := by first | (rw [hji4] at H; exact H) | (simp only [hji4] at H ⊢; exact H)
  have hji4w : (IntKind.i64.wrap ((a0.size : Int) - (a1.size : Int))) = ji4 := (i64_w _).trans hji4
  by_cases c5 : 0 ≤ (ji4)
  case neg => rw [if_neg c5] at H; exact absurd H (by simp)
  rw [if_pos c5] at H; have c5b0 := eq_true c5; have c5b1 : decide (0 ≤ (ji4)) = true := decide_eq_true c5; clear c5; by_cases c6 : (ji4) ≤ (a0.size : Int)
  case neg => rw [if_neg c6] at H; exact absurd H (by simp)
  rw [if_pos c6] at H; have c6b0 := eq_true c6; have c6b1 : decide ((ji4) ≤ (a0.size : Int)) = true := decide_eq_true c6; clear c6; obtain rfl := Option.some.inj H
  go_enter Tryd.func61, Tryd.ntmps61
  go_wp2
  go_ret
  exact ⟨by first | rfl | (simp; done) | (simp only [← hji4] <;> (first | rfl | simp)) | (simp [*]; done), by repeat (first | exact Drawn0.refl _ | apply Drawn0.step)⟩
 ·rw [if_neg c3] at H; have c3b0 : decide ((a1.size : Int) ≤ (a0.size : Int)) = false := decide_eq_false c3; have c3b1 : decide (a1.size ≤ a0.size) = false := decide_eq_false (fun h => c3 (Int.ofNat_le.mpr h))
  clear c3; obtain rfl := Option.some.inj H
  go_enter Tryd.func61, Tryd.ntmps61
  go_wp2
  go_ret
  exact exD

/-! ### strings_HasSuffix: function 48 -/
def strings_HasSuffix.f (a0 : ByteArray) (a1 : ByteArray) : Option (Bool) := (stringslite_HasSuffix.f a0 a1).bind fun t201 => (some t201)
theorem strings_HasSuffix.calls (a0 : ByteArray) (a1 : ByteArray) (r : Bool) (w : World) (h : strings_HasSuffix.f a0 a1 = some r) :
  Calls Tryd.prog 48 #[.string a0, .string a1] w fun e w' => e = .returned (.bool r) ∧ Drawn0 w w' := by
 have H : ((stringslite_HasSuffix.f a0 a1).bind fun t201 => (some t201)) = some r := h; clear h; replace H := Option.bind_eq_some_iff.mp H; obtain ⟨t201, A30, H⟩ := H; replace H : (some t201) = some r := H
 have A3 := Aside0.mk A30; clear A30; obtain rfl := Option.some.inj H
 go_enter Tryd.func48, Tryd.ntmps48
 go_wp2_with (first | ((with_reducible refine gate_callee (f := 61) rfl ?_); refine goesL_ (some 7) rfl rfl Tryd.func61 (by kernel_rfl) rfl #[.string a0, .string a1] rfl (by (try simp only [List.map_toArray, List.map_cons, List.map_nil]); first | done | rfl | (simp only [List.length_drop, List.length_take]; rfl)) ?_; (with_reducible refine (stringslite_HasSuffix.calls a0 a1 t201 _ A3.out).mono ?_); rintro e w' ⟨rfl, ⟨nd, rfl⟩⟩; refine ⟨_, rfl, ?_⟩))
 go_ret
 exact exD

/-! ### strings_Index: function 62 -/
-- told by hand
def strings_Index.f (a0 : ByteArray) (a1 : ByteArray) : Option Int := if a0.size < 4294967281 then some (Lib.index a0.data.toList a1.data.toList) else none
theorem strings_Index.calls (a0 : ByteArray) (a1 : ByteArray) (r : Int) (w : World) (hT : Facts w) (h : strings_Index.f a0 a1 = some r) :
  Calls Tryd.prog 62 #[.string a0, .string a1] w fun e w' => e = .returned (.int .i64 r) ∧ Drawn0 w w' := by
 unfold strings_Index.f at h
 by_cases hs : a0.size < 4294967281
 case neg => rw [if_neg hs] at h; cases h
 rw [if_pos hs] at h; obtain rfl := Option.some.inj h
 obtain ⟨m, hm⟩ := hT.maxLen; refine (Tryd.strings_Index a0 a1 m w hs hm).mono ?_
 rintro e w' ⟨rfl, rfl⟩
 exact ⟨rfl, Drawn0.refl _⟩

/-! ### strings_Contains: function 49 -/
def strings_Contains.f (a0 : ByteArray) (a1 : ByteArray) : Option (Bool) := (strings_Index.f a0 a1).bind fun t202 => (some (decide (t202 ≥ 0)))
theorem strings_Contains.calls (a0 : ByteArray) (a1 : ByteArray) (r : Bool) (w : World) (hT : Facts w) (h : strings_Contains.f a0 a1 = some r) :
  Calls Tryd.prog 49 #[.string a0, .string a1] w fun e w' => e = .returned (.bool r) ∧ Drawn0 w w' := by
 have HT := Aside0.mk hT; clear hT; have H : ((strings_Index.f a0 a1).bind fun t202 => (some (decide (t202 ≥ 0)))) = some r := h; clear h; replace H := Option.bind_eq_some_iff.mp H; obtain ⟨t202, A30, H⟩ := H; replace H : (some (decide (t202 ≥ 0))) = some r := H
 have A3 := Aside0.mk A30; clear A30; obtain rfl := Option.some.inj H
 go_enter Tryd.func49, Tryd.ntmps49
 go_wp2_with (first | ((with_reducible refine gate_callee (f := 62) rfl ?_); refine goesL_ (some 7) rfl rfl Tryd.func62 (by kernel_rfl) rfl #[.string a0, .string a1] rfl (by (try simp only [List.map_toArray, List.map_cons, List.map_nil]); first | done | rfl | (simp only [List.length_drop, List.length_take]; rfl)) ?_; (with_reducible refine (strings_Index.calls a0 a1 t202 _ ?side1 A3.out).mono ?_); (case side1 => first | exact HT.out | exact Facts.below HT.out (mvB HB.out) | exact Facts.below HT.out HB.out | (repeat (first | exact HT.out | refine Facts.drewN ?_ _ | refine Facts.drew ?_ | refine Facts.alloc ?_ _))); rintro e w' ⟨rfl, ⟨nd, rfl⟩⟩; refine ⟨_, rfl, ?_⟩))
 go_ret
 exact exD

/-! ### like_Match: function 50 -/
-- told by hand
def like_Match.f (l0 : List Int) (a1 : ByteArray) : Option (Bool) := if l0.length ≤ 1152921504606846976 then (if a1.size ≤ 1152921504606846976 then some (HopPure.lm l0 a1.data.toList) else none) else none
theorem bt_list (s : ByteArray) (i : Int) (h : i.toNat < s.data.toList.length) : bt s i = ((s.data.toList[i.toNat]).toNat : Int) := by
 have h2 : i.toNat < s.size := by simpa using h
 unfold bt
 rw [dif_pos h2]
 rfl
theorem rd_list (l : List Int) (i : Int) (h : i.toNat < l.length) : rd l i = l[i.toNat] := by
 simp [rd, List.getD, h]
def mbk (back : Int) : Option Nat := if back < 0 then none else some back.toNat
/-- The search's state: bounds, that it is sound, what it still has to tell. -/
structure InvMatch (l : List Int) (s : ByteArray) (r : Bool) (at_ i back from_ : Int) : Prop where
 a0 : 0 ≤ at_
 i0 : 0 ≤ i
 b0 : -1 ≤ back
 f0 : 0 ≤ from_
 ok : HopPure.Ok l s.data.toList at_.toNat i.toNat (mbk back) from_.toNat
 cur : HopPure.cur l s.data.toList at_.toNat i.toNat (mbk back) from_.toNat = r
theorem toNat_succ {i : Int} (h : 0 ≤ i) : (i + 1).toNat = i.toNat + 1 := by omega
theorem dsize (s : ByteArray) : s.data.toList.length = s.size := by simp
theorem InvMatch.a1 {l : List Int} {s : ByteArray} {r : Bool} {at_ i back from_ : Int} (h : InvMatch l s r at_ i back from_) : at_ ≤ s.size := by have := h.ok.at_le; rw [dsize] at this; have := h.a0; omega
theorem InvMatch.i1 {l : List Int} {s : ByteArray} {r : Bool} {at_ i back from_ : Int} (h : InvMatch l s r at_ i back from_) : i ≤ l.length := by have := h.ok.i_le; have := h.i0; omega
theorem InvMatch.f1 {l : List Int} {s : ByteArray} {r : Bool} {at_ i back from_ : Int} (h : InvMatch l s r at_ i back from_) : from_ ≤ at_ := by have := h.ok.fr; have := h.f0; have := h.a0; omega
theorem InvMatch.star {l : List Int} {s : ByteArray} {r : Bool} {at_ i back from_ : Int} (h : InvMatch l s r at_ i back from_) (hi : i < (l.length : Int)) (he : rd l i = 257) : InvMatch l s r at_ (i + 1) (i + 1) at_ := by
 have hi0 := h.i0; have hin : i.toNat < l.length := by omega
 rw [rd_list l i hin] at he
 have hb : mbk (i + 1) = some (i.toNat + 1) := by unfold mbk; rw [if_neg (by omega), toNat_succ hi0]
 obtain ⟨h1, h2⟩ := h.ok.star hin he
 exact ⟨h.a0, by omega, by omega, h.a0, by rw [hb, toNat_succ hi0]; exact h1, by rw [hb, toNat_succ hi0, h2]; exact h.cur⟩
theorem InvMatch.step {l : List Int} {s : ByteArray} {r : Bool} {at_ i back from_ : Int} (h : InvMatch l s r at_ i back from_) (hi : i < (l.length : Int)) (ha : at_ < (s.size : Int)) (h1 : ¬ rd l i = 257) (h2 : rd l i = 256 ∨ rd l i = bt s at_) : InvMatch l s r (at_ + 1) (i + 1) back from_ := by
 have hi0 := h.i0; have ha0 := h.a0; have hin : i.toNat < l.length := by omega
 have han : at_.toNat < s.data.toList.length := by rw [dsize]; omega
 rw [rd_list l i hin] at h1 h2
 rw [bt_list s at_ han] at h2
 obtain ⟨h3, h4⟩ := h.ok.step hin han h1 h2
 exact ⟨by omega, by omega, h.b0, h.f0, by rw [toNat_succ hi0, toNat_succ ha0]; exact h3, by rw [toNat_succ hi0, toNat_succ ha0, h4]; exact h.cur⟩
theorem InvMatch.no {l : List Int} {s : ByteArray} {r : Bool} {at_ i back from_ : Int} (h : InvMatch l s r at_ i back from_) (ha : at_ < (s.size : Int)) (hn : i < (l.length : Int) → ¬ rd l i = 257 ∧ ¬ (rd l i = 256 ∨ rd l i = bt s at_)) : HopPure.lm (l.drop i.toNat) (s.data.toList.drop at_.toNat) = false := by
 have hi0 := h.i0; have ha0 := h.a0; have han : at_.toNat < s.data.toList.length := by rw [dsize]; omega
 refine HopPure.lm_no han fun hi => ?_
 have := hn (by omega)
 rw [rd_list l i hi, bt_list s at_ han] at this
 exact this
theorem InvMatch.back {l : List Int} {s : ByteArray} {r : Bool} {at_ i back from_ : Int} (h : InvMatch l s r at_ i back from_) (ha : at_ < (s.size : Int)) (hb : ¬ back < 0) (hn : i < (l.length : Int) → ¬ rd l i = 257 ∧ ¬ (rd l i = 256 ∨ rd l i = bt s at_)) : InvMatch l s r (from_ + 1) back back (from_ + 1) := by
 have hm := h.no ha hn; have ha0 := h.a0; have hf0 := h.f0; have hbk : mbk back = some back.toNat := by unfold mbk; rw [if_neg hb]
 have hok := h.ok; have hcur := h.cur; rw [hbk] at hok hcur
 obtain ⟨h3, h4⟩ := hok.back (by rw [dsize]; omega) hm
 exact ⟨by omega, by omega, h.b0, by omega, by rw [hbk, toNat_succ hf0]; exact h3, by rw [hbk, toNat_succ hf0, h4]; exact hcur⟩
theorem InvMatch.fail {l : List Int} {s : ByteArray} {r : Bool} {at_ i back from_ : Int} (h : InvMatch l s r at_ i back from_) (ha : at_ < (s.size : Int)) (hb : back < 0) (hn : i < (l.length : Int) → ¬ rd l i = 257 ∧ ¬ (rd l i = 256 ∨ rd l i = bt s at_)) : r = false := by
 have hm := h.no ha hn; have hbk : mbk back = none := by unfold mbk; rw [if_pos hb]
 have hcur := h.cur; rw [hbk, HopPure.Ok.fail hm] at hcur
 exact hcur.symm
theorem InvMatch.done {l : List Int} {s : ByteArray} {r : Bool} {at_ i back from_ : Int} (h : InvMatch l s r at_ i back from_) (ha : at_ = (s.size : Int)) (hn : i < (l.length : Int) → ¬ rd l i = 257) : r = decide (i = (l.length : Int)) := by
 have hi0 := h.i0; rw [← h.cur, h.ok.done (by rw [dsize]; omega) (fun hi => by have := hn (by omega); rwa [rd_list l i hi] at this)]
 exact decide_eq_decide.2 (by omega)
theorem InvMatch.start (l : List Int) (s : ByteArray) : InvMatch l s (HopPure.lm l s.data.toList) 0 0 (-1) 0 := ⟨by omega, by omega, by omega, by omega, HopPure.Ok.start _ _, HopPure.cur_start _ _⟩
theorem wp_scope_jumps2 {P : Program} {a : Act} {w : World} {Q : Exit → Act → World → Prop} {c rest : Code} (l : Nat) (J : Act → World → Prop) (μ : Act → World → Nat) (hf : findLabel c l = some (Code.skip.seq rest))
  (pass : ∀ a w, J a w → rest.wp P (Exit.jump l (fun a' w' => J a' w' ∧ μ a' w' < μ a w) Q) a w)
  (first : (∀ a w, J a w → rest.wp P (Exit.jump l J Q) a w) → c.wp P (Exit.jump l J Q) a w) : (Code.scope c).wp P Q a w := by
 refine wp_scope_jumps l J μ hf (first fun a w h => wp_mono (pass a w h) fun e a' w' hq => ?_) (fun a w h => wp_seq (wp_skip (pass a w h)))
 cases e <;> first | exact ⟨hq.1, hq.2.1⟩ | exact hq
def frMatch (A : Option Addr) (n c : Nat) (s : ByteArray) (at_ i back from_ : Int) (a : Act) : Prop := ∃ u9 u10 u11 u12 u13 u14 u15 u16 u17 u18 u19 u20 u21 u22 u23 u24 u25 u26 u27 u28 u29 u30 u31 u32 u33 u34 u35 u36 u37 u38 u39 u40 u41 u42 u43 u44 u45 u46 u47 u48 u49 u50 u51 u52 u53 u54 u55 u56 u57 u58 u59 u60 u61 u62 u63 : Value, a = { tmps := #[.slice A n c, .string s, undef, undef, .bool false, .int .i64 at_, .int .i64 i, .int .i64 back, .int .i64 from_, u9, u10, u11, u12, u13, u14, u15, u16, u17, u18, u19, u20, u21, u22, u23, u24, u25, u26, u27, u28, u29, u30, u31, u32, u33, u34, u35, u36, u37, u38, u39, u40, u41, u42, u43, u44, u45, u46, u47, u48, u49, u50, u51, u52, u53, u54, u55, u56, u57, u58, u59, u60, u61, u62, u63], defers := [] }
def meMatch (l : List Int) (s : ByteArray) (a : Act) (_ : World) : Nat := (s.size - (intOf (a.tmps.getD 8 undef)).toNat) * (l.length + 1) + (l.length - (intOf (a.tmps.getD 6 undef)).toNat)

theorem like_Match.calls (A0 : Option Addr) (c0 : Nat) (l0 : List Int) (a1 : ByteArray) (r : Bool) (w : World) (hr0 : Kd.C (Kd.int .i64) w A0 l0.length l0) (hc0 : l0.length ≤ c0) (h : like_Match.f l0 a1 = some r) :
  Calls Tryd.prog 50 #[.slice A0 l0.length c0, .string a1] w fun e w' => e = .returned (.bool r) ∧ Drawn0 w w' := by
 have hl : l0.length ≤ 1152921504606846976 := by
  unfold like_Match.f at h
  by_cases hl : l0.length ≤ 1152921504606846976
  ·exact hl
  ·rw [if_neg hl] at h; cases h
 have hs : a1.size ≤ 1152921504606846976 := by
  unfold like_Match.f at h
  by_cases hs : a1.size ≤ 1152921504606846976
  ·exact hs
  ·rw [if_pos hl, if_neg hs] at h; cases h
 unfold like_Match.f at h
 rw [if_pos hl, if_pos hs] at h
 have H0 : Aside0 (HopPure.lm l0 a1.data.toList = r) := ⟨Option.some.inj h⟩
 clear h; have HR0 := Aside0.mk hr0; clear hr0; go_enter Tryd.func50, Tryd.ntmps50
 go_wp2
 refine wp_scope_jumps2 0 (fun a' w' => Drawn0 w w' ∧ ∃ at_ i back from_ : Int, frMatch A0 l0.length c0 a1 at_ i back from_ a' ∧ InvMatch l0 a1 r at_ i back from_) (meMatch l0 a1) rfl ?pass ?first

 case pass =>
  rintro a' w' ⟨⟨m_, rfl⟩, at_, i, back, from_, ⟨u9, u10, u11, u12, u13, u14, u15, u16, u17, u18, u19, u20, u21, u22, u23, u24, u25, u26, u27, u28, u29, u30, u31, u32, u33, u34, u35, u36, u37, u38, u39, u40, u41, u42, u43, u44, u45, u46, u47, u48, u49, u50, u51, u52, u53, u54, u55, u56, u57, u58, u59, u60, u61, u62, u63, rfl⟩, hI⟩
  have hi0 := hI.i0; have hi1 := hI.i1; have ha0 := hI.a0; have ha1 := hI.a1; have hb0 := hI.b0; have hf0 := hI.f0; have hf1 := hI.f1; have HI := Aside0.mk hI; clear hI

  by_cases hi : i < (l0.length : Int)
  ·obtain ⟨ad, e, hx⟩ := Kd.at_int HR0.out i hi0 hi
   cases e
   have h_lt : decide (i < (l0.length : Int)) = true := decide_eq_true hi; by_cases c1 : rd l0 i = 257
   ·have c1b : (rd l0 i == 257) = true := beq_iff_eq.mpr c1; have HN := Aside0.mk (HI.out.star hi c1)
    clear c1; go_wp2
    go_step3
    refine ⟨rfl, ⟨by first | exact ⟨_, rfl⟩ | exact ⟨_, (World.drewN_drewN ..)⟩, _, _, _, _, ⟨_, _, _, _, _, _, _, _, _, _, _, _, _, _, _, _, _, _, _, _, _, _, _, _, _, _, _, _, _, _, _, _, _, _, _, _, _, _, _, _, _, _, _, _, _, _, _, _, _, _, _, _, _, _, _, rfl⟩, HN.out⟩, ?_⟩
    refine HopPure.lexm ?_ ?_
    ·first | omega | (simp only [intOf]; simp; omega) | (simp [intOf]; omega) | simp [intOf]
    ·first | omega | (simp only [intOf]; simp; omega) | (simp [intOf]; omega)
   ·have c1b : (rd l0 i == 257) = false := beq_eq_false_iff_ne.mpr c1; by_cases ca : at_ = (a1.size : Int)
    ·have ca1 : (at_ == (a1.size : Int)) = true := beq_iff_eq.mpr ca; have HD := Aside0.mk (HI.out.done ca (fun _ => c1))
     have e2 : decide (i = (l0.length : Int)) = false := decide_eq_false (by omega)
     rw [e2] at HD
     have e3 : (i == (l0.length : Int)) = false := beq_eq_false_iff_ne.mpr (by omega)
     clear ca e2; go_wp2
     simp only [Exit.jump]
     go_ret
     exact ⟨by rw [(HD.out)] <;> rfl, by first | exact ⟨_, rfl⟩ | exact ⟨_, (World.drewN_drewN ..)⟩⟩
    ·have ca1 : (at_ == (a1.size : Int)) = false := beq_eq_false_iff_ne.mpr ca; have ha2 : at_ < (a1.size : Int) := by omega
     have hx2 := bt_at a1 at_; have hb1 := bt_range a1 at_; by_cases c2 : rd l0 i = 256
     ·have c2b : (rd l0 i == 256) = true := beq_iff_eq.mpr c2; have HN := Aside0.mk (HI.out.step hi ha2 c1 (.inl c2))
      clear c2 c1; go_wp2
      go_quiet (fail)
      go_wp2
      go_step3
      refine ⟨rfl, ⟨by first | exact ⟨_, rfl⟩ | exact ⟨_, (World.drewN_drewN ..)⟩, _, _, _, _, ⟨_, _, _, _, _, _, _, _, _, _, _, _, _, _, _, _, _, _, _, _, _, _, _, _, _, _, _, _, _, _, _, _, _, _, _, _, _, _, _, _, _, _, _, _, _, _, _, _, _, _, _, _, _, _, _, rfl⟩, HN.out⟩, ?_⟩
      refine HopPure.lexm ?_ ?_
      ·first | omega | (simp only [intOf]; simp; omega) | (simp [intOf]; omega) | simp [intOf]
      ·first | omega | (simp only [intOf]; simp; omega) | (simp [intOf]; omega)
     have c2b : (rd l0 i == 256) = false := beq_eq_false_iff_ne.mpr c2; by_cases c3 : rd l0 i = bt a1 at_
     ·have c3b : (rd l0 i == bt a1 at_) = true := beq_iff_eq.mpr c3; have HN := Aside0.mk (HI.out.step hi ha2 c1 (.inr c3))
      clear c3 c2 c1; go_wp2
      go_quiet (fail)
      go_wp2
      go_step3
      refine ⟨rfl, ⟨by first | exact ⟨_, rfl⟩ | exact ⟨_, (World.drewN_drewN ..)⟩, _, _, _, _, ⟨_, _, _, _, _, _, _, _, _, _, _, _, _, _, _, _, _, _, _, _, _, _, _, _, _, _, _, _, _, _, _, _, _, _, _, _, _, _, _, _, _, _, _, _, _, _, _, _, _, _, _, _, _, _, _, rfl⟩, HN.out⟩, ?_⟩
      refine HopPure.lexm ?_ ?_
      ·first | omega | (simp only [intOf]; simp; omega) | (simp [intOf]; omega) | simp [intOf]
      ·first | omega | (simp only [intOf]; simp; omega) | (simp [intOf]; omega)
     have c3b : (rd l0 i == bt a1 at_) = false := beq_eq_false_iff_ne.mpr c3; by_cases c4 : back < 0
     ·have c4b : decide (back < 0) = true := decide_eq_true c4; have HD := Aside0.mk (HI.out.fail ha2 c4 (fun _ => ⟨c1, fun z => z.elim c2 c3⟩))
      go_wp2
      go_quiet (fail)
      go_wp2
      simp only [Exit.jump]
      go_ret
      exact ⟨by rw [(HD.out)] <;> rfl, by first | exact ⟨_, rfl⟩ | exact ⟨_, (World.drewN_drewN ..)⟩⟩
     ·have c4b : decide (back < 0) = false := decide_eq_false c4; have HN := Aside0.mk (HI.out.back ha2 c4 (fun _ => ⟨c1, fun z => z.elim c2 c3⟩))
      clear c1 c2 c3; go_wp2
      go_quiet (fail)
      go_wp2
      go_step3
      refine ⟨rfl, ⟨by first | exact ⟨_, rfl⟩ | exact ⟨_, (World.drewN_drewN ..)⟩, _, _, _, _, ⟨_, _, _, _, _, _, _, _, _, _, _, _, _, _, _, _, _, _, _, _, _, _, _, _, _, _, _, _, _, _, _, _, _, _, _, _, _, _, _, _, _, _, _, _, _, _, _, _, _, _, _, _, _, _, _, rfl⟩, HN.out⟩, ?_⟩
      refine HopPure.lexm ?_ ?_
      ·first | omega | (simp only [intOf]; simp; omega) | (simp [intOf]; omega) | simp [intOf]
      ·first | omega | (simp only [intOf]; simp; omega) | (simp [intOf]; omega)
  ·have h_lt : decide (i < (l0.length : Int)) = false := decide_eq_false hi; by_cases ca : at_ = (a1.size : Int)
   ·have ca1 : (at_ == (a1.size : Int)) = true := beq_iff_eq.mpr ca; have HD := Aside0.mk (HI.out.done ca (fun z => absurd z hi))
    have ei : i = (l0.length : Int) := by omega
    have e2 : decide (i = (l0.length : Int)) = true := decide_eq_true ei; rw [e2] at HD
    have e3 : (i == (l0.length : Int)) = true := beq_iff_eq.mpr ei; clear ei; clear ca e2; go_wp2
    simp only [Exit.jump]
    go_ret
    exact ⟨by rw [(HD.out)] <;> rfl, by first | exact ⟨_, rfl⟩ | exact ⟨_, (World.drewN_drewN ..)⟩⟩
   ·have ca1 : (at_ == (a1.size : Int)) = false := beq_eq_false_iff_ne.mpr ca; have ha2 : at_ < (a1.size : Int) := by omega
    have hx2 := bt_at a1 at_; have hb1 := bt_range a1 at_; by_cases c4 : back < 0
    ·have c4b : decide (back < 0) = true := decide_eq_true c4; have HD := Aside0.mk (HI.out.fail ha2 c4 (fun z => absurd z hi))
     go_wp2
     go_quiet (fail)
     go_wp2
     simp only [Exit.jump]
     go_ret
     exact ⟨by rw [(HD.out)] <;> rfl, by first | exact ⟨_, rfl⟩ | exact ⟨_, (World.drewN_drewN ..)⟩⟩
    ·have c4b : decide (back < 0) = false := decide_eq_false c4; have HN := Aside0.mk (HI.out.back ha2 c4 (fun z => absurd z hi))
     go_wp2
     go_quiet (fail)
     go_wp2
     go_step3
     refine ⟨rfl, ⟨by first | exact ⟨_, rfl⟩ | exact ⟨_, (World.drewN_drewN ..)⟩, _, _, _, _, ⟨_, _, _, _, _, _, _, _, _, _, _, _, _, _, _, _, _, _, _, _, _, _, _, _, _, _, _, _, _, _, _, _, _, _, _, _, _, _, _, _, _, _, _, _, _, _, _, _, _, _, _, _, _, _, _, rfl⟩, HN.out⟩, ?_⟩
     refine HopPure.lexm ?_ ?_
     ·first | omega | (simp only [intOf]; simp; omega) | (simp [intOf]; omega) | simp [intOf]
     ·first | omega | (simp only [intOf]; simp; omega) | (simp [intOf]; omega)
 case first =>
  intro hp
  have HP := Aside0.mk hp; clear hp; go_wp2
  go_step3
  rename_i K_ hK_
  refine hK_ _ _ (HP.out _ _ ⟨Drawn0.refl _, 0, 0, -1, 0, ⟨_, _, _, _, _, _, _, _, _, _, _, _, _, _, _, _, _, _, _, _, _, _, _, _, _, _, _, _, _, _, _, _, _, _, _, _, _, _, _, _, _, _, _, _, _, _, _, _, _, _, _, _, _, _, _, rfl⟩, ?_⟩)
  have hI := InvMatch.start l0 a1; rw [H0.out] at hI
  exact hI

/-! ### cmp_isNaN_string: function 74 -/
def cmp_isNaN_string.f (a0 : ByteArray) : Option (Bool) := some (a0.toList != a0.toList)
theorem cmp_isNaN_string.calls (a0 : ByteArray) (r : Bool) (w : World) (h : cmp_isNaN_string.f a0 = some r) :
  Calls Tryd.prog 74 #[.string a0] w fun e w' => e = .returned (.bool r) ∧ Drawn0 w w' := by
 have H : (some (a0.toList != a0.toList)) = some r := h; clear h; obtain rfl := Option.some.inj H
 go_enter Tryd.func74, Tryd.ntmps74
 go_wp2
 go_ret
 exact exD

end Go.Proofs.YtdccooaddoafnaaDoor.Q
