-- PRINTED by print.py (a twelfth state) out of the translation. Not trusted: Lean checks it.
import Derived.Test.YtdccooaddoafnaaGreatDoorQx0
import Derived.Test.YtdccooaddoafnaaGreatDoorQx6
import Derived.Test.YtdccooaddoafnaaGreatDoorQx7
namespace Go.Proofs.YtdccooaddoafnaaGreatDoor.Q
open Go.RowKit Go.Proofs.YtdccooaddoafnaaGreatDoorW.PrintWords Go.Proofs.YtdccooaddoafnaaGreatDoorW.PrintLast Go.Proofs.YtdccooaddoafnaaGreatDoorW.PrintMore
attribute [local go_sem] str_gtr str_geq str_leq max2_int min2_int max_two min_two max_three min_three max_four min_four
set_option linter.unusedVariables false
set_option maxHeartbeats 8000000
set_option maxRecDepth 1000000
set_option linter.unusedSimpArgs false

/-! ### need_Skip: function 12 -/
-- told by hand
/-- slices.IndexFunc, handed the closure. -/
theorem need_Skip.kids1.index (g : S24 → Option Bool) (v1 : Value) (A0 : Option Addr) (c0 : Nat) (l0 : List (S24)) (z : Int) (w : World) (hr : Kd.C k24 w A0 l0.length l0) (hcl : ∀ (x : S24) (c : List Value) (b : Bool) (W : World), x ∈ l0 → Below w.heap.size w W → k24.K W x c → g x = some b → Calls Tryz.prog 25 #[.agg c.toArray, v1] W fun e w' => e = .returned (.bool b) ∧ Below W.heap.size W w') (h : findE g l0 0 = some z) :
  Calls Tryz.prog 43 #[.slice A0 l0.length c0, .func (.func 25) #[] #[v1]] w fun e w' => e = .returned (.int .i64 z) ∧ Below w.heap.size w w' := by
 have hn : l0.length ≤ 9223372036854775807 := hr.2.1; have HR := Aside0.mk hr; have HCL := Aside0.mk hcl; have HN := Aside0.mk hn; have HH := Aside0.mk h; have HAGG := Aside0.mk (show ∀ W, (isAgg 24).run Tryz.prog W = .ok true W from fun W => by first | exact Tryz.isAgg24 | exact Tryz.isAgg24 W | go_simp)
 have HSZ := Aside0.mk (show ∀ W, (sizeOf 24).run Tryz.prog W = .ok 6 W from fun W => by first | exact Tryz.sizeOf24 | exact Tryz.sizeOf24 W | go_simp)
 clear hr hcl hn h; go_enter Tryz.func43, Tryz.ntmps43
 go_wp2
 go_loopg [5, 8] l0.length (fun gg v5 s8 wr => ∃ i : Nat, i ≤ l0.length ∧ l0.length - i ≤ gg ∧ s8 = .int .i64 i ∧ Aside0 (Below w.heap.size w wr) ∧ Aside0 (findE g (l0.drop i) i = some z))
 case atStart => exact ⟨0, Nat.zero_le _, by omega, rfl, ⟨Below.refl _ w⟩, HH⟩
 case round =>
  clear HH; obtain ⟨i, hi, hg, rfl, BW, HF⟩ := hrel; have hn := HN.out; by_cases hlt : i < l0.length
  ·have hltz : (i : Int) < (l0.length : Int) := by omega
   have hi0 : (0 : Int) ≤ (i : Int) := by omega
   have hks := HF.out; rw [drop_getE z24 l0 i hlt] at hks
   simp only [findE] at hks
   obtain ⟨b, hb, hks⟩ := Option.bind_eq_some_iff.1 hks
   obtain ⟨ad, c, e0, hcl, hKu, hcell⟩ := Kd.C_elem HR.out z24 i hlt
   replace hcell : ∀ j v, c[j]? = some v → w.cell? ((ad.add (i * 6)).add j) = some v := hcell
   replace hcl : c.length = 6 := hcl
   subst e0; have HCALL := Aside0.mk (HCL.out (l0.getD i z24) c b wr (getD_mem _ _ _ hlt) BW.out (k24.K_below BW.out hKu) hb)
   have HCLN := Aside0.mk hcl; have HCELL := Aside0.mk (show ∀ j v, c[j]? = some v → wr.cell? ((ad.add (i * 6)).add j) = some v from fun j v hj => (BW.out.cell (World.block_lt_of_cell? w _ (hcell j v hj))).trans (hcell j v hj))
   clear hKu hb HF hcl hcell hn
   cases b with
   | true =>
    rw [if_pos rfl] at hks; obtain rfl := Option.some.inj hks
    clear hks
    go_wp2_with (first
     | ((with_reducible refine gate_dst (N := 15) rfl ?_); refine load_all rfl rfl (cs := c) rfl HAGG.out (fun W => by rw [HCLN.out]; exact HSZ.out W) HCELL.out ?_)
     | (go_at_call 25; refine HCALL.out.mono ?_; rintro e w' ⟨rfl, hb'⟩))
    go_ret
    exact ⟨rfl, below_step BW.out hb'⟩
   | false =>
    rw [if_neg (by decide)] at hks
    have HF := Aside0.mk hks; clear hks
    go_wp2_with (first
     | ((with_reducible refine gate_dst (N := 15) rfl ?_); refine load_all rfl rfl (cs := c) rfl HAGG.out (fun W => by rw [HCLN.out]; exact HSZ.out W) HCELL.out ?_)
     | (go_at_call 25; refine HCALL.out.mono ?_; rintro e w' ⟨rfl, hb'⟩))
    go_roundg (l0.length - (i + 1))
    case measure => omega
    case rel => have hn := HN.out; exact ⟨i + 1, by omega, by omega, by first | go_num | (congr 1; unfold wrap64; omega), ⟨below_step BW.out hb'⟩, HF⟩
  ·have hltz : ¬ (i : Int) < (l0.length : Int) := by omega
   have hks := HF.out; rw [List.drop_of_length_le (by omega)] at hks
   simp only [findE] at hks
   obtain rfl := Option.some.inj hks
   clear hks HF hn; go_wp2
   go_ret
   exact ⟨rfl, BW.out⟩
/-- slices.ContainsFunc, handed the closure. -/
theorem need_Skip.kids1.contains (g : S24 → Option Bool) (v1 : Value) (A0 : Option Addr) (c0 : Nat) (l0 : List (S24)) (r : Bool) (w : World) (hr : Kd.C k24 w A0 l0.length l0) (hcl : ∀ (x : S24) (c : List Value) (b : Bool) (W : World), x ∈ l0 → Below w.heap.size w W → k24.K W x c → g x = some b → Calls Tryz.prog 25 #[.agg c.toArray, v1] W fun e w' => e = .returned (.bool b) ∧ Below W.heap.size W w') (h : anyE g l0 = some r) :
  Calls Tryz.prog 26 #[.slice A0 l0.length c0, .func (.func 25) #[] #[v1]] w fun e w' => e = .returned (.bool r) ∧ Below w.heap.size w w' := by
 obtain ⟨z, hz, e⟩ := findE_any g l0 0 r h
 have HI := Aside0.mk (need_Skip.kids1.index g v1 A0 c0 l0 z w hr hcl hz)
 clear h hz hcl hr
 cases r with
 | true =>
  have hz0 : (0 : Int) ≤ z := of_decide_eq_true e; go_enter Tryz.func26, Tryz.ntmps26
  go_wp2_with (go_at_call 43; refine HI.out.mono ?_; rintro e w' ⟨rfl, hb'⟩)
  go_ret
  exact ⟨rfl, hb'⟩
 | false =>
  have hz0 : ¬ (0 : Int) ≤ z := of_decide_eq_false e; go_enter Tryz.func26, Tryz.ntmps26
  go_wp2_with (go_at_call 43; refine HI.out.mono ?_; rintro e w' ⟨rfl, hb'⟩)
  go_ret
  exact ⟨rfl, hb'⟩
/-- slices.IndexFunc, handed the closure. -/
theorem need_Skip.kids2.index (g : S24 → Option Bool) (v1 : Value) (A0 : Option Addr) (c0 : Nat) (l0 : List (S24)) (z : Int) (w : World) (hr : Kd.C k24 w A0 l0.length l0) (hcl : ∀ (x : S24) (c : List Value) (b : Bool) (W : World), x ∈ l0 → Below w.heap.size w W → k24.K W x c → g x = some b → Calls Tryz.prog 27 #[.agg c.toArray, v1] W fun e w' => e = .returned (.bool b) ∧ Below W.heap.size W w') (h : findE g l0 0 = some z) :
  Calls Tryz.prog 43 #[.slice A0 l0.length c0, .func (.func 27) #[] #[v1]] w fun e w' => e = .returned (.int .i64 z) ∧ Below w.heap.size w w' := by
 have hn : l0.length ≤ 9223372036854775807 := hr.2.1; have HR := Aside0.mk hr; have HCL := Aside0.mk hcl; have HN := Aside0.mk hn; have HH := Aside0.mk h; have HAGG := Aside0.mk (show ∀ W, (isAgg 24).run Tryz.prog W = .ok true W from fun W => by first | exact Tryz.isAgg24 | exact Tryz.isAgg24 W | go_simp)
 have HSZ := Aside0.mk (show ∀ W, (sizeOf 24).run Tryz.prog W = .ok 6 W from fun W => by first | exact Tryz.sizeOf24 | exact Tryz.sizeOf24 W | go_simp)
 clear hr hcl hn h; go_enter Tryz.func43, Tryz.ntmps43
 go_wp2
 go_loopg [5, 8] l0.length (fun gg v5 s8 wr => ∃ i : Nat, i ≤ l0.length ∧ l0.length - i ≤ gg ∧ s8 = .int .i64 i ∧ Aside0 (Below w.heap.size w wr) ∧ Aside0 (findE g (l0.drop i) i = some z))
 case atStart => exact ⟨0, Nat.zero_le _, by omega, rfl, ⟨Below.refl _ w⟩, HH⟩
 case round =>
  clear HH; obtain ⟨i, hi, hg, rfl, BW, HF⟩ := hrel; have hn := HN.out; by_cases hlt : i < l0.length
  ·have hltz : (i : Int) < (l0.length : Int) := by omega
   have hi0 : (0 : Int) ≤ (i : Int) := by omega
   have hks := HF.out; rw [drop_getE z24 l0 i hlt] at hks
   simp only [findE] at hks
   obtain ⟨b, hb, hks⟩ := Option.bind_eq_some_iff.1 hks
   obtain ⟨ad, c, e0, hcl, hKu, hcell⟩ := Kd.C_elem HR.out z24 i hlt
   replace hcell : ∀ j v, c[j]? = some v → w.cell? ((ad.add (i * 6)).add j) = some v := hcell
   replace hcl : c.length = 6 := hcl
   subst e0; have HCALL := Aside0.mk (HCL.out (l0.getD i z24) c b wr (getD_mem _ _ _ hlt) BW.out (k24.K_below BW.out hKu) hb)
   have HCLN := Aside0.mk hcl; have HCELL := Aside0.mk (show ∀ j v, c[j]? = some v → wr.cell? ((ad.add (i * 6)).add j) = some v from fun j v hj => (BW.out.cell (World.block_lt_of_cell? w _ (hcell j v hj))).trans (hcell j v hj))
   clear hKu hb HF hcl hcell hn
   cases b with
   | true =>
    rw [if_pos rfl] at hks; obtain rfl := Option.some.inj hks
    clear hks
    go_wp2_with (first
     | ((with_reducible refine gate_dst (N := 15) rfl ?_); refine load_all rfl rfl (cs := c) rfl HAGG.out (fun W => by rw [HCLN.out]; exact HSZ.out W) HCELL.out ?_)
     | (go_at_call 27; refine HCALL.out.mono ?_; rintro e w' ⟨rfl, hb'⟩))
    go_ret
    exact ⟨rfl, below_step BW.out hb'⟩
   | false =>
    rw [if_neg (by decide)] at hks
    have HF := Aside0.mk hks; clear hks
    go_wp2_with (first
     | ((with_reducible refine gate_dst (N := 15) rfl ?_); refine load_all rfl rfl (cs := c) rfl HAGG.out (fun W => by rw [HCLN.out]; exact HSZ.out W) HCELL.out ?_)
     | (go_at_call 27; refine HCALL.out.mono ?_; rintro e w' ⟨rfl, hb'⟩))
    go_roundg (l0.length - (i + 1))
    case measure => omega
    case rel => have hn := HN.out; exact ⟨i + 1, by omega, by omega, by first | go_num | (congr 1; unfold wrap64; omega), ⟨below_step BW.out hb'⟩, HF⟩
  ·have hltz : ¬ (i : Int) < (l0.length : Int) := by omega
   have hks := HF.out; rw [List.drop_of_length_le (by omega)] at hks
   simp only [findE] at hks
   obtain rfl := Option.some.inj hks
   clear hks HF hn; go_wp2
   go_ret
   exact ⟨rfl, BW.out⟩
/-- slices.ContainsFunc, handed the closure. -/
theorem need_Skip.kids2.contains (g : S24 → Option Bool) (v1 : Value) (A0 : Option Addr) (c0 : Nat) (l0 : List (S24)) (r : Bool) (w : World) (hr : Kd.C k24 w A0 l0.length l0) (hcl : ∀ (x : S24) (c : List Value) (b : Bool) (W : World), x ∈ l0 → Below w.heap.size w W → k24.K W x c → g x = some b → Calls Tryz.prog 27 #[.agg c.toArray, v1] W fun e w' => e = .returned (.bool b) ∧ Below W.heap.size W w') (h : anyE g l0 = some r) :
  Calls Tryz.prog 26 #[.slice A0 l0.length c0, .func (.func 27) #[] #[v1]] w fun e w' => e = .returned (.bool r) ∧ Below w.heap.size w w' := by
 obtain ⟨z, hz, e⟩ := findE_any g l0 0 r h
 have HI := Aside0.mk (need_Skip.kids2.index g v1 A0 c0 l0 z w hr hcl hz)
 clear h hz hcl hr
 cases r with
 | true =>
  have hz0 : (0 : Int) ≤ z := of_decide_eq_true e; go_enter Tryz.func26, Tryz.ntmps26
  go_wp2_with (go_at_call 43; refine HI.out.mono ?_; rintro e w' ⟨rfl, hb'⟩)
  go_ret
  exact ⟨rfl, hb'⟩
 | false =>
  have hz0 : ¬ (0 : Int) ≤ z := of_decide_eq_false e; go_enter Tryz.func26, Tryz.ntmps26
  go_wp2_with (go_at_call 43; refine HI.out.mono ?_; rintro e w' ⟨rfl, hb'⟩)
  go_ret
  exact ⟨rfl, hb'⟩
/-- slices.IndexFunc, handed the closure. -/
theorem need_Skip.strs.index (g : ByteArray → Option Bool) (v1 : Value) (v2 : Value) (A0 : Option Addr) (c0 : Nat) (l0 : List (ByteArray)) (z : Int) (w : World) (hr : Kd.C Kd.string w A0 l0.length l0) (hcl : ∀ (x : ByteArray) (b : Bool) (W : World), x ∈ l0 → Below w.heap.size w W → g x = some b → Calls Tryz.prog 30 #[.string x, v1, v2] W fun e w' => e = .returned (.bool b) ∧ Below W.heap.size W w') (h : findE g l0 0 = some z) :
  Calls Tryz.prog 44 #[.slice A0 l0.length c0, .func (.func 30) #[] #[v1, v2]] w fun e w' => e = .returned (.int .i64 z) ∧ Below w.heap.size w w' := by
 have hn : l0.length ≤ 9223372036854775807 := hr.2.1; have HR := Aside0.mk hr; have HCL := Aside0.mk hcl; have HN := Aside0.mk hn; have HH := Aside0.mk h; clear hr hcl hn h; go_enter Tryz.func44, Tryz.ntmps44
 go_wp2
 go_loopg [5, 8] l0.length (fun gg v5 s8 wr => ∃ i : Nat, i ≤ l0.length ∧ l0.length - i ≤ gg ∧ s8 = .int .i64 i ∧ Aside0 (Below w.heap.size w wr) ∧ Aside0 (findE g (l0.drop i) i = some z))
 case atStart => exact ⟨0, Nat.zero_le _, by omega, rfl, ⟨Below.refl _ w⟩, HH⟩
 case round =>
  clear HH; obtain ⟨i, hi, hg, rfl, BW, HF⟩ := hrel; have hn := HN.out; by_cases hlt : i < l0.length
  ·have hltz : (i : Int) < (l0.length : Int) := by omega
   have hi0 : (0 : Int) ≤ (i : Int) := by omega
   have hks := HF.out; rw [drop_getE ByteArray.empty l0 i hlt] at hks
   simp only [findE] at hks
   obtain ⟨b, hb, hks⟩ := Option.bind_eq_some_iff.1 hks
   obtain ⟨ad, e0, hx⟩ := Kd.at_string HR.out (i : Int) hi0 hltz
   rw [show ((i : Int)).toNat = i by omega] at hx
   have hx2 : w.cell? (ad.add i) = some (.string (l0.getD i ByteArray.empty)) := by simpa [rdOf, Int.toNat_natCast] using hx
   subst e0; have hcell := (BW.out.cell (World.block_lt_of_cell? w _ hx2)).trans hx2
   have hmem := getD_mem ByteArray.empty l0 i hlt; clear hx hx2; generalize hy : l0.getD i ByteArray.empty = y at hb hcell hmem
   clear hy; have HCALL := Aside0.mk (HCL.out y b wr hmem BW.out hb)
   clear hb hmem HF hn
   cases b with
   | true =>
    rw [if_pos rfl] at hks; obtain rfl := Option.some.inj hks
    clear hks; go_wp2_with (go_at_call 30; refine HCALL.out.mono ?_; rintro e w' ⟨rfl, hb'⟩)
    go_ret
    exact ⟨rfl, below_step BW.out hb'⟩
   | false =>
    rw [if_neg (by decide)] at hks
    have HF := Aside0.mk hks; clear hks; go_wp2_with (go_at_call 30; refine HCALL.out.mono ?_; rintro e w' ⟨rfl, hb'⟩)
    go_roundg (l0.length - (i + 1))
    case measure => omega
    case rel => have hn := HN.out; exact ⟨i + 1, by omega, by omega, by first | go_num | (congr 1; unfold wrap64; omega), ⟨below_step BW.out hb'⟩, HF⟩
  ·have hltz : ¬ (i : Int) < (l0.length : Int) := by omega
   have hks := HF.out; rw [List.drop_of_length_le (by omega)] at hks
   simp only [findE] at hks
   obtain rfl := Option.some.inj hks
   clear hks HF hn; go_wp2
   go_ret
   exact ⟨rfl, BW.out⟩
/-- slices.ContainsFunc, handed the closure. -/
theorem need_Skip.strs.contains (g : ByteArray → Option Bool) (v1 : Value) (v2 : Value) (A0 : Option Addr) (c0 : Nat) (l0 : List (ByteArray)) (r : Bool) (w : World) (hr : Kd.C Kd.string w A0 l0.length l0) (hcl : ∀ (x : ByteArray) (b : Bool) (W : World), x ∈ l0 → Below w.heap.size w W → g x = some b → Calls Tryz.prog 30 #[.string x, v1, v2] W fun e w' => e = .returned (.bool b) ∧ Below W.heap.size W w') (h : anyE g l0 = some r) :
  Calls Tryz.prog 28 #[.slice A0 l0.length c0, .func (.func 30) #[] #[v1, v2]] w fun e w' => e = .returned (.bool r) ∧ Below w.heap.size w w' := by
 obtain ⟨z, hz, e⟩ := findE_any g l0 0 r h
 have HI := Aside0.mk (need_Skip.strs.index g v1 v2 A0 c0 l0 z w hr hcl hz)
 clear h hz hcl hr
 cases r with
 | true =>
  have hz0 : (0 : Int) ≤ z := of_decide_eq_true e; go_enter Tryz.func28, Tryz.ntmps28
  go_wp2_with (go_at_call 44; refine HI.out.mono ?_; rintro e w' ⟨rfl, hb'⟩)
  go_ret
  exact ⟨rfl, hb'⟩
 | false =>
  have hz0 : ¬ (0 : Int) ≤ z := of_decide_eq_false e; go_enter Tryz.func28, Tryz.ntmps28
  go_wp2_with (go_at_call 44; refine HI.out.mono ?_; rintro e w' ⟨rfl, hb'⟩)
  go_ret
  exact ⟨rfl, hb'⟩
def runsP (k : Nat) (p : S24) : Option (List ByteArray) := need_runs.f k p.f0 p.f1 p.f2 p.f3 p.f4 p.f5
/-- May a column's filter bear a string? -/
def mayAt (k : Nat) (f : List S53) (i : Int) (s : ByteArray) : Option Bool := if 0 ≤ i then if i < (f.length : Int) then mayP k (rd_T53 f i) s else none else none
def skipP : Nat → S24 → List S53 → Option Bool
 | 0, _, _ => none
 | k + 1, p, f => if p.f0 = 12 then anyE (fun q => skipP k q f) p.f5 else if p.f0 = 13 then (anyE (fun q => (skipP k q f).map (!·)) p.f5).map (!·) else if p.f0 = 14 then some false else
  (runsP k p).bind fun rs => anyE (fun s => (mayAt k f p.f1 s).map (!·)) rs
def need_Skip.f (k : Nat) (a0_0 : Int) (a0_1 : Int) (a0_2 : ByteArray) (a0_3 : Int) (a0_4 : Int) (l0_5 : List S24) (l1 : List S53) : Option Bool := skipP k ⟨a0_0, a0_1, a0_2, a0_3, a0_4, l0_5⟩ l1
/-- What a step below tells of the function itself. -/
def need_Skip.IH (k : Nat) : Prop := ∀ (p : S24) (cs : List Value) (Af : Option Addr) (cf : Nat) (f : List S53) (r : Bool) (w : World), k24.K w p cs → Kd.C k53 w Af f.length f → f.length ≤ cf → skipP k p f = some r →
  Calls Tryz.prog 12 #[.agg cs.toArray, .slice Af f.length cf] w fun e w' => e = .returned (.bool r) ∧ Below w.heap.size w w'
/-- The first closure. -/
theorem need_Skip.clo1 (k : Nat) (ih : need_Skip.IH k) (x : S24) (c : List Value) (Af : Option Addr) (cf : Nat) (f : List S53) (b : Bool) (w : World) (Bf : Nat) (hK : k24.K w x c) (hf : Kd.C k53 w Af f.length f) (hcf : f.length ≤ cf) (hc : w.heap[Bf]? = some (.cells #[.slice Af f.length cf] 33 (0, 0))) (h : skipP k x f = some b) :
  Calls Tryz.prog 25 #[.agg c.toArray, .pointer (some ⟨Bf, 0, none⟩)] w fun e w' => e = .returned (.bool b) ∧ Below w.heap.size w w' := by
 have HC := Aside0.mk hc; have HAGG := Aside0.mk (show ∀ W, (isAgg 24).run Tryz.prog W = .ok true W from fun W => by first | exact Tryz.isAgg24 | exact Tryz.isAgg24 W | go_simp)
 have HSZ := Aside0.mk (show ∀ W, (sizeOf 24).run Tryz.prog W = .ok 6 W from fun W => by first | exact Tryz.sizeOf24 | exact Tryz.sizeOf24 W | go_simp)
 have HL6 := Aside0.mk (show c.length = 6 from k24.K_len hK)
 have HCALL := Aside0.mk (fun W (hb : Below w.heap.size w W) => ih x c Af cf f b W (k24.K_below hb hK) (Kd.C_below hf hb) hcf h)
 clear hK h hc ih hf hcf; go_enter Tryz.func25, Tryz.ntmps25
 go_wp2_with (first
  | ((with_reducible refine gate_dst (N := 2) rfl ?_); refine box_all rfl rfl (cs := c.toArray) rfl (fun W => by rw [List.size_toArray, HL6.out]; exact HSZ.out W) ?_; intro w1 hbx hbw; have BW1 := Aside0.mk hbw; have BX1 := Aside0.mk hbx; have hcc : w1.cell? ⟨Bf, 0, none⟩ = some (.slice Af f.length cf) := cell0_of (blk_keep hbw HC.out); clear hbx hbw)
  | ((with_reducible refine gate_dst (N := 4) rfl ?_); refine load_all rfl rfl (cs := c) rfl HAGG.out (fun W => by rw [HL6.out]; exact HSZ.out W) (blk_cells BX1.out) ?_)
  | (go_at_call 12; refine (HCALL.out _ BW1.out).mono ?_; rintro e w5 ⟨rfl, hb5⟩; have BW5 := Aside0.mk (below_step BW1.out hb5); clear hb5))
 go_ret
 exact ⟨rfl, BW5.out⟩
/-- The second closure. -/
theorem need_Skip.clo2 (k : Nat) (ih : need_Skip.IH k) (x : S24) (c : List Value) (Af : Option Addr) (cf : Nat) (f : List S53) (b : Bool) (w : World) (Bf Bg : Nat) (hK : k24.K w x c) (hf : Kd.C k53 w Af f.length f) (hcf : f.length ≤ cf) (hc : w.heap[Bf]? = some (.cells #[.slice Af f.length cf] 33 (0, 0)))
  (hg : w.heap[Bg]? = some (.cells #[.func (.func 25) #[] #[.pointer (some ⟨Bf, 0, none⟩)]] 55 (0, 0))) (h : (skipP k x f).map (!·) = some b) :
  Calls Tryz.prog 27 #[.agg c.toArray, .pointer (some ⟨Bg, 0, none⟩)] w fun e w' => e = .returned (.bool b) ∧ Below w.heap.size w w' := by
 obtain ⟨b2, hb2, rfl⟩ := Option.map_eq_some_iff.1 h
 have HG := Aside0.mk hg; have HAGG := Aside0.mk (show ∀ W, (isAgg 24).run Tryz.prog W = .ok true W from fun W => by first | exact Tryz.isAgg24 | exact Tryz.isAgg24 W | go_simp)
 have HSZ := Aside0.mk (show ∀ W, (sizeOf 24).run Tryz.prog W = .ok 6 W from fun W => by first | exact Tryz.sizeOf24 | exact Tryz.sizeOf24 W | go_simp)
 have HL6 := Aside0.mk (show c.length = 6 from k24.K_len hK)
 have HCALL := Aside0.mk (fun W (hb : Below w.heap.size w W) => need_Skip.clo1 k ih x c Af cf f b2 W Bf (k24.K_below hb hK) (Kd.C_below hf hb) hcf (blk_keep hb hc) hb2)
 clear hK h hc ih hf hcf hg hb2; go_enter Tryz.func27, Tryz.ntmps27
 go_wp2_with (first
  | ((with_reducible refine gate_dst (N := 2) rfl ?_); refine box_all rfl rfl (cs := c.toArray) rfl (fun W => by rw [List.size_toArray, HL6.out]; exact HSZ.out W) ?_; intro w1 hbx hbw; have BW1 := Aside0.mk hbw; have BX1 := Aside0.mk hbx; have hcc : w1.cell? ⟨Bg, 0, none⟩ = some (.func (.func 25) #[] #[.pointer (some ⟨Bf, 0, none⟩)]) := cell0_of (blk_keep hbw HG.out); clear hbx hbw)
  | ((with_reducible refine gate_dst (N := 5) rfl ?_); refine load_all rfl rfl (cs := c) rfl HAGG.out (fun W => by rw [HL6.out]; exact HSZ.out W) (blk_cells BX1.out) ?_)
  | (go_at_call 25; refine (HCALL.out _ BW1.out).mono ?_; rintro e w5 ⟨rfl, hb5⟩; have BW5 := Aside0.mk (below_step BW1.out hb5); clear hb5))
 go_ret
 exact ⟨rfl, BW5.out⟩
/-- The third closure. -/
theorem need_Skip.clo3 (k : Nat) (s : ByteArray) (cs : List Value) (i : Int) (Af : Option Addr) (cf : Nat) (f : List S53) (b : Bool) (w : World) (Bf Bp : Nat) (hp1 : cs[1]? = some (.int .i64 i)) (hbp : w.heap[Bp]? = some (.cells cs.toArray 24 (0, 0))) (hf : Kd.C k53 w Af f.length f) (hcf : f.length ≤ cf) (hc : w.heap[Bf]? = some (.cells #[.slice Af f.length cf] 33 (0, 0))) (h : (mayAt k f i s).map (!·) = some b) :
  Calls Tryz.prog 30 #[.string s, .pointer (some ⟨Bf, 0, none⟩), .pointer (some ⟨Bp, 0, none⟩)] w fun e w' => e = .returned (.bool b) ∧ Below w.heap.size w w' := by
 obtain ⟨b2, hb2, rfl⟩ := Option.map_eq_some_iff.1 h
 unfold mayAt at hb2
 by_cases h0 : 0 ≤ i
 case neg => rw [if_neg h0] at hb2; cases hb2
 rw [if_pos h0] at hb2; by_cases hi : i < (f.length : Int)
 case neg => rw [if_neg hi] at hb2; cases hb2
 rw [if_pos hi] at hb2; obtain ⟨j, rfl⟩ : ∃ j : Nat, i = (j : Int) := ⟨i.toNat, by omega⟩
 have hj : j < f.length := by omega
 have hnf : f.length ≤ 9223372036854775807 := hf.2.1; obtain ⟨ad, c, e0, hcl, hKu, hcell⟩ := Kd.C_elem hf z53 j hj
 replace hcell : ∀ t v, c[t]? = some v → w.cell? ((ad.add (j * 3)).add t) = some v := hcell
 replace hcl : c.length = 3 := hcl
 have e2 : rd_T53 f (j : Int) = f.getD j z53 := by unfold rd_T53; rw [show ((j : Int)).toNat = j by omega]
 rw [e2] at hb2
 subst e0; have HAGGF := Aside0.mk (show ∀ W, (isAgg 53).run Tryz.prog W = .ok true W from fun W => by first | exact Tryz.isAgg53 | exact Tryz.isAgg53 W | go_simp)
 have HSZF := Aside0.mk (show ∀ W, (sizeOf 53).run Tryz.prog W = .ok 3 W from fun W => by first | exact Tryz.sizeOf53 | exact Tryz.sizeOf53 W | go_simp)
 have HCELL := Aside0.mk hcell; have HL3 := Aside0.mk hcl; have hcv1 : w.cell? ⟨Bp, 1, none⟩ = some (.int .i64 (j : Int)) := blk_cells hbp 1 _ hp1; have hcf0 : w.cell? ⟨Bf, 0, none⟩ = some (.slice (some ad) f.length cf) := cell0_of hc; have HCALL := Aside0.mk (gram_May.core k (f.getD j z53) c s b2 w hKu hb2)
 clear h hp1 hbp hf hc hb2 hKu hcell hcl e2; go_enter Tryz.func30, Tryz.ntmps30
 go_wp2_with (first
  | ((with_reducible refine gate_dst (N := 9) rfl ?_); refine load_all rfl rfl (cs := c) rfl HAGGF.out (fun W => by rw [HL3.out]; exact HSZF.out W) HCELL.out ?_)
  | (go_at_call 31; refine HCALL.out.mono ?_; rintro e w5 ⟨rfl, hb5⟩))
 go_ret
 exact ⟨rfl, hb5⟩
theorem need_Skip.core (k : Nat) : need_Skip.IH k := by
 induction k with
 | zero => intro p cs Af cf f r w _ _ _ h; cases h
 | succ k ih =>
 intro p cs Af cf f r w hK hf hcf h
 have hup := Tryz.underlying24; have HSZN := Aside0.mk (show ∀ W, (sizeOf 55).run Tryz.prog W = .ok 1 W from fun W => by go_simp)
 have HAGG := Aside0.mk (show ∀ W, (isAgg 24).run Tryz.prog W = .ok true W from fun W => by first | exact Tryz.isAgg24 | exact Tryz.isAgg24 W | go_simp)
 have HSZ := Aside0.mk (show ∀ W, (sizeOf 24).run Tryz.prog W = .ok 6 W from fun W => by first | exact Tryz.sizeOf24 | exact Tryz.sizeOf24 W | go_simp)
 unfold skipP at h
 have HL6 := Aside0.mk (show cs.length = 6 from k24.K_len hK)
 obtain ⟨A5, c5, ecs, hl5, hk5⟩ := k24_open hK
 have H0 := Aside0.mk (show cs[0]? = some (.int .i64 p.f0) from by rw [ecs]; rfl)
 have H1 := Aside0.mk (show cs[1]? = some (.int .i64 p.f1) from by rw [ecs]; rfl)
 have H2 := Aside0.mk (show cs[2]? = some (.string p.f2) from by rw [ecs]; rfl)
 have H3 := Aside0.mk (show cs[3]? = some (.int .i64 p.f3) from by rw [ecs]; rfl)
 have H4 := Aside0.mk (show cs[4]? = some (.int .i64 p.f4) from by rw [ecs]; rfl)
 have H5 := Aside0.mk (show cs[5]? = some (.slice A5 p.f5.length c5) from by rw [ecs]; rfl)
 have HK5 := Aside0.mk hk5; have HFC := Aside0.mk hf; have HFL := Aside0.mk hcf; have HRU0 := Aside0.mk (fun (rs : List ByteArray) (hrs : runsP k p = some rs) W (hb : Below w.heap.size w W) => show Calls Tryz.prog 29 #[.agg cs.toArray] W (fun e w' => ∃ v0_ : Value, e = .returned (v0_) ∧ Kd.R Kd.string 9 w' W.heap.size (fun _ => True) v0_ rs ∧ Below W.heap.size W w') from by rw [ecs]; exact need_runs.calls k p.f0 p.f1 p.f2 p.f3 p.f4 A5 c5 p.f5 rs W (Kd.C_below hk5 hb) hl5 hrs)
 have IH := Aside0.mk ih; clear hK hk5 hl5 ih ecs hf hcf; by_cases q12 : p.f0 = 12
 ·rw [if_pos q12] at h; have q12b : (p.f0 == 12) = true := beq_iff_eq.mpr q12; clear q12 HRU0; have HCT := Aside0.mk (fun W (Bf : Nat) (hb : Below w.heap.size w W) (hc : W.heap[Bf]? = some (.cells #[.slice Af f.length cf] 33 (0, 0))) => need_Skip.kids1.contains (fun q => skipP k q f) (.pointer (some ⟨Bf, 0, none⟩)) A5 c5 p.f5 r W (Kd.C_below HK5.out hb) (fun x c b W2 _ hb2 hKx hg => need_Skip.clo1 k IH.out x c Af cf f b W2 Bf hKx (Kd.C_below HFC.out (below_step hb hb2)) HFL.out (blk_keep hb2 hc) hg) h)
  clear h; go_enter Tryz.func12, Tryz.ntmps12
  go_wp2_with (first
   | ((with_reducible refine gate_dst (N := 2) rfl ?_); refine box_all rfl rfl (cs := cs.toArray) rfl (fun W => by rw [List.size_toArray, HL6.out]; exact HSZ.out W) ?_; intro w1 hbx hbw; have BW1 := Aside0.mk hbw; have BX1 := Aside0.mk hbx; clear hbx hbw)
   | ((with_reducible refine gate_dst (N := 3) rfl ?_); refine box_sl rfl rfl (A := Af) (n := f.length) (c := cf) rfl ?_; intro w2 hbx hbw; have BW2 := Aside0.mk (below_step BW1.out hbw); have BX2 := Aside0.mk (blk_keep hbw BX1.out); have BF2 := Aside0.mk hbx; clear hbx hbw BX1)
   | ((with_reducible refine gate_store (t := 55) (p := 5) rfl ?_); refine store_fn (g := w2.heap.size) rfl rfl rfl rfl rfl HSZN.out (heap_alloc_new w2 _) ?_; intro w3 hfn hoth hbel; have BN3 := Aside0.mk hfn; have BW3 := Aside0.mk (hbel w ((BW2.out).alloc (below_size BW2.out) _) (below_size BW2.out)); have BX3 := Aside0.mk ((hoth w.heap.size (by have := BW2.out; have h1 := blk_lt BX2.out; omega)).trans (blk_alloc BX2.out _)); have BF3 := Aside0.mk ((hoth w1.heap.size (by have h1 := blk_lt BF2.out; omega)).trans (blk_alloc BF2.out _)); have hcv0 : w3.cell? ⟨w.heap.size, 0, none⟩ = some (.int .i64 p.f0) := blk_cells BX3.out 0 _ H0.out; have hcv5 : w3.cell? ⟨w.heap.size, 5, none⟩ = some (.slice A5 p.f5.length c5) := blk_cells BX3.out 5 _ H5.out; have hcn : w3.cell? ⟨w2.heap.size, 0, none⟩ = some (.func (.func 25) #[] #[.pointer (some ⟨w1.heap.size, 0, none⟩)]) := cell0_of BN3.out; clear hfn hoth hbel BW2 BX2 BF2)
   | (go_at_call 26; refine (HCT.out _ w1.heap.size BW3.out BF3.out).mono ?_; rintro e w5 ⟨rfl, hb5⟩; have BW9 := Aside0.mk (below_step BW3.out hb5); clear hb5))
  go_ret
  exact ⟨rfl, BW9.out⟩
 rw [if_neg q12] at h; have q12b : (p.f0 == 12) = false := beq_eq_false_iff_ne.mpr q12; clear q12; by_cases q13 : p.f0 = 13
 ·rw [if_pos q13] at h; have q13b : (p.f0 == 13) = true := beq_iff_eq.mpr q13; clear q13 HRU0; obtain ⟨z, hz, rfl⟩ := Option.map_eq_some_iff.1 h
  have HCT := Aside0.mk (fun W (Bf Bg : Nat) (hb : Below w.heap.size w W) (hc : W.heap[Bf]? = some (.cells #[.slice Af f.length cf] 33 (0, 0))) (hg : W.heap[Bg]? = some (.cells #[.func (.func 25) #[] #[.pointer (some ⟨Bf, 0, none⟩)]] 55 (0, 0))) => need_Skip.kids2.contains (fun q => (skipP k q f).map (!·)) (.pointer (some ⟨Bg, 0, none⟩)) A5 c5 p.f5 z W (Kd.C_below HK5.out hb) (fun x c b W2 _ hb2 hKx hgx => need_Skip.clo2 k IH.out x c Af cf f b W2 Bf Bg hKx (Kd.C_below HFC.out (below_step hb hb2)) HFL.out (blk_keep hb2 hc) (blk_keep hb2 hg) hgx) hz)
  clear h hz; go_enter Tryz.func12, Tryz.ntmps12
  go_wp2_with (first
   | ((with_reducible refine gate_dst (N := 2) rfl ?_); refine box_all rfl rfl (cs := cs.toArray) rfl (fun W => by rw [List.size_toArray, HL6.out]; exact HSZ.out W) ?_; intro w1 hbx hbw; have BW1 := Aside0.mk hbw; have BX1 := Aside0.mk hbx; clear hbx hbw)
   | ((with_reducible refine gate_dst (N := 3) rfl ?_); refine box_sl rfl rfl (A := Af) (n := f.length) (c := cf) rfl ?_; intro w2 hbx hbw; have BW2 := Aside0.mk (below_step BW1.out hbw); have BX2 := Aside0.mk (blk_keep hbw BX1.out); have BF2 := Aside0.mk hbx; clear hbx hbw BX1)
   | ((with_reducible refine gate_store (t := 55) (p := 5) rfl ?_); refine store_fn (g := w2.heap.size) rfl rfl rfl rfl rfl HSZN.out (heap_alloc_new w2 _) ?_; intro w3 hfn hoth hbel; have BN3 := Aside0.mk hfn; have BW3 := Aside0.mk (hbel w ((BW2.out).alloc (below_size BW2.out) _) (below_size BW2.out)); have BX3 := Aside0.mk ((hoth w.heap.size (by have := BW2.out; have h1 := blk_lt BX2.out; omega)).trans (blk_alloc BX2.out _)); have BF3 := Aside0.mk ((hoth w1.heap.size (by have h1 := blk_lt BF2.out; omega)).trans (blk_alloc BF2.out _)); have hcv0 : w3.cell? ⟨w.heap.size, 0, none⟩ = some (.int .i64 p.f0) := blk_cells BX3.out 0 _ H0.out; have hcv5 : w3.cell? ⟨w.heap.size, 5, none⟩ = some (.slice A5 p.f5.length c5) := blk_cells BX3.out 5 _ H5.out; have hcn : w3.cell? ⟨w2.heap.size, 0, none⟩ = some (.func (.func 25) #[] #[.pointer (some ⟨w1.heap.size, 0, none⟩)]) := cell0_of BN3.out; clear hfn hoth hbel BW2 BX2 BF2)
   | (go_at_call 26; refine (HCT.out _ w1.heap.size w2.heap.size BW3.out BF3.out BN3.out).mono ?_; rintro e w5 ⟨rfl, hb5⟩; have BW9 := Aside0.mk (below_step BW3.out hb5); clear hb5))
  go_ret
  exact ⟨rfl, BW9.out⟩
 rw [if_neg q13] at h; have q13b : (p.f0 == 13) = false := beq_eq_false_iff_ne.mpr q13; clear q13; by_cases q14 : p.f0 = 14
 ·rw [if_pos q14] at h; obtain rfl := Option.some.inj h
  have q14b : (p.f0 == 14) = true := beq_iff_eq.mpr q14; clear q14 HRU0 h; go_enter Tryz.func12, Tryz.ntmps12
  go_wp2_with (first
   | ((with_reducible refine gate_dst (N := 2) rfl ?_); refine box_all rfl rfl (cs := cs.toArray) rfl (fun W => by rw [List.size_toArray, HL6.out]; exact HSZ.out W) ?_; intro w1 hbx hbw; have BW1 := Aside0.mk hbw; have BX1 := Aside0.mk hbx; clear hbx hbw)
   | ((with_reducible refine gate_dst (N := 3) rfl ?_); refine box_sl rfl rfl (A := Af) (n := f.length) (c := cf) rfl ?_; intro w2 hbx hbw; have BW2 := Aside0.mk (below_step BW1.out hbw); have BX2 := Aside0.mk (blk_keep hbw BX1.out); have BF2 := Aside0.mk hbx; clear hbx hbw BX1)
   | ((with_reducible refine gate_store (t := 55) (p := 5) rfl ?_); refine store_fn (g := w2.heap.size) rfl rfl rfl rfl rfl HSZN.out (heap_alloc_new w2 _) ?_; intro w3 hfn hoth hbel; have BN3 := Aside0.mk hfn; have BW3 := Aside0.mk (hbel w ((BW2.out).alloc (below_size BW2.out) _) (below_size BW2.out)); have BX3 := Aside0.mk ((hoth w.heap.size (by have := BW2.out; have h1 := blk_lt BX2.out; omega)).trans (blk_alloc BX2.out _)); have BF3 := Aside0.mk ((hoth w1.heap.size (by have h1 := blk_lt BF2.out; omega)).trans (blk_alloc BF2.out _)); have hcv0 : w3.cell? ⟨w.heap.size, 0, none⟩ = some (.int .i64 p.f0) := blk_cells BX3.out 0 _ H0.out; have hcv5 : w3.cell? ⟨w.heap.size, 5, none⟩ = some (.slice A5 p.f5.length c5) := blk_cells BX3.out 5 _ H5.out; have hcn : w3.cell? ⟨w2.heap.size, 0, none⟩ = some (.func (.func 25) #[] #[.pointer (some ⟨w1.heap.size, 0, none⟩)]) := cell0_of BN3.out; clear hfn hoth hbel BW2 BX2 BF2))
  go_ret
  exact ⟨rfl, BW3.out⟩
 rw [if_neg q14] at h; have q14b : (p.f0 == 14) = false := beq_eq_false_iff_ne.mpr q14; clear q14; obtain ⟨rs, hrs, h⟩ := Option.bind_eq_some_iff.1 h
 have HRU := Aside0.mk (HRU0.out rs hrs)
 have HCT := Aside0.mk (fun W (Bf Bp : Nat) (A : Option Addr) (c : Nat) (hb : Below w.heap.size w W) (hr : Kd.C Kd.string W A rs.length rs) (hc : W.heap[Bf]? = some (.cells #[.slice Af f.length cf] 33 (0, 0))) (hp : W.heap[Bp]? = some (.cells cs.toArray 24 (0, 0))) => need_Skip.strs.contains (fun s => (mayAt k f p.f1 s).map (!·)) (.pointer (some ⟨Bf, 0, none⟩)) (.pointer (some ⟨Bp, 0, none⟩)) A c rs r W hr (fun x b W2 _ hb2 hg => need_Skip.clo3 k x cs p.f1 Af cf f b W2 Bf Bp H1.out (blk_keep hb2 hp) (Kd.C_below HFC.out (below_step hb hb2)) HFL.out (blk_keep hb2 hc) hg) h)
 clear h hrs HRU0; go_enter Tryz.func12, Tryz.ntmps12
 go_wp2_with (first
  | ((with_reducible refine gate_dst (N := 2) rfl ?_); refine box_all rfl rfl (cs := cs.toArray) rfl (fun W => by rw [List.size_toArray, HL6.out]; exact HSZ.out W) ?_; intro w1 hbx hbw; have BW1 := Aside0.mk hbw; have BX1 := Aside0.mk hbx; clear hbx hbw)
  | ((with_reducible refine gate_dst (N := 3) rfl ?_); refine box_sl rfl rfl (A := Af) (n := f.length) (c := cf) rfl ?_; intro w2 hbx hbw; have BW2 := Aside0.mk (below_step BW1.out hbw); have BX2 := Aside0.mk (blk_keep hbw BX1.out); have BF2 := Aside0.mk hbx; clear hbx hbw BX1)
  | ((with_reducible refine gate_store (t := 55) (p := 5) rfl ?_); refine store_fn (g := w2.heap.size) rfl rfl rfl rfl rfl HSZN.out (heap_alloc_new w2 _) ?_; intro w3 hfn hoth hbel; have BN3 := Aside0.mk hfn; have BW3 := Aside0.mk (hbel w ((BW2.out).alloc (below_size BW2.out) _) (below_size BW2.out)); have BX3 := Aside0.mk ((hoth w.heap.size (by have := BW2.out; have h1 := blk_lt BX2.out; omega)).trans (blk_alloc BX2.out _)); have BF3 := Aside0.mk ((hoth w1.heap.size (by have h1 := blk_lt BF2.out; omega)).trans (blk_alloc BF2.out _)); have hcv0 : w3.cell? ⟨w.heap.size, 0, none⟩ = some (.int .i64 p.f0) := blk_cells BX3.out 0 _ H0.out; have hcv5 : w3.cell? ⟨w.heap.size, 5, none⟩ = some (.slice A5 p.f5.length c5) := blk_cells BX3.out 5 _ H5.out; have hcn : w3.cell? ⟨w2.heap.size, 0, none⟩ = some (.func (.func 25) #[] #[.pointer (some ⟨w1.heap.size, 0, none⟩)]) := cell0_of BN3.out; clear hfn hoth hbel BW2 BX2 BF2)
  | ((with_reducible refine gate_dst (N := 24) rfl ?_); refine load_all rfl rfl (cs := cs) rfl HAGG.out (fun W => by rw [HL6.out]; exact HSZ.out W) (blk_cells BX3.out) ?_)
  | (go_at_call 29; refine (HRU.out _ BW3.out).mono ?_; rintro e w5 ⟨v5, rfl, hR5, hb5⟩; obtain ⟨Ar, cr, rfl, hlr, hCr⟩ := Kd.R_reads hR5; have HCR := Aside0.mk hCr; have BW5 := Aside0.mk (below_step BW3.out hb5); have BX5 := Aside0.mk (blk_keep hb5 BX3.out); have BF5 := Aside0.mk (blk_keep hb5 BF3.out); clear hb5 hR5 hlr hCr)
  | (go_at_call 28; refine (HCT.out _ w1.heap.size w.heap.size Ar cr BW5.out HCR.out BF5.out BX5.out).mono ?_; rintro e w6 ⟨rfl, hb6⟩; have BW9 := Aside0.mk (below_step BW5.out hb6); clear hb6))
 go_ret
 exact ⟨rfl, BW9.out⟩
theorem need_Skip.calls (k : Nat) (a0_0 : Int) (a0_1 : Int) (a0_2 : ByteArray) (a0_3 : Int) (a0_4 : Int) (A0_5 : Option Addr) (c0_5 : Nat) (l0_5 : List (S24)) (A1 : Option Addr) (c1 : Nat) (l1 : List (S53)) (r : Bool) (w : World) (hr0_5 : Kd.C k24 w A0_5 l0_5.length l0_5) (hc0_5 : l0_5.length ≤ c0_5) (hr1 : Kd.C k53 w A1 l1.length l1) (hc1 : l1.length ≤ c1) (h : need_Skip.f k a0_0 a0_1 a0_2 a0_3 a0_4 l0_5 l1 = some r) :
  Calls Tryz.prog 12 #[.agg #[.int .i64 a0_0, .int .i64 a0_1, .string a0_2, .int .i64 a0_3, .int .i64 a0_4, .slice A0_5 l0_5.length c0_5], .slice A1 l1.length c1] w fun e w' => e = .returned (.bool r) ∧ Below w.heap.size w w' :=
 need_Skip.core k ⟨a0_0, a0_1, a0_2, a0_3, a0_4, l0_5⟩ _ A1 c1 l1 r w (k24_mk w ⟨a0_0, a0_1, a0_2, a0_3, a0_4, l0_5⟩ hc0_5 hr0_5) hr1 hc1 h

/-! ### need_joins: function 50 -/
def need_joins.f (a0 : Int) : Option (Bool) := if a0 ≥ 12 then (some (decide (a0 ≤ 14))) else (some false)
theorem need_joins.calls (a0 : Int) (r : Bool) (w : World) (h : need_joins.f a0 = some r) :
  Calls Tryz.prog 50 #[.int .i64 a0] w fun e w' => e = .returned (.bool r) ∧ Drawn0 w w' := by
 have H : (if a0 ≥ 12 then (some (decide (a0 ≤ 14))) else (some false)) = some r := h; clear h; by_cases c2 : a0 ≥ 12
 ·rw [if_pos c2] at H; have c2b0 : decide (12 ≤ a0) = true := decide_eq_true c2; clear c2; obtain rfl := Option.some.inj H
  go_enter Tryz.func50, Tryz.ntmps50
  go_wp2
  go_ret
  exact exD
 ·rw [if_neg c2] at H; have c2b0 : decide (12 ≤ a0) = false := decide_eq_false c2; clear c2; obtain rfl := Option.some.inj H
  go_enter Tryz.func50, Tryz.ntmps50
  go_wp2
  go_ret
  exact exD

/-! ### need_compares: function 68 -/
def need_compares.f (a0 : Int) : Option (Bool) := if a0 ≥ 1 then (some (decide (a0 ≤ 6))) else (some false)
theorem need_compares.calls (a0 : Int) (r : Bool) (w : World) (h : need_compares.f a0 = some r) :
  Calls Tryz.prog 68 #[.int .i64 a0] w fun e w' => e = .returned (.bool r) ∧ Drawn0 w w' := by
 have H : (if a0 ≥ 1 then (some (decide (a0 ≤ 6))) else (some false)) = some r := h; clear h; by_cases c2 : a0 ≥ 1
 ·rw [if_pos c2] at H; have c2b0 : decide (1 ≤ a0) = true := decide_eq_true c2; clear c2; obtain rfl := Option.some.inj H
  go_enter Tryz.func68, Tryz.ntmps68
  go_wp2
  go_ret
  exact exD
 ·rw [if_neg c2] at H; have c2b0 : decide (1 ≤ a0) = false := decide_eq_false c2; clear c2; obtain rfl := Option.some.inj H
  go_enter Tryz.func68, Tryz.ntmps68
  go_wp2
  go_ret
  exact exD

end Go.Proofs.YtdccooaddoafnaaGreatDoor.Q
