-- PRINTED by print.py (a twelfth state) out of the translation. Not trusted: Lean checks it.
import Derived.Test.YtomccmodlkdcbaaQx0
import Derived.Test.YtomccmodlkdcbaaQx4
import Derived.Test.YtomccmodlkdcbaaQx5
import Derived.Test.YtomccmodlkdcbaaQx6
import Derived.Test.YtomccmodlkdcbaaQx7
import Derived.Test.YtomccmodlkdcbaaQx9
namespace Go.Proofs.Ytomccmodlkdcbaa.Q
open Go.RowKit Go.Proofs.YtomccmodlkdcbaaW.PrintWords Go.Proofs.YtomccmodlkdcbaaW.PrintLast Go.Proofs.YtomccmodlkdcbaaW.PrintMore
attribute [local go_sem] str_gtr str_geq str_leq max2_int min2_int max_two min_two max_three min_three max_four min_four   -- for this text's walks alone
set_option linter.unusedVariables false
set_option linter.unusedSimpArgs false

/-! ### hopperref25_Tables: function 16 -/
-- told by hand
def refTabsP : Nat → S31 → Option (List ByteArray)
 | 0, _ => none
 | k + 1, p => (tabsL (fun q => refTabsP k q) p.f12 (if p.f0 = 1 then [p.f1] else [])).bind fun out => hopperref13_Sorted.f k out
def hopperref25_Tables.f (k : Nat) (a0_0 : Int) (a0_1 : ByteArray) (a0_2 : Int) (a0_3 : Int) (a0_4 : ByteArray) (a0_5 : Int) (a0_6 : Int) (l0_7 : List S24) (l0_8 : List S50) (l0_9 : List Int) (l0_10 : List S72) (a0_11 : Int) (l0_12 : List Int) (l0_13 : List Int) (l0_14 : List S52) (a0_15 : Int) (a0_16 : Int) (l0_17 : List S31) : Option (List ByteArray) := refTabsP k ⟨a0_0, a0_1, ⟨a0_2, a0_3, a0_4, a0_5, a0_6, l0_7⟩, l0_8, l0_9, l0_10, a0_11, l0_12, l0_13, l0_14, a0_15, a0_16, l0_17⟩
set_option maxHeartbeats 8000000 in
set_option maxRecDepth 1000000 in
theorem hopperref25_Tables.core (k : Nat) : ∀ (p : S31) (cs : List Value) (r : List ByteArray) (w : World), k31.K w p cs → refTabsP k p = some r →
  Calls Try.prog 16 #[.agg cs.toArray] w fun e w' => ∃ v0_ : Value, e = .returned (v0_) ∧ Kd.R Kd.string 9 w' w.heap.size (fun _ => True) v0_ r ∧ Below w.heap.size w w' := by
 have hagg : ∀ W, (isAgg 31).run Try.prog W = .ok true W := fun W => by first | exact Try.isAgg31 | exact Try.isAgg31 W | go_simp
 have hsz18 : ∀ W, (sizeOf 31).run Try.prog W = .ok 18 W := fun W => by first | exact Try.sizeOf31 | exact Try.sizeOf31 W | go_simp
 have HAGG := Aside0.mk hagg
 have HSZ := Aside0.mk hsz18
 clear hagg hsz18
 induction k with
 | zero => intro p cs r w _ h; cases h
 | succ k ih =>
 intro p cs r w hK h
 have hu31 := Try.underlying31
 unfold refTabsP at h
 obtain ⟨A17, c17, hcs17, hcs0, hcs1, hk17⟩ := kids_atS p cs w hK
 have hn : p.f12.length ≤ 9223372036854775807 := hk17.2.1
 have HL18 := Aside0.mk (show cs.length = 18 from k31.K_len hK)
 have HK17 := Aside0.mk hk17
 have HN := Aside0.mk hn
 have IH := Aside0.mk ih
 have H17 := Aside0.mk hcs17
 have H0 := Aside0.mk hcs0
 have H1 := Aside0.mk hcs1
 clear hK hk17 hn ih hcs17 hcs0 hcs1
 obtain ⟨o, ho, h⟩ := Option.bind_eq_some_iff.1 h
 have HO := Aside0.mk ho
 have HSO := Aside0.mk h
 clear ho h
 go_enter Try.func16, Try.ntmps16
 go_upto_if 7 with (first
  | ((with_reducible refine gate_dst (N := 1) rfl ?_); refine box_all rfl rfl (cs := cs.toArray) rfl (fun W => by rw [List.size_toArray, HL18.out]; exact HSZ.out W) ?_; intro w1 hbx hbw; have BW1 := Aside0.mk hbw; have BX1 := Aside0.mk hbx; have hcv0 : w1.cell? ⟨w.heap.size, 0, none⟩ = some (.int .i64 p.f0) := blk_cells hbx 0 _ H0.out; clear hbx hbw))
 go_cut [3] (fun s3 wc => ∃ (vv : Value), vv = s3 ∧ Aside0 (Kd.R Kd.string 9 wc w.heap.size (fun _ => True) vv (if p.f0 = 1 then [p.f1] else [])) ∧ Aside0 (Below w.heap.size w wc) ∧ Aside0 (wc.heap[w.heap.size]? = some (.cells cs.toArray 31 (0, 0))))
 case first =>
  by_cases hk1 : p.f0 = 1
  ·have hk0 : (p.f0 == 1) = true := beq_iff_eq.mpr hk1
   have hcv1 : w1.cell? ⟨w.heap.size, 1, none⟩ = some (.string p.f1) := blk_cells BX1.out 1 _ H1.out
   go_wp2_with (first
    | ((with_reducible refine gate_dst (N := 10) rfl ?_); refine Kd.R_lit Kd.string _ 9 ?hg (N := 10) ?hd (xs := ([p.f1] : List ByteArray)) (inner := [.string p.f1]) (ok := fun _ => True) (okp := fun _ => True) ?hr ?hp (fun _ hk => hk) trivial (Below.refl _ _) (Nat.le_refl _) (by simp) ?_; (case hd => rfl); (case hg => rfl); (case hr => first | (go_simp; done) | (go_simp; rfl)); (case hp => exact (Reps.one (show Kd.M Kd.string _ _ _ p.f1 [.string p.f1] from rfl) (Reps.none _ _))); intro v342 w7 ho8 hb hg_ hnew_; clear hg_ hnew_; have HO8 := Aside0.mk (Kd.R_lower ho8 (below_size BW1.out)); have BX8 := Aside0.mk ((hb.block w.heap.size (Array.getElem?_eq_some_iff.1 BX1.out).1).trans BX1.out); have HB8 := Aside0.mk (below_step BW1.out hb); clear hb ho8))
   go_meet
   case rel => exact ⟨_, rfl, ⟨by rw [if_pos hk1]; exact HO8.out⟩, HB8, BX8⟩
  ·have hk0 : (p.f0 == 1) = false := beq_eq_false_iff_ne.mpr hk1
   go_wp2
   go_meet
   case rel => exact ⟨_, rfl, ⟨by rw [if_neg hk1]; exact Kd.R_nil _ _ _ _ _⟩, BW1, BX1⟩
 case rest =>
  clear BW1 BX1 hcv0
  obtain ⟨vv0, rfl, HO3, HB3, BX3⟩ := hcut
  go_upto_if 15 with (fail)
  go_loopg [3, 4] p.f12.length (fun gg s3 s4 wr => ∃ (i : Nat) (out : List ByteArray) (vv : Value), vv = s3 ∧ s4 = .int .i64 i ∧ i ≤ p.f12.length ∧ p.f12.length - i ≤ gg ∧ Aside0 (tabsL (fun q => refTabsP k q) (p.f12.drop i) out = some o) ∧ Aside0 (Kd.R Kd.string 9 wr w.heap.size (fun _ => True) vv out) ∧ Aside0 (Below w.heap.size w wr) ∧ Aside0 (wr.heap[w.heap.size]? = some (.cells cs.toArray 31 (0, 0))))
  case atStart => exact ⟨0, _, _, rfl, rfl, Nat.zero_le _, by omega, HO, HO3, HB3, BX3⟩
  case round =>
   clear HO HO3 HB3 BX3
   obtain ⟨i, out, vv, rfl, rfl, hin, hg0, HTS, HO7, HB, BX⟩ := hrel
   have hcv17 : wr.cell? ⟨w.heap.size, 17, none⟩ = some (.slice A17 p.f12.length c17) := blk_cells BX.out 17 _ H17.out
   have hn := HN.out
   by_cases hlt : i < p.f12.length
   ·have hltz : (i : Int) < (p.f12.length : Int) := by omega
    have hi0 : (0 : Int) ≤ (i : Int) := by omega
    obtain ⟨ad, c, e17, hcl, hKu, hcell⟩ := kid_getS w A17 _ p.f12 HK17.out i hlt
    subst e17
    have hks := HTS.out
    rw [drop_getS p.f12 i hlt] at hks
    simp only [tabsL] at hks
    obtain ⟨t, ht, hks⟩ := Option.bind_eq_some_iff.1 hks
    by_cases hlim : out.length + t.length < 8796093022208
    case neg => rw [if_neg hlim] at hks; cases hks
    rw [if_pos hlim] at hks
    have HCALL := Aside0.mk (fun W (hb : Below w.heap.size w W) => IH.out (p.f12.getD i z31) c t W (k31.K_below hb hKu) ht)
    have HTS2 := Aside0.mk hks
    have HCL := Aside0.mk hcl
    have HLIM := Aside0.mk hlim
    have HCELL := Aside0.mk (show ∀ j v, c[j]? = some v → wr.cell? ((ad.add (i * 18)).add j) = some v from fun j v hj => (HB.out.cell (World.block_lt_of_cell? w _ (hcell j v hj))).trans (hcell j v hj))
    clear hKu ht hks HTS hcl hcell hlim hn
    go_wp2_with (first
     | ((with_reducible refine gate_dst (N := 23) rfl ?_); (try (refine gate_guard (by rfl) ?_; dsimp only)); refine load_all rfl rfl (cs := c) rfl HAGG.out (fun W => by rw [HCL.out]; exact HSZ.out W) HCELL.out ?_)
     | (go_at_call 16; refine (HCALL.out _ HB.out).mono ?_; rintro e w4 ⟨v0, rfl, hR4, hb4⟩; obtain ⟨Ar, cr, rfl, hlr, hCr⟩ := Kd.R_reads hR4; have HCR := Aside0.mk hCr; have HB4 := Aside0.mk (below_step HB.out hb4); have HO4 := Aside0.mk (Kd.R_below HO7.out hb4); have BX4 := Aside0.mk ((hb4.block w.heap.size (Array.getElem?_eq_some_iff.1 BX.out).1).trans BX.out); clear hb4 hR4 hlr hCr)
     | ((with_reducible refine gate_builtin (b := .append) (xs := #[.tmp 18, .tmp 24]) rfl ?_); at_builtin; refine Kd.R_append_rows Kd.string (w0 := w) w.heap.size rfl (.tmp 18) (.tmp 24) 42 9 (.string ⟨#[]⟩) 16 rfl Try.underlying42 info9 rfl (by decide) (by omega) vv out t _ _ _ (fun _ => True) (fun _ => False) rfl rfl ?aO ?aR (fun _ _ h => h) (fun _ h => h.elim) ?aF ?aB ?aS ?aL ?_; (case aR => exact HCR.out); (case aB => exact HB4.out); (case aF => exact (fun _ _ => trivial)); (case aO => exact HO4.out); (case aS => exact below_size HB4.out); (case aL => have := HLIM.out; omega); intro v150 w26 ho hb hg hat; have HO5 := Aside0.mk ho; have HB5 := Aside0.mk hb; have BX5 := Aside0.mk (blk_grown (g := w.heap.size) (o := .cells cs.toArray 31 (0, 0)) (by (with_reducible repeat (first | refine blk_drewN ?_ _ | refine blk_drew ?_ | refine blk_alloc ?_ _)); exact BX4.out) hg (Kd.R_ne HO4.out BX4.out (by decide))); clear ho hb hg hat))
    go_roundg (p.f12.length - (i + 1))
    case measure => omega
    case rel => have hN := HN.out; exact ⟨i + 1, out ++ t, _, rfl, by first | go_num | (congr 1; unfold wrap64; omega), by omega, by omega, HTS2, HO5, HB5, BX5⟩
   ·have hltz : ¬ (i : Int) < (p.f12.length : Int) := by omega
    have hks := HTS.out
    rw [List.drop_of_length_le (by omega)] at hks
    obtain rfl := Option.some.inj hks
    obtain ⟨Ao, co, rfl, hlo, hCo⟩ := Kd.R_reads HO7.out
    have HCO := Aside0.mk hCo
    have HLO := Aside0.mk hlo
    clear hks HTS hn hlo hCo
    go_wp2_with (first
     | (go_at_call 31; refine (hopperref13_Sorted.calls k Ao co out r _ HCO.out HLO.out HSO.out).mono ?_; rintro e w5 ⟨v5, rfl, hR5, hb5⟩; have HR5 := Aside0.mk (Kd.R_lower hR5 (below_size HB.out)); have HB5 := Aside0.mk (below_step HB.out hb5); clear hR5 hb5))
    go_ret
    exact ⟨_, rfl, HR5.out, HB5.out⟩
theorem refTabsP_mono : ∀ k p, LeO (refTabsP k p) (refTabsP (k + 1) p)
 | 0, p => fun r hr => by cases hr
 | k + 1, p => fun r hr => by
  unfold refTabsP at hr ⊢
  obtain ⟨o, ho, hr⟩ := Option.bind_eq_some_iff.1 hr
  rw [tabsL_mono (fun q => refTabsP_mono k q) p.f12 _ o ho]
  exact hopperref13_Sorted.mono _ k r hr
theorem hopperref25_Tables.mono : ∀ y0 y1 y2 y3 y4 y5 y6 y7 y8 y9 y10 y11 y12 y13 y14 y15 y16 y17 k, LeO (hopperref25_Tables.f k y0 y1 y2 y3 y4 y5 y6 y7 y8 y9 y10 y11 y12 y13 y14 y15 y16 y17) (hopperref25_Tables.f (k + 1) y0 y1 y2 y3 y4 y5 y6 y7 y8 y9 y10 y11 y12 y13 y14 y15 y16 y17) := fun _ _ _ _ _ _ _ _ _ _ _ _ _ _ _ _ _ _ k => refTabsP_mono k _
theorem hopperref25_Tables.calls (k : Nat) (a0_0 : Int) (a0_1 : ByteArray) (a0_2 : Int) (a0_3 : Int) (a0_4 : ByteArray) (a0_5 : Int) (a0_6 : Int) (A0_7 : Option Addr) (c0_7 : Nat) (l0_7 : List (S24)) (A0_8 : Option Addr) (c0_8 : Nat) (l0_8 : List (S50)) (A0_9 : Option Addr) (c0_9 : Nat) (l0_9 : List Int) (A0_10 : Option Addr) (c0_10 : Nat) (l0_10 : List (S72)) (a0_11 : Int) (A0_12 : Option Addr) (c0_12 : Nat) (l0_12 : List Int) (A0_13 : Option Addr) (c0_13 : Nat) (l0_13 : List Int) (A0_14 : Option Addr) (c0_14 : Nat) (l0_14 : List (S52)) (a0_15 : Int) (a0_16 : Int) (A0_17 : Option Addr) (c0_17 : Nat) (l0_17 : List (S31)) (r : List ByteArray) (w : World) (hr0_7 : Kd.C k24 w A0_7 l0_7.length l0_7) (hc0_7 : l0_7.length ≤ c0_7) (hr0_8 : Kd.C k50 w A0_8 l0_8.length l0_8) (hc0_8 : l0_8.length ≤ c0_8) (hr0_9 : Kd.C (Kd.int .i64) w A0_9 l0_9.length l0_9) (hc0_9 : l0_9.length ≤ c0_9) (hr0_10 : Kd.C k72 w A0_10 l0_10.length l0_10) (hc0_10 : l0_10.length ≤ c0_10) (hr0_12 : Kd.C (Kd.int .i64) w A0_12 l0_12.length l0_12) (hc0_12 : l0_12.length ≤ c0_12) (hr0_13 : Kd.C (Kd.int .i64) w A0_13 l0_13.length l0_13) (hc0_13 : l0_13.length ≤ c0_13) (hr0_14 : Kd.C k52 w A0_14 l0_14.length l0_14) (hc0_14 : l0_14.length ≤ c0_14) (hr0_17 : Kd.C k31 w A0_17 l0_17.length l0_17) (hc0_17 : l0_17.length ≤ c0_17) (h : hopperref25_Tables.f k a0_0 a0_1 a0_2 a0_3 a0_4 a0_5 a0_6 l0_7 l0_8 l0_9 l0_10 a0_11 l0_12 l0_13 l0_14 a0_15 a0_16 l0_17 = some r) :
  Calls Try.prog 16 #[.agg #[.int .i64 a0_0, .string a0_1, .int .i64 a0_2, .int .i64 a0_3, .string a0_4, .int .i64 a0_5, .int .i64 a0_6, .slice A0_7 l0_7.length c0_7, .slice A0_8 l0_8.length c0_8, .slice A0_9 l0_9.length c0_9, .slice A0_10 l0_10.length c0_10, .int .i64 a0_11, .slice A0_12 l0_12.length c0_12, .slice A0_13 l0_13.length c0_13, .slice A0_14 l0_14.length c0_14, .int .i64 a0_15, .int .i64 a0_16, .slice A0_17 l0_17.length c0_17]] w fun e w' => ∃ v0_ : Value, e = .returned (v0_) ∧ Kd.R Kd.string 9 w' w.heap.size (fun _ => True) v0_ r ∧ Below w.heap.size w w' :=
 hopperref25_Tables.core k ⟨a0_0, a0_1, ⟨a0_2, a0_3, a0_4, a0_5, a0_6, l0_7⟩, l0_8, l0_9, l0_10, a0_11, l0_12, l0_13, l0_14, a0_15, a0_16, l0_17⟩ _ r w (k31_mk w ⟨a0_0, a0_1, ⟨a0_2, a0_3, a0_4, a0_5, a0_6, l0_7⟩, l0_8, l0_9, l0_10, a0_11, l0_12, l0_13, l0_14, a0_15, a0_16, l0_17⟩ hc0_7 hr0_7 hc0_8 hr0_8 hc0_9 hr0_9 hc0_10 hr0_10 hc0_12 hr0_12 hc0_13 hr0_13 hc0_14 hr0_14 hc0_17 hr0_17) h

/-! ### hopperlaw25_PlanTables: function 4 -/
-- told by hand
def lawTabsP (k : Nat) (p : S31) : Option Bool := (hopperlaw25_awake.f k).bind fun t => if t = true then (smallP k p 20).bind fun b => if b = true then (tablesP k p).bind fun x => (refTabsP k p).bind fun y => hopperref07_Same.f k x y else some true else none
def hopperlaw25_PlanTables.f (k : Nat) (a0_0 : Int) (a0_1 : ByteArray) (a0_2 : Int) (a0_3 : Int) (a0_4 : ByteArray) (a0_5 : Int) (a0_6 : Int) (l0_7 : List S24) (l0_8 : List S50) (l0_9 : List Int) (l0_10 : List S72) (a0_11 : Int) (l0_12 : List Int) (l0_13 : List Int) (l0_14 : List S52) (a0_15 : Int) (a0_16 : Int) (l0_17 : List S31) : Option Bool := lawTabsP k ⟨a0_0, a0_1, ⟨a0_2, a0_3, a0_4, a0_5, a0_6, l0_7⟩, l0_8, l0_9, l0_10, a0_11, l0_12, l0_13, l0_14, a0_15, a0_16, l0_17⟩
set_option maxHeartbeats 8000000 in
set_option maxRecDepth 1000000 in
theorem hopperlaw25_PlanTables.core (k : Nat) (p : S31) (cs : List Value) (r : Bool) (w : World) (hK : k31.K w p cs) (h : lawTabsP k p = some r) :
  Calls Try.prog 4 #[.agg cs.toArray] w fun e w' => e = .returned (.bool r) ∧ Below w.heap.size w w' := by
 have hagg : ∀ W, (isAgg 31).run Try.prog W = .ok true W := fun W => by first | exact Try.isAgg31 | exact Try.isAgg31 W | go_simp
 have hsz18 : ∀ W, (sizeOf 31).run Try.prog W = .ok 18 W := fun W => by first | exact Try.sizeOf31 | exact Try.sizeOf31 W | go_simp
 have HAGG := Aside0.mk hagg
 have HSZ := Aside0.mk hsz18
 clear hagg hsz18
 have hu31 := Try.underlying31
 have HL18 := Aside0.mk (show cs.length = 18 from k31.K_len hK)
 unfold lawTabsP at h
 obtain ⟨t, haw, h⟩ := Option.bind_eq_some_iff.1 h
 cases t with
 | false => rw [if_neg (by decide)] at h; cases h
 | true =>
 rw [if_pos rfl] at h
 have HAW := Aside0.mk (fun W => hopperlaw25_awake.calls k true W haw)
 obtain ⟨b, hsm, h⟩ := Option.bind_eq_some_iff.1 h
 have HSM := Aside0.mk (fun W (hb : Below w.heap.size w W) => hopperref25_Small.core k p cs 20 b W (k31.K_below hb hK) hsm)
 clear haw hsm
 cases b with
 | false =>
  rw [if_neg (by decide)] at h
  obtain rfl := Option.some.inj h
  clear h
  go_enter Try.func4, Try.ntmps4
  go_wp2_with (first
   | ((with_reducible refine gate_dst (N := 1) rfl ?_); refine box_all rfl rfl (cs := cs.toArray) rfl (fun W => by rw [List.size_toArray, HL18.out]; exact HSZ.out W) ?_; intro w1 hbx hbw; have BW1 := Aside0.mk hbw; have BX1 := Aside0.mk hbx; clear hbx hbw)
   | (go_at_call 9; refine (HAW.out _).mono ?_; rintro e w2 ⟨rfl, hb2⟩; have HB2 := Aside0.mk (below_step BW1.out hb2); have BX2 := Aside0.mk ((hb2.block w.heap.size (Array.getElem?_eq_some_iff.1 BX1.out).1).trans BX1.out); clear hb2 BW1 BX1)
   | ((with_reducible refine gate_dst (N := 6) rfl ?_); (try (refine gate_guard (by rfl) ?_; dsimp only)); refine load_all rfl rfl (cs := cs) rfl HAGG.out (fun W => by rw [HL18.out]; exact HSZ.out W) (blk_cells BX2.out) ?_)
   | (go_at_call 10; refine (HSM.out _ HB2.out).mono ?_; rintro e w3 ⟨rfl, hb3⟩; have HB3 := Aside0.mk (below_step HB2.out hb3); have BX3 := Aside0.mk ((hb3.block w.heap.size (Array.getElem?_eq_some_iff.1 BX2.out).1).trans BX2.out); clear hb3 HB2 BX2)
   | (go_at_call 9; refine (HAW.out _).mono ?_; rintro e w4 ⟨rfl, hb4⟩; have HB4 := Aside0.mk (below_step HB3.out hb4); clear hb4))
  go_ret
  exact ⟨rfl, HB4.out⟩
 | true =>
 rw [if_pos rfl] at h
 obtain ⟨x, hx, h⟩ := Option.bind_eq_some_iff.1 h
 obtain ⟨y, hy, h⟩ := Option.bind_eq_some_iff.1 h
 have HTC := Aside0.mk (fun W (hb : Below w.heap.size w W) => plan_Tables.core k p cs x W (k31.K_below hb hK) hx)
 have HRC := Aside0.mk (fun W (hb : Below w.heap.size w W) => hopperref25_Tables.core k p cs y W (k31.K_below hb hK) hy)
 have HSA := Aside0.mk h
 clear hx hy h
 go_enter Try.func4, Try.ntmps4
 go_wp2_with (first
   | ((with_reducible refine gate_dst (N := 1) rfl ?_); refine box_all rfl rfl (cs := cs.toArray) rfl (fun W => by rw [List.size_toArray, HL18.out]; exact HSZ.out W) ?_; intro w1 hbx hbw; have BW1 := Aside0.mk hbw; have BX1 := Aside0.mk hbx; clear hbx hbw)
   | (go_at_call 9; refine (HAW.out _).mono ?_; rintro e w2 ⟨rfl, hb2⟩; have HB2 := Aside0.mk (below_step BW1.out hb2); have BX2 := Aside0.mk ((hb2.block w.heap.size (Array.getElem?_eq_some_iff.1 BX1.out).1).trans BX1.out); clear hb2 BW1 BX1)
   | ((with_reducible refine gate_dst (N := 6) rfl ?_); (try (refine gate_guard (by rfl) ?_; dsimp only)); refine load_all rfl rfl (cs := cs) rfl HAGG.out (fun W => by rw [HL18.out]; exact HSZ.out W) (blk_cells BX2.out) ?_)
   | (go_at_call 10; refine (HSM.out _ HB2.out).mono ?_; rintro e w3 ⟨rfl, hb3⟩; have HB3 := Aside0.mk (below_step HB2.out hb3); have BX3 := Aside0.mk ((hb3.block w.heap.size (Array.getElem?_eq_some_iff.1 BX2.out).1).trans BX2.out); clear hb3 HB2 BX2)
   | (go_at_call 9; refine (HAW.out _).mono ?_; rintro e w4 ⟨rfl, hb4⟩; have HB4 := Aside0.mk (below_step HB3.out hb4); clear hb4))
 have BXd := Aside0.mk (blk_drew BX3.out)
 have HBd := Aside0.mk (below_drew1 HB3.out)
 clear BX3 HB3
 refine start_ (n := 6) (S := fun w' => w'.heap[w.heap.size]? = some (.cells cs.toArray 31 (0, 0))) (ds := []) #[false, false, false, false, false, false] (by kernel_rfl) rfl rfl BXd.out (fun hHeld => ?_)
 generalize w3.drew = w17 at BXd HBd hHeld ⊢
 refine take_ (i := 0) (N := some 11) (v := .agg cs.toArray) (a' := ?ta0) #[true, false, false, false, false, false] rfl rfl (by kernel_rfl) (fun _ _ _ h => h) (Or.inl ⟨by rfl, fun w' hs => load_run31 rfl rfl HL18.out hs⟩) hHeld ?th0 ?tc0
 case th0 => simp only [Act.put, List.setIfInBounds_toArray, List.set_cons_zero, List.set_cons_succ, i64_w, i32_w]; rfl
 case tc0 =>
 refine take_ (i := 2) (N := some 13) (v := .agg cs.toArray) (a' := ?ta2) #[true, false, true, false, false, false] rfl rfl (by kernel_rfl) (fun _ _ _ h => h) (Or.inl ⟨by rfl, fun w' hs => load_run31 rfl rfl HL18.out hs⟩) hHeld ?th2 ?tc2
 case th2 => simp only [Act.put, List.setIfInBounds_toArray, List.set_cons_zero, List.set_cons_succ, i64_w, i32_w]; rfl
 case tc2 =>
 refine one_ (i := 1) (N := some 12) #[true, true, true, false, false, false] rfl rfl (by kernel_rfl) (by decide) (fun K hK => ?_)
 refine goes_ Try.func15 (by kernel_rfl) rfl #[.agg cs.toArray] (by rfl) rfl rfl (by (try simp only [List.map_toArray, List.map_cons, List.map_nil]); first | done | rfl) ?_
 refine (HTC.out _ HBd.out).mono ?_
 rintro e w18 ⟨v1, rfl, ho1, hb1⟩
 refine ⟨_, rfl, ?_⟩
 obtain ⟨A1, c1, rfl, hl1, hC1⟩ := Kd.R_reads ho1
 have HC1 := Aside0.mk hC1
 have HL1 := Aside0.mk hl1
 have HB18 := Aside0.mk (below_step HBd.out hb1)
 have BX18 := Aside0.mk ((hb1.block w.heap.size (Array.getElem?_eq_some_iff.1 BXd.out).1).trans BXd.out)
 clear ho1 hl1 hC1 hb1 BXd HBd
 refine hK.out _ _ BX18.out (fun hHeld => ?_)
 clear hK K
 refine norm_ (a' := ?na12) ?nh12 ?nc12
 case nh12 => show Act.put _ (some 12) _ = _; simp only [Act.put, List.setIfInBounds_toArray, List.set_cons_zero, List.set_cons_succ, i64_w, i32_w]; rfl
 case nc12 =>
 refine one_ (i := 3) (N := some 14) #[true, true, true, true, false, false] rfl rfl (by kernel_rfl) (by decide) (fun K hK => ?_)
 refine goes_ Try.func16 (by kernel_rfl) rfl #[.agg cs.toArray] (by rfl) rfl rfl (by (try simp only [List.map_toArray, List.map_cons, List.map_nil]); first | done | rfl) ?_
 refine (HRC.out _ HB18.out).mono ?_
 rintro e w19 ⟨v2, rfl, ho2, hb2⟩
 refine ⟨_, rfl, ?_⟩
 obtain ⟨A2, c2, rfl, hl2, hC2⟩ := Kd.R_reads ho2
 have HC2 := Aside0.mk hC2
 have HL2 := Aside0.mk hl2
 have HC1b := Aside0.mk (Kd.C_below HC1.out hb2)
 have HB19 := Aside0.mk (below_step HB18.out hb2)
 have BX19 := Aside0.mk ((hb2.block w.heap.size (Array.getElem?_eq_some_iff.1 BX18.out).1).trans BX18.out)
 clear ho2 hl2 hC2 hb2 BX18 HC1
 refine hK.out _ _ BX19.out (fun hHeld => ?_)
 clear hK K
 refine norm_ (a' := ?na14) ?nh14 ?nc14
 case nh14 => show Act.put _ (some 14) _ = _; simp only [Act.put, List.setIfInBounds_toArray, List.set_cons_zero, List.set_cons_succ, i64_w, i32_w]; rfl
 case nc14 =>
 refine one_ (i := 4) (N := some 15) #[true, true, true, true, true, false] rfl rfl (by kernel_rfl) (by decide) (fun K hK => ?_)
 refine goes_ Try.func14 (by kernel_rfl) rfl #[.slice A1 x.length c1, .slice A2 y.length c2] (by rfl) rfl rfl (by (try simp only [List.map_toArray, List.map_cons, List.map_nil]); first | done | rfl) ?_
 refine (hopperref07_Same.calls k A1 c1 x A2 c2 y r _ HC1b.out HL1.out HC2.out HL2.out HSA.out).mono ?_
 rintro e w20 ⟨rfl, hd⟩
 refine ⟨_, rfl, ?_⟩
 have HB20 := Aside0.mk (below_step HB19.out hd.below)
 refine hK.out _ _ ((hd.below.block w.heap.size (Array.getElem?_eq_some_iff.1 BX19.out).1).trans BX19.out) (fun hHeld => ?_)
 clear hK K hd
 refine norm_ (a' := ?na15) ?nh15 ?nc15
 case nh15 => show Act.put _ (some 15) _ = _; simp only [Act.put, List.setIfInBounds_toArray, List.set_cons_zero, List.set_cons_succ, i64_w, i32_w]; rfl
 case nc15 =>
 refine pure_ (i := 5) (N := some 2) (v := .bool r) (a' := ?pa) #[true, true, true, true, true, true] rfl rfl (by kernel_rfl) (fun _ _ _ h => h) (Or.inl ⟨by rfl, fun w' => ?py⟩) ?ph ?pc
 case py => go_simp
 case ph => simp only [Act.put, List.setIfInBounds_toArray, List.set_cons_zero, List.set_cons_succ, i64_w, i32_w]; rfl
 case pc =>
 refine done_ (by kernel_rfl) ?_
 try go_wp2
 go_ret
 exact ⟨rfl, HB20.out⟩
theorem lawTabsP_mono (k : Nat) (p : S31) : LeO (lawTabsP k p) (lawTabsP (k + 1) p) := by
 unfold lawTabsP
 exact LeO.bind' (hopperlaw25_awake.mono k) fun t => LeO.ite' (LeO.bind' (smallP_mono k p 20) fun b => LeO.ite' (LeO.bind' (tablesP_mono k p) fun x => LeO.bind' (refTabsP_mono k p) fun y => hopperref07_Same.mono _ _ k) (fun _ h => h)) (fun _ h => h)
theorem hopperlaw25_PlanTables.mono : ∀ y0 y1 y2 y3 y4 y5 y6 y7 y8 y9 y10 y11 y12 y13 y14 y15 y16 y17 k, LeO (hopperlaw25_PlanTables.f k y0 y1 y2 y3 y4 y5 y6 y7 y8 y9 y10 y11 y12 y13 y14 y15 y16 y17) (hopperlaw25_PlanTables.f (k + 1) y0 y1 y2 y3 y4 y5 y6 y7 y8 y9 y10 y11 y12 y13 y14 y15 y16 y17) := fun _ _ _ _ _ _ _ _ _ _ _ _ _ _ _ _ _ _ k => lawTabsP_mono k _
theorem hopperlaw25_PlanTables.calls (k : Nat) (a0_0 : Int) (a0_1 : ByteArray) (a0_2 : Int) (a0_3 : Int) (a0_4 : ByteArray) (a0_5 : Int) (a0_6 : Int) (A0_7 : Option Addr) (c0_7 : Nat) (l0_7 : List (S24)) (A0_8 : Option Addr) (c0_8 : Nat) (l0_8 : List (S50)) (A0_9 : Option Addr) (c0_9 : Nat) (l0_9 : List Int) (A0_10 : Option Addr) (c0_10 : Nat) (l0_10 : List (S72)) (a0_11 : Int) (A0_12 : Option Addr) (c0_12 : Nat) (l0_12 : List Int) (A0_13 : Option Addr) (c0_13 : Nat) (l0_13 : List Int) (A0_14 : Option Addr) (c0_14 : Nat) (l0_14 : List (S52)) (a0_15 : Int) (a0_16 : Int) (A0_17 : Option Addr) (c0_17 : Nat) (l0_17 : List (S31)) (r : Bool) (w : World) (hr0_7 : Kd.C k24 w A0_7 l0_7.length l0_7) (hc0_7 : l0_7.length ≤ c0_7) (hr0_8 : Kd.C k50 w A0_8 l0_8.length l0_8) (hc0_8 : l0_8.length ≤ c0_8) (hr0_9 : Kd.C (Kd.int .i64) w A0_9 l0_9.length l0_9) (hc0_9 : l0_9.length ≤ c0_9) (hr0_10 : Kd.C k72 w A0_10 l0_10.length l0_10) (hc0_10 : l0_10.length ≤ c0_10) (hr0_12 : Kd.C (Kd.int .i64) w A0_12 l0_12.length l0_12) (hc0_12 : l0_12.length ≤ c0_12) (hr0_13 : Kd.C (Kd.int .i64) w A0_13 l0_13.length l0_13) (hc0_13 : l0_13.length ≤ c0_13) (hr0_14 : Kd.C k52 w A0_14 l0_14.length l0_14) (hc0_14 : l0_14.length ≤ c0_14) (hr0_17 : Kd.C k31 w A0_17 l0_17.length l0_17) (hc0_17 : l0_17.length ≤ c0_17) (h : hopperlaw25_PlanTables.f k a0_0 a0_1 a0_2 a0_3 a0_4 a0_5 a0_6 l0_7 l0_8 l0_9 l0_10 a0_11 l0_12 l0_13 l0_14 a0_15 a0_16 l0_17 = some r) :
  Calls Try.prog 4 #[.agg #[.int .i64 a0_0, .string a0_1, .int .i64 a0_2, .int .i64 a0_3, .string a0_4, .int .i64 a0_5, .int .i64 a0_6, .slice A0_7 l0_7.length c0_7, .slice A0_8 l0_8.length c0_8, .slice A0_9 l0_9.length c0_9, .slice A0_10 l0_10.length c0_10, .int .i64 a0_11, .slice A0_12 l0_12.length c0_12, .slice A0_13 l0_13.length c0_13, .slice A0_14 l0_14.length c0_14, .int .i64 a0_15, .int .i64 a0_16, .slice A0_17 l0_17.length c0_17]] w fun e w' => e = .returned (.bool r) ∧ Below w.heap.size w w' :=
 hopperlaw25_PlanTables.core k ⟨a0_0, a0_1, ⟨a0_2, a0_3, a0_4, a0_5, a0_6, l0_7⟩, l0_8, l0_9, l0_10, a0_11, l0_12, l0_13, l0_14, a0_15, a0_16, l0_17⟩ _ r w (k31_mk w ⟨a0_0, a0_1, ⟨a0_2, a0_3, a0_4, a0_5, a0_6, l0_7⟩, l0_8, l0_9, l0_10, a0_11, l0_12, l0_13, l0_14, a0_15, a0_16, l0_17⟩ hc0_7 hr0_7 hc0_8 hr0_8 hc0_9 hr0_9 hc0_10 hr0_10 hc0_12 hr0_12 hc0_13 hr0_13 hc0_14 hr0_14 hc0_17 hr0_17) h

/-- THE ONE PURE STATEMENT of hopperlaw25_PlanTables: yours. -/
def hopperlaw25_PlanTables.Pure : Prop := ∀ (a0_0 : Int) (a0_1 : ByteArray) (a0_2 : Int) (a0_3 : Int) (a0_4 : ByteArray) (a0_5 : Int) (a0_6 : Int) (l0_7 : List (S24)) (l0_8 : List (S50)) (l0_9 : List Int) (l0_10 : List (S72)) (a0_11 : Int) (l0_12 : List Int) (l0_13 : List Int) (l0_14 : List (S52)) (a0_15 : Int) (a0_16 : Int) (l0_17 : List (S31)), (fun x_ : Int => (Lit.int .i64 x_).wf = true) a0_0 → (fun x_ : ByteArray => x_.size ≤ maxLen) a0_1 → (fun x_ : Int => (Lit.int .i64 x_).wf = true) a0_2 → (fun x_ : Int => (Lit.int .i64 x_).wf = true) a0_3 → (fun x_ : ByteArray => x_.size ≤ maxLen) a0_4 → (fun x_ : Int => (Lit.int .i64 x_).wf = true) a0_5 → (fun x_ : Int => (Lit.int .i64 x_).wf = true) a0_6 → (WfSl Wf24) l0_7 → (WfSl Wf50) l0_8 → (WfSl (fun x_ : Int => (Lit.int .i64 x_).wf = true)) l0_9 → (WfSl Wf72) l0_10 → (fun x_ : Int => (Lit.int .i64 x_).wf = true) a0_11 → (WfSl (fun x_ : Int => (Lit.int .i64 x_).wf = true)) l0_12 → (WfSl (fun x_ : Int => (Lit.int .i64 x_).wf = true)) l0_13 → (WfSl Wf52) l0_14 → (fun x_ : Int => (Lit.int .i64 x_).wf = true) a0_15 → (fun x_ : Int => (Lit.int .i64 x_).wf = true) a0_16 → (WfSl Wf31) l0_17 → ∃ k, hopperlaw25_PlanTables.f k a0_0 a0_1 a0_2 a0_3 a0_4 a0_5 a0_6 l0_7 l0_8 l0_9 l0_10 a0_11 l0_12 l0_13 l0_14 a0_15 a0_16 l0_17 = some true

/-! ### hopperlaw25_PlanKeeps: function 8 -/
-- told by hand
def lawKeepsP (k : Nat) (p : S31) : Option Bool := (hopperlaw25_awake.f k).bind fun t => if t = true then (smallP k p 20).bind fun b => if b = true then (tablesP k p).bind fun x => (refTabsP k p).bind fun y => hopperref07_Same.f k x y else some true else none
def hopperlaw25_PlanKeeps.f (k : Nat) (a0_0 : Int) (a0_1 : ByteArray) (a0_2 : Int) (a0_3 : Int) (a0_4 : ByteArray) (a0_5 : Int) (a0_6 : Int) (l0_7 : List S24) (l0_8 : List S50) (l0_9 : List Int) (l0_10 : List S72) (a0_11 : Int) (l0_12 : List Int) (l0_13 : List Int) (l0_14 : List S52) (a0_15 : Int) (a0_16 : Int) (l0_17 : List S31) : Option Bool := lawKeepsP k ⟨a0_0, a0_1, ⟨a0_2, a0_3, a0_4, a0_5, a0_6, l0_7⟩, l0_8, l0_9, l0_10, a0_11, l0_12, l0_13, l0_14, a0_15, a0_16, l0_17⟩
set_option maxHeartbeats 8000000 in
set_option maxRecDepth 1000000 in
theorem hopperlaw25_PlanKeeps.core (k : Nat) (p : S31) (cs : List Value) (r : Bool) (w : World) (hK : k31.K w p cs) (h : lawKeepsP k p = some r) :
  Calls Try.prog 8 #[.agg cs.toArray] w fun e w' => e = .returned (.bool r) ∧ Below w.heap.size w w' := by
 have hagg : ∀ W, (isAgg 31).run Try.prog W = .ok true W := fun W => by first | exact Try.isAgg31 | exact Try.isAgg31 W | go_simp
 have hsz18 : ∀ W, (sizeOf 31).run Try.prog W = .ok 18 W := fun W => by first | exact Try.sizeOf31 | exact Try.sizeOf31 W | go_simp
 have HAGG := Aside0.mk hagg
 have HSZ := Aside0.mk hsz18
 clear hagg hsz18
 have hu31 := Try.underlying31
 have HL18 := Aside0.mk (show cs.length = 18 from k31.K_len hK)
 unfold lawKeepsP at h
 obtain ⟨t, haw, h⟩ := Option.bind_eq_some_iff.1 h
 cases t with
 | false => rw [if_neg (by decide)] at h; cases h
 | true =>
 rw [if_pos rfl] at h
 have HAW := Aside0.mk (fun W => hopperlaw25_awake.calls k true W haw)
 obtain ⟨b, hsm, h⟩ := Option.bind_eq_some_iff.1 h
 have HSM := Aside0.mk (fun W (hb : Below w.heap.size w W) => hopperref25_Small.core k p cs 20 b W (k31.K_below hb hK) hsm)
 clear haw hsm
 cases b with
 | false =>
  rw [if_neg (by decide)] at h
  obtain rfl := Option.some.inj h
  clear h
  go_enter Try.func8, Try.ntmps8
  go_wp2_with (first
   | ((with_reducible refine gate_dst (N := 1) rfl ?_); refine box_all rfl rfl (cs := cs.toArray) rfl (fun W => by rw [List.size_toArray, HL18.out]; exact HSZ.out W) ?_; intro w1 hbx hbw; have BW1 := Aside0.mk hbw; have BX1 := Aside0.mk hbx; clear hbx hbw)
   | (go_at_call 9; refine (HAW.out _).mono ?_; rintro e w2 ⟨rfl, hb2⟩; have HB2 := Aside0.mk (below_step BW1.out hb2); have BX2 := Aside0.mk ((hb2.block w.heap.size (Array.getElem?_eq_some_iff.1 BX1.out).1).trans BX1.out); clear hb2 BW1 BX1)
   | ((with_reducible refine gate_dst (N := 8) rfl ?_); (try (refine gate_guard (by rfl) ?_; dsimp only)); refine load_all rfl rfl (cs := cs) rfl HAGG.out (fun W => by rw [HL18.out]; exact HSZ.out W) (blk_cells BX2.out) ?_)
   | (go_at_call 10; refine (HSM.out _ HB2.out).mono ?_; rintro e w3 ⟨rfl, hb3⟩; have HB3 := Aside0.mk (below_step HB2.out hb3); have BX3 := Aside0.mk ((hb3.block w.heap.size (Array.getElem?_eq_some_iff.1 BX2.out).1).trans BX2.out); clear hb3 HB2 BX2)
   | (go_at_call 9; refine (HAW.out _).mono ?_; rintro e w4 ⟨rfl, hb4⟩; have HB4 := Aside0.mk (below_step HB3.out hb4); clear hb4))
  go_ret
  exact ⟨rfl, HB4.out⟩
 | true =>
 rw [if_pos rfl] at h
 obtain ⟨x, hx, h⟩ := Option.bind_eq_some_iff.1 h
 obtain ⟨y, hy, h⟩ := Option.bind_eq_some_iff.1 h
 have HTC := Aside0.mk (fun W (hb : Below w.heap.size w W) => plan_Tables.core k p cs x W (k31.K_below hb hK) hx)
 have HRC := Aside0.mk (fun W (hb : Below w.heap.size w W) => hopperref25_Tables.core k p cs y W (k31.K_below hb hK) hy)
 have HSA := Aside0.mk h
 clear hx hy h
 go_enter Try.func8, Try.ntmps8
 go_upto_if 18 with (first
   | ((with_reducible refine gate_dst (N := 1) rfl ?_); refine box_all rfl rfl (cs := cs.toArray) rfl (fun W => by rw [List.size_toArray, HL18.out]; exact HSZ.out W) ?_; intro w1 hbx hbw; have BW1 := Aside0.mk hbw; have BX1 := Aside0.mk hbx; clear hbx hbw)
   | (go_at_call 9; refine (HAW.out _).mono ?_; rintro e w2 ⟨rfl, hb2⟩; have HB2 := Aside0.mk (below_step BW1.out hb2); have BX2 := Aside0.mk ((hb2.block w.heap.size (Array.getElem?_eq_some_iff.1 BX1.out).1).trans BX1.out); clear hb2 BW1 BX1)
   | ((with_reducible refine gate_dst (N := 8) rfl ?_); (try (refine gate_guard (by rfl) ?_; dsimp only)); refine load_all rfl rfl (cs := cs) rfl HAGG.out (fun W => by rw [HL18.out]; exact HSZ.out W) (blk_cells BX2.out) ?_)
   | (go_at_call 10; refine (HSM.out _ HB2.out).mono ?_; rintro e w3 ⟨rfl, hb3⟩; have HB3 := Aside0.mk (below_step HB2.out hb3); have BX3 := Aside0.mk ((hb3.block w.heap.size (Array.getElem?_eq_some_iff.1 BX2.out).1).trans BX2.out); clear hb3 HB2 BX2)
   | (go_at_call 9; refine (HAW.out _).mono ?_; rintro e w4 ⟨rfl, hb4⟩; have HB4 := Aside0.mk (below_step HB3.out hb4); clear hb4)
   | ((with_reducible refine gate_dst (N := 13) rfl ?_); (try (refine gate_guard (by rfl) ?_; dsimp only)); refine load_all rfl rfl (cs := cs) rfl HAGG.out (fun W => by rw [HL18.out]; exact HSZ.out W) (blk_cells BX3.out) ?_)
   | (go_at_call 15; refine (HTC.out _ HB3.out).mono ?_; rintro e w5 ⟨v5, rfl, ho5, hb5⟩; obtain ⟨A0, c0, rfl⟩ := Kd.R_slice ho5; have hn : x.length ≤ 9223372036854775807 := (Kd.R_reads' ho5).2.2.2.1; have HN := Aside0.mk hn; have HO5 := Aside0.mk (Kd.R_lower ho5 (below_size HB3.out)); have HB5 := Aside0.mk (below_step HB3.out hb5); have BX5 := Aside0.mk ((hb5.block w.heap.size (Array.getElem?_eq_some_iff.1 BX3.out).1).trans BX3.out); clear hb5 HB3 BX3 ho5 hn))
 go_loopg [4] x.length (fun gg s4 wr => ∃ (i : Nat) (xs : List ByteArray), s4 = .int .i64 i ∧ i ≤ x.length ∧ x.length - i ≤ gg ∧ Aside0 (xs.length = x.length) ∧ Aside0 (Kd.R Kd.string 9 wr w.heap.size (fun _ => True) (.slice A0 x.length c0) xs) ∧ Aside0 (Below w.heap.size w wr) ∧ Aside0 (wr.heap[w.heap.size]? = some (.cells cs.toArray 31 (0, 0))))
 case atStart => exact ⟨0, x, rfl, Nat.zero_le _, by omega, ⟨rfl⟩, HO5, HB5, BX5⟩
 case round =>
  clear HO5 HB5 BX5
  obtain ⟨i, xs, rfl, hin, hg0, HLX, HO, HB, BX⟩ := hrel
  have hn := HN.out
  by_cases hlt : i < x.length
  ·have hltz : (i : Int) < (x.length : Int) := by omega
   have hi0 : (0 : Int) ≤ (i : Int) := by omega
   have HLX2 := HLX.out
   obtain ⟨go19, co20, eo19, gb19, gl19, cl19, HG19⟩ := Kd.R_form HO.out (by omega)
   (first | cases eo19 | (injection eo19 with ea_ en_ ec_; (first | subst ea_ | (injection ea_ with ea_; subst ea_)); subst ec_; clear en_))
   have GB19 := Aside0.mk gb19
   clear gb19 gl19 HG19
   obtain ⟨hx19_0, hf19_0⟩ := Kd.R_celln (⟨#[]⟩ : ByteArray) HO.out (i : Int) hi0 (by omega)
   have HP21 := Kd.R_putg HO.out (i : Int) (⟨#[63]⟩ : ByteArray)
   simp only [Int.toNat_natCast] at hx19_0 hf19_0 HP21
   clear HLX2 hn
   go_wp2_with (first
    | ((with_reducible refine gate_store (t := 9) (p := 23) rfl ?_); refine store_event (t := 9) (p := 23) (v := ?vo_w22) (w1 := (wr.setCell ⟨go19, i, none⟩ (.string (⟨#[63]⟩ : ByteArray)))) ?hg ?ho ?hn ?hr ?_; (case ho => rfl); (case hg => rfl); (case hn => rfl); (case hr => first | (go_simp; done) | (go_simp; rfl)); intro w22 hw; have hg : wr.grownBy w22 (some go19) := (by rw [hw]; exact HP21.2); have hp_ : Kd.R Kd.string 9 w22 w.heap.size (fun _ => True) (.slice (some ⟨go19, 0, none⟩) x.length c0) (xs.set i (⟨#[63]⟩ : ByteArray)) := (by rw [hw]; exact HP21.1); clear HP21; have HO5 := Aside0.mk (hp_); have BX5 := Aside0.mk (blk_grown (g := w.heap.size) (o := .cells cs.toArray 31 (0, 0)) BX.out hg (Kd.R_ne HO.out BX.out (by decide))); have HB5 := Aside0.mk ((by rw [hw]; exact below_set (HB.out) GB19.out : Below w.heap.size w w22)); clear hg hw hp_))
   go_roundg (x.length - (i + 1))
   case measure => omega
   case rel => have hN := HN.out; exact ⟨i + 1, _, by first | go_num | (congr 1; unfold wrap64; omega), by omega, by omega, ⟨by rw [List.length_set]; exact HLX.out⟩, HO5, HB5, BX5⟩
  ·have hltz : ¬ (i : Int) < (x.length : Int) := by omega
   clear HO HLX hn
   go_wp2
   have BXd := Aside0.mk (blk_drew BX.out)
   have HBd := Aside0.mk (below_drew1 HB.out)
   clear BX HB
   refine start_ (n := 6) (S := fun w' => w'.heap[w.heap.size]? = some (.cells cs.toArray 31 (0, 0))) (ds := []) #[false, false, false, false, false, false] (by kernel_rfl) rfl rfl BXd.out (fun hHeld => ?_)
   generalize wr.drew = w17 at BXd HBd hHeld ⊢
   refine take_ (i := 0) (N := some 24) (v := .agg cs.toArray) (a' := ?ta0) #[true, false, false, false, false, false] rfl rfl (by kernel_rfl) (fun _ _ _ h => h) (Or.inl ⟨by rfl, fun w' hs => load_run31 rfl rfl HL18.out hs⟩) hHeld ?th0 ?tc0
   case th0 => simp only [Act.put, List.setIfInBounds_toArray, List.set_cons_zero, List.set_cons_succ, i64_w, i32_w]; rfl
   case tc0 =>
   refine take_ (i := 2) (N := some 26) (v := .agg cs.toArray) (a' := ?ta2) #[true, false, true, false, false, false] rfl rfl (by kernel_rfl) (fun _ _ _ h => h) (Or.inl ⟨by rfl, fun w' hs => load_run31 rfl rfl HL18.out hs⟩) hHeld ?th2 ?tc2
   case th2 => simp only [Act.put, List.setIfInBounds_toArray, List.set_cons_zero, List.set_cons_succ, i64_w, i32_w]; rfl
   case tc2 =>
   refine one_ (i := 1) (N := some 25) #[true, true, true, false, false, false] rfl rfl (by kernel_rfl) (by decide) (fun K hK => ?_)
   refine goes_ Try.func15 (by kernel_rfl) rfl #[.agg cs.toArray] (by rfl) rfl rfl (by (try simp only [List.map_toArray, List.map_cons, List.map_nil]); first | done | rfl) ?_
   refine (HTC.out _ HBd.out).mono ?_
   rintro e w18 ⟨v1, rfl, ho1, hb1⟩
   refine ⟨_, rfl, ?_⟩
   obtain ⟨A1, c1, rfl, hl1, hC1⟩ := Kd.R_reads ho1
   have HC1 := Aside0.mk hC1
   have HL1 := Aside0.mk hl1
   have HB18 := Aside0.mk (below_step HBd.out hb1)
   have BX18 := Aside0.mk ((hb1.block w.heap.size (Array.getElem?_eq_some_iff.1 BXd.out).1).trans BXd.out)
   clear ho1 hl1 hC1 hb1 BXd HBd
   refine hK.out _ _ BX18.out (fun hHeld => ?_)
   clear hK K
   refine norm_ (a' := ?na25) ?nh25 ?nc25
   case nh25 => show Act.put _ (some 25) _ = _; simp only [Act.put, List.setIfInBounds_toArray, List.set_cons_zero, List.set_cons_succ, i64_w, i32_w]; rfl
   case nc25 =>
   refine one_ (i := 3) (N := some 27) #[true, true, true, true, false, false] rfl rfl (by kernel_rfl) (by decide) (fun K hK => ?_)
   refine goes_ Try.func16 (by kernel_rfl) rfl #[.agg cs.toArray] (by rfl) rfl rfl (by (try simp only [List.map_toArray, List.map_cons, List.map_nil]); first | done | rfl) ?_
   refine (HRC.out _ HB18.out).mono ?_
   rintro e w19 ⟨v2, rfl, ho2, hb2⟩
   refine ⟨_, rfl, ?_⟩
   obtain ⟨A2, c2, rfl, hl2, hC2⟩ := Kd.R_reads ho2
   have HC2 := Aside0.mk hC2
   have HL2 := Aside0.mk hl2
   have HC1b := Aside0.mk (Kd.C_below HC1.out hb2)
   have HB19 := Aside0.mk (below_step HB18.out hb2)
   have BX19 := Aside0.mk ((hb2.block w.heap.size (Array.getElem?_eq_some_iff.1 BX18.out).1).trans BX18.out)
   clear ho2 hl2 hC2 hb2 BX18 HC1
   refine hK.out _ _ BX19.out (fun hHeld => ?_)
   clear hK K
   refine norm_ (a' := ?na27) ?nh27 ?nc27
   case nh27 => show Act.put _ (some 27) _ = _; simp only [Act.put, List.setIfInBounds_toArray, List.set_cons_zero, List.set_cons_succ, i64_w, i32_w]; rfl
   case nc27 =>
   refine one_ (i := 4) (N := some 28) #[true, true, true, true, true, false] rfl rfl (by kernel_rfl) (by decide) (fun K hK => ?_)
   refine goes_ Try.func14 (by kernel_rfl) rfl #[.slice A1 x.length c1, .slice A2 y.length c2] (by rfl) rfl rfl (by (try simp only [List.map_toArray, List.map_cons, List.map_nil]); first | done | rfl) ?_
   refine (hopperref07_Same.calls k A1 c1 x A2 c2 y r _ HC1b.out HL1.out HC2.out HL2.out HSA.out).mono ?_
   rintro e w20 ⟨rfl, hd⟩
   refine ⟨_, rfl, ?_⟩
   have HB20 := Aside0.mk (below_step HB19.out hd.below)
   refine hK.out _ _ ((hd.below.block w.heap.size (Array.getElem?_eq_some_iff.1 BX19.out).1).trans BX19.out) (fun hHeld => ?_)
   clear hK K hd
   refine norm_ (a' := ?na28) ?nh28 ?nc28
   case nh28 => show Act.put _ (some 28) _ = _; simp only [Act.put, List.setIfInBounds_toArray, List.set_cons_zero, List.set_cons_succ, i64_w, i32_w]; rfl
   case nc28 =>
   refine pure_ (i := 5) (N := some 2) (v := .bool r) (a' := ?pa) #[true, true, true, true, true, true] rfl rfl (by kernel_rfl) (fun _ _ _ h => h) (Or.inl ⟨by rfl, fun w' => ?py⟩) ?ph ?pc
   case py => go_simp
   case ph => simp only [Act.put, List.setIfInBounds_toArray, List.set_cons_zero, List.set_cons_succ, i64_w, i32_w]; rfl
   case pc =>
   refine done_ (by kernel_rfl) ?_
   try go_wp2
   go_ret
   exact ⟨rfl, HB20.out⟩
theorem lawKeepsP_mono (k : Nat) (p : S31) : LeO (lawKeepsP k p) (lawKeepsP (k + 1) p) := by
 unfold lawKeepsP
 exact LeO.bind' (hopperlaw25_awake.mono k) fun t => LeO.ite' (LeO.bind' (smallP_mono k p 20) fun b => LeO.ite' (LeO.bind' (tablesP_mono k p) fun x => LeO.bind' (refTabsP_mono k p) fun y => hopperref07_Same.mono _ _ k) (fun _ h => h)) (fun _ h => h)
theorem hopperlaw25_PlanKeeps.mono : ∀ y0 y1 y2 y3 y4 y5 y6 y7 y8 y9 y10 y11 y12 y13 y14 y15 y16 y17 k, LeO (hopperlaw25_PlanKeeps.f k y0 y1 y2 y3 y4 y5 y6 y7 y8 y9 y10 y11 y12 y13 y14 y15 y16 y17) (hopperlaw25_PlanKeeps.f (k + 1) y0 y1 y2 y3 y4 y5 y6 y7 y8 y9 y10 y11 y12 y13 y14 y15 y16 y17) := fun _ _ _ _ _ _ _ _ _ _ _ _ _ _ _ _ _ _ k => lawKeepsP_mono k _
theorem hopperlaw25_PlanKeeps.calls (k : Nat) (a0_0 : Int) (a0_1 : ByteArray) (a0_2 : Int) (a0_3 : Int) (a0_4 : ByteArray) (a0_5 : Int) (a0_6 : Int) (A0_7 : Option Addr) (c0_7 : Nat) (l0_7 : List (S24)) (A0_8 : Option Addr) (c0_8 : Nat) (l0_8 : List (S50)) (A0_9 : Option Addr) (c0_9 : Nat) (l0_9 : List Int) (A0_10 : Option Addr) (c0_10 : Nat) (l0_10 : List (S72)) (a0_11 : Int) (A0_12 : Option Addr) (c0_12 : Nat) (l0_12 : List Int) (A0_13 : Option Addr) (c0_13 : Nat) (l0_13 : List Int) (A0_14 : Option Addr) (c0_14 : Nat) (l0_14 : List (S52)) (a0_15 : Int) (a0_16 : Int) (A0_17 : Option Addr) (c0_17 : Nat) (l0_17 : List (S31)) (r : Bool) (w : World) (hr0_7 : Kd.C k24 w A0_7 l0_7.length l0_7) (hc0_7 : l0_7.length ≤ c0_7) (hr0_8 : Kd.C k50 w A0_8 l0_8.length l0_8) (hc0_8 : l0_8.length ≤ c0_8) (hr0_9 : Kd.C (Kd.int .i64) w A0_9 l0_9.length l0_9) (hc0_9 : l0_9.length ≤ c0_9) (hr0_10 : Kd.C k72 w A0_10 l0_10.length l0_10) (hc0_10 : l0_10.length ≤ c0_10) (hr0_12 : Kd.C (Kd.int .i64) w A0_12 l0_12.length l0_12) (hc0_12 : l0_12.length ≤ c0_12) (hr0_13 : Kd.C (Kd.int .i64) w A0_13 l0_13.length l0_13) (hc0_13 : l0_13.length ≤ c0_13) (hr0_14 : Kd.C k52 w A0_14 l0_14.length l0_14) (hc0_14 : l0_14.length ≤ c0_14) (hr0_17 : Kd.C k31 w A0_17 l0_17.length l0_17) (hc0_17 : l0_17.length ≤ c0_17) (h : hopperlaw25_PlanKeeps.f k a0_0 a0_1 a0_2 a0_3 a0_4 a0_5 a0_6 l0_7 l0_8 l0_9 l0_10 a0_11 l0_12 l0_13 l0_14 a0_15 a0_16 l0_17 = some r) :
  Calls Try.prog 8 #[.agg #[.int .i64 a0_0, .string a0_1, .int .i64 a0_2, .int .i64 a0_3, .string a0_4, .int .i64 a0_5, .int .i64 a0_6, .slice A0_7 l0_7.length c0_7, .slice A0_8 l0_8.length c0_8, .slice A0_9 l0_9.length c0_9, .slice A0_10 l0_10.length c0_10, .int .i64 a0_11, .slice A0_12 l0_12.length c0_12, .slice A0_13 l0_13.length c0_13, .slice A0_14 l0_14.length c0_14, .int .i64 a0_15, .int .i64 a0_16, .slice A0_17 l0_17.length c0_17]] w fun e w' => e = .returned (.bool r) ∧ Below w.heap.size w w' :=
 hopperlaw25_PlanKeeps.core k ⟨a0_0, a0_1, ⟨a0_2, a0_3, a0_4, a0_5, a0_6, l0_7⟩, l0_8, l0_9, l0_10, a0_11, l0_12, l0_13, l0_14, a0_15, a0_16, l0_17⟩ _ r w (k31_mk w ⟨a0_0, a0_1, ⟨a0_2, a0_3, a0_4, a0_5, a0_6, l0_7⟩, l0_8, l0_9, l0_10, a0_11, l0_12, l0_13, l0_14, a0_15, a0_16, l0_17⟩ hc0_7 hr0_7 hc0_8 hr0_8 hc0_9 hr0_9 hc0_10 hr0_10 hc0_12 hr0_12 hc0_13 hr0_13 hc0_14 hr0_14 hc0_17 hr0_17) h

/-- THE ONE PURE STATEMENT of hopperlaw25_PlanKeeps: yours. -/
def hopperlaw25_PlanKeeps.Pure : Prop := ∀ (a0_0 : Int) (a0_1 : ByteArray) (a0_2 : Int) (a0_3 : Int) (a0_4 : ByteArray) (a0_5 : Int) (a0_6 : Int) (l0_7 : List (S24)) (l0_8 : List (S50)) (l0_9 : List Int) (l0_10 : List (S72)) (a0_11 : Int) (l0_12 : List Int) (l0_13 : List Int) (l0_14 : List (S52)) (a0_15 : Int) (a0_16 : Int) (l0_17 : List (S31)), (fun x_ : Int => (Lit.int .i64 x_).wf = true) a0_0 → (fun x_ : ByteArray => x_.size ≤ maxLen) a0_1 → (fun x_ : Int => (Lit.int .i64 x_).wf = true) a0_2 → (fun x_ : Int => (Lit.int .i64 x_).wf = true) a0_3 → (fun x_ : ByteArray => x_.size ≤ maxLen) a0_4 → (fun x_ : Int => (Lit.int .i64 x_).wf = true) a0_5 → (fun x_ : Int => (Lit.int .i64 x_).wf = true) a0_6 → (WfSl Wf24) l0_7 → (WfSl Wf50) l0_8 → (WfSl (fun x_ : Int => (Lit.int .i64 x_).wf = true)) l0_9 → (WfSl Wf72) l0_10 → (fun x_ : Int => (Lit.int .i64 x_).wf = true) a0_11 → (WfSl (fun x_ : Int => (Lit.int .i64 x_).wf = true)) l0_12 → (WfSl (fun x_ : Int => (Lit.int .i64 x_).wf = true)) l0_13 → (WfSl Wf52) l0_14 → (fun x_ : Int => (Lit.int .i64 x_).wf = true) a0_15 → (fun x_ : Int => (Lit.int .i64 x_).wf = true) a0_16 → (WfSl Wf31) l0_17 → ∃ k, hopperlaw25_PlanKeeps.f k a0_0 a0_1 a0_2 a0_3 a0_4 a0_5 a0_6 l0_7 l0_8 l0_9 l0_10 a0_11 l0_12 l0_13 l0_14 a0_15 a0_16 l0_17 = some true

end Go.Proofs.Ytomccmodlkdcbaa.Q
