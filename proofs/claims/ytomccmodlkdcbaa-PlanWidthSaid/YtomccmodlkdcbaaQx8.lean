-- PRINTED by print.py (a twelfth state) out of the translation. Not trusted: Lean checks it.
import Derived.Test.YtomccmodlkdcbaaHStoreAll
import Derived.Test.YtomccmodlkdcbaaQx0
import Derived.Test.YtomccmodlkdcbaaQx1
import Derived.Test.YtomccmodlkdcbaaQx7
namespace Go.Proofs.Ytomccmodlkdcbaa.Q
open Go.RowKit Go.Proofs.YtomccmodlkdcbaaW.PrintWords Go.Proofs.YtomccmodlkdcbaaW.PrintLast Go.Proofs.YtomccmodlkdcbaaW.PrintMore
attribute [local go_sem] str_gtr str_geq str_leq max2_int min2_int max_two min_two max_three min_three max_four min_four
set_option linter.unusedVariables false
set_option maxHeartbeats 8000000
set_option maxRecDepth 1000000
set_option linter.unusedSimpArgs false

/-! ### plan_cols: function 22 -/
-- told by hand
def shapedP (p : S31) : Option Bool := some (shapedB p)
/-- How many columns each kid has, up to the first that has none. -/
def kidsL (g : S31 → Option Int) : List S31 → List Int → Option (Option (List Int))
 | [], ks => some (some ks)
 | q :: qs, ks => (g q).bind fun n => if n = 0 then some none else kidsL g qs (ks ++ [n])
def colsP : Nat → S31 → List S46 → Int → Option Int
 | 0, _, _, _ => none
 | k + 1, p, l1, a2 => if p.f12.length ≤ 1000000 then (if a2 = 0 then some 0 else (shapedP p).bind fun s => if s = true then (kidsL (fun q => colsP k q l1 (wrap64 (a2 - 1))) p.f12 []).bind (fun o => match o with | none => some 0 | some ks => ownP k p ks l1) else some 0) else none
def plan_cols.f (k : Nat) (a0_0 : Int) (a0_1 : ByteArray) (a0_2 : Int) (a0_3 : Int) (a0_4 : ByteArray) (a0_5 : Int) (a0_6 : Int) (l0_7 : List S24) (l0_8 : List S50) (l0_9 : List Int) (l0_10 : List S72) (a0_11 : Int) (l0_12 : List Int) (l0_13 : List Int) (l0_14 : List S52) (a0_15 : Int) (a0_16 : Int) (l0_17 : List S31) (l1 : List S46) (a2 : Int) : Option Int := colsP k ⟨a0_0, a0_1, ⟨a0_2, a0_3, a0_4, a0_5, a0_6, l0_7⟩, l0_8, l0_9, l0_10, a0_11, l0_12, l0_13, l0_14, a0_15, a0_16, l0_17⟩ l1 a2
theorem shaped_at (p : S31) (cs : List Value) (s : Bool) (w : World) (hK : k31.K w p cs) (h : shapedP p = some s) : Calls Try.prog 34 #[.agg cs.toArray] w fun e w' => e = .returned (.bool s) ∧ Below w.heap.size w w' := by
 obtain rfl := Option.some.inj h
 exact plan_shaped.core p cs w hK
theorem kids_at (p : S31) (cs : List Value) (w : World) (hK : k31.K w p cs) : ∃ A c, cs[17]? = some (.slice A p.f12.length c) ∧ p.f12.length ≤ c ∧ Kd.C k31 w A p.f12.length p.f12 := by
 obtain ⟨A7, c7, A8, c8, A9, c9, A10, c10, A12, c12, A13, c13, A14, c14, A17, c17, e_, l7, g7, l8, g8, l9, g9, l10, g10, l12, g12, l13, g13, l14, g14, l17, g17⟩ := k31_open hK
 subst e_; exact ⟨_, _, rfl, l17, g17⟩
theorem kid_get (w : World) (A : Option Addr) (n : Nat) (xs : List S31) (h : Kd.C k31 w A n xs) (i : Nat) (hi : i < n) : ∃ ad c, A = some ad ∧ c.length = 18 ∧ k31.K w (xs.getD i z31) c ∧ ∀ j v, c[j]? = some v → w.cell? ((ad.add (i * 18)).add j) = some v := by
 obtain ⟨ad, c, e, hl, hK, hc0⟩ := Kd.C_get h z31 (i : Int) (by omega) (by omega)
 replace hK : k31.K w (xs.getD ((i : Int)).toNat z31) c := hK
 rw [show ((i : Int)).toNat = i by omega] at hK hc0
 exact ⟨ad, c, e, hl, hK, fun j v hj => by rw [addr_add]; exact hc0 j v hj⟩
theorem plan_cols.core (k : Nat) : ∀ (p : S31) (cs : List Value) (A1 : Option Addr) (c1 : Nat) (l1 : List S46) (a2 r : Int) (w : World), k31.K w p cs → Kd.C k46 w A1 l1.length l1 → l1.length ≤ c1 → colsP k p l1 a2 = some r →
  Calls Try.prog 22 #[.agg cs.toArray, .slice A1 l1.length c1, .int .i64 a2] w fun e w' => e = .returned (.int .i64 r) ∧ Below w.heap.size w w' := by
 have hagg : ∀ W, (isAgg 31).run Try.prog W = .ok true W := fun W => by first | exact Try.isAgg31 | exact Try.isAgg31 W | go_simp
 have hsz18 : ∀ W, (sizeOf 31).run Try.prog W = .ok 18 W := fun W => by first | exact Try.sizeOf31 | exact Try.sizeOf31 W | go_simp
 have HAGG := Aside0.mk hagg; have HSZ := Aside0.mk hsz18; clear hagg hsz18
 induction k with
 | zero => intro p cs A1 c1 l1 a2 r w _ _ _ h; cases h
 | succ k ih =>
 intro p cs A1 c1 l1 a2 r w hK hr1 hc1 h
 have hu31 := Try.underlying31; unfold colsP at h
 by_cases hn : p.f12.length ≤ 1000000
 case neg => rw [if_neg hn] at h; cases h
 rw [if_pos hn] at h; obtain ⟨A17, c17, hcs17, hlc17, hk17⟩ := kids_at p cs w hK
 have hlen : cs.length = 18 := k31.K_len hK; have HL18 := Aside0.mk hlen; have HK := Aside0.mk hK; have HR1 := Aside0.mk hr1; have HC1 := Aside0.mk hc1; have HK17 := Aside0.mk hk17; have HN := Aside0.mk hn; have IH := Aside0.mk ih; have H17 := Aside0.mk hcs17; clear hK hr1 hc1 hk17 hn hlc17 ih hcs17 hlen; have hBX : ∀ (k_ : Nat) (x_ : World), True := fun _ _ => trivial
 clear hBX; by_cases h0 : a2 = 0
 ·rw [if_pos h0] at h; obtain rfl := Option.some.inj h
  subst h0; clear h; go_enter Try.func22, Try.ntmps22
  go_wp2_with (first
   | ((with_reducible refine gate_dst (N := 3) rfl ?_); refine box_all rfl rfl (cs := cs.toArray) rfl (fun W => by rw [List.size_toArray, HL18.out]; exact HSZ.out W) ?_; intro w1 hbx hbw; have BW := Aside0.mk hbw; clear hbx hbw))
  go_ret
  exact ⟨rfl, BW.out⟩
 rw [if_neg h0] at h; have hb0 : (a2 == 0) = false := beq_eq_false_iff_ne.mpr h0; have hb1 : (a2 != 0) = true := bne_iff_ne.mpr h0; obtain ⟨s, hs, h⟩ := Option.bind_eq_some_iff.1 h
 have hS := fun W (hb : Below w.heap.size w W) => shaped_at p cs s W (k31.K_below hb HK.out) hs
 have HS := Aside0.mk hS; clear hs hS
 cases s with
 | false =>
  obtain rfl := Option.some.inj h
  clear h; go_enter Try.func22, Try.ntmps22
  go_wp2_with (first
   | ((with_reducible refine gate_dst (N := 3) rfl ?_); refine box_all rfl rfl (cs := cs.toArray) rfl (fun W => by rw [List.size_toArray, HL18.out]; exact HSZ.out W) ?_; intro w1 hbx hbw; have BW := Aside0.mk hbw; have BX := Aside0.mk hbx; clear hbx hbw)
   | ((with_reducible refine gate_dst (N := 14) rfl ?_); (try (refine gate_guard (by rfl) ?_; dsimp only)); refine load_all rfl rfl (cs := cs) rfl HAGG.out (fun W => by rw [HL18.out]; exact HSZ.out W) (blk_cells BX.out) ?_)
   | (go_at_call 34; refine (HS.out _ BW.out).mono ?_; rintro e w' ⟨rfl, hb'⟩; have HB1 := Aside0.mk (below_step BW.out hb'); clear hb'))
  go_ret
  exact ⟨rfl, HB1.out⟩
 | true =>
  rw [if_pos rfl] at h; obtain ⟨o, ho, h⟩ := Option.bind_eq_some_iff.1 h
  have HO := Aside0.mk ho; have H := Aside0.mk h; clear ho h; go_enter Try.func22, Try.ntmps22
  go_wp2_with (first
   | ((with_reducible refine gate_dst (N := 3) rfl ?_); refine box_all rfl rfl (cs := cs.toArray) rfl (fun W => by rw [List.size_toArray, HL18.out]; exact HSZ.out W) ?_; intro w1 hbx hbw; have BW := Aside0.mk hbw; have BX := Aside0.mk hbx; clear hbx hbw)
   | ((with_reducible refine gate_dst (N := 14) rfl ?_); (try (refine gate_guard (by rfl) ?_; dsimp only)); refine load_all rfl rfl (cs := cs) rfl HAGG.out (fun W => by rw [HL18.out]; exact HSZ.out W) (blk_cells BX.out) ?_)
   | (go_at_call 34; refine (HS.out _ BW.out).mono ?_; rintro e w' ⟨rfl, hb'⟩; have HB1 := Aside0.mk (below_step BW.out hb'); have BX1 := Aside0.mk ((hb'.block w.heap.size (World.block_lt_of_cell? w1 ⟨w.heap.size, 17, none⟩ (blk_cells BX.out 17 _ H17.out))).trans BX.out); clear hb' BW BX; have hcv17 : w'.cell? ⟨w.heap.size, 17, none⟩ = some (.slice A17 p.f12.length c17) := blk_cells BX1.out 17 _ H17.out))
  clear hcv17 HS; go_loopg [7, 21] p.f12.length (fun gg s7 s21 wr => ∃ (i : Nat) (ks : List Int) (vv : Value), vv = s7 ∧ s21 = .int .i64 i ∧ i ≤ p.f12.length ∧ p.f12.length - i ≤ gg ∧ Aside0 (ks.length = i) ∧ Aside0 (kidsL (fun q => colsP k q l1 (wrap64 (a2 - 1))) (p.f12.drop i) ks = some o) ∧ Aside0 (Kd.R (Kd.int .i64) 3 wr w.heap.size (fun _ => True) s7 ks) ∧ Aside0 (Below w.heap.size w wr) ∧ Aside0 (wr.heap[w.heap.size]? = some (.cells cs.toArray 31 (0, 0))))
  case atStart => exact ⟨0, [], _, rfl, rfl, Nat.zero_le _, by omega, ⟨rfl⟩, HO, ⟨Kd.R_nil _ _ _ _ _⟩, HB1, BX1⟩
  case round =>
   clear HB1 BX1 HO; obtain ⟨i, ks, vv, rfl, rfl, hin, hg0, HL, HKS, HO7, HB, BX⟩ := hrel; by_cases hlt : i < p.f12.length
   ·have hltz : (i : Int) < (p.f12.length : Int) := by omega
    have hi0 : (0 : Int) ≤ (i : Int) := by omega
    obtain ⟨ad, c, e17, hcl, hKu, hcell⟩ := kid_get w A17 _ p.f12 HK17.out i hlt
    subst e17
    have hdrop : p.f12.drop i = p.f12.getD i z31 :: p.f12.drop (i + 1) := by
     rw [List.drop_eq_getElem_cons hlt, List.getD_eq_getElem?_getD, List.getElem?_eq_getElem hlt]; rfl
    have hks := HKS.out; rw [hdrop] at hks
    simp only [kidsL] at hks
    obtain ⟨m, hm, hks⟩ := Option.bind_eq_some_iff.1 hks
    have hC := fun W (hb : Below w.heap.size w W) => IH.out (p.f12.getD i z31) c A1 c1 l1 (wrap64 (a2 - 1)) m W (k31.K_below hb hKu) (Kd.C_below HR1.out hb) HC1.out hm
    have HCALL := Aside0.mk hC; have HON := Aside0.mk (k31.K_one hKu)
    have HKS2 := Aside0.mk hks; have HCL := Aside0.mk hcl; have HCELL := Aside0.mk (show ∀ j v, c[j]? = some v → wr.cell? ((ad.add (i * 18)).add j) = some v from fun j v hj => (HB.out.cell (World.block_lt_of_cell? w _ (hcell j v hj))).trans (hcell j v hj))
    clear hKu hm hks hdrop HKS hC hcl hcell; by_cases hz : m = 0
    ·subst hz; have ho := HKS2.out; rw [if_pos rfl] at ho; obtain rfl := Option.some.inj ho
     have hr := H.out; obtain rfl := Option.some.inj hr
     clear ho hr HKS2
     go_wp2_with (first
      | ((with_reducible refine gate_dst (N := 24) rfl ?_); refine load_all rfl rfl (cs := c) rfl HAGG.out (fun W => by rw [HCL.out]; exact HSZ.out W) HCELL.out ?_)
      | ((with_reducible refine gate_store (t := 31) (p := 9) rfl ?_); refine store_all (g := wr.heap.size) (cs := c.toArray) (t' := 31) rfl rfl rfl rfl rfl (fun W => by rw [List.size_toArray, HCL.out]; exact HSZ.out W) (heap_alloc_new wr _) (by rw [List.size_toArray, HCL.out]; rfl) (fun u hu => HON.out u (by simpa using hu)) ?_; intro w3 hbx hoth hs3 hos htp hou; have B3 := Aside0.mk (show Below wr.heap.size wr w3 from ⟨hos, htp, hou, by rw [hs3]; simp, fun k_ hk_ => (hoth k_ (by omega)).trans (((Below.refl _ wr).alloc (Nat.le_refl _) _).block k_ hk_)⟩); have BX3 := Aside0.mk hbx; clear hbx hoth hs3 hos htp hou)
      | ((with_reducible refine gate_dst (N := 25) rfl ?_); refine load_all rfl rfl (cs := c) rfl HAGG.out (fun W => by rw [HCL.out]; exact HSZ.out W) (blk_cells BX3.out) ?_)
      | (go_at_call 22; refine (HCALL.out _ (below_step HB.out B3.out)).mono ?_; rintro e w4 ⟨rfl, hb4⟩; have B4 := Aside0.mk (below_step (below_step HB.out B3.out) hb4); clear hb4))
     go_ret
     exact ⟨rfl, B4.out⟩
    ·have hks := HKS2.out; rw [if_neg hz] at hks; have HKS3 := Aside0.mk hks; have hz0 : (m == 0) = false := beq_eq_false_iff_ne.mpr hz; have hz1 : (m != 0) = true := bne_iff_ne.mpr hz; clear hks HKS2
     go_wp2_with (first
      | ((with_reducible refine gate_dst (N := 24) rfl ?_); refine load_all rfl rfl (cs := c) rfl HAGG.out (fun W => by rw [HCL.out]; exact HSZ.out W) HCELL.out ?_)
      | ((with_reducible refine gate_store (t := 31) (p := 9) rfl ?_); refine store_all (g := wr.heap.size) (cs := c.toArray) (t' := 31) rfl rfl rfl rfl rfl (fun W => by rw [List.size_toArray, HCL.out]; exact HSZ.out W) (heap_alloc_new wr _) (by rw [List.size_toArray, HCL.out]; rfl) (fun u hu => HON.out u (by simpa using hu)) ?_; intro w3 hbx hoth hs3 hos htp hou; have B3 := Aside0.mk (show Below wr.heap.size wr w3 from ⟨hos, htp, hou, by rw [hs3]; simp, fun k_ hk_ => (hoth k_ (by omega)).trans (((Below.refl _ wr).alloc (Nat.le_refl _) _).block k_ hk_)⟩); have BX3 := Aside0.mk hbx; clear hbx hoth hs3 hos htp hou)
      | ((with_reducible refine gate_dst (N := 25) rfl ?_); refine load_all rfl rfl (cs := c) rfl HAGG.out (fun W => by rw [HCL.out]; exact HSZ.out W) (blk_cells BX3.out) ?_)
      | (go_at_call 22; refine (HCALL.out _ (below_step HB.out B3.out)).mono ?_; rintro e w4 ⟨rfl, hb4⟩; have BW4 := Aside0.mk (below_step B3.out hb4); have HB4 := Aside0.mk (below_step HB.out BW4.out); have HO4 := Aside0.mk (Kd.R_below HO7.out BW4.out); have BX4 := Aside0.mk ((BW4.out.block w.heap.size (Array.getElem?_eq_some_iff.1 BX.out).1).trans BX.out); clear hb4 B3 BX3)
      | ((with_reducible refine gate_builtin (b := .append) (xs := #[.tmp 32, .tmp 34]) rfl ?_); at_builtin; refine Kd.R_append (Kd.int .i64) (w0 := w) w.heap.size rfl (.tmp 32) (.tmp 34) 26 3 (.int .i64 0) 8 rfl Try.underlying26 info3 rfl (by decide) (by omega) vv ks m [.int .i64 m] (fun _ => True) (fun _ => False) rfl rfl ?aP (fun _ hk => hk.elim) ?aF ?aO ?aB ?aS ?aL ?_; (case aP => exact rfl); (case aB => exact HB4.out); (case aF => exact (fun _ _ => trivial)); (case aO => exact HO4.out); (case aS => exact below_size HB4.out); (case aL => have := HL.out; have := HN.out; omega); intro v150 w26 ho hb hg hat; have HO5 := Aside0.mk ho; have HB5 := Aside0.mk hb; have BX5 := Aside0.mk (blk_grown (g := w.heap.size) (o := .cells cs.toArray 31 (0, 0)) (mvK BX4.out) hg (Kd.R_ne HO4.out BX4.out (by decide))); clear ho hb hg hat))
     go_roundg (p.f12.length - (i + 1))
     case measure => omega
     case rel => have hN := HN.out; exact ⟨i + 1, ks ++ [m], _, rfl, by first | go_num | (congr 1; unfold wrap64; omega), by omega, by omega, ⟨by rw [List.length_append, HL.out]; rfl⟩, HKS3, HO5, HB5, BX5⟩
   ·have hltz : ¬ (i : Int) < (p.f12.length : Int) := by omega
    have hks := HKS.out; rw [List.drop_of_length_le (by omega)] at hks
    obtain rfl := Option.some.inj hks
    have hown := H.out; obtain ⟨A7, c7, rfl, hl7, hC7⟩ := Kd.R_reads HO7.out
    have hO := plan_own.core k p cs A7 c7 ks A1 c1 l1 r wr (k31.K_below HB.out HK.out) hC7 hl7 (Kd.C_below HR1.out HB.out) HC1.out hown
    have HOW := Aside0.mk hO; clear hks hown hl7 hC7 hO
    go_wp2_with (first
     | ((with_reducible refine gate_dst (N := 37) rfl ?_); refine load_all rfl rfl (cs := cs) rfl HAGG.out (fun W => by rw [HL18.out]; exact HSZ.out W) (blk_cells BX.out) ?_)
     | (go_at_call 35; refine HOW.out.mono ?_; rintro e w' ⟨rfl, hb'⟩; have HB9 := Aside0.mk (below_step HB.out hb'); clear hb'))
    go_ret
    exact ⟨rfl, HB9.out⟩
theorem kidsL_mono {g g' : S31 → Option Int} (h : ∀ q, LeO (g q) (g' q)) : ∀ (l : List S31) (ks : List Int), LeO (kidsL g l ks) (kidsL g' l ks)
 | [], ks => fun _ hr => hr
 | q :: qs, ks => fun r hr => by
  simp only [kidsL] at hr ⊢
  obtain ⟨n, hn, hr⟩ := Option.bind_eq_some_iff.1 hr
  rw [h q n hn]
  simp only [Option.bind_some]
  by_cases hz : n = 0
  ·rw [if_pos hz] at hr ⊢; exact hr
  ·rw [if_neg hz] at hr ⊢; exact kidsL_mono h qs _ r hr
theorem colsP_mono : ∀ k p l1 a2, LeO (colsP k p l1 a2) (colsP (k + 1) p l1 a2)
 | 0, p, l1, a2 => fun r hr => by cases hr
 | k + 1, p, l1, a2 => fun r hr => by
  unfold colsP at hr ⊢
  by_cases hn : p.f12.length ≤ 1000000
  case neg => rw [if_neg hn] at hr; cases hr
  rw [if_pos hn] at hr ⊢
  by_cases h0 : a2 = 0
  ·rw [if_pos h0] at hr ⊢; exact hr
  rw [if_neg h0] at hr ⊢
  obtain ⟨s, hs, hr⟩ := Option.bind_eq_some_iff.1 hr
  rw [hs]
  simp only [Option.bind_some]
  by_cases hz : s = true
  ·rw [if_pos hz] at hr ⊢
   obtain ⟨o, ho, hr⟩ := Option.bind_eq_some_iff.1 hr
   rw [kidsL_mono (fun q => colsP_mono k q l1 (wrap64 (a2 - 1))) p.f12 [] o ho]
   cases o with
   | none => exact hr
   | some ks => exact ownP_mono k p ks l1 r hr
  ·rw [if_neg hz] at hr ⊢; exact hr
theorem plan_cols.calls (k : Nat) (a0_0 : Int) (a0_1 : ByteArray) (a0_2 : Int) (a0_3 : Int) (a0_4 : ByteArray) (a0_5 : Int) (a0_6 : Int) (A0_7 : Option Addr) (c0_7 : Nat) (l0_7 : List (S24)) (A0_8 : Option Addr) (c0_8 : Nat) (l0_8 : List (S50)) (A0_9 : Option Addr) (c0_9 : Nat) (l0_9 : List Int) (A0_10 : Option Addr) (c0_10 : Nat) (l0_10 : List (S72)) (a0_11 : Int) (A0_12 : Option Addr) (c0_12 : Nat) (l0_12 : List Int) (A0_13 : Option Addr) (c0_13 : Nat) (l0_13 : List Int) (A0_14 : Option Addr) (c0_14 : Nat) (l0_14 : List (S52)) (a0_15 : Int) (a0_16 : Int) (A0_17 : Option Addr) (c0_17 : Nat) (l0_17 : List (S31)) (A1 : Option Addr) (c1 : Nat) (l1 : List (S46)) (a2 : Int) (r : Int) (w : World) (hr0_7 : Kd.C k24 w A0_7 l0_7.length l0_7) (hc0_7 : l0_7.length ≤ c0_7) (hr0_8 : Kd.C k50 w A0_8 l0_8.length l0_8) (hc0_8 : l0_8.length ≤ c0_8) (hr0_9 : Kd.C (Kd.int .i64) w A0_9 l0_9.length l0_9) (hc0_9 : l0_9.length ≤ c0_9) (hr0_10 : Kd.C k72 w A0_10 l0_10.length l0_10) (hc0_10 : l0_10.length ≤ c0_10) (hr0_12 : Kd.C (Kd.int .i64) w A0_12 l0_12.length l0_12) (hc0_12 : l0_12.length ≤ c0_12) (hr0_13 : Kd.C (Kd.int .i64) w A0_13 l0_13.length l0_13) (hc0_13 : l0_13.length ≤ c0_13) (hr0_14 : Kd.C k52 w A0_14 l0_14.length l0_14) (hc0_14 : l0_14.length ≤ c0_14) (hr0_17 : Kd.C k31 w A0_17 l0_17.length l0_17) (hc0_17 : l0_17.length ≤ c0_17) (hr1 : Kd.C k46 w A1 l1.length l1) (hc1 : l1.length ≤ c1) (h : plan_cols.f k a0_0 a0_1 a0_2 a0_3 a0_4 a0_5 a0_6 l0_7 l0_8 l0_9 l0_10 a0_11 l0_12 l0_13 l0_14 a0_15 a0_16 l0_17 l1 a2 = some r) :
  Calls Try.prog 22 #[.agg #[.int .i64 a0_0, .string a0_1, .int .i64 a0_2, .int .i64 a0_3, .string a0_4, .int .i64 a0_5, .int .i64 a0_6, .slice A0_7 l0_7.length c0_7, .slice A0_8 l0_8.length c0_8, .slice A0_9 l0_9.length c0_9, .slice A0_10 l0_10.length c0_10, .int .i64 a0_11, .slice A0_12 l0_12.length c0_12, .slice A0_13 l0_13.length c0_13, .slice A0_14 l0_14.length c0_14, .int .i64 a0_15, .int .i64 a0_16, .slice A0_17 l0_17.length c0_17], .slice A1 l1.length c1, .int .i64 a2] w fun e w' => e = .returned (.int .i64 r) ∧ Below w.heap.size w w' :=
 plan_cols.core k ⟨a0_0, a0_1, ⟨a0_2, a0_3, a0_4, a0_5, a0_6, l0_7⟩, l0_8, l0_9, l0_10, a0_11, l0_12, l0_13, l0_14, a0_15, a0_16, l0_17⟩ _ A1 c1 l1 a2 r w (k31_mk w ⟨a0_0, a0_1, ⟨a0_2, a0_3, a0_4, a0_5, a0_6, l0_7⟩, l0_8, l0_9, l0_10, a0_11, l0_12, l0_13, l0_14, a0_15, a0_16, l0_17⟩ hc0_7 hr0_7 hc0_8 hr0_8 hc0_9 hr0_9 hc0_10 hr0_10 hc0_12 hr0_12 hc0_13 hr0_13 hc0_14 hr0_14 hc0_17 hr0_17) hr1 hc1 h

/-! ### plan_Cols: function 12 -/
-- told by hand
def plan_Cols.f (k : Nat) (a0_0 : Int) (a0_1 : ByteArray) (a0_2 : Int) (a0_3 : Int) (a0_4 : ByteArray) (a0_5 : Int) (a0_6 : Int) (l0_7 : List S24) (l0_8 : List S50) (l0_9 : List Int) (l0_10 : List S72) (a0_11 : Int) (l0_12 : List Int) (l0_13 : List Int) (l0_14 : List S52) (a0_15 : Int) (a0_16 : Int) (l0_17 : List S31) (l1 : List S46) : Option (Int × Int) := (colsP k ⟨a0_0, a0_1, ⟨a0_2, a0_3, a0_4, a0_5, a0_6, l0_7⟩, l0_8, l0_9, l0_10, a0_11, l0_12, l0_13, l0_14, a0_15, a0_16, l0_17⟩ l1 12).bind fun t => if t = 0 then some (0, 5) else some (t, 0)
theorem plan_Cols.mono : ∀ y0 y1 y2 y3 y4 y5 y6 y7 y8 y9 y10 y11 y12 y13 y14 y15 y16 y17 y18 k, LeO (plan_Cols.f k y0 y1 y2 y3 y4 y5 y6 y7 y8 y9 y10 y11 y12 y13 y14 y15 y16 y17 y18) (plan_Cols.f (k + 1) y0 y1 y2 y3 y4 y5 y6 y7 y8 y9 y10 y11 y12 y13 y14 y15 y16 y17 y18) := fun y0 y1 y2 y3 y4 y5 y6 y7 y8 y9 y10 y11 y12 y13 y14 y15 y16 y17 y18 k r hr => by
 unfold plan_Cols.f at hr ⊢
 obtain ⟨t, ht, hr⟩ := Option.bind_eq_some_iff.1 hr
 rw [colsP_mono k _ _ _ t ht]
 exact hr
theorem plan_Cols.core (k : Nat) (p : S31) (cs : List Value) (A1 : Option Addr) (c1 : Nat) (l1 : List S46) (r1 r2 : Int) (w : World) (hK : k31.K w p cs) (hr1 : Kd.C k46 w A1 l1.length l1) (hc1 : l1.length ≤ c1) (h : (colsP k p l1 12).bind (fun t => if t = 0 then some ((0 : Int), (5 : Int)) else some (t, 0)) = some (r1, r2)) :
  Calls Try.prog 12 #[.agg cs.toArray, .slice A1 l1.length c1] w fun e w' => e = .returned (.tuple #[.int .i64 r1, .int .i64 r2]) ∧ Below w.heap.size w w' := by
 have hagg : ∀ W, (isAgg 31).run Try.prog W = .ok true W := fun W => by first | exact Try.isAgg31 | exact Try.isAgg31 W | go_simp
 have hsz18 : ∀ W, (sizeOf 31).run Try.prog W = .ok 18 W := fun W => by first | exact Try.sizeOf31 | exact Try.sizeOf31 W | go_simp
 have HAGG := Aside0.mk hagg; have HSZ := Aside0.mk hsz18; have HL18 := Aside0.mk (show cs.length = 18 from k31.K_len hK)
 obtain ⟨t, ht, h⟩ := Option.bind_eq_some_iff.1 h
 have HC := Aside0.mk (fun W (hb : Below w.heap.size w W) => plan_cols.core k p cs A1 c1 l1 12 t W (k31.K_below hb hK) (Kd.C_below hr1 hb) hc1 ht)
 clear hagg hsz18 hK hr1 hc1 ht; by_cases hz : t = 0
 ·rw [if_pos hz] at h; have hz0 : (t == 0) = true := beq_iff_eq.mpr hz; simp only [Option.some.injEq, Prod.mk.injEq] at h
  obtain ⟨rfl, rfl⟩ := h; subst hz; clear hz0; go_enter Try.func12, Try.ntmps12
  go_wp2_with (first
   | ((with_reducible refine gate_dst (N := 2) rfl ?_); refine box_all rfl rfl (cs := cs.toArray) rfl (fun W => by rw [List.size_toArray, HL18.out]; exact HSZ.out W) ?_; intro w1 hbx hbw; have BW := Aside0.mk hbw; have BX := Aside0.mk hbx; clear hbx hbw)
   | ((with_reducible refine gate_dst (N := 7) rfl ?_); refine load_all rfl rfl (cs := cs) rfl HAGG.out (fun W => by rw [HL18.out]; exact HSZ.out W) (blk_cells BX.out) ?_)
   | (go_at_call 22; refine (HC.out _ BW.out).mono ?_; rintro e w' ⟨rfl, hb'⟩; have HB1 := Aside0.mk (below_step BW.out hb'); clear hb'))
  go_ret2
  exact ⟨by first | rfl | simp, HB1.out⟩
 ·rw [if_neg hz] at h; have hz0 : (t == 0) = false := beq_eq_false_iff_ne.mpr hz; have hz1 : (t != 0) = true := bne_iff_ne.mpr hz; simp only [Option.some.injEq, Prod.mk.injEq] at h
  obtain ⟨rfl, rfl⟩ := h; go_enter Try.func12, Try.ntmps12
  go_wp2_with (first
   | ((with_reducible refine gate_dst (N := 2) rfl ?_); refine box_all rfl rfl (cs := cs.toArray) rfl (fun W => by rw [List.size_toArray, HL18.out]; exact HSZ.out W) ?_; intro w1 hbx hbw; have BW := Aside0.mk hbw; have BX := Aside0.mk hbx; clear hbx hbw)
   | ((with_reducible refine gate_dst (N := 7) rfl ?_); refine load_all rfl rfl (cs := cs) rfl HAGG.out (fun W => by rw [HL18.out]; exact HSZ.out W) (blk_cells BX.out) ?_)
   | (go_at_call 22; refine (HC.out _ BW.out).mono ?_; rintro e w' ⟨rfl, hb'⟩; have HB1 := Aside0.mk (below_step BW.out hb'); clear hb'))
  go_ret2
  exact ⟨by first | rfl | simp, HB1.out⟩
theorem plan_Cols.calls (k : Nat) (a0_0 : Int) (a0_1 : ByteArray) (a0_2 : Int) (a0_3 : Int) (a0_4 : ByteArray) (a0_5 : Int) (a0_6 : Int) (A0_7 : Option Addr) (c0_7 : Nat) (l0_7 : List (S24)) (A0_8 : Option Addr) (c0_8 : Nat) (l0_8 : List (S50)) (A0_9 : Option Addr) (c0_9 : Nat) (l0_9 : List Int) (A0_10 : Option Addr) (c0_10 : Nat) (l0_10 : List (S72)) (a0_11 : Int) (A0_12 : Option Addr) (c0_12 : Nat) (l0_12 : List Int) (A0_13 : Option Addr) (c0_13 : Nat) (l0_13 : List Int) (A0_14 : Option Addr) (c0_14 : Nat) (l0_14 : List (S52)) (a0_15 : Int) (a0_16 : Int) (A0_17 : Option Addr) (c0_17 : Nat) (l0_17 : List (S31)) (A1 : Option Addr) (c1 : Nat) (l1 : List (S46)) (r1 : Int) (r2 : Int) (w : World) (hr0_7 : Kd.C k24 w A0_7 l0_7.length l0_7) (hc0_7 : l0_7.length ≤ c0_7) (hr0_8 : Kd.C k50 w A0_8 l0_8.length l0_8) (hc0_8 : l0_8.length ≤ c0_8) (hr0_9 : Kd.C (Kd.int .i64) w A0_9 l0_9.length l0_9) (hc0_9 : l0_9.length ≤ c0_9) (hr0_10 : Kd.C k72 w A0_10 l0_10.length l0_10) (hc0_10 : l0_10.length ≤ c0_10) (hr0_12 : Kd.C (Kd.int .i64) w A0_12 l0_12.length l0_12) (hc0_12 : l0_12.length ≤ c0_12) (hr0_13 : Kd.C (Kd.int .i64) w A0_13 l0_13.length l0_13) (hc0_13 : l0_13.length ≤ c0_13) (hr0_14 : Kd.C k52 w A0_14 l0_14.length l0_14) (hc0_14 : l0_14.length ≤ c0_14) (hr0_17 : Kd.C k31 w A0_17 l0_17.length l0_17) (hc0_17 : l0_17.length ≤ c0_17) (hr1 : Kd.C k46 w A1 l1.length l1) (hc1 : l1.length ≤ c1) (h : plan_Cols.f k a0_0 a0_1 a0_2 a0_3 a0_4 a0_5 a0_6 l0_7 l0_8 l0_9 l0_10 a0_11 l0_12 l0_13 l0_14 a0_15 a0_16 l0_17 l1 = some (r1, r2)) :
  Calls Try.prog 12 #[.agg #[.int .i64 a0_0, .string a0_1, .int .i64 a0_2, .int .i64 a0_3, .string a0_4, .int .i64 a0_5, .int .i64 a0_6, .slice A0_7 l0_7.length c0_7, .slice A0_8 l0_8.length c0_8, .slice A0_9 l0_9.length c0_9, .slice A0_10 l0_10.length c0_10, .int .i64 a0_11, .slice A0_12 l0_12.length c0_12, .slice A0_13 l0_13.length c0_13, .slice A0_14 l0_14.length c0_14, .int .i64 a0_15, .int .i64 a0_16, .slice A0_17 l0_17.length c0_17], .slice A1 l1.length c1] w fun e w' => e = .returned (.tuple #[.int .i64 r1, .int .i64 r2]) ∧ Below w.heap.size w w' :=
 plan_Cols.core k ⟨a0_0, a0_1, ⟨a0_2, a0_3, a0_4, a0_5, a0_6, l0_7⟩, l0_8, l0_9, l0_10, a0_11, l0_12, l0_13, l0_14, a0_15, a0_16, l0_17⟩ _ A1 c1 l1 r1 r2 w (k31_mk w ⟨a0_0, a0_1, ⟨a0_2, a0_3, a0_4, a0_5, a0_6, l0_7⟩, l0_8, l0_9, l0_10, a0_11, l0_12, l0_13, l0_14, a0_15, a0_16, l0_17⟩ hc0_7 hr0_7 hc0_8 hr0_8 hc0_9 hr0_9 hc0_10 hr0_10 hc0_12 hr0_12 hc0_13 hr0_13 hc0_14 hr0_14 hc0_17 hr0_17) hr1 hc1 h

/-! ### hopperref07_Same: function 14 -/
def hopperref07_Same.l0 : Nat → List ByteArray → List ByteArray → Int → Option (Bool)
 | 0, _, _, _ => none
 | k + 1, x0, x1, x5 => if x5 < (x0.length : Int) then (if 0 ≤ x5 then (if x5 < (x1.length : Int) then (if (rdOf ByteArray.empty x0 x5).toList = (rdOf ByteArray.empty x1 x5).toList then (hopperref07_Same.l0 k x0 x1 (wrap64 (x5 + 1))) else (some false)) else (none)) else (none)) else (some true)
def hopperref07_Same.f (k : Nat) (l0 : List ByteArray) (l1 : List ByteArray) : Option (Bool) := if (l0.length : Int) = (l1.length : Int) then (hopperref07_Same.l0 k l0 l1 0) else (some false)
theorem hopperref07_Same.mono_l : ∀ k, (∀ y0 y1 y2, LeO (hopperref07_Same.l0 k y0 y1 y2) (hopperref07_Same.l0 (k + 1) y0 y1 y2))
 | 0 => fun _ _ _ r h => by simp [hopperref07_Same.l0] at h
 | k + 1 => by
  have ih0 := hopperref07_Same.mono_l k
  ·intro y0 y1 y2
   unfold hopperref07_Same.l0
   repeat' first
   | (with_reducible exact ih0 _ _ _)
   | (with_reducible exact LeO.refl _)
   | (with_reducible exact LeO.none _)
   | (with_reducible refine LeO.ite ?_ ?_)
   | (with_reducible refine LeO.bind ?_ (fun _ => ?_))
   | exact ih0 _ _ _
   | exact LeO.none _
   | refine LeO.ite ?_ ?_
   | refine LeO.bind ?_ (fun _ => ?_)
theorem hopperref07_Same.mono : ∀ a0 a1 k, LeO (hopperref07_Same.f k a0 a1) (hopperref07_Same.f (k + 1) a0 a1) := by
 intro a0 a1 k
 have ih0 := hopperref07_Same.mono_l k; unfold hopperref07_Same.f
 repeat' first
   | (with_reducible exact ih0 _ _ _)
   | (with_reducible exact LeO.refl _)
   | (with_reducible exact LeO.none _)
   | (with_reducible refine LeO.ite ?_ ?_)
   | (with_reducible refine LeO.bind ?_ (fun _ => ?_))
   | exact ih0 _ _ _
   | exact LeO.none _
   | refine LeO.ite ?_ ?_
   | refine LeO.bind ?_ (fun _ => ?_)
theorem hopperref07_Same.calls (k : Nat) (A0 : Option Addr) (c0 : Nat) (l0 : List ByteArray) (A1 : Option Addr) (c1 : Nat) (l1 : List ByteArray) (r : Bool) (w : World) (hr0 : Kd.C Kd.string w A0 l0.length l0) (hc0 : l0.length ≤ c0) (hr1 : Kd.C Kd.string w A1 l1.length l1) (hc1 : l1.length ≤ c1) (h : hopperref07_Same.f k l0 l1 = some r) :
  Calls Try.prog 14 #[.slice A0 l0.length c0, .slice A1 l1.length c1] w fun e w' => e = .returned (.bool r) ∧ Drawn0 w w' := by
 have HR0 := Aside0.mk hr0; have HC0 := Aside0.mk hc0; clear hr0 hc0; have HR1 := Aside0.mk hr1; have HC1 := Aside0.mk hc1; clear hr1 hc1; have H : (if (l0.length : Int) = (l1.length : Int) then (hopperref07_Same.l0 k l0 l1 0) else (some false)) = some r := h; clear h; by_cases c3 : (l0.length : Int) = (l1.length : Int)
 ·rw [if_pos c3] at H; have c3b0 : ((l0.length : Int) == (l1.length : Int)) = true := beq_iff_eq.mpr c3; have c3b1 : ((l0.length : Int) != (l1.length : Int)) = false := bne_eq_false_iff_eq.mpr c3; have c3b2 : (l0.length == l1.length) = true := by first | simpa using c3 | (simp at c3 ⊢; omega)
  clear c3; have H' := Aside0.mk H
  clear H; go_enter Try.func14, Try.ntmps14
  go_wp2
  repeat (go_quiet (fail); try go_wp2)
  go_loopg [5] k (fun kq v5 w' => ∃ (x5_1 : Int), v5 = .int .i64 x5_1 ∧ Aside0 (hopperref07_Same.l0 kq l0 l1 x5_1 = some r) ∧ Aside0 (kq ≤ k) ∧ Drawn0 w w')
  case atStart => exact ⟨(0), (by first | rfl | (simp; done) | (simp [*]; done)), H', ⟨Nat.le_refl _⟩, by repeat (first | exact Drawn0.refl _ | apply Drawn0.step)⟩
  case round =>
   clear H'; try clear c1
   try clear p2
   try clear c3
   try clear c3b0
   try clear c3b1
   try clear c3b2
   obtain ⟨x5_1, rfl, HA, HK1, ⟨m1, rfl⟩⟩ := hrel
   cases gk with
   | zero => exact absurd HA.out (by simp [hopperref07_Same.l0])
   | succ k1 =>
    have H := HA.out; clear HA; simp only [hopperref07_Same.l0] at H
    by_cases c4 : x5_1 < (l0.length : Int)
    ·rw [if_pos c4] at H; have c4b0 : decide (x5_1 < (l0.length : Int)) = true := decide_eq_true c4; clear c4; by_cases c5 : 0 ≤ x5_1
     case neg => rw [if_neg c5] at H; exact absurd H (by simp)
     rw [if_pos c5] at H; have c5b0 : decide (0 ≤ x5_1) = true := decide_eq_true c5; clear c5; by_cases c6 : x5_1 < (l1.length : Int)
     case neg => rw [if_neg c6] at H; exact absurd H (by simp)
     rw [if_pos c6] at H; have c6b0 : decide (x5_1 < (l1.length : Int)) = true := decide_eq_true c6; clear c6; by_cases c7 : (rdOf ByteArray.empty l0 x5_1).toList = (rdOf ByteArray.empty l1 x5_1).toList
     ·rw [if_pos c7] at H; have c7b0 : ((rdOf ByteArray.empty l0 x5_1).toList == (rdOf ByteArray.empty l1 x5_1).toList) = true := beq_iff_eq.mpr c7; have c7b1 : ((rdOf ByteArray.empty l0 x5_1).toList != (rdOf ByteArray.empty l1 x5_1).toList) = false := bne_eq_false_iff_eq.mpr c7; clear c7; have H' := Aside0.mk H
      clear H; have p121 : 0 ≤ (x5_1 : Int) := dtA; have q121 : x5_1 < (l0.length : Int) := dtA; obtain ⟨ad121, e121, hx121_0⟩ := Kd.at_string HR0.out x5_1 p121 q121
      cases e121
      replace p121 := eq_true p121; replace q121 := eq_true q121; have p122 : 0 ≤ (x5_1 : Int) := dtA; have q122 : x5_1 < (l1.length : Int) := dtA; obtain ⟨ad122, e122, hx122_0⟩ := Kd.at_string HR1.out x5_1 p122 q122
      cases e122
      replace p122 := eq_true p122; replace q122 := eq_true q122; go_wp2
      repeat (go_quiet (fail); try go_wp2)
      go_roundg k1
      case measure => have := HK1.out; omega
      case rel => exact ⟨(wrap64 (x5_1 + 1)), (by first | rfl | (simp; done) | (simp [*]; done)), H', ⟨by have := HK1.out; omega⟩, by repeat (first | exact Drawn0.refl _ | apply Drawn0.step)⟩
     ·rw [if_neg c7] at H; have c7b0 : ((rdOf ByteArray.empty l0 x5_1).toList == (rdOf ByteArray.empty l1 x5_1).toList) = false := beq_eq_false_iff_ne.mpr c7; have c7b1 : ((rdOf ByteArray.empty l0 x5_1).toList != (rdOf ByteArray.empty l1 x5_1).toList) = true := bne_iff_ne.mpr c7; obtain rfl := Option.some.inj H
      have p121 : 0 ≤ (x5_1 : Int) := dtA; have q121 : x5_1 < (l0.length : Int) := dtA; obtain ⟨ad121, e121, hx121_0⟩ := Kd.at_string HR0.out x5_1 p121 q121
      cases e121
      replace p121 := eq_true p121; replace q121 := eq_true q121; have p122 : 0 ≤ (x5_1 : Int) := dtA; have q122 : x5_1 < (l1.length : Int) := dtA; obtain ⟨ad122, e122, hx122_0⟩ := Kd.at_string HR1.out x5_1 p122 q122
      cases e122
      replace p122 := eq_true p122; replace q122 := eq_true q122; go_wp2
      repeat (go_quiet (fail); try go_wp2)
      go_ret
      exact exD
    ·rw [if_neg c4] at H; have c4b0 : decide (x5_1 < (l0.length : Int)) = false := decide_eq_false c4; clear c4; obtain rfl := Option.some.inj H
     go_wp2
     repeat (go_quiet (fail); try go_wp2)
     go_ret
     exact exD
 ·rw [if_neg c3] at H; have c3b0 : ((l0.length : Int) == (l1.length : Int)) = false := beq_eq_false_iff_ne.mpr c3; have c3b1 : ((l0.length : Int) != (l1.length : Int)) = true := bne_iff_ne.mpr c3; have c3b2 : (l0.length == l1.length) = false := by first | simpa using c3 | (simp at c3 ⊢; omega)
  obtain rfl := Option.some.inj H
  go_enter Try.func14, Try.ntmps14
  go_wp2
  repeat (go_quiet (fail); try go_wp2)
  go_ret
  exact exD

/-! ### slices_Sort_string_string: function 29 -/
-- told by hand
/-- Strings in the order of their bytes. -/
def sortS (l : List ByteArray) : List ByteArray := ((l.map toB).mergeSort fun x y => decide (x ≤ y)).map ofB
def slices_Sort_string_string.f (l0 : List ByteArray) : Option (List ByteArray) := if l0.length < 4611686018427387904 then some (sortS l0) else none
theorem slices_Sort_string_string.heap (w : World) (n g : Nat) (d : Array (List UInt8)) (os : Array Obj) (i : Nat) (hi : i < w.heap.size) : (Sort.grow (Sort.putRow encStr (Sort.ahead w n) g 0 d) os).heap[i]? = (Sort.putRow encStr w g 0 d).heap[i]? := by
 have hs : (Sort.putRow encStr (Sort.ahead w n) g 0 d).heap.size = w.heap.size := by simp [Sort.putRow, Sort.mapBlock, Sort.ahead]
 unfold Sort.grow
 simp only
 rw [Array.getElem?_append_left (by rw [hs]; exact hi)]
 rfl
theorem slices_Sort_string_string.heap_ne (w : World) (g : Nat) (d : Array (List UInt8)) (i : Nat) (hi : i ≠ g) : (Sort.putRow encStr w g 0 d).heap[i]? = w.heap[i]? := by
 simp only [Sort.putRow, Sort.mapBlock, Array.getElem?_modify]
 rw [if_neg (fun z => hi z.symm)]
theorem slices_Sort_string_string.calls (P0_ : Nat → Prop) (u9000_ : Value) (l0 : List ByteArray) (r : List ByteArray) (w0 w : World) (hB : Below w0.heap.size w0 w) (ho0 : Kd.R Kd.string 9 w w0.heap.size P0_ u9000_ l0) (h : slices_Sort_string_string.f l0 = some r) :
  Calls Try.prog 29 #[u9000_] w fun e w' => e = .returned (.tuple #[]) ∧ Kd.R Kd.string 9 w' w0.heap.size (fun k_ => (P0_ k_ ∨ w.heap.size ≤ k_)) u9000_ r ∧ Below w0.heap.size w0 w' ∧ Kept w w' (fun k_ => P0_ k_) := by
 unfold slices_Sort_string_string.f at h
 by_cases hlen : l0.length < 4611686018427387904
 case neg => rw [if_neg hlen] at h; cases h
 rw [if_pos hlen] at h; obtain rfl := Option.some.inj h
 clear h; obtain ⟨A, cp, rfl⟩ := Kd.R_slice ho0
 by_cases hn : l0 = []
 ·subst hn; refine (Try.slices_Sort_string_none A cp w).mono ?_
  rintro e w' ⟨rfl, rfl⟩
  exact ⟨rfl, by rw [show sortS [] = [] by simp [sortS]]; exact Kd.R_mono ho0 (fun _ hk => .inl hk), hB, Kept.refl _ _⟩
 ·have hpos : 0 < l0.length := by cases l0 with | nil => exact absurd rfl hn | cons _ _ => simp
  obtain ⟨g, rfl⟩ : ∃ g, A = some ⟨g, 0, none⟩ := by
   obtain ⟨_, inner, hown, _⟩ := ho0; rcases hown.2 with ⟨_, h⟩ | ⟨g, _, _, h, _⟩
   ·omega
   ·injection h with h _ _
    exact ⟨g, h⟩
  have hg : g < w.heap.size := Kd.R_lt ho0 g rfl; have hgb : w0.heap.size ≤ g := Kd.R_base ho0 g rfl; have hP : P0_ g := ho0.1 g rfl; have hc := Try.slices_Sort_string g 0 cp (l0.map toB) w (holds_strs rfl ho0) hg (by simpa using hlen)
  rw [List.length_map] at hc
  refine hc.mono ?_
  rintro e w' ⟨rfl, n, os, rfl⟩
  have hl : ((l0.map toB).mergeSort fun x y => decide (x ≤ y)).length = l0.length := by rw [List.length_mergeSort, List.length_map]
  have hR := R_putStr (ok' := fun k_ => (P0_ k_ ∨ w.heap.size ≤ k_)) rfl ho0 (.inl hP) ((l0.map toB).mergeSort fun x y => decide (x ≤ y)) hl l0.length (Nat.le_refl _) (slices_Sort_string_string.heap w n g _ os g hg)
  rw [List.take_of_length_le (by omega)] at hR
  have hsz : w.heap.size ≤ (Sort.grow (Sort.putRow encStr (Sort.ahead w n) g 0 ((l0.map toB).mergeSort fun x y => decide (x ≤ y)).toArray) os).heap.size := by
   simp [Sort.grow, Sort.putRow, Sort.mapBlock, Sort.ahead]
  refine ⟨rfl, hR, ⟨hB.os, hB.tape, hB.output, Nat.le_trans hB.size hsz, fun k hk => ?_⟩, hsz, fun i hi hni => ?_⟩
  ·rw [slices_Sort_string_string.heap w n g _ os k (Nat.lt_of_lt_of_le hk hB.size), slices_Sort_string_string.heap_ne w g _ k (by omega)]
   exact hB.block k hk
  ·rw [slices_Sort_string_string.heap w n g _ os i hi]
   exact slices_Sort_string_string.heap_ne w g _ i (fun e => hni (by rw [e]; exact hP))

/-! ### slices_Compact_string_string: function 30 -/
-- told by hand
/-- Neighbours that are alike stand once. -/
def compS (l : List ByteArray) : List ByteArray := (Lib.compact (l.map toB)).map ofB
def slices_Compact_string_string.f (l0 : List ByteArray) : Option (List ByteArray) := if l0.length ≤ 9223372036854775807 then some (compS l0) else none
theorem slices_Compact_string_string.le (zs : List (List UInt8)) : (Lib.compact zs).length ≤ zs.length := by
 unfold Lib.compact Lib.compactUpTo
 rw [List.length_map]
 exact Nat.le_trans (List.length_filter_le _ _) (by simp)
theorem slices_Compact_string_string.heap (w : World) (n g : Nat) (d : Array (List UInt8)) (i : Nat) : (Sort.putRow encStr (Sort.ahead w n) g 0 d).heap[i]? = (Sort.putRow encStr w g 0 d).heap[i]? := rfl
theorem slices_Compact_string_string.heap_ne (w : World) (g : Nat) (d : Array (List UInt8)) (i : Nat) (hi : i ≠ g) : (Sort.putRow encStr w g 0 d).heap[i]? = w.heap[i]? := by
 simp only [Sort.putRow, Sort.mapBlock, Array.getElem?_modify]
 rw [if_neg (fun z => hi z.symm)]
theorem slices_Compact_string_string.calls (P0_ : Nat → Prop) (u9000_ : Value) (l0 : List ByteArray) (r : List ByteArray) (w0 w : World) (hB : Below w0.heap.size w0 w) (ho0 : Kd.R Kd.string 9 w w0.heap.size P0_ u9000_ l0) (h : slices_Compact_string_string.f l0 = some r) :
  Calls Try.prog 30 #[u9000_] w fun e w' => ∃ v0_ : Value, e = .returned (v0_) ∧ Kd.R Kd.string 9 w' w0.heap.size (fun k_ => (P0_ k_ ∨ w.heap.size ≤ k_)) v0_ r ∧ Below w0.heap.size w0 w' ∧ Kept w w' (fun k_ => P0_ k_) := by
 unfold slices_Compact_string_string.f at h
 by_cases hlen : l0.length ≤ 9223372036854775807
 case neg => rw [if_neg hlen] at h; cases h
 rw [if_pos hlen] at h; obtain rfl := Option.some.inj h
 clear h; obtain ⟨A, cp, rfl⟩ := Kd.R_slice ho0
 by_cases hn : l0 = []
 ·subst hn; refine (Try.slices_Compact_string_empty A cp w).mono ?_
  rintro e w' ⟨rfl, rfl⟩
  exact ⟨_, rfl, Kd.R_mono ho0 (fun _ hk => .inl hk), hB, Kept.refl _ _⟩
 ·have hpos : 0 < l0.length := by cases l0 with | nil => exact absurd rfl hn | cons _ _ => simp
  have hcap : l0.length ≤ cp := by
   obtain ⟨A', c', e, hl, _⟩ := Kd.R_reads ho0
   injection e with _ _ e
   rw [e]; exact hl
  obtain ⟨g, rfl⟩ : ∃ g, A = some ⟨g, 0, none⟩ := by
   obtain ⟨_, inner, hown, _⟩ := ho0; rcases hown.2 with ⟨_, h⟩ | ⟨g, _, _, h, _⟩
   ·omega
   ·injection h with h _ _
    exact ⟨g, h⟩
  have hg : g < w.heap.size := Kd.R_lt ho0 g rfl; have hgb : w0.heap.size ≤ g := Kd.R_base ho0 g rfl; have hP : P0_ g := ho0.1 g rfl; have hc := Try.slices_Compact_string g 0 cp (l0.map toB) w (holds_strs rfl ho0) (by simpa using hlen) (by simpa using hcap)
  rw [List.length_map] at hc
  refine hc.mono ?_
  rintro e w' ⟨rfl, n, rfl⟩
  have hle := slices_Compact_string_string.le (l0.map toB)
  rw [List.length_map] at hle
  have hR := R_putStr (ok' := fun k_ => (P0_ k_ ∨ w.heap.size ≤ k_)) rfl ho0 (.inl hP) (Lib.compact (l0.map toB) ++ List.replicate (l0.length - (Lib.compact (l0.map toB)).length) []) (by simp; omega) (Lib.compact (l0.map toB)).length hle (slices_Compact_string_string.heap w n g _ g)
  rw [List.take_append_of_le_length (Nat.le_refl _), List.take_length] at hR
  have hsz : w.heap.size ≤ (Sort.putRow encStr (Sort.ahead w n) g 0 (Lib.compact (l0.map toB) ++ List.replicate (l0.length - (Lib.compact (l0.map toB)).length) []).toArray).heap.size := by
   simp [Sort.putRow, Sort.mapBlock, Sort.ahead]
  refine ⟨_, rfl, hR, ⟨hB.os, hB.tape, hB.output, Nat.le_trans hB.size hsz, fun k hk => ?_⟩, hsz, fun i hi hni => ?_⟩
  ·rw [slices_Compact_string_string.heap w n g _ k, slices_Compact_string_string.heap_ne w g _ k (by omega)]
   exact hB.block k hk
  ·rw [slices_Compact_string_string.heap w n g _ i]
   exact slices_Compact_string_string.heap_ne w g _ i (fun e => hni (by rw [e]; exact hP))

/-! ### plan_Tables: function 15 -/
-- told by hand
theorem kids_atT (p : S31) (cs : List Value) (w : World) (hK : k31.K w p cs) : ∃ A c, cs[17]? = some (.slice A p.f12.length c) ∧ cs[0]? = some (.int .i64 p.f0) ∧ cs[1]? = some (.string p.f1) ∧ Kd.C k31 w A p.f12.length p.f12 := by
 obtain ⟨A7, c7, A8, c8, A9, c9, A10, c10, A12, c12, A13, c13, A14, c14, A17, c17, e_, l7, g7, l8, g8, l9, g9, l10, g10, l12, g12, l13, g13, l14, g14, l17, g17⟩ := k31_open hK
 subst e_; exact ⟨_, _, rfl, rfl, rfl, g17⟩
theorem kid_getT (w : World) (A : Option Addr) (n : Nat) (xs : List S31) (h : Kd.C k31 w A n xs) (i : Nat) (hi : i < n) : ∃ ad c, A = some ad ∧ c.length = 18 ∧ k31.K w (xs.getD i z31) c ∧ ∀ j v, c[j]? = some v → w.cell? ((ad.add (i * 18)).add j) = some v := by
 obtain ⟨ad, c, e, hl, hK, hc0⟩ := Kd.C_get h z31 (i : Int) (by omega) (by omega)
 replace hK : k31.K w (xs.getD ((i : Int)).toNat z31) c := hK
 rw [show ((i : Int)).toNat = i by omega] at hK hc0
 exact ⟨ad, c, e, hl, hK, fun j v hj => by rw [addr_add]; exact hc0 j v hj⟩
/-- The kids' names, one behind the other. -/
def tabsL (g : S31 → Option (List ByteArray)) : List S31 → List ByteArray → Option (List ByteArray)
 | [], out => some out
 | q :: qs, out => (g q).bind fun t => if out.length + t.length < 8796093022208 then tabsL g qs (out ++ t) else none
def tablesP : Nat → S31 → Option (List ByteArray)
 | 0, _ => none
 | k + 1, p => if p.f12.length ≤ 1000000 then (tabsL (fun q => tablesP k q) p.f12 (if p.f0 = 1 then [p.f1] else [])).bind fun out => (slices_Sort_string_string.f out).bind fun s => slices_Compact_string_string.f s else none
def plan_Tables.f (k : Nat) (a0_0 : Int) (a0_1 : ByteArray) (a0_2 : Int) (a0_3 : Int) (a0_4 : ByteArray) (a0_5 : Int) (a0_6 : Int) (l0_7 : List S24) (l0_8 : List S50) (l0_9 : List Int) (l0_10 : List S72) (a0_11 : Int) (l0_12 : List Int) (l0_13 : List Int) (l0_14 : List S52) (a0_15 : Int) (a0_16 : Int) (l0_17 : List S31) : Option (List ByteArray) := tablesP k ⟨a0_0, a0_1, ⟨a0_2, a0_3, a0_4, a0_5, a0_6, l0_7⟩, l0_8, l0_9, l0_10, a0_11, l0_12, l0_13, l0_14, a0_15, a0_16, l0_17⟩
theorem plan_Tables.core (k : Nat) : ∀ (p : S31) (cs : List Value) (r : List ByteArray) (w : World), k31.K w p cs → tablesP k p = some r →
  Calls Try.prog 15 #[.agg cs.toArray] w fun e w' => ∃ v0_ : Value, e = .returned (v0_) ∧ Kd.R Kd.string 9 w' w.heap.size (fun _ => True) v0_ r ∧ Below w.heap.size w w' := by
 have hagg : ∀ W, (isAgg 31).run Try.prog W = .ok true W := fun W => by first | exact Try.isAgg31 | exact Try.isAgg31 W | go_simp
 have hsz18 : ∀ W, (sizeOf 31).run Try.prog W = .ok 18 W := fun W => by first | exact Try.sizeOf31 | exact Try.sizeOf31 W | go_simp
 have HAGG := Aside0.mk hagg; have HSZ := Aside0.mk hsz18; clear hagg hsz18
 induction k with
 | zero => intro p cs r w _ h; cases h
 | succ k ih =>
 intro p cs r w hK h
 have hu31 := Try.underlying31; unfold tablesP at h
 by_cases hn : p.f12.length ≤ 1000000
 case neg => rw [if_neg hn] at h; cases h
 rw [if_pos hn] at h; obtain ⟨A17, c17, hcs17, hcs0, hcs1, hk17⟩ := kids_atT p cs w hK
 have HL18 := Aside0.mk (show cs.length = 18 from k31.K_len hK)
 have HK := Aside0.mk hK; have HK17 := Aside0.mk hk17; have HN := Aside0.mk hn; have IH := Aside0.mk ih; have H17 := Aside0.mk hcs17; have H0 := Aside0.mk hcs0; have H1 := Aside0.mk hcs1; clear hK hk17 hn ih hcs17 hcs0 hcs1; obtain ⟨o, ho, h⟩ := Option.bind_eq_some_iff.1 h
 obtain ⟨s, hs, h⟩ := Option.bind_eq_some_iff.1 h
 have HO := Aside0.mk ho; have HSO := Aside0.mk hs; have HCO := Aside0.mk h; clear ho hs h; go_enter Try.func15, Try.ntmps15
 go_upto_if 8 with (first
  | ((with_reducible refine gate_dst (N := 1) rfl ?_); refine box_all rfl rfl (cs := cs.toArray) rfl (fun W => by rw [List.size_toArray, HL18.out]; exact HSZ.out W) ?_; intro w1 hbx hbw; have BW1 := Aside0.mk hbw; have BX1 := Aside0.mk hbx; have hcv0 : w1.cell? ⟨w.heap.size, 0, none⟩ = some (.int .i64 p.f0) := blk_cells hbx 0 _ H0.out; clear hbx hbw))
 go_cut [3] (fun s3 wc => ∃ (vv : Value), vv = s3 ∧ Aside0 (Kd.R Kd.string 9 wc w.heap.size (fun _ => True) vv (if p.f0 = 1 then [p.f1] else [])) ∧ Aside0 (Below w.heap.size w wc) ∧ Aside0 (wc.heap[w.heap.size]? = some (.cells cs.toArray 31 (0, 0))))
 case first =>
  by_cases hk1 : p.f0 = 1
  ·have hk0 : (p.f0 == 1) = true := beq_iff_eq.mpr hk1; have hcv1 : w1.cell? ⟨w.heap.size, 1, none⟩ = some (.string p.f1) := blk_cells BX1.out 1 _ H1.out
   go_wp2_with (first
    | ((with_reducible refine gate_builtin (b := .append) (xs := #[.tmp 9, .tmp 12]) rfl ?_); at_builtin; refine Kd.R_append Kd.string (w0 := w) w.heap.size rfl (.tmp 9) (.tmp 12) 42 9 (.string ⟨#[]⟩) 16 rfl Try.underlying42 info9 rfl (by decide) (by omega) (.slice none 0 0) ([] : List ByteArray) p.f1 [.string p.f1] (fun _ => True) (fun _ => False) rfl rfl ?aP (fun _ hk => hk.elim) ?aF ?aO ?aB ?aS ?aL ?_; (case aP => exact rfl); (case aB => exact BW1.out); (case aF => exact (fun _ _ => trivial)); (case aO => exact ((Kd.R_nil _ _ _ _ (fun _ => True)))); (case aS => exact below_size BW1.out); (case aL => simp); intro v159 w8 ho hb hg hat; have HO8 := Aside0.mk ho; have HB8 := Aside0.mk hb; have BX8 := Aside0.mk (blk_grown (g := w.heap.size) (o := .cells cs.toArray 31 (0, 0)) (mvK BX1.out) hg (by simp [Value.ownBlock])); clear ho hb hg hat))
   go_meet
   case rel => exact ⟨_, rfl, ⟨by rw [if_pos hk1]; exact HO8.out⟩, HB8, BX8⟩
  ·have hk0 : (p.f0 == 1) = false := beq_eq_false_iff_ne.mpr hk1; go_wp2
   go_meet
   case rel => exact ⟨_, rfl, ⟨by rw [if_neg hk1]; exact Kd.R_nil _ _ _ _ _⟩, BW1, BX1⟩
 case rest =>
  clear BW1 BX1 hcv0; obtain ⟨vv0, rfl, HO3, HB3, BX3⟩ := hcut; have hcv17 : wc.cell? ⟨w.heap.size, 17, none⟩ = some (.slice A17 p.f12.length c17) := blk_cells BX3.out 17 _ H17.out; go_wp2
  clear hcv17; go_loopg [3, 17] p.f12.length (fun gg s3 s17 wr => ∃ (i : Nat) (out : List ByteArray) (vv : Value), vv = s3 ∧ s17 = .int .i64 i ∧ i ≤ p.f12.length ∧ p.f12.length - i ≤ gg ∧ Aside0 (tabsL (fun q => tablesP k q) (p.f12.drop i) out = some o) ∧ Aside0 (Kd.R Kd.string 9 wr w.heap.size (fun _ => True) vv out) ∧ Aside0 (Below w.heap.size w wr) ∧ Aside0 (wr.heap[w.heap.size]? = some (.cells cs.toArray 31 (0, 0))))
  case atStart => exact ⟨0, _, _, rfl, rfl, Nat.zero_le _, by omega, HO, HO3, HB3, BX3⟩
  case round =>
   clear HO HO3 HB3 BX3; obtain ⟨i, out, vv, rfl, rfl, hin, hg0, HTS, HO7, HB, BX⟩ := hrel; by_cases hlt : i < p.f12.length
   ·have hltz : (i : Int) < (p.f12.length : Int) := by omega
    have hi0 : (0 : Int) ≤ (i : Int) := by omega
    obtain ⟨ad, c, e17, hcl, hKu, hcell⟩ := kid_getT w A17 _ p.f12 HK17.out i hlt
    subst e17
    have hdrop : p.f12.drop i = p.f12.getD i z31 :: p.f12.drop (i + 1) := by
     rw [List.drop_eq_getElem_cons hlt, List.getD_eq_getElem?_getD, List.getElem?_eq_getElem hlt]; rfl
    have hks := HTS.out; rw [hdrop] at hks
    simp only [tabsL] at hks
    obtain ⟨t, ht, hks⟩ := Option.bind_eq_some_iff.1 hks
    by_cases hlim : out.length + t.length < 8796093022208
    case neg => rw [if_neg hlim] at hks; cases hks
    rw [if_pos hlim] at hks; have HCALL := Aside0.mk (fun W (hb : Below w.heap.size w W) => IH.out (p.f12.getD i z31) c t W (k31.K_below hb hKu) ht)
    have HON := Aside0.mk (k31.K_one hKu)
    have HTS2 := Aside0.mk hks; have HCL := Aside0.mk hcl; have HLIM := Aside0.mk hlim; have HCELL := Aside0.mk (show ∀ j v, c[j]? = some v → wr.cell? ((ad.add (i * 18)).add j) = some v from fun j v hj => (HB.out.cell (World.block_lt_of_cell? w _ (hcell j v hj))).trans (hcell j v hj))
    clear hKu ht hks hdrop HTS hcl hcell hlim
    go_wp2_with (first
     | ((with_reducible refine gate_dst (N := 20) rfl ?_); refine load_all rfl rfl (cs := c) rfl HAGG.out (fun W => by rw [HCL.out]; exact HSZ.out W) HCELL.out ?_)
     | ((with_reducible refine gate_store (t := 31) (p := 5) rfl ?_); refine store_all (g := wr.heap.size) (cs := c.toArray) (t' := 31) rfl rfl rfl rfl rfl (fun W => by rw [List.size_toArray, HCL.out]; exact HSZ.out W) (heap_alloc_new wr _) (by rw [List.size_toArray, HCL.out]; rfl) (fun u hu => HON.out u (by simpa using hu)) ?_; intro w3 hbx hoth hs3 hos htp hou; have B3 := Aside0.mk (show Below wr.heap.size wr w3 from ⟨hos, htp, hou, by rw [hs3]; simp, fun k_ hk_ => (hoth k_ (by omega)).trans (((Below.refl _ wr).alloc (Nat.le_refl _) _).block k_ hk_)⟩); have BX3 := Aside0.mk hbx; clear hbx hoth hs3 hos htp hou)
     | ((with_reducible refine gate_dst (N := 22) rfl ?_); refine load_all rfl rfl (cs := c) rfl HAGG.out (fun W => by rw [HCL.out]; exact HSZ.out W) (blk_cells BX3.out) ?_)
     | (go_at_call 15; refine (HCALL.out _ (below_step HB.out B3.out)).mono ?_; rintro e w4 ⟨v0, rfl, hR4, hb4⟩; obtain ⟨Ar, cr, rfl, hlr, hCr⟩ := Kd.R_reads hR4; have HCR := Aside0.mk hCr; have BW4 := Aside0.mk (below_step B3.out hb4); have HB4 := Aside0.mk (below_step HB.out BW4.out); have HO4 := Aside0.mk (Kd.R_below HO7.out BW4.out); have BX4 := Aside0.mk ((BW4.out.block w.heap.size (Array.getElem?_eq_some_iff.1 BX.out).1).trans BX.out); clear hb4 B3 BX3 hR4 hlr hCr)
     | ((with_reducible refine gate_builtin (b := .append) (xs := #[.tmp 21, .tmp 23]) rfl ?_); at_builtin; refine Kd.R_append_rows Kd.string (w0 := w) w.heap.size rfl (.tmp 21) (.tmp 23) 42 9 (.string ⟨#[]⟩) 16 rfl Try.underlying42 info9 rfl (by decide) (by omega) vv out t _ _ _ (fun _ => True) (fun _ => False) rfl rfl ?aO ?aR (fun _ _ h => h) (fun _ h => h.elim) ?aF ?aB ?aS ?aL ?_; (case aR => exact HCR.out); (case aB => exact HB4.out); (case aF => exact (fun _ _ => trivial)); (case aO => exact HO4.out); (case aS => exact below_size HB4.out); (case aL => have := HLIM.out; omega); intro v150 w26 ho hb hg hat; have HO5 := Aside0.mk ho; have HB5 := Aside0.mk hb; have BX5 := Aside0.mk (blk_grown (g := w.heap.size) (o := .cells cs.toArray 31 (0, 0)) (mvK BX4.out) hg (Kd.R_ne HO4.out BX4.out (by decide))); clear ho hb hg hat))
    go_roundg (p.f12.length - (i + 1))
    case measure => omega
    case rel => have hN := HN.out; exact ⟨i + 1, out ++ t, _, rfl, by first | go_num | (congr 1; unfold wrap64; omega), by omega, by omega, HTS2, HO5, HB5, BX5⟩
   ·have hltz : ¬ (i : Int) < (p.f12.length : Int) := by omega
    have hks := HTS.out; rw [List.drop_of_length_le (by omega)] at hks
    obtain rfl := Option.some.inj hks
    clear hks HTS
    go_wp2_with (first
     | (go_at_call 29; refine (slices_Sort_string_string.calls (fun _ => True) vv out s w _ HB.out HO7.out HSO.out).mono ?_; rintro e w5 ⟨rfl, hR5, hb5, _⟩; have HO5 := Aside0.mk (Kd.R_mono (ok' := fun _ => True) hR5 (fun _ _ => trivial)); have HB5 := Aside0.mk hb5; clear hR5 hb5)
     | (go_at_call 30; refine (slices_Compact_string_string.calls (fun _ => True) vv s r w _ HB5.out HO5.out HCO.out).mono ?_; rintro e w6 ⟨v6, rfl, hR6, hb6, _⟩; have HO6 := Aside0.mk (Kd.R_mono (ok' := fun _ => True) hR6 (fun _ _ => trivial)); have HB6 := Aside0.mk hb6; clear hR6 hb6))
    go_ret
    exact ⟨_, rfl, HO6.out, HB6.out⟩
theorem tabsL_mono {g g' : S31 → Option (List ByteArray)} (h : ∀ q, LeO (g q) (g' q)) : ∀ (l : List S31) (out : List ByteArray), LeO (tabsL g l out) (tabsL g' l out)
 | [], out => fun _ hr => hr
 | q :: qs, out => fun r hr => by
  simp only [tabsL] at hr ⊢
  obtain ⟨t, ht, hr⟩ := Option.bind_eq_some_iff.1 hr
  rw [h q t ht]
  simp only [Option.bind_some]
  by_cases hz : out.length + t.length < 8796093022208
  ·rw [if_pos hz] at hr ⊢; exact tabsL_mono h qs _ r hr
  ·rw [if_neg hz] at hr; cases hr
theorem tablesP_mono : ∀ k p, LeO (tablesP k p) (tablesP (k + 1) p)
 | 0, p => fun r hr => by cases hr
 | k + 1, p => fun r hr => by
  unfold tablesP at hr ⊢
  by_cases hn : p.f12.length ≤ 1000000
  case neg => rw [if_neg hn] at hr; cases hr
  rw [if_pos hn] at hr ⊢
  obtain ⟨o, ho, hr⟩ := Option.bind_eq_some_iff.1 hr
  rw [tabsL_mono (fun q => tablesP_mono k q) p.f12 _ o ho]
  exact hr
theorem plan_Tables.mono : ∀ y0 y1 y2 y3 y4 y5 y6 y7 y8 y9 y10 y11 y12 y13 y14 y15 y16 y17 k, LeO (plan_Tables.f k y0 y1 y2 y3 y4 y5 y6 y7 y8 y9 y10 y11 y12 y13 y14 y15 y16 y17) (plan_Tables.f (k + 1) y0 y1 y2 y3 y4 y5 y6 y7 y8 y9 y10 y11 y12 y13 y14 y15 y16 y17) := fun _ _ _ _ _ _ _ _ _ _ _ _ _ _ _ _ _ _ k => tablesP_mono k _
theorem plan_Tables.calls (k : Nat) (a0_0 : Int) (a0_1 : ByteArray) (a0_2 : Int) (a0_3 : Int) (a0_4 : ByteArray) (a0_5 : Int) (a0_6 : Int) (A0_7 : Option Addr) (c0_7 : Nat) (l0_7 : List (S24)) (A0_8 : Option Addr) (c0_8 : Nat) (l0_8 : List (S50)) (A0_9 : Option Addr) (c0_9 : Nat) (l0_9 : List Int) (A0_10 : Option Addr) (c0_10 : Nat) (l0_10 : List (S72)) (a0_11 : Int) (A0_12 : Option Addr) (c0_12 : Nat) (l0_12 : List Int) (A0_13 : Option Addr) (c0_13 : Nat) (l0_13 : List Int) (A0_14 : Option Addr) (c0_14 : Nat) (l0_14 : List (S52)) (a0_15 : Int) (a0_16 : Int) (A0_17 : Option Addr) (c0_17 : Nat) (l0_17 : List (S31)) (r : List ByteArray) (w : World) (hr0_7 : Kd.C k24 w A0_7 l0_7.length l0_7) (hc0_7 : l0_7.length ≤ c0_7) (hr0_8 : Kd.C k50 w A0_8 l0_8.length l0_8) (hc0_8 : l0_8.length ≤ c0_8) (hr0_9 : Kd.C (Kd.int .i64) w A0_9 l0_9.length l0_9) (hc0_9 : l0_9.length ≤ c0_9) (hr0_10 : Kd.C k72 w A0_10 l0_10.length l0_10) (hc0_10 : l0_10.length ≤ c0_10) (hr0_12 : Kd.C (Kd.int .i64) w A0_12 l0_12.length l0_12) (hc0_12 : l0_12.length ≤ c0_12) (hr0_13 : Kd.C (Kd.int .i64) w A0_13 l0_13.length l0_13) (hc0_13 : l0_13.length ≤ c0_13) (hr0_14 : Kd.C k52 w A0_14 l0_14.length l0_14) (hc0_14 : l0_14.length ≤ c0_14) (hr0_17 : Kd.C k31 w A0_17 l0_17.length l0_17) (hc0_17 : l0_17.length ≤ c0_17) (h : plan_Tables.f k a0_0 a0_1 a0_2 a0_3 a0_4 a0_5 a0_6 l0_7 l0_8 l0_9 l0_10 a0_11 l0_12 l0_13 l0_14 a0_15 a0_16 l0_17 = some r) :
  Calls Try.prog 15 #[.agg #[.int .i64 a0_0, .string a0_1, .int .i64 a0_2, .int .i64 a0_3, .string a0_4, .int .i64 a0_5, .int .i64 a0_6, .slice A0_7 l0_7.length c0_7, .slice A0_8 l0_8.length c0_8, .slice A0_9 l0_9.length c0_9, .slice A0_10 l0_10.length c0_10, .int .i64 a0_11, .slice A0_12 l0_12.length c0_12, .slice A0_13 l0_13.length c0_13, .slice A0_14 l0_14.length c0_14, .int .i64 a0_15, .int .i64 a0_16, .slice A0_17 l0_17.length c0_17]] w fun e w' => ∃ v0_ : Value, e = .returned (v0_) ∧ Kd.R Kd.string 9 w' w.heap.size (fun _ => True) v0_ r ∧ Below w.heap.size w w' :=
 plan_Tables.core k ⟨a0_0, a0_1, ⟨a0_2, a0_3, a0_4, a0_5, a0_6, l0_7⟩, l0_8, l0_9, l0_10, a0_11, l0_12, l0_13, l0_14, a0_15, a0_16, l0_17⟩ _ r w (k31_mk w ⟨a0_0, a0_1, ⟨a0_2, a0_3, a0_4, a0_5, a0_6, l0_7⟩, l0_8, l0_9, l0_10, a0_11, l0_12, l0_13, l0_14, a0_15, a0_16, l0_17⟩ hc0_7 hr0_7 hc0_8 hr0_8 hc0_9 hr0_9 hc0_10 hr0_10 hc0_12 hr0_12 hc0_13 hr0_13 hc0_14 hr0_14 hc0_17 hr0_17) h

/-! ### hopperlaw25_scan: function 18 -/
def hopperlaw25_scan.f (a0 : ByteArray) : Option (Int × ByteArray × Int × Int × ByteArray × Int × Int × (List (S24)) × (List (S50)) × List Int × (List (S72)) × Int × List Int × List Int × (List (S52)) × Int × Int × (List (S31))) := some (1, a0, 0, 0, (⟨#[]⟩ : ByteArray), 0, 0, ([] : List (S24)), ([] : List (S50)), ([] : List Int), ([] : List (S72)), 0, ([] : List Int), ([] : List Int), ([] : List (S52)), 0, 0, ([] : List (S31)))
theorem hopperlaw25_scan.calls (a0 : ByteArray) (r1 : Int) (r2 : ByteArray) (r3 : Int) (r4 : Int) (r5 : ByteArray) (r6 : Int) (r7 : Int) (r8 : List (S24)) (r9 : List (S50)) (r10 : List Int) (r11 : List (S72)) (r12 : Int) (r13 : List Int) (r14 : List Int) (r15 : List (S52)) (r16 : Int) (r17 : Int) (r18 : List (S31)) (w : World) (h : hopperlaw25_scan.f a0 = some (r1, r2, r3, r4, r5, r6, r7, r8, r9, r10, r11, r12, r13, r14, r15, r16, r17, r18)) :
  Calls Try.prog 18 #[.string a0] w fun e w' => ∃ v7_ v8_ v9_ v10_ v12_ v13_ v14_ v17_ : Value, e = .returned (.agg #[.int .i64 r1, .string r2, .int .i64 r3, .int .i64 r4, .string r5, .int .i64 r6, .int .i64 r7, v7_, v8_, v9_, v10_, .int .i64 r12, v12_, v13_, v14_, .int .i64 r16, .int .i64 r17, v17_]) ∧ Kd.R k24 24 w' w.heap.size (fun _ => True) v7_ r8 ∧ Kd.R k50 50 w' w.heap.size (fun _ => True) v8_ r9 ∧ Kd.R (Kd.int .i64) 3 w' w.heap.size (fun k_ => some k_ ≠ (v12_ : Value).ownBlock ∧ some k_ ≠ (v13_ : Value).ownBlock) v9_ r10 ∧ Kd.R k72 72 w' w.heap.size (fun _ => True) v10_ r11 ∧ Kd.R (Kd.int .i64) 3 w' w.heap.size (fun k_ => some k_ ≠ (v9_ : Value).ownBlock ∧ some k_ ≠ (v13_ : Value).ownBlock) v12_ r13 ∧ Kd.R (Kd.int .i64) 3 w' w.heap.size (fun k_ => some k_ ≠ (v9_ : Value).ownBlock ∧ some k_ ≠ (v12_ : Value).ownBlock) v13_ r14 ∧ Kd.R k52 52 w' w.heap.size (fun _ => True) v14_ r15 ∧ Kd.R k31 31 w' w.heap.size (fun k_ => some k_ ≠ (v7_ : Value).ownBlock ∧ some k_ ≠ (v8_ : Value).ownBlock ∧ some k_ ≠ (v9_ : Value).ownBlock ∧ some k_ ≠ (v10_ : Value).ownBlock ∧ some k_ ≠ (v12_ : Value).ownBlock ∧ some k_ ≠ (v13_ : Value).ownBlock ∧ some k_ ≠ (v14_ : Value).ownBlock) v17_ r18 ∧ Below w.heap.size w w' := by
 have hu31 := Try.underlying31; have HB := Aside0.mk (Below.refl w.heap.size w)
 have H : (some (1, a0, 0, 0, (⟨#[]⟩ : ByteArray), 0, 0, ([] : List (S24)), ([] : List (S50)), ([] : List Int), ([] : List (S72)), 0, ([] : List Int), ([] : List Int), ([] : List (S52)), 0, 0, ([] : List (S31)))) = some (r1, r2, r3, r4, r5, r6, r7, r8, r9, r10, r11, r12, r13, r14, r15, r16, r17, r18) := h; clear h; simp only [Option.some.injEq, Prod.mk.injEq] at H
 obtain ⟨rfl, rfl, rfl, rfl, rfl, rfl, rfl, rfl, rfl, rfl, rfl, rfl, rfl, rfl, rfl, rfl, rfl, rfl⟩ := H; go_enter Try.func18, Try.ntmps18
 go_wp2_with (first | ((with_reducible refine gate_dst (N := 2) rfl ?_); refine box_event ?hg (N := 2) ?hd (cs := #[.int .i64 0, .string (⟨#[]⟩ : ByteArray), .int .i64 0, .int .i64 0, .string (⟨#[]⟩ : ByteArray), .int .i64 0, .int .i64 0, .slice none 0 0, .slice none 0 0, .slice none 0 0, .slice none 0 0, .int .i64 0, .slice none 0 0, .slice none 0 0, .slice none 0 0, .int .i64 0, .int .i64 0, .slice none 0 0]) (t := 31) ?hr ?_; (case hd => rfl); (case hg => rfl); (case hr => first | (go_simp; done) | (go_simp; rfl) | (go_simp; simp (disch := omega) only [Go.u8_and63, Go.u8_and31, Go.u8_and15, Go.u8_and7, Go.u8_or128, Go.u8_or192, Go.u8_or224, Go.u8_or240, m64]; done)); intro gb123 hg w2 hbox hb; have n0_ := Aside0.mk (below_step (mvB HB.out) hb); have n1_ := Aside0.mk (hbox); have n2_ := Aside0.mk ((by rw [hg]; exact (below_size (mvB HB.out)) : w.heap.size ≤ gb123)); have n3_ := Aside0.mk ((by rw [hg]; exact (below_size (mvB HB.out)) : w.heap.size ≤ gb123)); clear HB; have HB := n0_; have BK123 := n1_; have GW123 := n2_; have GE123 := n3_; clear n0_ n1_ n2_ n3_; clear hb hbox hg) | ((with_reducible refine gate_store (t := 31) (p := 2) rfl ?_); refine store_all (g := gb123) (cs := #[.int .i64 1, .string a0, .int .i64 0, .int .i64 0, .string (⟨#[]⟩ : ByteArray), .int .i64 0, .int .i64 0, .slice none 0 0, .slice none 0 0, .slice none 0 0, .slice none 0 0, .int .i64 0, .slice none 0 0, .slice none 0 0, .slice none 0 0, .int .i64 0, .int .i64 0, .slice none 0 0]) (t' := 31) rfl rfl rfl rfl rfl (fun W => by first | exact Try.sizeOf31 | exact Try.sizeOf31 W) BK123.out rfl (by intro u_ hu_; simp only [List.mem_cons, List.not_mem_nil, or_false] at hu_; rcases hu_ with rfl | rfl | rfl | rfl | rfl | rfl | rfl | rfl | rfl | rfl | rfl | rfl | rfl | rfl | rfl | rfl | rfl | rfl <;> rfl) ?_; intro w9_ hbx_ hoth_ hsz_ hos_ htp_ hou_; replace HB := Aside0.mk (show Below w.heap.size w w9_ from ⟨hos_.trans HB.out.os, htp_.trans HB.out.tape, hou_.trans HB.out.output, by rw [hsz_]; exact HB.out.size, fun k_ hk_ => (hoth_ k_ (by have := GE123.out; omega)).trans (HB.out.block k_ hk_)⟩); replace BK123 := Aside0.mk hbx_; clear hbx_ hoth_ hsz_ hos_ htp_ hou_))
 refine bodyPost_ret (results_cell_row rfl _ _ gb123 31 #[.int .i64 1, .string a0, .int .i64 0, .int .i64 0, .string (⟨#[]⟩ : ByteArray), .int .i64 0, .int .i64 0, .slice none 0 0, .slice none 0 0, .slice none 0 0, .slice none 0 0, .int .i64 0, .slice none 0 0, .slice none 0 0, .slice none 0 0, .int .i64 0, .int .i64 0, .slice none 0 0] (0, 0) _ rfl (by exact BK123.out) Try.underlying31 rfl (by kernel_rfl)) rfl ?_
 exact ⟨_, _, _, _, _, _, _, _, by first | rfl | (simp [errW_none, errW_some] <;> rfl) | (simp [*, errW_none, errW_some] <;> rfl) | exact congrArg (fun b_ => Ending.returned (.bool b_)) (decide_eq_decide.2 (by unfold wrap64; omega)), by first | exact Kd.R_nil _ _ _ _ _ | exact Kd.N_nil _ _ _ _ _ | exact Kd.V_nil _ _ _ _ _ | exact Kd.Q_nil _ _ _ _ _ | exact Kd.S_nil _ _ _ _ _, by first | exact Kd.R_nil _ _ _ _ _ | exact Kd.N_nil _ _ _ _ _ | exact Kd.V_nil _ _ _ _ _ | exact Kd.Q_nil _ _ _ _ _ | exact Kd.S_nil _ _ _ _ _, by first | exact Kd.R_nil _ _ _ _ _ | exact Kd.N_nil _ _ _ _ _ | exact Kd.V_nil _ _ _ _ _ | exact Kd.Q_nil _ _ _ _ _ | exact Kd.S_nil _ _ _ _ _, by first | exact Kd.R_nil _ _ _ _ _ | exact Kd.N_nil _ _ _ _ _ | exact Kd.V_nil _ _ _ _ _ | exact Kd.Q_nil _ _ _ _ _ | exact Kd.S_nil _ _ _ _ _, by first | exact Kd.R_nil _ _ _ _ _ | exact Kd.N_nil _ _ _ _ _ | exact Kd.V_nil _ _ _ _ _ | exact Kd.Q_nil _ _ _ _ _ | exact Kd.S_nil _ _ _ _ _, by first | exact Kd.R_nil _ _ _ _ _ | exact Kd.N_nil _ _ _ _ _ | exact Kd.V_nil _ _ _ _ _ | exact Kd.Q_nil _ _ _ _ _ | exact Kd.S_nil _ _ _ _ _, by first | exact Kd.R_nil _ _ _ _ _ | exact Kd.N_nil _ _ _ _ _ | exact Kd.V_nil _ _ _ _ _ | exact Kd.Q_nil _ _ _ _ _ | exact Kd.S_nil _ _ _ _ _, by first | exact Kd.R_nil _ _ _ _ _ | exact Kd.N_nil _ _ _ _ _ | exact Kd.V_nil _ _ _ _ _ | exact Kd.Q_nil _ _ _ _ _ | exact Kd.S_nil _ _ _ _ _, mvG HB.out GE123.out⟩

end Go.Proofs.Ytomccmodlkdcbaa.Q
