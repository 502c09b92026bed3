-- PRINTED by print.py (a twelfth state) out of the translation. Not trusted: Lean checks it.
import Derived.Test.YtomccmodlkdcbaaQx0
import Derived.Test.YtomccmodlkdcbaaQx15
import Derived.Test.YtomccmodlkdcbaaQx16
namespace Go.Proofs.Ytomccmodlkdcbaa.Q
open Go.RowKit Go.Proofs.YtomccmodlkdcbaaW.PrintWords Go.Proofs.YtomccmodlkdcbaaW.PrintLast Go.Proofs.YtomccmodlkdcbaaW.PrintMore
attribute [local go_sem] str_gtr str_geq str_leq max2_int min2_int max_two min_two max_three min_three max_four min_four   -- for this text's walks alone
set_option linter.unusedVariables false
set_option linter.unusedSimpArgs false

/-! ### plan_Tables: function 15 -/
-- told by hand
theorem kids_atT (p : S31) (cs : List Value) (w : World) (hK : k31.K w p cs) : ∃ A c, cs[17]? = some (.slice A p.f12.length c) ∧ cs[0]? = some (.int .i64 p.f0) ∧ cs[1]? = some (.string p.f1) ∧ Kd.C k31 w A p.f12.length p.f12 := by
  obtain ⟨A7, c7, A8, c8, A9, c9, A10, c10, A12, c12, A13, c13, A14, c14, A17, c17, e_, l7, g7, l8, g8, l9, g9, l10, g10, l12, g12, l13, g13, l14, g14, l17, g17⟩ := k31_open hK
  subst e_
  exact ⟨_, _, rfl, rfl, rfl, g17⟩
theorem kid_getT (w : World) (A : Option Addr) (n : Nat) (xs : List S31) (h : Kd.C k31 w A n xs) (i : Nat) (hi : i < n) : ∃ ad c, A = some ad ∧ c.length = 18 ∧ k31.K w (xs.getD i z31) c ∧ ∀ j v, c[j]? = some v → w.cell? ((ad.add (i * 18)).add j) = some v := by
  obtain ⟨ad, c, e, hl, hK, hc0⟩ := Kd.C_get h z31 (i : Int) (by omega) (by omega)
  replace hK : k31.K w (xs.getD ((i : Int)).toNat z31) c := hK
  rw [show ((i : Int)).toNat = i by omega] at hK hc0
  exact ⟨ad, c, e, hl, hK, fun j v hj => by rw [addr_add]; exact hc0 j v hj⟩
/-- The kids' names, one behind the other. -/
def tabsL (g : S31 → Option (List ByteArray)) : List S31 → List ByteArray → Option (List ByteArray)
  | [], out => some out
  | q :: qs, out => (g q).bind fun t => if out.length + t.length < 8796093022208 then tabsL g qs (out ++ t) else none
def tablesP : Nat → S31 → Option (List ByteArray)
  | 0, _ => none
  | k + 1, p => if p.f12.length ≤ 1000000 then (tabsL (fun q => tablesP k q) p.f12 (if p.f0 = 1 then [p.f1] else [])).bind fun out => (slices_Sort_string_string.f out).bind fun s => slices_Compact_string_string.f s else none
def plan_Tables.f (k : Nat) (a0_0 : Int) (a0_1 : ByteArray) (a0_2 : Int) (a0_3 : Int) (a0_4 : ByteArray) (a0_5 : Int) (a0_6 : Int) (l0_7 : List S24) (l0_8 : List S50) (l0_9 : List Int) (l0_10 : List S72) (a0_11 : Int) (l0_12 : List Int) (l0_13 : List Int) (l0_14 : List S52) (a0_15 : Int) (a0_16 : Int) (l0_17 : List S31) : Option (List ByteArray) := tablesP k ⟨a0_0, a0_1, ⟨a0_2, a0_3, a0_4, a0_5, a0_6, l0_7⟩, l0_8, l0_9, l0_10, a0_11, l0_12, l0_13, l0_14, a0_15, a0_16, l0_17⟩
set_option maxHeartbeats 8000000 in
set_option maxRecDepth 1000000 in
theorem plan_Tables.core (k : Nat) : ∀ (p : S31) (cs : List Value) (r : List ByteArray) (w : World), k31.K w p cs → tablesP k p = some r →
    Calls Try.prog 15 #[.agg cs.toArray] w fun e w' => ∃ v0_ : Value, e = .returned (v0_) ∧ Kd.R Kd.string 9 w' w.heap.size (fun _ => True) v0_ r ∧ Below w.heap.size w w' := by
  have hagg : ∀ W, (isAgg 31).run Try.prog W = .ok true W := fun W => by first | exact Try.isAgg31 | exact Try.isAgg31 W | go_simp
  have hsz18 : ∀ W, (sizeOf 31).run Try.prog W = .ok 18 W := fun W => by first | exact Try.sizeOf31 | exact Try.sizeOf31 W | go_simp
  have HAGG := Aside0.mk hagg
  have HSZ := Aside0.mk hsz18
  clear hagg hsz18
  induction k with
  | zero => intro p cs r w _ h; cases h
  | succ k ih =>
  intro p cs r w hK h
  have hu31 := Try.underlying31
  unfold tablesP at h
  by_cases hn : p.f12.length ≤ 1000000
  case neg => rw [if_neg hn] at h; cases h
  rw [if_pos hn] at h
  obtain ⟨A17, c17, hcs17, hcs0, hcs1, hk17⟩ := kids_atT p cs w hK
  have HL18 := Aside0.mk (show cs.length = 18 from k31.K_len hK)
  have HK := Aside0.mk hK
  have HK17 := Aside0.mk hk17
  have HN := Aside0.mk hn
  have IH := Aside0.mk ih
  have H17 := Aside0.mk hcs17
  have H0 := Aside0.mk hcs0
  have H1 := Aside0.mk hcs1
  clear hK hk17 hn ih hcs17 hcs0 hcs1
  obtain ⟨o, ho, h⟩ := Option.bind_eq_some_iff.1 h
  obtain ⟨s, hs, h⟩ := Option.bind_eq_some_iff.1 h
  have HO := Aside0.mk ho
  have HSO := Aside0.mk hs
  have HCO := Aside0.mk h
  clear ho hs h
  go_enter Try.func15, Try.ntmps15
  go_upto_if 8 with (first
    | ((with_reducible refine gate_dst (N := 1) rfl ?_); refine box_all rfl rfl (cs := cs.toArray) rfl (fun W => by rw [List.size_toArray, HL18.out]; exact HSZ.out W) ?_; intro w1 hbx hbw; have BW1 := Aside0.mk hbw; have BX1 := Aside0.mk hbx; have hcv0 : w1.cell? ⟨w.heap.size, 0, none⟩ = some (.int .i64 p.f0) := blk_cells hbx 0 _ H0.out; clear hbx hbw))
  go_cut [3] (fun s3 wc => ∃ (vv : Value), vv = s3 ∧ Aside0 (Kd.R Kd.string 9 wc w.heap.size (fun _ => True) vv (if p.f0 = 1 then [p.f1] else [])) ∧ Aside0 (Below w.heap.size w wc) ∧ Aside0 (wc.heap[w.heap.size]? = some (.cells cs.toArray 31 (0, 0))))
  case first =>
    by_cases hk1 : p.f0 = 1
    · have hk0 : (p.f0 == 1) = true := beq_iff_eq.mpr hk1
      have hcv1 : w1.cell? ⟨w.heap.size, 1, none⟩ = some (.string p.f1) := blk_cells BX1.out 1 _ H1.out
      go_wp2_with (first
        | ((with_reducible refine gate_builtin (b := .append) (xs := #[.tmp 9, .tmp 12]) rfl ?_); at_builtin; refine Kd.R_append Kd.string (w0 := w) w.heap.size rfl (.tmp 9) (.tmp 12) 42 9 (.string ⟨#[]⟩) 16 rfl Try.underlying42 info9 rfl (by decide) (by omega) (.slice none 0 0) ([] : List ByteArray) p.f1 [.string p.f1] (fun _ => True) (fun _ => False) rfl rfl ?aP (fun _ hk => hk.elim) ?aF ?aO ?aB ?aS ?aL ?_; (case aP => exact rfl); (case aB => exact BW1.out); (case aF => exact (fun _ _ => trivial)); (case aO => exact ((Kd.R_nil _ _ _ _ (fun _ => True)))); (case aS => exact below_size BW1.out); (case aL => simp); intro v159 w8 ho hb hg hat; have HO8 := Aside0.mk ho; have HB8 := Aside0.mk hb; have BX8 := Aside0.mk (blk_grown (g := w.heap.size) (o := .cells cs.toArray 31 (0, 0)) (by (with_reducible repeat (first | refine blk_drewN ?_ _ | refine blk_drew ?_ | refine blk_alloc ?_ _)); exact BX1.out) hg (by simp [Value.ownBlock])); clear ho hb hg hat))
      go_meet
      case rel => exact ⟨_, rfl, ⟨by rw [if_pos hk1]; exact HO8.out⟩, HB8, BX8⟩
    · have hk0 : (p.f0 == 1) = false := beq_eq_false_iff_ne.mpr hk1
      go_wp2
      go_meet
      case rel => exact ⟨_, rfl, ⟨by rw [if_neg hk1]; exact Kd.R_nil _ _ _ _ _⟩, BW1, BX1⟩
  case rest =>
    clear BW1 BX1 hcv0
    obtain ⟨vv0, rfl, HO3, HB3, BX3⟩ := hcut
    have hcv17 : wc.cell? ⟨w.heap.size, 17, none⟩ = some (.slice A17 p.f12.length c17) := blk_cells BX3.out 17 _ H17.out
    go_wp2
    clear hcv17
    go_loopg [3, 17] p.f12.length (fun gg s3 s17 wr => ∃ (i : Nat) (out : List ByteArray) (vv : Value), vv = s3 ∧ s17 = .int .i64 i ∧ i ≤ p.f12.length ∧ p.f12.length - i ≤ gg ∧ Aside0 (tabsL (fun q => tablesP k q) (p.f12.drop i) out = some o) ∧ Aside0 (Kd.R Kd.string 9 wr w.heap.size (fun _ => True) vv out) ∧ Aside0 (Below w.heap.size w wr) ∧ Aside0 (wr.heap[w.heap.size]? = some (.cells cs.toArray 31 (0, 0))))
    case atStart => exact ⟨0, _, _, rfl, rfl, Nat.zero_le _, by omega, HO, HO3, HB3, BX3⟩
    case round =>
      clear HO HO3 HB3 BX3
      obtain ⟨i, out, vv, rfl, rfl, hin, hg0, HTS, HO7, HB, BX⟩ := hrel
      by_cases hlt : i < p.f12.length
      · have hltz : (i : Int) < (p.f12.length : Int) := by omega
        have hi0 : (0 : Int) ≤ (i : Int) := by omega
        obtain ⟨ad, c, e17, hcl, hKu, hcell⟩ := kid_getT w A17 _ p.f12 HK17.out i hlt
        subst e17
        have hdrop : p.f12.drop i = p.f12.getD i z31 :: p.f12.drop (i + 1) := by
          rw [List.drop_eq_getElem_cons hlt, List.getD_eq_getElem?_getD, List.getElem?_eq_getElem hlt]; rfl
        have hks := HTS.out
        rw [hdrop] at hks
        simp only [tabsL] at hks
        obtain ⟨t, ht, hks⟩ := Option.bind_eq_some_iff.1 hks
        by_cases hlim : out.length + t.length < 8796093022208
        case neg => rw [if_neg hlim] at hks; cases hks
        rw [if_pos hlim] at hks
        have HCALL := Aside0.mk (fun W (hb : Below w.heap.size w W) => IH.out (p.f12.getD i z31) c t W (k31.K_below hb hKu) ht)
        have HON := Aside0.mk (k31.K_one hKu)
        have HTS2 := Aside0.mk hks
        have HCL := Aside0.mk hcl
        have HLIM := Aside0.mk hlim
        have HCELL := Aside0.mk (show ∀ j v, c[j]? = some v → wr.cell? ((ad.add (i * 18)).add j) = some v from fun j v hj => (HB.out.cell (World.block_lt_of_cell? w _ (hcell j v hj))).trans (hcell j v hj))
        clear hKu ht hks hdrop HTS hcl hcell hlim
        go_wp2_with (first
          | ((with_reducible refine gate_dst (N := 20) rfl ?_); refine load_all rfl rfl (cs := c) rfl HAGG.out (fun W => by rw [HCL.out]; exact HSZ.out W) HCELL.out ?_)
          | ((with_reducible refine gate_store (t := 31) (p := 5) rfl ?_); refine store_all (g := wr.heap.size) (cs := c.toArray) (t' := 31) rfl rfl rfl rfl rfl (fun W => by rw [List.size_toArray, HCL.out]; exact HSZ.out W) (heap_alloc_new wr _) (by rw [List.size_toArray, HCL.out]; rfl) (fun u hu => HON.out u (by simpa using hu)) ?_; intro w3 hbx hoth hs3 hos htp hou; have B3 := Aside0.mk (show Below wr.heap.size wr w3 from ⟨hos, htp, hou, by rw [hs3]; simp, fun k_ hk_ => (hoth k_ (by omega)).trans (((Below.refl _ wr).alloc (Nat.le_refl _) _).block k_ hk_)⟩); have BX3 := Aside0.mk hbx; clear hbx hoth hs3 hos htp hou)
          | ((with_reducible refine gate_dst (N := 22) rfl ?_); refine load_all rfl rfl (cs := c) rfl HAGG.out (fun W => by rw [HCL.out]; exact HSZ.out W) (blk_cells BX3.out) ?_)
          | (go_at_call 15; refine (HCALL.out _ (below_step HB.out B3.out)).mono ?_; rintro e w4 ⟨v0, rfl, hR4, hb4⟩; obtain ⟨Ar, cr, rfl, hlr, hCr⟩ := Kd.R_reads hR4; have HCR := Aside0.mk hCr; have BW4 := Aside0.mk (below_step B3.out hb4); have HB4 := Aside0.mk (below_step HB.out BW4.out); have HO4 := Aside0.mk (Kd.R_below HO7.out BW4.out); have BX4 := Aside0.mk ((BW4.out.block w.heap.size (Array.getElem?_eq_some_iff.1 BX.out).1).trans BX.out); clear hb4 B3 BX3 hR4 hlr hCr)
          | ((with_reducible refine gate_builtin (b := .append) (xs := #[.tmp 21, .tmp 23]) rfl ?_); at_builtin; refine Kd.R_append_rows Kd.string (w0 := w) w.heap.size rfl (.tmp 21) (.tmp 23) 42 9 (.string ⟨#[]⟩) 16 rfl Try.underlying42 info9 rfl (by decide) (by omega) vv out t _ _ _ (fun _ => True) (fun _ => False) rfl rfl ?aO ?aR (fun _ _ h => h) (fun _ h => h.elim) ?aF ?aB ?aS ?aL ?_; (case aR => exact HCR.out); (case aB => exact HB4.out); (case aF => exact (fun _ _ => trivial)); (case aO => exact HO4.out); (case aS => exact below_size HB4.out); (case aL => have := HLIM.out; omega); intro v150 w26 ho hb hg hat; have HO5 := Aside0.mk ho; have HB5 := Aside0.mk hb; have BX5 := Aside0.mk (blk_grown (g := w.heap.size) (o := .cells cs.toArray 31 (0, 0)) (by (with_reducible repeat (first | refine blk_drewN ?_ _ | refine blk_drew ?_ | refine blk_alloc ?_ _)); exact BX4.out) hg (Kd.R_ne HO4.out BX4.out (by decide))); clear ho hb hg hat))
        go_roundg (p.f12.length - (i + 1))
        case measure => omega
        case rel => have hN := HN.out; exact ⟨i + 1, out ++ t, _, rfl, by first | go_num | (congr 1; unfold wrap64; omega), by omega, by omega, HTS2, HO5, HB5, BX5⟩
      · have hltz : ¬ (i : Int) < (p.f12.length : Int) := by omega
        have hks := HTS.out
        rw [List.drop_of_length_le (by omega)] at hks
        obtain rfl := Option.some.inj hks
        clear hks HTS
        go_wp2_with (first
          | (go_at_call 29; refine (slices_Sort_string_string.calls (fun _ => True) vv out s w _ HB.out HO7.out HSO.out).mono ?_; rintro e w5 ⟨rfl, hR5, hb5, _⟩; have HO5 := Aside0.mk (Kd.R_mono (ok' := fun _ => True) hR5 (fun _ _ => trivial)); have HB5 := Aside0.mk hb5; clear hR5 hb5)
          | (go_at_call 30; refine (slices_Compact_string_string.calls (fun _ => True) vv s r w _ HB5.out HO5.out HCO.out).mono ?_; rintro e w6 ⟨v6, rfl, hR6, hb6, _⟩; have HO6 := Aside0.mk (Kd.R_mono (ok' := fun _ => True) hR6 (fun _ _ => trivial)); have HB6 := Aside0.mk hb6; clear hR6 hb6))
        go_ret
        exact ⟨_, rfl, HO6.out, HB6.out⟩
theorem tabsL_mono {g g' : S31 → Option (List ByteArray)} (h : ∀ q, LeO (g q) (g' q)) : ∀ (l : List S31) (out : List ByteArray), LeO (tabsL g l out) (tabsL g' l out)
  | [], out => fun _ hr => hr
  | q :: qs, out => fun r hr => by
    simp only [tabsL] at hr ⊢
    obtain ⟨t, ht, hr⟩ := Option.bind_eq_some_iff.1 hr
    rw [h q t ht]
    simp only [Option.bind_some]
    by_cases hz : out.length + t.length < 8796093022208
    · rw [if_pos hz] at hr ⊢; exact tabsL_mono h qs _ r hr
    · rw [if_neg hz] at hr; cases hr
theorem tablesP_mono : ∀ k p, LeO (tablesP k p) (tablesP (k + 1) p)
  | 0, p => fun r hr => by cases hr
  | k + 1, p => fun r hr => by
    unfold tablesP at hr ⊢
    by_cases hn : p.f12.length ≤ 1000000
    case neg => rw [if_neg hn] at hr; cases hr
    rw [if_pos hn] at hr ⊢
    obtain ⟨o, ho, hr⟩ := Option.bind_eq_some_iff.1 hr
    rw [tabsL_mono (fun q => tablesP_mono k q) p.f12 _ o ho]
    exact hr
theorem plan_Tables.mono : ∀ y0 y1 y2 y3 y4 y5 y6 y7 y8 y9 y10 y11 y12 y13 y14 y15 y16 y17 k, LeO (plan_Tables.f k y0 y1 y2 y3 y4 y5 y6 y7 y8 y9 y10 y11 y12 y13 y14 y15 y16 y17) (plan_Tables.f (k + 1) y0 y1 y2 y3 y4 y5 y6 y7 y8 y9 y10 y11 y12 y13 y14 y15 y16 y17) := fun _ _ _ _ _ _ _ _ _ _ _ _ _ _ _ _ _ _ k => tablesP_mono k _
theorem plan_Tables.calls (k : Nat) (a0_0 : Int) (a0_1 : ByteArray) (a0_2 : Int) (a0_3 : Int) (a0_4 : ByteArray) (a0_5 : Int) (a0_6 : Int) (A0_7 : Option Addr) (c0_7 : Nat) (l0_7 : List (S24)) (A0_8 : Option Addr) (c0_8 : Nat) (l0_8 : List (S50)) (A0_9 : Option Addr) (c0_9 : Nat) (l0_9 : List Int) (A0_10 : Option Addr) (c0_10 : Nat) (l0_10 : List (S72)) (a0_11 : Int) (A0_12 : Option Addr) (c0_12 : Nat) (l0_12 : List Int) (A0_13 : Option Addr) (c0_13 : Nat) (l0_13 : List Int) (A0_14 : Option Addr) (c0_14 : Nat) (l0_14 : List (S52)) (a0_15 : Int) (a0_16 : Int) (A0_17 : Option Addr) (c0_17 : Nat) (l0_17 : List (S31)) (r : List ByteArray) (w : World) (hr0_7 : Kd.C k24 w A0_7 l0_7.length l0_7) (hc0_7 : l0_7.length ≤ c0_7) (hr0_8 : Kd.C k50 w A0_8 l0_8.length l0_8) (hc0_8 : l0_8.length ≤ c0_8) (hr0_9 : Kd.C (Kd.int .i64) w A0_9 l0_9.length l0_9) (hc0_9 : l0_9.length ≤ c0_9) (hr0_10 : Kd.C k72 w A0_10 l0_10.length l0_10) (hc0_10 : l0_10.length ≤ c0_10) (hr0_12 : Kd.C (Kd.int .i64) w A0_12 l0_12.length l0_12) (hc0_12 : l0_12.length ≤ c0_12) (hr0_13 : Kd.C (Kd.int .i64) w A0_13 l0_13.length l0_13) (hc0_13 : l0_13.length ≤ c0_13) (hr0_14 : Kd.C k52 w A0_14 l0_14.length l0_14) (hc0_14 : l0_14.length ≤ c0_14) (hr0_17 : Kd.C k31 w A0_17 l0_17.length l0_17) (hc0_17 : l0_17.length ≤ c0_17) (h : plan_Tables.f k a0_0 a0_1 a0_2 a0_3 a0_4 a0_5 a0_6 l0_7 l0_8 l0_9 l0_10 a0_11 l0_12 l0_13 l0_14 a0_15 a0_16 l0_17 = some r) :
    Calls Try.prog 15 #[.agg #[.int .i64 a0_0, .string a0_1, .int .i64 a0_2, .int .i64 a0_3, .string a0_4, .int .i64 a0_5, .int .i64 a0_6, .slice A0_7 l0_7.length c0_7, .slice A0_8 l0_8.length c0_8, .slice A0_9 l0_9.length c0_9, .slice A0_10 l0_10.length c0_10, .int .i64 a0_11, .slice A0_12 l0_12.length c0_12, .slice A0_13 l0_13.length c0_13, .slice A0_14 l0_14.length c0_14, .int .i64 a0_15, .int .i64 a0_16, .slice A0_17 l0_17.length c0_17]] w fun e w' => ∃ v0_ : Value, e = .returned (v0_) ∧ Kd.R Kd.string 9 w' w.heap.size (fun _ => True) v0_ r ∧ Below w.heap.size w w' :=
  plan_Tables.core k ⟨a0_0, a0_1, ⟨a0_2, a0_3, a0_4, a0_5, a0_6, l0_7⟩, l0_8, l0_9, l0_10, a0_11, l0_12, l0_13, l0_14, a0_15, a0_16, l0_17⟩ _ r w (k31_mk w ⟨a0_0, a0_1, ⟨a0_2, a0_3, a0_4, a0_5, a0_6, l0_7⟩, l0_8, l0_9, l0_10, a0_11, l0_12, l0_13, l0_14, a0_15, a0_16, l0_17⟩ hc0_7 hr0_7 hc0_8 hr0_8 hc0_9 hr0_9 hc0_10 hr0_10 hc0_12 hr0_12 hc0_13 hr0_13 hc0_14 hr0_14 hc0_17 hr0_17) h

end Go.Proofs.Ytomccmodlkdcbaa.Q
