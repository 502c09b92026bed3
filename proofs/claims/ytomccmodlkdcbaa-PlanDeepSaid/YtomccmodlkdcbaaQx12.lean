-- PRINTED by print.py (a twelfth state) out of the translation. Not trusted: Lean checks it.
import Derived.Test.YtomccmodlkdcbaaQx0
import Derived.Test.YtomccmodlkdcbaaQx2
import Derived.Test.YtomccmodlkdcbaaQx11
namespace Go.Proofs.Ytomccmodlkdcbaa.Q
open Go.RowKit Go.Proofs.YtomccmodlkdcbaaW.PrintWords Go.Proofs.YtomccmodlkdcbaaW.PrintLast Go.Proofs.YtomccmodlkdcbaaW.PrintMore
attribute [local go_sem] str_gtr str_geq str_leq max2_int min2_int max_two min_two max_three min_three max_four min_four   -- for this text's walks alone
set_option linter.unusedVariables false
set_option linter.unusedSimpArgs false

/-! ### plan_cols: function 22 -/
-- told by hand
def shapedP (k : Nat) (p : S31) : Option Bool := plan_shaped.f k p.f0 p.f1 p.f2.f0 p.f2.f1 p.f2.f2 p.f2.f3 p.f2.f4 p.f2.f5 p.f3 p.f4 p.f5 p.f6 p.f7 p.f8 p.f9 p.f10 p.f11 p.f12
def ownP (p : S31) (ks : List Int) (l1 : List S46) : Option Int := plan_own.f p.f0 p.f1 p.f2.f0 p.f2.f1 p.f2.f2 p.f2.f3 p.f2.f4 p.f2.f5 p.f3 p.f4 p.f5 p.f6 p.f7 p.f8 p.f9 p.f10 p.f11 p.f12 ks l1
/-- How many columns each kid has, up to the first that has none. -/
def kidsL (g : S31 → Option Int) : List S31 → List Int → Option (Option (List Int))
  | [], ks => some (some ks)
  | q :: qs, ks => (g q).bind fun n => if n = 0 then some none else kidsL g qs (ks ++ [n])
def colsP : Nat → S31 → List S46 → Int → Option Int
  | 0, _, _, _ => none
  | k + 1, p, l1, a2 => if p.f12.length ≤ 1000000 then (if a2 = 0 then some 0 else (shapedP k p).bind fun s => if s = true then (kidsL (fun q => colsP k q l1 (wrap64 (a2 - 1))) p.f12 []).bind (fun o => match o with | none => some 0 | some ks => ownP p ks l1) else some 0) else none
def plan_cols.f (k : Nat) (a0_0 : Int) (a0_1 : ByteArray) (a0_2 : Int) (a0_3 : Int) (a0_4 : ByteArray) (a0_5 : Int) (a0_6 : Int) (l0_7 : List S24) (l0_8 : List S50) (l0_9 : List Int) (l0_10 : List S72) (a0_11 : Int) (l0_12 : List Int) (l0_13 : List Int) (l0_14 : List S52) (a0_15 : Int) (a0_16 : Int) (l0_17 : List S31) (l1 : List S46) (a2 : Int) : Option Int := colsP k ⟨a0_0, a0_1, ⟨a0_2, a0_3, a0_4, a0_5, a0_6, l0_7⟩, l0_8, l0_9, l0_10, a0_11, l0_12, l0_13, l0_14, a0_15, a0_16, l0_17⟩ l1 a2
theorem shaped_at (k : Nat) (p : S31) (cs : List Value) (s : Bool) (w : World) (hK : k31.K w p cs) (h : shapedP k p = some s) : Calls Try.prog 34 #[.agg cs.toArray] w fun e w' => e = .returned (.bool s) ∧ Below w.heap.size w w' := by
  obtain ⟨A7, c7, A8, c8, A9, c9, A10, c10, A12, c12, A13, c13, A14, c14, A17, c17, e_, l7, g7, l8, g8, l9, g9, l10, g10, l12, g12, l13, g13, l14, g14, l17, g17⟩ := k31_open hK
  subst e_
  exact plan_shaped.calls k p.f0 p.f1 p.f2.f0 p.f2.f1 p.f2.f2 p.f2.f3 p.f2.f4 _ _ p.f2.f5 _ _ p.f3 _ _ p.f4 _ _ p.f5 p.f6 _ _ p.f7 _ _ p.f8 _ _ p.f9 p.f10 p.f11 _ _ p.f12 s w g7 l7 g8 l8 g9 l9 g10 l10 g12 l12 g13 l13 g14 l14 g17 l17 h
theorem own_at (p : S31) (cs : List Value) (ks : List Int) (Ak : Option Addr) (ck : Nat) (A1 : Option Addr) (c1 : Nat) (l1 : List S46) (r : Int) (w : World) (hK : k31.K w p cs) (hk : Kd.C (Kd.int .i64) w Ak ks.length ks) (hc : ks.length ≤ ck) (hr1 : Kd.C k46 w A1 l1.length l1) (hc1 : l1.length ≤ c1) (h : ownP p ks l1 = some r) : Calls Try.prog 35 #[.agg cs.toArray, .slice Ak ks.length ck, .slice A1 l1.length c1] w fun e w' => e = .returned (.int .i64 r) ∧ Below w.heap.size w w' := by
  obtain ⟨A7, c7, A8, c8, A9, c9, A10, c10, A12, c12, A13, c13, A14, c14, A17, c17, e_, l7, g7, l8, g8, l9, g9, l10, g10, l12, g12, l13, g13, l14, g14, l17, g17⟩ := k31_open hK
  subst e_
  exact plan_own.calls p.f0 p.f1 p.f2.f0 p.f2.f1 p.f2.f2 p.f2.f3 p.f2.f4 _ _ p.f2.f5 _ _ p.f3 _ _ p.f4 _ _ p.f5 p.f6 _ _ p.f7 _ _ p.f8 _ _ p.f9 p.f10 p.f11 _ _ p.f12 _ _ ks _ _ l1 r w g7 l7 g8 l8 g9 l9 g10 l10 g12 l12 g13 l13 g14 l14 g17 l17 hk hc hr1 hc1 h
theorem kids_at (p : S31) (cs : List Value) (w : World) (hK : k31.K w p cs) : ∃ A c, cs[17]? = some (.slice A p.f12.length c) ∧ p.f12.length ≤ c ∧ Kd.C k31 w A p.f12.length p.f12 := by
  obtain ⟨A7, c7, A8, c8, A9, c9, A10, c10, A12, c12, A13, c13, A14, c14, A17, c17, e_, l7, g7, l8, g8, l9, g9, l10, g10, l12, g12, l13, g13, l14, g14, l17, g17⟩ := k31_open hK
  subst e_
  exact ⟨_, _, rfl, l17, g17⟩
theorem kid_get (w : World) (A : Option Addr) (n : Nat) (xs : List S31) (h : Kd.C k31 w A n xs) (i : Nat) (hi : i < n) : ∃ ad c, A = some ad ∧ c.length = 18 ∧ k31.K w (xs.getD i z31) c ∧ ∀ j v, c[j]? = some v → w.cell? ((ad.add (i * 18)).add j) = some v := by
  obtain ⟨ad, c, e, hl, hK, hc0⟩ := Kd.C_get h z31 (i : Int) (by omega) (by omega)
  replace hK : k31.K w (xs.getD ((i : Int)).toNat z31) c := hK
  rw [show ((i : Int)).toNat = i by omega] at hK hc0
  exact ⟨ad, c, e, hl, hK, fun j v hj => by rw [addr_add]; exact hc0 j v hj⟩
set_option maxHeartbeats 8000000 in
set_option maxRecDepth 1000000 in
theorem plan_cols.core (k : Nat) : ∀ (p : S31) (cs : List Value) (A1 : Option Addr) (c1 : Nat) (l1 : List S46) (a2 r : Int) (w : World), k31.K w p cs → Kd.C k46 w A1 l1.length l1 → l1.length ≤ c1 → colsP k p l1 a2 = some r →
    Calls Try.prog 22 #[.agg cs.toArray, .slice A1 l1.length c1, .int .i64 a2] w fun e w' => e = .returned (.int .i64 r) ∧ Below w.heap.size w w' := by
  have hagg : ∀ W, (isAgg 31).run Try.prog W = .ok true W := fun W => by first | exact Try.isAgg31 | exact Try.isAgg31 W | go_simp
  have hsz18 : ∀ W, (sizeOf 31).run Try.prog W = .ok 18 W := fun W => by first | exact Try.sizeOf31 | exact Try.sizeOf31 W | go_simp
  have HAGG := Aside0.mk hagg
  have HSZ := Aside0.mk hsz18
  clear hagg hsz18
  induction k with
  | zero => intro p cs A1 c1 l1 a2 r w _ _ _ h; cases h
  | succ k ih =>
  intro p cs A1 c1 l1 a2 r w hK hr1 hc1 h
  have hu31 := Try.underlying31
  unfold colsP at h
  by_cases hn : p.f12.length ≤ 1000000
  case neg => rw [if_neg hn] at h; cases h
  rw [if_pos hn] at h
  obtain ⟨A17, c17, hcs17, hlc17, hk17⟩ := kids_at p cs w hK
  have hlen : cs.length = 18 := k31.K_len hK
  have HL18 := Aside0.mk hlen
  have HK := Aside0.mk hK
  have HR1 := Aside0.mk hr1
  have HC1 := Aside0.mk hc1
  have HK17 := Aside0.mk hk17
  have HN := Aside0.mk hn
  have IH := Aside0.mk ih
  have H17 := Aside0.mk hcs17
  clear hK hr1 hc1 hk17 hn hlc17 ih hcs17 hlen
  have hBX : ∀ (k_ : Nat) (x_ : World), True := fun _ _ => trivial
  clear hBX
  by_cases h0 : a2 = 0
  · rw [if_pos h0] at h
    obtain rfl := Option.some.inj h
    subst h0
    clear h
    go_enter Try.func22, Try.ntmps22
    go_wp2_with (first
      | ((with_reducible refine gate_dst (N := 3) rfl ?_); refine box_all rfl rfl (cs := cs.toArray) rfl (fun W => by rw [List.size_toArray, HL18.out]; exact HSZ.out W) ?_; intro w1 hbx hbw; have BW := Aside0.mk hbw; clear hbx hbw))
    go_ret
    exact ⟨rfl, BW.out⟩
  rw [if_neg h0] at h
  have hb0 : (a2 == 0) = false := beq_eq_false_iff_ne.mpr h0
  have hb1 : (a2 != 0) = true := bne_iff_ne.mpr h0
  obtain ⟨s, hs, h⟩ := Option.bind_eq_some_iff.1 h
  have hS := fun W (hb : Below w.heap.size w W) => shaped_at k p cs s W (k31.K_below hb HK.out) hs
  have HS := Aside0.mk hS
  clear hs hS
  cases s with
  | false =>
    obtain rfl := Option.some.inj h
    clear h
    go_enter Try.func22, Try.ntmps22
    go_wp2_with (first
      | ((with_reducible refine gate_dst (N := 3) rfl ?_); refine box_all rfl rfl (cs := cs.toArray) rfl (fun W => by rw [List.size_toArray, HL18.out]; exact HSZ.out W) ?_; intro w1 hbx hbw; have BW := Aside0.mk hbw; have BX := Aside0.mk hbx; clear hbx hbw)
      | ((with_reducible refine gate_dst (N := 14) rfl ?_); (try (refine gate_guard (by rfl) ?_; dsimp only)); refine load_all rfl rfl (cs := cs) rfl HAGG.out (fun W => by rw [HL18.out]; exact HSZ.out W) (blk_cells BX.out) ?_)
      | (go_at_call 34; refine (HS.out _ BW.out).mono ?_; rintro e w' ⟨rfl, hb'⟩; have HB1 := Aside0.mk (below_step BW.out hb'); clear hb'))
    go_ret
    exact ⟨rfl, HB1.out⟩
  | true =>
    rw [if_pos rfl] at h
    obtain ⟨o, ho, h⟩ := Option.bind_eq_some_iff.1 h
    have HO := Aside0.mk ho
    have H := Aside0.mk h
    clear ho h
    go_enter Try.func22, Try.ntmps22
    go_wp2_with (first
      | ((with_reducible refine gate_dst (N := 3) rfl ?_); refine box_all rfl rfl (cs := cs.toArray) rfl (fun W => by rw [List.size_toArray, HL18.out]; exact HSZ.out W) ?_; intro w1 hbx hbw; have BW := Aside0.mk hbw; have BX := Aside0.mk hbx; clear hbx hbw)
      | ((with_reducible refine gate_dst (N := 14) rfl ?_); (try (refine gate_guard (by rfl) ?_; dsimp only)); refine load_all rfl rfl (cs := cs) rfl HAGG.out (fun W => by rw [HL18.out]; exact HSZ.out W) (blk_cells BX.out) ?_)
      | (go_at_call 34; refine (HS.out _ BW.out).mono ?_; rintro e w' ⟨rfl, hb'⟩; have HB1 := Aside0.mk (below_step BW.out hb'); have BX1 := Aside0.mk ((hb'.block w.heap.size (World.block_lt_of_cell? w1 ⟨w.heap.size, 17, none⟩ (blk_cells BX.out 17 _ H17.out))).trans BX.out); clear hb' BW BX; have hcv17 : w'.cell? ⟨w.heap.size, 17, none⟩ = some (.slice A17 p.f12.length c17) := blk_cells BX1.out 17 _ H17.out))
    clear hcv17 HS
    go_loopg [7, 21] p.f12.length (fun gg s7 s21 wr => ∃ (i : Nat) (ks : List Int) (vv : Value), vv = s7 ∧ s21 = .int .i64 i ∧ i ≤ p.f12.length ∧ p.f12.length - i ≤ gg ∧ Aside0 (ks.length = i) ∧ Aside0 (kidsL (fun q => colsP k q l1 (wrap64 (a2 - 1))) (p.f12.drop i) ks = some o) ∧ Aside0 (Kd.R (Kd.int .i64) 3 wr w.heap.size (fun _ => True) s7 ks) ∧ Aside0 (Below w.heap.size w wr) ∧ Aside0 (wr.heap[w.heap.size]? = some (.cells cs.toArray 31 (0, 0))))
    case atStart => exact ⟨0, [], _, rfl, rfl, Nat.zero_le _, by omega, ⟨rfl⟩, HO, ⟨Kd.R_nil _ _ _ _ _⟩, HB1, BX1⟩
    case round =>
      clear HB1 BX1 HO
      obtain ⟨i, ks, vv, rfl, rfl, hin, hg0, HL, HKS, HO7, HB, BX⟩ := hrel
      by_cases hlt : i < p.f12.length
      · have hltz : (i : Int) < (p.f12.length : Int) := by omega
        have hi0 : (0 : Int) ≤ (i : Int) := by omega
        obtain ⟨ad, c, e17, hcl, hKu, hcell⟩ := kid_get w A17 _ p.f12 HK17.out i hlt
        subst e17
        have hdrop : p.f12.drop i = p.f12.getD i z31 :: p.f12.drop (i + 1) := by
          rw [List.drop_eq_getElem_cons hlt, List.getD_eq_getElem?_getD, List.getElem?_eq_getElem hlt]; rfl
        have hks := HKS.out
        rw [hdrop] at hks
        simp only [kidsL] at hks
        obtain ⟨m, hm, hks⟩ := Option.bind_eq_some_iff.1 hks
        have hC := fun W (hb : Below w.heap.size w W) => IH.out (p.f12.getD i z31) c A1 c1 l1 (wrap64 (a2 - 1)) m W (k31.K_below hb hKu) (Kd.C_below HR1.out hb) HC1.out hm
        have HCALL := Aside0.mk hC
        have HON := Aside0.mk (k31.K_one hKu)
        have HKS2 := Aside0.mk hks
        have HCL := Aside0.mk hcl
        have HCELL := Aside0.mk (show ∀ j v, c[j]? = some v → wr.cell? ((ad.add (i * 18)).add j) = some v from fun j v hj => (HB.out.cell (World.block_lt_of_cell? w _ (hcell j v hj))).trans (hcell j v hj))
        clear hKu hm hks hdrop HKS hC hcl hcell
        by_cases hz : m = 0
        · subst hz
          have ho := HKS2.out
          rw [if_pos rfl] at ho
          obtain rfl := Option.some.inj ho
          have hr := H.out
          obtain rfl := Option.some.inj hr
          clear ho hr HKS2
          go_wp2_with (first
            | ((with_reducible refine gate_dst (N := 24) rfl ?_); refine load_all rfl rfl (cs := c) rfl HAGG.out (fun W => by rw [HCL.out]; exact HSZ.out W) HCELL.out ?_)
            | ((with_reducible refine gate_store (t := 31) (p := 9) rfl ?_); refine store_all (g := wr.heap.size) (cs := c.toArray) (t' := 31) rfl rfl rfl rfl rfl (fun W => by rw [List.size_toArray, HCL.out]; exact HSZ.out W) (heap_alloc_new wr _) (by rw [List.size_toArray, HCL.out]; rfl) (fun u hu => HON.out u (by simpa using hu)) ?_; intro w3 hbx hoth hs3 hos htp hou; have B3 := Aside0.mk (show Below wr.heap.size wr w3 from ⟨hos, htp, hou, by rw [hs3]; simp, fun k_ hk_ => (hoth k_ (by omega)).trans (((Below.refl _ wr).alloc (Nat.le_refl _) _).block k_ hk_)⟩); have BX3 := Aside0.mk hbx; clear hbx hoth hs3 hos htp hou)
            | ((with_reducible refine gate_dst (N := 25) rfl ?_); refine load_all rfl rfl (cs := c) rfl HAGG.out (fun W => by rw [HCL.out]; exact HSZ.out W) (blk_cells BX3.out) ?_)
            | (go_at_call 22; refine (HCALL.out _ (below_step HB.out B3.out)).mono ?_; rintro e w4 ⟨rfl, hb4⟩; have B4 := Aside0.mk (below_step (below_step HB.out B3.out) hb4); clear hb4))
          go_ret
          exact ⟨rfl, B4.out⟩
        · have hks := HKS2.out
          rw [if_neg hz] at hks
          have HKS3 := Aside0.mk hks
          have hz0 : (m == 0) = false := beq_eq_false_iff_ne.mpr hz
          have hz1 : (m != 0) = true := bne_iff_ne.mpr hz
          clear hks HKS2
          go_wp2_with (first
            | ((with_reducible refine gate_dst (N := 24) rfl ?_); refine load_all rfl rfl (cs := c) rfl HAGG.out (fun W => by rw [HCL.out]; exact HSZ.out W) HCELL.out ?_)
            | ((with_reducible refine gate_store (t := 31) (p := 9) rfl ?_); refine store_all (g := wr.heap.size) (cs := c.toArray) (t' := 31) rfl rfl rfl rfl rfl (fun W => by rw [List.size_toArray, HCL.out]; exact HSZ.out W) (heap_alloc_new wr _) (by rw [List.size_toArray, HCL.out]; rfl) (fun u hu => HON.out u (by simpa using hu)) ?_; intro w3 hbx hoth hs3 hos htp hou; have B3 := Aside0.mk (show Below wr.heap.size wr w3 from ⟨hos, htp, hou, by rw [hs3]; simp, fun k_ hk_ => (hoth k_ (by omega)).trans (((Below.refl _ wr).alloc (Nat.le_refl _) _).block k_ hk_)⟩); have BX3 := Aside0.mk hbx; clear hbx hoth hs3 hos htp hou)
            | ((with_reducible refine gate_dst (N := 25) rfl ?_); refine load_all rfl rfl (cs := c) rfl HAGG.out (fun W => by rw [HCL.out]; exact HSZ.out W) (blk_cells BX3.out) ?_)
            | (go_at_call 22; refine (HCALL.out _ (below_step HB.out B3.out)).mono ?_; rintro e w4 ⟨rfl, hb4⟩; have BW4 := Aside0.mk (below_step B3.out hb4); have HB4 := Aside0.mk (below_step HB.out BW4.out); have HO4 := Aside0.mk (Kd.R_below HO7.out BW4.out); have BX4 := Aside0.mk ((BW4.out.block w.heap.size (Array.getElem?_eq_some_iff.1 BX.out).1).trans BX.out); clear hb4 B3 BX3)
            | ((with_reducible refine gate_builtin (b := .append) (xs := #[.tmp 32, .tmp 34]) rfl ?_); at_builtin; refine Kd.R_append (Kd.int .i64) (w0 := w) w.heap.size rfl (.tmp 32) (.tmp 34) 26 3 (.int .i64 0) 8 rfl Try.underlying26 info3 rfl (by decide) (by omega) vv ks m [.int .i64 m] (fun _ => True) (fun _ => False) rfl rfl ?aP (fun _ hk => hk.elim) ?aF ?aO ?aB ?aS ?aL ?_; (case aP => exact rfl); (case aB => exact HB4.out); (case aF => exact (fun _ _ => trivial)); (case aO => exact HO4.out); (case aS => exact below_size HB4.out); (case aL => have := HL.out; have := HN.out; omega); intro v150 w26 ho hb hg hat; have HO5 := Aside0.mk ho; have HB5 := Aside0.mk hb; have BX5 := Aside0.mk (blk_grown (g := w.heap.size) (o := .cells cs.toArray 31 (0, 0)) (by (with_reducible repeat (first | refine blk_drewN ?_ _ | refine blk_drew ?_ | refine blk_alloc ?_ _)); exact BX4.out) hg (Kd.R_ne HO4.out BX4.out (by decide))); clear ho hb hg hat))
          go_roundg (p.f12.length - (i + 1))
          case measure => omega
          case rel => have hN := HN.out; exact ⟨i + 1, ks ++ [m], _, rfl, by first | go_num | (congr 1; unfold wrap64; omega), by omega, by omega, ⟨by rw [List.length_append, HL.out]; rfl⟩, HKS3, HO5, HB5, BX5⟩
      · have hltz : ¬ (i : Int) < (p.f12.length : Int) := by omega
        have hks := HKS.out
        rw [List.drop_of_length_le (by omega)] at hks
        obtain rfl := Option.some.inj hks
        have hown := H.out
        obtain ⟨A7, c7, rfl, hl7, hC7⟩ := Kd.R_reads HO7.out
        have hO := own_at p cs ks A7 c7 A1 c1 l1 r wr (k31.K_below HB.out HK.out) hC7 hl7 (Kd.C_below HR1.out HB.out) HC1.out hown
        have HOW := Aside0.mk hO
        clear hks hown hl7 hC7 hO
        go_wp2_with (first
          | ((with_reducible refine gate_dst (N := 37) rfl ?_); refine load_all rfl rfl (cs := cs) rfl HAGG.out (fun W => by rw [HL18.out]; exact HSZ.out W) (blk_cells BX.out) ?_)
          | (go_at_call 35; refine HOW.out.mono ?_; rintro e w' ⟨rfl, hb'⟩; have HB9 := Aside0.mk (below_step HB.out hb'); clear hb'))
        go_ret
        exact ⟨rfl, HB9.out⟩
theorem kidsL_mono {g g' : S31 → Option Int} (h : ∀ q, LeO (g q) (g' q)) : ∀ (l : List S31) (ks : List Int), LeO (kidsL g l ks) (kidsL g' l ks)
  | [], ks => fun _ hr => hr
  | q :: qs, ks => fun r hr => by
    simp only [kidsL] at hr ⊢
    obtain ⟨n, hn, hr⟩ := Option.bind_eq_some_iff.1 hr
    rw [h q n hn]
    simp only [Option.bind_some]
    by_cases hz : n = 0
    · rw [if_pos hz] at hr ⊢; exact hr
    · rw [if_neg hz] at hr ⊢; exact kidsL_mono h qs _ r hr
theorem colsP_mono : ∀ k p l1 a2, LeO (colsP k p l1 a2) (colsP (k + 1) p l1 a2)
  | 0, p, l1, a2 => fun r hr => by cases hr
  | k + 1, p, l1, a2 => fun r hr => by
    unfold colsP at hr ⊢
    by_cases hn : p.f12.length ≤ 1000000
    case neg => rw [if_neg hn] at hr; cases hr
    rw [if_pos hn] at hr ⊢
    by_cases h0 : a2 = 0
    · rw [if_pos h0] at hr ⊢; exact hr
    rw [if_neg h0] at hr ⊢
    obtain ⟨s, hs, hr⟩ := Option.bind_eq_some_iff.1 hr
    rw [show shapedP (k + 1) p = some s from plan_shaped.mono _ _ _ _ _ _ _ _ _ _ _ _ _ _ _ _ _ _ k s hs]
    simp only [Option.bind_some]
    by_cases hz : s = true
    · rw [if_pos hz] at hr ⊢
      obtain ⟨o, ho, hr⟩ := Option.bind_eq_some_iff.1 hr
      rw [kidsL_mono (fun q => colsP_mono k q l1 (wrap64 (a2 - 1))) p.f12 [] o ho]
      exact hr
    · rw [if_neg hz] at hr ⊢; exact hr
theorem plan_cols.mono : ∀ y0 y1 y2 y3 y4 y5 y6 y7 y8 y9 y10 y11 y12 y13 y14 y15 y16 y17 y18 y19 k, LeO (plan_cols.f k y0 y1 y2 y3 y4 y5 y6 y7 y8 y9 y10 y11 y12 y13 y14 y15 y16 y17 y18 y19) (plan_cols.f (k + 1) y0 y1 y2 y3 y4 y5 y6 y7 y8 y9 y10 y11 y12 y13 y14 y15 y16 y17 y18 y19) := fun _ _ _ _ _ _ _ _ _ _ _ _ _ _ _ _ _ _ _ _ k => colsP_mono k _ _ _
theorem plan_cols.calls (k : Nat) (a0_0 : Int) (a0_1 : ByteArray) (a0_2 : Int) (a0_3 : Int) (a0_4 : ByteArray) (a0_5 : Int) (a0_6 : Int) (A0_7 : Option Addr) (c0_7 : Nat) (l0_7 : List (S24)) (A0_8 : Option Addr) (c0_8 : Nat) (l0_8 : List (S50)) (A0_9 : Option Addr) (c0_9 : Nat) (l0_9 : List Int) (A0_10 : Option Addr) (c0_10 : Nat) (l0_10 : List (S72)) (a0_11 : Int) (A0_12 : Option Addr) (c0_12 : Nat) (l0_12 : List Int) (A0_13 : Option Addr) (c0_13 : Nat) (l0_13 : List Int) (A0_14 : Option Addr) (c0_14 : Nat) (l0_14 : List (S52)) (a0_15 : Int) (a0_16 : Int) (A0_17 : Option Addr) (c0_17 : Nat) (l0_17 : List (S31)) (A1 : Option Addr) (c1 : Nat) (l1 : List (S46)) (a2 : Int) (r : Int) (w : World) (hr0_7 : Kd.C k24 w A0_7 l0_7.length l0_7) (hc0_7 : l0_7.length ≤ c0_7) (hr0_8 : Kd.C k50 w A0_8 l0_8.length l0_8) (hc0_8 : l0_8.length ≤ c0_8) (hr0_9 : Kd.C (Kd.int .i64) w A0_9 l0_9.length l0_9) (hc0_9 : l0_9.length ≤ c0_9) (hr0_10 : Kd.C k72 w A0_10 l0_10.length l0_10) (hc0_10 : l0_10.length ≤ c0_10) (hr0_12 : Kd.C (Kd.int .i64) w A0_12 l0_12.length l0_12) (hc0_12 : l0_12.length ≤ c0_12) (hr0_13 : Kd.C (Kd.int .i64) w A0_13 l0_13.length l0_13) (hc0_13 : l0_13.length ≤ c0_13) (hr0_14 : Kd.C k52 w A0_14 l0_14.length l0_14) (hc0_14 : l0_14.length ≤ c0_14) (hr0_17 : Kd.C k31 w A0_17 l0_17.length l0_17) (hc0_17 : l0_17.length ≤ c0_17) (hr1 : Kd.C k46 w A1 l1.length l1) (hc1 : l1.length ≤ c1) (h : plan_cols.f k a0_0 a0_1 a0_2 a0_3 a0_4 a0_5 a0_6 l0_7 l0_8 l0_9 l0_10 a0_11 l0_12 l0_13 l0_14 a0_15 a0_16 l0_17 l1 a2 = some r) :
    Calls Try.prog 22 #[.agg #[.int .i64 a0_0, .string a0_1, .int .i64 a0_2, .int .i64 a0_3, .string a0_4, .int .i64 a0_5, .int .i64 a0_6, .slice A0_7 l0_7.length c0_7, .slice A0_8 l0_8.length c0_8, .slice A0_9 l0_9.length c0_9, .slice A0_10 l0_10.length c0_10, .int .i64 a0_11, .slice A0_12 l0_12.length c0_12, .slice A0_13 l0_13.length c0_13, .slice A0_14 l0_14.length c0_14, .int .i64 a0_15, .int .i64 a0_16, .slice A0_17 l0_17.length c0_17], .slice A1 l1.length c1, .int .i64 a2] w fun e w' => e = .returned (.int .i64 r) ∧ Below w.heap.size w w' :=
  plan_cols.core k ⟨a0_0, a0_1, ⟨a0_2, a0_3, a0_4, a0_5, a0_6, l0_7⟩, l0_8, l0_9, l0_10, a0_11, l0_12, l0_13, l0_14, a0_15, a0_16, l0_17⟩ _ A1 c1 l1 a2 r w (k31_mk w ⟨a0_0, a0_1, ⟨a0_2, a0_3, a0_4, a0_5, a0_6, l0_7⟩, l0_8, l0_9, l0_10, a0_11, l0_12, l0_13, l0_14, a0_15, a0_16, l0_17⟩ hc0_7 hr0_7 hc0_8 hr0_8 hc0_9 hr0_9 hc0_10 hr0_10 hc0_12 hr0_12 hc0_13 hr0_13 hc0_14 hr0_14 hc0_17 hr0_17) hr1 hc1 h

end Go.Proofs.Ytomccmodlkdcbaa.Q
