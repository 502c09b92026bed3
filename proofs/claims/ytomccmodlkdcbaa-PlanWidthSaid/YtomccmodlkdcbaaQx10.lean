-- PRINTED by print.py (a twelfth state) out of the translation. Not trusted: Lean checks it.
import Derived.Test.YtomccmodlkdcbaaQx0
namespace Go.Proofs.Ytomccmodlkdcbaa.Q
open Go.RowKit Go.Proofs.YtomccmodlkdcbaaW.PrintWords Go.Proofs.YtomccmodlkdcbaaW.PrintLast Go.Proofs.YtomccmodlkdcbaaW.PrintMore
attribute [local go_sem] str_gtr str_geq str_leq max2_int min2_int max_two min_two max_three min_three max_four min_four
set_option linter.unusedVariables false
set_option maxHeartbeats 8000000
set_option maxRecDepth 1000000
set_option linter.unusedSimpArgs false

/-! ### hopperref25_Size: function 19 -/
-- told by hand
theorem kids_atS (p : S31) (cs : List Value) (w : World) (hK : k31.K w p cs) : ∃ A c, cs[17]? = some (.slice A p.f12.length c) ∧ cs[0]? = some (.int .i64 p.f0) ∧ cs[1]? = some (.string p.f1) ∧ Kd.C k31 w A p.f12.length p.f12 := by
 obtain ⟨A7, c7, A8, c8, A9, c9, A10, c10, A12, c12, A13, c13, A14, c14, A17, c17, e_, l7, g7, l8, g8, l9, g9, l10, g10, l12, g12, l13, g13, l14, g14, l17, g17⟩ := k31_open hK
 subst e_; exact ⟨_, _, rfl, rfl, rfl, g17⟩
theorem kid_getS (w : World) (A : Option Addr) (n : Nat) (xs : List S31) (h : Kd.C k31 w A n xs) (i : Nat) (hi : i < n) : ∃ ad c, A = some ad ∧ c.length = 18 ∧ k31.K w (xs.getD i z31) c ∧ ∀ j v, c[j]? = some v → w.cell? ((ad.add (i * 18)).add j) = some v := by
 obtain ⟨ad, c, e, hl, hK, hc0⟩ := Kd.C_get h z31 (i : Int) (by omega) (by omega)
 replace hK : k31.K w (xs.getD ((i : Int)).toNat z31) c := hK
 rw [show ((i : Int)).toNat = i by omega] at hK hc0
 exact ⟨ad, c, e, hl, hK, fun j v hj => by rw [addr_add]; exact hc0 j v hj⟩
theorem drop_getS (l : List S31) (i : Nat) (h : i < l.length) : l.drop i = l.getD i z31 :: l.drop (i + 1) := by
 rw [List.drop_eq_getElem_cons h, List.getD_eq_getElem?_getD, List.getElem?_eq_getElem h]; rfl
/-- A whole plan's load out of its box. -/
theorem load_run31 {W : World} {a : Act} {p : Tmp} {o : Oper} (ho : o.op = .load 31 (.tmp p)) {g : Nat} {cs : List Value} (hp : a.eval (.tmp p) = .pointer (some ⟨g, 0, none⟩)) (hl : cs.length = 18) (hb : W.heap[g]? = some (.cells cs.toArray 31 (0, 0))) : (execOp a.eval o).run Try.prog W = .ok (.value (.agg cs.toArray)) W := by
 have hagg : ∀ W, (isAgg 31).run Try.prog W = .ok true W := fun W => by first | exact Try.isAgg31 | exact Try.isAgg31 W | go_simp
 have hsz : ∀ W, (sizeOf 31).run Try.prog W = .ok cs.length W := fun W => by rw [hl]; first | exact Try.sizeOf31 | exact Try.sizeOf31 W | go_simp
 have h0 := loadFrom_list Try.prog W ⟨g, 0, none⟩ cs cs.length rfl (blk_cells hb)
 unfold execOp
 rw [ho]
 simp only [hp]
 simp [Instr.loadAt, loadVar, hagg, hsz, Instr.sureAddr, loadCells, h0]
/-- The kids' sizes, added up, till there are too many. -/
def sizeL (g : S31 → Int → Option Int) (most : Int) : List S31 → Int → Option Int
 | [], n => some n
 | q :: qs, n => if n ≤ most then (g q (wrap64 (most - n))).bind fun t => sizeL g most qs (wrap64 (n + t)) else some n
def sizeP : Nat → S31 → Int → Option Int
 | 0, _, _ => none
 | k + 1, p, most => sizeL (fun q m => sizeP k q m) most p.f12 1
def hopperref25_Size.f (k : Nat) (a0_0 : Int) (a0_1 : ByteArray) (a0_2 : Int) (a0_3 : Int) (a0_4 : ByteArray) (a0_5 : Int) (a0_6 : Int) (l0_7 : List S24) (l0_8 : List S50) (l0_9 : List Int) (l0_10 : List S72) (a0_11 : Int) (l0_12 : List Int) (l0_13 : List Int) (l0_14 : List S52) (a0_15 : Int) (a0_16 : Int) (l0_17 : List S31) (a1 : Int) : Option Int := sizeP k ⟨a0_0, a0_1, ⟨a0_2, a0_3, a0_4, a0_5, a0_6, l0_7⟩, l0_8, l0_9, l0_10, a0_11, l0_12, l0_13, l0_14, a0_15, a0_16, l0_17⟩ a1
theorem hopperref25_Size.core (k : Nat) : ∀ (p : S31) (cs : List Value) (most : Int) (r : Int) (w : World), k31.K w p cs → sizeP k p most = some r →
  Calls Try.prog 19 #[.agg cs.toArray, .int .i64 most] w fun e w' => e = .returned (.int .i64 r) ∧ Below w.heap.size w w' := by
 have hagg : ∀ W, (isAgg 31).run Try.prog W = .ok true W := fun W => by first | exact Try.isAgg31 | exact Try.isAgg31 W | go_simp
 have hsz18 : ∀ W, (sizeOf 31).run Try.prog W = .ok 18 W := fun W => by first | exact Try.sizeOf31 | exact Try.sizeOf31 W | go_simp
 have HAGG := Aside0.mk hagg; have HSZ := Aside0.mk hsz18; clear hagg hsz18
 induction k with
 | zero => intro p cs most r w _ h; cases h
 | succ k ih =>
 intro p cs most r w hK h
 have hu31 := Try.underlying31; unfold sizeP at h
 obtain ⟨A17, c17, hcs17, _, _, hk17⟩ := kids_atS p cs w hK
 have hn : p.f12.length ≤ 9223372036854775807 := hk17.2.1; have HL18 := Aside0.mk (show cs.length = 18 from k31.K_len hK)
 have HK17 := Aside0.mk hk17; have HN := Aside0.mk hn; have IH := Aside0.mk ih; have H17 := Aside0.mk hcs17; have HS := Aside0.mk h; clear hK hk17 hn ih hcs17 h; go_enter Try.func19, Try.ntmps19
 go_upto_if 11 with (first
  | ((with_reducible refine gate_dst (N := 2) rfl ?_); refine box_all rfl rfl (cs := cs.toArray) rfl (fun W => by rw [List.size_toArray, HL18.out]; exact HSZ.out W) ?_; intro w1 hbx hbw; have BW1 := Aside0.mk hbw; have BX1 := Aside0.mk hbx; clear hbx hbw))
 go_loopg [5, 6] p.f12.length (fun gg s5 s6 wr => ∃ (i : Nat) (n : Int), s5 = .int .i64 n ∧ s6 = .int .i64 i ∧ i ≤ p.f12.length ∧ p.f12.length - i ≤ gg ∧ Aside0 (sizeL (fun q m => sizeP k q m) most (p.f12.drop i) n = some r) ∧ Aside0 (Below w.heap.size w wr) ∧ Aside0 (wr.heap[w.heap.size]? = some (.cells cs.toArray 31 (0, 0))))
 case atStart => exact ⟨0, 1, rfl, rfl, Nat.zero_le _, by omega, HS, BW1, BX1⟩
 case round =>
  clear HS BW1 BX1; obtain ⟨i, n, rfl, rfl, hin, hg0, HTS, HB, BX⟩ := hrel; have hcv17 : wr.cell? ⟨w.heap.size, 17, none⟩ = some (.slice A17 p.f12.length c17) := blk_cells BX.out 17 _ H17.out; by_cases hlt : i < p.f12.length
  ·have hltz : (i : Int) < (p.f12.length : Int) := by omega
   have hi0 : (0 : Int) ≤ (i : Int) := by omega
   have hks := HTS.out; rw [drop_getS p.f12 i hlt] at hks
   simp only [sizeL] at hks
   by_cases hnm : n ≤ most
   ·rw [if_pos hnm] at hks; obtain ⟨t, ht, hks⟩ := Option.bind_eq_some_iff.1 hks
    obtain ⟨ad, c, e17, hcl, hKu, hcell⟩ := kid_getS w A17 _ p.f12 HK17.out i hlt
    subst e17; have HCALL := Aside0.mk (fun W (hb : Below w.heap.size w W) => IH.out (p.f12.getD i z31) c _ t W (k31.K_below hb hKu) ht)
    have HTS2 := Aside0.mk hks; have HCL := Aside0.mk hcl; have HCELL := Aside0.mk (show ∀ j v, c[j]? = some v → wr.cell? ((ad.add (i * 18)).add j) = some v from fun j v hj => (HB.out.cell (World.block_lt_of_cell? w _ (hcell j v hj))).trans (hcell j v hj))
    clear hKu ht hks HTS hcl hcell
    go_wp2_with (first
     | ((with_reducible refine gate_dst (N := 24) rfl ?_); (try (refine gate_guard (by rfl) ?_; dsimp only)); refine load_all rfl rfl (cs := c) rfl HAGG.out (fun W => by rw [HCL.out]; exact HSZ.out W) HCELL.out ?_)
     | (go_at_call 19; refine (HCALL.out _ HB.out).mono ?_; rintro e w4 ⟨rfl, hb4⟩; have HB4 := Aside0.mk (below_step HB.out hb4); have BX4 := Aside0.mk ((hb4.block w.heap.size (Array.getElem?_eq_some_iff.1 BX.out).1).trans BX.out); clear hb4))
    go_roundg (p.f12.length - (i + 1))
    case measure => omega
    case rel => have hN := HN.out; exact ⟨i + 1, _, rfl, by first | go_num | (congr 1; unfold wrap64; omega), by omega, by omega, HTS2, HB4, BX4⟩
   ·rw [if_neg hnm] at hks; obtain rfl := Option.some.inj hks
    clear hks HTS; go_wp2
    go_ret
    exact ⟨rfl, HB.out⟩
  ·have hltz : ¬ (i : Int) < (p.f12.length : Int) := by omega
   have hks := HTS.out; rw [List.drop_of_length_le (by omega)] at hks
   simp only [sizeL] at hks
   obtain rfl := Option.some.inj hks
   clear hks HTS; go_wp2
   go_ret
   exact ⟨rfl, HB.out⟩
theorem hopperref25_Size.calls (k : Nat) (a0_0 : Int) (a0_1 : ByteArray) (a0_2 : Int) (a0_3 : Int) (a0_4 : ByteArray) (a0_5 : Int) (a0_6 : Int) (A0_7 : Option Addr) (c0_7 : Nat) (l0_7 : List (S24)) (A0_8 : Option Addr) (c0_8 : Nat) (l0_8 : List (S50)) (A0_9 : Option Addr) (c0_9 : Nat) (l0_9 : List Int) (A0_10 : Option Addr) (c0_10 : Nat) (l0_10 : List (S72)) (a0_11 : Int) (A0_12 : Option Addr) (c0_12 : Nat) (l0_12 : List Int) (A0_13 : Option Addr) (c0_13 : Nat) (l0_13 : List Int) (A0_14 : Option Addr) (c0_14 : Nat) (l0_14 : List (S52)) (a0_15 : Int) (a0_16 : Int) (A0_17 : Option Addr) (c0_17 : Nat) (l0_17 : List (S31)) (a1 : Int) (r : Int) (w : World) (hr0_7 : Kd.C k24 w A0_7 l0_7.length l0_7) (hc0_7 : l0_7.length ≤ c0_7) (hr0_8 : Kd.C k50 w A0_8 l0_8.length l0_8) (hc0_8 : l0_8.length ≤ c0_8) (hr0_9 : Kd.C (Kd.int .i64) w A0_9 l0_9.length l0_9) (hc0_9 : l0_9.length ≤ c0_9) (hr0_10 : Kd.C k72 w A0_10 l0_10.length l0_10) (hc0_10 : l0_10.length ≤ c0_10) (hr0_12 : Kd.C (Kd.int .i64) w A0_12 l0_12.length l0_12) (hc0_12 : l0_12.length ≤ c0_12) (hr0_13 : Kd.C (Kd.int .i64) w A0_13 l0_13.length l0_13) (hc0_13 : l0_13.length ≤ c0_13) (hr0_14 : Kd.C k52 w A0_14 l0_14.length l0_14) (hc0_14 : l0_14.length ≤ c0_14) (hr0_17 : Kd.C k31 w A0_17 l0_17.length l0_17) (hc0_17 : l0_17.length ≤ c0_17) (h : hopperref25_Size.f k a0_0 a0_1 a0_2 a0_3 a0_4 a0_5 a0_6 l0_7 l0_8 l0_9 l0_10 a0_11 l0_12 l0_13 l0_14 a0_15 a0_16 l0_17 a1 = some r) :
  Calls Try.prog 19 #[.agg #[.int .i64 a0_0, .string a0_1, .int .i64 a0_2, .int .i64 a0_3, .string a0_4, .int .i64 a0_5, .int .i64 a0_6, .slice A0_7 l0_7.length c0_7, .slice A0_8 l0_8.length c0_8, .slice A0_9 l0_9.length c0_9, .slice A0_10 l0_10.length c0_10, .int .i64 a0_11, .slice A0_12 l0_12.length c0_12, .slice A0_13 l0_13.length c0_13, .slice A0_14 l0_14.length c0_14, .int .i64 a0_15, .int .i64 a0_16, .slice A0_17 l0_17.length c0_17], .int .i64 a1] w fun e w' => e = .returned (.int .i64 r) ∧ Below w.heap.size w w' :=
 hopperref25_Size.core k ⟨a0_0, a0_1, ⟨a0_2, a0_3, a0_4, a0_5, a0_6, l0_7⟩, l0_8, l0_9, l0_10, a0_11, l0_12, l0_13, l0_14, a0_15, a0_16, l0_17⟩ _ a1 r w (k31_mk w ⟨a0_0, a0_1, ⟨a0_2, a0_3, a0_4, a0_5, a0_6, l0_7⟩, l0_8, l0_9, l0_10, a0_11, l0_12, l0_13, l0_14, a0_15, a0_16, l0_17⟩ hc0_7 hr0_7 hc0_8 hr0_8 hc0_9 hr0_9 hc0_10 hr0_10 hc0_12 hr0_12 hc0_13 hr0_13 hc0_14 hr0_14 hc0_17 hr0_17) h

/-! ### hopperref16_Size: function 32 -/
mutual
def hopperref16_Size.l0 : Nat → Int → Int → Int → Int → Int → ByteArray → Int → Int → List (S24) → Option (Int)
 | 0, _, _, _, _, _, _, _, _, _ => none
 | k + 1, x1, x5, x6, x251000, x251001, x251002, x251003, x251004, x251005 => if x6 < (x251005.length : Int) then (if x5 ≤ x1 then (if 0 ≤ x6 then ((hopperref16_Size.f k ((rd_T24 x251005 x6).f0) ((rd_T24 x251005 x6).f1) ((rd_T24 x251005 x6).f2) ((rd_T24 x251005 x6).f3) ((rd_T24 x251005 x6).f4) ((rd_T24 x251005 x6).f5) (wrap64 (x1 - x5))).bind fun t252 => (hopperref16_Size.l0 k x1 (wrap64 (x5 + t252)) (wrap64 (x6 + 1)) x251000 x251001 x251002 x251003 x251004 x251005)) else (none)) else (some x5)) else (some x5)
def hopperref16_Size.f : Nat → Int → Int → ByteArray → Int → Int → List (S24) → Int → Option (Int)
 | 0, _, _, _, _, _, _, _ => none
 | k + 1, a0_0, a0_1, a0_2, a0_3, a0_4, l0_5, a1 => hopperref16_Size.l0 k a1 1 0 a0_0 a0_1 a0_2 a0_3 a0_4 l0_5
end
theorem hopperref16_Size.calls (k : Nat) : ∀ (a0_0 : Int) (a0_1 : Int) (a0_2 : ByteArray) (a0_3 : Int) (a0_4 : Int) (A0_5 : Option Addr) (c0_5 : Nat) (l0_5 : List (S24)) (a1 : Int) (r : Int) (w : World) (hr0_5 : Kd.C k24 w A0_5 l0_5.length l0_5) (hc0_5 : l0_5.length ≤ c0_5) (h : hopperref16_Size.f k a0_0 a0_1 a0_2 a0_3 a0_4 l0_5 a1 = some r),
  Calls Try.prog 32 #[.agg #[.int .i64 a0_0, .int .i64 a0_1, .string a0_2, .int .i64 a0_3, .int .i64 a0_4, .slice A0_5 l0_5.length c0_5], .int .i64 a1] w fun e w' => e = .returned (.int .i64 r) ∧ Below w.heap.size w w' := by
 induction k using Nat.strongRecOn with
 | _ k ih =>
 intro a0_0 a0_1 a0_2 a0_3 a0_4 A0_5 c0_5 l0_5 a1 r w hr0_5 hc0_5 h
 cases k with
 | zero => exact absurd h (by simp [hopperref16_Size.f])
 | succ k =>
 simp only [hopperref16_Size.f] at h
 have hu24 := Try.underlying24; have HR0_5 := Aside0.mk hr0_5; have HC0_5 := Aside0.mk hc0_5; clear hr0_5 hc0_5; have HB := Aside0.mk (Below.refl w.heap.size w)
 have H : (hopperref16_Size.l0 k a1 1 0 a0_0 a0_1 a0_2 a0_3 a0_4 l0_5) = some r := h; clear h; have H' := Aside0.mk H
 clear H; go_enter Try.func32, Try.ntmps32
 go_wp2_with (first | ((with_reducible refine gate_dst (N := 2) rfl ?_); refine box_event ?hg (N := 2) ?hd (cs := #[.int .i64 a0_0, .int .i64 a0_1, .string a0_2, .int .i64 a0_3, .int .i64 a0_4, .slice A0_5 l0_5.length c0_5]) (t := 24) ?hr ?_; (case hd => rfl); (case hg => rfl); (case hr => first | (go_simp; done) | (go_simp; rfl) | (go_simp; simp (disch := omega) only [Go.u8_and63, Go.u8_and31, Go.u8_and15, Go.u8_and7, Go.u8_or128, Go.u8_or192, Go.u8_or224, Go.u8_or240, m64]; done)); intro gb250 hg w3 hbox hb; have n0_ := Aside0.mk (below_step (mvB HB.out) hb); have n1_ := Aside0.mk (hbox); have n2_ := Aside0.mk ((by rw [hg]; exact (below_size (mvB HB.out)) : w.heap.size ≤ gb250)); have n3_ := Aside0.mk ((by rw [hg]; exact (below_size (mvB HB.out)) : w.heap.size ≤ gb250)); clear HB; have HB := n0_; have BK250 := n1_; have GW250 := n2_; have GE250 := n3_; clear n0_ n1_ n2_ n3_; clear hb hbox hg))
 go_loopg [5, 6] k (fun kq v5 v6 w' => ∃ (x5_1 : Int) (x6_1 : Int), v5 = .int .i64 x5_1 ∧ v6 = .int .i64 x6_1 ∧ Aside0 (hopperref16_Size.l0 kq a1 x5_1 x6_1 a0_0 a0_1 a0_2 a0_3 a0_4 l0_5 = some r) ∧ Aside0 (kq ≤ k) ∧ Aside0 (w'.heap[gb250]? = some (.cells #[.int .i64 a0_0, .int .i64 a0_1, .string a0_2, .int .i64 a0_3, .int .i64 a0_4, (.slice A0_5 l0_5.length c0_5)] 24 (0, 0))) ∧ Aside0 (Below w.heap.size w w'))
 case atStart => exact ⟨(1), (0), (by first | rfl | (simp; done) | (simp [*]; done)), (by first | rfl | (simp; done) | (simp [*]; done)), H', ⟨Nat.le_refl _⟩, ⟨mvK BK250.out⟩, ⟨mvG HB.out GE250.out⟩⟩
 case round =>
  clear H'; try clear p2
  try clear c3
  obtain ⟨x5_1, x6_1, rfl, rfl, HA, HK1, BK250, HB⟩ := hrel
  cases gk with
  | zero => exact absurd HA.out (by simp [hopperref16_Size.l0])
  | succ k1 =>
   have H := HA.out; clear HA; simp only [hopperref16_Size.l0] at H
   by_cases c4 : x6_1 < (l0_5.length : Int)
   ·rw [if_pos c4] at H; have c4b0 : decide (x6_1 < (l0_5.length : Int)) = true := decide_eq_true c4; clear c4; by_cases c5 : x5_1 ≤ a1
    ·rw [if_pos c5] at H; have c5b0 : decide (x5_1 ≤ a1) = true := decide_eq_true c5; clear c5; by_cases c6 : 0 ≤ x6_1
     case neg => rw [if_neg c6] at H; exact absurd H (by simp)
     rw [if_pos c6] at H; have c6b0 : decide (0 ≤ x6_1) = true := decide_eq_true c6; clear c6; replace H := Option.bind_eq_some_iff.mp H; obtain ⟨t252, A70, H⟩ := H; replace H : (hopperref16_Size.l0 k1 a1 (wrap64 (x5_1 + t252)) (wrap64 (x6_1 + 1)) a0_0 a0_1 a0_2 a0_3 a0_4 l0_5) = some r := H
     have A7 := Aside0.mk A70; clear A70; have H' := Aside0.mk H
     clear H; have hcz8_0 : wr.cell? ⟨gb250, 0, none⟩ = some (.int .i64 a0_0) := (blk_cell BK250.out 0).trans rfl; have hcz8_1 : wr.cell? ⟨gb250, 1, none⟩ = some (.int .i64 a0_1) := (blk_cell BK250.out 1).trans rfl; have hcz8_2 : wr.cell? ⟨gb250, 2, none⟩ = some (.string a0_2) := (blk_cell BK250.out 2).trans rfl; have hcz8_3 : wr.cell? ⟨gb250, 3, none⟩ = some (.int .i64 a0_3) := (blk_cell BK250.out 3).trans rfl; have hcz8_4 : wr.cell? ⟨gb250, 4, none⟩ = some (.int .i64 a0_4) := (blk_cell BK250.out 4).trans rfl; have hcz8_5 : wr.cell? ⟨gb250, 5, none⟩ = some (.slice A0_5 l0_5.length c0_5) := (blk_cell BK250.out 5).trans rfl; have hfz8_0 := blk_frozen BK250.out 0; have hfz8_1 := blk_frozen BK250.out 1; have hfz8_2 := blk_frozen BK250.out 2; have hfz8_3 := blk_frozen BK250.out 3; have hfz8_4 := blk_frozen BK250.out 4; have hfz8_5 := blk_frozen BK250.out 5; have p251 : 0 ≤ (x6_1 : Int) := dtA; have q251 : x6_1 < (l0_5.length : Int) := dtA; obtain ⟨ad251, A251_5, c251_5, e251, hx251_0, hx251_1, hx251_2, hx251_3, hx251_4, hx251_5, hl251_5, hi251_5⟩ := at_T24 HR0_5.out x6_1 p251 q251
     cases e251
     replace hx251_0 := (HB.out.cell (World.block_lt_of_cell? w _ hx251_0)).trans hx251_0
     replace hx251_1 := (HB.out.cell (World.block_lt_of_cell? w _ hx251_1)).trans hx251_1
     replace hx251_2 := (HB.out.cell (World.block_lt_of_cell? w _ hx251_2)).trans hx251_2
     replace hx251_3 := (HB.out.cell (World.block_lt_of_cell? w _ hx251_3)).trans hx251_3
     replace hx251_4 := (HB.out.cell (World.block_lt_of_cell? w _ hx251_4)).trans hx251_4
     replace hx251_5 := (HB.out.cell (World.block_lt_of_cell? w _ hx251_5)).trans hx251_5
     have HR251_5 := Aside0.mk hi251_5; have HC251_5 := Aside0.mk hl251_5; clear hi251_5 hl251_5; replace p251 := eq_true p251; replace q251 := eq_true q251; go_wp2_with (first | ((with_reducible refine gate_callee (f := 32) rfl ?_); refine goesL_ (some 28) rfl rfl Try.func32 (by kernel_rfl) rfl #[.agg #[.int .i64 ((rd_T24 l0_5 x6_1).f0), .int .i64 ((rd_T24 l0_5 x6_1).f1), .string ((rd_T24 l0_5 x6_1).f2), .int .i64 ((rd_T24 l0_5 x6_1).f3), .int .i64 ((rd_T24 l0_5 x6_1).f4), .slice A251_5 ((rd_T24 l0_5 x6_1).f5).length c251_5], .int .i64 (wrap64 (a1 - x5_1))] rfl (by (try simp only [List.map_toArray, List.map_cons, List.map_nil]); first | done | rfl | (simp only [List.length_drop, List.length_take]; rfl)) ?_; (with_reducible refine (ih k1 (by have := HK1.out; omega) ((rd_T24 l0_5 x6_1).f0) ((rd_T24 l0_5 x6_1).f1) ((rd_T24 l0_5 x6_1).f2) ((rd_T24 l0_5 x6_1).f3) ((rd_T24 l0_5 x6_1).f4) _ _ ((rd_T24 l0_5 x6_1).f5) (wrap64 (a1 - x5_1)) t252 _ ?side1 ?side2 A7.out).mono ?_); (case side1 => repeat (first | exact (Kd.C_below HR251_5.out HB.out) | (with_reducible refine Kd.C_alloc ?_ _) | (with_reducible refine Kd.C_drewN ?_ _) | (with_reducible refine Kd.C_drew ?_))); (case side2 => exact HC251_5.out); rintro e w9 ⟨rfl, hb⟩; refine ⟨_, rfl, ?_⟩; have n0_ := Aside0.mk (blk_below (g := gb250) (o := .cells #[.int .i64 a0_0, .int .i64 a0_1, .string a0_2, .int .i64 a0_3, .int .i64 a0_4, .slice (some ad251) l0_5.length c0_5] 24 (0, 0)) (mvK BK250.out) hb); have n1_ := Aside0.mk (below_step (mvG HB.out GE250.out) hb); clear BK250; clear HB; have BK250 := n0_; have HB := n1_; clear n0_ n1_; (try clear hb); (try clear hb2); (try clear hk); (try clear hi)))
     go_roundg k1
     case measure => have := HK1.out; omega
     case rel => exact ⟨(wrap64 (x5_1 + t252)), (wrap64 (x6_1 + 1)), (by first | rfl | (simp; done) | (simp [*]; done)), (by first | rfl | (simp; done) | (simp [*]; done)), H', ⟨by have := HK1.out; omega⟩, ⟨mvK BK250.out⟩, ⟨mvG HB.out GE250.out⟩⟩
    ·rw [if_neg c5] at H; have c5b0 : decide (x5_1 ≤ a1) = false := decide_eq_false c5; clear c5; obtain rfl := Option.some.inj H
     have hcz10_0 : wr.cell? ⟨gb250, 0, none⟩ = some (.int .i64 a0_0) := (blk_cell BK250.out 0).trans rfl; have hcz10_1 : wr.cell? ⟨gb250, 1, none⟩ = some (.int .i64 a0_1) := (blk_cell BK250.out 1).trans rfl; have hcz10_2 : wr.cell? ⟨gb250, 2, none⟩ = some (.string a0_2) := (blk_cell BK250.out 2).trans rfl; have hcz10_3 : wr.cell? ⟨gb250, 3, none⟩ = some (.int .i64 a0_3) := (blk_cell BK250.out 3).trans rfl; have hcz10_4 : wr.cell? ⟨gb250, 4, none⟩ = some (.int .i64 a0_4) := (blk_cell BK250.out 4).trans rfl; have hcz10_5 : wr.cell? ⟨gb250, 5, none⟩ = some (.slice A0_5 l0_5.length c0_5) := (blk_cell BK250.out 5).trans rfl; have hfz10_0 := blk_frozen BK250.out 0; have hfz10_1 := blk_frozen BK250.out 1; have hfz10_2 := blk_frozen BK250.out 2; have hfz10_3 := blk_frozen BK250.out 3; have hfz10_4 := blk_frozen BK250.out 4; have hfz10_5 := blk_frozen BK250.out 5; go_wp2
     go_ret
     exact exB (mvG HB.out GE250.out)
   ·rw [if_neg c4] at H; have c4b0 : decide (x6_1 < (l0_5.length : Int)) = false := decide_eq_false c4; clear c4; obtain rfl := Option.some.inj H
    have hcz11_0 : wr.cell? ⟨gb250, 0, none⟩ = some (.int .i64 a0_0) := (blk_cell BK250.out 0).trans rfl; have hcz11_1 : wr.cell? ⟨gb250, 1, none⟩ = some (.int .i64 a0_1) := (blk_cell BK250.out 1).trans rfl; have hcz11_2 : wr.cell? ⟨gb250, 2, none⟩ = some (.string a0_2) := (blk_cell BK250.out 2).trans rfl; have hcz11_3 : wr.cell? ⟨gb250, 3, none⟩ = some (.int .i64 a0_3) := (blk_cell BK250.out 3).trans rfl; have hcz11_4 : wr.cell? ⟨gb250, 4, none⟩ = some (.int .i64 a0_4) := (blk_cell BK250.out 4).trans rfl; have hcz11_5 : wr.cell? ⟨gb250, 5, none⟩ = some (.slice A0_5 l0_5.length c0_5) := (blk_cell BK250.out 5).trans rfl; have hfz11_0 := blk_frozen BK250.out 0; have hfz11_1 := blk_frozen BK250.out 1; have hfz11_2 := blk_frozen BK250.out 2; have hfz11_3 := blk_frozen BK250.out 3; have hfz11_4 := blk_frozen BK250.out 4; have hfz11_5 := blk_frozen BK250.out 5; go_wp2
    go_ret
    exact exB (mvG HB.out GE250.out)

/-! ### hopperref16_Small: function 20 -/
mutual
def hopperref16_Small.j0 : Nat → Int → Bool → Int → Int → ByteArray → Int → Int → List (S24) → Option (Bool)
 | 0, _, _, _, _, _, _, _, _ => none
 | k + 1, x1, x24, x254000, x254001, x254002, x254003, x254004, x254005 => if x24 = true then (some false) else (hopperref16_Small.l0 k x1 0 x254000 x254001 x254002 x254003 x254004 x254005)
def hopperref16_Small.l0 : Nat → Int → Int → Int → Int → ByteArray → Int → Int → List (S24) → Option (Bool)
 | 0, _, _, _, _, _, _, _, _ => none
 | k + 1, x1, x5, x254000, x254001, x254002, x254003, x254004, x254005 => if x5 < (x254005.length : Int) then (if 0 ≤ x5 then ((hopperref16_Small.f k ((rd_T24 x254005 x5).f0) ((rd_T24 x254005 x5).f1) ((rd_T24 x254005 x5).f2) ((rd_T24 x254005 x5).f3) ((rd_T24 x254005 x5).f4) ((rd_T24 x254005 x5).f5) (wrap64 (x1 - 1))).bind fun t256 => (if t256 = true then (hopperref16_Small.l0 k x1 (wrap64 (x5 + 1)) x254000 x254001 x254002 x254003 x254004 x254005) else (some false))) else (none)) else (some true)
def hopperref16_Small.f : Nat → Int → Int → ByteArray → Int → Int → List (S24) → Int → Option (Bool)
 | 0, _, _, _, _, _, _, _ => none
 | k + 1, a0_0, a0_1, a0_2, a0_3, a0_4, l0_5, a1 => if a1 < 0 then (hopperref16_Small.j0 k a1 true a0_0 a0_1 a0_2 a0_3 a0_4 l0_5) else (if (a0_2.size : Int) > 300 then (hopperref16_Small.j0 k a1 true a0_0 a0_1 a0_2 a0_3 a0_4 l0_5) else (if (l0_5.length : Int) > 20 then (hopperref16_Small.j0 k a1 true a0_0 a0_1 a0_2 a0_3 a0_4 l0_5) else ((hopperref16_Size.f k a0_0 a0_1 a0_2 a0_3 a0_4 l0_5 100).bind fun t254 => (hopperref16_Small.j0 k a1 (decide (t254 > 80)) a0_0 a0_1 a0_2 a0_3 a0_4 l0_5))))
end
theorem hopperref16_Small.calls (k : Nat) : ∀ (a0_0 : Int) (a0_1 : Int) (a0_2 : ByteArray) (a0_3 : Int) (a0_4 : Int) (A0_5 : Option Addr) (c0_5 : Nat) (l0_5 : List (S24)) (a1 : Int) (r : Bool) (w : World) (hr0_5 : Kd.C k24 w A0_5 l0_5.length l0_5) (hc0_5 : l0_5.length ≤ c0_5) (h : hopperref16_Small.f k a0_0 a0_1 a0_2 a0_3 a0_4 l0_5 a1 = some r),
  Calls Try.prog 20 #[.agg #[.int .i64 a0_0, .int .i64 a0_1, .string a0_2, .int .i64 a0_3, .int .i64 a0_4, .slice A0_5 l0_5.length c0_5], .int .i64 a1] w fun e w' => e = .returned (.bool r) ∧ Below w.heap.size w w' := by
 induction k using Nat.strongRecOn with
 | _ k ih =>
 intro a0_0 a0_1 a0_2 a0_3 a0_4 A0_5 c0_5 l0_5 a1 r w hr0_5 hc0_5 h
 cases k with
 | zero => exact absurd h (by simp [hopperref16_Small.f])
 | succ k =>
 simp only [hopperref16_Small.f] at h
 have hu24 := Try.underlying24; have HR0_5 := Aside0.mk hr0_5; have HC0_5 := Aside0.mk hc0_5; clear hr0_5 hc0_5; have HB := Aside0.mk (Below.refl w.heap.size w)
 have H : (if a1 < 0 then (hopperref16_Small.j0 k a1 true a0_0 a0_1 a0_2 a0_3 a0_4 l0_5) else (if (a0_2.size : Int) > 300 then (hopperref16_Small.j0 k a1 true a0_0 a0_1 a0_2 a0_3 a0_4 l0_5) else (if (l0_5.length : Int) > 20 then (hopperref16_Small.j0 k a1 true a0_0 a0_1 a0_2 a0_3 a0_4 l0_5) else ((hopperref16_Size.f k a0_0 a0_1 a0_2 a0_3 a0_4 l0_5 100).bind fun t254 => (hopperref16_Small.j0 k a1 (decide (t254 > 80)) a0_0 a0_1 a0_2 a0_3 a0_4 l0_5))))) = some r := h; clear h; have HC3 := Aside0.mk H; clear H; go_enter Try.func20, Try.ntmps20
 go_upto_region 1 with (first | ((with_reducible refine gate_dst (N := 2) rfl ?_); (try (refine gate_guard (by rfl) ?_; dsimp only)); refine box_event ?hg (N := 2) ?hd (cs := #[.int .i64 a0_0, .int .i64 a0_1, .string a0_2, .int .i64 a0_3, .int .i64 a0_4, .slice A0_5 l0_5.length c0_5]) (t := 24) ?hr ?_; (case hd => rfl); (case hg => rfl); (case hr => first | (go_simp; done) | (go_simp; rfl) | (go_simp; simp (disch := omega) only [Go.u8_and63, Go.u8_and31, Go.u8_and15, Go.u8_and7, Go.u8_or128, Go.u8_or192, Go.u8_or224, Go.u8_or240, m64]; done)); intro gb253 hg w4 hbox hb; have n0_ := Aside0.mk (below_step (mvB HB.out) hb); have n1_ := Aside0.mk (hbox); have n2_ := Aside0.mk ((by rw [hg]; exact (below_size (mvB HB.out)) : w.heap.size ≤ gb253)); have n3_ := Aside0.mk ((by rw [hg]; exact (below_size (mvB HB.out)) : w.heap.size ≤ gb253)); clear HB; have HB := n0_; have BK253 := n1_; have GW253 := n2_; have GE253 := n3_; clear n0_ n1_ n2_ n3_; clear hb hbox hg))
 (try simp only [Act.put, List.setIfInBounds_toArray, List.set_cons_zero, List.set_cons_succ])
 go_cut [24] (fun v24 wc => ∃ (kq : Nat) (x24_2 : Bool), v24 = .bool x24_2 ∧ Aside0 (hopperref16_Small.j0 kq a1 x24_2 a0_0 a0_1 a0_2 a0_3 a0_4 l0_5 = some r) ∧ Aside0 (kq ≤ k) ∧ Aside0 (wc.heap[gb253]? = some (.cells #[.int .i64 a0_0, .int .i64 a0_1, .string a0_2, .int .i64 a0_3, .int .i64 a0_4, (.slice A0_5 l0_5.length c0_5)] 24 (0, 0))) ∧ Aside0 (Below w.heap.size w wc))
 case first =>
  have H := HC3.out; clear HC3; by_cases c5 : a1 < 0
  ·rw [if_pos c5] at H; have c5b0 : decide (a1 < 0) = true := decide_eq_true c5; clear c5; (first | rw [c5b0] | (simp only [i64_w, i32_w]; rw [c5b0]) | skip)
   have H' := Aside0.mk H
   clear H; go_wp2
   go_meet
   case rel => exact ⟨_, (true), (by first | rfl | (simp; done) | (simp [*]; done)), H', ⟨by first | omega | exact Nat.le_refl _⟩, ⟨mvK BK253.out⟩, ⟨mvG HB.out GE253.out⟩⟩
  ·rw [if_neg c5] at H; have c5b0 : decide (a1 < 0) = false := decide_eq_false c5; clear c5; (first | rw [c5b0] | (simp only [i64_w, i32_w]; rw [c5b0]) | skip)
   by_cases c6 : (a0_2.size : Int) > 300
   ·rw [if_pos c6] at H; have c6b0 : decide (300 < (a0_2.size : Int)) = true := decide_eq_true c6; have c6b1 : decide (300 < a0_2.size) = true := decide_eq_true (by omega)
    clear c6; have H' := Aside0.mk H
    clear H; have hcz7_0 : w4.cell? ⟨gb253, 0, none⟩ = some (.int .i64 a0_0) := (blk_cell BK253.out 0).trans rfl; have hcz7_1 : w4.cell? ⟨gb253, 1, none⟩ = some (.int .i64 a0_1) := (blk_cell BK253.out 1).trans rfl; have hcz7_2 : w4.cell? ⟨gb253, 2, none⟩ = some (.string a0_2) := (blk_cell BK253.out 2).trans rfl; have hcz7_3 : w4.cell? ⟨gb253, 3, none⟩ = some (.int .i64 a0_3) := (blk_cell BK253.out 3).trans rfl; have hcz7_4 : w4.cell? ⟨gb253, 4, none⟩ = some (.int .i64 a0_4) := (blk_cell BK253.out 4).trans rfl; have hcz7_5 : w4.cell? ⟨gb253, 5, none⟩ = some (.slice A0_5 l0_5.length c0_5) := (blk_cell BK253.out 5).trans rfl; have hfz7_0 := blk_frozen BK253.out 0; have hfz7_1 := blk_frozen BK253.out 1; have hfz7_2 := blk_frozen BK253.out 2; have hfz7_3 := blk_frozen BK253.out 3; have hfz7_4 := blk_frozen BK253.out 4; have hfz7_5 := blk_frozen BK253.out 5; go_wp2
    go_meet
    case rel => exact ⟨_, (true), (by first | rfl | (simp; done) | (simp [*]; done)), H', ⟨by first | omega | exact Nat.le_refl _⟩, ⟨mvK BK253.out⟩, ⟨mvG HB.out GE253.out⟩⟩
   ·rw [if_neg c6] at H; have c6b0 : decide (300 < (a0_2.size : Int)) = false := decide_eq_false c6; have c6b1 : decide (300 < a0_2.size) = false := decide_eq_false (by omega)
    clear c6; by_cases c8 : (l0_5.length : Int) > 20
    ·rw [if_pos c8] at H; have c8b0 : decide (20 < (l0_5.length : Int)) = true := decide_eq_true c8; have c8b1 : decide (20 < l0_5.length) = true := decide_eq_true (by omega)
     clear c8; have H' := Aside0.mk H
     clear H; have hcz9_0 : w4.cell? ⟨gb253, 0, none⟩ = some (.int .i64 a0_0) := (blk_cell BK253.out 0).trans rfl; have hcz9_1 : w4.cell? ⟨gb253, 1, none⟩ = some (.int .i64 a0_1) := (blk_cell BK253.out 1).trans rfl; have hcz9_2 : w4.cell? ⟨gb253, 2, none⟩ = some (.string a0_2) := (blk_cell BK253.out 2).trans rfl; have hcz9_3 : w4.cell? ⟨gb253, 3, none⟩ = some (.int .i64 a0_3) := (blk_cell BK253.out 3).trans rfl; have hcz9_4 : w4.cell? ⟨gb253, 4, none⟩ = some (.int .i64 a0_4) := (blk_cell BK253.out 4).trans rfl; have hcz9_5 : w4.cell? ⟨gb253, 5, none⟩ = some (.slice A0_5 l0_5.length c0_5) := (blk_cell BK253.out 5).trans rfl; have hfz9_0 := blk_frozen BK253.out 0; have hfz9_1 := blk_frozen BK253.out 1; have hfz9_2 := blk_frozen BK253.out 2; have hfz9_3 := blk_frozen BK253.out 3; have hfz9_4 := blk_frozen BK253.out 4; have hfz9_5 := blk_frozen BK253.out 5; go_wp2
     go_meet
     case rel => exact ⟨_, (true), (by first | rfl | (simp; done) | (simp [*]; done)), H', ⟨by first | omega | exact Nat.le_refl _⟩, ⟨mvK BK253.out⟩, ⟨mvG HB.out GE253.out⟩⟩
    ·rw [if_neg c8] at H; have c8b0 : decide (20 < (l0_5.length : Int)) = false := decide_eq_false c8; have c8b1 : decide (20 < l0_5.length) = false := decide_eq_false (by omega)
     clear c8; replace H := Option.bind_eq_some_iff.mp H; obtain ⟨t254, A100, H⟩ := H; replace H : (hopperref16_Small.j0 k a1 (decide (t254 > 80)) a0_0 a0_1 a0_2 a0_3 a0_4 l0_5) = some r := H
     have A10 := Aside0.mk A100; clear A100; have H' := Aside0.mk H
     clear H; have hcz11_0 : w4.cell? ⟨gb253, 0, none⟩ = some (.int .i64 a0_0) := (blk_cell BK253.out 0).trans rfl; have hcz11_1 : w4.cell? ⟨gb253, 1, none⟩ = some (.int .i64 a0_1) := (blk_cell BK253.out 1).trans rfl; have hcz11_2 : w4.cell? ⟨gb253, 2, none⟩ = some (.string a0_2) := (blk_cell BK253.out 2).trans rfl; have hcz11_3 : w4.cell? ⟨gb253, 3, none⟩ = some (.int .i64 a0_3) := (blk_cell BK253.out 3).trans rfl; have hcz11_4 : w4.cell? ⟨gb253, 4, none⟩ = some (.int .i64 a0_4) := (blk_cell BK253.out 4).trans rfl; have hcz11_5 : w4.cell? ⟨gb253, 5, none⟩ = some (.slice A0_5 l0_5.length c0_5) := (blk_cell BK253.out 5).trans rfl; have hfz11_0 := blk_frozen BK253.out 0; have hfz11_1 := blk_frozen BK253.out 1; have hfz11_2 := blk_frozen BK253.out 2; have hfz11_3 := blk_frozen BK253.out 3; have hfz11_4 := blk_frozen BK253.out 4; have hfz11_5 := blk_frozen BK253.out 5; go_wp2_with (first | (go_at_call 32; (with_reducible refine (hopperref16_Size.calls k a0_0 a0_1 a0_2 a0_3 a0_4 _ _ l0_5 100 t254 _ ?side1 ?side2 A10.out).mono ?_); (case side1 => repeat (first | exact (Kd.C_below HR0_5.out HB.out) | (with_reducible refine Kd.C_alloc ?_ _) | (with_reducible refine Kd.C_drewN ?_ _) | (with_reducible refine Kd.C_drew ?_))); (case side2 => exact HC0_5.out); rintro e w12 ⟨rfl, hb⟩; have n0_ := Aside0.mk (blk_below (g := gb253) (o := .cells #[.int .i64 a0_0, .int .i64 a0_1, .string a0_2, .int .i64 a0_3, .int .i64 a0_4, .slice A0_5 l0_5.length c0_5] 24 (0, 0)) (mvK BK253.out) hb); have n1_ := Aside0.mk (below_step (mvG HB.out GE253.out) hb); clear BK253; clear HB; have BK253 := n0_; have HB := n1_; clear n0_ n1_; (try clear hb); (try clear hb2); (try clear hk); (try clear hi)))
     go_meet
     case rel => exact ⟨_, (decide (t254 > 80)), (by first | rfl | (simp; done) | (simp [*]; done)), H', ⟨by first | omega | exact Nat.le_refl _⟩, ⟨mvK BK253.out⟩, ⟨mvG HB.out GE253.out⟩⟩
 case rest =>
  clear HC3; try clear c2
  try clear p2
  try clear c5
  try clear c5b0
  try clear c6
  try clear c6b0
  try clear c6b1
  try clear c8
  try clear c8b0
  try clear c8b1
  try clear hcz11_0
  try clear hcz11_1
  try clear hcz11_2
  try clear hcz11_3
  try clear hcz11_4
  try clear hcz11_5
  try clear hcz7_0
  try clear hcz7_1
  try clear hcz7_2
  try clear hcz7_3
  try clear hcz7_4
  try clear hcz7_5
  try clear hcz9_0
  try clear hcz9_1
  try clear hcz9_2
  try clear hcz9_3
  try clear hcz9_4
  try clear hcz9_5
  try clear hfz11_0
  try clear hfz11_1
  try clear hfz11_2
  try clear hfz11_3
  try clear hfz11_4
  try clear hfz11_5
  try clear hfz7_0
  try clear hfz7_1
  try clear hfz7_2
  try clear hfz7_3
  try clear hfz7_4
  try clear hfz7_5
  try clear hfz9_0
  try clear hfz9_1
  try clear hfz9_2
  try clear hfz9_3
  try clear hfz9_4
  try clear hfz9_5
  obtain ⟨kq, x24_2, rfl, HA, HJ2, BK253, HB⟩ := hcut
  cases kq with
  | zero => exact absurd HA.out (by simp [hopperref16_Small.j0])
  | succ kj2 =>
   have H := HA.out; clear HA; simp only [hopperref16_Small.j0] at H
   by_cases c13 : x24_2 = true
   ·subst c13; have H1 : (some false) = some r := by rw [if_pos rfl] at H; exact H
    clear H; have H := H1; clear H1; obtain rfl := Option.some.inj H
    go_wp2
    go_ret
    exact exB (mvG HB.out GE253.out)
   ·replace c13 := Bool.eq_false_iff.mpr c13; subst c13; have H1 : (hopperref16_Small.l0 kj2 a1 0 a0_0 a0_1 a0_2 a0_3 a0_4 l0_5) = some r := by rw [if_neg (show ¬ (false = true) by decide)] at H; exact H
    clear H; have H := H1; clear H1; have H' := Aside0.mk H
    clear H; go_wp2
    go_loopg [5] kj2 (fun kq v5 w' => ∃ (x5_2 : Int), v5 = .int .i64 x5_2 ∧ Aside0 (hopperref16_Small.l0 kq a1 x5_2 a0_0 a0_1 a0_2 a0_3 a0_4 l0_5 = some r) ∧ Aside0 (kq ≤ kj2) ∧ Aside0 (w'.heap[gb253]? = some (.cells #[.int .i64 a0_0, .int .i64 a0_1, .string a0_2, .int .i64 a0_3, .int .i64 a0_4, (.slice A0_5 l0_5.length c0_5)] 24 (0, 0))) ∧ Aside0 (Below w.heap.size w w'))
    case atStart => exact ⟨(0), (by first | rfl | (simp; done) | (simp [*]; done)), H', ⟨Nat.le_refl _⟩, ⟨mvK BK253.out⟩, ⟨mvG HB.out GE253.out⟩⟩
    case round =>
     clear H'; (try clear c1); (try clear c2); (try clear p2); (try clear c5); (try clear c5b0); (try clear c6); (try clear c6b0); (try clear c6b1); (try clear p6); (try clear c8); (try clear c8b0); (try clear c8b1); (try clear c13); (try clear hcz11_0); (try clear hcz11_1); (try clear hcz11_2); (try clear hcz11_3); (try clear hcz11_4); (try clear hcz11_5); (try clear hcz7_0); (try clear hcz7_1); (try clear hcz7_2); (try clear hcz7_3); (try clear hcz7_4); (try clear hcz7_5); (try clear hcz9_0); (try clear hcz9_1); (try clear hcz9_2); (try clear hcz9_3); (try clear hcz9_4); (try clear hcz9_5); (try clear hfz11_0); (try clear hfz11_1); (try clear hfz11_2); (try clear hfz11_3); (try clear hfz11_4); (try clear hfz11_5); (try clear hfz7_0); (try clear hfz7_1); (try clear hfz7_2); (try clear hfz7_3); (try clear hfz7_4); (try clear hfz7_5); (try clear hfz9_0); (try clear hfz9_1); (try clear hfz9_2); (try clear hfz9_3); (try clear hfz9_4); (try clear hfz9_5); (try clear p2); obtain ⟨x5_2, rfl, HA, HK2, BK253, HB⟩ := hrel
     cases gk with
     | zero => exact absurd HA.out (by simp [hopperref16_Small.l0])
     | succ k2 =>
      have H := HA.out; clear HA; simp only [hopperref16_Small.l0] at H
      by_cases c14 : x5_2 < (l0_5.length : Int)
      ·rw [if_pos c14] at H; have c14b0 : decide (x5_2 < (l0_5.length : Int)) = true := decide_eq_true c14; clear c14; by_cases c15 : 0 ≤ x5_2
       case neg => rw [if_neg c15] at H; exact absurd H (by simp)
       rw [if_pos c15] at H; have c15b0 : decide (0 ≤ x5_2) = true := decide_eq_true c15; clear c15; replace H := Option.bind_eq_some_iff.mp H; obtain ⟨t256, A160, H⟩ := H; replace H : (if t256 = true then (hopperref16_Small.l0 k2 a1 (wrap64 (x5_2 + 1)) a0_0 a0_1 a0_2 a0_3 a0_4 l0_5) else (some false)) = some r := H
       have A16 := Aside0.mk A160; clear A160; by_cases c17 : t256 = true
       ·subst c17; have H1 : (hopperref16_Small.l0 k2 a1 (wrap64 (x5_2 + 1)) a0_0 a0_1 a0_2 a0_3 a0_4 l0_5) = some r := by rw [if_pos rfl] at H; exact H
        clear H; have H := H1; clear H1; have H' := Aside0.mk H
        clear H; have hcz18_0 : wr.cell? ⟨gb253, 0, none⟩ = some (.int .i64 a0_0) := (blk_cell BK253.out 0).trans rfl; have hcz18_1 : wr.cell? ⟨gb253, 1, none⟩ = some (.int .i64 a0_1) := (blk_cell BK253.out 1).trans rfl; have hcz18_2 : wr.cell? ⟨gb253, 2, none⟩ = some (.string a0_2) := (blk_cell BK253.out 2).trans rfl; have hcz18_3 : wr.cell? ⟨gb253, 3, none⟩ = some (.int .i64 a0_3) := (blk_cell BK253.out 3).trans rfl; have hcz18_4 : wr.cell? ⟨gb253, 4, none⟩ = some (.int .i64 a0_4) := (blk_cell BK253.out 4).trans rfl; have hcz18_5 : wr.cell? ⟨gb253, 5, none⟩ = some (.slice A0_5 l0_5.length c0_5) := (blk_cell BK253.out 5).trans rfl; have hfz18_0 := blk_frozen BK253.out 0; have hfz18_1 := blk_frozen BK253.out 1; have hfz18_2 := blk_frozen BK253.out 2; have hfz18_3 := blk_frozen BK253.out 3; have hfz18_4 := blk_frozen BK253.out 4; have hfz18_5 := blk_frozen BK253.out 5; have p255 : 0 ≤ (x5_2 : Int) := dtA; have q255 : x5_2 < (l0_5.length : Int) := dtA; obtain ⟨ad255, A255_5, c255_5, e255, hx255_0, hx255_1, hx255_2, hx255_3, hx255_4, hx255_5, hl255_5, hi255_5⟩ := at_T24 HR0_5.out x5_2 p255 q255
        cases e255
        replace hx255_0 := (HB.out.cell (World.block_lt_of_cell? w _ hx255_0)).trans hx255_0
        replace hx255_1 := (HB.out.cell (World.block_lt_of_cell? w _ hx255_1)).trans hx255_1
        replace hx255_2 := (HB.out.cell (World.block_lt_of_cell? w _ hx255_2)).trans hx255_2
        replace hx255_3 := (HB.out.cell (World.block_lt_of_cell? w _ hx255_3)).trans hx255_3
        replace hx255_4 := (HB.out.cell (World.block_lt_of_cell? w _ hx255_4)).trans hx255_4
        replace hx255_5 := (HB.out.cell (World.block_lt_of_cell? w _ hx255_5)).trans hx255_5
        have HR255_5 := Aside0.mk hi255_5; have HC255_5 := Aside0.mk hl255_5; clear hi255_5 hl255_5; replace p255 := eq_true p255; replace q255 := eq_true q255; go_wp2_with (first | ((with_reducible refine gate_callee (f := 20) rfl ?_); refine goesL_ (some 39) rfl rfl Try.func20 (by kernel_rfl) rfl #[.agg #[.int .i64 ((rd_T24 l0_5 x5_2).f0), .int .i64 ((rd_T24 l0_5 x5_2).f1), .string ((rd_T24 l0_5 x5_2).f2), .int .i64 ((rd_T24 l0_5 x5_2).f3), .int .i64 ((rd_T24 l0_5 x5_2).f4), .slice A255_5 ((rd_T24 l0_5 x5_2).f5).length c255_5], .int .i64 (wrap64 (a1 - 1))] rfl (by (try simp only [List.map_toArray, List.map_cons, List.map_nil]); first | done | rfl | (simp only [List.length_drop, List.length_take]; rfl)) ?_; (with_reducible refine (ih k2 (by have := HJ2.out; have := HK2.out; omega) ((rd_T24 l0_5 x5_2).f0) ((rd_T24 l0_5 x5_2).f1) ((rd_T24 l0_5 x5_2).f2) ((rd_T24 l0_5 x5_2).f3) ((rd_T24 l0_5 x5_2).f4) _ _ ((rd_T24 l0_5 x5_2).f5) (wrap64 (a1 - 1)) true _ ?side1 ?side2 A16.out).mono ?_); (case side1 => repeat (first | exact (Kd.C_below HR255_5.out HB.out) | (with_reducible refine Kd.C_alloc ?_ _) | (with_reducible refine Kd.C_drewN ?_ _) | (with_reducible refine Kd.C_drew ?_))); (case side2 => exact HC255_5.out); rintro e w19 ⟨rfl, hb⟩; refine ⟨_, rfl, ?_⟩; have n0_ := Aside0.mk (blk_below (g := gb253) (o := .cells #[.int .i64 a0_0, .int .i64 a0_1, .string a0_2, .int .i64 a0_3, .int .i64 a0_4, .slice (some ad255) l0_5.length c0_5] 24 (0, 0)) (mvK BK253.out) hb); have n1_ := Aside0.mk (below_step (mvG HB.out GE253.out) hb); clear BK253; clear HB; have BK253 := n0_; have HB := n1_; clear n0_ n1_; (try clear hb); (try clear hb2); (try clear hk); (try clear hi)))
        go_roundg k2
        case measure => have := HJ2.out; have := HK2.out; omega
        case rel => exact ⟨(wrap64 (x5_2 + 1)), (by first | rfl | (simp; done) | (simp [*]; done)), H', ⟨by have := HJ2.out; have := HK2.out; omega⟩, ⟨mvK BK253.out⟩, ⟨mvG HB.out GE253.out⟩⟩
       ·replace c17 := Bool.eq_false_iff.mpr c17; subst c17; have H1 : (some false) = some r := by rw [if_neg (show ¬ (false = true) by decide)] at H; exact H
        clear H; have H := H1; clear H1; obtain rfl := Option.some.inj H
        have hcz20_0 : wr.cell? ⟨gb253, 0, none⟩ = some (.int .i64 a0_0) := (blk_cell BK253.out 0).trans rfl; have hcz20_1 : wr.cell? ⟨gb253, 1, none⟩ = some (.int .i64 a0_1) := (blk_cell BK253.out 1).trans rfl; have hcz20_2 : wr.cell? ⟨gb253, 2, none⟩ = some (.string a0_2) := (blk_cell BK253.out 2).trans rfl; have hcz20_3 : wr.cell? ⟨gb253, 3, none⟩ = some (.int .i64 a0_3) := (blk_cell BK253.out 3).trans rfl; have hcz20_4 : wr.cell? ⟨gb253, 4, none⟩ = some (.int .i64 a0_4) := (blk_cell BK253.out 4).trans rfl; have hcz20_5 : wr.cell? ⟨gb253, 5, none⟩ = some (.slice A0_5 l0_5.length c0_5) := (blk_cell BK253.out 5).trans rfl; have hfz20_0 := blk_frozen BK253.out 0; have hfz20_1 := blk_frozen BK253.out 1; have hfz20_2 := blk_frozen BK253.out 2; have hfz20_3 := blk_frozen BK253.out 3; have hfz20_4 := blk_frozen BK253.out 4; have hfz20_5 := blk_frozen BK253.out 5; have p255 : 0 ≤ (x5_2 : Int) := dtA; have q255 : x5_2 < (l0_5.length : Int) := dtA; obtain ⟨ad255, A255_5, c255_5, e255, hx255_0, hx255_1, hx255_2, hx255_3, hx255_4, hx255_5, hl255_5, hi255_5⟩ := at_T24 HR0_5.out x5_2 p255 q255
        cases e255
        replace hx255_0 := (HB.out.cell (World.block_lt_of_cell? w _ hx255_0)).trans hx255_0
        replace hx255_1 := (HB.out.cell (World.block_lt_of_cell? w _ hx255_1)).trans hx255_1
        replace hx255_2 := (HB.out.cell (World.block_lt_of_cell? w _ hx255_2)).trans hx255_2
        replace hx255_3 := (HB.out.cell (World.block_lt_of_cell? w _ hx255_3)).trans hx255_3
        replace hx255_4 := (HB.out.cell (World.block_lt_of_cell? w _ hx255_4)).trans hx255_4
        replace hx255_5 := (HB.out.cell (World.block_lt_of_cell? w _ hx255_5)).trans hx255_5
        have HR255_5 := Aside0.mk hi255_5; have HC255_5 := Aside0.mk hl255_5; clear hi255_5 hl255_5; replace p255 := eq_true p255; replace q255 := eq_true q255; go_wp2_with (first | ((with_reducible refine gate_callee (f := 20) rfl ?_); refine goesL_ (some 39) rfl rfl Try.func20 (by kernel_rfl) rfl #[.agg #[.int .i64 ((rd_T24 l0_5 x5_2).f0), .int .i64 ((rd_T24 l0_5 x5_2).f1), .string ((rd_T24 l0_5 x5_2).f2), .int .i64 ((rd_T24 l0_5 x5_2).f3), .int .i64 ((rd_T24 l0_5 x5_2).f4), .slice A255_5 ((rd_T24 l0_5 x5_2).f5).length c255_5], .int .i64 (wrap64 (a1 - 1))] rfl (by (try simp only [List.map_toArray, List.map_cons, List.map_nil]); first | done | rfl | (simp only [List.length_drop, List.length_take]; rfl)) ?_; (with_reducible refine (ih k2 (by have := HJ2.out; have := HK2.out; omega) ((rd_T24 l0_5 x5_2).f0) ((rd_T24 l0_5 x5_2).f1) ((rd_T24 l0_5 x5_2).f2) ((rd_T24 l0_5 x5_2).f3) ((rd_T24 l0_5 x5_2).f4) _ _ ((rd_T24 l0_5 x5_2).f5) (wrap64 (a1 - 1)) false _ ?side1 ?side2 A16.out).mono ?_); (case side1 => repeat (first | exact (Kd.C_below HR255_5.out HB.out) | (with_reducible refine Kd.C_alloc ?_ _) | (with_reducible refine Kd.C_drewN ?_ _) | (with_reducible refine Kd.C_drew ?_))); (case side2 => exact HC255_5.out); rintro e w21 ⟨rfl, hb⟩; refine ⟨_, rfl, ?_⟩; have n0_ := Aside0.mk (blk_below (g := gb253) (o := .cells #[.int .i64 a0_0, .int .i64 a0_1, .string a0_2, .int .i64 a0_3, .int .i64 a0_4, .slice (some ad255) l0_5.length c0_5] 24 (0, 0)) (mvK BK253.out) hb); have n1_ := Aside0.mk (below_step (mvG HB.out GE253.out) hb); clear BK253; clear HB; have BK253 := n0_; have HB := n1_; clear n0_ n1_; (try clear hb); (try clear hb2); (try clear hk); (try clear hi)))
        go_ret
        exact exB (mvG HB.out GE253.out)
      ·rw [if_neg c14] at H; have c14b0 : decide (x5_2 < (l0_5.length : Int)) = false := decide_eq_false c14; clear c14; obtain rfl := Option.some.inj H
       have hcz22_0 : wr.cell? ⟨gb253, 0, none⟩ = some (.int .i64 a0_0) := (blk_cell BK253.out 0).trans rfl; have hcz22_1 : wr.cell? ⟨gb253, 1, none⟩ = some (.int .i64 a0_1) := (blk_cell BK253.out 1).trans rfl; have hcz22_2 : wr.cell? ⟨gb253, 2, none⟩ = some (.string a0_2) := (blk_cell BK253.out 2).trans rfl; have hcz22_3 : wr.cell? ⟨gb253, 3, none⟩ = some (.int .i64 a0_3) := (blk_cell BK253.out 3).trans rfl; have hcz22_4 : wr.cell? ⟨gb253, 4, none⟩ = some (.int .i64 a0_4) := (blk_cell BK253.out 4).trans rfl; have hcz22_5 : wr.cell? ⟨gb253, 5, none⟩ = some (.slice A0_5 l0_5.length c0_5) := (blk_cell BK253.out 5).trans rfl; have hfz22_0 := blk_frozen BK253.out 0; have hfz22_1 := blk_frozen BK253.out 1; have hfz22_2 := blk_frozen BK253.out 2; have hfz22_3 := blk_frozen BK253.out 3; have hfz22_4 := blk_frozen BK253.out 4; have hfz22_5 := blk_frozen BK253.out 5; go_wp2
       go_ret
       exact exB (mvG HB.out GE253.out)

/-! ### hopperref20_Size: function 33 -/
mutual
def hopperref20_Size.l0 : Nat → Int → Int → Int → Int → Int → ByteArray → Int → Int → List (S50) → Option (Int)
 | 0, _, _, _, _, _, _, _, _, _ => none
 | k + 1, x1, x5, x6, x258000, x258001, x258002, x258003, x258004, x258005 => if x6 < (x258005.length : Int) then (if x5 ≤ x1 then (if 0 ≤ x6 then ((hopperref20_Size.f k ((rd_T50 x258005 x6).f0) ((rd_T50 x258005 x6).f1) ((rd_T50 x258005 x6).f2) ((rd_T50 x258005 x6).f3) ((rd_T50 x258005 x6).f4) ((rd_T50 x258005 x6).f5) (wrap64 (x1 - x5))).bind fun t259 => (hopperref20_Size.l0 k x1 (wrap64 (x5 + t259)) (wrap64 (x6 + 1)) x258000 x258001 x258002 x258003 x258004 x258005)) else (none)) else (some x5)) else (some x5)
def hopperref20_Size.f : Nat → Int → Int → ByteArray → Int → Int → List (S50) → Int → Option (Int)
 | 0, _, _, _, _, _, _, _ => none
 | k + 1, a0_0, a0_1, a0_2, a0_3, a0_4, l0_5, a1 => hopperref20_Size.l0 k a1 1 0 a0_0 a0_1 a0_2 a0_3 a0_4 l0_5
end
theorem hopperref20_Size.calls (k : Nat) : ∀ (a0_0 : Int) (a0_1 : Int) (a0_2 : ByteArray) (a0_3 : Int) (a0_4 : Int) (A0_5 : Option Addr) (c0_5 : Nat) (l0_5 : List (S50)) (a1 : Int) (r : Int) (w : World) (hr0_5 : Kd.C k50 w A0_5 l0_5.length l0_5) (hc0_5 : l0_5.length ≤ c0_5) (h : hopperref20_Size.f k a0_0 a0_1 a0_2 a0_3 a0_4 l0_5 a1 = some r),
  Calls Try.prog 33 #[.agg #[.int .i64 a0_0, .int .i64 a0_1, .string a0_2, .int .i64 a0_3, .int .i64 a0_4, .slice A0_5 l0_5.length c0_5], .int .i64 a1] w fun e w' => e = .returned (.int .i64 r) ∧ Below w.heap.size w w' := by
 induction k using Nat.strongRecOn with
 | _ k ih =>
 intro a0_0 a0_1 a0_2 a0_3 a0_4 A0_5 c0_5 l0_5 a1 r w hr0_5 hc0_5 h
 cases k with
 | zero => exact absurd h (by simp [hopperref20_Size.f])
 | succ k =>
 simp only [hopperref20_Size.f] at h
 have hu50 := Try.underlying50; have HR0_5 := Aside0.mk hr0_5; have HC0_5 := Aside0.mk hc0_5; clear hr0_5 hc0_5; have HB := Aside0.mk (Below.refl w.heap.size w)
 have H : (hopperref20_Size.l0 k a1 1 0 a0_0 a0_1 a0_2 a0_3 a0_4 l0_5) = some r := h; clear h; have H' := Aside0.mk H
 clear H; go_enter Try.func33, Try.ntmps33
 go_wp2_with (first | ((with_reducible refine gate_dst (N := 2) rfl ?_); refine box_event ?hg (N := 2) ?hd (cs := #[.int .i64 a0_0, .int .i64 a0_1, .string a0_2, .int .i64 a0_3, .int .i64 a0_4, .slice A0_5 l0_5.length c0_5]) (t := 50) ?hr ?_; (case hd => rfl); (case hg => rfl); (case hr => first | (go_simp; done) | (go_simp; rfl) | (go_simp; simp (disch := omega) only [Go.u8_and63, Go.u8_and31, Go.u8_and15, Go.u8_and7, Go.u8_or128, Go.u8_or192, Go.u8_or224, Go.u8_or240, m64]; done)); intro gb257 hg w3 hbox hb; have n0_ := Aside0.mk (below_step (mvB HB.out) hb); have n1_ := Aside0.mk (hbox); have n2_ := Aside0.mk ((by rw [hg]; exact (below_size (mvB HB.out)) : w.heap.size ≤ gb257)); have n3_ := Aside0.mk ((by rw [hg]; exact (below_size (mvB HB.out)) : w.heap.size ≤ gb257)); clear HB; have HB := n0_; have BK257 := n1_; have GW257 := n2_; have GE257 := n3_; clear n0_ n1_ n2_ n3_; clear hb hbox hg))
 go_loopg [5, 6] k (fun kq v5 v6 w' => ∃ (x5_1 : Int) (x6_1 : Int), v5 = .int .i64 x5_1 ∧ v6 = .int .i64 x6_1 ∧ Aside0 (hopperref20_Size.l0 kq a1 x5_1 x6_1 a0_0 a0_1 a0_2 a0_3 a0_4 l0_5 = some r) ∧ Aside0 (kq ≤ k) ∧ Aside0 (w'.heap[gb257]? = some (.cells #[.int .i64 a0_0, .int .i64 a0_1, .string a0_2, .int .i64 a0_3, .int .i64 a0_4, (.slice A0_5 l0_5.length c0_5)] 50 (0, 0))) ∧ Aside0 (Below w.heap.size w w'))
 case atStart => exact ⟨(1), (0), (by first | rfl | (simp; done) | (simp [*]; done)), (by first | rfl | (simp; done) | (simp [*]; done)), H', ⟨Nat.le_refl _⟩, ⟨mvK BK257.out⟩, ⟨mvG HB.out GE257.out⟩⟩
 case round =>
  clear H'; try clear p2
  try clear c3
  obtain ⟨x5_1, x6_1, rfl, rfl, HA, HK1, BK257, HB⟩ := hrel
  cases gk with
  | zero => exact absurd HA.out (by simp [hopperref20_Size.l0])
  | succ k1 =>
   have H := HA.out; clear HA; simp only [hopperref20_Size.l0] at H
   by_cases c4 : x6_1 < (l0_5.length : Int)
   ·rw [if_pos c4] at H; have c4b0 : decide (x6_1 < (l0_5.length : Int)) = true := decide_eq_true c4; clear c4; by_cases c5 : x5_1 ≤ a1
    ·rw [if_pos c5] at H; have c5b0 : decide (x5_1 ≤ a1) = true := decide_eq_true c5; clear c5; by_cases c6 : 0 ≤ x6_1
     case neg => rw [if_neg c6] at H; exact absurd H (by simp)
     rw [if_pos c6] at H; have c6b0 : decide (0 ≤ x6_1) = true := decide_eq_true c6; clear c6; replace H := Option.bind_eq_some_iff.mp H; obtain ⟨t259, A70, H⟩ := H; replace H : (hopperref20_Size.l0 k1 a1 (wrap64 (x5_1 + t259)) (wrap64 (x6_1 + 1)) a0_0 a0_1 a0_2 a0_3 a0_4 l0_5) = some r := H
     have A7 := Aside0.mk A70; clear A70; have H' := Aside0.mk H
     clear H; have hcz8_0 : wr.cell? ⟨gb257, 0, none⟩ = some (.int .i64 a0_0) := (blk_cell BK257.out 0).trans rfl; have hcz8_1 : wr.cell? ⟨gb257, 1, none⟩ = some (.int .i64 a0_1) := (blk_cell BK257.out 1).trans rfl; have hcz8_2 : wr.cell? ⟨gb257, 2, none⟩ = some (.string a0_2) := (blk_cell BK257.out 2).trans rfl; have hcz8_3 : wr.cell? ⟨gb257, 3, none⟩ = some (.int .i64 a0_3) := (blk_cell BK257.out 3).trans rfl; have hcz8_4 : wr.cell? ⟨gb257, 4, none⟩ = some (.int .i64 a0_4) := (blk_cell BK257.out 4).trans rfl; have hcz8_5 : wr.cell? ⟨gb257, 5, none⟩ = some (.slice A0_5 l0_5.length c0_5) := (blk_cell BK257.out 5).trans rfl; have hfz8_0 := blk_frozen BK257.out 0; have hfz8_1 := blk_frozen BK257.out 1; have hfz8_2 := blk_frozen BK257.out 2; have hfz8_3 := blk_frozen BK257.out 3; have hfz8_4 := blk_frozen BK257.out 4; have hfz8_5 := blk_frozen BK257.out 5; have p258 : 0 ≤ (x6_1 : Int) := dtA; have q258 : x6_1 < (l0_5.length : Int) := dtA; obtain ⟨ad258, A258_5, c258_5, e258, hx258_0, hx258_1, hx258_2, hx258_3, hx258_4, hx258_5, hl258_5, hi258_5⟩ := at_T50 HR0_5.out x6_1 p258 q258
     cases e258
     replace hx258_0 := (HB.out.cell (World.block_lt_of_cell? w _ hx258_0)).trans hx258_0
     replace hx258_1 := (HB.out.cell (World.block_lt_of_cell? w _ hx258_1)).trans hx258_1
     replace hx258_2 := (HB.out.cell (World.block_lt_of_cell? w _ hx258_2)).trans hx258_2
     replace hx258_3 := (HB.out.cell (World.block_lt_of_cell? w _ hx258_3)).trans hx258_3
     replace hx258_4 := (HB.out.cell (World.block_lt_of_cell? w _ hx258_4)).trans hx258_4
     replace hx258_5 := (HB.out.cell (World.block_lt_of_cell? w _ hx258_5)).trans hx258_5
     have HR258_5 := Aside0.mk hi258_5; have HC258_5 := Aside0.mk hl258_5; clear hi258_5 hl258_5; replace p258 := eq_true p258; replace q258 := eq_true q258; go_wp2_with (first | ((with_reducible refine gate_callee (f := 33) rfl ?_); refine goesL_ (some 28) rfl rfl Try.func33 (by kernel_rfl) rfl #[.agg #[.int .i64 ((rd_T50 l0_5 x6_1).f0), .int .i64 ((rd_T50 l0_5 x6_1).f1), .string ((rd_T50 l0_5 x6_1).f2), .int .i64 ((rd_T50 l0_5 x6_1).f3), .int .i64 ((rd_T50 l0_5 x6_1).f4), .slice A258_5 ((rd_T50 l0_5 x6_1).f5).length c258_5], .int .i64 (wrap64 (a1 - x5_1))] rfl (by (try simp only [List.map_toArray, List.map_cons, List.map_nil]); first | done | rfl | (simp only [List.length_drop, List.length_take]; rfl)) ?_; (with_reducible refine (ih k1 (by have := HK1.out; omega) ((rd_T50 l0_5 x6_1).f0) ((rd_T50 l0_5 x6_1).f1) ((rd_T50 l0_5 x6_1).f2) ((rd_T50 l0_5 x6_1).f3) ((rd_T50 l0_5 x6_1).f4) _ _ ((rd_T50 l0_5 x6_1).f5) (wrap64 (a1 - x5_1)) t259 _ ?side1 ?side2 A7.out).mono ?_); (case side1 => repeat (first | exact (Kd.C_below HR258_5.out HB.out) | (with_reducible refine Kd.C_alloc ?_ _) | (with_reducible refine Kd.C_drewN ?_ _) | (with_reducible refine Kd.C_drew ?_))); (case side2 => exact HC258_5.out); rintro e w9 ⟨rfl, hb⟩; refine ⟨_, rfl, ?_⟩; have n0_ := Aside0.mk (blk_below (g := gb257) (o := .cells #[.int .i64 a0_0, .int .i64 a0_1, .string a0_2, .int .i64 a0_3, .int .i64 a0_4, .slice (some ad258) l0_5.length c0_5] 50 (0, 0)) (mvK BK257.out) hb); have n1_ := Aside0.mk (below_step (mvG HB.out GE257.out) hb); clear BK257; clear HB; have BK257 := n0_; have HB := n1_; clear n0_ n1_; (try clear hb); (try clear hb2); (try clear hk); (try clear hi)))
     go_roundg k1
     case measure => have := HK1.out; omega
     case rel => exact ⟨(wrap64 (x5_1 + t259)), (wrap64 (x6_1 + 1)), (by first | rfl | (simp; done) | (simp [*]; done)), (by first | rfl | (simp; done) | (simp [*]; done)), H', ⟨by have := HK1.out; omega⟩, ⟨mvK BK257.out⟩, ⟨mvG HB.out GE257.out⟩⟩
    ·rw [if_neg c5] at H; have c5b0 : decide (x5_1 ≤ a1) = false := decide_eq_false c5; clear c5; obtain rfl := Option.some.inj H
     have hcz10_0 : wr.cell? ⟨gb257, 0, none⟩ = some (.int .i64 a0_0) := (blk_cell BK257.out 0).trans rfl; have hcz10_1 : wr.cell? ⟨gb257, 1, none⟩ = some (.int .i64 a0_1) := (blk_cell BK257.out 1).trans rfl; have hcz10_2 : wr.cell? ⟨gb257, 2, none⟩ = some (.string a0_2) := (blk_cell BK257.out 2).trans rfl; have hcz10_3 : wr.cell? ⟨gb257, 3, none⟩ = some (.int .i64 a0_3) := (blk_cell BK257.out 3).trans rfl; have hcz10_4 : wr.cell? ⟨gb257, 4, none⟩ = some (.int .i64 a0_4) := (blk_cell BK257.out 4).trans rfl; have hcz10_5 : wr.cell? ⟨gb257, 5, none⟩ = some (.slice A0_5 l0_5.length c0_5) := (blk_cell BK257.out 5).trans rfl; have hfz10_0 := blk_frozen BK257.out 0; have hfz10_1 := blk_frozen BK257.out 1; have hfz10_2 := blk_frozen BK257.out 2; have hfz10_3 := blk_frozen BK257.out 3; have hfz10_4 := blk_frozen BK257.out 4; have hfz10_5 := blk_frozen BK257.out 5; go_wp2
     go_ret
     exact exB (mvG HB.out GE257.out)
   ·rw [if_neg c4] at H; have c4b0 : decide (x6_1 < (l0_5.length : Int)) = false := decide_eq_false c4; clear c4; obtain rfl := Option.some.inj H
    have hcz11_0 : wr.cell? ⟨gb257, 0, none⟩ = some (.int .i64 a0_0) := (blk_cell BK257.out 0).trans rfl; have hcz11_1 : wr.cell? ⟨gb257, 1, none⟩ = some (.int .i64 a0_1) := (blk_cell BK257.out 1).trans rfl; have hcz11_2 : wr.cell? ⟨gb257, 2, none⟩ = some (.string a0_2) := (blk_cell BK257.out 2).trans rfl; have hcz11_3 : wr.cell? ⟨gb257, 3, none⟩ = some (.int .i64 a0_3) := (blk_cell BK257.out 3).trans rfl; have hcz11_4 : wr.cell? ⟨gb257, 4, none⟩ = some (.int .i64 a0_4) := (blk_cell BK257.out 4).trans rfl; have hcz11_5 : wr.cell? ⟨gb257, 5, none⟩ = some (.slice A0_5 l0_5.length c0_5) := (blk_cell BK257.out 5).trans rfl; have hfz11_0 := blk_frozen BK257.out 0; have hfz11_1 := blk_frozen BK257.out 1; have hfz11_2 := blk_frozen BK257.out 2; have hfz11_3 := blk_frozen BK257.out 3; have hfz11_4 := blk_frozen BK257.out 4; have hfz11_5 := blk_frozen BK257.out 5; go_wp2
    go_ret
    exact exB (mvG HB.out GE257.out)

end Go.Proofs.Ytomccmodlkdcbaa.Q
