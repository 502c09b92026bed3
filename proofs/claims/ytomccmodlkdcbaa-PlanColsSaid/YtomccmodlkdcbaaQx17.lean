-- PRINTED by print.py (a twelfth state) out of the translation. Not trusted: Lean checks it.
import Derived.Test.YtomccmodlkdcbaaQx0
import Derived.Test.YtomccmodlkdcbaaQx1
import Derived.Test.YtomccmodlkdcbaaQx10
import Derived.Test.YtomccmodlkdcbaaQx12
import Derived.Test.YtomccmodlkdcbaaQx13
import Derived.Test.YtomccmodlkdcbaaQx14
import Derived.Test.YtomccmodlkdcbaaQx15
import Derived.Test.YtomccmodlkdcbaaQx16
namespace Go.Proofs.Ytomccmodlkdcbaa.Q
open Go.RowKit Go.Proofs.YtomccmodlkdcbaaW.PrintWords Go.Proofs.YtomccmodlkdcbaaW.PrintLast Go.Proofs.YtomccmodlkdcbaaW.PrintMore
attribute [local go_sem] str_gtr str_geq str_leq max2_int min2_int max_two min_two max_three min_three max_four min_four   -- for this text's walks alone
set_option linter.unusedVariables false
set_option linter.unusedSimpArgs false

/-! ### hopperref25_Cols: function 13 -/
-- told by hand
/-- A table's columns, 0 if there is none. -/
def tabCols (nm : ByteArray) : List S46 → Int
  | [] => 0
  | t :: ts => if (t.f0.toList == nm.toList) = true then t.f1 else tabCols nm ts
def r20P (k : Nat) (n : Int) (x : S50) : Option Bool := refRightS k x n 12
def okP (k : Nat) (p : S31) (n m : Int) : Option Bool := if p.f0 = 2 then refRightP k p.f2 n 12 else if p.f0 = 3 then (if p.f3.length < 1 then some false else if 8 < p.f3.length then some false else allE (r20P k n) p.f3) else
  if p.f0 = 4 then hopperref22_Right.f k p.f4 p.f5 n else if p.f0 = 5 then hopperref23_Right.f k p.f6 p.f7 p.f8 n m else if p.f0 = 6 then (if 0 < p.f9.length then hopperref24_Right.f k p.f9 n else some false) else some (decide (0 ≤ p.f10) && decide (0 ≤ p.f11))
def outP (p : S31) (n m : Int) : Int := if p.f0 = 3 then (p.f3.length : Int) else if p.f0 = 4 then wrap64 ((p.f4.length : Int) + (p.f5.length : Int)) else if p.f0 = 5 then (if p.f6 ≤ 2 then wrap64 (n + m) else n) else n
def endP (ok : Bool) (out : Int) : Int := if ok = false then 0 else if 8 < out then 0 else out
def refColsP : Nat → S31 → List S46 → Int → Option Int
  | 0, _, _, _ => none
  | k + 1, p, l1, deep => if deep < 1 then some 0 else if p.f0 < 1 then some 0 else if 7 < p.f0 then some 0 else if bareB p = false then some 0 else
    if p.f0 = 1 then some (if p.f12.length = 0 then tabCols p.f1 l1 else 0) else if (p.f12.length : Int) ≠ kidsN p.f0 then some 0 else
    (refColsP k (p.f12.getD 0 z31) l1 (wrap64 (deep - 1))).bind fun n => (if p.f0 = 5 then refColsP k (p.f12.getD 1 z31) l1 (wrap64 (deep - 1)) else some n).bind fun m =>
      if n = 0 then some 0 else if m = 0 then some 0 else (okP k p n m).bind fun ok => some (endP ok (outP p n m))
def hopperref25_Cols.f (k : Nat) (a0_0 : Int) (a0_1 : ByteArray) (a0_2 : Int) (a0_3 : Int) (a0_4 : ByteArray) (a0_5 : Int) (a0_6 : Int) (l0_7 : List S24) (l0_8 : List S50) (l0_9 : List Int) (l0_10 : List S72) (a0_11 : Int) (l0_12 : List Int) (l0_13 : List Int) (l0_14 : List S52) (a0_15 : Int) (a0_16 : Int) (l0_17 : List S31) (l1 : List S46) (a2 : Int) : Option Int := refColsP k ⟨a0_0, a0_1, ⟨a0_2, a0_3, a0_4, a0_5, a0_6, l0_7⟩, l0_8, l0_9, l0_10, a0_11, l0_12, l0_13, l0_14, a0_15, a0_16, l0_17⟩ l1 a2
set_option maxHeartbeats 8000000 in
set_option maxRecDepth 1000000 in
theorem hopperref25_Cols.early (p : S31) (cs : List Value) (A1 : Option Addr) (c1 : Nat) (l1 : List S46) (deep : Int) (r : Int) (w : World) (hK : k31.K w p cs) (hr1 : Kd.C k46 w A1 l1.length l1) (hc1 : l1.length ≤ c1) (h : (if deep < 1 then some 0 else if p.f0 < 1 then some 0 else if 7 < p.f0 then some 0 else if bareB p = false then some 0 else none) = some r) :
    Calls Try.prog 13 #[.agg cs.toArray, .slice A1 l1.length c1, .int .i64 deep] w fun e w' => e = .returned (.int .i64 r) ∧ Below w.heap.size w w' := by
  have hagg : ∀ W, (isAgg 31).run Try.prog W = .ok true W := fun W => by first | exact Try.isAgg31 | exact Try.isAgg31 W | go_simp
  have hsz18 : ∀ W, (sizeOf 31).run Try.prog W = .ok 18 W := fun W => by first | exact Try.sizeOf31 | exact Try.sizeOf31 W | go_simp
  have HAGG := Aside0.mk hagg
  have HSZ := Aside0.mk hsz18
  clear hagg hsz18
  have hu31 := Try.underlying31
  have HL18 := Aside0.mk (show cs.length = 18 from k31.K_len hK)
  have HBR0 := Aside0.mk (fun W (hb : Below w.heap.size w W) => hopperref25_bare.core p cs W (k31.K_below hb hK))
  obtain ⟨A7, c7, A8, c8, A9, c9, A10, c10, A12, c12, A13, c13, A14, c14, A17, c17, e_, l7, g7, l8, g8, l9, g9, l10, g10, l12, g12, l13, g13, l14, g14, l17, g17⟩ := k31_open hK
  have H0 := Aside0.mk (show cs[0]? = some (.int .i64 p.f0) from by rw [e_]; rfl)
  have H1 := Aside0.mk (show cs[1]? = some (.string p.f1) from by rw [e_]; rfl)
  have H8 := Aside0.mk (show cs[8]? = some (.slice A8 p.f3.length c8) from by rw [e_]; rfl)
  have H9 := Aside0.mk (show cs[9]? = some (.slice A9 p.f4.length c9) from by rw [e_]; rfl)
  have H10 := Aside0.mk (show cs[10]? = some (.slice A10 p.f5.length c10) from by rw [e_]; rfl)
  have H11 := Aside0.mk (show cs[11]? = some (.int .i64 p.f6) from by rw [e_]; rfl)
  have H12 := Aside0.mk (show cs[12]? = some (.slice A12 p.f7.length c12) from by rw [e_]; rfl)
  have H13 := Aside0.mk (show cs[13]? = some (.slice A13 p.f8.length c13) from by rw [e_]; rfl)
  have H14 := Aside0.mk (show cs[14]? = some (.slice A14 p.f9.length c14) from by rw [e_]; rfl)
  have H15 := Aside0.mk (show cs[15]? = some (.int .i64 p.f10) from by rw [e_]; rfl)
  have H16 := Aside0.mk (show cs[16]? = some (.int .i64 p.f11) from by rw [e_]; rfl)
  have H17 := Aside0.mk (show cs[17]? = some (.slice A17 p.f12.length c17) from by rw [e_]; rfl)
  have G8 := Aside0.mk g8
  have G9 := Aside0.mk g9
  have G10 := Aside0.mk g10
  have G12 := Aside0.mk g12
  have G13 := Aside0.mk g13
  have G14 := Aside0.mk g14
  have G17 := Aside0.mk g17
  have L8 := Aside0.mk l8
  have L9 := Aside0.mk l9
  have L10 := Aside0.mk l10
  have L12 := Aside0.mk l12
  have L13 := Aside0.mk l13
  have L14 := Aside0.mk l14
  have HBR := HBR0
  clear HBR0 G8 G9 G10 G12 G13 G14 G17 L8 L9 L10 L12 L13 L14 H1 H8 H9 H10 H11 H12 H13 H14 H15 H16 H17
  clear hK e_ l7 g7 l8 g8 l9 g9 l10 g10 l12 g12 l13 g13 l14 g14 l17 g17
  by_cases q1 : deep < 1
  · rw [if_pos q1] at h
    obtain rfl := Option.some.inj h
    have q1b : decide (deep < 1) = true := decide_eq_true q1
    clear h
    go_enter Try.func13, Try.ntmps13
    go_wp2_with (first
      | ((with_reducible refine gate_dst (N := 3) rfl ?_); refine box_all rfl rfl (cs := cs.toArray) rfl (fun W => by rw [List.size_toArray, HL18.out]; exact HSZ.out W) ?_; intro w1 hbx hbw; have BW1 := Aside0.mk hbw; have BX1 := Aside0.mk hbx; have hcv0 : w1.cell? ⟨w.heap.size, 0, none⟩ = some (.int .i64 p.f0) := blk_cells BX1.out 0 _ H0.out; clear hbx hbw))
    go_ret
    exact ⟨rfl, BW1.out⟩
  rw [if_neg q1] at h
  have q1b : decide (deep < 1) = false := decide_eq_false q1
  by_cases q2 : p.f0 < 1
  · rw [if_pos q2] at h
    obtain rfl := Option.some.inj h
    have q2b : decide (p.f0 < 1) = true := decide_eq_true q2
    clear h
    go_enter Try.func13, Try.ntmps13
    go_wp2_with (first
      | ((with_reducible refine gate_dst (N := 3) rfl ?_); refine box_all rfl rfl (cs := cs.toArray) rfl (fun W => by rw [List.size_toArray, HL18.out]; exact HSZ.out W) ?_; intro w1 hbx hbw; have BW1 := Aside0.mk hbw; have BX1 := Aside0.mk hbx; have hcv0 : w1.cell? ⟨w.heap.size, 0, none⟩ = some (.int .i64 p.f0) := blk_cells BX1.out 0 _ H0.out; clear hbx hbw))
    go_ret
    exact ⟨rfl, BW1.out⟩
  rw [if_neg q2] at h
  have q2b : decide (p.f0 < 1) = false := decide_eq_false q2
  by_cases q3 : 7 < p.f0
  · rw [if_pos q3] at h
    obtain rfl := Option.some.inj h
    have q3b : decide (7 < p.f0) = true := decide_eq_true q3
    clear h
    go_enter Try.func13, Try.ntmps13
    go_wp2_with (first
      | ((with_reducible refine gate_dst (N := 3) rfl ?_); refine box_all rfl rfl (cs := cs.toArray) rfl (fun W => by rw [List.size_toArray, HL18.out]; exact HSZ.out W) ?_; intro w1 hbx hbw; have BW1 := Aside0.mk hbw; have BX1 := Aside0.mk hbx; have hcv0 : w1.cell? ⟨w.heap.size, 0, none⟩ = some (.int .i64 p.f0) := blk_cells BX1.out 0 _ H0.out; clear hbx hbw))
    go_ret
    exact ⟨rfl, BW1.out⟩
  rw [if_neg q3] at h
  have q3b : decide (7 < p.f0) = false := decide_eq_false q3
  cases hba : bareB p with
  | true => rw [hba] at h; cases h
  | false =>
  rw [hba] at HBR
  rw [hba, if_pos rfl] at h
  obtain rfl := Option.some.inj h
  clear h hba
  go_enter Try.func13, Try.ntmps13
  go_wp2_with (first
    | ((with_reducible refine gate_dst (N := 3) rfl ?_); refine box_all rfl rfl (cs := cs.toArray) rfl (fun W => by rw [List.size_toArray, HL18.out]; exact HSZ.out W) ?_; intro w1 hbx hbw; have BW1 := Aside0.mk hbw; have BX1 := Aside0.mk hbx; have hcv0 : w1.cell? ⟨w.heap.size, 0, none⟩ = some (.int .i64 p.f0) := blk_cells BX1.out 0 _ H0.out; clear hbx hbw)
    | ((with_reducible refine gate_dst (N := 26) rfl ?_); (try (refine gate_guard (by rfl) ?_; dsimp only)); refine load_all rfl rfl (cs := cs) rfl HAGG.out (fun W => by rw [HL18.out]; exact HSZ.out W) (blk_cells BX1.out) ?_)
    | (go_at_call 23; refine (HBR.out _ BW1.out).mono ?_; rintro e w2 ⟨rfl, hb2⟩; have BW2 := Aside0.mk (below_step BW1.out hb2); have BX2 := Aside0.mk (blk_keep hb2 BX1.out); clear hb2 BW1 BX1; clear hcv0; have hcv0 : w2.cell? ⟨w.heap.size, 0, none⟩ = some (.int .i64 p.f0) := blk_cells BX2.out 0 _ H0.out))
  go_ret
  exact ⟨rfl, BW2.out⟩
set_option maxHeartbeats 8000000 in
set_option maxRecDepth 1000000 in
theorem hopperref25_Cols.kind1 (p : S31) (cs : List Value) (A1 : Option Addr) (c1 : Nat) (l1 : List S46) (deep : Int) (r : Int) (w : World) (hK : k31.K w p cs) (hr1 : Kd.C k46 w A1 l1.length l1) (hc1 : l1.length ≤ c1) (q1 : ¬ deep < 1) (hba : bareB p = true) (hk : p.f0 = 1) (h : r = (if p.f12.length = 0 then tabCols p.f1 l1 else 0)) :
    Calls Try.prog 13 #[.agg cs.toArray, .slice A1 l1.length c1, .int .i64 deep] w fun e w' => e = .returned (.int .i64 r) ∧ Below w.heap.size w w' := by
  have hagg : ∀ W, (isAgg 31).run Try.prog W = .ok true W := fun W => by first | exact Try.isAgg31 | exact Try.isAgg31 W | go_simp
  have hsz18 : ∀ W, (sizeOf 31).run Try.prog W = .ok 18 W := fun W => by first | exact Try.sizeOf31 | exact Try.sizeOf31 W | go_simp
  have HAGG := Aside0.mk hagg
  have HSZ := Aside0.mk hsz18
  clear hagg hsz18
  have hu31 := Try.underlying31
  have HL18 := Aside0.mk (show cs.length = 18 from k31.K_len hK)
  have HBR0 := Aside0.mk (fun W (hb : Below w.heap.size w W) => hopperref25_bare.core p cs W (k31.K_below hb hK))
  obtain ⟨A7, c7, A8, c8, A9, c9, A10, c10, A12, c12, A13, c13, A14, c14, A17, c17, e_, l7, g7, l8, g8, l9, g9, l10, g10, l12, g12, l13, g13, l14, g14, l17, g17⟩ := k31_open hK
  have H0 := Aside0.mk (show cs[0]? = some (.int .i64 p.f0) from by rw [e_]; rfl)
  have H1 := Aside0.mk (show cs[1]? = some (.string p.f1) from by rw [e_]; rfl)
  have H8 := Aside0.mk (show cs[8]? = some (.slice A8 p.f3.length c8) from by rw [e_]; rfl)
  have H9 := Aside0.mk (show cs[9]? = some (.slice A9 p.f4.length c9) from by rw [e_]; rfl)
  have H10 := Aside0.mk (show cs[10]? = some (.slice A10 p.f5.length c10) from by rw [e_]; rfl)
  have H11 := Aside0.mk (show cs[11]? = some (.int .i64 p.f6) from by rw [e_]; rfl)
  have H12 := Aside0.mk (show cs[12]? = some (.slice A12 p.f7.length c12) from by rw [e_]; rfl)
  have H13 := Aside0.mk (show cs[13]? = some (.slice A13 p.f8.length c13) from by rw [e_]; rfl)
  have H14 := Aside0.mk (show cs[14]? = some (.slice A14 p.f9.length c14) from by rw [e_]; rfl)
  have H15 := Aside0.mk (show cs[15]? = some (.int .i64 p.f10) from by rw [e_]; rfl)
  have H16 := Aside0.mk (show cs[16]? = some (.int .i64 p.f11) from by rw [e_]; rfl)
  have H17 := Aside0.mk (show cs[17]? = some (.slice A17 p.f12.length c17) from by rw [e_]; rfl)
  have G8 := Aside0.mk g8
  have G9 := Aside0.mk g9
  have G10 := Aside0.mk g10
  have G12 := Aside0.mk g12
  have G13 := Aside0.mk g13
  have G14 := Aside0.mk g14
  have G17 := Aside0.mk g17
  have L8 := Aside0.mk l8
  have L9 := Aside0.mk l9
  have L10 := Aside0.mk l10
  have L12 := Aside0.mk l12
  have L13 := Aside0.mk l13
  have L14 := Aside0.mk l14
  clear hK e_ l7 g7 l8 g8 l9 g9 l10 g10 l12 g12 l13 g13 l14 g14 l17 g17
  have HBR := HBR0
  clear HBR0
  rw [hba] at HBR
  clear hba
  have q1b : decide (deep < 1) = false := decide_eq_false q1
  have q2b : decide (p.f0 < 1) = false := decide_eq_false (by omega)
  have q3b : decide (7 < p.f0) = false := decide_eq_false (by omega)
  have q2c : ¬ p.f0 < 1 := by omega
  have q3c : ¬ 7 < p.f0 := by omega
  have k1b : (p.f0 == 1) = true := by rw [hk]; rfl
  have k2b : (p.f0 == 2) = false := by rw [hk]; rfl
  have k3b : (p.f0 == 3) = false := by rw [hk]; rfl
  have k4b : (p.f0 == 4) = false := by rw [hk]; rfl
  have k5b : (p.f0 == 5) = false := by rw [hk]; rfl
  have k6b : (p.f0 == 6) = false := by rw [hk]; rfl
  have k7b : (p.f0 == 7) = false := by rw [hk]; rfl
  have k5n : (p.f0 != 5) = true := by rw [hk]; rfl
  have HR1 := Aside0.mk hr1
  have HH := Aside0.mk h
  have hln : l1.length ≤ 9223372036854775807 := hr1.2.1
  have HLN := Aside0.mk hln
  clear hr1 h hk q1 hln
  go_enter Try.func13, Try.ntmps13
  go_upto_if 42 with (first
    | ((with_reducible refine gate_dst (N := 3) rfl ?_); refine box_all rfl rfl (cs := cs.toArray) rfl (fun W => by rw [List.size_toArray, HL18.out]; exact HSZ.out W) ?_; intro w1 hbx hbw; have BW1 := Aside0.mk hbw; have BX1 := Aside0.mk hbx; have hcv0 : w1.cell? ⟨w.heap.size, 0, none⟩ = some (.int .i64 p.f0) := blk_cells BX1.out 0 _ H0.out; clear hbx hbw)
    | ((with_reducible refine gate_dst (N := 26) rfl ?_); (try (refine gate_guard (by rfl) ?_; dsimp only)); refine load_all rfl rfl (cs := cs) rfl HAGG.out (fun W => by rw [HL18.out]; exact HSZ.out W) (blk_cells BX1.out) ?_)
    | (go_at_call 23; refine (HBR.out _ BW1.out).mono ?_; rintro e w2 ⟨rfl, hb2⟩; have BW2 := Aside0.mk (below_step BW1.out hb2); have BX2 := Aside0.mk (blk_keep hb2 BX1.out); clear hb2 BW1 BX1; clear hcv0; have hcv0 : w2.cell? ⟨w.heap.size, 0, none⟩ = some (.int .i64 p.f0) := blk_cells BX2.out 0 _ H0.out))
  clear hcv0
  go_loopg [7] l1.length (fun gg s7 wr => ∃ (i : Nat), s7 = .int .i64 i ∧ i ≤ l1.length ∧ l1.length - i ≤ gg ∧ Aside0 (r = (if p.f12.length = 0 then tabCols p.f1 (l1.drop i) else 0)) ∧ Aside0 (Below w.heap.size w wr) ∧ Aside0 (wr.heap[w.heap.size]? = some (.cells cs.toArray 31 (0, 0))))
  case atStart => exact ⟨0, rfl, Nat.zero_le _, by omega, HH, BW2, BX2⟩
  case round =>
    clear HH BW2 BX2
    obtain ⟨i, rfl, hin, hg0, HH, BW, BX⟩ := hrel
    have hcv17 : wr.cell? ⟨w.heap.size, 17, none⟩ = some (.slice A17 p.f12.length c17) := blk_cells BX.out 17 _ H17.out
    have hn := HLN.out
    by_cases hlt : i < l1.length
    · have hltz : (i : Int) < (l1.length : Int) := by omega
      have hi0 : (0 : Int) ≤ (i : Int) := by omega
      by_cases hkz : p.f12.length = 0
      · have hkzb : ((p.f12.length : Int) == 0) = true := by rw [hkz]; rfl
        obtain ⟨ad, e0, x0, x1⟩ := at_T46 HR1.out (i : Int) hi0 hltz
        rw [show ((i : Int)).toNat = i by omega] at x0 x1
        have hy0 : rd_T46 l1 (i : Int) = l1.getD i z46 := by unfold rd_T46; rw [show ((i : Int)).toNat = i by omega]
        rw [hy0] at x0 x1
        have e1 := HH.out
        rw [if_pos hkz, drop_getE z46 l1 i hlt] at e1
        simp only [tabCols] at e1
        generalize l1.getD i z46 = y at x0 x1 e1
        subst e0
        have HNM := Aside0.mk x0
        have HCO := Aside0.mk x1
        have HE := Aside0.mk e1
        clear x0 x1 e1 HH hy0
        go_upto_region 7 with (fail)
        clear hcv17
        have HBd := below_drew1 BW.out
        have BXd := blk_drew BX.out
        clear BW BX
        refine start_ (n := 8) (S := fun w' => Aside0 (Below w.heap.size w w') ∧ Aside0 (w'.heap[w.heap.size]? = some (.cells cs.toArray 31 (0, 0)))) (ds := []) #[false, false, false, false, false, false, false, false] (by kernel_rfl) rfl rfl ⟨⟨HBd⟩, ⟨BXd⟩⟩ (fun hHeld => ?_)
        clear HBd BXd
        generalize wr.drew = wR at hHeld ⊢
        refine pure_ (i := 0) (N := some 45) (v := ?_) (a' := ?_) #[true, false, false, false, false, false, false, false] rfl rfl (by kernel_rfl) (fun _ _ _ h => h) (Or.inl ⟨by rfl, ?_⟩) ?_ ?_
        rotate_left
        · intro w'
          go_simp
          with_reducible rfl
        rotate_left
        · simp only [Act.put, List.setIfInBounds_toArray, List.set_cons_zero, List.set_cons_succ, i64_w, i32_w]
          rfl
        refine pure_ (i := 1) (N := some 46) (v := ?_) (a' := ?_) #[true, true, false, false, false, false, false, false] rfl rfl (by kernel_rfl) (fun _ _ _ h => h) (Or.inl ⟨by rfl, ?_⟩) ?_ ?_
        rotate_left
        · intro w'
          go_simp
          with_reducible rfl
        rotate_left
        · simp only [Act.put, List.setIfInBounds_toArray, List.set_cons_zero, List.set_cons_succ, i64_w, i32_w]
          rfl
        refine pure_ (i := 2) (N := some 47) (v := ?_) (a' := ?_) #[true, true, true, false, false, false, false, false] rfl rfl (by kernel_rfl) (fun _ _ _ h => h) (Or.inl ⟨by rfl, ?_⟩) ?_ ?_
        rotate_left
        · intro w'
          go_simp
          with_reducible rfl
        rotate_left
        · simp only [Act.put, List.setIfInBounds_toArray, List.set_cons_zero, List.set_cons_succ, i64_w, i32_w]
          rfl
        refine pure_ (i := 3) (N := some 48) (v := ?_) (a' := ?_) #[true, true, true, true, false, false, false, false] rfl rfl (by kernel_rfl) (fun _ _ _ h => h) (Or.inl ⟨by rfl, ?_⟩) ?_ ?_
        rotate_left
        · intro w'
          go_simp
          with_reducible rfl
        rotate_left
        · simp only [Act.put, List.setIfInBounds_toArray, List.set_cons_zero, List.set_cons_succ, i64_w, i32_w]
          rfl
        refine take_ (i := 4) (N := some 49) (v := ?_) (a' := ?_) #[true, true, true, true, true, false, false, false] rfl rfl (by kernel_rfl) (fun _ _ _ h => h) (Or.inl ⟨by rfl, ?_⟩) hHeld ?_ ?_
        rotate_left
        · intro w' hs
          have hcv := (hs.1.out.cell (World.block_lt_of_cell? w _ HNM.out)).trans HNM.out
          clear hs
          go_simp
          with_reducible rfl
        rotate_left
        · simp only [Act.put, List.setIfInBounds_toArray, List.set_cons_zero, List.set_cons_succ, i64_w, i32_w]
          rfl
        refine pure_ (i := 5) (N := some 50) (v := ?_) (a' := ?_) #[true, true, true, true, true, true, false, false] rfl rfl (by kernel_rfl) (fun _ _ _ h => h) (Or.inl ⟨by rfl, ?_⟩) ?_ ?_
        rotate_left
        · intro w'
          go_simp
          with_reducible rfl
        rotate_left
        · simp only [Act.put, List.setIfInBounds_toArray, List.set_cons_zero, List.set_cons_succ, i64_w, i32_w]
          rfl
        refine take_ (i := 6) (N := some 51) (v := ?_) (a' := ?_) #[true, true, true, true, true, true, true, false] rfl rfl (by kernel_rfl) (fun _ _ _ h => h) (Or.inl ⟨by rfl, ?_⟩) hHeld ?_ ?_
        rotate_left
        · intro w' hs
          have hcv : w'.cell? ⟨w.heap.size, 1, none⟩ = some (.string p.f1) := blk_cells hs.2.out 1 _ H1.out
          clear hs
          go_simp
          with_reducible rfl
        rotate_left
        · simp only [Act.put, List.setIfInBounds_toArray, List.set_cons_zero, List.set_cons_succ, i64_w, i32_w]
          rfl
        refine pure_ (i := 7) (N := some 52) (v := ?_) (a' := ?_) #[true, true, true, true, true, true, true, true] rfl rfl (by kernel_rfl) (fun _ _ _ h => h) (Or.inl ⟨by rfl, ?_⟩) ?_ ?_
        rotate_left
        · intro w'
          go_simp
          with_reducible rfl
        rotate_left
        · simp only [Act.put, List.setIfInBounds_toArray, List.set_cons_zero, List.set_cons_succ, i64_w, i32_w]
          rfl
        refine done_ (by kernel_rfl) ?_
        have HBE := hHeld.1
        have BXE := hHeld.2
        clear hHeld
        cases hq : (y.f0.toList == p.f1.toList) with
        | true =>
          have e1 := HE.out
          rw [hq, if_pos rfl] at e1
          have hcy := (HBE.out.cell (World.block_lt_of_cell? w _ HCO.out)).trans HCO.out
          clear HE
          subst e1
          go_wp2
          go_ret
          exact ⟨rfl, HBE.out⟩
        | false =>
          have e1 := HE.out
          rw [hq, if_neg Bool.false_ne_true] at e1
          have HE2 := Aside0.mk e1
          clear HE e1
          go_wp2
          go_roundg (l1.length - (i + 1))
          case measure => omega
          case rel => have hN := HLN.out; exact ⟨i + 1, by first | go_num | (congr 1; unfold wrap64; omega), by omega, by omega, ⟨by rw [if_pos hkz]; exact HE2.out⟩, HBE, BXE⟩
      · have hkzb : ((p.f12.length : Int) == 0) = false := beq_eq_false_iff_ne.mpr (by omega)
        have e1 := HH.out
        rw [if_neg hkz] at e1
        clear HH
        subst e1
        go_wp2
        go_ret
        exact ⟨rfl, BW.out⟩
    · have hltz : ¬ (i : Int) < (l1.length : Int) := by omega
      have e1 := HH.out
      rw [List.drop_of_length_le (by omega)] at e1
      replace e1 : r = 0 := by rw [e1]; by_cases z : p.f12.length = 0 <;> simp [z, tabCols]
      clear HH hn
      subst e1
      go_wp2
      go_ret
      exact ⟨rfl, BW.out⟩
set_option maxHeartbeats 8000000 in
set_option maxRecDepth 1000000 in
theorem hopperref25_Cols.kind2 (k : Nat) (IH : Aside0 (∀ (p : S31) (cs : List Value) (A1 : Option Addr) (c1 : Nat) (l1 : List S46) (deep : Int) (r : Int) (w : World), k31.K w p cs → Kd.C k46 w A1 l1.length l1 → l1.length ≤ c1 → refColsP k p l1 deep = some r → Calls Try.prog 13 #[.agg cs.toArray, .slice A1 l1.length c1, .int .i64 deep] w fun e w' => e = .returned (.int .i64 r) ∧ Below w.heap.size w w')) (p : S31) (cs : List Value) (A1 : Option Addr) (c1 : Nat) (l1 : List S46) (deep : Int) (r : Int) (w : World) (hK : k31.K w p cs) (hr1 : Kd.C k46 w A1 l1.length l1) (hc1 : l1.length ≤ c1) (q1 : ¬ deep < 1) (hba : bareB p = true) (hk : p.f0 = 2) (h : (if (p.f12.length : Int) ≠ kidsN p.f0 then some 0 else (refColsP k (p.f12.getD 0 z31) l1 (wrap64 (deep - 1))).bind fun n => (if p.f0 = 5 then refColsP k (p.f12.getD 1 z31) l1 (wrap64 (deep - 1)) else some n).bind fun m => if n = 0 then some 0 else if m = 0 then some 0 else (okP k p n m).bind fun ok => some (endP ok (outP p n m))) = some r) :
    Calls Try.prog 13 #[.agg cs.toArray, .slice A1 l1.length c1, .int .i64 deep] w fun e w' => e = .returned (.int .i64 r) ∧ Below w.heap.size w w' := by
  have hagg : ∀ W, (isAgg 31).run Try.prog W = .ok true W := fun W => by first | exact Try.isAgg31 | exact Try.isAgg31 W | go_simp
  have hsz18 : ∀ W, (sizeOf 31).run Try.prog W = .ok 18 W := fun W => by first | exact Try.sizeOf31 | exact Try.sizeOf31 W | go_simp
  have HAGG := Aside0.mk hagg
  have HSZ := Aside0.mk hsz18
  clear hagg hsz18
  have hu31 := Try.underlying31
  have HL18 := Aside0.mk (show cs.length = 18 from k31.K_len hK)
  have HBR0 := Aside0.mk (fun W (hb : Below w.heap.size w W) => hopperref25_bare.core p cs W (k31.K_below hb hK))
  obtain ⟨A7, c7, A8, c8, A9, c9, A10, c10, A12, c12, A13, c13, A14, c14, A17, c17, e_, l7, g7, l8, g8, l9, g9, l10, g10, l12, g12, l13, g13, l14, g14, l17, g17⟩ := k31_open hK
  have H0 := Aside0.mk (show cs[0]? = some (.int .i64 p.f0) from by rw [e_]; rfl)
  have H1 := Aside0.mk (show cs[1]? = some (.string p.f1) from by rw [e_]; rfl)
  have H8 := Aside0.mk (show cs[8]? = some (.slice A8 p.f3.length c8) from by rw [e_]; rfl)
  have H9 := Aside0.mk (show cs[9]? = some (.slice A9 p.f4.length c9) from by rw [e_]; rfl)
  have H10 := Aside0.mk (show cs[10]? = some (.slice A10 p.f5.length c10) from by rw [e_]; rfl)
  have H11 := Aside0.mk (show cs[11]? = some (.int .i64 p.f6) from by rw [e_]; rfl)
  have H12 := Aside0.mk (show cs[12]? = some (.slice A12 p.f7.length c12) from by rw [e_]; rfl)
  have H13 := Aside0.mk (show cs[13]? = some (.slice A13 p.f8.length c13) from by rw [e_]; rfl)
  have H14 := Aside0.mk (show cs[14]? = some (.slice A14 p.f9.length c14) from by rw [e_]; rfl)
  have H15 := Aside0.mk (show cs[15]? = some (.int .i64 p.f10) from by rw [e_]; rfl)
  have H16 := Aside0.mk (show cs[16]? = some (.int .i64 p.f11) from by rw [e_]; rfl)
  have H17 := Aside0.mk (show cs[17]? = some (.slice A17 p.f12.length c17) from by rw [e_]; rfl)
  have G8 := Aside0.mk g8
  have G9 := Aside0.mk g9
  have G10 := Aside0.mk g10
  have G12 := Aside0.mk g12
  have G13 := Aside0.mk g13
  have G14 := Aside0.mk g14
  have G17 := Aside0.mk g17
  have L8 := Aside0.mk l8
  have L9 := Aside0.mk l9
  have L10 := Aside0.mk l10
  have L12 := Aside0.mk l12
  have L13 := Aside0.mk l13
  have L14 := Aside0.mk l14
  obtain ⟨cp, hcp⟩ : ∃ cp : List Value, cp = [.int .i64 p.f2.f0, .int .i64 p.f2.f1, .string p.f2.f2, .int .i64 p.f2.f3, .int .i64 p.f2.f4, .slice A7 p.f2.f5.length c7] := ⟨_, rfl⟩
  have HLP := Aside0.mk (show cp.length = 6 from by rw [hcp]; rfl)
  have HCP := Aside0.mk (show ∀ j v, cp[j]? = some v → cs[2 + j]? = some v from fun j v hj => by
    rw [e_]
    rw [hcp] at hj
    match j, hj with
    | 0, hj => exact hj
    | 1, hj => exact hj
    | 2, hj => exact hj
    | 3, hj => exact hj
    | 4, hj => exact hj
    | 5, hj => exact hj
    | j + 6, hj => simp at hj)
  have HAGG24 := Aside0.mk (show ∀ W, (isAgg 24).run Try.prog W = .ok true W from fun W => by first | exact Try.isAgg24 | exact Try.isAgg24 W | go_simp)
  have HSZ24 := Aside0.mk (show ∀ W, (sizeOf 24).run Try.prog W = .ok 6 W from fun W => by first | exact Try.sizeOf24 | exact Try.sizeOf24 W | go_simp)
  have HR16 := Aside0.mk (fun (n : Int) (b : Bool) (hb0 : refRightP k p.f2 n 12 = some b) W (hb : Below w.heap.size w W) => hopperref16_Right.core k p.f2 cp n 12 b W (by rw [hcp]; exact k24_mk W p.f2 l7 (Kd.C_below g7 hb)) hb0)
  clear hK e_ l7 g7 l8 g8 l9 g9 l10 g10 l12 g12 l13 g13 l14 g14 l17 g17 hcp
  have HBR := HBR0
  clear HBR0
  rw [hba] at HBR
  clear hba
  have q1b : decide (deep < 1) = false := decide_eq_false q1
  have q2b : decide (p.f0 < 1) = false := decide_eq_false (by omega)
  have q3b : decide (7 < p.f0) = false := decide_eq_false (by omega)
  have q2c : ¬ p.f0 < 1 := by omega
  have q3c : ¬ 7 < p.f0 := by omega
  have k1b : (p.f0 == 1) = false := by rw [hk]; rfl
  have k2b : (p.f0 == 2) = true := by rw [hk]; rfl
  have k3b : (p.f0 == 3) = false := by rw [hk]; rfl
  have k4b : (p.f0 == 4) = false := by rw [hk]; rfl
  have k5b : (p.f0 == 5) = false := by rw [hk]; rfl
  have k6b : (p.f0 == 6) = false := by rw [hk]; rfl
  have k7b : (p.f0 == 7) = false := by rw [hk]; rfl
  have k5n : (p.f0 != 5) = true := by rw [hk]; rfl
  have hkn : kidsN p.f0 = 1 := by rw [hk]; rfl
  by_cases hlen : (p.f12.length : Int) ≠ kidsN p.f0
  · rw [if_pos hlen] at h
    obtain rfl := Option.some.inj h
    rw [hkn] at hlen
    have hlb : ((p.f12.length : Int) != 1) = true := bne_iff_ne.mpr hlen
    clear h hk hkn hlen
    go_enter Try.func13, Try.ntmps13
    go_wp2_with (first
      | ((with_reducible refine gate_dst (N := 3) rfl ?_); refine box_all rfl rfl (cs := cs.toArray) rfl (fun W => by rw [List.size_toArray, HL18.out]; exact HSZ.out W) ?_; intro w1 hbx hbw; have BW1 := Aside0.mk hbw; have BX1 := Aside0.mk hbx; have hcv0 : w1.cell? ⟨w.heap.size, 0, none⟩ = some (.int .i64 p.f0) := blk_cells BX1.out 0 _ H0.out; have hcv17 : w1.cell? ⟨w.heap.size, 17, none⟩ = some (.slice A17 p.f12.length c17) := blk_cells BX1.out 17 _ H17.out; clear hbx hbw)
      | ((with_reducible refine gate_dst (N := 26) rfl ?_); (try (refine gate_guard (by rfl) ?_; dsimp only)); refine load_all rfl rfl (cs := cs) rfl HAGG.out (fun W => by rw [HL18.out]; exact HSZ.out W) (blk_cells BX1.out) ?_)
      | (go_at_call 23; refine (HBR.out _ BW1.out).mono ?_; rintro e w2 ⟨rfl, hb2⟩; have BW2 := Aside0.mk (below_step BW1.out hb2); have BX2 := Aside0.mk (blk_keep hb2 BX1.out); clear hb2 BW1 BX1; clear hcv0 hcv17; have hcv0 : w2.cell? ⟨w.heap.size, 0, none⟩ = some (.int .i64 p.f0) := blk_cells BX2.out 0 _ H0.out; have hcv17 : w2.cell? ⟨w.heap.size, 17, none⟩ = some (.slice A17 p.f12.length c17) := blk_cells BX2.out 17 _ H17.out))
    go_ret
    exact ⟨rfl, BW2.out⟩
  rw [if_neg hlen] at h
  rw [hkn] at hlen
  have hleq : p.f12.length = 1 := by omega
  have hlb : ((p.f12.length : Int) != 1) = false := by rw [hleq]; rfl
  have hl0 : 0 < p.f12.length := by omega
  have hl0i : ((0 : Int) < (p.f12.length : Int)) = True := eq_true (by omega)
  obtain ⟨n, hn, h⟩ := Option.bind_eq_some_iff.1 h
  obtain ⟨ad0, kc0, ek0, hkl0, hkK0, hkc0⟩ := kid_getS w A17 _ p.f12 G17.out 0 (by omega)
  have HC0 := Aside0.mk (fun W (hb : Below w.heap.size w W) => IH.out (p.f12.getD 0 z31) kc0 A1 c1 l1 (wrap64 (deep - 1)) n W (k31.K_below hb hkK0) (Kd.C_below hr1 hb) hc1 hn)
  have HKL0 := Aside0.mk hkl0
  have HKC0 := Aside0.mk (show ∀ j v, kc0[j]? = some v → w.cell? (ad0.add j) = some v from fun j v hj => by have h2 := hkc0 j v hj; rw [show 0 * 18 = 0 from rfl, Addr.add_zero'] at h2; exact h2)
  rw [if_neg (by omega)] at h
  obtain ⟨m, hm, h⟩ := Option.bind_eq_some_iff.1 h
  obtain rfl := Option.some.inj hm
  subst ek0
  clear hkl0 hkK0 hkc0 hn hlen hkn
  by_cases z0 : n = 0
  · rw [if_pos z0] at h
    obtain rfl := Option.some.inj h
    have z0b : (n == 0) = true := beq_iff_eq.mpr z0
    clear h hk z0
    go_enter Try.func13, Try.ntmps13
    go_wp2_with (first
      | ((with_reducible refine gate_dst (N := 3) rfl ?_); refine box_all rfl rfl (cs := cs.toArray) rfl (fun W => by rw [List.size_toArray, HL18.out]; exact HSZ.out W) ?_; intro w1 hbx hbw; have BW1 := Aside0.mk hbw; have BX1 := Aside0.mk hbx; have hcv0 : w1.cell? ⟨w.heap.size, 0, none⟩ = some (.int .i64 p.f0) := blk_cells BX1.out 0 _ H0.out; have hcv17 : w1.cell? ⟨w.heap.size, 17, none⟩ = some (.slice (some ad0) p.f12.length c17) := blk_cells BX1.out 17 _ H17.out; clear hbx hbw)
      | ((with_reducible refine gate_dst (N := 26) rfl ?_); (try (refine gate_guard (by rfl) ?_; dsimp only)); refine load_all rfl rfl (cs := cs) rfl HAGG.out (fun W => by rw [HL18.out]; exact HSZ.out W) (blk_cells BX1.out) ?_)
      | (go_at_call 23; refine (HBR.out _ BW1.out).mono ?_; rintro e w2 ⟨rfl, hb2⟩; have BW2 := Aside0.mk (below_step BW1.out hb2); have BX2 := Aside0.mk (blk_keep hb2 BX1.out); clear hb2 BW1 BX1; clear hcv0 hcv17; have hcv0 : w2.cell? ⟨w.heap.size, 0, none⟩ = some (.int .i64 p.f0) := blk_cells BX2.out 0 _ H0.out; have hcv17 : w2.cell? ⟨w.heap.size, 17, none⟩ = some (.slice (some ad0) p.f12.length c17) := blk_cells BX2.out 17 _ H17.out)
      | ((with_reducible refine gate_dst (N := 81) rfl ?_); refine load_all rfl rfl (cs := kc0) rfl HAGG.out (fun W => by rw [HKL0.out]; exact HSZ.out W) (fun j v hj => (BW2.out.cell (World.block_lt_of_cell? w _ (HKC0.out j v hj))).trans (HKC0.out j v hj)) ?_)
      | (go_at_call 13; refine (HC0.out _ BW2.out).mono ?_; rintro e w3 ⟨rfl, hbk⟩; have BW3 := Aside0.mk (below_step BW2.out hbk); have BX3 := Aside0.mk (blk_keep hbk BX2.out); clear hbk BW2 BX2; clear hcv0 hcv17; have hcv0 : w3.cell? ⟨w.heap.size, 0, none⟩ = some (.int .i64 p.f0) := blk_cells BX3.out 0 _ H0.out; have hcv17 : w3.cell? ⟨w.heap.size, 17, none⟩ = some (.slice (some ad0) p.f12.length c17) := blk_cells BX3.out 17 _ H17.out))
    go_ret
    exact ⟨rfl, BW3.out⟩
  rw [if_neg z0] at h
  have z0b : (n == 0) = false := beq_eq_false_iff_ne.mpr z0
  rw [if_neg z0] at h
  obtain ⟨ok, hok, h⟩ := Option.bind_eq_some_iff.1 h
  obtain rfl := Option.some.inj h
  clear h
  unfold okP at hok
  rw [if_pos hk] at hok
  have hout : outP p n n = n := by unfold outP; rw [if_neg (by omega), if_neg (by omega), if_neg (by omega)]
  rw [hout]
  clear hout hk
  have HRC := Aside0.mk (HR16.out n ok hok)
  clear hok
  have hfin : (ok = false ∧ endP ok n = 0) ∨ (ok = true ∧ decide (8 < n) = true ∧ endP ok n = 0) ∨ (ok = true ∧ decide (8 < n) = false ∧ endP ok n = n) := by
    cases ok with
    | false => exact .inl ⟨rfl, rfl⟩
    | true =>
      by_cases q8 : 8 < n
      · exact .inr (.inl ⟨rfl, decide_eq_true q8, by unfold endP; rw [if_neg (by decide), if_pos q8]⟩)
      · exact .inr (.inr ⟨rfl, decide_eq_false q8, by unfold endP; rw [if_neg (by decide), if_neg q8]⟩)
  rcases hfin with ⟨rfl, hfe⟩ | ⟨rfl, q8b, hfe⟩ | ⟨rfl, q8b, hfe⟩ <;> rw [hfe] <;> clear hfe
  all_goals
    go_enter Try.func13, Try.ntmps13
    go_wp2_with (first
      | ((with_reducible refine gate_dst (N := 3) rfl ?_); refine box_all rfl rfl (cs := cs.toArray) rfl (fun W => by rw [List.size_toArray, HL18.out]; exact HSZ.out W) ?_; intro w1 hbx hbw; have BW1 := Aside0.mk hbw; have BX1 := Aside0.mk hbx; have hcv0 : w1.cell? ⟨w.heap.size, 0, none⟩ = some (.int .i64 p.f0) := blk_cells BX1.out 0 _ H0.out; have hcv17 : w1.cell? ⟨w.heap.size, 17, none⟩ = some (.slice (some ad0) p.f12.length c17) := blk_cells BX1.out 17 _ H17.out; clear hbx hbw)
      | ((with_reducible refine gate_dst (N := 26) rfl ?_); (try (refine gate_guard (by rfl) ?_; dsimp only)); refine load_all rfl rfl (cs := cs) rfl HAGG.out (fun W => by rw [HL18.out]; exact HSZ.out W) (blk_cells BX1.out) ?_)
      | (go_at_call 23; refine (HBR.out _ BW1.out).mono ?_; rintro e w2 ⟨rfl, hb2⟩; have BW2 := Aside0.mk (below_step BW1.out hb2); have BX2 := Aside0.mk (blk_keep hb2 BX1.out); clear hb2 BW1 BX1; clear hcv0 hcv17; have hcv0 : w2.cell? ⟨w.heap.size, 0, none⟩ = some (.int .i64 p.f0) := blk_cells BX2.out 0 _ H0.out; have hcv17 : w2.cell? ⟨w.heap.size, 17, none⟩ = some (.slice (some ad0) p.f12.length c17) := blk_cells BX2.out 17 _ H17.out)
      | ((with_reducible refine gate_dst (N := 81) rfl ?_); refine load_all rfl rfl (cs := kc0) rfl HAGG.out (fun W => by rw [HKL0.out]; exact HSZ.out W) (fun j v hj => (BW2.out.cell (World.block_lt_of_cell? w _ (HKC0.out j v hj))).trans (HKC0.out j v hj)) ?_)
      | (go_at_call 13; refine (HC0.out _ BW2.out).mono ?_; rintro e w3 ⟨rfl, hbk⟩; have BW3 := Aside0.mk (below_step BW2.out hbk); have BX3 := Aside0.mk (blk_keep hbk BX2.out); clear hbk BW2 BX2; clear hcv0 hcv17; have hcv0 : w3.cell? ⟨w.heap.size, 0, none⟩ = some (.int .i64 p.f0) := blk_cells BX3.out 0 _ H0.out; have hcv17 : w3.cell? ⟨w.heap.size, 17, none⟩ = some (.slice (some ad0) p.f12.length c17) := blk_cells BX3.out 17 _ H17.out)
      | ((with_reducible refine gate_dst (N := 109) rfl ?_); refine load_all rfl rfl (cs := cp) rfl HAGG24.out (fun W => by rw [HLP.out]; exact HSZ24.out W) (blk_cells_off BX3.out HCP.out) ?_)
      | (go_at_call 24; refine (HRC.out _ BW3.out).mono ?_; rintro e w9 ⟨rfl, hb8⟩; have hb9 := hb8; have BW9 := Aside0.mk (below_step BW3.out hb9); have BX9 := Aside0.mk (blk_keep hb9 BX3.out); clear hb8 hb9; clear hcv0 hcv17; have hcv0 : w9.cell? ⟨w.heap.size, 0, none⟩ = some (.int .i64 p.f0) := blk_cells BX9.out 0 _ H0.out; have hcv17 : w9.cell? ⟨w.heap.size, 17, none⟩ = some (.slice (some ad0) p.f12.length c17) := blk_cells BX9.out 17 _ H17.out))
    go_ret
    exact ⟨rfl, BW9.out⟩
set_option maxHeartbeats 8000000 in
set_option maxRecDepth 1000000 in
theorem hopperref25_Cols.kind4 (k : Nat) (IH : Aside0 (∀ (p : S31) (cs : List Value) (A1 : Option Addr) (c1 : Nat) (l1 : List S46) (deep : Int) (r : Int) (w : World), k31.K w p cs → Kd.C k46 w A1 l1.length l1 → l1.length ≤ c1 → refColsP k p l1 deep = some r → Calls Try.prog 13 #[.agg cs.toArray, .slice A1 l1.length c1, .int .i64 deep] w fun e w' => e = .returned (.int .i64 r) ∧ Below w.heap.size w w')) (p : S31) (cs : List Value) (A1 : Option Addr) (c1 : Nat) (l1 : List S46) (deep : Int) (r : Int) (w : World) (hK : k31.K w p cs) (hr1 : Kd.C k46 w A1 l1.length l1) (hc1 : l1.length ≤ c1) (q1 : ¬ deep < 1) (hba : bareB p = true) (hk : p.f0 = 4) (h : (if (p.f12.length : Int) ≠ kidsN p.f0 then some 0 else (refColsP k (p.f12.getD 0 z31) l1 (wrap64 (deep - 1))).bind fun n => (if p.f0 = 5 then refColsP k (p.f12.getD 1 z31) l1 (wrap64 (deep - 1)) else some n).bind fun m => if n = 0 then some 0 else if m = 0 then some 0 else (okP k p n m).bind fun ok => some (endP ok (outP p n m))) = some r) :
    Calls Try.prog 13 #[.agg cs.toArray, .slice A1 l1.length c1, .int .i64 deep] w fun e w' => e = .returned (.int .i64 r) ∧ Below w.heap.size w w' := by
  have hagg : ∀ W, (isAgg 31).run Try.prog W = .ok true W := fun W => by first | exact Try.isAgg31 | exact Try.isAgg31 W | go_simp
  have hsz18 : ∀ W, (sizeOf 31).run Try.prog W = .ok 18 W := fun W => by first | exact Try.sizeOf31 | exact Try.sizeOf31 W | go_simp
  have HAGG := Aside0.mk hagg
  have HSZ := Aside0.mk hsz18
  clear hagg hsz18
  have hu31 := Try.underlying31
  have HL18 := Aside0.mk (show cs.length = 18 from k31.K_len hK)
  have HBR0 := Aside0.mk (fun W (hb : Below w.heap.size w W) => hopperref25_bare.core p cs W (k31.K_below hb hK))
  obtain ⟨A7, c7, A8, c8, A9, c9, A10, c10, A12, c12, A13, c13, A14, c14, A17, c17, e_, l7, g7, l8, g8, l9, g9, l10, g10, l12, g12, l13, g13, l14, g14, l17, g17⟩ := k31_open hK
  have H0 := Aside0.mk (show cs[0]? = some (.int .i64 p.f0) from by rw [e_]; rfl)
  have H1 := Aside0.mk (show cs[1]? = some (.string p.f1) from by rw [e_]; rfl)
  have H8 := Aside0.mk (show cs[8]? = some (.slice A8 p.f3.length c8) from by rw [e_]; rfl)
  have H9 := Aside0.mk (show cs[9]? = some (.slice A9 p.f4.length c9) from by rw [e_]; rfl)
  have H10 := Aside0.mk (show cs[10]? = some (.slice A10 p.f5.length c10) from by rw [e_]; rfl)
  have H11 := Aside0.mk (show cs[11]? = some (.int .i64 p.f6) from by rw [e_]; rfl)
  have H12 := Aside0.mk (show cs[12]? = some (.slice A12 p.f7.length c12) from by rw [e_]; rfl)
  have H13 := Aside0.mk (show cs[13]? = some (.slice A13 p.f8.length c13) from by rw [e_]; rfl)
  have H14 := Aside0.mk (show cs[14]? = some (.slice A14 p.f9.length c14) from by rw [e_]; rfl)
  have H15 := Aside0.mk (show cs[15]? = some (.int .i64 p.f10) from by rw [e_]; rfl)
  have H16 := Aside0.mk (show cs[16]? = some (.int .i64 p.f11) from by rw [e_]; rfl)
  have H17 := Aside0.mk (show cs[17]? = some (.slice A17 p.f12.length c17) from by rw [e_]; rfl)
  have G8 := Aside0.mk g8
  have G9 := Aside0.mk g9
  have G10 := Aside0.mk g10
  have G12 := Aside0.mk g12
  have G13 := Aside0.mk g13
  have G14 := Aside0.mk g14
  have G17 := Aside0.mk g17
  have L8 := Aside0.mk l8
  have L9 := Aside0.mk l9
  have L10 := Aside0.mk l10
  have L12 := Aside0.mk l12
  have L13 := Aside0.mk l13
  have L14 := Aside0.mk l14
  clear hK e_ l7 g7 l8 g8 l9 g9 l10 g10 l12 g12 l13 g13 l14 g14 l17 g17
  have HBR := HBR0
  clear HBR0
  rw [hba] at HBR
  clear hba
  have q1b : decide (deep < 1) = false := decide_eq_false q1
  have q2b : decide (p.f0 < 1) = false := decide_eq_false (by omega)
  have q3b : decide (7 < p.f0) = false := decide_eq_false (by omega)
  have q2c : ¬ p.f0 < 1 := by omega
  have q3c : ¬ 7 < p.f0 := by omega
  have k1b : (p.f0 == 1) = false := by rw [hk]; rfl
  have k2b : (p.f0 == 2) = false := by rw [hk]; rfl
  have k3b : (p.f0 == 3) = false := by rw [hk]; rfl
  have k4b : (p.f0 == 4) = true := by rw [hk]; rfl
  have k5b : (p.f0 == 5) = false := by rw [hk]; rfl
  have k6b : (p.f0 == 6) = false := by rw [hk]; rfl
  have k7b : (p.f0 == 7) = false := by rw [hk]; rfl
  have k5n : (p.f0 != 5) = true := by rw [hk]; rfl
  have hkn : kidsN p.f0 = 1 := by rw [hk]; rfl
  by_cases hlen : (p.f12.length : Int) ≠ kidsN p.f0
  · rw [if_pos hlen] at h
    obtain rfl := Option.some.inj h
    rw [hkn] at hlen
    have hlb : ((p.f12.length : Int) != 1) = true := bne_iff_ne.mpr hlen
    clear h hk hkn hlen
    go_enter Try.func13, Try.ntmps13
    go_wp2_with (first
      | ((with_reducible refine gate_dst (N := 3) rfl ?_); refine box_all rfl rfl (cs := cs.toArray) rfl (fun W => by rw [List.size_toArray, HL18.out]; exact HSZ.out W) ?_; intro w1 hbx hbw; have BW1 := Aside0.mk hbw; have BX1 := Aside0.mk hbx; have hcv0 : w1.cell? ⟨w.heap.size, 0, none⟩ = some (.int .i64 p.f0) := blk_cells BX1.out 0 _ H0.out; have hcv9 : w1.cell? ⟨w.heap.size, 9, none⟩ = some (.slice A9 p.f4.length c9) := blk_cells BX1.out 9 _ H9.out; have hcv10 : w1.cell? ⟨w.heap.size, 10, none⟩ = some (.slice A10 p.f5.length c10) := blk_cells BX1.out 10 _ H10.out; have hcv17 : w1.cell? ⟨w.heap.size, 17, none⟩ = some (.slice A17 p.f12.length c17) := blk_cells BX1.out 17 _ H17.out; clear hbx hbw)
      | ((with_reducible refine gate_dst (N := 26) rfl ?_); (try (refine gate_guard (by rfl) ?_; dsimp only)); refine load_all rfl rfl (cs := cs) rfl HAGG.out (fun W => by rw [HL18.out]; exact HSZ.out W) (blk_cells BX1.out) ?_)
      | (go_at_call 23; refine (HBR.out _ BW1.out).mono ?_; rintro e w2 ⟨rfl, hb2⟩; have BW2 := Aside0.mk (below_step BW1.out hb2); have BX2 := Aside0.mk (blk_keep hb2 BX1.out); clear hb2 BW1 BX1; clear hcv0 hcv9 hcv10 hcv17; have hcv0 : w2.cell? ⟨w.heap.size, 0, none⟩ = some (.int .i64 p.f0) := blk_cells BX2.out 0 _ H0.out; have hcv9 : w2.cell? ⟨w.heap.size, 9, none⟩ = some (.slice A9 p.f4.length c9) := blk_cells BX2.out 9 _ H9.out; have hcv10 : w2.cell? ⟨w.heap.size, 10, none⟩ = some (.slice A10 p.f5.length c10) := blk_cells BX2.out 10 _ H10.out; have hcv17 : w2.cell? ⟨w.heap.size, 17, none⟩ = some (.slice A17 p.f12.length c17) := blk_cells BX2.out 17 _ H17.out))
    go_ret
    exact ⟨rfl, BW2.out⟩
  rw [if_neg hlen] at h
  rw [hkn] at hlen
  have hleq : p.f12.length = 1 := by omega
  have hlb : ((p.f12.length : Int) != 1) = false := by rw [hleq]; rfl
  have hl0 : 0 < p.f12.length := by omega
  have hl0i : ((0 : Int) < (p.f12.length : Int)) = True := eq_true (by omega)
  obtain ⟨n, hn, h⟩ := Option.bind_eq_some_iff.1 h
  obtain ⟨ad0, kc0, ek0, hkl0, hkK0, hkc0⟩ := kid_getS w A17 _ p.f12 G17.out 0 (by omega)
  have HC0 := Aside0.mk (fun W (hb : Below w.heap.size w W) => IH.out (p.f12.getD 0 z31) kc0 A1 c1 l1 (wrap64 (deep - 1)) n W (k31.K_below hb hkK0) (Kd.C_below hr1 hb) hc1 hn)
  have HKL0 := Aside0.mk hkl0
  have HKC0 := Aside0.mk (show ∀ j v, kc0[j]? = some v → w.cell? (ad0.add j) = some v from fun j v hj => by have h2 := hkc0 j v hj; rw [show 0 * 18 = 0 from rfl, Addr.add_zero'] at h2; exact h2)
  rw [if_neg (by omega)] at h
  obtain ⟨m, hm, h⟩ := Option.bind_eq_some_iff.1 h
  obtain rfl := Option.some.inj hm
  subst ek0
  clear hkl0 hkK0 hkc0 hn hlen hkn
  by_cases z0 : n = 0
  · rw [if_pos z0] at h
    obtain rfl := Option.some.inj h
    have z0b : (n == 0) = true := beq_iff_eq.mpr z0
    clear h hk z0
    go_enter Try.func13, Try.ntmps13
    go_wp2_with (first
      | ((with_reducible refine gate_dst (N := 3) rfl ?_); refine box_all rfl rfl (cs := cs.toArray) rfl (fun W => by rw [List.size_toArray, HL18.out]; exact HSZ.out W) ?_; intro w1 hbx hbw; have BW1 := Aside0.mk hbw; have BX1 := Aside0.mk hbx; have hcv0 : w1.cell? ⟨w.heap.size, 0, none⟩ = some (.int .i64 p.f0) := blk_cells BX1.out 0 _ H0.out; have hcv9 : w1.cell? ⟨w.heap.size, 9, none⟩ = some (.slice A9 p.f4.length c9) := blk_cells BX1.out 9 _ H9.out; have hcv10 : w1.cell? ⟨w.heap.size, 10, none⟩ = some (.slice A10 p.f5.length c10) := blk_cells BX1.out 10 _ H10.out; have hcv17 : w1.cell? ⟨w.heap.size, 17, none⟩ = some (.slice (some ad0) p.f12.length c17) := blk_cells BX1.out 17 _ H17.out; clear hbx hbw)
      | ((with_reducible refine gate_dst (N := 26) rfl ?_); (try (refine gate_guard (by rfl) ?_; dsimp only)); refine load_all rfl rfl (cs := cs) rfl HAGG.out (fun W => by rw [HL18.out]; exact HSZ.out W) (blk_cells BX1.out) ?_)
      | (go_at_call 23; refine (HBR.out _ BW1.out).mono ?_; rintro e w2 ⟨rfl, hb2⟩; have BW2 := Aside0.mk (below_step BW1.out hb2); have BX2 := Aside0.mk (blk_keep hb2 BX1.out); clear hb2 BW1 BX1; clear hcv0 hcv9 hcv10 hcv17; have hcv0 : w2.cell? ⟨w.heap.size, 0, none⟩ = some (.int .i64 p.f0) := blk_cells BX2.out 0 _ H0.out; have hcv9 : w2.cell? ⟨w.heap.size, 9, none⟩ = some (.slice A9 p.f4.length c9) := blk_cells BX2.out 9 _ H9.out; have hcv10 : w2.cell? ⟨w.heap.size, 10, none⟩ = some (.slice A10 p.f5.length c10) := blk_cells BX2.out 10 _ H10.out; have hcv17 : w2.cell? ⟨w.heap.size, 17, none⟩ = some (.slice (some ad0) p.f12.length c17) := blk_cells BX2.out 17 _ H17.out)
      | ((with_reducible refine gate_dst (N := 81) rfl ?_); refine load_all rfl rfl (cs := kc0) rfl HAGG.out (fun W => by rw [HKL0.out]; exact HSZ.out W) (fun j v hj => (BW2.out.cell (World.block_lt_of_cell? w _ (HKC0.out j v hj))).trans (HKC0.out j v hj)) ?_)
      | (go_at_call 13; refine (HC0.out _ BW2.out).mono ?_; rintro e w3 ⟨rfl, hbk⟩; have BW3 := Aside0.mk (below_step BW2.out hbk); have BX3 := Aside0.mk (blk_keep hbk BX2.out); clear hbk BW2 BX2; clear hcv0 hcv9 hcv10 hcv17; have hcv0 : w3.cell? ⟨w.heap.size, 0, none⟩ = some (.int .i64 p.f0) := blk_cells BX3.out 0 _ H0.out; have hcv9 : w3.cell? ⟨w.heap.size, 9, none⟩ = some (.slice A9 p.f4.length c9) := blk_cells BX3.out 9 _ H9.out; have hcv10 : w3.cell? ⟨w.heap.size, 10, none⟩ = some (.slice A10 p.f5.length c10) := blk_cells BX3.out 10 _ H10.out; have hcv17 : w3.cell? ⟨w.heap.size, 17, none⟩ = some (.slice (some ad0) p.f12.length c17) := blk_cells BX3.out 17 _ H17.out))
    go_ret
    exact ⟨rfl, BW3.out⟩
  rw [if_neg z0] at h
  have z0b : (n == 0) = false := beq_eq_false_iff_ne.mpr z0
  rw [if_neg z0] at h
  obtain ⟨ok, hok, h⟩ := Option.bind_eq_some_iff.1 h
  obtain rfl := Option.some.inj h
  clear h
  unfold okP at hok
  rw [if_neg (by omega)] at hok
  rw [if_neg (by omega)] at hok
  rw [if_pos hk] at hok
  have hout : outP p n n = (wrap64 ((p.f4.length : Int) + (p.f5.length : Int))) := by unfold outP; rw [if_neg (by omega), if_pos hk]
  rw [hout]
  clear hout hk
  have HRC := Aside0.mk (fun W (hb : Below w.heap.size w W) => hopperref22_Right.calls k A9 c9 p.f4 A10 c10 p.f5 n ok W (Kd.C_below G9.out hb) L9.out (Kd.C_below G10.out hb) L10.out hok)
  clear hok
  have hfin : (ok = false ∧ endP ok (wrap64 ((p.f4.length : Int) + (p.f5.length : Int))) = 0) ∨ (ok = true ∧ decide (8 < (wrap64 ((p.f4.length : Int) + (p.f5.length : Int)))) = true ∧ endP ok (wrap64 ((p.f4.length : Int) + (p.f5.length : Int))) = 0) ∨ (ok = true ∧ decide (8 < (wrap64 ((p.f4.length : Int) + (p.f5.length : Int)))) = false ∧ endP ok (wrap64 ((p.f4.length : Int) + (p.f5.length : Int))) = (wrap64 ((p.f4.length : Int) + (p.f5.length : Int)))) := by
    cases ok with
    | false => exact .inl ⟨rfl, rfl⟩
    | true =>
      by_cases q8 : 8 < (wrap64 ((p.f4.length : Int) + (p.f5.length : Int)))
      · exact .inr (.inl ⟨rfl, decide_eq_true q8, by unfold endP; rw [if_neg (by decide), if_pos q8]⟩)
      · exact .inr (.inr ⟨rfl, decide_eq_false q8, by unfold endP; rw [if_neg (by decide), if_neg q8]⟩)
  rcases hfin with ⟨rfl, hfe⟩ | ⟨rfl, q8b, hfe⟩ | ⟨rfl, q8b, hfe⟩ <;> rw [hfe] <;> clear hfe
  all_goals
    go_enter Try.func13, Try.ntmps13
    go_wp2_with (first
      | ((with_reducible refine gate_dst (N := 3) rfl ?_); refine box_all rfl rfl (cs := cs.toArray) rfl (fun W => by rw [List.size_toArray, HL18.out]; exact HSZ.out W) ?_; intro w1 hbx hbw; have BW1 := Aside0.mk hbw; have BX1 := Aside0.mk hbx; have hcv0 : w1.cell? ⟨w.heap.size, 0, none⟩ = some (.int .i64 p.f0) := blk_cells BX1.out 0 _ H0.out; have hcv9 : w1.cell? ⟨w.heap.size, 9, none⟩ = some (.slice A9 p.f4.length c9) := blk_cells BX1.out 9 _ H9.out; have hcv10 : w1.cell? ⟨w.heap.size, 10, none⟩ = some (.slice A10 p.f5.length c10) := blk_cells BX1.out 10 _ H10.out; have hcv17 : w1.cell? ⟨w.heap.size, 17, none⟩ = some (.slice (some ad0) p.f12.length c17) := blk_cells BX1.out 17 _ H17.out; clear hbx hbw)
      | ((with_reducible refine gate_dst (N := 26) rfl ?_); (try (refine gate_guard (by rfl) ?_; dsimp only)); refine load_all rfl rfl (cs := cs) rfl HAGG.out (fun W => by rw [HL18.out]; exact HSZ.out W) (blk_cells BX1.out) ?_)
      | (go_at_call 23; refine (HBR.out _ BW1.out).mono ?_; rintro e w2 ⟨rfl, hb2⟩; have BW2 := Aside0.mk (below_step BW1.out hb2); have BX2 := Aside0.mk (blk_keep hb2 BX1.out); clear hb2 BW1 BX1; clear hcv0 hcv9 hcv10 hcv17; have hcv0 : w2.cell? ⟨w.heap.size, 0, none⟩ = some (.int .i64 p.f0) := blk_cells BX2.out 0 _ H0.out; have hcv9 : w2.cell? ⟨w.heap.size, 9, none⟩ = some (.slice A9 p.f4.length c9) := blk_cells BX2.out 9 _ H9.out; have hcv10 : w2.cell? ⟨w.heap.size, 10, none⟩ = some (.slice A10 p.f5.length c10) := blk_cells BX2.out 10 _ H10.out; have hcv17 : w2.cell? ⟨w.heap.size, 17, none⟩ = some (.slice (some ad0) p.f12.length c17) := blk_cells BX2.out 17 _ H17.out)
      | ((with_reducible refine gate_dst (N := 81) rfl ?_); refine load_all rfl rfl (cs := kc0) rfl HAGG.out (fun W => by rw [HKL0.out]; exact HSZ.out W) (fun j v hj => (BW2.out.cell (World.block_lt_of_cell? w _ (HKC0.out j v hj))).trans (HKC0.out j v hj)) ?_)
      | (go_at_call 13; refine (HC0.out _ BW2.out).mono ?_; rintro e w3 ⟨rfl, hbk⟩; have BW3 := Aside0.mk (below_step BW2.out hbk); have BX3 := Aside0.mk (blk_keep hbk BX2.out); clear hbk BW2 BX2; clear hcv0 hcv9 hcv10 hcv17; have hcv0 : w3.cell? ⟨w.heap.size, 0, none⟩ = some (.int .i64 p.f0) := blk_cells BX3.out 0 _ H0.out; have hcv9 : w3.cell? ⟨w.heap.size, 9, none⟩ = some (.slice A9 p.f4.length c9) := blk_cells BX3.out 9 _ H9.out; have hcv10 : w3.cell? ⟨w.heap.size, 10, none⟩ = some (.slice A10 p.f5.length c10) := blk_cells BX3.out 10 _ H10.out; have hcv17 : w3.cell? ⟨w.heap.size, 17, none⟩ = some (.slice (some ad0) p.f12.length c17) := blk_cells BX3.out 17 _ H17.out)
      | (go_at_call 26; refine (HRC.out _ BW3.out).mono ?_; rintro e w9 ⟨rfl, hb8⟩; have hb9 := hb8; have BW9 := Aside0.mk (below_step BW3.out hb9); have BX9 := Aside0.mk (blk_keep hb9 BX3.out); clear hb8 hb9; clear hcv0 hcv9 hcv10 hcv17; have hcv0 : w9.cell? ⟨w.heap.size, 0, none⟩ = some (.int .i64 p.f0) := blk_cells BX9.out 0 _ H0.out; have hcv9 : w9.cell? ⟨w.heap.size, 9, none⟩ = some (.slice A9 p.f4.length c9) := blk_cells BX9.out 9 _ H9.out; have hcv10 : w9.cell? ⟨w.heap.size, 10, none⟩ = some (.slice A10 p.f5.length c10) := blk_cells BX9.out 10 _ H10.out; have hcv17 : w9.cell? ⟨w.heap.size, 17, none⟩ = some (.slice (some ad0) p.f12.length c17) := blk_cells BX9.out 17 _ H17.out))
    go_ret
    exact ⟨rfl, BW9.out⟩
set_option maxHeartbeats 8000000 in
set_option maxRecDepth 1000000 in
theorem hopperref25_Cols.kind5 (k : Nat) (IH : Aside0 (∀ (p : S31) (cs : List Value) (A1 : Option Addr) (c1 : Nat) (l1 : List S46) (deep : Int) (r : Int) (w : World), k31.K w p cs → Kd.C k46 w A1 l1.length l1 → l1.length ≤ c1 → refColsP k p l1 deep = some r → Calls Try.prog 13 #[.agg cs.toArray, .slice A1 l1.length c1, .int .i64 deep] w fun e w' => e = .returned (.int .i64 r) ∧ Below w.heap.size w w')) (p : S31) (cs : List Value) (A1 : Option Addr) (c1 : Nat) (l1 : List S46) (deep : Int) (r : Int) (w : World) (hK : k31.K w p cs) (hr1 : Kd.C k46 w A1 l1.length l1) (hc1 : l1.length ≤ c1) (q1 : ¬ deep < 1) (hba : bareB p = true) (hk : p.f0 = 5) (h : (if (p.f12.length : Int) ≠ kidsN p.f0 then some 0 else (refColsP k (p.f12.getD 0 z31) l1 (wrap64 (deep - 1))).bind fun n => (if p.f0 = 5 then refColsP k (p.f12.getD 1 z31) l1 (wrap64 (deep - 1)) else some n).bind fun m => if n = 0 then some 0 else if m = 0 then some 0 else (okP k p n m).bind fun ok => some (endP ok (outP p n m))) = some r) :
    Calls Try.prog 13 #[.agg cs.toArray, .slice A1 l1.length c1, .int .i64 deep] w fun e w' => e = .returned (.int .i64 r) ∧ Below w.heap.size w w' := by
  have hagg : ∀ W, (isAgg 31).run Try.prog W = .ok true W := fun W => by first | exact Try.isAgg31 | exact Try.isAgg31 W | go_simp
  have hsz18 : ∀ W, (sizeOf 31).run Try.prog W = .ok 18 W := fun W => by first | exact Try.sizeOf31 | exact Try.sizeOf31 W | go_simp
  have HAGG := Aside0.mk hagg
  have HSZ := Aside0.mk hsz18
  clear hagg hsz18
  have hu31 := Try.underlying31
  have HL18 := Aside0.mk (show cs.length = 18 from k31.K_len hK)
  have HBR0 := Aside0.mk (fun W (hb : Below w.heap.size w W) => hopperref25_bare.core p cs W (k31.K_below hb hK))
  obtain ⟨A7, c7, A8, c8, A9, c9, A10, c10, A12, c12, A13, c13, A14, c14, A17, c17, e_, l7, g7, l8, g8, l9, g9, l10, g10, l12, g12, l13, g13, l14, g14, l17, g17⟩ := k31_open hK
  have H0 := Aside0.mk (show cs[0]? = some (.int .i64 p.f0) from by rw [e_]; rfl)
  have H1 := Aside0.mk (show cs[1]? = some (.string p.f1) from by rw [e_]; rfl)
  have H8 := Aside0.mk (show cs[8]? = some (.slice A8 p.f3.length c8) from by rw [e_]; rfl)
  have H9 := Aside0.mk (show cs[9]? = some (.slice A9 p.f4.length c9) from by rw [e_]; rfl)
  have H10 := Aside0.mk (show cs[10]? = some (.slice A10 p.f5.length c10) from by rw [e_]; rfl)
  have H11 := Aside0.mk (show cs[11]? = some (.int .i64 p.f6) from by rw [e_]; rfl)
  have H12 := Aside0.mk (show cs[12]? = some (.slice A12 p.f7.length c12) from by rw [e_]; rfl)
  have H13 := Aside0.mk (show cs[13]? = some (.slice A13 p.f8.length c13) from by rw [e_]; rfl)
  have H14 := Aside0.mk (show cs[14]? = some (.slice A14 p.f9.length c14) from by rw [e_]; rfl)
  have H15 := Aside0.mk (show cs[15]? = some (.int .i64 p.f10) from by rw [e_]; rfl)
  have H16 := Aside0.mk (show cs[16]? = some (.int .i64 p.f11) from by rw [e_]; rfl)
  have H17 := Aside0.mk (show cs[17]? = some (.slice A17 p.f12.length c17) from by rw [e_]; rfl)
  have G8 := Aside0.mk g8
  have G9 := Aside0.mk g9
  have G10 := Aside0.mk g10
  have G12 := Aside0.mk g12
  have G13 := Aside0.mk g13
  have G14 := Aside0.mk g14
  have G17 := Aside0.mk g17
  have L8 := Aside0.mk l8
  have L9 := Aside0.mk l9
  have L10 := Aside0.mk l10
  have L12 := Aside0.mk l12
  have L13 := Aside0.mk l13
  have L14 := Aside0.mk l14
  clear hK e_ l7 g7 l8 g8 l9 g9 l10 g10 l12 g12 l13 g13 l14 g14 l17 g17
  have HBR := HBR0
  clear HBR0
  rw [hba] at HBR
  clear hba
  have q1b : decide (deep < 1) = false := decide_eq_false q1
  have q2b : decide (p.f0 < 1) = false := decide_eq_false (by omega)
  have q3b : decide (7 < p.f0) = false := decide_eq_false (by omega)
  have q2c : ¬ p.f0 < 1 := by omega
  have q3c : ¬ 7 < p.f0 := by omega
  have k1b : (p.f0 == 1) = false := by rw [hk]; rfl
  have k2b : (p.f0 == 2) = false := by rw [hk]; rfl
  have k3b : (p.f0 == 3) = false := by rw [hk]; rfl
  have k4b : (p.f0 == 4) = false := by rw [hk]; rfl
  have k5b : (p.f0 == 5) = true := by rw [hk]; rfl
  have k6b : (p.f0 == 6) = false := by rw [hk]; rfl
  have k7b : (p.f0 == 7) = false := by rw [hk]; rfl
  have k5n : (p.f0 != 5) = false := by rw [hk]; rfl
  have hkn : kidsN p.f0 = 2 := by rw [hk]; rfl
  by_cases hlen : (p.f12.length : Int) ≠ kidsN p.f0
  · rw [if_pos hlen] at h
    obtain rfl := Option.some.inj h
    rw [hkn] at hlen
    have hlb : ((p.f12.length : Int) != 2) = true := bne_iff_ne.mpr hlen
    clear h hk hkn hlen
    go_enter Try.func13, Try.ntmps13
    go_wp2_with (first
      | ((with_reducible refine gate_dst (N := 3) rfl ?_); refine box_all rfl rfl (cs := cs.toArray) rfl (fun W => by rw [List.size_toArray, HL18.out]; exact HSZ.out W) ?_; intro w1 hbx hbw; have BW1 := Aside0.mk hbw; have BX1 := Aside0.mk hbx; have hcv0 : w1.cell? ⟨w.heap.size, 0, none⟩ = some (.int .i64 p.f0) := blk_cells BX1.out 0 _ H0.out; have hcv11 : w1.cell? ⟨w.heap.size, 11, none⟩ = some (.int .i64 p.f6) := blk_cells BX1.out 11 _ H11.out; have hcv12 : w1.cell? ⟨w.heap.size, 12, none⟩ = some (.slice A12 p.f7.length c12) := blk_cells BX1.out 12 _ H12.out; have hcv13 : w1.cell? ⟨w.heap.size, 13, none⟩ = some (.slice A13 p.f8.length c13) := blk_cells BX1.out 13 _ H13.out; have hcv17 : w1.cell? ⟨w.heap.size, 17, none⟩ = some (.slice A17 p.f12.length c17) := blk_cells BX1.out 17 _ H17.out; clear hbx hbw)
      | ((with_reducible refine gate_dst (N := 26) rfl ?_); (try (refine gate_guard (by rfl) ?_; dsimp only)); refine load_all rfl rfl (cs := cs) rfl HAGG.out (fun W => by rw [HL18.out]; exact HSZ.out W) (blk_cells BX1.out) ?_)
      | (go_at_call 23; refine (HBR.out _ BW1.out).mono ?_; rintro e w2 ⟨rfl, hb2⟩; have BW2 := Aside0.mk (below_step BW1.out hb2); have BX2 := Aside0.mk (blk_keep hb2 BX1.out); clear hb2 BW1 BX1; clear hcv0 hcv11 hcv12 hcv13 hcv17; have hcv0 : w2.cell? ⟨w.heap.size, 0, none⟩ = some (.int .i64 p.f0) := blk_cells BX2.out 0 _ H0.out; have hcv11 : w2.cell? ⟨w.heap.size, 11, none⟩ = some (.int .i64 p.f6) := blk_cells BX2.out 11 _ H11.out; have hcv12 : w2.cell? ⟨w.heap.size, 12, none⟩ = some (.slice A12 p.f7.length c12) := blk_cells BX2.out 12 _ H12.out; have hcv13 : w2.cell? ⟨w.heap.size, 13, none⟩ = some (.slice A13 p.f8.length c13) := blk_cells BX2.out 13 _ H13.out; have hcv17 : w2.cell? ⟨w.heap.size, 17, none⟩ = some (.slice A17 p.f12.length c17) := blk_cells BX2.out 17 _ H17.out))
    go_ret
    exact ⟨rfl, BW2.out⟩
  rw [if_neg hlen] at h
  rw [hkn] at hlen
  have hleq : p.f12.length = 2 := by omega
  have hlb : ((p.f12.length : Int) != 2) = false := by rw [hleq]; rfl
  have hl0 : 0 < p.f12.length := by omega
  have hl0i : ((0 : Int) < (p.f12.length : Int)) = True := eq_true (by omega)
  have hl1i : ((1 : Int) < (p.f12.length : Int)) = True := eq_true (by omega)
  obtain ⟨n, hn, h⟩ := Option.bind_eq_some_iff.1 h
  obtain ⟨ad0, kc0, ek0, hkl0, hkK0, hkc0⟩ := kid_getS w A17 _ p.f12 G17.out 0 (by omega)
  have HC0 := Aside0.mk (fun W (hb : Below w.heap.size w W) => IH.out (p.f12.getD 0 z31) kc0 A1 c1 l1 (wrap64 (deep - 1)) n W (k31.K_below hb hkK0) (Kd.C_below hr1 hb) hc1 hn)
  have HKL0 := Aside0.mk hkl0
  have HKC0 := Aside0.mk (show ∀ j v, kc0[j]? = some v → w.cell? (ad0.add j) = some v from fun j v hj => by have h2 := hkc0 j v hj; rw [show 0 * 18 = 0 from rfl, Addr.add_zero'] at h2; exact h2)
  rw [if_pos hk] at h
  obtain ⟨m, hm, h⟩ := Option.bind_eq_some_iff.1 h
  obtain ⟨ad1, kc1, ek1, hkl1, hkK1, hkc1⟩ := kid_getS w A17 _ p.f12 G17.out 1 (by omega)
  have HC1 := Aside0.mk (fun W (hb : Below w.heap.size w W) => IH.out (p.f12.getD 1 z31) kc1 A1 c1 l1 (wrap64 (deep - 1)) m W (k31.K_below hb hkK1) (Kd.C_below hr1 hb) hc1 hm)
  have HKL1 := Aside0.mk hkl1
  obtain rfl : ad0 = ad1 := by rw [ek0] at ek1; injection ek1
  have HKC1 := Aside0.mk (show ∀ j v, kc1[j]? = some v → w.cell? ((⟨ad0.block, ad0.off + 18, none⟩ : Addr).add j) = some v from fun j v hj => by have h2 := hkc1 j v hj; rw [show 1 * 18 = 0 + 18 from rfl, add_field ad0 0 18 (by omega), Addr.add_zero'] at h2; exact h2)
  clear hkl1 hkK1 hkc1 hm ek1
  subst ek0
  clear hkl0 hkK0 hkc0 hn hlen hkn
  by_cases z0 : n = 0
  · rw [if_pos z0] at h
    obtain rfl := Option.some.inj h
    have z0b : (n == 0) = true := beq_iff_eq.mpr z0
    clear h hk z0
    go_enter Try.func13, Try.ntmps13
    go_wp2_with (first
      | ((with_reducible refine gate_dst (N := 3) rfl ?_); refine box_all rfl rfl (cs := cs.toArray) rfl (fun W => by rw [List.size_toArray, HL18.out]; exact HSZ.out W) ?_; intro w1 hbx hbw; have BW1 := Aside0.mk hbw; have BX1 := Aside0.mk hbx; have hcv0 : w1.cell? ⟨w.heap.size, 0, none⟩ = some (.int .i64 p.f0) := blk_cells BX1.out 0 _ H0.out; have hcv11 : w1.cell? ⟨w.heap.size, 11, none⟩ = some (.int .i64 p.f6) := blk_cells BX1.out 11 _ H11.out; have hcv12 : w1.cell? ⟨w.heap.size, 12, none⟩ = some (.slice A12 p.f7.length c12) := blk_cells BX1.out 12 _ H12.out; have hcv13 : w1.cell? ⟨w.heap.size, 13, none⟩ = some (.slice A13 p.f8.length c13) := blk_cells BX1.out 13 _ H13.out; have hcv17 : w1.cell? ⟨w.heap.size, 17, none⟩ = some (.slice (some ad0) p.f12.length c17) := blk_cells BX1.out 17 _ H17.out; clear hbx hbw)
      | ((with_reducible refine gate_dst (N := 26) rfl ?_); (try (refine gate_guard (by rfl) ?_; dsimp only)); refine load_all rfl rfl (cs := cs) rfl HAGG.out (fun W => by rw [HL18.out]; exact HSZ.out W) (blk_cells BX1.out) ?_)
      | (go_at_call 23; refine (HBR.out _ BW1.out).mono ?_; rintro e w2 ⟨rfl, hb2⟩; have BW2 := Aside0.mk (below_step BW1.out hb2); have BX2 := Aside0.mk (blk_keep hb2 BX1.out); clear hb2 BW1 BX1; clear hcv0 hcv11 hcv12 hcv13 hcv17; have hcv0 : w2.cell? ⟨w.heap.size, 0, none⟩ = some (.int .i64 p.f0) := blk_cells BX2.out 0 _ H0.out; have hcv11 : w2.cell? ⟨w.heap.size, 11, none⟩ = some (.int .i64 p.f6) := blk_cells BX2.out 11 _ H11.out; have hcv12 : w2.cell? ⟨w.heap.size, 12, none⟩ = some (.slice A12 p.f7.length c12) := blk_cells BX2.out 12 _ H12.out; have hcv13 : w2.cell? ⟨w.heap.size, 13, none⟩ = some (.slice A13 p.f8.length c13) := blk_cells BX2.out 13 _ H13.out; have hcv17 : w2.cell? ⟨w.heap.size, 17, none⟩ = some (.slice (some ad0) p.f12.length c17) := blk_cells BX2.out 17 _ H17.out)
      | ((with_reducible refine gate_dst (N := 81) rfl ?_); refine load_all rfl rfl (cs := kc0) rfl HAGG.out (fun W => by rw [HKL0.out]; exact HSZ.out W) (fun j v hj => (BW2.out.cell (World.block_lt_of_cell? w _ (HKC0.out j v hj))).trans (HKC0.out j v hj)) ?_)
      | (go_at_call 13; refine (HC0.out _ BW2.out).mono ?_; rintro e w3 ⟨rfl, hbk⟩; have BW3 := Aside0.mk (below_step BW2.out hbk); have BX3 := Aside0.mk (blk_keep hbk BX2.out); clear hbk BW2 BX2; clear hcv0 hcv11 hcv12 hcv13 hcv17; have hcv0 : w3.cell? ⟨w.heap.size, 0, none⟩ = some (.int .i64 p.f0) := blk_cells BX3.out 0 _ H0.out; have hcv11 : w3.cell? ⟨w.heap.size, 11, none⟩ = some (.int .i64 p.f6) := blk_cells BX3.out 11 _ H11.out; have hcv12 : w3.cell? ⟨w.heap.size, 12, none⟩ = some (.slice A12 p.f7.length c12) := blk_cells BX3.out 12 _ H12.out; have hcv13 : w3.cell? ⟨w.heap.size, 13, none⟩ = some (.slice A13 p.f8.length c13) := blk_cells BX3.out 13 _ H13.out; have hcv17 : w3.cell? ⟨w.heap.size, 17, none⟩ = some (.slice (some ad0) p.f12.length c17) := blk_cells BX3.out 17 _ H17.out)
      | ((with_reducible refine gate_dst (N := 93) rfl ?_); refine load_all rfl rfl (cs := kc1) rfl HAGG.out (fun W => by rw [HKL1.out]; exact HSZ.out W) (fun j v hj => (BW3.out.cell (World.block_lt_of_cell? w _ (HKC1.out j v hj))).trans (HKC1.out j v hj)) ?_)
      | (go_at_call 13; refine (HC1.out _ BW3.out).mono ?_; rintro e w4 ⟨rfl, hbk⟩; have BW4 := Aside0.mk (below_step BW3.out hbk); have BX4 := Aside0.mk (blk_keep hbk BX3.out); clear hbk BW3 BX3; clear hcv0 hcv11 hcv12 hcv13 hcv17; have hcv0 : w4.cell? ⟨w.heap.size, 0, none⟩ = some (.int .i64 p.f0) := blk_cells BX4.out 0 _ H0.out; have hcv11 : w4.cell? ⟨w.heap.size, 11, none⟩ = some (.int .i64 p.f6) := blk_cells BX4.out 11 _ H11.out; have hcv12 : w4.cell? ⟨w.heap.size, 12, none⟩ = some (.slice A12 p.f7.length c12) := blk_cells BX4.out 12 _ H12.out; have hcv13 : w4.cell? ⟨w.heap.size, 13, none⟩ = some (.slice A13 p.f8.length c13) := blk_cells BX4.out 13 _ H13.out; have hcv17 : w4.cell? ⟨w.heap.size, 17, none⟩ = some (.slice (some ad0) p.f12.length c17) := blk_cells BX4.out 17 _ H17.out))
    go_ret
    exact ⟨rfl, BW4.out⟩
  rw [if_neg z0] at h
  have z0b : (n == 0) = false := beq_eq_false_iff_ne.mpr z0
  by_cases z1 : m = 0
  · rw [if_pos z1] at h
    obtain rfl := Option.some.inj h
    have z1b : (m == 0) = true := beq_iff_eq.mpr z1
    clear h hk z1
    go_enter Try.func13, Try.ntmps13
    go_wp2_with (first
      | ((with_reducible refine gate_dst (N := 3) rfl ?_); refine box_all rfl rfl (cs := cs.toArray) rfl (fun W => by rw [List.size_toArray, HL18.out]; exact HSZ.out W) ?_; intro w1 hbx hbw; have BW1 := Aside0.mk hbw; have BX1 := Aside0.mk hbx; have hcv0 : w1.cell? ⟨w.heap.size, 0, none⟩ = some (.int .i64 p.f0) := blk_cells BX1.out 0 _ H0.out; have hcv11 : w1.cell? ⟨w.heap.size, 11, none⟩ = some (.int .i64 p.f6) := blk_cells BX1.out 11 _ H11.out; have hcv12 : w1.cell? ⟨w.heap.size, 12, none⟩ = some (.slice A12 p.f7.length c12) := blk_cells BX1.out 12 _ H12.out; have hcv13 : w1.cell? ⟨w.heap.size, 13, none⟩ = some (.slice A13 p.f8.length c13) := blk_cells BX1.out 13 _ H13.out; have hcv17 : w1.cell? ⟨w.heap.size, 17, none⟩ = some (.slice (some ad0) p.f12.length c17) := blk_cells BX1.out 17 _ H17.out; clear hbx hbw)
      | ((with_reducible refine gate_dst (N := 26) rfl ?_); (try (refine gate_guard (by rfl) ?_; dsimp only)); refine load_all rfl rfl (cs := cs) rfl HAGG.out (fun W => by rw [HL18.out]; exact HSZ.out W) (blk_cells BX1.out) ?_)
      | (go_at_call 23; refine (HBR.out _ BW1.out).mono ?_; rintro e w2 ⟨rfl, hb2⟩; have BW2 := Aside0.mk (below_step BW1.out hb2); have BX2 := Aside0.mk (blk_keep hb2 BX1.out); clear hb2 BW1 BX1; clear hcv0 hcv11 hcv12 hcv13 hcv17; have hcv0 : w2.cell? ⟨w.heap.size, 0, none⟩ = some (.int .i64 p.f0) := blk_cells BX2.out 0 _ H0.out; have hcv11 : w2.cell? ⟨w.heap.size, 11, none⟩ = some (.int .i64 p.f6) := blk_cells BX2.out 11 _ H11.out; have hcv12 : w2.cell? ⟨w.heap.size, 12, none⟩ = some (.slice A12 p.f7.length c12) := blk_cells BX2.out 12 _ H12.out; have hcv13 : w2.cell? ⟨w.heap.size, 13, none⟩ = some (.slice A13 p.f8.length c13) := blk_cells BX2.out 13 _ H13.out; have hcv17 : w2.cell? ⟨w.heap.size, 17, none⟩ = some (.slice (some ad0) p.f12.length c17) := blk_cells BX2.out 17 _ H17.out)
      | ((with_reducible refine gate_dst (N := 81) rfl ?_); refine load_all rfl rfl (cs := kc0) rfl HAGG.out (fun W => by rw [HKL0.out]; exact HSZ.out W) (fun j v hj => (BW2.out.cell (World.block_lt_of_cell? w _ (HKC0.out j v hj))).trans (HKC0.out j v hj)) ?_)
      | (go_at_call 13; refine (HC0.out _ BW2.out).mono ?_; rintro e w3 ⟨rfl, hbk⟩; have BW3 := Aside0.mk (below_step BW2.out hbk); have BX3 := Aside0.mk (blk_keep hbk BX2.out); clear hbk BW2 BX2; clear hcv0 hcv11 hcv12 hcv13 hcv17; have hcv0 : w3.cell? ⟨w.heap.size, 0, none⟩ = some (.int .i64 p.f0) := blk_cells BX3.out 0 _ H0.out; have hcv11 : w3.cell? ⟨w.heap.size, 11, none⟩ = some (.int .i64 p.f6) := blk_cells BX3.out 11 _ H11.out; have hcv12 : w3.cell? ⟨w.heap.size, 12, none⟩ = some (.slice A12 p.f7.length c12) := blk_cells BX3.out 12 _ H12.out; have hcv13 : w3.cell? ⟨w.heap.size, 13, none⟩ = some (.slice A13 p.f8.length c13) := blk_cells BX3.out 13 _ H13.out; have hcv17 : w3.cell? ⟨w.heap.size, 17, none⟩ = some (.slice (some ad0) p.f12.length c17) := blk_cells BX3.out 17 _ H17.out)
      | ((with_reducible refine gate_dst (N := 93) rfl ?_); refine load_all rfl rfl (cs := kc1) rfl HAGG.out (fun W => by rw [HKL1.out]; exact HSZ.out W) (fun j v hj => (BW3.out.cell (World.block_lt_of_cell? w _ (HKC1.out j v hj))).trans (HKC1.out j v hj)) ?_)
      | (go_at_call 13; refine (HC1.out _ BW3.out).mono ?_; rintro e w4 ⟨rfl, hbk⟩; have BW4 := Aside0.mk (below_step BW3.out hbk); have BX4 := Aside0.mk (blk_keep hbk BX3.out); clear hbk BW3 BX3; clear hcv0 hcv11 hcv12 hcv13 hcv17; have hcv0 : w4.cell? ⟨w.heap.size, 0, none⟩ = some (.int .i64 p.f0) := blk_cells BX4.out 0 _ H0.out; have hcv11 : w4.cell? ⟨w.heap.size, 11, none⟩ = some (.int .i64 p.f6) := blk_cells BX4.out 11 _ H11.out; have hcv12 : w4.cell? ⟨w.heap.size, 12, none⟩ = some (.slice A12 p.f7.length c12) := blk_cells BX4.out 12 _ H12.out; have hcv13 : w4.cell? ⟨w.heap.size, 13, none⟩ = some (.slice A13 p.f8.length c13) := blk_cells BX4.out 13 _ H13.out; have hcv17 : w4.cell? ⟨w.heap.size, 17, none⟩ = some (.slice (some ad0) p.f12.length c17) := blk_cells BX4.out 17 _ H17.out))
    go_ret
    exact ⟨rfl, BW4.out⟩
  rw [if_neg z1] at h
  have z1b : (m == 0) = false := beq_eq_false_iff_ne.mpr z1
  obtain ⟨ok, hok, h⟩ := Option.bind_eq_some_iff.1 h
  obtain rfl := Option.some.inj h
  clear h
  unfold okP at hok
  rw [if_neg (by omega)] at hok
  rw [if_neg (by omega)] at hok
  rw [if_neg (by omega)] at hok
  rw [if_pos hk] at hok
  have hout : outP p n m = if p.f6 ≤ 2 then wrap64 (n + m) else n := by unfold outP; rw [if_neg (by omega), if_neg (by omega), if_pos hk]
  rw [hout]
  clear hout hk
  have HRC := Aside0.mk (fun W (hb : Below w.heap.size w W) => hopperref23_Right.calls k p.f6 A12 c12 p.f7 A13 c13 p.f8 n m ok W (Kd.C_below G12.out hb) L12.out (Kd.C_below G13.out hb) L13.out hok)
  clear hok
  by_cases q0 : p.f6 ≤ 2
  · rw [if_pos q0]
    have q0b : decide (p.f6 ≤ 2) = true := decide_eq_true q0
    have hfin : (ok = false ∧ endP ok (wrap64 (n + m)) = 0) ∨ (ok = true ∧ decide (8 < (wrap64 (n + m))) = true ∧ endP ok (wrap64 (n + m)) = 0) ∨ (ok = true ∧ decide (8 < (wrap64 (n + m))) = false ∧ endP ok (wrap64 (n + m)) = (wrap64 (n + m))) := by
      cases ok with
      | false => exact .inl ⟨rfl, rfl⟩
      | true =>
        by_cases q8 : 8 < (wrap64 (n + m))
        · exact .inr (.inl ⟨rfl, decide_eq_true q8, by unfold endP; rw [if_neg (by decide), if_pos q8]⟩)
        · exact .inr (.inr ⟨rfl, decide_eq_false q8, by unfold endP; rw [if_neg (by decide), if_neg q8]⟩)
    rcases hfin with ⟨rfl, hfe⟩ | ⟨rfl, q8b, hfe⟩ | ⟨rfl, q8b, hfe⟩ <;> rw [hfe] <;> clear hfe
    all_goals
      go_enter Try.func13, Try.ntmps13
      go_wp2_with (first
        | ((with_reducible refine gate_dst (N := 3) rfl ?_); refine box_all rfl rfl (cs := cs.toArray) rfl (fun W => by rw [List.size_toArray, HL18.out]; exact HSZ.out W) ?_; intro w1 hbx hbw; have BW1 := Aside0.mk hbw; have BX1 := Aside0.mk hbx; have hcv0 : w1.cell? ⟨w.heap.size, 0, none⟩ = some (.int .i64 p.f0) := blk_cells BX1.out 0 _ H0.out; have hcv11 : w1.cell? ⟨w.heap.size, 11, none⟩ = some (.int .i64 p.f6) := blk_cells BX1.out 11 _ H11.out; have hcv12 : w1.cell? ⟨w.heap.size, 12, none⟩ = some (.slice A12 p.f7.length c12) := blk_cells BX1.out 12 _ H12.out; have hcv13 : w1.cell? ⟨w.heap.size, 13, none⟩ = some (.slice A13 p.f8.length c13) := blk_cells BX1.out 13 _ H13.out; have hcv17 : w1.cell? ⟨w.heap.size, 17, none⟩ = some (.slice (some ad0) p.f12.length c17) := blk_cells BX1.out 17 _ H17.out; clear hbx hbw)
        | ((with_reducible refine gate_dst (N := 26) rfl ?_); (try (refine gate_guard (by rfl) ?_; dsimp only)); refine load_all rfl rfl (cs := cs) rfl HAGG.out (fun W => by rw [HL18.out]; exact HSZ.out W) (blk_cells BX1.out) ?_)
        | (go_at_call 23; refine (HBR.out _ BW1.out).mono ?_; rintro e w2 ⟨rfl, hb2⟩; have BW2 := Aside0.mk (below_step BW1.out hb2); have BX2 := Aside0.mk (blk_keep hb2 BX1.out); clear hb2 BW1 BX1; clear hcv0 hcv11 hcv12 hcv13 hcv17; have hcv0 : w2.cell? ⟨w.heap.size, 0, none⟩ = some (.int .i64 p.f0) := blk_cells BX2.out 0 _ H0.out; have hcv11 : w2.cell? ⟨w.heap.size, 11, none⟩ = some (.int .i64 p.f6) := blk_cells BX2.out 11 _ H11.out; have hcv12 : w2.cell? ⟨w.heap.size, 12, none⟩ = some (.slice A12 p.f7.length c12) := blk_cells BX2.out 12 _ H12.out; have hcv13 : w2.cell? ⟨w.heap.size, 13, none⟩ = some (.slice A13 p.f8.length c13) := blk_cells BX2.out 13 _ H13.out; have hcv17 : w2.cell? ⟨w.heap.size, 17, none⟩ = some (.slice (some ad0) p.f12.length c17) := blk_cells BX2.out 17 _ H17.out)
        | ((with_reducible refine gate_dst (N := 81) rfl ?_); refine load_all rfl rfl (cs := kc0) rfl HAGG.out (fun W => by rw [HKL0.out]; exact HSZ.out W) (fun j v hj => (BW2.out.cell (World.block_lt_of_cell? w _ (HKC0.out j v hj))).trans (HKC0.out j v hj)) ?_)
        | (go_at_call 13; refine (HC0.out _ BW2.out).mono ?_; rintro e w3 ⟨rfl, hbk⟩; have BW3 := Aside0.mk (below_step BW2.out hbk); have BX3 := Aside0.mk (blk_keep hbk BX2.out); clear hbk BW2 BX2; clear hcv0 hcv11 hcv12 hcv13 hcv17; have hcv0 : w3.cell? ⟨w.heap.size, 0, none⟩ = some (.int .i64 p.f0) := blk_cells BX3.out 0 _ H0.out; have hcv11 : w3.cell? ⟨w.heap.size, 11, none⟩ = some (.int .i64 p.f6) := blk_cells BX3.out 11 _ H11.out; have hcv12 : w3.cell? ⟨w.heap.size, 12, none⟩ = some (.slice A12 p.f7.length c12) := blk_cells BX3.out 12 _ H12.out; have hcv13 : w3.cell? ⟨w.heap.size, 13, none⟩ = some (.slice A13 p.f8.length c13) := blk_cells BX3.out 13 _ H13.out; have hcv17 : w3.cell? ⟨w.heap.size, 17, none⟩ = some (.slice (some ad0) p.f12.length c17) := blk_cells BX3.out 17 _ H17.out)
        | ((with_reducible refine gate_dst (N := 93) rfl ?_); refine load_all rfl rfl (cs := kc1) rfl HAGG.out (fun W => by rw [HKL1.out]; exact HSZ.out W) (fun j v hj => (BW3.out.cell (World.block_lt_of_cell? w _ (HKC1.out j v hj))).trans (HKC1.out j v hj)) ?_)
        | (go_at_call 13; refine (HC1.out _ BW3.out).mono ?_; rintro e w4 ⟨rfl, hbk⟩; have BW4 := Aside0.mk (below_step BW3.out hbk); have BX4 := Aside0.mk (blk_keep hbk BX3.out); clear hbk BW3 BX3; clear hcv0 hcv11 hcv12 hcv13 hcv17; have hcv0 : w4.cell? ⟨w.heap.size, 0, none⟩ = some (.int .i64 p.f0) := blk_cells BX4.out 0 _ H0.out; have hcv11 : w4.cell? ⟨w.heap.size, 11, none⟩ = some (.int .i64 p.f6) := blk_cells BX4.out 11 _ H11.out; have hcv12 : w4.cell? ⟨w.heap.size, 12, none⟩ = some (.slice A12 p.f7.length c12) := blk_cells BX4.out 12 _ H12.out; have hcv13 : w4.cell? ⟨w.heap.size, 13, none⟩ = some (.slice A13 p.f8.length c13) := blk_cells BX4.out 13 _ H13.out; have hcv17 : w4.cell? ⟨w.heap.size, 17, none⟩ = some (.slice (some ad0) p.f12.length c17) := blk_cells BX4.out 17 _ H17.out)
        | (go_at_call 27; refine (HRC.out _ BW4.out).mono ?_; rintro e w9 ⟨rfl, hb8⟩; have hb9 := hb8.below; have BW9 := Aside0.mk (below_step BW4.out hb9); have BX9 := Aside0.mk (blk_keep hb9 BX4.out); clear hb8 hb9; clear hcv0 hcv11 hcv12 hcv13 hcv17; have hcv0 : w9.cell? ⟨w.heap.size, 0, none⟩ = some (.int .i64 p.f0) := blk_cells BX9.out 0 _ H0.out; have hcv11 : w9.cell? ⟨w.heap.size, 11, none⟩ = some (.int .i64 p.f6) := blk_cells BX9.out 11 _ H11.out; have hcv12 : w9.cell? ⟨w.heap.size, 12, none⟩ = some (.slice A12 p.f7.length c12) := blk_cells BX9.out 12 _ H12.out; have hcv13 : w9.cell? ⟨w.heap.size, 13, none⟩ = some (.slice A13 p.f8.length c13) := blk_cells BX9.out 13 _ H13.out; have hcv17 : w9.cell? ⟨w.heap.size, 17, none⟩ = some (.slice (some ad0) p.f12.length c17) := blk_cells BX9.out 17 _ H17.out))
      go_ret
      exact ⟨rfl, BW9.out⟩
  · rw [if_neg q0]
    have q0b : decide (p.f6 ≤ 2) = false := decide_eq_false q0
    have hfin : (ok = false ∧ endP ok n = 0) ∨ (ok = true ∧ decide (8 < n) = true ∧ endP ok n = 0) ∨ (ok = true ∧ decide (8 < n) = false ∧ endP ok n = n) := by
      cases ok with
      | false => exact .inl ⟨rfl, rfl⟩
      | true =>
        by_cases q8 : 8 < n
        · exact .inr (.inl ⟨rfl, decide_eq_true q8, by unfold endP; rw [if_neg (by decide), if_pos q8]⟩)
        · exact .inr (.inr ⟨rfl, decide_eq_false q8, by unfold endP; rw [if_neg (by decide), if_neg q8]⟩)
    rcases hfin with ⟨rfl, hfe⟩ | ⟨rfl, q8b, hfe⟩ | ⟨rfl, q8b, hfe⟩ <;> rw [hfe] <;> clear hfe
    all_goals
      go_enter Try.func13, Try.ntmps13
      go_wp2_with (first
        | ((with_reducible refine gate_dst (N := 3) rfl ?_); refine box_all rfl rfl (cs := cs.toArray) rfl (fun W => by rw [List.size_toArray, HL18.out]; exact HSZ.out W) ?_; intro w1 hbx hbw; have BW1 := Aside0.mk hbw; have BX1 := Aside0.mk hbx; have hcv0 : w1.cell? ⟨w.heap.size, 0, none⟩ = some (.int .i64 p.f0) := blk_cells BX1.out 0 _ H0.out; have hcv11 : w1.cell? ⟨w.heap.size, 11, none⟩ = some (.int .i64 p.f6) := blk_cells BX1.out 11 _ H11.out; have hcv12 : w1.cell? ⟨w.heap.size, 12, none⟩ = some (.slice A12 p.f7.length c12) := blk_cells BX1.out 12 _ H12.out; have hcv13 : w1.cell? ⟨w.heap.size, 13, none⟩ = some (.slice A13 p.f8.length c13) := blk_cells BX1.out 13 _ H13.out; have hcv17 : w1.cell? ⟨w.heap.size, 17, none⟩ = some (.slice (some ad0) p.f12.length c17) := blk_cells BX1.out 17 _ H17.out; clear hbx hbw)
        | ((with_reducible refine gate_dst (N := 26) rfl ?_); (try (refine gate_guard (by rfl) ?_; dsimp only)); refine load_all rfl rfl (cs := cs) rfl HAGG.out (fun W => by rw [HL18.out]; exact HSZ.out W) (blk_cells BX1.out) ?_)
        | (go_at_call 23; refine (HBR.out _ BW1.out).mono ?_; rintro e w2 ⟨rfl, hb2⟩; have BW2 := Aside0.mk (below_step BW1.out hb2); have BX2 := Aside0.mk (blk_keep hb2 BX1.out); clear hb2 BW1 BX1; clear hcv0 hcv11 hcv12 hcv13 hcv17; have hcv0 : w2.cell? ⟨w.heap.size, 0, none⟩ = some (.int .i64 p.f0) := blk_cells BX2.out 0 _ H0.out; have hcv11 : w2.cell? ⟨w.heap.size, 11, none⟩ = some (.int .i64 p.f6) := blk_cells BX2.out 11 _ H11.out; have hcv12 : w2.cell? ⟨w.heap.size, 12, none⟩ = some (.slice A12 p.f7.length c12) := blk_cells BX2.out 12 _ H12.out; have hcv13 : w2.cell? ⟨w.heap.size, 13, none⟩ = some (.slice A13 p.f8.length c13) := blk_cells BX2.out 13 _ H13.out; have hcv17 : w2.cell? ⟨w.heap.size, 17, none⟩ = some (.slice (some ad0) p.f12.length c17) := blk_cells BX2.out 17 _ H17.out)
        | ((with_reducible refine gate_dst (N := 81) rfl ?_); refine load_all rfl rfl (cs := kc0) rfl HAGG.out (fun W => by rw [HKL0.out]; exact HSZ.out W) (fun j v hj => (BW2.out.cell (World.block_lt_of_cell? w _ (HKC0.out j v hj))).trans (HKC0.out j v hj)) ?_)
        | (go_at_call 13; refine (HC0.out _ BW2.out).mono ?_; rintro e w3 ⟨rfl, hbk⟩; have BW3 := Aside0.mk (below_step BW2.out hbk); have BX3 := Aside0.mk (blk_keep hbk BX2.out); clear hbk BW2 BX2; clear hcv0 hcv11 hcv12 hcv13 hcv17; have hcv0 : w3.cell? ⟨w.heap.size, 0, none⟩ = some (.int .i64 p.f0) := blk_cells BX3.out 0 _ H0.out; have hcv11 : w3.cell? ⟨w.heap.size, 11, none⟩ = some (.int .i64 p.f6) := blk_cells BX3.out 11 _ H11.out; have hcv12 : w3.cell? ⟨w.heap.size, 12, none⟩ = some (.slice A12 p.f7.length c12) := blk_cells BX3.out 12 _ H12.out; have hcv13 : w3.cell? ⟨w.heap.size, 13, none⟩ = some (.slice A13 p.f8.length c13) := blk_cells BX3.out 13 _ H13.out; have hcv17 : w3.cell? ⟨w.heap.size, 17, none⟩ = some (.slice (some ad0) p.f12.length c17) := blk_cells BX3.out 17 _ H17.out)
        | ((with_reducible refine gate_dst (N := 93) rfl ?_); refine load_all rfl rfl (cs := kc1) rfl HAGG.out (fun W => by rw [HKL1.out]; exact HSZ.out W) (fun j v hj => (BW3.out.cell (World.block_lt_of_cell? w _ (HKC1.out j v hj))).trans (HKC1.out j v hj)) ?_)
        | (go_at_call 13; refine (HC1.out _ BW3.out).mono ?_; rintro e w4 ⟨rfl, hbk⟩; have BW4 := Aside0.mk (below_step BW3.out hbk); have BX4 := Aside0.mk (blk_keep hbk BX3.out); clear hbk BW3 BX3; clear hcv0 hcv11 hcv12 hcv13 hcv17; have hcv0 : w4.cell? ⟨w.heap.size, 0, none⟩ = some (.int .i64 p.f0) := blk_cells BX4.out 0 _ H0.out; have hcv11 : w4.cell? ⟨w.heap.size, 11, none⟩ = some (.int .i64 p.f6) := blk_cells BX4.out 11 _ H11.out; have hcv12 : w4.cell? ⟨w.heap.size, 12, none⟩ = some (.slice A12 p.f7.length c12) := blk_cells BX4.out 12 _ H12.out; have hcv13 : w4.cell? ⟨w.heap.size, 13, none⟩ = some (.slice A13 p.f8.length c13) := blk_cells BX4.out 13 _ H13.out; have hcv17 : w4.cell? ⟨w.heap.size, 17, none⟩ = some (.slice (some ad0) p.f12.length c17) := blk_cells BX4.out 17 _ H17.out)
        | (go_at_call 27; refine (HRC.out _ BW4.out).mono ?_; rintro e w9 ⟨rfl, hb8⟩; have hb9 := hb8.below; have BW9 := Aside0.mk (below_step BW4.out hb9); have BX9 := Aside0.mk (blk_keep hb9 BX4.out); clear hb8 hb9; clear hcv0 hcv11 hcv12 hcv13 hcv17; have hcv0 : w9.cell? ⟨w.heap.size, 0, none⟩ = some (.int .i64 p.f0) := blk_cells BX9.out 0 _ H0.out; have hcv11 : w9.cell? ⟨w.heap.size, 11, none⟩ = some (.int .i64 p.f6) := blk_cells BX9.out 11 _ H11.out; have hcv12 : w9.cell? ⟨w.heap.size, 12, none⟩ = some (.slice A12 p.f7.length c12) := blk_cells BX9.out 12 _ H12.out; have hcv13 : w9.cell? ⟨w.heap.size, 13, none⟩ = some (.slice A13 p.f8.length c13) := blk_cells BX9.out 13 _ H13.out; have hcv17 : w9.cell? ⟨w.heap.size, 17, none⟩ = some (.slice (some ad0) p.f12.length c17) := blk_cells BX9.out 17 _ H17.out))
      go_ret
      exact ⟨rfl, BW9.out⟩
set_option maxHeartbeats 8000000 in
set_option maxRecDepth 1000000 in
theorem hopperref25_Cols.kind6 (k : Nat) (IH : Aside0 (∀ (p : S31) (cs : List Value) (A1 : Option Addr) (c1 : Nat) (l1 : List S46) (deep : Int) (r : Int) (w : World), k31.K w p cs → Kd.C k46 w A1 l1.length l1 → l1.length ≤ c1 → refColsP k p l1 deep = some r → Calls Try.prog 13 #[.agg cs.toArray, .slice A1 l1.length c1, .int .i64 deep] w fun e w' => e = .returned (.int .i64 r) ∧ Below w.heap.size w w')) (p : S31) (cs : List Value) (A1 : Option Addr) (c1 : Nat) (l1 : List S46) (deep : Int) (r : Int) (w : World) (hK : k31.K w p cs) (hr1 : Kd.C k46 w A1 l1.length l1) (hc1 : l1.length ≤ c1) (q1 : ¬ deep < 1) (hba : bareB p = true) (hk : p.f0 = 6) (h : (if (p.f12.length : Int) ≠ kidsN p.f0 then some 0 else (refColsP k (p.f12.getD 0 z31) l1 (wrap64 (deep - 1))).bind fun n => (if p.f0 = 5 then refColsP k (p.f12.getD 1 z31) l1 (wrap64 (deep - 1)) else some n).bind fun m => if n = 0 then some 0 else if m = 0 then some 0 else (okP k p n m).bind fun ok => some (endP ok (outP p n m))) = some r) :
    Calls Try.prog 13 #[.agg cs.toArray, .slice A1 l1.length c1, .int .i64 deep] w fun e w' => e = .returned (.int .i64 r) ∧ Below w.heap.size w w' := by
  have hagg : ∀ W, (isAgg 31).run Try.prog W = .ok true W := fun W => by first | exact Try.isAgg31 | exact Try.isAgg31 W | go_simp
  have hsz18 : ∀ W, (sizeOf 31).run Try.prog W = .ok 18 W := fun W => by first | exact Try.sizeOf31 | exact Try.sizeOf31 W | go_simp
  have HAGG := Aside0.mk hagg
  have HSZ := Aside0.mk hsz18
  clear hagg hsz18
  have hu31 := Try.underlying31
  have HL18 := Aside0.mk (show cs.length = 18 from k31.K_len hK)
  have HBR0 := Aside0.mk (fun W (hb : Below w.heap.size w W) => hopperref25_bare.core p cs W (k31.K_below hb hK))
  obtain ⟨A7, c7, A8, c8, A9, c9, A10, c10, A12, c12, A13, c13, A14, c14, A17, c17, e_, l7, g7, l8, g8, l9, g9, l10, g10, l12, g12, l13, g13, l14, g14, l17, g17⟩ := k31_open hK
  have H0 := Aside0.mk (show cs[0]? = some (.int .i64 p.f0) from by rw [e_]; rfl)
  have H1 := Aside0.mk (show cs[1]? = some (.string p.f1) from by rw [e_]; rfl)
  have H8 := Aside0.mk (show cs[8]? = some (.slice A8 p.f3.length c8) from by rw [e_]; rfl)
  have H9 := Aside0.mk (show cs[9]? = some (.slice A9 p.f4.length c9) from by rw [e_]; rfl)
  have H10 := Aside0.mk (show cs[10]? = some (.slice A10 p.f5.length c10) from by rw [e_]; rfl)
  have H11 := Aside0.mk (show cs[11]? = some (.int .i64 p.f6) from by rw [e_]; rfl)
  have H12 := Aside0.mk (show cs[12]? = some (.slice A12 p.f7.length c12) from by rw [e_]; rfl)
  have H13 := Aside0.mk (show cs[13]? = some (.slice A13 p.f8.length c13) from by rw [e_]; rfl)
  have H14 := Aside0.mk (show cs[14]? = some (.slice A14 p.f9.length c14) from by rw [e_]; rfl)
  have H15 := Aside0.mk (show cs[15]? = some (.int .i64 p.f10) from by rw [e_]; rfl)
  have H16 := Aside0.mk (show cs[16]? = some (.int .i64 p.f11) from by rw [e_]; rfl)
  have H17 := Aside0.mk (show cs[17]? = some (.slice A17 p.f12.length c17) from by rw [e_]; rfl)
  have G8 := Aside0.mk g8
  have G9 := Aside0.mk g9
  have G10 := Aside0.mk g10
  have G12 := Aside0.mk g12
  have G13 := Aside0.mk g13
  have G14 := Aside0.mk g14
  have G17 := Aside0.mk g17
  have L8 := Aside0.mk l8
  have L9 := Aside0.mk l9
  have L10 := Aside0.mk l10
  have L12 := Aside0.mk l12
  have L13 := Aside0.mk l13
  have L14 := Aside0.mk l14
  clear hK e_ l7 g7 l8 g8 l9 g9 l10 g10 l12 g12 l13 g13 l14 g14 l17 g17
  have HBR := HBR0
  clear HBR0
  rw [hba] at HBR
  clear hba
  have q1b : decide (deep < 1) = false := decide_eq_false q1
  have q2b : decide (p.f0 < 1) = false := decide_eq_false (by omega)
  have q3b : decide (7 < p.f0) = false := decide_eq_false (by omega)
  have q2c : ¬ p.f0 < 1 := by omega
  have q3c : ¬ 7 < p.f0 := by omega
  have k1b : (p.f0 == 1) = false := by rw [hk]; rfl
  have k2b : (p.f0 == 2) = false := by rw [hk]; rfl
  have k3b : (p.f0 == 3) = false := by rw [hk]; rfl
  have k4b : (p.f0 == 4) = false := by rw [hk]; rfl
  have k5b : (p.f0 == 5) = false := by rw [hk]; rfl
  have k6b : (p.f0 == 6) = true := by rw [hk]; rfl
  have k7b : (p.f0 == 7) = false := by rw [hk]; rfl
  have k5n : (p.f0 != 5) = true := by rw [hk]; rfl
  have hkn : kidsN p.f0 = 1 := by rw [hk]; rfl
  by_cases hlen : (p.f12.length : Int) ≠ kidsN p.f0
  · rw [if_pos hlen] at h
    obtain rfl := Option.some.inj h
    rw [hkn] at hlen
    have hlb : ((p.f12.length : Int) != 1) = true := bne_iff_ne.mpr hlen
    clear h hk hkn hlen
    go_enter Try.func13, Try.ntmps13
    go_wp2_with (first
      | ((with_reducible refine gate_dst (N := 3) rfl ?_); refine box_all rfl rfl (cs := cs.toArray) rfl (fun W => by rw [List.size_toArray, HL18.out]; exact HSZ.out W) ?_; intro w1 hbx hbw; have BW1 := Aside0.mk hbw; have BX1 := Aside0.mk hbx; have hcv0 : w1.cell? ⟨w.heap.size, 0, none⟩ = some (.int .i64 p.f0) := blk_cells BX1.out 0 _ H0.out; have hcv14 : w1.cell? ⟨w.heap.size, 14, none⟩ = some (.slice A14 p.f9.length c14) := blk_cells BX1.out 14 _ H14.out; have hcv17 : w1.cell? ⟨w.heap.size, 17, none⟩ = some (.slice A17 p.f12.length c17) := blk_cells BX1.out 17 _ H17.out; clear hbx hbw)
      | ((with_reducible refine gate_dst (N := 26) rfl ?_); (try (refine gate_guard (by rfl) ?_; dsimp only)); refine load_all rfl rfl (cs := cs) rfl HAGG.out (fun W => by rw [HL18.out]; exact HSZ.out W) (blk_cells BX1.out) ?_)
      | (go_at_call 23; refine (HBR.out _ BW1.out).mono ?_; rintro e w2 ⟨rfl, hb2⟩; have BW2 := Aside0.mk (below_step BW1.out hb2); have BX2 := Aside0.mk (blk_keep hb2 BX1.out); clear hb2 BW1 BX1; clear hcv0 hcv14 hcv17; have hcv0 : w2.cell? ⟨w.heap.size, 0, none⟩ = some (.int .i64 p.f0) := blk_cells BX2.out 0 _ H0.out; have hcv14 : w2.cell? ⟨w.heap.size, 14, none⟩ = some (.slice A14 p.f9.length c14) := blk_cells BX2.out 14 _ H14.out; have hcv17 : w2.cell? ⟨w.heap.size, 17, none⟩ = some (.slice A17 p.f12.length c17) := blk_cells BX2.out 17 _ H17.out))
    go_ret
    exact ⟨rfl, BW2.out⟩
  rw [if_neg hlen] at h
  rw [hkn] at hlen
  have hleq : p.f12.length = 1 := by omega
  have hlb : ((p.f12.length : Int) != 1) = false := by rw [hleq]; rfl
  have hl0 : 0 < p.f12.length := by omega
  have hl0i : ((0 : Int) < (p.f12.length : Int)) = True := eq_true (by omega)
  obtain ⟨n, hn, h⟩ := Option.bind_eq_some_iff.1 h
  obtain ⟨ad0, kc0, ek0, hkl0, hkK0, hkc0⟩ := kid_getS w A17 _ p.f12 G17.out 0 (by omega)
  have HC0 := Aside0.mk (fun W (hb : Below w.heap.size w W) => IH.out (p.f12.getD 0 z31) kc0 A1 c1 l1 (wrap64 (deep - 1)) n W (k31.K_below hb hkK0) (Kd.C_below hr1 hb) hc1 hn)
  have HKL0 := Aside0.mk hkl0
  have HKC0 := Aside0.mk (show ∀ j v, kc0[j]? = some v → w.cell? (ad0.add j) = some v from fun j v hj => by have h2 := hkc0 j v hj; rw [show 0 * 18 = 0 from rfl, Addr.add_zero'] at h2; exact h2)
  rw [if_neg (by omega)] at h
  obtain ⟨m, hm, h⟩ := Option.bind_eq_some_iff.1 h
  obtain rfl := Option.some.inj hm
  subst ek0
  clear hkl0 hkK0 hkc0 hn hlen hkn
  by_cases z0 : n = 0
  · rw [if_pos z0] at h
    obtain rfl := Option.some.inj h
    have z0b : (n == 0) = true := beq_iff_eq.mpr z0
    clear h hk z0
    go_enter Try.func13, Try.ntmps13
    go_wp2_with (first
      | ((with_reducible refine gate_dst (N := 3) rfl ?_); refine box_all rfl rfl (cs := cs.toArray) rfl (fun W => by rw [List.size_toArray, HL18.out]; exact HSZ.out W) ?_; intro w1 hbx hbw; have BW1 := Aside0.mk hbw; have BX1 := Aside0.mk hbx; have hcv0 : w1.cell? ⟨w.heap.size, 0, none⟩ = some (.int .i64 p.f0) := blk_cells BX1.out 0 _ H0.out; have hcv14 : w1.cell? ⟨w.heap.size, 14, none⟩ = some (.slice A14 p.f9.length c14) := blk_cells BX1.out 14 _ H14.out; have hcv17 : w1.cell? ⟨w.heap.size, 17, none⟩ = some (.slice (some ad0) p.f12.length c17) := blk_cells BX1.out 17 _ H17.out; clear hbx hbw)
      | ((with_reducible refine gate_dst (N := 26) rfl ?_); (try (refine gate_guard (by rfl) ?_; dsimp only)); refine load_all rfl rfl (cs := cs) rfl HAGG.out (fun W => by rw [HL18.out]; exact HSZ.out W) (blk_cells BX1.out) ?_)
      | (go_at_call 23; refine (HBR.out _ BW1.out).mono ?_; rintro e w2 ⟨rfl, hb2⟩; have BW2 := Aside0.mk (below_step BW1.out hb2); have BX2 := Aside0.mk (blk_keep hb2 BX1.out); clear hb2 BW1 BX1; clear hcv0 hcv14 hcv17; have hcv0 : w2.cell? ⟨w.heap.size, 0, none⟩ = some (.int .i64 p.f0) := blk_cells BX2.out 0 _ H0.out; have hcv14 : w2.cell? ⟨w.heap.size, 14, none⟩ = some (.slice A14 p.f9.length c14) := blk_cells BX2.out 14 _ H14.out; have hcv17 : w2.cell? ⟨w.heap.size, 17, none⟩ = some (.slice (some ad0) p.f12.length c17) := blk_cells BX2.out 17 _ H17.out)
      | ((with_reducible refine gate_dst (N := 81) rfl ?_); refine load_all rfl rfl (cs := kc0) rfl HAGG.out (fun W => by rw [HKL0.out]; exact HSZ.out W) (fun j v hj => (BW2.out.cell (World.block_lt_of_cell? w _ (HKC0.out j v hj))).trans (HKC0.out j v hj)) ?_)
      | (go_at_call 13; refine (HC0.out _ BW2.out).mono ?_; rintro e w3 ⟨rfl, hbk⟩; have BW3 := Aside0.mk (below_step BW2.out hbk); have BX3 := Aside0.mk (blk_keep hbk BX2.out); clear hbk BW2 BX2; clear hcv0 hcv14 hcv17; have hcv0 : w3.cell? ⟨w.heap.size, 0, none⟩ = some (.int .i64 p.f0) := blk_cells BX3.out 0 _ H0.out; have hcv14 : w3.cell? ⟨w.heap.size, 14, none⟩ = some (.slice A14 p.f9.length c14) := blk_cells BX3.out 14 _ H14.out; have hcv17 : w3.cell? ⟨w.heap.size, 17, none⟩ = some (.slice (some ad0) p.f12.length c17) := blk_cells BX3.out 17 _ H17.out))
    go_ret
    exact ⟨rfl, BW3.out⟩
  rw [if_neg z0] at h
  have z0b : (n == 0) = false := beq_eq_false_iff_ne.mpr z0
  rw [if_neg z0] at h
  obtain ⟨ok, hok, h⟩ := Option.bind_eq_some_iff.1 h
  obtain rfl := Option.some.inj h
  clear h
  unfold okP at hok
  rw [if_neg (by omega)] at hok
  rw [if_neg (by omega)] at hok
  rw [if_neg (by omega)] at hok
  rw [if_neg (by omega)] at hok
  rw [if_pos hk] at hok
  have hout : outP p n n = n := by unfold outP; rw [if_neg (by omega), if_neg (by omega), if_neg (by omega)]
  rw [hout]
  clear hout hk
  by_cases q0 : 0 < p.f9.length
  · rw [if_pos q0] at hok
    have q0b : decide (0 < p.f9.length) = true := decide_eq_true q0
    have q0c : decide ((0 : Int) < (p.f9.length : Int)) = true := decide_eq_true (by omega)
    have HRC := Aside0.mk (fun W (hb : Below w.heap.size w W) => hopperref24_Right.calls k A14 c14 p.f9 n ok W (Kd.C_below G14.out hb) L14.out hok)
    clear hok
    have hfin : (ok = false ∧ endP ok n = 0) ∨ (ok = true ∧ decide (8 < n) = true ∧ endP ok n = 0) ∨ (ok = true ∧ decide (8 < n) = false ∧ endP ok n = n) := by
      cases ok with
      | false => exact .inl ⟨rfl, rfl⟩
      | true =>
        by_cases q8 : 8 < n
        · exact .inr (.inl ⟨rfl, decide_eq_true q8, by unfold endP; rw [if_neg (by decide), if_pos q8]⟩)
        · exact .inr (.inr ⟨rfl, decide_eq_false q8, by unfold endP; rw [if_neg (by decide), if_neg q8]⟩)
    rcases hfin with ⟨rfl, hfe⟩ | ⟨rfl, q8b, hfe⟩ | ⟨rfl, q8b, hfe⟩ <;> rw [hfe] <;> clear hfe
    all_goals
      go_enter Try.func13, Try.ntmps13
      go_wp2_with (first
        | ((with_reducible refine gate_dst (N := 3) rfl ?_); refine box_all rfl rfl (cs := cs.toArray) rfl (fun W => by rw [List.size_toArray, HL18.out]; exact HSZ.out W) ?_; intro w1 hbx hbw; have BW1 := Aside0.mk hbw; have BX1 := Aside0.mk hbx; have hcv0 : w1.cell? ⟨w.heap.size, 0, none⟩ = some (.int .i64 p.f0) := blk_cells BX1.out 0 _ H0.out; have hcv14 : w1.cell? ⟨w.heap.size, 14, none⟩ = some (.slice A14 p.f9.length c14) := blk_cells BX1.out 14 _ H14.out; have hcv17 : w1.cell? ⟨w.heap.size, 17, none⟩ = some (.slice (some ad0) p.f12.length c17) := blk_cells BX1.out 17 _ H17.out; clear hbx hbw)
        | ((with_reducible refine gate_dst (N := 26) rfl ?_); (try (refine gate_guard (by rfl) ?_; dsimp only)); refine load_all rfl rfl (cs := cs) rfl HAGG.out (fun W => by rw [HL18.out]; exact HSZ.out W) (blk_cells BX1.out) ?_)
        | (go_at_call 23; refine (HBR.out _ BW1.out).mono ?_; rintro e w2 ⟨rfl, hb2⟩; have BW2 := Aside0.mk (below_step BW1.out hb2); have BX2 := Aside0.mk (blk_keep hb2 BX1.out); clear hb2 BW1 BX1; clear hcv0 hcv14 hcv17; have hcv0 : w2.cell? ⟨w.heap.size, 0, none⟩ = some (.int .i64 p.f0) := blk_cells BX2.out 0 _ H0.out; have hcv14 : w2.cell? ⟨w.heap.size, 14, none⟩ = some (.slice A14 p.f9.length c14) := blk_cells BX2.out 14 _ H14.out; have hcv17 : w2.cell? ⟨w.heap.size, 17, none⟩ = some (.slice (some ad0) p.f12.length c17) := blk_cells BX2.out 17 _ H17.out)
        | ((with_reducible refine gate_dst (N := 81) rfl ?_); refine load_all rfl rfl (cs := kc0) rfl HAGG.out (fun W => by rw [HKL0.out]; exact HSZ.out W) (fun j v hj => (BW2.out.cell (World.block_lt_of_cell? w _ (HKC0.out j v hj))).trans (HKC0.out j v hj)) ?_)
        | (go_at_call 13; refine (HC0.out _ BW2.out).mono ?_; rintro e w3 ⟨rfl, hbk⟩; have BW3 := Aside0.mk (below_step BW2.out hbk); have BX3 := Aside0.mk (blk_keep hbk BX2.out); clear hbk BW2 BX2; clear hcv0 hcv14 hcv17; have hcv0 : w3.cell? ⟨w.heap.size, 0, none⟩ = some (.int .i64 p.f0) := blk_cells BX3.out 0 _ H0.out; have hcv14 : w3.cell? ⟨w.heap.size, 14, none⟩ = some (.slice A14 p.f9.length c14) := blk_cells BX3.out 14 _ H14.out; have hcv17 : w3.cell? ⟨w.heap.size, 17, none⟩ = some (.slice (some ad0) p.f12.length c17) := blk_cells BX3.out 17 _ H17.out)
        | (go_at_call 28; refine (HRC.out _ BW3.out).mono ?_; rintro e w9 ⟨rfl, hb8⟩; have hb9 := hb8.below; have BW9 := Aside0.mk (below_step BW3.out hb9); have BX9 := Aside0.mk (blk_keep hb9 BX3.out); clear hb8 hb9; clear hcv0 hcv14 hcv17; have hcv0 : w9.cell? ⟨w.heap.size, 0, none⟩ = some (.int .i64 p.f0) := blk_cells BX9.out 0 _ H0.out; have hcv14 : w9.cell? ⟨w.heap.size, 14, none⟩ = some (.slice A14 p.f9.length c14) := blk_cells BX9.out 14 _ H14.out; have hcv17 : w9.cell? ⟨w.heap.size, 17, none⟩ = some (.slice (some ad0) p.f12.length c17) := blk_cells BX9.out 17 _ H17.out))
      go_ret
      exact ⟨rfl, BW9.out⟩
  · rw [if_neg q0] at hok
    obtain rfl := Option.some.inj hok
    have q0b : decide (0 < p.f9.length) = false := decide_eq_false q0
    have q0c : decide ((0 : Int) < (p.f9.length : Int)) = false := decide_eq_false (by omega)
    clear hok
    rw [show endP false n = 0 from rfl]
    go_enter Try.func13, Try.ntmps13
    go_wp2_with (first
      | ((with_reducible refine gate_dst (N := 3) rfl ?_); refine box_all rfl rfl (cs := cs.toArray) rfl (fun W => by rw [List.size_toArray, HL18.out]; exact HSZ.out W) ?_; intro w1 hbx hbw; have BW1 := Aside0.mk hbw; have BX1 := Aside0.mk hbx; have hcv0 : w1.cell? ⟨w.heap.size, 0, none⟩ = some (.int .i64 p.f0) := blk_cells BX1.out 0 _ H0.out; have hcv14 : w1.cell? ⟨w.heap.size, 14, none⟩ = some (.slice A14 p.f9.length c14) := blk_cells BX1.out 14 _ H14.out; have hcv17 : w1.cell? ⟨w.heap.size, 17, none⟩ = some (.slice (some ad0) p.f12.length c17) := blk_cells BX1.out 17 _ H17.out; clear hbx hbw)
      | ((with_reducible refine gate_dst (N := 26) rfl ?_); (try (refine gate_guard (by rfl) ?_; dsimp only)); refine load_all rfl rfl (cs := cs) rfl HAGG.out (fun W => by rw [HL18.out]; exact HSZ.out W) (blk_cells BX1.out) ?_)
      | (go_at_call 23; refine (HBR.out _ BW1.out).mono ?_; rintro e w2 ⟨rfl, hb2⟩; have BW2 := Aside0.mk (below_step BW1.out hb2); have BX2 := Aside0.mk (blk_keep hb2 BX1.out); clear hb2 BW1 BX1; clear hcv0 hcv14 hcv17; have hcv0 : w2.cell? ⟨w.heap.size, 0, none⟩ = some (.int .i64 p.f0) := blk_cells BX2.out 0 _ H0.out; have hcv14 : w2.cell? ⟨w.heap.size, 14, none⟩ = some (.slice A14 p.f9.length c14) := blk_cells BX2.out 14 _ H14.out; have hcv17 : w2.cell? ⟨w.heap.size, 17, none⟩ = some (.slice (some ad0) p.f12.length c17) := blk_cells BX2.out 17 _ H17.out)
      | ((with_reducible refine gate_dst (N := 81) rfl ?_); refine load_all rfl rfl (cs := kc0) rfl HAGG.out (fun W => by rw [HKL0.out]; exact HSZ.out W) (fun j v hj => (BW2.out.cell (World.block_lt_of_cell? w _ (HKC0.out j v hj))).trans (HKC0.out j v hj)) ?_)
      | (go_at_call 13; refine (HC0.out _ BW2.out).mono ?_; rintro e w3 ⟨rfl, hbk⟩; have BW3 := Aside0.mk (below_step BW2.out hbk); have BX3 := Aside0.mk (blk_keep hbk BX2.out); clear hbk BW2 BX2; clear hcv0 hcv14 hcv17; have hcv0 : w3.cell? ⟨w.heap.size, 0, none⟩ = some (.int .i64 p.f0) := blk_cells BX3.out 0 _ H0.out; have hcv14 : w3.cell? ⟨w.heap.size, 14, none⟩ = some (.slice A14 p.f9.length c14) := blk_cells BX3.out 14 _ H14.out; have hcv17 : w3.cell? ⟨w.heap.size, 17, none⟩ = some (.slice (some ad0) p.f12.length c17) := blk_cells BX3.out 17 _ H17.out))
    go_ret
    exact ⟨rfl, BW3.out⟩
set_option maxHeartbeats 8000000 in
set_option maxRecDepth 1000000 in
theorem hopperref25_Cols.kind7 (k : Nat) (IH : Aside0 (∀ (p : S31) (cs : List Value) (A1 : Option Addr) (c1 : Nat) (l1 : List S46) (deep : Int) (r : Int) (w : World), k31.K w p cs → Kd.C k46 w A1 l1.length l1 → l1.length ≤ c1 → refColsP k p l1 deep = some r → Calls Try.prog 13 #[.agg cs.toArray, .slice A1 l1.length c1, .int .i64 deep] w fun e w' => e = .returned (.int .i64 r) ∧ Below w.heap.size w w')) (p : S31) (cs : List Value) (A1 : Option Addr) (c1 : Nat) (l1 : List S46) (deep : Int) (r : Int) (w : World) (hK : k31.K w p cs) (hr1 : Kd.C k46 w A1 l1.length l1) (hc1 : l1.length ≤ c1) (q1 : ¬ deep < 1) (hba : bareB p = true) (hk : p.f0 = 7) (h : (if (p.f12.length : Int) ≠ kidsN p.f0 then some 0 else (refColsP k (p.f12.getD 0 z31) l1 (wrap64 (deep - 1))).bind fun n => (if p.f0 = 5 then refColsP k (p.f12.getD 1 z31) l1 (wrap64 (deep - 1)) else some n).bind fun m => if n = 0 then some 0 else if m = 0 then some 0 else (okP k p n m).bind fun ok => some (endP ok (outP p n m))) = some r) :
    Calls Try.prog 13 #[.agg cs.toArray, .slice A1 l1.length c1, .int .i64 deep] w fun e w' => e = .returned (.int .i64 r) ∧ Below w.heap.size w w' := by
  have hagg : ∀ W, (isAgg 31).run Try.prog W = .ok true W := fun W => by first | exact Try.isAgg31 | exact Try.isAgg31 W | go_simp
  have hsz18 : ∀ W, (sizeOf 31).run Try.prog W = .ok 18 W := fun W => by first | exact Try.sizeOf31 | exact Try.sizeOf31 W | go_simp
  have HAGG := Aside0.mk hagg
  have HSZ := Aside0.mk hsz18
  clear hagg hsz18
  have hu31 := Try.underlying31
  have HL18 := Aside0.mk (show cs.length = 18 from k31.K_len hK)
  have HBR0 := Aside0.mk (fun W (hb : Below w.heap.size w W) => hopperref25_bare.core p cs W (k31.K_below hb hK))
  obtain ⟨A7, c7, A8, c8, A9, c9, A10, c10, A12, c12, A13, c13, A14, c14, A17, c17, e_, l7, g7, l8, g8, l9, g9, l10, g10, l12, g12, l13, g13, l14, g14, l17, g17⟩ := k31_open hK
  have H0 := Aside0.mk (show cs[0]? = some (.int .i64 p.f0) from by rw [e_]; rfl)
  have H1 := Aside0.mk (show cs[1]? = some (.string p.f1) from by rw [e_]; rfl)
  have H8 := Aside0.mk (show cs[8]? = some (.slice A8 p.f3.length c8) from by rw [e_]; rfl)
  have H9 := Aside0.mk (show cs[9]? = some (.slice A9 p.f4.length c9) from by rw [e_]; rfl)
  have H10 := Aside0.mk (show cs[10]? = some (.slice A10 p.f5.length c10) from by rw [e_]; rfl)
  have H11 := Aside0.mk (show cs[11]? = some (.int .i64 p.f6) from by rw [e_]; rfl)
  have H12 := Aside0.mk (show cs[12]? = some (.slice A12 p.f7.length c12) from by rw [e_]; rfl)
  have H13 := Aside0.mk (show cs[13]? = some (.slice A13 p.f8.length c13) from by rw [e_]; rfl)
  have H14 := Aside0.mk (show cs[14]? = some (.slice A14 p.f9.length c14) from by rw [e_]; rfl)
  have H15 := Aside0.mk (show cs[15]? = some (.int .i64 p.f10) from by rw [e_]; rfl)
  have H16 := Aside0.mk (show cs[16]? = some (.int .i64 p.f11) from by rw [e_]; rfl)
  have H17 := Aside0.mk (show cs[17]? = some (.slice A17 p.f12.length c17) from by rw [e_]; rfl)
  have G8 := Aside0.mk g8
  have G9 := Aside0.mk g9
  have G10 := Aside0.mk g10
  have G12 := Aside0.mk g12
  have G13 := Aside0.mk g13
  have G14 := Aside0.mk g14
  have G17 := Aside0.mk g17
  have L8 := Aside0.mk l8
  have L9 := Aside0.mk l9
  have L10 := Aside0.mk l10
  have L12 := Aside0.mk l12
  have L13 := Aside0.mk l13
  have L14 := Aside0.mk l14
  clear hK e_ l7 g7 l8 g8 l9 g9 l10 g10 l12 g12 l13 g13 l14 g14 l17 g17
  have HBR := HBR0
  clear HBR0
  rw [hba] at HBR
  clear hba
  have q1b : decide (deep < 1) = false := decide_eq_false q1
  have q2b : decide (p.f0 < 1) = false := decide_eq_false (by omega)
  have q3b : decide (7 < p.f0) = false := decide_eq_false (by omega)
  have q2c : ¬ p.f0 < 1 := by omega
  have q3c : ¬ 7 < p.f0 := by omega
  have k1b : (p.f0 == 1) = false := by rw [hk]; rfl
  have k2b : (p.f0 == 2) = false := by rw [hk]; rfl
  have k3b : (p.f0 == 3) = false := by rw [hk]; rfl
  have k4b : (p.f0 == 4) = false := by rw [hk]; rfl
  have k5b : (p.f0 == 5) = false := by rw [hk]; rfl
  have k6b : (p.f0 == 6) = false := by rw [hk]; rfl
  have k7b : (p.f0 == 7) = true := by rw [hk]; rfl
  have k5n : (p.f0 != 5) = true := by rw [hk]; rfl
  have hkn : kidsN p.f0 = 1 := by rw [hk]; rfl
  by_cases hlen : (p.f12.length : Int) ≠ kidsN p.f0
  · rw [if_pos hlen] at h
    obtain rfl := Option.some.inj h
    rw [hkn] at hlen
    have hlb : ((p.f12.length : Int) != 1) = true := bne_iff_ne.mpr hlen
    clear h hk hkn hlen
    go_enter Try.func13, Try.ntmps13
    go_wp2_with (first
      | ((with_reducible refine gate_dst (N := 3) rfl ?_); refine box_all rfl rfl (cs := cs.toArray) rfl (fun W => by rw [List.size_toArray, HL18.out]; exact HSZ.out W) ?_; intro w1 hbx hbw; have BW1 := Aside0.mk hbw; have BX1 := Aside0.mk hbx; have hcv0 : w1.cell? ⟨w.heap.size, 0, none⟩ = some (.int .i64 p.f0) := blk_cells BX1.out 0 _ H0.out; have hcv15 : w1.cell? ⟨w.heap.size, 15, none⟩ = some (.int .i64 p.f10) := blk_cells BX1.out 15 _ H15.out; have hcv16 : w1.cell? ⟨w.heap.size, 16, none⟩ = some (.int .i64 p.f11) := blk_cells BX1.out 16 _ H16.out; have hcv17 : w1.cell? ⟨w.heap.size, 17, none⟩ = some (.slice A17 p.f12.length c17) := blk_cells BX1.out 17 _ H17.out; clear hbx hbw)
      | ((with_reducible refine gate_dst (N := 26) rfl ?_); (try (refine gate_guard (by rfl) ?_; dsimp only)); refine load_all rfl rfl (cs := cs) rfl HAGG.out (fun W => by rw [HL18.out]; exact HSZ.out W) (blk_cells BX1.out) ?_)
      | (go_at_call 23; refine (HBR.out _ BW1.out).mono ?_; rintro e w2 ⟨rfl, hb2⟩; have BW2 := Aside0.mk (below_step BW1.out hb2); have BX2 := Aside0.mk (blk_keep hb2 BX1.out); clear hb2 BW1 BX1; clear hcv0 hcv15 hcv16 hcv17; have hcv0 : w2.cell? ⟨w.heap.size, 0, none⟩ = some (.int .i64 p.f0) := blk_cells BX2.out 0 _ H0.out; have hcv15 : w2.cell? ⟨w.heap.size, 15, none⟩ = some (.int .i64 p.f10) := blk_cells BX2.out 15 _ H15.out; have hcv16 : w2.cell? ⟨w.heap.size, 16, none⟩ = some (.int .i64 p.f11) := blk_cells BX2.out 16 _ H16.out; have hcv17 : w2.cell? ⟨w.heap.size, 17, none⟩ = some (.slice A17 p.f12.length c17) := blk_cells BX2.out 17 _ H17.out))
    go_ret
    exact ⟨rfl, BW2.out⟩
  rw [if_neg hlen] at h
  rw [hkn] at hlen
  have hleq : p.f12.length = 1 := by omega
  have hlb : ((p.f12.length : Int) != 1) = false := by rw [hleq]; rfl
  have hl0 : 0 < p.f12.length := by omega
  have hl0i : ((0 : Int) < (p.f12.length : Int)) = True := eq_true (by omega)
  obtain ⟨n, hn, h⟩ := Option.bind_eq_some_iff.1 h
  obtain ⟨ad0, kc0, ek0, hkl0, hkK0, hkc0⟩ := kid_getS w A17 _ p.f12 G17.out 0 (by omega)
  have HC0 := Aside0.mk (fun W (hb : Below w.heap.size w W) => IH.out (p.f12.getD 0 z31) kc0 A1 c1 l1 (wrap64 (deep - 1)) n W (k31.K_below hb hkK0) (Kd.C_below hr1 hb) hc1 hn)
  have HKL0 := Aside0.mk hkl0
  have HKC0 := Aside0.mk (show ∀ j v, kc0[j]? = some v → w.cell? (ad0.add j) = some v from fun j v hj => by have h2 := hkc0 j v hj; rw [show 0 * 18 = 0 from rfl, Addr.add_zero'] at h2; exact h2)
  rw [if_neg (by omega)] at h
  obtain ⟨m, hm, h⟩ := Option.bind_eq_some_iff.1 h
  obtain rfl := Option.some.inj hm
  subst ek0
  clear hkl0 hkK0 hkc0 hn hlen hkn
  by_cases z0 : n = 0
  · rw [if_pos z0] at h
    obtain rfl := Option.some.inj h
    have z0b : (n == 0) = true := beq_iff_eq.mpr z0
    clear h hk z0
    go_enter Try.func13, Try.ntmps13
    go_wp2_with (first
      | ((with_reducible refine gate_dst (N := 3) rfl ?_); refine box_all rfl rfl (cs := cs.toArray) rfl (fun W => by rw [List.size_toArray, HL18.out]; exact HSZ.out W) ?_; intro w1 hbx hbw; have BW1 := Aside0.mk hbw; have BX1 := Aside0.mk hbx; have hcv0 : w1.cell? ⟨w.heap.size, 0, none⟩ = some (.int .i64 p.f0) := blk_cells BX1.out 0 _ H0.out; have hcv15 : w1.cell? ⟨w.heap.size, 15, none⟩ = some (.int .i64 p.f10) := blk_cells BX1.out 15 _ H15.out; have hcv16 : w1.cell? ⟨w.heap.size, 16, none⟩ = some (.int .i64 p.f11) := blk_cells BX1.out 16 _ H16.out; have hcv17 : w1.cell? ⟨w.heap.size, 17, none⟩ = some (.slice (some ad0) p.f12.length c17) := blk_cells BX1.out 17 _ H17.out; clear hbx hbw)
      | ((with_reducible refine gate_dst (N := 26) rfl ?_); (try (refine gate_guard (by rfl) ?_; dsimp only)); refine load_all rfl rfl (cs := cs) rfl HAGG.out (fun W => by rw [HL18.out]; exact HSZ.out W) (blk_cells BX1.out) ?_)
      | (go_at_call 23; refine (HBR.out _ BW1.out).mono ?_; rintro e w2 ⟨rfl, hb2⟩; have BW2 := Aside0.mk (below_step BW1.out hb2); have BX2 := Aside0.mk (blk_keep hb2 BX1.out); clear hb2 BW1 BX1; clear hcv0 hcv15 hcv16 hcv17; have hcv0 : w2.cell? ⟨w.heap.size, 0, none⟩ = some (.int .i64 p.f0) := blk_cells BX2.out 0 _ H0.out; have hcv15 : w2.cell? ⟨w.heap.size, 15, none⟩ = some (.int .i64 p.f10) := blk_cells BX2.out 15 _ H15.out; have hcv16 : w2.cell? ⟨w.heap.size, 16, none⟩ = some (.int .i64 p.f11) := blk_cells BX2.out 16 _ H16.out; have hcv17 : w2.cell? ⟨w.heap.size, 17, none⟩ = some (.slice (some ad0) p.f12.length c17) := blk_cells BX2.out 17 _ H17.out)
      | ((with_reducible refine gate_dst (N := 81) rfl ?_); refine load_all rfl rfl (cs := kc0) rfl HAGG.out (fun W => by rw [HKL0.out]; exact HSZ.out W) (fun j v hj => (BW2.out.cell (World.block_lt_of_cell? w _ (HKC0.out j v hj))).trans (HKC0.out j v hj)) ?_)
      | (go_at_call 13; refine (HC0.out _ BW2.out).mono ?_; rintro e w3 ⟨rfl, hbk⟩; have BW3 := Aside0.mk (below_step BW2.out hbk); have BX3 := Aside0.mk (blk_keep hbk BX2.out); clear hbk BW2 BX2; clear hcv0 hcv15 hcv16 hcv17; have hcv0 : w3.cell? ⟨w.heap.size, 0, none⟩ = some (.int .i64 p.f0) := blk_cells BX3.out 0 _ H0.out; have hcv15 : w3.cell? ⟨w.heap.size, 15, none⟩ = some (.int .i64 p.f10) := blk_cells BX3.out 15 _ H15.out; have hcv16 : w3.cell? ⟨w.heap.size, 16, none⟩ = some (.int .i64 p.f11) := blk_cells BX3.out 16 _ H16.out; have hcv17 : w3.cell? ⟨w.heap.size, 17, none⟩ = some (.slice (some ad0) p.f12.length c17) := blk_cells BX3.out 17 _ H17.out))
    go_ret
    exact ⟨rfl, BW3.out⟩
  rw [if_neg z0] at h
  have z0b : (n == 0) = false := beq_eq_false_iff_ne.mpr z0
  rw [if_neg z0] at h
  obtain ⟨ok, hok, h⟩ := Option.bind_eq_some_iff.1 h
  obtain rfl := Option.some.inj h
  clear h
  unfold okP at hok
  rw [if_neg (by omega)] at hok
  rw [if_neg (by omega)] at hok
  rw [if_neg (by omega)] at hok
  rw [if_neg (by omega)] at hok
  rw [if_neg (by omega)] at hok
  have hout : outP p n n = n := by unfold outP; rw [if_neg (by omega), if_neg (by omega), if_neg (by omega)]
  rw [hout]
  clear hout hk
  obtain rfl := Option.some.inj hok
  clear hok
  cases qf : decide (0 ≤ p.f10) with
  | false =>
    rw [show endP (false && decide (0 ≤ p.f11)) n = 0 from rfl]
    go_enter Try.func13, Try.ntmps13
    go_wp2_with (first
      | ((with_reducible refine gate_dst (N := 3) rfl ?_); refine box_all rfl rfl (cs := cs.toArray) rfl (fun W => by rw [List.size_toArray, HL18.out]; exact HSZ.out W) ?_; intro w1 hbx hbw; have BW1 := Aside0.mk hbw; have BX1 := Aside0.mk hbx; have hcv0 : w1.cell? ⟨w.heap.size, 0, none⟩ = some (.int .i64 p.f0) := blk_cells BX1.out 0 _ H0.out; have hcv15 : w1.cell? ⟨w.heap.size, 15, none⟩ = some (.int .i64 p.f10) := blk_cells BX1.out 15 _ H15.out; have hcv16 : w1.cell? ⟨w.heap.size, 16, none⟩ = some (.int .i64 p.f11) := blk_cells BX1.out 16 _ H16.out; have hcv17 : w1.cell? ⟨w.heap.size, 17, none⟩ = some (.slice (some ad0) p.f12.length c17) := blk_cells BX1.out 17 _ H17.out; clear hbx hbw)
      | ((with_reducible refine gate_dst (N := 26) rfl ?_); (try (refine gate_guard (by rfl) ?_; dsimp only)); refine load_all rfl rfl (cs := cs) rfl HAGG.out (fun W => by rw [HL18.out]; exact HSZ.out W) (blk_cells BX1.out) ?_)
      | (go_at_call 23; refine (HBR.out _ BW1.out).mono ?_; rintro e w2 ⟨rfl, hb2⟩; have BW2 := Aside0.mk (below_step BW1.out hb2); have BX2 := Aside0.mk (blk_keep hb2 BX1.out); clear hb2 BW1 BX1; clear hcv0 hcv15 hcv16 hcv17; have hcv0 : w2.cell? ⟨w.heap.size, 0, none⟩ = some (.int .i64 p.f0) := blk_cells BX2.out 0 _ H0.out; have hcv15 : w2.cell? ⟨w.heap.size, 15, none⟩ = some (.int .i64 p.f10) := blk_cells BX2.out 15 _ H15.out; have hcv16 : w2.cell? ⟨w.heap.size, 16, none⟩ = some (.int .i64 p.f11) := blk_cells BX2.out 16 _ H16.out; have hcv17 : w2.cell? ⟨w.heap.size, 17, none⟩ = some (.slice (some ad0) p.f12.length c17) := blk_cells BX2.out 17 _ H17.out)
      | ((with_reducible refine gate_dst (N := 81) rfl ?_); refine load_all rfl rfl (cs := kc0) rfl HAGG.out (fun W => by rw [HKL0.out]; exact HSZ.out W) (fun j v hj => (BW2.out.cell (World.block_lt_of_cell? w _ (HKC0.out j v hj))).trans (HKC0.out j v hj)) ?_)
      | (go_at_call 13; refine (HC0.out _ BW2.out).mono ?_; rintro e w3 ⟨rfl, hbk⟩; have BW3 := Aside0.mk (below_step BW2.out hbk); have BX3 := Aside0.mk (blk_keep hbk BX2.out); clear hbk BW2 BX2; clear hcv0 hcv15 hcv16 hcv17; have hcv0 : w3.cell? ⟨w.heap.size, 0, none⟩ = some (.int .i64 p.f0) := blk_cells BX3.out 0 _ H0.out; have hcv15 : w3.cell? ⟨w.heap.size, 15, none⟩ = some (.int .i64 p.f10) := blk_cells BX3.out 15 _ H15.out; have hcv16 : w3.cell? ⟨w.heap.size, 16, none⟩ = some (.int .i64 p.f11) := blk_cells BX3.out 16 _ H16.out; have hcv17 : w3.cell? ⟨w.heap.size, 17, none⟩ = some (.slice (some ad0) p.f12.length c17) := blk_cells BX3.out 17 _ H17.out))
    go_ret
    exact ⟨rfl, BW3.out⟩
  | true =>
    cases qn : decide (0 ≤ p.f11) with
    | false =>
      rw [show endP (true && false) n = 0 from rfl]
      go_enter Try.func13, Try.ntmps13
      go_wp2_with (first
        | ((with_reducible refine gate_dst (N := 3) rfl ?_); refine box_all rfl rfl (cs := cs.toArray) rfl (fun W => by rw [List.size_toArray, HL18.out]; exact HSZ.out W) ?_; intro w1 hbx hbw; have BW1 := Aside0.mk hbw; have BX1 := Aside0.mk hbx; have hcv0 : w1.cell? ⟨w.heap.size, 0, none⟩ = some (.int .i64 p.f0) := blk_cells BX1.out 0 _ H0.out; have hcv15 : w1.cell? ⟨w.heap.size, 15, none⟩ = some (.int .i64 p.f10) := blk_cells BX1.out 15 _ H15.out; have hcv16 : w1.cell? ⟨w.heap.size, 16, none⟩ = some (.int .i64 p.f11) := blk_cells BX1.out 16 _ H16.out; have hcv17 : w1.cell? ⟨w.heap.size, 17, none⟩ = some (.slice (some ad0) p.f12.length c17) := blk_cells BX1.out 17 _ H17.out; clear hbx hbw)
        | ((with_reducible refine gate_dst (N := 26) rfl ?_); (try (refine gate_guard (by rfl) ?_; dsimp only)); refine load_all rfl rfl (cs := cs) rfl HAGG.out (fun W => by rw [HL18.out]; exact HSZ.out W) (blk_cells BX1.out) ?_)
        | (go_at_call 23; refine (HBR.out _ BW1.out).mono ?_; rintro e w2 ⟨rfl, hb2⟩; have BW2 := Aside0.mk (below_step BW1.out hb2); have BX2 := Aside0.mk (blk_keep hb2 BX1.out); clear hb2 BW1 BX1; clear hcv0 hcv15 hcv16 hcv17; have hcv0 : w2.cell? ⟨w.heap.size, 0, none⟩ = some (.int .i64 p.f0) := blk_cells BX2.out 0 _ H0.out; have hcv15 : w2.cell? ⟨w.heap.size, 15, none⟩ = some (.int .i64 p.f10) := blk_cells BX2.out 15 _ H15.out; have hcv16 : w2.cell? ⟨w.heap.size, 16, none⟩ = some (.int .i64 p.f11) := blk_cells BX2.out 16 _ H16.out; have hcv17 : w2.cell? ⟨w.heap.size, 17, none⟩ = some (.slice (some ad0) p.f12.length c17) := blk_cells BX2.out 17 _ H17.out)
        | ((with_reducible refine gate_dst (N := 81) rfl ?_); refine load_all rfl rfl (cs := kc0) rfl HAGG.out (fun W => by rw [HKL0.out]; exact HSZ.out W) (fun j v hj => (BW2.out.cell (World.block_lt_of_cell? w _ (HKC0.out j v hj))).trans (HKC0.out j v hj)) ?_)
        | (go_at_call 13; refine (HC0.out _ BW2.out).mono ?_; rintro e w3 ⟨rfl, hbk⟩; have BW3 := Aside0.mk (below_step BW2.out hbk); have BX3 := Aside0.mk (blk_keep hbk BX2.out); clear hbk BW2 BX2; clear hcv0 hcv15 hcv16 hcv17; have hcv0 : w3.cell? ⟨w.heap.size, 0, none⟩ = some (.int .i64 p.f0) := blk_cells BX3.out 0 _ H0.out; have hcv15 : w3.cell? ⟨w.heap.size, 15, none⟩ = some (.int .i64 p.f10) := blk_cells BX3.out 15 _ H15.out; have hcv16 : w3.cell? ⟨w.heap.size, 16, none⟩ = some (.int .i64 p.f11) := blk_cells BX3.out 16 _ H16.out; have hcv17 : w3.cell? ⟨w.heap.size, 17, none⟩ = some (.slice (some ad0) p.f12.length c17) := blk_cells BX3.out 17 _ H17.out))
      go_ret
      exact ⟨rfl, BW3.out⟩
    | true =>
      rw [show (true && true) = true from rfl]
      by_cases q8 : 8 < n
      · rw [show endP true n = 0 from by unfold endP; rw [if_neg (by decide), if_pos q8]]
        have q8b : decide (8 < n) = true := decide_eq_true q8
        go_enter Try.func13, Try.ntmps13
        go_wp2_with (first
          | ((with_reducible refine gate_dst (N := 3) rfl ?_); refine box_all rfl rfl (cs := cs.toArray) rfl (fun W => by rw [List.size_toArray, HL18.out]; exact HSZ.out W) ?_; intro w1 hbx hbw; have BW1 := Aside0.mk hbw; have BX1 := Aside0.mk hbx; have hcv0 : w1.cell? ⟨w.heap.size, 0, none⟩ = some (.int .i64 p.f0) := blk_cells BX1.out 0 _ H0.out; have hcv15 : w1.cell? ⟨w.heap.size, 15, none⟩ = some (.int .i64 p.f10) := blk_cells BX1.out 15 _ H15.out; have hcv16 : w1.cell? ⟨w.heap.size, 16, none⟩ = some (.int .i64 p.f11) := blk_cells BX1.out 16 _ H16.out; have hcv17 : w1.cell? ⟨w.heap.size, 17, none⟩ = some (.slice (some ad0) p.f12.length c17) := blk_cells BX1.out 17 _ H17.out; clear hbx hbw)
          | ((with_reducible refine gate_dst (N := 26) rfl ?_); (try (refine gate_guard (by rfl) ?_; dsimp only)); refine load_all rfl rfl (cs := cs) rfl HAGG.out (fun W => by rw [HL18.out]; exact HSZ.out W) (blk_cells BX1.out) ?_)
          | (go_at_call 23; refine (HBR.out _ BW1.out).mono ?_; rintro e w2 ⟨rfl, hb2⟩; have BW2 := Aside0.mk (below_step BW1.out hb2); have BX2 := Aside0.mk (blk_keep hb2 BX1.out); clear hb2 BW1 BX1; clear hcv0 hcv15 hcv16 hcv17; have hcv0 : w2.cell? ⟨w.heap.size, 0, none⟩ = some (.int .i64 p.f0) := blk_cells BX2.out 0 _ H0.out; have hcv15 : w2.cell? ⟨w.heap.size, 15, none⟩ = some (.int .i64 p.f10) := blk_cells BX2.out 15 _ H15.out; have hcv16 : w2.cell? ⟨w.heap.size, 16, none⟩ = some (.int .i64 p.f11) := blk_cells BX2.out 16 _ H16.out; have hcv17 : w2.cell? ⟨w.heap.size, 17, none⟩ = some (.slice (some ad0) p.f12.length c17) := blk_cells BX2.out 17 _ H17.out)
          | ((with_reducible refine gate_dst (N := 81) rfl ?_); refine load_all rfl rfl (cs := kc0) rfl HAGG.out (fun W => by rw [HKL0.out]; exact HSZ.out W) (fun j v hj => (BW2.out.cell (World.block_lt_of_cell? w _ (HKC0.out j v hj))).trans (HKC0.out j v hj)) ?_)
          | (go_at_call 13; refine (HC0.out _ BW2.out).mono ?_; rintro e w3 ⟨rfl, hbk⟩; have BW3 := Aside0.mk (below_step BW2.out hbk); have BX3 := Aside0.mk (blk_keep hbk BX2.out); clear hbk BW2 BX2; clear hcv0 hcv15 hcv16 hcv17; have hcv0 : w3.cell? ⟨w.heap.size, 0, none⟩ = some (.int .i64 p.f0) := blk_cells BX3.out 0 _ H0.out; have hcv15 : w3.cell? ⟨w.heap.size, 15, none⟩ = some (.int .i64 p.f10) := blk_cells BX3.out 15 _ H15.out; have hcv16 : w3.cell? ⟨w.heap.size, 16, none⟩ = some (.int .i64 p.f11) := blk_cells BX3.out 16 _ H16.out; have hcv17 : w3.cell? ⟨w.heap.size, 17, none⟩ = some (.slice (some ad0) p.f12.length c17) := blk_cells BX3.out 17 _ H17.out))
        go_ret
        exact ⟨rfl, BW3.out⟩
      · rw [show endP true n = n from by unfold endP; rw [if_neg (by decide), if_neg q8]]
        have q8b : decide (8 < n) = false := decide_eq_false q8
        go_enter Try.func13, Try.ntmps13
        go_wp2_with (first
          | ((with_reducible refine gate_dst (N := 3) rfl ?_); refine box_all rfl rfl (cs := cs.toArray) rfl (fun W => by rw [List.size_toArray, HL18.out]; exact HSZ.out W) ?_; intro w1 hbx hbw; have BW1 := Aside0.mk hbw; have BX1 := Aside0.mk hbx; have hcv0 : w1.cell? ⟨w.heap.size, 0, none⟩ = some (.int .i64 p.f0) := blk_cells BX1.out 0 _ H0.out; have hcv15 : w1.cell? ⟨w.heap.size, 15, none⟩ = some (.int .i64 p.f10) := blk_cells BX1.out 15 _ H15.out; have hcv16 : w1.cell? ⟨w.heap.size, 16, none⟩ = some (.int .i64 p.f11) := blk_cells BX1.out 16 _ H16.out; have hcv17 : w1.cell? ⟨w.heap.size, 17, none⟩ = some (.slice (some ad0) p.f12.length c17) := blk_cells BX1.out 17 _ H17.out; clear hbx hbw)
          | ((with_reducible refine gate_dst (N := 26) rfl ?_); (try (refine gate_guard (by rfl) ?_; dsimp only)); refine load_all rfl rfl (cs := cs) rfl HAGG.out (fun W => by rw [HL18.out]; exact HSZ.out W) (blk_cells BX1.out) ?_)
          | (go_at_call 23; refine (HBR.out _ BW1.out).mono ?_; rintro e w2 ⟨rfl, hb2⟩; have BW2 := Aside0.mk (below_step BW1.out hb2); have BX2 := Aside0.mk (blk_keep hb2 BX1.out); clear hb2 BW1 BX1; clear hcv0 hcv15 hcv16 hcv17; have hcv0 : w2.cell? ⟨w.heap.size, 0, none⟩ = some (.int .i64 p.f0) := blk_cells BX2.out 0 _ H0.out; have hcv15 : w2.cell? ⟨w.heap.size, 15, none⟩ = some (.int .i64 p.f10) := blk_cells BX2.out 15 _ H15.out; have hcv16 : w2.cell? ⟨w.heap.size, 16, none⟩ = some (.int .i64 p.f11) := blk_cells BX2.out 16 _ H16.out; have hcv17 : w2.cell? ⟨w.heap.size, 17, none⟩ = some (.slice (some ad0) p.f12.length c17) := blk_cells BX2.out 17 _ H17.out)
          | ((with_reducible refine gate_dst (N := 81) rfl ?_); refine load_all rfl rfl (cs := kc0) rfl HAGG.out (fun W => by rw [HKL0.out]; exact HSZ.out W) (fun j v hj => (BW2.out.cell (World.block_lt_of_cell? w _ (HKC0.out j v hj))).trans (HKC0.out j v hj)) ?_)
          | (go_at_call 13; refine (HC0.out _ BW2.out).mono ?_; rintro e w3 ⟨rfl, hbk⟩; have BW3 := Aside0.mk (below_step BW2.out hbk); have BX3 := Aside0.mk (blk_keep hbk BX2.out); clear hbk BW2 BX2; clear hcv0 hcv15 hcv16 hcv17; have hcv0 : w3.cell? ⟨w.heap.size, 0, none⟩ = some (.int .i64 p.f0) := blk_cells BX3.out 0 _ H0.out; have hcv15 : w3.cell? ⟨w.heap.size, 15, none⟩ = some (.int .i64 p.f10) := blk_cells BX3.out 15 _ H15.out; have hcv16 : w3.cell? ⟨w.heap.size, 16, none⟩ = some (.int .i64 p.f11) := blk_cells BX3.out 16 _ H16.out; have hcv17 : w3.cell? ⟨w.heap.size, 17, none⟩ = some (.slice (some ad0) p.f12.length c17) := blk_cells BX3.out 17 _ H17.out))
        go_ret
        exact ⟨rfl, BW3.out⟩
set_option maxHeartbeats 8000000 in
set_option maxRecDepth 1000000 in
theorem hopperref25_Cols.kind3 (k : Nat) (IH : Aside0 (∀ (p : S31) (cs : List Value) (A1 : Option Addr) (c1 : Nat) (l1 : List S46) (deep : Int) (r : Int) (w : World), k31.K w p cs → Kd.C k46 w A1 l1.length l1 → l1.length ≤ c1 → refColsP k p l1 deep = some r → Calls Try.prog 13 #[.agg cs.toArray, .slice A1 l1.length c1, .int .i64 deep] w fun e w' => e = .returned (.int .i64 r) ∧ Below w.heap.size w w')) (p : S31) (cs : List Value) (A1 : Option Addr) (c1 : Nat) (l1 : List S46) (deep : Int) (r : Int) (w : World) (hK : k31.K w p cs) (hr1 : Kd.C k46 w A1 l1.length l1) (hc1 : l1.length ≤ c1) (q1 : ¬ deep < 1) (hba : bareB p = true) (hk : p.f0 = 3) (h : (if (p.f12.length : Int) ≠ kidsN p.f0 then some 0 else (refColsP k (p.f12.getD 0 z31) l1 (wrap64 (deep - 1))).bind fun n => (if p.f0 = 5 then refColsP k (p.f12.getD 1 z31) l1 (wrap64 (deep - 1)) else some n).bind fun m => if n = 0 then some 0 else if m = 0 then some 0 else (okP k p n m).bind fun ok => some (endP ok (outP p n m))) = some r) :
    Calls Try.prog 13 #[.agg cs.toArray, .slice A1 l1.length c1, .int .i64 deep] w fun e w' => e = .returned (.int .i64 r) ∧ Below w.heap.size w w' := by
  have hagg : ∀ W, (isAgg 31).run Try.prog W = .ok true W := fun W => by first | exact Try.isAgg31 | exact Try.isAgg31 W | go_simp
  have hsz18 : ∀ W, (sizeOf 31).run Try.prog W = .ok 18 W := fun W => by first | exact Try.sizeOf31 | exact Try.sizeOf31 W | go_simp
  have HAGG := Aside0.mk hagg
  have HSZ := Aside0.mk hsz18
  clear hagg hsz18
  have hu31 := Try.underlying31
  have HL18 := Aside0.mk (show cs.length = 18 from k31.K_len hK)
  have HBR0 := Aside0.mk (fun W (hb : Below w.heap.size w W) => hopperref25_bare.core p cs W (k31.K_below hb hK))
  obtain ⟨A7, c7, A8, c8, A9, c9, A10, c10, A12, c12, A13, c13, A14, c14, A17, c17, e_, l7, g7, l8, g8, l9, g9, l10, g10, l12, g12, l13, g13, l14, g14, l17, g17⟩ := k31_open hK
  have H0 := Aside0.mk (show cs[0]? = some (.int .i64 p.f0) from by rw [e_]; rfl)
  have H1 := Aside0.mk (show cs[1]? = some (.string p.f1) from by rw [e_]; rfl)
  have H8 := Aside0.mk (show cs[8]? = some (.slice A8 p.f3.length c8) from by rw [e_]; rfl)
  have H9 := Aside0.mk (show cs[9]? = some (.slice A9 p.f4.length c9) from by rw [e_]; rfl)
  have H10 := Aside0.mk (show cs[10]? = some (.slice A10 p.f5.length c10) from by rw [e_]; rfl)
  have H11 := Aside0.mk (show cs[11]? = some (.int .i64 p.f6) from by rw [e_]; rfl)
  have H12 := Aside0.mk (show cs[12]? = some (.slice A12 p.f7.length c12) from by rw [e_]; rfl)
  have H13 := Aside0.mk (show cs[13]? = some (.slice A13 p.f8.length c13) from by rw [e_]; rfl)
  have H14 := Aside0.mk (show cs[14]? = some (.slice A14 p.f9.length c14) from by rw [e_]; rfl)
  have H15 := Aside0.mk (show cs[15]? = some (.int .i64 p.f10) from by rw [e_]; rfl)
  have H16 := Aside0.mk (show cs[16]? = some (.int .i64 p.f11) from by rw [e_]; rfl)
  have H17 := Aside0.mk (show cs[17]? = some (.slice A17 p.f12.length c17) from by rw [e_]; rfl)
  have G8 := Aside0.mk g8
  have G9 := Aside0.mk g9
  have G10 := Aside0.mk g10
  have G12 := Aside0.mk g12
  have G13 := Aside0.mk g13
  have G14 := Aside0.mk g14
  have G17 := Aside0.mk g17
  have L8 := Aside0.mk l8
  have L9 := Aside0.mk l9
  have L10 := Aside0.mk l10
  have L12 := Aside0.mk l12
  have L13 := Aside0.mk l13
  have L14 := Aside0.mk l14
  clear hK e_ l7 g7 l8 g8 l9 g9 l10 g10 l12 g12 l13 g13 l14 g14 l17 g17
  have HBR := HBR0
  clear HBR0
  rw [hba] at HBR
  clear hba
  have q1b : decide (deep < 1) = false := decide_eq_false q1
  have q2b : decide (p.f0 < 1) = false := decide_eq_false (by omega)
  have q3b : decide (7 < p.f0) = false := decide_eq_false (by omega)
  have q2c : ¬ p.f0 < 1 := by omega
  have q3c : ¬ 7 < p.f0 := by omega
  have k1b : (p.f0 == 1) = false := by rw [hk]; rfl
  have k2b : (p.f0 == 2) = false := by rw [hk]; rfl
  have k3b : (p.f0 == 3) = true := by rw [hk]; rfl
  have k4b : (p.f0 == 4) = false := by rw [hk]; rfl
  have k5b : (p.f0 == 5) = false := by rw [hk]; rfl
  have k6b : (p.f0 == 6) = false := by rw [hk]; rfl
  have k7b : (p.f0 == 7) = false := by rw [hk]; rfl
  have k5n : (p.f0 != 5) = true := by rw [hk]; rfl
  have hkn : kidsN p.f0 = 1 := by rw [hk]; rfl
  by_cases hlen : (p.f12.length : Int) ≠ kidsN p.f0
  · rw [if_pos hlen] at h
    obtain rfl := Option.some.inj h
    rw [hkn] at hlen
    have hlb : ((p.f12.length : Int) != 1) = true := bne_iff_ne.mpr hlen
    clear h hk hkn hlen
    go_enter Try.func13, Try.ntmps13
    go_wp2_with (first
      | ((with_reducible refine gate_dst (N := 3) rfl ?_); refine box_all rfl rfl (cs := cs.toArray) rfl (fun W => by rw [List.size_toArray, HL18.out]; exact HSZ.out W) ?_; intro w1 hbx hbw; have BW1 := Aside0.mk hbw; have BX1 := Aside0.mk hbx; have hcv0 : w1.cell? ⟨w.heap.size, 0, none⟩ = some (.int .i64 p.f0) := blk_cells BX1.out 0 _ H0.out; have hcv8 : w1.cell? ⟨w.heap.size, 8, none⟩ = some (.slice A8 p.f3.length c8) := blk_cells BX1.out 8 _ H8.out; have hcv17 : w1.cell? ⟨w.heap.size, 17, none⟩ = some (.slice A17 p.f12.length c17) := blk_cells BX1.out 17 _ H17.out; clear hbx hbw)
      | ((with_reducible refine gate_dst (N := 26) rfl ?_); (try (refine gate_guard (by rfl) ?_; dsimp only)); refine load_all rfl rfl (cs := cs) rfl HAGG.out (fun W => by rw [HL18.out]; exact HSZ.out W) (blk_cells BX1.out) ?_)
      | (go_at_call 23; refine (HBR.out _ BW1.out).mono ?_; rintro e w2 ⟨rfl, hb2⟩; have BW2 := Aside0.mk (below_step BW1.out hb2); have BX2 := Aside0.mk (blk_keep hb2 BX1.out); clear hb2 BW1 BX1; clear hcv0 hcv8 hcv17; have hcv0 : w2.cell? ⟨w.heap.size, 0, none⟩ = some (.int .i64 p.f0) := blk_cells BX2.out 0 _ H0.out; have hcv8 : w2.cell? ⟨w.heap.size, 8, none⟩ = some (.slice A8 p.f3.length c8) := blk_cells BX2.out 8 _ H8.out; have hcv17 : w2.cell? ⟨w.heap.size, 17, none⟩ = some (.slice A17 p.f12.length c17) := blk_cells BX2.out 17 _ H17.out))
    go_ret
    exact ⟨rfl, BW2.out⟩
  rw [if_neg hlen] at h
  rw [hkn] at hlen
  have hleq : p.f12.length = 1 := by omega
  have hlb : ((p.f12.length : Int) != 1) = false := by rw [hleq]; rfl
  have hl0 : 0 < p.f12.length := by omega
  have hl0i : ((0 : Int) < (p.f12.length : Int)) = True := eq_true (by omega)
  obtain ⟨n, hn, h⟩ := Option.bind_eq_some_iff.1 h
  obtain ⟨ad0, kc0, ek0, hkl0, hkK0, hkc0⟩ := kid_getS w A17 _ p.f12 G17.out 0 (by omega)
  have HC0 := Aside0.mk (fun W (hb : Below w.heap.size w W) => IH.out (p.f12.getD 0 z31) kc0 A1 c1 l1 (wrap64 (deep - 1)) n W (k31.K_below hb hkK0) (Kd.C_below hr1 hb) hc1 hn)
  have HKL0 := Aside0.mk hkl0
  have HKC0 := Aside0.mk (show ∀ j v, kc0[j]? = some v → w.cell? (ad0.add j) = some v from fun j v hj => by have h2 := hkc0 j v hj; rw [show 0 * 18 = 0 from rfl, Addr.add_zero'] at h2; exact h2)
  rw [if_neg (by omega)] at h
  obtain ⟨m, hm, h⟩ := Option.bind_eq_some_iff.1 h
  obtain rfl := Option.some.inj hm
  subst ek0
  clear hkl0 hkK0 hkc0 hn hlen hkn
  by_cases z0 : n = 0
  · rw [if_pos z0] at h
    obtain rfl := Option.some.inj h
    have z0b : (n == 0) = true := beq_iff_eq.mpr z0
    clear h hk z0
    go_enter Try.func13, Try.ntmps13
    go_wp2_with (first
      | ((with_reducible refine gate_dst (N := 3) rfl ?_); refine box_all rfl rfl (cs := cs.toArray) rfl (fun W => by rw [List.size_toArray, HL18.out]; exact HSZ.out W) ?_; intro w1 hbx hbw; have BW1 := Aside0.mk hbw; have BX1 := Aside0.mk hbx; have hcv0 : w1.cell? ⟨w.heap.size, 0, none⟩ = some (.int .i64 p.f0) := blk_cells BX1.out 0 _ H0.out; have hcv8 : w1.cell? ⟨w.heap.size, 8, none⟩ = some (.slice A8 p.f3.length c8) := blk_cells BX1.out 8 _ H8.out; have hcv17 : w1.cell? ⟨w.heap.size, 17, none⟩ = some (.slice (some ad0) p.f12.length c17) := blk_cells BX1.out 17 _ H17.out; clear hbx hbw)
      | ((with_reducible refine gate_dst (N := 26) rfl ?_); (try (refine gate_guard (by rfl) ?_; dsimp only)); refine load_all rfl rfl (cs := cs) rfl HAGG.out (fun W => by rw [HL18.out]; exact HSZ.out W) (blk_cells BX1.out) ?_)
      | (go_at_call 23; refine (HBR.out _ BW1.out).mono ?_; rintro e w2 ⟨rfl, hb2⟩; have BW2 := Aside0.mk (below_step BW1.out hb2); have BX2 := Aside0.mk (blk_keep hb2 BX1.out); clear hb2 BW1 BX1; clear hcv0 hcv8 hcv17; have hcv0 : w2.cell? ⟨w.heap.size, 0, none⟩ = some (.int .i64 p.f0) := blk_cells BX2.out 0 _ H0.out; have hcv8 : w2.cell? ⟨w.heap.size, 8, none⟩ = some (.slice A8 p.f3.length c8) := blk_cells BX2.out 8 _ H8.out; have hcv17 : w2.cell? ⟨w.heap.size, 17, none⟩ = some (.slice (some ad0) p.f12.length c17) := blk_cells BX2.out 17 _ H17.out)
      | ((with_reducible refine gate_dst (N := 81) rfl ?_); refine load_all rfl rfl (cs := kc0) rfl HAGG.out (fun W => by rw [HKL0.out]; exact HSZ.out W) (fun j v hj => (BW2.out.cell (World.block_lt_of_cell? w _ (HKC0.out j v hj))).trans (HKC0.out j v hj)) ?_)
      | (go_at_call 13; refine (HC0.out _ BW2.out).mono ?_; rintro e w3 ⟨rfl, hbk⟩; have BW3 := Aside0.mk (below_step BW2.out hbk); have BX3 := Aside0.mk (blk_keep hbk BX2.out); clear hbk BW2 BX2; clear hcv0 hcv8 hcv17; have hcv0 : w3.cell? ⟨w.heap.size, 0, none⟩ = some (.int .i64 p.f0) := blk_cells BX3.out 0 _ H0.out; have hcv8 : w3.cell? ⟨w.heap.size, 8, none⟩ = some (.slice A8 p.f3.length c8) := blk_cells BX3.out 8 _ H8.out; have hcv17 : w3.cell? ⟨w.heap.size, 17, none⟩ = some (.slice (some ad0) p.f12.length c17) := blk_cells BX3.out 17 _ H17.out))
    go_ret
    exact ⟨rfl, BW3.out⟩
  rw [if_neg z0] at h
  have z0b : (n == 0) = false := beq_eq_false_iff_ne.mpr z0
  rw [if_neg z0] at h
  obtain ⟨ok, hok, h⟩ := Option.bind_eq_some_iff.1 h
  obtain rfl := Option.some.inj h
  clear h
  unfold okP at hok
  rw [if_neg (by omega)] at hok
  rw [if_pos hk] at hok
  have hout : outP p n n = (p.f3.length : Int) := by unfold outP; rw [if_pos hk]
  rw [hout]
  clear hout hk
  have HAGG50 := Aside0.mk (show ∀ W, (isAgg 50).run Try.prog W = .ok true W from fun W => by first | exact Try.isAgg50 | exact Try.isAgg50 W | go_simp)
  have HSZ50 := Aside0.mk (show ∀ W, (sizeOf 50).run Try.prog W = .ok 6 W from fun W => by first | exact Try.sizeOf50 | exact Try.sizeOf50 W | go_simp)
  by_cases q4 : p.f3.length < 1
  · rw [if_pos q4] at hok
    obtain rfl := Option.some.inj hok
    have q4a : decide (1 ≤ p.f3.length) = false := decide_eq_false (by omega)
    have q4b : decide ((1 : Int) ≤ (p.f3.length : Int)) = false := decide_eq_false (by omega)
    clear hok
    rw [show endP false (p.f3.length : Int) = 0 from rfl]
    go_enter Try.func13, Try.ntmps13
    go_upto_if 131 with (first
      | ((with_reducible refine gate_dst (N := 3) rfl ?_); refine box_all rfl rfl (cs := cs.toArray) rfl (fun W => by rw [List.size_toArray, HL18.out]; exact HSZ.out W) ?_; intro w1 hbx hbw; have BW1 := Aside0.mk hbw; have BX1 := Aside0.mk hbx; have hcv0 : w1.cell? ⟨w.heap.size, 0, none⟩ = some (.int .i64 p.f0) := blk_cells BX1.out 0 _ H0.out; have hcv8 : w1.cell? ⟨w.heap.size, 8, none⟩ = some (.slice A8 p.f3.length c8) := blk_cells BX1.out 8 _ H8.out; have hcv17 : w1.cell? ⟨w.heap.size, 17, none⟩ = some (.slice (some ad0) p.f12.length c17) := blk_cells BX1.out 17 _ H17.out; clear hbx hbw)
      | ((with_reducible refine gate_dst (N := 26) rfl ?_); (try (refine gate_guard (by rfl) ?_; dsimp only)); refine load_all rfl rfl (cs := cs) rfl HAGG.out (fun W => by rw [HL18.out]; exact HSZ.out W) (blk_cells BX1.out) ?_)
      | (go_at_call 23; refine (HBR.out _ BW1.out).mono ?_; rintro e w2 ⟨rfl, hb2⟩; have BW2 := Aside0.mk (below_step BW1.out hb2); have BX2 := Aside0.mk (blk_keep hb2 BX1.out); clear hb2 BW1 BX1; clear hcv0 hcv8 hcv17; have hcv0 : w2.cell? ⟨w.heap.size, 0, none⟩ = some (.int .i64 p.f0) := blk_cells BX2.out 0 _ H0.out; have hcv8 : w2.cell? ⟨w.heap.size, 8, none⟩ = some (.slice A8 p.f3.length c8) := blk_cells BX2.out 8 _ H8.out; have hcv17 : w2.cell? ⟨w.heap.size, 17, none⟩ = some (.slice (some ad0) p.f12.length c17) := blk_cells BX2.out 17 _ H17.out)
      | ((with_reducible refine gate_dst (N := 81) rfl ?_); refine load_all rfl rfl (cs := kc0) rfl HAGG.out (fun W => by rw [HKL0.out]; exact HSZ.out W) (fun j v hj => (BW2.out.cell (World.block_lt_of_cell? w _ (HKC0.out j v hj))).trans (HKC0.out j v hj)) ?_)
      | (go_at_call 13; refine (HC0.out _ BW2.out).mono ?_; rintro e w3 ⟨rfl, hbk⟩; have BW3 := Aside0.mk (below_step BW2.out hbk); have BX3 := Aside0.mk (blk_keep hbk BX2.out); clear hbk BW2 BX2; clear hcv0 hcv8 hcv17; have hcv0 : w3.cell? ⟨w.heap.size, 0, none⟩ = some (.int .i64 p.f0) := blk_cells BX3.out 0 _ H0.out; have hcv8 : w3.cell? ⟨w.heap.size, 8, none⟩ = some (.slice A8 p.f3.length c8) := blk_cells BX3.out 8 _ H8.out; have hcv17 : w3.cell? ⟨w.heap.size, 17, none⟩ = some (.slice (some ad0) p.f12.length c17) := blk_cells BX3.out 17 _ H17.out))
    clear hcv0 hcv8 hcv17
    go_loopg [10, 12] 0 (fun gg s10 s12 wr => s10 = .bool false ∧ s12 = .int .i64 0 ∧ Aside0 (Below w.heap.size w wr) ∧ Aside0 (wr.heap[w.heap.size]? = some (.cells cs.toArray 31 (0, 0))))
    case atStart => exact ⟨by first | rfl | simp_all, rfl, BW3, BX3⟩
    case round =>
      clear BW3 BX3
      obtain ⟨rfl, rfl, HB, BX⟩ := hrel
      have hcv8 : wr.cell? ⟨w.heap.size, 8, none⟩ = some (.slice A8 p.f3.length c8) := blk_cells BX.out 8 _ H8.out
      have hcv0 : wr.cell? ⟨w.heap.size, 0, none⟩ = some (.int .i64 p.f0) := blk_cells BX.out 0 _ H0.out
      by_cases hlt : 0 < p.f3.length
      · have hltz : (0 : Int) < (p.f3.length : Int) := by omega
        first
        | (exfalso; omega)
        | (go_wp2
           go_ret
           exact ⟨rfl, HB.out⟩)
      · have hltz : ¬ (0 : Int) < (p.f3.length : Int) := by omega
        first
        | (exfalso; omega)
        | (go_wp2
           go_ret
           exact ⟨rfl, HB.out⟩)
  rw [if_neg q4] at hok
  have q4a : decide (1 ≤ p.f3.length) = true := decide_eq_true (by omega)
  have q4b : decide ((1 : Int) ≤ (p.f3.length : Int)) = true := decide_eq_true (by omega)
  by_cases q5 : 8 < p.f3.length
  · rw [if_pos q5] at hok
    obtain rfl := Option.some.inj hok
    have q5a : decide (p.f3.length ≤ 8) = false := decide_eq_false (by omega)
    have q5b : decide ((p.f3.length : Int) ≤ (8 : Int)) = false := decide_eq_false (by omega)
    clear hok
    rw [show endP false (p.f3.length : Int) = 0 from rfl]
    go_enter Try.func13, Try.ntmps13
    go_upto_if 131 with (first
      | ((with_reducible refine gate_dst (N := 3) rfl ?_); refine box_all rfl rfl (cs := cs.toArray) rfl (fun W => by rw [List.size_toArray, HL18.out]; exact HSZ.out W) ?_; intro w1 hbx hbw; have BW1 := Aside0.mk hbw; have BX1 := Aside0.mk hbx; have hcv0 : w1.cell? ⟨w.heap.size, 0, none⟩ = some (.int .i64 p.f0) := blk_cells BX1.out 0 _ H0.out; have hcv8 : w1.cell? ⟨w.heap.size, 8, none⟩ = some (.slice A8 p.f3.length c8) := blk_cells BX1.out 8 _ H8.out; have hcv17 : w1.cell? ⟨w.heap.size, 17, none⟩ = some (.slice (some ad0) p.f12.length c17) := blk_cells BX1.out 17 _ H17.out; clear hbx hbw)
      | ((with_reducible refine gate_dst (N := 26) rfl ?_); (try (refine gate_guard (by rfl) ?_; dsimp only)); refine load_all rfl rfl (cs := cs) rfl HAGG.out (fun W => by rw [HL18.out]; exact HSZ.out W) (blk_cells BX1.out) ?_)
      | (go_at_call 23; refine (HBR.out _ BW1.out).mono ?_; rintro e w2 ⟨rfl, hb2⟩; have BW2 := Aside0.mk (below_step BW1.out hb2); have BX2 := Aside0.mk (blk_keep hb2 BX1.out); clear hb2 BW1 BX1; clear hcv0 hcv8 hcv17; have hcv0 : w2.cell? ⟨w.heap.size, 0, none⟩ = some (.int .i64 p.f0) := blk_cells BX2.out 0 _ H0.out; have hcv8 : w2.cell? ⟨w.heap.size, 8, none⟩ = some (.slice A8 p.f3.length c8) := blk_cells BX2.out 8 _ H8.out; have hcv17 : w2.cell? ⟨w.heap.size, 17, none⟩ = some (.slice (some ad0) p.f12.length c17) := blk_cells BX2.out 17 _ H17.out)
      | ((with_reducible refine gate_dst (N := 81) rfl ?_); refine load_all rfl rfl (cs := kc0) rfl HAGG.out (fun W => by rw [HKL0.out]; exact HSZ.out W) (fun j v hj => (BW2.out.cell (World.block_lt_of_cell? w _ (HKC0.out j v hj))).trans (HKC0.out j v hj)) ?_)
      | (go_at_call 13; refine (HC0.out _ BW2.out).mono ?_; rintro e w3 ⟨rfl, hbk⟩; have BW3 := Aside0.mk (below_step BW2.out hbk); have BX3 := Aside0.mk (blk_keep hbk BX2.out); clear hbk BW2 BX2; clear hcv0 hcv8 hcv17; have hcv0 : w3.cell? ⟨w.heap.size, 0, none⟩ = some (.int .i64 p.f0) := blk_cells BX3.out 0 _ H0.out; have hcv8 : w3.cell? ⟨w.heap.size, 8, none⟩ = some (.slice A8 p.f3.length c8) := blk_cells BX3.out 8 _ H8.out; have hcv17 : w3.cell? ⟨w.heap.size, 17, none⟩ = some (.slice (some ad0) p.f12.length c17) := blk_cells BX3.out 17 _ H17.out))
    clear hcv0 hcv8 hcv17
    go_loopg [10, 12] 0 (fun gg s10 s12 wr => s10 = .bool false ∧ s12 = .int .i64 0 ∧ Aside0 (Below w.heap.size w wr) ∧ Aside0 (wr.heap[w.heap.size]? = some (.cells cs.toArray 31 (0, 0))))
    case atStart => exact ⟨by first | rfl | simp_all, rfl, BW3, BX3⟩
    case round =>
      clear BW3 BX3
      obtain ⟨rfl, rfl, HB, BX⟩ := hrel
      have hcv8 : wr.cell? ⟨w.heap.size, 8, none⟩ = some (.slice A8 p.f3.length c8) := blk_cells BX.out 8 _ H8.out
      have hcv0 : wr.cell? ⟨w.heap.size, 0, none⟩ = some (.int .i64 p.f0) := blk_cells BX.out 0 _ H0.out
      by_cases hlt : 0 < p.f3.length
      · have hltz : (0 : Int) < (p.f3.length : Int) := by omega
        first
        | (exfalso; omega)
        | (go_wp2
           go_ret
           exact ⟨rfl, HB.out⟩)
      · have hltz : ¬ (0 : Int) < (p.f3.length : Int) := by omega
        first
        | (exfalso; omega)
        | (go_wp2
           go_ret
           exact ⟨rfl, HB.out⟩)
  rw [if_neg q5] at hok
  have q5a : decide (p.f3.length ≤ 8) = true := decide_eq_true (by omega)
  have q5b : decide ((p.f3.length : Int) ≤ (8 : Int)) = true := decide_eq_true (by omega)
  have q8b : decide (8 < p.f3.length) = false := decide_eq_false (by omega)
  have q8c : decide ((8 : Int) < (p.f3.length : Int)) = false := decide_eq_false (by omega)
  have HLO := Aside0.mk hok
  clear hok
  obtain ⟨r3, hr3⟩ : ∃ r3, r3 = endP ok (p.f3.length : Int) := ⟨_, rfl⟩
  rw [← hr3]
  have HRZ := Aside0.mk hr3
  clear hr3
  go_enter Try.func13, Try.ntmps13
  go_upto_if 131 with (first
    | ((with_reducible refine gate_dst (N := 3) rfl ?_); refine box_all rfl rfl (cs := cs.toArray) rfl (fun W => by rw [List.size_toArray, HL18.out]; exact HSZ.out W) ?_; intro w1 hbx hbw; have BW1 := Aside0.mk hbw; have BX1 := Aside0.mk hbx; have hcv0 : w1.cell? ⟨w.heap.size, 0, none⟩ = some (.int .i64 p.f0) := blk_cells BX1.out 0 _ H0.out; have hcv8 : w1.cell? ⟨w.heap.size, 8, none⟩ = some (.slice A8 p.f3.length c8) := blk_cells BX1.out 8 _ H8.out; have hcv17 : w1.cell? ⟨w.heap.size, 17, none⟩ = some (.slice (some ad0) p.f12.length c17) := blk_cells BX1.out 17 _ H17.out; clear hbx hbw)
    | ((with_reducible refine gate_dst (N := 26) rfl ?_); (try (refine gate_guard (by rfl) ?_; dsimp only)); refine load_all rfl rfl (cs := cs) rfl HAGG.out (fun W => by rw [HL18.out]; exact HSZ.out W) (blk_cells BX1.out) ?_)
    | (go_at_call 23; refine (HBR.out _ BW1.out).mono ?_; rintro e w2 ⟨rfl, hb2⟩; have BW2 := Aside0.mk (below_step BW1.out hb2); have BX2 := Aside0.mk (blk_keep hb2 BX1.out); clear hb2 BW1 BX1; clear hcv0 hcv8 hcv17; have hcv0 : w2.cell? ⟨w.heap.size, 0, none⟩ = some (.int .i64 p.f0) := blk_cells BX2.out 0 _ H0.out; have hcv8 : w2.cell? ⟨w.heap.size, 8, none⟩ = some (.slice A8 p.f3.length c8) := blk_cells BX2.out 8 _ H8.out; have hcv17 : w2.cell? ⟨w.heap.size, 17, none⟩ = some (.slice (some ad0) p.f12.length c17) := blk_cells BX2.out 17 _ H17.out)
    | ((with_reducible refine gate_dst (N := 81) rfl ?_); refine load_all rfl rfl (cs := kc0) rfl HAGG.out (fun W => by rw [HKL0.out]; exact HSZ.out W) (fun j v hj => (BW2.out.cell (World.block_lt_of_cell? w _ (HKC0.out j v hj))).trans (HKC0.out j v hj)) ?_)
    | (go_at_call 13; refine (HC0.out _ BW2.out).mono ?_; rintro e w3 ⟨rfl, hbk⟩; have BW3 := Aside0.mk (below_step BW2.out hbk); have BX3 := Aside0.mk (blk_keep hbk BX2.out); clear hbk BW2 BX2; clear hcv0 hcv8 hcv17; have hcv0 : w3.cell? ⟨w.heap.size, 0, none⟩ = some (.int .i64 p.f0) := blk_cells BX3.out 0 _ H0.out; have hcv8 : w3.cell? ⟨w.heap.size, 8, none⟩ = some (.slice A8 p.f3.length c8) := blk_cells BX3.out 8 _ H8.out; have hcv17 : w3.cell? ⟨w.heap.size, 17, none⟩ = some (.slice (some ad0) p.f12.length c17) := blk_cells BX3.out 17 _ H17.out))
  clear hcv0 hcv8 hcv17
  go_loopg [10, 12] p.f3.length (fun gg s10 s12 wr => ∃ (i : Nat) (b : Bool), s10 = .bool b ∧ s12 = .int .i64 i ∧ i ≤ p.f3.length ∧ p.f3.length - i ≤ gg ∧ Aside0 ((if b = true then allE (r20P k n) (p.f3.drop i) else some false) = some ok) ∧ Aside0 (Below w.heap.size w wr) ∧ Aside0 (wr.heap[w.heap.size]? = some (.cells cs.toArray 31 (0, 0))))
  case atStart => exact ⟨0, true, by first | rfl | simp_all, rfl, Nat.zero_le _, by omega, ⟨by rw [if_pos rfl]; exact HLO.out⟩, BW3, BX3⟩
  case round =>
    clear HLO BW3 BX3
    obtain ⟨i, b, rfl, rfl, hin, hg0, HTS, HB, BX⟩ := hrel
    have hcv8 : wr.cell? ⟨w.heap.size, 8, none⟩ = some (.slice A8 p.f3.length c8) := blk_cells BX.out 8 _ H8.out
    have hcv0 : wr.cell? ⟨w.heap.size, 0, none⟩ = some (.int .i64 p.f0) := blk_cells BX.out 0 _ H0.out
    cases b with
    | false =>
      have hks := HTS.out
      rw [if_neg Bool.false_ne_true] at hks
      obtain rfl := Option.some.inj hks
      clear hks HTS
      have e3 : r3 = 0 := HRZ.out
      clear HRZ
      subst e3
      by_cases hlt : i < p.f3.length
      · have hltz : (i : Int) < (p.f3.length : Int) := by omega
        go_wp2
        go_ret
        exact ⟨rfl, HB.out⟩
      · have hltz : ¬ (i : Int) < (p.f3.length : Int) := by omega
        go_wp2
        go_ret
        exact ⟨rfl, HB.out⟩
    | true =>
      by_cases hlt : i < p.f3.length
      · have hltz : (i : Int) < (p.f3.length : Int) := by omega
        have hi0 : (0 : Int) ≤ (i : Int) := by omega
        have hks := HTS.out
        rw [if_pos rfl, drop_getE z50 p.f3 i hlt] at hks
        simp only [allE] at hks
        obtain ⟨t, ht, hks⟩ := Option.bind_eq_some_iff.1 hks
        obtain ⟨ad, c, e17, hcl, hKu, hcell⟩ := Kd.C_elem G8.out z50 i hlt
        replace hcell : ∀ j v, c[j]? = some v → w.cell? ((ad.add (i * 6)).add j) = some v := hcell
        replace hcl : c.length = 6 := hcl
        subst e17
        have HCALL := Aside0.mk (fun W (hb : Below w.heap.size w W) => hopperref20_Right.core k (p.f3.getD i z50) c n 12 t W (k50.K_below hb hKu) ht)
        have HCL := Aside0.mk hcl
        have HTS2 := Aside0.mk hks
        have HCELL := Aside0.mk (show ∀ j v, c[j]? = some v → wr.cell? ((ad.add (i * 6)).add j) = some v from fun j v hj => (HB.out.cell (World.block_lt_of_cell? w _ (hcell j v hj))).trans (hcell j v hj))
        clear hKu ht HTS hcl hcell hks
        go_wp2_with (first
          | ((with_reducible refine gate_dst (N := 138) rfl ?_); refine load_all rfl rfl (cs := c) rfl HAGG50.out (fun W => by rw [HCL.out]; exact HSZ50.out W) HCELL.out ?_)
          | (go_at_call 25; refine (HCALL.out _ HB.out).mono ?_; rintro e w9 ⟨rfl, hb4⟩; have HB4 := Aside0.mk (below_step HB.out hb4); have BX4 := Aside0.mk (blk_keep hb4 BX.out); clear hb4))
        go_roundg (p.f3.length - (i + 1))
        case measure => omega
        case rel => exact ⟨i + 1, t, rfl, by first | go_num | (congr 1; unfold wrap64; omega), by omega, by omega, HTS2, HB4, BX4⟩
      · have hltz : ¬ (i : Int) < (p.f3.length : Int) := by omega
        have hks := HTS.out
        rw [if_pos rfl, List.drop_of_length_le (by omega)] at hks
        obtain rfl := Option.some.inj hks
        clear hks HTS
        have e3 : r3 = (p.f3.length : Int) := HRZ.out.trans (by unfold endP; rw [if_neg (by decide), if_neg (by omega)])
        clear HRZ
        subst e3
        go_wp2
        go_ret
        exact ⟨rfl, HB.out⟩
theorem hopperref25_Cols.core (k : Nat) : ∀ (p : S31) (cs : List Value) (A1 : Option Addr) (c1 : Nat) (l1 : List S46) (deep : Int) (r : Int) (w : World), k31.K w p cs → Kd.C k46 w A1 l1.length l1 → l1.length ≤ c1 → refColsP k p l1 deep = some r → Calls Try.prog 13 #[.agg cs.toArray, .slice A1 l1.length c1, .int .i64 deep] w fun e w' => e = .returned (.int .i64 r) ∧ Below w.heap.size w w' := by
  induction k with
  | zero => intro p cs A1 c1 l1 deep r w _ _ _ h; cases h
  | succ k ih =>
  intro p cs A1 c1 l1 deep r w hK hr1 hc1 h
  unfold refColsP at h
  have early : (deep < 1 ∨ p.f0 < 1 ∨ 7 < p.f0 ∨ bareB p = false) → Calls Try.prog 13 #[.agg cs.toArray, .slice A1 l1.length c1, .int .i64 deep] w fun e w' => e = .returned (.int .i64 r) ∧ Below w.heap.size w w' := fun hd => hopperref25_Cols.early p cs A1 c1 l1 deep r w hK hr1 hc1 (by
    by_cases a : deep < 1
    · rw [if_pos a] at h ⊢; exact h
    rw [if_neg a] at h ⊢
    by_cases b : p.f0 < 1
    · rw [if_pos b] at h ⊢; exact h
    rw [if_neg b] at h ⊢
    by_cases c : 7 < p.f0
    · rw [if_pos c] at h ⊢; exact h
    rw [if_neg c] at h ⊢
    have d : bareB p = false := by rcases hd with z | z | z | z <;> first | exact absurd z a | exact absurd z b | exact absurd z c | exact z
    rw [if_pos d] at h ⊢
    exact h)
  by_cases a : deep < 1
  · exact early (.inl a)
  by_cases b : p.f0 < 1
  · exact early (.inr (.inl b))
  by_cases c : 7 < p.f0
  · exact early (.inr (.inr (.inl c)))
  cases d : bareB p with
  | false => exact early (.inr (.inr (.inr d)))
  | true =>
  clear early
  rw [if_neg a, if_neg b, if_neg c, d, if_neg (by decide)] at h
  by_cases k1 : p.f0 = 1
  · rw [if_pos k1] at h
    exact hopperref25_Cols.kind1 p cs A1 c1 l1 deep r w hK hr1 hc1 a d k1 (Option.some.inj h).symm
  rw [if_neg k1] at h
  have hk : p.f0 = 2 ∨ p.f0 = 3 ∨ p.f0 = 4 ∨ p.f0 = 5 ∨ p.f0 = 6 ∨ p.f0 = 7 := by omega
  rcases hk with e | e | e | e | e | e
  · exact hopperref25_Cols.kind2 k ⟨ih⟩ p cs A1 c1 l1 deep r w hK hr1 hc1 a d e h
  · exact hopperref25_Cols.kind3 k ⟨ih⟩ p cs A1 c1 l1 deep r w hK hr1 hc1 a d e h
  · exact hopperref25_Cols.kind4 k ⟨ih⟩ p cs A1 c1 l1 deep r w hK hr1 hc1 a d e h
  · exact hopperref25_Cols.kind5 k ⟨ih⟩ p cs A1 c1 l1 deep r w hK hr1 hc1 a d e h
  · exact hopperref25_Cols.kind6 k ⟨ih⟩ p cs A1 c1 l1 deep r w hK hr1 hc1 a d e h
  · exact hopperref25_Cols.kind7 k ⟨ih⟩ p cs A1 c1 l1 deep r w hK hr1 hc1 a d e h
theorem hopperref25_Cols.calls (k : Nat) (a0_0 : Int) (a0_1 : ByteArray) (a0_2 : Int) (a0_3 : Int) (a0_4 : ByteArray) (a0_5 : Int) (a0_6 : Int) (A0_7 : Option Addr) (c0_7 : Nat) (l0_7 : List (S24)) (A0_8 : Option Addr) (c0_8 : Nat) (l0_8 : List (S50)) (A0_9 : Option Addr) (c0_9 : Nat) (l0_9 : List Int) (A0_10 : Option Addr) (c0_10 : Nat) (l0_10 : List (S72)) (a0_11 : Int) (A0_12 : Option Addr) (c0_12 : Nat) (l0_12 : List Int) (A0_13 : Option Addr) (c0_13 : Nat) (l0_13 : List Int) (A0_14 : Option Addr) (c0_14 : Nat) (l0_14 : List (S52)) (a0_15 : Int) (a0_16 : Int) (A0_17 : Option Addr) (c0_17 : Nat) (l0_17 : List (S31)) (A1 : Option Addr) (c1 : Nat) (l1 : List S46) (a2 : Int) (r : Int) (w : World) (hr0_7 : Kd.C k24 w A0_7 l0_7.length l0_7) (hc0_7 : l0_7.length ≤ c0_7) (hr0_8 : Kd.C k50 w A0_8 l0_8.length l0_8) (hc0_8 : l0_8.length ≤ c0_8) (hr0_9 : Kd.C (Kd.int .i64) w A0_9 l0_9.length l0_9) (hc0_9 : l0_9.length ≤ c0_9) (hr0_10 : Kd.C k72 w A0_10 l0_10.length l0_10) (hc0_10 : l0_10.length ≤ c0_10) (hr0_12 : Kd.C (Kd.int .i64) w A0_12 l0_12.length l0_12) (hc0_12 : l0_12.length ≤ c0_12) (hr0_13 : Kd.C (Kd.int .i64) w A0_13 l0_13.length l0_13) (hc0_13 : l0_13.length ≤ c0_13) (hr0_14 : Kd.C k52 w A0_14 l0_14.length l0_14) (hc0_14 : l0_14.length ≤ c0_14) (hr0_17 : Kd.C k31 w A0_17 l0_17.length l0_17) (hc0_17 : l0_17.length ≤ c0_17) (hr1 : Kd.C k46 w A1 l1.length l1) (hc1 : l1.length ≤ c1) (h : hopperref25_Cols.f k a0_0 a0_1 a0_2 a0_3 a0_4 a0_5 a0_6 l0_7 l0_8 l0_9 l0_10 a0_11 l0_12 l0_13 l0_14 a0_15 a0_16 l0_17 l1 a2 = some r) :
    Calls Try.prog 13 #[.agg #[.int .i64 a0_0, .string a0_1, .int .i64 a0_2, .int .i64 a0_3, .string a0_4, .int .i64 a0_5, .int .i64 a0_6, .slice A0_7 l0_7.length c0_7, .slice A0_8 l0_8.length c0_8, .slice A0_9 l0_9.length c0_9, .slice A0_10 l0_10.length c0_10, .int .i64 a0_11, .slice A0_12 l0_12.length c0_12, .slice A0_13 l0_13.length c0_13, .slice A0_14 l0_14.length c0_14, .int .i64 a0_15, .int .i64 a0_16, .slice A0_17 l0_17.length c0_17], .slice A1 l1.length c1, .int .i64 a2] w fun e w' => e = .returned (.int .i64 r) ∧ Below w.heap.size w w' :=
  hopperref25_Cols.core k ⟨a0_0, a0_1, ⟨a0_2, a0_3, a0_4, a0_5, a0_6, l0_7⟩, l0_8, l0_9, l0_10, a0_11, l0_12, l0_13, l0_14, a0_15, a0_16, l0_17⟩ _ A1 c1 l1 a2 r w (k31_mk w ⟨a0_0, a0_1, ⟨a0_2, a0_3, a0_4, a0_5, a0_6, l0_7⟩, l0_8, l0_9, l0_10, a0_11, l0_12, l0_13, l0_14, a0_15, a0_16, l0_17⟩ hc0_7 hr0_7 hc0_8 hr0_8 hc0_9 hr0_9 hc0_10 hr0_10 hc0_12 hr0_12 hc0_13 hr0_13 hc0_14 hr0_14 hc0_17 hr0_17) hr1 hc1 h

end Go.Proofs.Ytomccmodlkdcbaa.Q
