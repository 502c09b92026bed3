-- PRINTED by print.py (a twelfth state) out of the translation. Not trusted: Lean checks it.
import Derived.Test.YtomccmodlkdcbaaQx0
import Derived.Test.YtomccmodlkdcbaaQx1
import Derived.Test.YtomccmodlkdcbaaQx3
import Derived.Test.YtomccmodlkdcbaaQx5
import Derived.Test.YtomccmodlkdcbaaQx6
namespace Go.Proofs.Ytomccmodlkdcbaa.Q
open Go.RowKit Go.Proofs.YtomccmodlkdcbaaW.PrintWords Go.Proofs.YtomccmodlkdcbaaW.PrintLast Go.Proofs.YtomccmodlkdcbaaW.PrintMore
attribute [local go_sem] str_gtr str_geq str_leq max2_int min2_int max_two min_two max_three min_three max_four min_four
set_option linter.unusedVariables false
set_option maxHeartbeats 8000000
set_option maxRecDepth 1000000
set_option linter.unusedSimpArgs false

/-! ### plan_own: function 35 -/
-- told by hand
theorem load_run24 {W : World} {a : Act} {q : Tmp} {o : Oper} (ho : o.op = .load 24 (.tmp q)) {ad : Addr} {cs : List Value} (hp : a.eval (.tmp q) = .pointer (some ad)) (hl : cs.length = 6) (hc : ∀ j v, cs[j]? = some v → W.cell? (ad.add j) = some v) : (execOp a.eval o).run Try.prog W = .ok (.value (.agg cs.toArray)) W := by
 have hagg : ∀ W, (isAgg 24).run Try.prog W = .ok true W := fun W => by first | exact Try.isAgg24 | exact Try.isAgg24 W | go_simp
 have hsz : ∀ W, (sizeOf 24).run Try.prog W = .ok cs.length W := fun W => by rw [hl]; first | exact Try.sizeOf24 | exact Try.sizeOf24 W | go_simp
 have h0 := loadFrom_list Try.prog W ad cs cs.length rfl hc; unfold execOp
 rw [ho]
 simp only [hp]
 simp [Instr.loadAt, loadVar, hagg, hsz, Instr.sureAddr, loadCells, h0]
def needRP (k : Nat) (q : S24) (n : Int) : Option Bool := need_Right.f k q.f0 q.f1 q.f2 q.f3 q.f4 q.f5 n
/-- How many columns a plan has, whose kids have so many. -/
def ownP (k : Nat) (p : S31) (ks : List Int) (l1 : List S46) : Option Int :=
 if p.f0 = 1 then plan_scan.f p.f1 l1 else if p.f0 = 2 then (if 0 < ks.length then (needRP k p.f2 (rd ks 0)).bind fun b => plan_when.f b (rd ks 0) else none) else
 if p.f0 = 3 then (if 0 < ks.length then (plan_exprs.f k p.f3 (rd ks 0)).bind fun b => plan_when.f b (p.f3.length : Int) else none) else
 if p.f0 = 4 then (if 0 < ks.length then (group_Right.f p.f4 p.f5 (rd ks 0)).bind fun b => plan_when.f b (wrap64 ((p.f4.length : Int) + (p.f5.length : Int))) else none) else
 if p.f0 = 5 then (if 1 < ks.length then (join_Right.f p.f6 p.f7 p.f8 (rd ks 0) (rd ks 1)).bind fun b => plan_when.f b (if p.f6 ≤ 2 then wrap64 (rd ks 0 + rd ks 1) else rd ks 0) else none) else
 if p.f0 = 6 then (if 0 < ks.length then (if 0 < p.f9.length then (order_Right.f p.f9 (rd ks 0)).bind fun b => plan_when.f b (rd ks 0) else plan_when.f false (rd ks 0)) else none) else
 if 0 < ks.length then plan_when.f (decide (0 ≤ p.f10) && decide (0 ≤ p.f11)) (rd ks 0) else none
def plan_own.f (k : Nat) (a0_0 : Int) (a0_1 : ByteArray) (a0_2 : Int) (a0_3 : Int) (a0_4 : ByteArray) (a0_5 : Int) (a0_6 : Int) (l0_7 : List S24) (l0_8 : List S50) (l0_9 : List Int) (l0_10 : List S72) (a0_11 : Int) (l0_12 : List Int) (l0_13 : List Int) (l0_14 : List S52) (a0_15 : Int) (a0_16 : Int) (l0_17 : List S31) (l1 : List Int) (l2 : List S46) : Option Int := ownP k ⟨a0_0, a0_1, ⟨a0_2, a0_3, a0_4, a0_5, a0_6, l0_7⟩, l0_8, l0_9, l0_10, a0_11, l0_12, l0_13, l0_14, a0_15, a0_16, l0_17⟩ l1 l2
theorem plan_own.core (k : Nat) (p : S31) (cs : List Value) (Ak : Option Addr) (ck : Nat) (ks : List Int) (A1 : Option Addr) (c1 : Nat) (l1 : List S46) (r : Int) (w : World) (hK : k31.K w p cs) (hk : Kd.C (Kd.int .i64) w Ak ks.length ks) (hck : ks.length ≤ ck) (hr1 : Kd.C k46 w A1 l1.length l1) (hc1 : l1.length ≤ c1) (h : ownP k p ks l1 = some r) :
  Calls Try.prog 35 #[.agg cs.toArray, .slice Ak ks.length ck, .slice A1 l1.length c1] w fun e w' => e = .returned (.int .i64 r) ∧ Below w.heap.size w w' := by
 have hagg : ∀ W, (isAgg 31).run Try.prog W = .ok true W := fun W => by first | exact Try.isAgg31 | exact Try.isAgg31 W | go_simp
 have hsz18 : ∀ W, (sizeOf 31).run Try.prog W = .ok 18 W := fun W => by first | exact Try.sizeOf31 | exact Try.sizeOf31 W | go_simp
 have HAGG := Aside0.mk hagg; have HSZ := Aside0.mk hsz18; clear hagg hsz18; have hu31 := Try.underlying31; have HL18 := Aside0.mk (show cs.length = 18 from k31.K_len hK)
 obtain ⟨A7, c7, A8, c8, A9, c9, A10, c10, A12, c12, A13, c13, A14, c14, A17, c17, e_, l7, g7, l8, g8, l9, g9, l10, g10, l12, g12, l13, g13, l14, g14, l17, g17⟩ := k31_open hK
 have H0 := Aside0.mk (show cs[0]? = some (.int .i64 p.f0) from by rw [e_]; rfl)
 have H1 := Aside0.mk (show cs[1]? = some (.string p.f1) from by rw [e_]; rfl)
 have H8 := Aside0.mk (show cs[8]? = some (.slice A8 p.f3.length c8) from by rw [e_]; rfl)
 have H9 := Aside0.mk (show cs[9]? = some (.slice A9 p.f4.length c9) from by rw [e_]; rfl)
 have H10 := Aside0.mk (show cs[10]? = some (.slice A10 p.f5.length c10) from by rw [e_]; rfl)
 have H11 := Aside0.mk (show cs[11]? = some (.int .i64 p.f6) from by rw [e_]; rfl)
 have H12 := Aside0.mk (show cs[12]? = some (.slice A12 p.f7.length c12) from by rw [e_]; rfl)
 have H13 := Aside0.mk (show cs[13]? = some (.slice A13 p.f8.length c13) from by rw [e_]; rfl)
 have H14 := Aside0.mk (show cs[14]? = some (.slice A14 p.f9.length c14) from by rw [e_]; rfl)
 have H15 := Aside0.mk (show cs[15]? = some (.int .i64 p.f10) from by rw [e_]; rfl)
 have H16 := Aside0.mk (show cs[16]? = some (.int .i64 p.f11) from by rw [e_]; rfl)
 obtain ⟨cp, hcp⟩ : ∃ cp : List Value, cp = [.int .i64 p.f2.f0, .int .i64 p.f2.f1, .string p.f2.f2, .int .i64 p.f2.f3, .int .i64 p.f2.f4, .slice A7 p.f2.f5.length c7] := ⟨_, rfl⟩
 have HLP := Aside0.mk (show cp.length = 6 from by rw [hcp]; rfl)
 have HCP := Aside0.mk (show ∀ j v, cp[j]? = some v → cs[2 + j]? = some v from fun j v hj => by
  rw [e_]
  rw [hcp] at hj
  match j, hj with
  | 0, hj => exact hj
  | 1, hj => exact hj
  | 2, hj => exact hj
  | 3, hj => exact hj
  | 4, hj => exact hj
  | 5, hj => exact hj
  | j + 6, hj => simp at hj)
 have HNR := Aside0.mk (fun (n : Int) (b : Bool) (hb0 : needRP k p.f2 n = some b) W (hb : Below w.heap.size w W) => show Calls Try.prog 43 #[.agg cp.toArray, .int .i64 n] W (fun e w' => e = .returned (.bool b) ∧ Below W.heap.size W w') from by rw [hcp]; exact need_Right.calls k p.f2.f0 p.f2.f1 p.f2.f2 p.f2.f3 p.f2.f4 A7 c7 p.f2.f5 n b W (Kd.C_below g7 hb) l7 hb0)
 have G8 := Aside0.mk g8; have G9 := Aside0.mk g9; have G10 := Aside0.mk g10; have G12 := Aside0.mk g12; have G13 := Aside0.mk g13; have G14 := Aside0.mk g14; have L8 := Aside0.mk l8; have L9 := Aside0.mk l9; have L10 := Aside0.mk l10; have L12 := Aside0.mk l12; have L13 := Aside0.mk l13; have L14 := Aside0.mk l14; have HKS := Aside0.mk hk; have HR1 := Aside0.mk hr1; clear hK e_ l7 g7 l8 g8 l9 g9 l10 g10 l12 g12 l13 g13 l14 g14 l17 g17 hk hr1 hcp; unfold ownP at h
 by_cases q1 : p.f0 = 1
 ·rw [if_pos q1] at h; have q1b : (p.f0 == 1) = true := beq_iff_eq.mpr q1; have HSC := Aside0.mk (fun W (hb : Below w.heap.size w W) => plan_scan.calls p.f1 A1 c1 l1 r W (Kd.C_below HR1.out hb) hc1 h)
  clear q1 h; go_enter Try.func35, Try.ntmps35
  go_wp2_with (first
   | ((with_reducible refine gate_dst (N := 3) rfl ?_); refine box_all rfl rfl (cs := cs.toArray) rfl (fun W => by rw [List.size_toArray, HL18.out]; exact HSZ.out W) ?_; intro w1 hbx hbw; have BW1 := Aside0.mk hbw; have BX1 := Aside0.mk hbx; have hcv0 : w1.cell? ⟨w.heap.size, 0, none⟩ = some (.int .i64 p.f0) := blk_cells hbx 0 _ H0.out; have hcv1 : w1.cell? ⟨w.heap.size, 1, none⟩ = some (.string p.f1) := blk_cells hbx 1 _ H1.out; clear hbx hbw)
   | (go_at_call 41; refine (HSC.out _ BW1.out).mono ?_; rintro e w5 ⟨rfl, hb5⟩; have BW5 := Aside0.mk (below_step BW1.out hb5); clear hb5))
  go_ret
  exact ⟨rfl, BW5.out⟩
 rw [if_neg q1] at h; have q1b : (p.f0 == 1) = false := beq_eq_false_iff_ne.mpr q1; by_cases q2 : p.f0 = 2
 ·rw [if_pos q2] at h; have q2b : (p.f0 == 2) = true := beq_iff_eq.mpr q2; by_cases hlen : 0 < ks.length
  case neg => rw [if_neg hlen] at h; cases h
  rw [if_pos hlen] at h; obtain ⟨adk, ek, hkid0⟩ := Kd.at_int HKS.out 0 (by omega) (by omega)
  subst ek; rw [show ((0 : Int)).toNat = 0 from rfl, Addr.add_zero'] at hkid0
  have HKID0 := Aside0.mk hkid0; clear hkid0; have kl0 : 0 < ks.length := hlen; obtain ⟨b, hb, h⟩ := Option.bind_eq_some_iff.1 h
  have HRG := Aside0.mk (HNR.out (rd ks 0) b hb)
  clear hb; have HWH := Aside0.mk (fun W => plan_when.calls b (rd ks 0) r W h)
  clear h q2; go_enter Try.func35, Try.ntmps35
  go_wp2_with (first
   | ((with_reducible refine gate_dst (N := 3) rfl ?_); refine box_all rfl rfl (cs := cs.toArray) rfl (fun W => by rw [List.size_toArray, HL18.out]; exact HSZ.out W) ?_; intro w1 hbx hbw; have BW1 := Aside0.mk hbw; have BX1 := Aside0.mk hbx; have hcv0 : w1.cell? ⟨w.heap.size, 0, none⟩ = some (.int .i64 p.f0) := blk_cells hbx 0 _ H0.out; clear hbx hbw))
  clear hcv0; have HBd := below_drew1 BW1.out; have BXd := blk_drew BX1.out; clear BW1 BX1; refine start_ (n := 11) (S := fun w' => Aside0 (Below w.heap.size w w') ∧ Aside0 (w'.heap[w.heap.size]? = some (.cells cs.toArray 31 (0, 0)))) (ds := []) #[false, false, false, false, false, false, false, false, false, false, false] (by kernel_rfl) rfl rfl ⟨⟨HBd⟩, ⟨BXd⟩⟩ (fun hHeld => ?_)
  clear HBd BXd; generalize w1.drew = wR at hHeld ⊢
  refine pure_ (i := 0) (N := some 18) (v := ?_) (a' := ?_) #[true, false, false, false, false, false, false, false, false, false, false] rfl rfl (by kernel_rfl) (fun _ _ _ h => h) (Or.inl ⟨by rfl, ?_⟩) ?_ ?_
  rotate_left
  ·intro w'
   go_simp
   with_reducible rfl
  rotate_left
  ·simp only [Act.put, List.setIfInBounds_toArray, List.set_cons_zero, List.set_cons_succ, i64_w, i32_w]
   rfl
  refine take_ (i := 1) (N := some 19) (v := .agg cp.toArray) (a' := ?u1_a1) #[true, true, false, false, false, false, false, false, false, false, false] rfl rfl (by kernel_rfl) (fun _ _ _ h => h) (Or.inl ⟨by rfl, fun w' hs => load_run24 rfl rfl HLP.out (blk_cells_off hs.2.out HCP.out)⟩) hHeld ?u1_h1 ?u1_c1
  case u1_h1 => simp only [Act.put, List.setIfInBounds_toArray, List.set_cons_zero, List.set_cons_succ, i64_w, i32_w]; rfl
  case u1_c1 =>
  refine pure_ (i := 2) (N := some 20) (v := ?_) (a' := ?_) #[true, true, true, false, false, false, false, false, false, false, false] rfl rfl (by kernel_rfl) (fun _ _ _ h => h) (Or.inl ⟨by rfl, ?_⟩) ?_ ?_
  rotate_left
  ·intro w'
   go_simp
   with_reducible rfl
  rotate_left
  ·simp only [Act.put, List.setIfInBounds_toArray, List.set_cons_zero, List.set_cons_succ, i64_w, i32_w]
   rfl
  refine pure_ (i := 3) (N := some 21) (v := ?_) (a' := ?_) #[true, true, true, true, false, false, false, false, false, false, false] rfl rfl (by kernel_rfl) (fun _ _ _ h => h) (Or.inl ⟨by rfl, ?_⟩) ?_ ?_
  rotate_left
  ·intro w'
   go_simp
   with_reducible rfl
  rotate_left
  ·simp only [Act.put, List.setIfInBounds_toArray, List.set_cons_zero, List.set_cons_succ, i64_w, i32_w]
   rfl
  refine take_ (i := 4) (N := some 22) (v := ?_) (a' := ?_) #[true, true, true, true, true, false, false, false, false, false, false] rfl rfl (by kernel_rfl) (fun _ _ _ h => h) (Or.inl ⟨by rfl, ?_⟩) hHeld ?_ ?_
  rotate_left
  ·intro w' hs
   have hcv := (hs.1.out.cell (World.block_lt_of_cell? w _ HKID0.out)).trans HKID0.out
   clear hs; go_simp
   with_reducible rfl
  rotate_left
  ·simp only [Act.put, List.setIfInBounds_toArray, List.set_cons_zero, List.set_cons_succ, i64_w, i32_w]
   rfl
  refine pure_ (i := 6) (N := some 24) (v := ?_) (a' := ?_) #[true, true, true, true, true, false, true, false, false, false, false] rfl rfl (by kernel_rfl) (fun _ _ _ h => h) (Or.inl ⟨by rfl, ?_⟩) ?_ ?_
  rotate_left
  ·intro w'
   go_simp
   with_reducible rfl
  rotate_left
  ·simp only [Act.put, List.setIfInBounds_toArray, List.set_cons_zero, List.set_cons_succ, i64_w, i32_w]
   rfl
  refine pure_ (i := 7) (N := some 25) (v := ?_) (a' := ?_) #[true, true, true, true, true, false, true, true, false, false, false] rfl rfl (by kernel_rfl) (fun _ _ _ h => h) (Or.inl ⟨by rfl, ?_⟩) ?_ ?_
  rotate_left
  ·intro w'
   go_simp
   with_reducible rfl
  rotate_left
  ·simp only [Act.put, List.setIfInBounds_toArray, List.set_cons_zero, List.set_cons_succ, i64_w, i32_w]
   rfl
  refine take_ (i := 8) (N := some 26) (v := ?_) (a' := ?_) #[true, true, true, true, true, false, true, true, true, false, false] rfl rfl (by kernel_rfl) (fun _ _ _ h => h) (Or.inl ⟨by rfl, ?_⟩) hHeld ?_ ?_
  rotate_left
  ·intro w' hs
   have hcv := (hs.1.out.cell (World.block_lt_of_cell? w _ HKID0.out)).trans HKID0.out
   clear hs; go_simp
   with_reducible rfl
  rotate_left
  ·simp only [Act.put, List.setIfInBounds_toArray, List.set_cons_zero, List.set_cons_succ, i64_w, i32_w]
   rfl
  refine one_ (i := 5) (N := some 23) #[true, true, true, true, true, true, true, true, true, false, false] rfl rfl (by kernel_rfl) (by decide) (fun K hK => ?_)
  refine goes_ Try.func43 (by kernel_rfl) rfl #[.agg cp.toArray, .int .i64 (rd ks 0)] (by rfl) rfl rfl (by (try simp only [List.map_toArray, List.map_cons, List.map_nil]); first | done | rfl) ?_
  refine (HRG.out _ hHeld.1.out).mono ?_
  rintro e wC1 ⟨rfl, hbC⟩
  refine ⟨_, rfl, ?_⟩
  have hS1 : Aside0 (Below w.heap.size w wC1) ∧ Aside0 (wC1.heap[w.heap.size]? = some (.cells cs.toArray 31 (0, 0))) := ⟨⟨below_step hHeld.1.out hbC⟩, ⟨blk_keep hbC hHeld.2.out⟩⟩
  clear hbC hHeld; refine hK.out _ _ hS1 (fun hHeld => ?_)
  clear hK K hS1; refine norm_ (a' := ?u1_na5) ?u1_nh5 ?u1_nc5
  case u1_nh5 => show Act.put _ (some 23) _ = _; simp only [Act.put, List.setIfInBounds_toArray, List.set_cons_zero, List.set_cons_succ, i64_w, i32_w]; rfl
  case u1_nc5 =>
  refine one_ (i := 9) (N := some 27) #[true, true, true, true, true, true, true, true, true, true, false] rfl rfl (by kernel_rfl) (by decide) (fun K hK => ?_)
  refine goes_ Try.func42 (by kernel_rfl) rfl #[.bool b, .int .i64 (rd ks 0)] (by rfl) rfl rfl (by (try simp only [List.map_toArray, List.map_cons, List.map_nil]); first | done | rfl) ?_
  refine (HWH.out _).mono ?_
  rintro e wC2 ⟨rfl, hdC⟩
  refine ⟨_, rfl, ?_⟩
  have hbC := hdC.below; clear hdC; have hS2 : Aside0 (Below w.heap.size w wC2) ∧ Aside0 (wC2.heap[w.heap.size]? = some (.cells cs.toArray 31 (0, 0))) := ⟨⟨below_step hHeld.1.out hbC⟩, ⟨blk_keep hbC hHeld.2.out⟩⟩
  clear hbC hHeld; refine hK.out _ _ hS2 (fun hHeld => ?_)
  clear hK K hS2; refine norm_ (a' := ?u1_na9) ?u1_nh9 ?u1_nc9
  case u1_nh9 => show Act.put _ (some 27) _ = _; simp only [Act.put, List.setIfInBounds_toArray, List.set_cons_zero, List.set_cons_succ, i64_w, i32_w]; rfl
  case u1_nc9 =>
  refine pure_ (i := 10) (N := some 6) (v := ?_) (a' := ?_) #[true, true, true, true, true, true, true, true, true, true, true] rfl rfl (by kernel_rfl) (fun _ _ _ h => h) (Or.inl ⟨by rfl, ?_⟩) ?_ ?_
  rotate_left
  ·intro w'
   go_simp
   with_reducible rfl
  rotate_left
  ·simp only [Act.put, List.setIfInBounds_toArray, List.set_cons_zero, List.set_cons_succ, i64_w, i32_w]
   rfl
  refine done_ (by kernel_rfl) ?_
  have HBE := hHeld.1; have BXE := hHeld.2; clear hHeld; try go_wp2
  go_ret
  exact ⟨rfl, HBE.out⟩
 rw [if_neg q2] at h; have q2b : (p.f0 == 2) = false := beq_eq_false_iff_ne.mpr q2; by_cases q3 : p.f0 = 3
 ·rw [if_pos q3] at h; have q3b : (p.f0 == 3) = true := beq_iff_eq.mpr q3; by_cases hlen : 0 < ks.length
  case neg => rw [if_neg hlen] at h; cases h
  rw [if_pos hlen] at h; obtain ⟨adk, ek, hkid0⟩ := Kd.at_int HKS.out 0 (by omega) (by omega)
  subst ek; rw [show ((0 : Int)).toNat = 0 from rfl, Addr.add_zero'] at hkid0
  have HKID0 := Aside0.mk hkid0; clear hkid0; have kl0 : 0 < ks.length := hlen; obtain ⟨b, hb, h⟩ := Option.bind_eq_some_iff.1 h
  have HRG := Aside0.mk (fun W (hb2 : Below w.heap.size w W) => plan_exprs.calls k A8 c8 p.f3 (rd ks 0) b W (Kd.C_below G8.out hb2) L8.out hb)
  clear hb; have HWH := Aside0.mk (fun W => plan_when.calls b (p.f3.length : Int) r W h)
  clear h q3; go_enter Try.func35, Try.ntmps35
  go_wp2_with (first
   | ((with_reducible refine gate_dst (N := 3) rfl ?_); refine box_all rfl rfl (cs := cs.toArray) rfl (fun W => by rw [List.size_toArray, HL18.out]; exact HSZ.out W) ?_; intro w1 hbx hbw; have BW1 := Aside0.mk hbw; have BX1 := Aside0.mk hbx; have hcv0 : w1.cell? ⟨w.heap.size, 0, none⟩ = some (.int .i64 p.f0) := blk_cells hbx 0 _ H0.out; clear hbx hbw))
  clear hcv0; have HBd := below_drew1 BW1.out; have BXd := blk_drew BX1.out; clear BW1 BX1; refine start_ (n := 11) (S := fun w' => Aside0 (Below w.heap.size w w') ∧ Aside0 (w'.heap[w.heap.size]? = some (.cells cs.toArray 31 (0, 0)))) (ds := []) #[false, false, false, false, false, false, false, false, false, false, false] (by kernel_rfl) rfl rfl ⟨⟨HBd⟩, ⟨BXd⟩⟩ (fun hHeld => ?_)
  clear HBd BXd; generalize w1.drew = wR at hHeld ⊢
  refine pure_ (i := 0) (N := some 30) (v := ?_) (a' := ?_) #[true, false, false, false, false, false, false, false, false, false, false] rfl rfl (by kernel_rfl) (fun _ _ _ h => h) (Or.inl ⟨by rfl, ?_⟩) ?_ ?_
  rotate_left
  ·intro w'
   go_simp
   with_reducible rfl
  rotate_left
  ·simp only [Act.put, List.setIfInBounds_toArray, List.set_cons_zero, List.set_cons_succ, i64_w, i32_w]
   rfl
  refine take_ (i := 1) (N := some 31) (v := ?_) (a' := ?_) #[true, true, false, false, false, false, false, false, false, false, false] rfl rfl (by kernel_rfl) (fun _ _ _ h => h) (Or.inl ⟨by rfl, ?_⟩) hHeld ?_ ?_
  rotate_left
  ·intro w' hs
   have hcv : w'.cell? ⟨w.heap.size, 8, none⟩ = some (.slice A8 p.f3.length c8) := blk_cells hs.2.out 8 _ H8.out; clear hs; go_simp
   with_reducible rfl
  rotate_left
  ·simp only [Act.put, List.setIfInBounds_toArray, List.set_cons_zero, List.set_cons_succ, i64_w, i32_w]
   rfl
  refine pure_ (i := 2) (N := some 32) (v := ?_) (a' := ?_) #[true, true, true, false, false, false, false, false, false, false, false] rfl rfl (by kernel_rfl) (fun _ _ _ h => h) (Or.inl ⟨by rfl, ?_⟩) ?_ ?_
  rotate_left
  ·intro w'
   go_simp
   with_reducible rfl
  rotate_left
  ·simp only [Act.put, List.setIfInBounds_toArray, List.set_cons_zero, List.set_cons_succ, i64_w, i32_w]
   rfl
  refine pure_ (i := 3) (N := some 33) (v := ?_) (a' := ?_) #[true, true, true, true, false, false, false, false, false, false, false] rfl rfl (by kernel_rfl) (fun _ _ _ h => h) (Or.inl ⟨by rfl, ?_⟩) ?_ ?_
  rotate_left
  ·intro w'
   go_simp
   with_reducible rfl
  rotate_left
  ·simp only [Act.put, List.setIfInBounds_toArray, List.set_cons_zero, List.set_cons_succ, i64_w, i32_w]
   rfl
  refine take_ (i := 4) (N := some 34) (v := ?_) (a' := ?_) #[true, true, true, true, true, false, false, false, false, false, false] rfl rfl (by kernel_rfl) (fun _ _ _ h => h) (Or.inl ⟨by rfl, ?_⟩) hHeld ?_ ?_
  rotate_left
  ·intro w' hs
   have hcv := (hs.1.out.cell (World.block_lt_of_cell? w _ HKID0.out)).trans HKID0.out
   clear hs; go_simp
   with_reducible rfl
  rotate_left
  ·simp only [Act.put, List.setIfInBounds_toArray, List.set_cons_zero, List.set_cons_succ, i64_w, i32_w]
   rfl
  refine pure_ (i := 6) (N := some 36) (v := ?_) (a' := ?_) #[true, true, true, true, true, false, true, false, false, false, false] rfl rfl (by kernel_rfl) (fun _ _ _ h => h) (Or.inl ⟨by rfl, ?_⟩) ?_ ?_
  rotate_left
  ·intro w'
   go_simp
   with_reducible rfl
  rotate_left
  ·simp only [Act.put, List.setIfInBounds_toArray, List.set_cons_zero, List.set_cons_succ, i64_w, i32_w]
   rfl
  refine take_ (i := 7) (N := some 37) (v := ?_) (a' := ?_) #[true, true, true, true, true, false, true, true, false, false, false] rfl rfl (by kernel_rfl) (fun _ _ _ h => h) (Or.inl ⟨by rfl, ?_⟩) hHeld ?_ ?_
  rotate_left
  ·intro w' hs
   have hcv : w'.cell? ⟨w.heap.size, 8, none⟩ = some (.slice A8 p.f3.length c8) := blk_cells hs.2.out 8 _ H8.out; clear hs; go_simp
   with_reducible rfl
  rotate_left
  ·simp only [Act.put, List.setIfInBounds_toArray, List.set_cons_zero, List.set_cons_succ, i64_w, i32_w]
   rfl
  refine pure_ (i := 8) (N := some 38) (v := ?_) (a' := ?_) #[true, true, true, true, true, false, true, true, true, false, false] rfl rfl (by kernel_rfl) (fun _ _ _ h => h) (Or.inl ⟨by rfl, ?_⟩) ?_ ?_
  rotate_left
  ·intro w'
   go_simp
   with_reducible rfl
  rotate_left
  ·simp only [Act.put, List.setIfInBounds_toArray, List.set_cons_zero, List.set_cons_succ, i64_w, i32_w]
   rfl
  refine one_ (i := 5) (N := some 35) #[true, true, true, true, true, true, true, true, true, false, false] rfl rfl (by kernel_rfl) (by decide) (fun K hK => ?_)
  refine goes_ Try.func44 (by kernel_rfl) rfl #[.slice A8 p.f3.length c8, .int .i64 (rd ks 0)] (by rfl) rfl rfl (by (try simp only [List.map_toArray, List.map_cons, List.map_nil]); first | done | rfl) ?_
  refine (HRG.out _ hHeld.1.out).mono ?_
  rintro e wC1 ⟨rfl, hbC⟩
  refine ⟨_, rfl, ?_⟩
  have hS1 : Aside0 (Below w.heap.size w wC1) ∧ Aside0 (wC1.heap[w.heap.size]? = some (.cells cs.toArray 31 (0, 0))) := ⟨⟨below_step hHeld.1.out hbC⟩, ⟨blk_keep hbC hHeld.2.out⟩⟩
  clear hbC hHeld; refine hK.out _ _ hS1 (fun hHeld => ?_)
  clear hK K hS1; refine norm_ (a' := ?u2_na5) ?u2_nh5 ?u2_nc5
  case u2_nh5 => show Act.put _ (some 35) _ = _; simp only [Act.put, List.setIfInBounds_toArray, List.set_cons_zero, List.set_cons_succ, i64_w, i32_w]; rfl
  case u2_nc5 =>
  refine one_ (i := 9) (N := some 39) #[true, true, true, true, true, true, true, true, true, true, false] rfl rfl (by kernel_rfl) (by decide) (fun K hK => ?_)
  refine goes_ Try.func42 (by kernel_rfl) rfl #[.bool b, .int .i64 (p.f3.length : Int)] (by rfl) rfl rfl (by (try simp only [List.map_toArray, List.map_cons, List.map_nil]); first | done | rfl) ?_
  refine (HWH.out _).mono ?_
  rintro e wC2 ⟨rfl, hdC⟩
  refine ⟨_, rfl, ?_⟩
  have hbC := hdC.below; clear hdC; have hS2 : Aside0 (Below w.heap.size w wC2) ∧ Aside0 (wC2.heap[w.heap.size]? = some (.cells cs.toArray 31 (0, 0))) := ⟨⟨below_step hHeld.1.out hbC⟩, ⟨blk_keep hbC hHeld.2.out⟩⟩
  clear hbC hHeld; refine hK.out _ _ hS2 (fun hHeld => ?_)
  clear hK K hS2; refine norm_ (a' := ?u2_na9) ?u2_nh9 ?u2_nc9
  case u2_nh9 => show Act.put _ (some 39) _ = _; simp only [Act.put, List.setIfInBounds_toArray, List.set_cons_zero, List.set_cons_succ, i64_w, i32_w]; rfl
  case u2_nc9 =>
  refine pure_ (i := 10) (N := some 6) (v := ?_) (a' := ?_) #[true, true, true, true, true, true, true, true, true, true, true] rfl rfl (by kernel_rfl) (fun _ _ _ h => h) (Or.inl ⟨by rfl, ?_⟩) ?_ ?_
  rotate_left
  ·intro w'
   go_simp
   with_reducible rfl
  rotate_left
  ·simp only [Act.put, List.setIfInBounds_toArray, List.set_cons_zero, List.set_cons_succ, i64_w, i32_w]
   rfl
  refine done_ (by kernel_rfl) ?_
  have HBE := hHeld.1; have BXE := hHeld.2; clear hHeld; try go_wp2
  go_ret
  exact ⟨rfl, HBE.out⟩
 rw [if_neg q3] at h; have q3b : (p.f0 == 3) = false := beq_eq_false_iff_ne.mpr q3; by_cases q4 : p.f0 = 4
 ·rw [if_pos q4] at h; have q4b : (p.f0 == 4) = true := beq_iff_eq.mpr q4; by_cases hlen : 0 < ks.length
  case neg => rw [if_neg hlen] at h; cases h
  rw [if_pos hlen] at h; obtain ⟨adk, ek, hkid0⟩ := Kd.at_int HKS.out 0 (by omega) (by omega)
  subst ek; rw [show ((0 : Int)).toNat = 0 from rfl, Addr.add_zero'] at hkid0
  have HKID0 := Aside0.mk hkid0; clear hkid0; have kl0 : 0 < ks.length := hlen; obtain ⟨b, hb, h⟩ := Option.bind_eq_some_iff.1 h
  have HRG := Aside0.mk (fun W (hb2 : Below w.heap.size w W) => group_Right.calls A9 c9 p.f4 A10 c10 p.f5 (rd ks 0) b W (Kd.C_below G9.out hb2) L9.out (Kd.C_below G10.out hb2) L10.out hb)
  clear hb; have HWH := Aside0.mk (fun W => plan_when.calls b (wrap64 ((p.f4.length : Int) + (p.f5.length : Int))) r W h)
  clear h q4; go_enter Try.func35, Try.ntmps35
  go_wp2_with (first
   | ((with_reducible refine gate_dst (N := 3) rfl ?_); refine box_all rfl rfl (cs := cs.toArray) rfl (fun W => by rw [List.size_toArray, HL18.out]; exact HSZ.out W) ?_; intro w1 hbx hbw; have BW1 := Aside0.mk hbw; have BX1 := Aside0.mk hbx; have hcv0 : w1.cell? ⟨w.heap.size, 0, none⟩ = some (.int .i64 p.f0) := blk_cells hbx 0 _ H0.out; clear hbx hbw))
  clear hcv0; have HBd := below_drew1 BW1.out; have BXd := blk_drew BX1.out; clear BW1 BX1; refine start_ (n := 17) (S := fun w' => Aside0 (Below w.heap.size w w') ∧ Aside0 (w'.heap[w.heap.size]? = some (.cells cs.toArray 31 (0, 0)))) (ds := []) #[false, false, false, false, false, false, false, false, false, false, false, false, false, false, false, false, false] (by kernel_rfl) rfl rfl ⟨⟨HBd⟩, ⟨BXd⟩⟩ (fun hHeld => ?_)
  clear HBd BXd; generalize w1.drew = wR at hHeld ⊢
  refine pure_ (i := 0) (N := some 42) (v := ?_) (a' := ?_) #[true, false, false, false, false, false, false, false, false, false, false, false, false, false, false, false, false] rfl rfl (by kernel_rfl) (fun _ _ _ h => h) (Or.inl ⟨by rfl, ?_⟩) ?_ ?_
  rotate_left
  ·intro w'
   go_simp
   with_reducible rfl
  rotate_left
  ·simp only [Act.put, List.setIfInBounds_toArray, List.set_cons_zero, List.set_cons_succ, i64_w, i32_w]
   rfl
  refine take_ (i := 1) (N := some 43) (v := ?_) (a' := ?_) #[true, true, false, false, false, false, false, false, false, false, false, false, false, false, false, false, false] rfl rfl (by kernel_rfl) (fun _ _ _ h => h) (Or.inl ⟨by rfl, ?_⟩) hHeld ?_ ?_
  rotate_left
  ·intro w' hs
   have hcv : w'.cell? ⟨w.heap.size, 9, none⟩ = some (.slice A9 p.f4.length c9) := blk_cells hs.2.out 9 _ H9.out; clear hs; go_simp
   with_reducible rfl
  rotate_left
  ·simp only [Act.put, List.setIfInBounds_toArray, List.set_cons_zero, List.set_cons_succ, i64_w, i32_w]
   rfl
  refine pure_ (i := 2) (N := some 44) (v := ?_) (a' := ?_) #[true, true, true, false, false, false, false, false, false, false, false, false, false, false, false, false, false] rfl rfl (by kernel_rfl) (fun _ _ _ h => h) (Or.inl ⟨by rfl, ?_⟩) ?_ ?_
  rotate_left
  ·intro w'
   go_simp
   with_reducible rfl
  rotate_left
  ·simp only [Act.put, List.setIfInBounds_toArray, List.set_cons_zero, List.set_cons_succ, i64_w, i32_w]
   rfl
  refine take_ (i := 3) (N := some 45) (v := ?_) (a' := ?_) #[true, true, true, true, false, false, false, false, false, false, false, false, false, false, false, false, false] rfl rfl (by kernel_rfl) (fun _ _ _ h => h) (Or.inl ⟨by rfl, ?_⟩) hHeld ?_ ?_
  rotate_left
  ·intro w' hs
   have hcv : w'.cell? ⟨w.heap.size, 10, none⟩ = some (.slice A10 p.f5.length c10) := blk_cells hs.2.out 10 _ H10.out; clear hs; go_simp
   with_reducible rfl
  rotate_left
  ·simp only [Act.put, List.setIfInBounds_toArray, List.set_cons_zero, List.set_cons_succ, i64_w, i32_w]
   rfl
  refine pure_ (i := 4) (N := some 46) (v := ?_) (a' := ?_) #[true, true, true, true, true, false, false, false, false, false, false, false, false, false, false, false, false] rfl rfl (by kernel_rfl) (fun _ _ _ h => h) (Or.inl ⟨by rfl, ?_⟩) ?_ ?_
  rotate_left
  ·intro w'
   go_simp
   with_reducible rfl
  rotate_left
  ·simp only [Act.put, List.setIfInBounds_toArray, List.set_cons_zero, List.set_cons_succ, i64_w, i32_w]
   rfl
  refine pure_ (i := 5) (N := some 47) (v := ?_) (a' := ?_) #[true, true, true, true, true, true, false, false, false, false, false, false, false, false, false, false, false] rfl rfl (by kernel_rfl) (fun _ _ _ h => h) (Or.inl ⟨by rfl, ?_⟩) ?_ ?_
  rotate_left
  ·intro w'
   go_simp
   with_reducible rfl
  rotate_left
  ·simp only [Act.put, List.setIfInBounds_toArray, List.set_cons_zero, List.set_cons_succ, i64_w, i32_w]
   rfl
  refine take_ (i := 6) (N := some 48) (v := ?_) (a' := ?_) #[true, true, true, true, true, true, true, false, false, false, false, false, false, false, false, false, false] rfl rfl (by kernel_rfl) (fun _ _ _ h => h) (Or.inl ⟨by rfl, ?_⟩) hHeld ?_ ?_
  rotate_left
  ·intro w' hs
   have hcv := (hs.1.out.cell (World.block_lt_of_cell? w _ HKID0.out)).trans HKID0.out
   clear hs; go_simp
   with_reducible rfl
  rotate_left
  ·simp only [Act.put, List.setIfInBounds_toArray, List.set_cons_zero, List.set_cons_succ, i64_w, i32_w]
   rfl
  refine pure_ (i := 8) (N := some 50) (v := ?_) (a' := ?_) #[true, true, true, true, true, true, true, false, true, false, false, false, false, false, false, false, false] rfl rfl (by kernel_rfl) (fun _ _ _ h => h) (Or.inl ⟨by rfl, ?_⟩) ?_ ?_
  rotate_left
  ·intro w'
   go_simp
   with_reducible rfl
  rotate_left
  ·simp only [Act.put, List.setIfInBounds_toArray, List.set_cons_zero, List.set_cons_succ, i64_w, i32_w]
   rfl
  refine take_ (i := 9) (N := some 51) (v := ?_) (a' := ?_) #[true, true, true, true, true, true, true, false, true, true, false, false, false, false, false, false, false] rfl rfl (by kernel_rfl) (fun _ _ _ h => h) (Or.inl ⟨by rfl, ?_⟩) hHeld ?_ ?_
  rotate_left
  ·intro w' hs
   have hcv : w'.cell? ⟨w.heap.size, 9, none⟩ = some (.slice A9 p.f4.length c9) := blk_cells hs.2.out 9 _ H9.out; clear hs; go_simp
   with_reducible rfl
  rotate_left
  ·simp only [Act.put, List.setIfInBounds_toArray, List.set_cons_zero, List.set_cons_succ, i64_w, i32_w]
   rfl
  refine pure_ (i := 10) (N := some 52) (v := ?_) (a' := ?_) #[true, true, true, true, true, true, true, false, true, true, true, false, false, false, false, false, false] rfl rfl (by kernel_rfl) (fun _ _ _ h => h) (Or.inl ⟨by rfl, ?_⟩) ?_ ?_
  rotate_left
  ·intro w'
   go_simp
   with_reducible rfl
  rotate_left
  ·simp only [Act.put, List.setIfInBounds_toArray, List.set_cons_zero, List.set_cons_succ, i64_w, i32_w]
   rfl
  refine pure_ (i := 11) (N := some 53) (v := ?_) (a' := ?_) #[true, true, true, true, true, true, true, false, true, true, true, true, false, false, false, false, false] rfl rfl (by kernel_rfl) (fun _ _ _ h => h) (Or.inl ⟨by rfl, ?_⟩) ?_ ?_
  rotate_left
  ·intro w'
   go_simp
   with_reducible rfl
  rotate_left
  ·simp only [Act.put, List.setIfInBounds_toArray, List.set_cons_zero, List.set_cons_succ, i64_w, i32_w]
   rfl
  refine take_ (i := 12) (N := some 54) (v := ?_) (a' := ?_) #[true, true, true, true, true, true, true, false, true, true, true, true, true, false, false, false, false] rfl rfl (by kernel_rfl) (fun _ _ _ h => h) (Or.inl ⟨by rfl, ?_⟩) hHeld ?_ ?_
  rotate_left
  ·intro w' hs
   have hcv : w'.cell? ⟨w.heap.size, 10, none⟩ = some (.slice A10 p.f5.length c10) := blk_cells hs.2.out 10 _ H10.out; clear hs; go_simp
   with_reducible rfl
  rotate_left
  ·simp only [Act.put, List.setIfInBounds_toArray, List.set_cons_zero, List.set_cons_succ, i64_w, i32_w]
   rfl
  refine pure_ (i := 13) (N := some 55) (v := ?_) (a' := ?_) #[true, true, true, true, true, true, true, false, true, true, true, true, true, true, false, false, false] rfl rfl (by kernel_rfl) (fun _ _ _ h => h) (Or.inl ⟨by rfl, ?_⟩) ?_ ?_
  rotate_left
  ·intro w'
   go_simp
   with_reducible rfl
  rotate_left
  ·simp only [Act.put, List.setIfInBounds_toArray, List.set_cons_zero, List.set_cons_succ, i64_w, i32_w]
   rfl
  refine pure_ (i := 14) (N := some 56) (v := ?_) (a' := ?_) #[true, true, true, true, true, true, true, false, true, true, true, true, true, true, true, false, false] rfl rfl (by kernel_rfl) (fun _ _ _ h => h) (Or.inl ⟨by rfl, ?_⟩) ?_ ?_
  rotate_left
  ·intro w'
   go_simp
   with_reducible rfl
  rotate_left
  ·simp only [Act.put, List.setIfInBounds_toArray, List.set_cons_zero, List.set_cons_succ, i64_w, i32_w]
   rfl
  refine one_ (i := 7) (N := some 49) #[true, true, true, true, true, true, true, true, true, true, true, true, true, true, true, false, false] rfl rfl (by kernel_rfl) (by decide) (fun K hK => ?_)
  refine goes_ Try.func45 (by kernel_rfl) rfl #[.slice A9 p.f4.length c9, .slice A10 p.f5.length c10, .int .i64 (rd ks 0)] (by rfl) rfl rfl (by (try simp only [List.map_toArray, List.map_cons, List.map_nil]); first | done | rfl) ?_
  refine (HRG.out _ hHeld.1.out).mono ?_
  rintro e wC1 ⟨rfl, hbC⟩
  refine ⟨_, rfl, ?_⟩
  have hS1 : Aside0 (Below w.heap.size w wC1) ∧ Aside0 (wC1.heap[w.heap.size]? = some (.cells cs.toArray 31 (0, 0))) := ⟨⟨below_step hHeld.1.out hbC⟩, ⟨blk_keep hbC hHeld.2.out⟩⟩
  clear hbC hHeld; refine hK.out _ _ hS1 (fun hHeld => ?_)
  clear hK K hS1; refine norm_ (a' := ?u3_na7) ?u3_nh7 ?u3_nc7
  case u3_nh7 => show Act.put _ (some 49) _ = _; simp only [Act.put, List.setIfInBounds_toArray, List.set_cons_zero, List.set_cons_succ, i64_w, i32_w]; rfl
  case u3_nc7 =>
  refine one_ (i := 15) (N := some 57) #[true, true, true, true, true, true, true, true, true, true, true, true, true, true, true, true, false] rfl rfl (by kernel_rfl) (by decide) (fun K hK => ?_)
  refine goes_ Try.func42 (by kernel_rfl) rfl #[.bool b, .int .i64 (wrap64 ((p.f4.length : Int) + (p.f5.length : Int)))] (by rfl) rfl rfl (by (try simp only [List.map_toArray, List.map_cons, List.map_nil]); first | done | rfl) ?_
  refine (HWH.out _).mono ?_
  rintro e wC2 ⟨rfl, hdC⟩
  refine ⟨_, rfl, ?_⟩
  have hbC := hdC.below; clear hdC; have hS2 : Aside0 (Below w.heap.size w wC2) ∧ Aside0 (wC2.heap[w.heap.size]? = some (.cells cs.toArray 31 (0, 0))) := ⟨⟨below_step hHeld.1.out hbC⟩, ⟨blk_keep hbC hHeld.2.out⟩⟩
  clear hbC hHeld; refine hK.out _ _ hS2 (fun hHeld => ?_)
  clear hK K hS2; refine norm_ (a' := ?u3_na15) ?u3_nh15 ?u3_nc15
  case u3_nh15 => show Act.put _ (some 57) _ = _; simp only [Act.put, List.setIfInBounds_toArray, List.set_cons_zero, List.set_cons_succ, i64_w, i32_w]; rfl
  case u3_nc15 =>
  refine pure_ (i := 16) (N := some 6) (v := ?_) (a' := ?_) #[true, true, true, true, true, true, true, true, true, true, true, true, true, true, true, true, true] rfl rfl (by kernel_rfl) (fun _ _ _ h => h) (Or.inl ⟨by rfl, ?_⟩) ?_ ?_
  rotate_left
  ·intro w'
   go_simp
   with_reducible rfl
  rotate_left
  ·simp only [Act.put, List.setIfInBounds_toArray, List.set_cons_zero, List.set_cons_succ, i64_w, i32_w]
   rfl
  refine done_ (by kernel_rfl) ?_
  have HBE := hHeld.1; have BXE := hHeld.2; clear hHeld; try go_wp2
  go_ret
  exact ⟨rfl, HBE.out⟩
 rw [if_neg q4] at h; have q4b : (p.f0 == 4) = false := beq_eq_false_iff_ne.mpr q4; by_cases q5 : p.f0 = 5
 ·rw [if_pos q5] at h; have q5b : (p.f0 == 5) = true := beq_iff_eq.mpr q5; by_cases hlen : 1 < ks.length
  case neg => rw [if_neg hlen] at h; cases h
  rw [if_pos hlen] at h; obtain ⟨adk, ek, hkid0⟩ := Kd.at_int HKS.out 0 (by omega) (by omega)
  subst ek; rw [show ((0 : Int)).toNat = 0 from rfl, Addr.add_zero'] at hkid0
  have HKID0 := Aside0.mk hkid0; clear hkid0; have kl0 : 0 < ks.length := by omega
  obtain ⟨adk2, ek2, hkid1⟩ := Kd.at_int HKS.out 1 (by omega) (by omega)
  obtain rfl : adk = adk2 := (by injection ek2)
  rw [show ((1 : Int)).toNat = 1 from rfl] at hkid1
  have hkid2 : w.cell? ⟨adk.block, adk.off + 1, none⟩ = some (.int .i64 (rd ks 1)) := by rw [← hkid1]; exact congrArg w.cell? ((add_field adk 0 1 (by omega)).symm.trans (by simp [Addr.add]))
  have HKID1 := Aside0.mk hkid2; clear hkid1 ek2 hkid2; have kl1 : 1 < ks.length := hlen; have kl1i : ((1 : Int) < (ks.length : Int)) = True := eq_true (by omega)
  obtain ⟨b, hb, h⟩ := Option.bind_eq_some_iff.1 h
  have HRG := Aside0.mk (fun W (hb2 : Below w.heap.size w W) => join_Right.calls p.f6 A12 c12 p.f7 A13 c13 p.f8 (rd ks 0) (rd ks 1) b W (Kd.C_below G12.out hb2) L12.out (Kd.C_below G13.out hb2) L13.out hb)
  clear hb; have hcx0 : w.cell? adk = some (.int .i64 (rd ks 0)) := HKID0.out; have hcx1 : w.cell? ⟨adk.block, adk.off + 1, none⟩ = some (.int .i64 (rd ks 1)) := HKID1.out; by_cases q0 : p.f6 ≤ 2
  ·rw [if_pos q0] at h; have q0b : decide (p.f6 ≤ 2) = true := decide_eq_true q0; have HWH := Aside0.mk (fun W => plan_when.calls b (wrap64 (rd ks 0 + rd ks 1)) r W h)
   clear h q5; go_enter Try.func35, Try.ntmps35
   go_wp2_with (first
    | ((with_reducible refine gate_dst (N := 3) rfl ?_); refine box_all rfl rfl (cs := cs.toArray) rfl (fun W => by rw [List.size_toArray, HL18.out]; exact HSZ.out W) ?_; intro w1 hbx hbw; have BW1 := Aside0.mk hbw; have BX1 := Aside0.mk hbx; have hcv0 : w1.cell? ⟨w.heap.size, 0, none⟩ = some (.int .i64 p.f0) := blk_cells hbx 0 _ H0.out; have hcv11 : w1.cell? ⟨w.heap.size, 11, none⟩ = some (.int .i64 p.f6) := blk_cells hbx 11 _ H11.out; have hck0 := (hbw.cell (World.block_lt_of_cell? w _ HKID0.out)).trans HKID0.out; have hck1 := (hbw.cell (World.block_lt_of_cell? w _ HKID1.out)).trans HKID1.out; clear hcx0 hcx1; clear hbx hbw))
   clear hcv0 hcv11 hck0 hck1; have HBd := below_drew1 BW1.out; have BXd := blk_drew BX1.out; clear BW1 BX1; refine start_ (n := 16) (S := fun w' => Aside0 (Below w.heap.size w w') ∧ Aside0 (w'.heap[w.heap.size]? = some (.cells cs.toArray 31 (0, 0)))) (ds := []) #[false, false, false, false, false, false, false, false, false, false, false, false, false, false, false, false] (by kernel_rfl) rfl rfl ⟨⟨HBd⟩, ⟨BXd⟩⟩ (fun hHeld => ?_)
   clear HBd BXd; generalize w1.drew = wR at hHeld ⊢
   refine pure_ (i := 0) (N := some 71) (v := ?_) (a' := ?_) #[true, false, false, false, false, false, false, false, false, false, false, false, false, false, false, false] rfl rfl (by kernel_rfl) (fun _ _ _ h => h) (Or.inl ⟨by rfl, ?_⟩) ?_ ?_
   rotate_left
   ·intro w'
    go_simp
    with_reducible rfl
   rotate_left
   ·simp only [Act.put, List.setIfInBounds_toArray, List.set_cons_zero, List.set_cons_succ, i64_w, i32_w]
    rfl
   refine take_ (i := 1) (N := some 72) (v := ?_) (a' := ?_) #[true, true, false, false, false, false, false, false, false, false, false, false, false, false, false, false] rfl rfl (by kernel_rfl) (fun _ _ _ h => h) (Or.inl ⟨by rfl, ?_⟩) hHeld ?_ ?_
   rotate_left
   ·intro w' hs
    have hcv : w'.cell? ⟨w.heap.size, 11, none⟩ = some (.int .i64 p.f6) := blk_cells hs.2.out 11 _ H11.out; clear hs; go_simp
    with_reducible rfl
   rotate_left
   ·simp only [Act.put, List.setIfInBounds_toArray, List.set_cons_zero, List.set_cons_succ, i64_w, i32_w]
    rfl
   refine pure_ (i := 2) (N := some 73) (v := ?_) (a' := ?_) #[true, true, true, false, false, false, false, false, false, false, false, false, false, false, false, false] rfl rfl (by kernel_rfl) (fun _ _ _ h => h) (Or.inl ⟨by rfl, ?_⟩) ?_ ?_
   rotate_left
   ·intro w'
    go_simp
    with_reducible rfl
   rotate_left
   ·simp only [Act.put, List.setIfInBounds_toArray, List.set_cons_zero, List.set_cons_succ, i64_w, i32_w]
    rfl
   refine take_ (i := 3) (N := some 74) (v := ?_) (a' := ?_) #[true, true, true, true, false, false, false, false, false, false, false, false, false, false, false, false] rfl rfl (by kernel_rfl) (fun _ _ _ h => h) (Or.inl ⟨by rfl, ?_⟩) hHeld ?_ ?_
   rotate_left
   ·intro w' hs
    have hcv : w'.cell? ⟨w.heap.size, 12, none⟩ = some (.slice A12 p.f7.length c12) := blk_cells hs.2.out 12 _ H12.out; clear hs; go_simp
    with_reducible rfl
   rotate_left
   ·simp only [Act.put, List.setIfInBounds_toArray, List.set_cons_zero, List.set_cons_succ, i64_w, i32_w]
    rfl
   refine pure_ (i := 4) (N := some 75) (v := ?_) (a' := ?_) #[true, true, true, true, true, false, false, false, false, false, false, false, false, false, false, false] rfl rfl (by kernel_rfl) (fun _ _ _ h => h) (Or.inl ⟨by rfl, ?_⟩) ?_ ?_
   rotate_left
   ·intro w'
    go_simp
    with_reducible rfl
   rotate_left
   ·simp only [Act.put, List.setIfInBounds_toArray, List.set_cons_zero, List.set_cons_succ, i64_w, i32_w]
    rfl
   refine take_ (i := 5) (N := some 76) (v := ?_) (a' := ?_) #[true, true, true, true, true, true, false, false, false, false, false, false, false, false, false, false] rfl rfl (by kernel_rfl) (fun _ _ _ h => h) (Or.inl ⟨by rfl, ?_⟩) hHeld ?_ ?_
   rotate_left
   ·intro w' hs
    have hcv : w'.cell? ⟨w.heap.size, 13, none⟩ = some (.slice A13 p.f8.length c13) := blk_cells hs.2.out 13 _ H13.out; clear hs; go_simp
    with_reducible rfl
   rotate_left
   ·simp only [Act.put, List.setIfInBounds_toArray, List.set_cons_zero, List.set_cons_succ, i64_w, i32_w]
    rfl
   refine pure_ (i := 6) (N := some 77) (v := ?_) (a' := ?_) #[true, true, true, true, true, true, true, false, false, false, false, false, false, false, false, false] rfl rfl (by kernel_rfl) (fun _ _ _ h => h) (Or.inl ⟨by rfl, ?_⟩) ?_ ?_
   rotate_left
   ·intro w'
    go_simp
    with_reducible rfl
   rotate_left
   ·simp only [Act.put, List.setIfInBounds_toArray, List.set_cons_zero, List.set_cons_succ, i64_w, i32_w]
    rfl
   refine pure_ (i := 7) (N := some 78) (v := ?_) (a' := ?_) #[true, true, true, true, true, true, true, true, false, false, false, false, false, false, false, false] rfl rfl (by kernel_rfl) (fun _ _ _ h => h) (Or.inl ⟨by rfl, ?_⟩) ?_ ?_
   rotate_left
   ·intro w'
    go_simp
    with_reducible rfl
   rotate_left
   ·simp only [Act.put, List.setIfInBounds_toArray, List.set_cons_zero, List.set_cons_succ, i64_w, i32_w]
    rfl
   refine take_ (i := 8) (N := some 79) (v := ?_) (a' := ?_) #[true, true, true, true, true, true, true, true, true, false, false, false, false, false, false, false] rfl rfl (by kernel_rfl) (fun _ _ _ h => h) (Or.inl ⟨by rfl, ?_⟩) hHeld ?_ ?_
   rotate_left
   ·intro w' hs
    have hcv := (hs.1.out.cell (World.block_lt_of_cell? w _ HKID0.out)).trans HKID0.out
    clear hs; go_simp
    with_reducible rfl
   rotate_left
   ·simp only [Act.put, List.setIfInBounds_toArray, List.set_cons_zero, List.set_cons_succ, i64_w, i32_w]
    rfl
   refine pure_ (i := 9) (N := some 80) (v := ?_) (a' := ?_) #[true, true, true, true, true, true, true, true, true, true, false, false, false, false, false, false] rfl rfl (by kernel_rfl) (fun _ _ _ h => h) (Or.inl ⟨by rfl, ?_⟩) ?_ ?_
   rotate_left
   ·intro w'
    go_simp
    with_reducible rfl
   rotate_left
   ·simp only [Act.put, List.setIfInBounds_toArray, List.set_cons_zero, List.set_cons_succ, i64_w, i32_w]
    rfl
   refine pure_ (i := 10) (N := some 81) (v := ?_) (a' := ?_) #[true, true, true, true, true, true, true, true, true, true, true, false, false, false, false, false] rfl rfl (by kernel_rfl) (fun _ _ _ h => h) (Or.inl ⟨by rfl, ?_⟩) ?_ ?_
   rotate_left
   ·intro w'
    go_simp
    with_reducible rfl
   rotate_left
   ·simp only [Act.put, List.setIfInBounds_toArray, List.set_cons_zero, List.set_cons_succ, i64_w, i32_w]
    rfl
   refine take_ (i := 11) (N := some 82) (v := ?_) (a' := ?_) #[true, true, true, true, true, true, true, true, true, true, true, true, false, false, false, false] rfl rfl (by kernel_rfl) (fun _ _ _ h => h) (Or.inl ⟨by rfl, ?_⟩) hHeld ?_ ?_
   rotate_left
   ·intro w' hs
    have hcv := (hs.1.out.cell (World.block_lt_of_cell? w _ HKID1.out)).trans HKID1.out
    clear hs; go_simp
    with_reducible rfl
   rotate_left
   ·simp only [Act.put, List.setIfInBounds_toArray, List.set_cons_zero, List.set_cons_succ, i64_w, i32_w]
    rfl
   refine pure_ (i := 13) (N := some 84) (v := ?_) (a' := ?_) #[true, true, true, true, true, true, true, true, true, true, true, true, false, true, false, false] rfl rfl (by kernel_rfl) (fun _ _ _ h => h) (Or.inl ⟨by rfl, ?_⟩) ?_ ?_
   rotate_left
   ·intro w'
    go_simp
    with_reducible rfl
   rotate_left
   ·simp only [Act.put, List.setIfInBounds_toArray, List.set_cons_zero, List.set_cons_succ, i64_w, i32_w]
    rfl
   refine one_ (i := 12) (N := some 83) #[true, true, true, true, true, true, true, true, true, true, true, true, true, true, false, false] rfl rfl (by kernel_rfl) (by decide) (fun K hK => ?_)
   refine goes_ Try.func46 (by kernel_rfl) rfl #[.int .i64 p.f6, .slice A12 p.f7.length c12, .slice A13 p.f8.length c13, .int .i64 (rd ks 0), .int .i64 (rd ks 1)] (by rfl) rfl rfl (by (try simp only [List.map_toArray, List.map_cons, List.map_nil]); first | done | rfl) ?_
   refine (HRG.out _ hHeld.1.out).mono ?_
   rintro e wC1 ⟨rfl, hbC⟩
   refine ⟨_, rfl, ?_⟩
   have hS1 : Aside0 (Below w.heap.size w wC1) ∧ Aside0 (wC1.heap[w.heap.size]? = some (.cells cs.toArray 31 (0, 0))) := ⟨⟨below_step hHeld.1.out hbC⟩, ⟨blk_keep hbC hHeld.2.out⟩⟩
   clear hbC hHeld; refine hK.out _ _ hS1 (fun hHeld => ?_)
   clear hK K hS1; refine norm_ (a' := ?u4_na12) ?u4_nh12 ?u4_nc12
   case u4_nh12 => show Act.put _ (some 83) _ = _; simp only [Act.put, List.setIfInBounds_toArray, List.set_cons_zero, List.set_cons_succ, i64_w, i32_w]; rfl
   case u4_nc12 =>
   refine one_ (i := 14) (N := some 85) #[true, true, true, true, true, true, true, true, true, true, true, true, true, true, true, false] rfl rfl (by kernel_rfl) (by decide) (fun K hK => ?_)
   refine goes_ Try.func42 (by kernel_rfl) rfl #[.bool b, .int .i64 (wrap64 (rd ks 0 + rd ks 1))] (by rfl) rfl rfl (by (try simp only [List.map_toArray, List.map_cons, List.map_nil]); first | done | rfl) ?_
   refine (HWH.out _).mono ?_
   rintro e wC2 ⟨rfl, hdC⟩
   refine ⟨_, rfl, ?_⟩
   have hbC := hdC.below; clear hdC; have hS2 : Aside0 (Below w.heap.size w wC2) ∧ Aside0 (wC2.heap[w.heap.size]? = some (.cells cs.toArray 31 (0, 0))) := ⟨⟨below_step hHeld.1.out hbC⟩, ⟨blk_keep hbC hHeld.2.out⟩⟩
   clear hbC hHeld; refine hK.out _ _ hS2 (fun hHeld => ?_)
   clear hK K hS2; refine norm_ (a' := ?u4_na14) ?u4_nh14 ?u4_nc14
   case u4_nh14 => show Act.put _ (some 85) _ = _; simp only [Act.put, List.setIfInBounds_toArray, List.set_cons_zero, List.set_cons_succ, i64_w, i32_w]; rfl
   case u4_nc14 =>
   refine pure_ (i := 15) (N := some 6) (v := ?_) (a' := ?_) #[true, true, true, true, true, true, true, true, true, true, true, true, true, true, true, true] rfl rfl (by kernel_rfl) (fun _ _ _ h => h) (Or.inl ⟨by rfl, ?_⟩) ?_ ?_
   rotate_left
   ·intro w'
    go_simp
    with_reducible rfl
   rotate_left
   ·simp only [Act.put, List.setIfInBounds_toArray, List.set_cons_zero, List.set_cons_succ, i64_w, i32_w]
    rfl
   refine done_ (by kernel_rfl) ?_
   have HBE := hHeld.1; have BXE := hHeld.2; clear hHeld; try go_wp2
   go_ret
   exact ⟨rfl, HBE.out⟩
  ·rw [if_neg q0] at h; have q0b : decide (p.f6 ≤ 2) = false := decide_eq_false q0; have HWH := Aside0.mk (fun W => plan_when.calls b (rd ks 0) r W h)
   clear h q5; go_enter Try.func35, Try.ntmps35
   go_wp2_with (first
    | ((with_reducible refine gate_dst (N := 3) rfl ?_); refine box_all rfl rfl (cs := cs.toArray) rfl (fun W => by rw [List.size_toArray, HL18.out]; exact HSZ.out W) ?_; intro w1 hbx hbw; have BW1 := Aside0.mk hbw; have BX1 := Aside0.mk hbx; have hcv0 : w1.cell? ⟨w.heap.size, 0, none⟩ = some (.int .i64 p.f0) := blk_cells hbx 0 _ H0.out; have hcv11 : w1.cell? ⟨w.heap.size, 11, none⟩ = some (.int .i64 p.f6) := blk_cells hbx 11 _ H11.out; have hck0 := (hbw.cell (World.block_lt_of_cell? w _ HKID0.out)).trans HKID0.out; have hck1 := (hbw.cell (World.block_lt_of_cell? w _ HKID1.out)).trans HKID1.out; clear hcx0 hcx1; clear hbx hbw))
   clear hcv0 hcv11 hck0 hck1; have HBd := below_drew1 BW1.out; have BXd := blk_drew BX1.out; clear BW1 BX1; refine start_ (n := 16) (S := fun w' => Aside0 (Below w.heap.size w w') ∧ Aside0 (w'.heap[w.heap.size]? = some (.cells cs.toArray 31 (0, 0)))) (ds := []) #[false, false, false, false, false, false, false, false, false, false, false, false, false, false, false, false] (by kernel_rfl) rfl rfl ⟨⟨HBd⟩, ⟨BXd⟩⟩ (fun hHeld => ?_)
   clear HBd BXd; generalize w1.drew = wR at hHeld ⊢
   refine pure_ (i := 0) (N := some 71) (v := ?_) (a' := ?_) #[true, false, false, false, false, false, false, false, false, false, false, false, false, false, false, false] rfl rfl (by kernel_rfl) (fun _ _ _ h => h) (Or.inl ⟨by rfl, ?_⟩) ?_ ?_
   rotate_left
   ·intro w'
    go_simp
    with_reducible rfl
   rotate_left
   ·simp only [Act.put, List.setIfInBounds_toArray, List.set_cons_zero, List.set_cons_succ, i64_w, i32_w]
    rfl
   refine take_ (i := 1) (N := some 72) (v := ?_) (a' := ?_) #[true, true, false, false, false, false, false, false, false, false, false, false, false, false, false, false] rfl rfl (by kernel_rfl) (fun _ _ _ h => h) (Or.inl ⟨by rfl, ?_⟩) hHeld ?_ ?_
   rotate_left
   ·intro w' hs
    have hcv : w'.cell? ⟨w.heap.size, 11, none⟩ = some (.int .i64 p.f6) := blk_cells hs.2.out 11 _ H11.out; clear hs; go_simp
    with_reducible rfl
   rotate_left
   ·simp only [Act.put, List.setIfInBounds_toArray, List.set_cons_zero, List.set_cons_succ, i64_w, i32_w]
    rfl
   refine pure_ (i := 2) (N := some 73) (v := ?_) (a' := ?_) #[true, true, true, false, false, false, false, false, false, false, false, false, false, false, false, false] rfl rfl (by kernel_rfl) (fun _ _ _ h => h) (Or.inl ⟨by rfl, ?_⟩) ?_ ?_
   rotate_left
   ·intro w'
    go_simp
    with_reducible rfl
   rotate_left
   ·simp only [Act.put, List.setIfInBounds_toArray, List.set_cons_zero, List.set_cons_succ, i64_w, i32_w]
    rfl
   refine take_ (i := 3) (N := some 74) (v := ?_) (a' := ?_) #[true, true, true, true, false, false, false, false, false, false, false, false, false, false, false, false] rfl rfl (by kernel_rfl) (fun _ _ _ h => h) (Or.inl ⟨by rfl, ?_⟩) hHeld ?_ ?_
   rotate_left
   ·intro w' hs
    have hcv : w'.cell? ⟨w.heap.size, 12, none⟩ = some (.slice A12 p.f7.length c12) := blk_cells hs.2.out 12 _ H12.out; clear hs; go_simp
    with_reducible rfl
   rotate_left
   ·simp only [Act.put, List.setIfInBounds_toArray, List.set_cons_zero, List.set_cons_succ, i64_w, i32_w]
    rfl
   refine pure_ (i := 4) (N := some 75) (v := ?_) (a' := ?_) #[true, true, true, true, true, false, false, false, false, false, false, false, false, false, false, false] rfl rfl (by kernel_rfl) (fun _ _ _ h => h) (Or.inl ⟨by rfl, ?_⟩) ?_ ?_
   rotate_left
   ·intro w'
    go_simp
    with_reducible rfl
   rotate_left
   ·simp only [Act.put, List.setIfInBounds_toArray, List.set_cons_zero, List.set_cons_succ, i64_w, i32_w]
    rfl
   refine take_ (i := 5) (N := some 76) (v := ?_) (a' := ?_) #[true, true, true, true, true, true, false, false, false, false, false, false, false, false, false, false] rfl rfl (by kernel_rfl) (fun _ _ _ h => h) (Or.inl ⟨by rfl, ?_⟩) hHeld ?_ ?_
   rotate_left
   ·intro w' hs
    have hcv : w'.cell? ⟨w.heap.size, 13, none⟩ = some (.slice A13 p.f8.length c13) := blk_cells hs.2.out 13 _ H13.out; clear hs; go_simp
    with_reducible rfl
   rotate_left
   ·simp only [Act.put, List.setIfInBounds_toArray, List.set_cons_zero, List.set_cons_succ, i64_w, i32_w]
    rfl
   refine pure_ (i := 6) (N := some 77) (v := ?_) (a' := ?_) #[true, true, true, true, true, true, true, false, false, false, false, false, false, false, false, false] rfl rfl (by kernel_rfl) (fun _ _ _ h => h) (Or.inl ⟨by rfl, ?_⟩) ?_ ?_
   rotate_left
   ·intro w'
    go_simp
    with_reducible rfl
   rotate_left
   ·simp only [Act.put, List.setIfInBounds_toArray, List.set_cons_zero, List.set_cons_succ, i64_w, i32_w]
    rfl
   refine pure_ (i := 7) (N := some 78) (v := ?_) (a' := ?_) #[true, true, true, true, true, true, true, true, false, false, false, false, false, false, false, false] rfl rfl (by kernel_rfl) (fun _ _ _ h => h) (Or.inl ⟨by rfl, ?_⟩) ?_ ?_
   rotate_left
   ·intro w'
    go_simp
    with_reducible rfl
   rotate_left
   ·simp only [Act.put, List.setIfInBounds_toArray, List.set_cons_zero, List.set_cons_succ, i64_w, i32_w]
    rfl
   refine take_ (i := 8) (N := some 79) (v := ?_) (a' := ?_) #[true, true, true, true, true, true, true, true, true, false, false, false, false, false, false, false] rfl rfl (by kernel_rfl) (fun _ _ _ h => h) (Or.inl ⟨by rfl, ?_⟩) hHeld ?_ ?_
   rotate_left
   ·intro w' hs
    have hcv := (hs.1.out.cell (World.block_lt_of_cell? w _ HKID0.out)).trans HKID0.out
    clear hs; go_simp
    with_reducible rfl
   rotate_left
   ·simp only [Act.put, List.setIfInBounds_toArray, List.set_cons_zero, List.set_cons_succ, i64_w, i32_w]
    rfl
   refine pure_ (i := 9) (N := some 80) (v := ?_) (a' := ?_) #[true, true, true, true, true, true, true, true, true, true, false, false, false, false, false, false] rfl rfl (by kernel_rfl) (fun _ _ _ h => h) (Or.inl ⟨by rfl, ?_⟩) ?_ ?_
   rotate_left
   ·intro w'
    go_simp
    with_reducible rfl
   rotate_left
   ·simp only [Act.put, List.setIfInBounds_toArray, List.set_cons_zero, List.set_cons_succ, i64_w, i32_w]
    rfl
   refine pure_ (i := 10) (N := some 81) (v := ?_) (a' := ?_) #[true, true, true, true, true, true, true, true, true, true, true, false, false, false, false, false] rfl rfl (by kernel_rfl) (fun _ _ _ h => h) (Or.inl ⟨by rfl, ?_⟩) ?_ ?_
   rotate_left
   ·intro w'
    go_simp
    with_reducible rfl
   rotate_left
   ·simp only [Act.put, List.setIfInBounds_toArray, List.set_cons_zero, List.set_cons_succ, i64_w, i32_w]
    rfl
   refine take_ (i := 11) (N := some 82) (v := ?_) (a' := ?_) #[true, true, true, true, true, true, true, true, true, true, true, true, false, false, false, false] rfl rfl (by kernel_rfl) (fun _ _ _ h => h) (Or.inl ⟨by rfl, ?_⟩) hHeld ?_ ?_
   rotate_left
   ·intro w' hs
    have hcv := (hs.1.out.cell (World.block_lt_of_cell? w _ HKID1.out)).trans HKID1.out
    clear hs; go_simp
    with_reducible rfl
   rotate_left
   ·simp only [Act.put, List.setIfInBounds_toArray, List.set_cons_zero, List.set_cons_succ, i64_w, i32_w]
    rfl
   refine pure_ (i := 13) (N := some 84) (v := ?_) (a' := ?_) #[true, true, true, true, true, true, true, true, true, true, true, true, false, true, false, false] rfl rfl (by kernel_rfl) (fun _ _ _ h => h) (Or.inl ⟨by rfl, ?_⟩) ?_ ?_
   rotate_left
   ·intro w'
    go_simp
    with_reducible rfl
   rotate_left
   ·simp only [Act.put, List.setIfInBounds_toArray, List.set_cons_zero, List.set_cons_succ, i64_w, i32_w]
    rfl
   refine one_ (i := 12) (N := some 83) #[true, true, true, true, true, true, true, true, true, true, true, true, true, true, false, false] rfl rfl (by kernel_rfl) (by decide) (fun K hK => ?_)
   refine goes_ Try.func46 (by kernel_rfl) rfl #[.int .i64 p.f6, .slice A12 p.f7.length c12, .slice A13 p.f8.length c13, .int .i64 (rd ks 0), .int .i64 (rd ks 1)] (by rfl) rfl rfl (by (try simp only [List.map_toArray, List.map_cons, List.map_nil]); first | done | rfl) ?_
   refine (HRG.out _ hHeld.1.out).mono ?_
   rintro e wC1 ⟨rfl, hbC⟩
   refine ⟨_, rfl, ?_⟩
   have hS1 : Aside0 (Below w.heap.size w wC1) ∧ Aside0 (wC1.heap[w.heap.size]? = some (.cells cs.toArray 31 (0, 0))) := ⟨⟨below_step hHeld.1.out hbC⟩, ⟨blk_keep hbC hHeld.2.out⟩⟩
   clear hbC hHeld; refine hK.out _ _ hS1 (fun hHeld => ?_)
   clear hK K hS1; refine norm_ (a' := ?u5_na12) ?u5_nh12 ?u5_nc12
   case u5_nh12 => show Act.put _ (some 83) _ = _; simp only [Act.put, List.setIfInBounds_toArray, List.set_cons_zero, List.set_cons_succ, i64_w, i32_w]; rfl
   case u5_nc12 =>
   refine one_ (i := 14) (N := some 85) #[true, true, true, true, true, true, true, true, true, true, true, true, true, true, true, false] rfl rfl (by kernel_rfl) (by decide) (fun K hK => ?_)
   refine goes_ Try.func42 (by kernel_rfl) rfl #[.bool b, .int .i64 (rd ks 0)] (by rfl) rfl rfl (by (try simp only [List.map_toArray, List.map_cons, List.map_nil]); first | done | rfl) ?_
   refine (HWH.out _).mono ?_
   rintro e wC2 ⟨rfl, hdC⟩
   refine ⟨_, rfl, ?_⟩
   have hbC := hdC.below; clear hdC; have hS2 : Aside0 (Below w.heap.size w wC2) ∧ Aside0 (wC2.heap[w.heap.size]? = some (.cells cs.toArray 31 (0, 0))) := ⟨⟨below_step hHeld.1.out hbC⟩, ⟨blk_keep hbC hHeld.2.out⟩⟩
   clear hbC hHeld; refine hK.out _ _ hS2 (fun hHeld => ?_)
   clear hK K hS2; refine norm_ (a' := ?u5_na14) ?u5_nh14 ?u5_nc14
   case u5_nh14 => show Act.put _ (some 85) _ = _; simp only [Act.put, List.setIfInBounds_toArray, List.set_cons_zero, List.set_cons_succ, i64_w, i32_w]; rfl
   case u5_nc14 =>
   refine pure_ (i := 15) (N := some 6) (v := ?_) (a' := ?_) #[true, true, true, true, true, true, true, true, true, true, true, true, true, true, true, true] rfl rfl (by kernel_rfl) (fun _ _ _ h => h) (Or.inl ⟨by rfl, ?_⟩) ?_ ?_
   rotate_left
   ·intro w'
    go_simp
    with_reducible rfl
   rotate_left
   ·simp only [Act.put, List.setIfInBounds_toArray, List.set_cons_zero, List.set_cons_succ, i64_w, i32_w]
    rfl
   refine done_ (by kernel_rfl) ?_
   have HBE := hHeld.1; have BXE := hHeld.2; clear hHeld; try go_wp2
   go_ret
   exact ⟨rfl, HBE.out⟩
 rw [if_neg q5] at h; have q5b : (p.f0 == 5) = false := beq_eq_false_iff_ne.mpr q5; by_cases q6 : p.f0 = 6
 ·rw [if_pos q6] at h; have q6b : (p.f0 == 6) = true := beq_iff_eq.mpr q6; by_cases hlen : 0 < ks.length
  case neg => rw [if_neg hlen] at h; cases h
  rw [if_pos hlen] at h; obtain ⟨adk, ek, hkid0⟩ := Kd.at_int HKS.out 0 (by omega) (by omega)
  subst ek; rw [show ((0 : Int)).toNat = 0 from rfl, Addr.add_zero'] at hkid0
  have HKID0 := Aside0.mk hkid0; clear hkid0; have kl0 : 0 < ks.length := hlen; by_cases q0 : 0 < p.f9.length
  ·rw [if_pos q0] at h; have q0b : decide (0 < p.f9.length) = true := decide_eq_true q0; have q0c : decide ((0 : Int) < (p.f9.length : Int)) = true := decide_eq_true (by omega)
   obtain ⟨b, hb, h⟩ := Option.bind_eq_some_iff.1 h
   have HRG := Aside0.mk (fun W (hb2 : Below w.heap.size w W) => order_Right.calls A14 c14 p.f9 (rd ks 0) b W (Kd.C_below G14.out hb2) L14.out hb)
   clear hb; have HWH := Aside0.mk (fun W => plan_when.calls b (rd ks 0) r W h)
   clear h q6; go_enter Try.func35, Try.ntmps35
   go_wp2_with (first
    | ((with_reducible refine gate_dst (N := 3) rfl ?_); refine box_all rfl rfl (cs := cs.toArray) rfl (fun W => by rw [List.size_toArray, HL18.out]; exact HSZ.out W) ?_; intro w1 hbx hbw; have BW1 := Aside0.mk hbw; have BX1 := Aside0.mk hbx; have hcv0 : w1.cell? ⟨w.heap.size, 0, none⟩ = some (.int .i64 p.f0) := blk_cells hbx 0 _ H0.out; clear hbx hbw))
   clear hcv0; have HBd := below_drew1 BW1.out; have BXd := blk_drew BX1.out; clear BW1 BX1; refine start_ (n := 17) (S := fun w' => Aside0 (Below w.heap.size w w') ∧ Aside0 (w'.heap[w.heap.size]? = some (.cells cs.toArray 31 (0, 0)))) (ds := []) #[false, false, false, false, false, false, false, false, false, false, false, false, false, false, false, false, false] (by kernel_rfl) rfl rfl ⟨⟨HBd⟩, ⟨BXd⟩⟩ (fun hHeld => ?_)
   clear HBd BXd; generalize w1.drew = wR at hHeld ⊢
   refine pure_ (i := 0) (N := some 88) (v := ?_) (a' := ?_) #[true, false, false, false, false, false, false, false, false, false, false, false, false, false, false, false, false] rfl rfl (by kernel_rfl) (fun _ _ _ h => h) (Or.inl ⟨by rfl, ?_⟩) ?_ ?_
   rotate_left
   ·intro w'
    go_simp
    with_reducible rfl
   rotate_left
   ·simp only [Act.put, List.setIfInBounds_toArray, List.set_cons_zero, List.set_cons_succ, i64_w, i32_w]
    rfl
   refine take_ (i := 1) (N := some 89) (v := ?_) (a' := ?_) #[true, true, false, false, false, false, false, false, false, false, false, false, false, false, false, false, false] rfl rfl (by kernel_rfl) (fun _ _ _ h => h) (Or.inl ⟨by rfl, ?_⟩) hHeld ?_ ?_
   rotate_left
   ·intro w' hs
    have hcv : w'.cell? ⟨w.heap.size, 14, none⟩ = some (.slice A14 p.f9.length c14) := blk_cells hs.2.out 14 _ H14.out; clear hs; go_simp
    with_reducible rfl
   rotate_left
   ·simp only [Act.put, List.setIfInBounds_toArray, List.set_cons_zero, List.set_cons_succ, i64_w, i32_w]
    rfl
   refine pure_ (i := 2) (N := some 90) (v := ?_) (a' := ?_) #[true, true, true, false, false, false, false, false, false, false, false, false, false, false, false, false, false] rfl rfl (by kernel_rfl) (fun _ _ _ h => h) (Or.inl ⟨by rfl, ?_⟩) ?_ ?_
   rotate_left
   ·intro w'
    go_simp
    with_reducible rfl
   rotate_left
   ·simp only [Act.put, List.setIfInBounds_toArray, List.set_cons_zero, List.set_cons_succ, i64_w, i32_w]
    rfl
   refine pure_ (i := 3) (N := some 91) (v := ?_) (a' := ?_) #[true, true, true, true, false, false, false, false, false, false, false, false, false, false, false, false, false] rfl rfl (by kernel_rfl) (fun _ _ _ h => h) (Or.inl ⟨by rfl, ?_⟩) ?_ ?_
   rotate_left
   ·intro w'
    go_simp
    with_reducible rfl
   rotate_left
   ·simp only [Act.put, List.setIfInBounds_toArray, List.set_cons_zero, List.set_cons_succ, i64_w, i32_w]
    rfl
   refine pure_ (i := 4) (N := some 92) (v := ?_) (a' := ?_) #[true, true, true, true, true, false, false, false, false, false, false, false, false, false, false, false, false] rfl rfl (by kernel_rfl) (fun _ _ _ h => h) (Or.inl ⟨by rfl, ?_⟩) ?_ ?_
   rotate_left
   ·intro w'
    go_simp
    with_reducible rfl
   rotate_left
   ·simp only [Act.put, List.setIfInBounds_toArray, List.set_cons_zero, List.set_cons_succ, i64_w, i32_w]
    rfl
   refine pure_ (i := 5) (N := some 93) (v := ?_) (a' := ?_) #[true, true, true, true, true, true, false, false, false, false, false, false, false, false, false, false, false] rfl rfl (by kernel_rfl) (fun _ _ _ h => h) (Or.inl ⟨by rfl, ?_⟩) ?_ ?_
   rotate_left
   ·intro w'
    go_simp
    with_reducible rfl
   rotate_left
   ·simp only [Act.put, List.setIfInBounds_toArray, List.set_cons_zero, List.set_cons_succ, i64_w, i32_w]
    rfl
   refine take_ (i := 6) (N := some 94) (v := ?_) (a' := ?_) #[true, true, true, true, true, true, true, false, false, false, false, false, false, false, false, false, false] rfl rfl (by kernel_rfl) (fun _ _ _ h => h) (Or.inl ⟨by rfl, ?_⟩) hHeld ?_ ?_
   rotate_left
   ·intro w' hs
    have hcv : w'.cell? ⟨w.heap.size, 14, none⟩ = some (.slice A14 p.f9.length c14) := blk_cells hs.2.out 14 _ H14.out; clear hs; go_simp
    with_reducible rfl
   rotate_left
   ·simp only [Act.put, List.setIfInBounds_toArray, List.set_cons_zero, List.set_cons_succ, i64_w, i32_w]
    rfl
   refine pure_ (i := 7) (N := some 95) (v := ?_) (a' := ?_) #[true, true, true, true, true, true, true, true, false, false, false, false, false, false, false, false, false] rfl rfl (by kernel_rfl) (fun _ _ _ h => h) (Or.inl ⟨by rfl, ?_⟩) ?_ ?_
   rotate_left
   ·intro w'
    go_simp
    with_reducible rfl
   rotate_left
   ·simp only [Act.put, List.setIfInBounds_toArray, List.set_cons_zero, List.set_cons_succ, i64_w, i32_w]
    rfl
   refine pure_ (i := 8) (N := some 96) (v := ?_) (a' := ?_) #[true, true, true, true, true, true, true, true, true, false, false, false, false, false, false, false, false] rfl rfl (by kernel_rfl) (fun _ _ _ h => h) (Or.inl ⟨by rfl, ?_⟩) ?_ ?_
   rotate_left
   ·intro w'
    go_simp
    with_reducible rfl
   rotate_left
   ·simp only [Act.put, List.setIfInBounds_toArray, List.set_cons_zero, List.set_cons_succ, i64_w, i32_w]
    rfl
   refine take_ (i := 9) (N := some 97) (v := ?_) (a' := ?_) #[true, true, true, true, true, true, true, true, true, true, false, false, false, false, false, false, false] rfl rfl (by kernel_rfl) (fun _ _ _ h => h) (Or.inl ⟨by rfl, ?_⟩) hHeld ?_ ?_
   rotate_left
   ·intro w' hs
    have hcv := (hs.1.out.cell (World.block_lt_of_cell? w _ HKID0.out)).trans HKID0.out
    clear hs; go_simp
    with_reducible rfl
   rotate_left
   ·simp only [Act.put, List.setIfInBounds_toArray, List.set_cons_zero, List.set_cons_succ, i64_w, i32_w]
    rfl
   refine pure_ (i := 12) (N := some 100) (v := ?_) (a' := ?_) #[true, true, true, true, true, true, true, true, true, true, false, false, true, false, false, false, false] rfl rfl (by kernel_rfl) (fun _ _ _ h => h) (Or.inl ⟨by rfl, ?_⟩) ?_ ?_
   rotate_left
   ·intro w'
    go_simp
    with_reducible rfl
   rotate_left
   ·simp only [Act.put, List.setIfInBounds_toArray, List.set_cons_zero, List.set_cons_succ, i64_w, i32_w]
    rfl
   refine pure_ (i := 13) (N := some 101) (v := ?_) (a' := ?_) #[true, true, true, true, true, true, true, true, true, true, false, false, true, true, false, false, false] rfl rfl (by kernel_rfl) (fun _ _ _ h => h) (Or.inl ⟨by rfl, ?_⟩) ?_ ?_
   rotate_left
   ·intro w'
    go_simp
    with_reducible rfl
   rotate_left
   ·simp only [Act.put, List.setIfInBounds_toArray, List.set_cons_zero, List.set_cons_succ, i64_w, i32_w]
    rfl
   refine take_ (i := 14) (N := some 102) (v := ?_) (a' := ?_) #[true, true, true, true, true, true, true, true, true, true, false, false, true, true, true, false, false] rfl rfl (by kernel_rfl) (fun _ _ _ h => h) (Or.inl ⟨by rfl, ?_⟩) hHeld ?_ ?_
   rotate_left
   ·intro w' hs
    have hcv := (hs.1.out.cell (World.block_lt_of_cell? w _ HKID0.out)).trans HKID0.out
    clear hs; go_simp
    with_reducible rfl
   rotate_left
   ·simp only [Act.put, List.setIfInBounds_toArray, List.set_cons_zero, List.set_cons_succ, i64_w, i32_w]
    rfl
   refine one_ (i := 10) (N := some 98) #[true, true, true, true, true, true, true, true, true, true, true, false, true, true, true, false, false] rfl rfl (by kernel_rfl) (by decide) (fun K hK => ?_)
   refine goes_ Try.func47 (by kernel_rfl) rfl #[.slice A14 p.f9.length c14, .int .i64 (rd ks 0)] (by rfl) rfl rfl (by (try simp only [List.map_toArray, List.map_cons, List.map_nil]); first | done | rfl) ?_
   refine (HRG.out _ hHeld.1.out).mono ?_
   rintro e wC1 ⟨rfl, hbC⟩
   refine ⟨_, rfl, ?_⟩
   have hS1 : Aside0 (Below w.heap.size w wC1) ∧ Aside0 (wC1.heap[w.heap.size]? = some (.cells cs.toArray 31 (0, 0))) := ⟨⟨below_step hHeld.1.out hbC⟩, ⟨blk_keep hbC hHeld.2.out⟩⟩
   clear hbC hHeld; refine hK.out _ _ hS1 (fun hHeld => ?_)
   clear hK K hS1; refine norm_ (a' := ?u6_na10) ?u6_nh10 ?u6_nc10
   case u6_nh10 => show Act.put _ (some 98) _ = _; simp only [Act.put, List.setIfInBounds_toArray, List.set_cons_zero, List.set_cons_succ, i64_w, i32_w]; rfl
   case u6_nc10 =>
   refine pure_ (i := 11) (N := some 99) (v := ?_) (a' := ?_) #[true, true, true, true, true, true, true, true, true, true, true, true, true, true, true, false, false] rfl rfl (by kernel_rfl) (fun _ _ _ h => h) (Or.inl ⟨by rfl, ?_⟩) ?_ ?_
   rotate_left
   ·intro w'
    go_simp
    with_reducible rfl
   rotate_left
   ·simp only [Act.put, List.setIfInBounds_toArray, List.set_cons_zero, List.set_cons_succ, i64_w, i32_w]
    rfl
   refine one_ (i := 15) (N := some 103) #[true, true, true, true, true, true, true, true, true, true, true, true, true, true, true, true, false] rfl rfl (by kernel_rfl) (by decide) (fun K hK => ?_)
   refine goes_ Try.func42 (by kernel_rfl) rfl #[.bool b, .int .i64 (rd ks 0)] (by rfl) rfl rfl (by (try simp only [List.map_toArray, List.map_cons, List.map_nil]); first | done | rfl) ?_
   refine (HWH.out _).mono ?_
   rintro e wC2 ⟨rfl, hdC⟩
   refine ⟨_, rfl, ?_⟩
   have hbC := hdC.below; clear hdC; have hS2 : Aside0 (Below w.heap.size w wC2) ∧ Aside0 (wC2.heap[w.heap.size]? = some (.cells cs.toArray 31 (0, 0))) := ⟨⟨below_step hHeld.1.out hbC⟩, ⟨blk_keep hbC hHeld.2.out⟩⟩
   clear hbC hHeld; refine hK.out _ _ hS2 (fun hHeld => ?_)
   clear hK K hS2; refine norm_ (a' := ?u6_na15) ?u6_nh15 ?u6_nc15
   case u6_nh15 => show Act.put _ (some 103) _ = _; simp only [Act.put, List.setIfInBounds_toArray, List.set_cons_zero, List.set_cons_succ, i64_w, i32_w]; rfl
   case u6_nc15 =>
   refine pure_ (i := 16) (N := some 6) (v := ?_) (a' := ?_) #[true, true, true, true, true, true, true, true, true, true, true, true, true, true, true, true, true] rfl rfl (by kernel_rfl) (fun _ _ _ h => h) (Or.inl ⟨by rfl, ?_⟩) ?_ ?_
   rotate_left
   ·intro w'
    go_simp
    with_reducible rfl
   rotate_left
   ·simp only [Act.put, List.setIfInBounds_toArray, List.set_cons_zero, List.set_cons_succ, i64_w, i32_w]
    rfl
   refine done_ (by kernel_rfl) ?_
   have HBE := hHeld.1; have BXE := hHeld.2; clear hHeld; try go_wp2
   go_ret
   exact ⟨rfl, HBE.out⟩
  ·rw [if_neg q0] at h; have q0b : decide (0 < p.f9.length) = false := decide_eq_false q0; have q0c : decide ((0 : Int) < (p.f9.length : Int)) = false := decide_eq_false (by omega)
   have HWH := Aside0.mk (fun W => plan_when.calls false (rd ks 0) r W h)
   clear h q6; go_enter Try.func35, Try.ntmps35
   go_wp2_with (first
    | ((with_reducible refine gate_dst (N := 3) rfl ?_); refine box_all rfl rfl (cs := cs.toArray) rfl (fun W => by rw [List.size_toArray, HL18.out]; exact HSZ.out W) ?_; intro w1 hbx hbw; have BW1 := Aside0.mk hbw; have BX1 := Aside0.mk hbx; have hcv0 : w1.cell? ⟨w.heap.size, 0, none⟩ = some (.int .i64 p.f0) := blk_cells hbx 0 _ H0.out; clear hbx hbw))
   clear hcv0; have HBd := below_drew1 BW1.out; have BXd := blk_drew BX1.out; clear BW1 BX1; refine start_ (n := 17) (S := fun w' => Aside0 (Below w.heap.size w w') ∧ Aside0 (w'.heap[w.heap.size]? = some (.cells cs.toArray 31 (0, 0)))) (ds := []) #[false, false, false, false, false, false, false, false, false, false, false, false, false, false, false, false, false] (by kernel_rfl) rfl rfl ⟨⟨HBd⟩, ⟨BXd⟩⟩ (fun hHeld => ?_)
   clear HBd BXd; generalize w1.drew = wR at hHeld ⊢
   refine pure_ (i := 0) (N := some 88) (v := ?_) (a' := ?_) #[true, false, false, false, false, false, false, false, false, false, false, false, false, false, false, false, false] rfl rfl (by kernel_rfl) (fun _ _ _ h => h) (Or.inl ⟨by rfl, ?_⟩) ?_ ?_
   rotate_left
   ·intro w'
    go_simp
    with_reducible rfl
   rotate_left
   ·simp only [Act.put, List.setIfInBounds_toArray, List.set_cons_zero, List.set_cons_succ, i64_w, i32_w]
    rfl
   refine take_ (i := 1) (N := some 89) (v := ?_) (a' := ?_) #[true, true, false, false, false, false, false, false, false, false, false, false, false, false, false, false, false] rfl rfl (by kernel_rfl) (fun _ _ _ h => h) (Or.inl ⟨by rfl, ?_⟩) hHeld ?_ ?_
   rotate_left
   ·intro w' hs
    have hcv : w'.cell? ⟨w.heap.size, 14, none⟩ = some (.slice A14 p.f9.length c14) := blk_cells hs.2.out 14 _ H14.out; clear hs; go_simp
    with_reducible rfl
   rotate_left
   ·simp only [Act.put, List.setIfInBounds_toArray, List.set_cons_zero, List.set_cons_succ, i64_w, i32_w]
    rfl
   refine pure_ (i := 2) (N := some 90) (v := ?_) (a' := ?_) #[true, true, true, false, false, false, false, false, false, false, false, false, false, false, false, false, false] rfl rfl (by kernel_rfl) (fun _ _ _ h => h) (Or.inl ⟨by rfl, ?_⟩) ?_ ?_
   rotate_left
   ·intro w'
    go_simp
    with_reducible rfl
   rotate_left
   ·simp only [Act.put, List.setIfInBounds_toArray, List.set_cons_zero, List.set_cons_succ, i64_w, i32_w]
    rfl
   refine pure_ (i := 3) (N := some 91) (v := ?_) (a' := ?_) #[true, true, true, true, false, false, false, false, false, false, false, false, false, false, false, false, false] rfl rfl (by kernel_rfl) (fun _ _ _ h => h) (Or.inl ⟨by rfl, ?_⟩) ?_ ?_
   rotate_left
   ·intro w'
    go_simp
    with_reducible rfl
   rotate_left
   ·simp only [Act.put, List.setIfInBounds_toArray, List.set_cons_zero, List.set_cons_succ, i64_w, i32_w]
    rfl
   refine pure_ (i := 4) (N := some 92) (v := ?_) (a' := ?_) #[true, true, true, true, true, false, false, false, false, false, false, false, false, false, false, false, false] rfl rfl (by kernel_rfl) (fun _ _ _ h => h) (Or.inl ⟨by rfl, ?_⟩) ?_ ?_
   rotate_left
   ·intro w'
    go_simp
    with_reducible rfl
   rotate_left
   ·simp only [Act.put, List.setIfInBounds_toArray, List.set_cons_zero, List.set_cons_succ, i64_w, i32_w]
    rfl
   refine pure_ (i := 5) (N := some 93) (v := undef) (a' := ?u7_a5) #[true, true, true, true, true, true, false, false, false, false, false, false, false, false, false, false, false] rfl rfl (by kernel_rfl) (fun _ _ _ h => h) (Or.inr ⟨by rfl, rfl⟩) ?u7_h5 ?u7_c5
   case u7_h5 => simp only [Act.put, List.setIfInBounds_toArray, List.set_cons_zero, List.set_cons_succ, i64_w, i32_w]; rfl
   case u7_c5 =>
   refine pure_ (i := 6) (N := some 94) (v := undef) (a' := ?u7_a6) #[true, true, true, true, true, true, true, false, false, false, false, false, false, false, false, false, false] rfl rfl (by kernel_rfl) (fun _ _ _ h => h) (Or.inr ⟨by rfl, rfl⟩) ?u7_h6 ?u7_c6
   case u7_h6 => simp only [Act.put, List.setIfInBounds_toArray, List.set_cons_zero, List.set_cons_succ, i64_w, i32_w]; rfl
   case u7_c6 =>
   refine pure_ (i := 7) (N := some 95) (v := undef) (a' := ?u7_a7) #[true, true, true, true, true, true, true, true, false, false, false, false, false, false, false, false, false] rfl rfl (by kernel_rfl) (fun _ _ _ h => h) (Or.inr ⟨by rfl, rfl⟩) ?u7_h7 ?u7_c7
   case u7_h7 => simp only [Act.put, List.setIfInBounds_toArray, List.set_cons_zero, List.set_cons_succ, i64_w, i32_w]; rfl
   case u7_c7 =>
   refine pure_ (i := 8) (N := some 96) (v := undef) (a' := ?u7_a8) #[true, true, true, true, true, true, true, true, true, false, false, false, false, false, false, false, false] rfl rfl (by kernel_rfl) (fun _ _ _ h => h) (Or.inr ⟨by rfl, rfl⟩) ?u7_h8 ?u7_c8
   case u7_h8 => simp only [Act.put, List.setIfInBounds_toArray, List.set_cons_zero, List.set_cons_succ, i64_w, i32_w]; rfl
   case u7_c8 =>
   refine pure_ (i := 9) (N := some 97) (v := undef) (a' := ?u7_a9) #[true, true, true, true, true, true, true, true, true, true, false, false, false, false, false, false, false] rfl rfl (by kernel_rfl) (fun _ _ _ h => h) (Or.inr ⟨by rfl, rfl⟩) ?u7_h9 ?u7_c9
   case u7_h9 => simp only [Act.put, List.setIfInBounds_toArray, List.set_cons_zero, List.set_cons_succ, i64_w, i32_w]; rfl
   case u7_c9 =>
   refine pure_ (i := 10) (N := some 98) (v := undef) (a' := ?u7_a10) #[true, true, true, true, true, true, true, true, true, true, true, false, false, false, false, false, false] rfl rfl (by kernel_rfl) (fun _ _ _ h => h) (Or.inr ⟨by rfl, rfl⟩) ?u7_h10 ?u7_c10
   case u7_h10 => simp only [Act.put, List.setIfInBounds_toArray, List.set_cons_zero, List.set_cons_succ, i64_w, i32_w]; rfl
   case u7_c10 =>
   refine pure_ (i := 11) (N := some 99) (v := ?_) (a' := ?_) #[true, true, true, true, true, true, true, true, true, true, true, true, false, false, false, false, false] rfl rfl (by kernel_rfl) (fun _ _ _ h => h) (Or.inl ⟨by rfl, ?_⟩) ?_ ?_
   rotate_left
   ·intro w'
    go_simp
    with_reducible rfl
   rotate_left
   ·simp only [Act.put, List.setIfInBounds_toArray, List.set_cons_zero, List.set_cons_succ, i64_w, i32_w]
    rfl
   refine pure_ (i := 12) (N := some 100) (v := ?_) (a' := ?_) #[true, true, true, true, true, true, true, true, true, true, true, true, true, false, false, false, false] rfl rfl (by kernel_rfl) (fun _ _ _ h => h) (Or.inl ⟨by rfl, ?_⟩) ?_ ?_
   rotate_left
   ·intro w'
    go_simp
    with_reducible rfl
   rotate_left
   ·simp only [Act.put, List.setIfInBounds_toArray, List.set_cons_zero, List.set_cons_succ, i64_w, i32_w]
    rfl
   refine pure_ (i := 13) (N := some 101) (v := ?_) (a' := ?_) #[true, true, true, true, true, true, true, true, true, true, true, true, true, true, false, false, false] rfl rfl (by kernel_rfl) (fun _ _ _ h => h) (Or.inl ⟨by rfl, ?_⟩) ?_ ?_
   rotate_left
   ·intro w'
    go_simp
    with_reducible rfl
   rotate_left
   ·simp only [Act.put, List.setIfInBounds_toArray, List.set_cons_zero, List.set_cons_succ, i64_w, i32_w]
    rfl
   refine take_ (i := 14) (N := some 102) (v := ?_) (a' := ?_) #[true, true, true, true, true, true, true, true, true, true, true, true, true, true, true, false, false] rfl rfl (by kernel_rfl) (fun _ _ _ h => h) (Or.inl ⟨by rfl, ?_⟩) hHeld ?_ ?_
   rotate_left
   ·intro w' hs
    have hcv := (hs.1.out.cell (World.block_lt_of_cell? w _ HKID0.out)).trans HKID0.out
    clear hs; go_simp
    with_reducible rfl
   rotate_left
   ·simp only [Act.put, List.setIfInBounds_toArray, List.set_cons_zero, List.set_cons_succ, i64_w, i32_w]
    rfl
   refine one_ (i := 15) (N := some 103) #[true, true, true, true, true, true, true, true, true, true, true, true, true, true, true, true, false] rfl rfl (by kernel_rfl) (by decide) (fun K hK => ?_)
   refine goes_ Try.func42 (by kernel_rfl) rfl #[.bool false, .int .i64 (rd ks 0)] (by rfl) rfl rfl (by (try simp only [List.map_toArray, List.map_cons, List.map_nil]); first | done | rfl) ?_
   refine (HWH.out _).mono ?_
   rintro e wC1 ⟨rfl, hdC⟩
   refine ⟨_, rfl, ?_⟩
   have hbC := hdC.below; clear hdC; have hS1 : Aside0 (Below w.heap.size w wC1) ∧ Aside0 (wC1.heap[w.heap.size]? = some (.cells cs.toArray 31 (0, 0))) := ⟨⟨below_step hHeld.1.out hbC⟩, ⟨blk_keep hbC hHeld.2.out⟩⟩
   clear hbC hHeld; refine hK.out _ _ hS1 (fun hHeld => ?_)
   clear hK K hS1; refine norm_ (a' := ?u7_na15) ?u7_nh15 ?u7_nc15
   case u7_nh15 => show Act.put _ (some 103) _ = _; simp only [Act.put, List.setIfInBounds_toArray, List.set_cons_zero, List.set_cons_succ, i64_w, i32_w]; rfl
   case u7_nc15 =>
   refine pure_ (i := 16) (N := some 6) (v := ?_) (a' := ?_) #[true, true, true, true, true, true, true, true, true, true, true, true, true, true, true, true, true] rfl rfl (by kernel_rfl) (fun _ _ _ h => h) (Or.inl ⟨by rfl, ?_⟩) ?_ ?_
   rotate_left
   ·intro w'
    go_simp
    with_reducible rfl
   rotate_left
   ·simp only [Act.put, List.setIfInBounds_toArray, List.set_cons_zero, List.set_cons_succ, i64_w, i32_w]
    rfl
   refine done_ (by kernel_rfl) ?_
   have HBE := hHeld.1; have BXE := hHeld.2; clear hHeld; try go_wp2
   go_ret
   exact ⟨rfl, HBE.out⟩
 rw [if_neg q6] at h; have q6b : (p.f0 == 6) = false := beq_eq_false_iff_ne.mpr q6; by_cases hlen : 0 < ks.length
 case neg => rw [if_neg hlen] at h; cases h
 rw [if_pos hlen] at h; obtain ⟨adk, ek, hkid0⟩ := Kd.at_int HKS.out 0 (by omega) (by omega)
 subst ek; rw [show ((0 : Int)).toNat = 0 from rfl, Addr.add_zero'] at hkid0
 have HKID0 := Aside0.mk hkid0; clear hkid0; have kl0 : 0 < ks.length := hlen
 cases qf : decide (0 ≤ p.f10) with
 | false =>
  have HWH := Aside0.mk (fun W => plan_when.calls false (rd ks 0) r W (by simpa [qf] using h))
  clear h; go_enter Try.func35, Try.ntmps35
  go_wp2_with (first
   | ((with_reducible refine gate_dst (N := 3) rfl ?_); refine box_all rfl rfl (cs := cs.toArray) rfl (fun W => by rw [List.size_toArray, HL18.out]; exact HSZ.out W) ?_; intro w1 hbx hbw; have BW1 := Aside0.mk hbw; have BX1 := Aside0.mk hbx; have hcv0 : w1.cell? ⟨w.heap.size, 0, none⟩ = some (.int .i64 p.f0) := blk_cells hbx 0 _ H0.out; clear hbx hbw))
  clear hcv0; have HBd := below_drew1 BW1.out; have BXd := blk_drew BX1.out; clear BW1 BX1; refine start_ (n := 13) (S := fun w' => Aside0 (Below w.heap.size w w') ∧ Aside0 (w'.heap[w.heap.size]? = some (.cells cs.toArray 31 (0, 0)))) (ds := []) #[false, false, false, false, false, false, false, false, false, false, false, false, false] (by kernel_rfl) rfl rfl ⟨⟨HBd⟩, ⟨BXd⟩⟩ (fun hHeld => ?_)
  clear HBd BXd; generalize w1.drew = wR at hHeld ⊢
  refine pure_ (i := 0) (N := some 104) (v := ?_) (a' := ?_) #[true, false, false, false, false, false, false, false, false, false, false, false, false] rfl rfl (by kernel_rfl) (fun _ _ _ h => h) (Or.inl ⟨by rfl, ?_⟩) ?_ ?_
  rotate_left
  ·intro w'
   go_simp
   with_reducible rfl
  rotate_left
  ·simp only [Act.put, List.setIfInBounds_toArray, List.set_cons_zero, List.set_cons_succ, i64_w, i32_w]
   rfl
  refine take_ (i := 1) (N := some 105) (v := ?_) (a' := ?_) #[true, true, false, false, false, false, false, false, false, false, false, false, false] rfl rfl (by kernel_rfl) (fun _ _ _ h => h) (Or.inl ⟨by rfl, ?_⟩) hHeld ?_ ?_
  rotate_left
  ·intro w' hs
   have hcv : w'.cell? ⟨w.heap.size, 15, none⟩ = some (.int .i64 p.f10) := blk_cells hs.2.out 15 _ H15.out; clear hs; go_simp
   with_reducible rfl
  rotate_left
  ·simp only [Act.put, List.setIfInBounds_toArray, List.set_cons_zero, List.set_cons_succ, i64_w, i32_w]
   rfl
  refine pure_ (i := 2) (N := some 106) (v := ?_) (a' := ?_) #[true, true, true, false, false, false, false, false, false, false, false, false, false] rfl rfl (by kernel_rfl) (fun _ _ _ h => h) (Or.inl ⟨by rfl, ?_⟩) ?_ ?_
  rotate_left
  ·intro w'
   go_simp
   with_reducible rfl
  rotate_left
  ·simp only [Act.put, List.setIfInBounds_toArray, List.set_cons_zero, List.set_cons_succ, i64_w, i32_w]
   rfl
  refine pure_ (i := 3) (N := some 107) (v := ?_) (a' := ?_) #[true, true, true, true, false, false, false, false, false, false, false, false, false] rfl rfl (by kernel_rfl) (fun _ _ _ h => h) (Or.inl ⟨by rfl, ?_⟩) ?_ ?_
  rotate_left
  ·intro w'
   go_simp
   with_reducible rfl
  rotate_left
  ·simp only [Act.put, List.setIfInBounds_toArray, List.set_cons_zero, List.set_cons_succ, i64_w, i32_w]
   rfl
  refine pure_ (i := 4) (N := some 108) (v := undef) (a' := ?u8_a4) #[true, true, true, true, true, false, false, false, false, false, false, false, false] rfl rfl (by kernel_rfl) (fun _ _ _ h => h) (Or.inr ⟨by rfl, rfl⟩) ?u8_h4 ?u8_c4
  case u8_h4 => simp only [Act.put, List.setIfInBounds_toArray, List.set_cons_zero, List.set_cons_succ, i64_w, i32_w]; rfl
  case u8_c4 =>
  refine pure_ (i := 5) (N := some 109) (v := undef) (a' := ?u8_a5) #[true, true, true, true, true, true, false, false, false, false, false, false, false] rfl rfl (by kernel_rfl) (fun _ _ _ h => h) (Or.inr ⟨by rfl, rfl⟩) ?u8_h5 ?u8_c5
  case u8_h5 => simp only [Act.put, List.setIfInBounds_toArray, List.set_cons_zero, List.set_cons_succ, i64_w, i32_w]; rfl
  case u8_c5 =>
  refine pure_ (i := 6) (N := some 110) (v := undef) (a' := ?u8_a6) #[true, true, true, true, true, true, true, false, false, false, false, false, false] rfl rfl (by kernel_rfl) (fun _ _ _ h => h) (Or.inr ⟨by rfl, rfl⟩) ?u8_h6 ?u8_c6
  case u8_h6 => simp only [Act.put, List.setIfInBounds_toArray, List.set_cons_zero, List.set_cons_succ, i64_w, i32_w]; rfl
  case u8_c6 =>
  refine pure_ (i := 7) (N := some 111) (v := ?_) (a' := ?_) #[true, true, true, true, true, true, true, true, false, false, false, false, false] rfl rfl (by kernel_rfl) (fun _ _ _ h => h) (Or.inl ⟨by rfl, ?_⟩) ?_ ?_
  rotate_left
  ·intro w'
   go_simp
   with_reducible rfl
  rotate_left
  ·simp only [Act.put, List.setIfInBounds_toArray, List.set_cons_zero, List.set_cons_succ, i64_w, i32_w]
   rfl
  refine pure_ (i := 8) (N := some 112) (v := ?_) (a' := ?_) #[true, true, true, true, true, true, true, true, true, false, false, false, false] rfl rfl (by kernel_rfl) (fun _ _ _ h => h) (Or.inl ⟨by rfl, ?_⟩) ?_ ?_
  rotate_left
  ·intro w'
   go_simp
   with_reducible rfl
  rotate_left
  ·simp only [Act.put, List.setIfInBounds_toArray, List.set_cons_zero, List.set_cons_succ, i64_w, i32_w]
   rfl
  refine pure_ (i := 9) (N := some 113) (v := ?_) (a' := ?_) #[true, true, true, true, true, true, true, true, true, true, false, false, false] rfl rfl (by kernel_rfl) (fun _ _ _ h => h) (Or.inl ⟨by rfl, ?_⟩) ?_ ?_
  rotate_left
  ·intro w'
   go_simp
   with_reducible rfl
  rotate_left
  ·simp only [Act.put, List.setIfInBounds_toArray, List.set_cons_zero, List.set_cons_succ, i64_w, i32_w]
   rfl
  refine take_ (i := 10) (N := some 114) (v := ?_) (a' := ?_) #[true, true, true, true, true, true, true, true, true, true, true, false, false] rfl rfl (by kernel_rfl) (fun _ _ _ h => h) (Or.inl ⟨by rfl, ?_⟩) hHeld ?_ ?_
  rotate_left
  ·intro w' hs
   have hcv := (hs.1.out.cell (World.block_lt_of_cell? w _ HKID0.out)).trans HKID0.out
   clear hs; go_simp
   with_reducible rfl
  rotate_left
  ·simp only [Act.put, List.setIfInBounds_toArray, List.set_cons_zero, List.set_cons_succ, i64_w, i32_w]
   rfl
  refine one_ (i := 11) (N := some 115) #[true, true, true, true, true, true, true, true, true, true, true, true, false] rfl rfl (by kernel_rfl) (by decide) (fun K hK => ?_)
  refine goes_ Try.func42 (by kernel_rfl) rfl #[.bool false, .int .i64 (rd ks 0)] (by rfl) rfl rfl (by (try simp only [List.map_toArray, List.map_cons, List.map_nil]); first | done | rfl) ?_
  refine (HWH.out _).mono ?_
  rintro e wC1 ⟨rfl, hdC⟩
  refine ⟨_, rfl, ?_⟩
  have hbC := hdC.below; clear hdC; have hS1 : Aside0 (Below w.heap.size w wC1) ∧ Aside0 (wC1.heap[w.heap.size]? = some (.cells cs.toArray 31 (0, 0))) := ⟨⟨below_step hHeld.1.out hbC⟩, ⟨blk_keep hbC hHeld.2.out⟩⟩
  clear hbC hHeld; refine hK.out _ _ hS1 (fun hHeld => ?_)
  clear hK K hS1; refine norm_ (a' := ?u8_na11) ?u8_nh11 ?u8_nc11
  case u8_nh11 => show Act.put _ (some 115) _ = _; simp only [Act.put, List.setIfInBounds_toArray, List.set_cons_zero, List.set_cons_succ, i64_w, i32_w]; rfl
  case u8_nc11 =>
  refine pure_ (i := 12) (N := some 6) (v := ?_) (a' := ?_) #[true, true, true, true, true, true, true, true, true, true, true, true, true] rfl rfl (by kernel_rfl) (fun _ _ _ h => h) (Or.inl ⟨by rfl, ?_⟩) ?_ ?_
  rotate_left
  ·intro w'
   go_simp
   with_reducible rfl
  rotate_left
  ·simp only [Act.put, List.setIfInBounds_toArray, List.set_cons_zero, List.set_cons_succ, i64_w, i32_w]
   rfl
  refine done_ (by kernel_rfl) ?_
  have HBE := hHeld.1; have BXE := hHeld.2; clear hHeld; try go_wp2
  go_ret
  exact ⟨rfl, HBE.out⟩
 | true =>
  cases qn : decide (0 ≤ p.f11) with
  | false =>
   have HWH := Aside0.mk (fun W => plan_when.calls false (rd ks 0) r W (by simpa [qf, qn] using h))
   clear h; go_enter Try.func35, Try.ntmps35
   go_wp2_with (first
    | ((with_reducible refine gate_dst (N := 3) rfl ?_); refine box_all rfl rfl (cs := cs.toArray) rfl (fun W => by rw [List.size_toArray, HL18.out]; exact HSZ.out W) ?_; intro w1 hbx hbw; have BW1 := Aside0.mk hbw; have BX1 := Aside0.mk hbx; have hcv0 : w1.cell? ⟨w.heap.size, 0, none⟩ = some (.int .i64 p.f0) := blk_cells hbx 0 _ H0.out; clear hbx hbw))
   clear hcv0; have HBd := below_drew1 BW1.out; have BXd := blk_drew BX1.out; clear BW1 BX1; refine start_ (n := 13) (S := fun w' => Aside0 (Below w.heap.size w w') ∧ Aside0 (w'.heap[w.heap.size]? = some (.cells cs.toArray 31 (0, 0)))) (ds := []) #[false, false, false, false, false, false, false, false, false, false, false, false, false] (by kernel_rfl) rfl rfl ⟨⟨HBd⟩, ⟨BXd⟩⟩ (fun hHeld => ?_)
   clear HBd BXd; generalize w1.drew = wR at hHeld ⊢
   refine pure_ (i := 0) (N := some 104) (v := ?_) (a' := ?_) #[true, false, false, false, false, false, false, false, false, false, false, false, false] rfl rfl (by kernel_rfl) (fun _ _ _ h => h) (Or.inl ⟨by rfl, ?_⟩) ?_ ?_
   rotate_left
   ·intro w'
    go_simp
    with_reducible rfl
   rotate_left
   ·simp only [Act.put, List.setIfInBounds_toArray, List.set_cons_zero, List.set_cons_succ, i64_w, i32_w]
    rfl
   refine take_ (i := 1) (N := some 105) (v := ?_) (a' := ?_) #[true, true, false, false, false, false, false, false, false, false, false, false, false] rfl rfl (by kernel_rfl) (fun _ _ _ h => h) (Or.inl ⟨by rfl, ?_⟩) hHeld ?_ ?_
   rotate_left
   ·intro w' hs
    have hcv : w'.cell? ⟨w.heap.size, 15, none⟩ = some (.int .i64 p.f10) := blk_cells hs.2.out 15 _ H15.out; clear hs; go_simp
    with_reducible rfl
   rotate_left
   ·simp only [Act.put, List.setIfInBounds_toArray, List.set_cons_zero, List.set_cons_succ, i64_w, i32_w]
    rfl
   refine pure_ (i := 2) (N := some 106) (v := ?_) (a' := ?_) #[true, true, true, false, false, false, false, false, false, false, false, false, false] rfl rfl (by kernel_rfl) (fun _ _ _ h => h) (Or.inl ⟨by rfl, ?_⟩) ?_ ?_
   rotate_left
   ·intro w'
    go_simp
    with_reducible rfl
   rotate_left
   ·simp only [Act.put, List.setIfInBounds_toArray, List.set_cons_zero, List.set_cons_succ, i64_w, i32_w]
    rfl
   refine pure_ (i := 3) (N := some 107) (v := ?_) (a' := ?_) #[true, true, true, true, false, false, false, false, false, false, false, false, false] rfl rfl (by kernel_rfl) (fun _ _ _ h => h) (Or.inl ⟨by rfl, ?_⟩) ?_ ?_
   rotate_left
   ·intro w'
    go_simp
    with_reducible rfl
   rotate_left
   ·simp only [Act.put, List.setIfInBounds_toArray, List.set_cons_zero, List.set_cons_succ, i64_w, i32_w]
    rfl
   refine pure_ (i := 4) (N := some 108) (v := ?_) (a' := ?_) #[true, true, true, true, true, false, false, false, false, false, false, false, false] rfl rfl (by kernel_rfl) (fun _ _ _ h => h) (Or.inl ⟨by rfl, ?_⟩) ?_ ?_
   rotate_left
   ·intro w'
    go_simp
    with_reducible rfl
   rotate_left
   ·simp only [Act.put, List.setIfInBounds_toArray, List.set_cons_zero, List.set_cons_succ, i64_w, i32_w]
    rfl
   refine take_ (i := 5) (N := some 109) (v := ?_) (a' := ?_) #[true, true, true, true, true, true, false, false, false, false, false, false, false] rfl rfl (by kernel_rfl) (fun _ _ _ h => h) (Or.inl ⟨by rfl, ?_⟩) hHeld ?_ ?_
   rotate_left
   ·intro w' hs
    have hcv : w'.cell? ⟨w.heap.size, 16, none⟩ = some (.int .i64 p.f11) := blk_cells hs.2.out 16 _ H16.out; clear hs; go_simp
    with_reducible rfl
   rotate_left
   ·simp only [Act.put, List.setIfInBounds_toArray, List.set_cons_zero, List.set_cons_succ, i64_w, i32_w]
    rfl
   refine pure_ (i := 6) (N := some 110) (v := ?_) (a' := ?_) #[true, true, true, true, true, true, true, false, false, false, false, false, false] rfl rfl (by kernel_rfl) (fun _ _ _ h => h) (Or.inl ⟨by rfl, ?_⟩) ?_ ?_
   rotate_left
   ·intro w'
    go_simp
    with_reducible rfl
   rotate_left
   ·simp only [Act.put, List.setIfInBounds_toArray, List.set_cons_zero, List.set_cons_succ, i64_w, i32_w]
    rfl
   refine pure_ (i := 7) (N := some 111) (v := ?_) (a' := ?_) #[true, true, true, true, true, true, true, true, false, false, false, false, false] rfl rfl (by kernel_rfl) (fun _ _ _ h => h) (Or.inl ⟨by rfl, ?_⟩) ?_ ?_
   rotate_left
   ·intro w'
    go_simp
    with_reducible rfl
   rotate_left
   ·simp only [Act.put, List.setIfInBounds_toArray, List.set_cons_zero, List.set_cons_succ, i64_w, i32_w]
    rfl
   refine pure_ (i := 8) (N := some 112) (v := ?_) (a' := ?_) #[true, true, true, true, true, true, true, true, true, false, false, false, false] rfl rfl (by kernel_rfl) (fun _ _ _ h => h) (Or.inl ⟨by rfl, ?_⟩) ?_ ?_
   rotate_left
   ·intro w'
    go_simp
    with_reducible rfl
   rotate_left
   ·simp only [Act.put, List.setIfInBounds_toArray, List.set_cons_zero, List.set_cons_succ, i64_w, i32_w]
    rfl
   refine pure_ (i := 9) (N := some 113) (v := ?_) (a' := ?_) #[true, true, true, true, true, true, true, true, true, true, false, false, false] rfl rfl (by kernel_rfl) (fun _ _ _ h => h) (Or.inl ⟨by rfl, ?_⟩) ?_ ?_
   rotate_left
   ·intro w'
    go_simp
    with_reducible rfl
   rotate_left
   ·simp only [Act.put, List.setIfInBounds_toArray, List.set_cons_zero, List.set_cons_succ, i64_w, i32_w]
    rfl
   refine take_ (i := 10) (N := some 114) (v := ?_) (a' := ?_) #[true, true, true, true, true, true, true, true, true, true, true, false, false] rfl rfl (by kernel_rfl) (fun _ _ _ h => h) (Or.inl ⟨by rfl, ?_⟩) hHeld ?_ ?_
   rotate_left
   ·intro w' hs
    have hcv := (hs.1.out.cell (World.block_lt_of_cell? w _ HKID0.out)).trans HKID0.out
    clear hs; go_simp
    with_reducible rfl
   rotate_left
   ·simp only [Act.put, List.setIfInBounds_toArray, List.set_cons_zero, List.set_cons_succ, i64_w, i32_w]
    rfl
   refine one_ (i := 11) (N := some 115) #[true, true, true, true, true, true, true, true, true, true, true, true, false] rfl rfl (by kernel_rfl) (by decide) (fun K hK => ?_)
   refine goes_ Try.func42 (by kernel_rfl) rfl #[.bool false, .int .i64 (rd ks 0)] (by rfl) rfl rfl (by (try simp only [List.map_toArray, List.map_cons, List.map_nil]); first | done | rfl) ?_
   refine (HWH.out _).mono ?_
   rintro e wC1 ⟨rfl, hdC⟩
   refine ⟨_, rfl, ?_⟩
   have hbC := hdC.below; clear hdC; have hS1 : Aside0 (Below w.heap.size w wC1) ∧ Aside0 (wC1.heap[w.heap.size]? = some (.cells cs.toArray 31 (0, 0))) := ⟨⟨below_step hHeld.1.out hbC⟩, ⟨blk_keep hbC hHeld.2.out⟩⟩
   clear hbC hHeld; refine hK.out _ _ hS1 (fun hHeld => ?_)
   clear hK K hS1; refine norm_ (a' := ?u9_na11) ?u9_nh11 ?u9_nc11
   case u9_nh11 => show Act.put _ (some 115) _ = _; simp only [Act.put, List.setIfInBounds_toArray, List.set_cons_zero, List.set_cons_succ, i64_w, i32_w]; rfl
   case u9_nc11 =>
   refine pure_ (i := 12) (N := some 6) (v := ?_) (a' := ?_) #[true, true, true, true, true, true, true, true, true, true, true, true, true] rfl rfl (by kernel_rfl) (fun _ _ _ h => h) (Or.inl ⟨by rfl, ?_⟩) ?_ ?_
   rotate_left
   ·intro w'
    go_simp
    with_reducible rfl
   rotate_left
   ·simp only [Act.put, List.setIfInBounds_toArray, List.set_cons_zero, List.set_cons_succ, i64_w, i32_w]
    rfl
   refine done_ (by kernel_rfl) ?_
   have HBE := hHeld.1; have BXE := hHeld.2; clear hHeld; try go_wp2
   go_ret
   exact ⟨rfl, HBE.out⟩
  | true =>
   have HWH := Aside0.mk (fun W => plan_when.calls true (rd ks 0) r W (by simpa [qf, qn] using h))
   clear h; go_enter Try.func35, Try.ntmps35
   go_wp2_with (first
    | ((with_reducible refine gate_dst (N := 3) rfl ?_); refine box_all rfl rfl (cs := cs.toArray) rfl (fun W => by rw [List.size_toArray, HL18.out]; exact HSZ.out W) ?_; intro w1 hbx hbw; have BW1 := Aside0.mk hbw; have BX1 := Aside0.mk hbx; have hcv0 : w1.cell? ⟨w.heap.size, 0, none⟩ = some (.int .i64 p.f0) := blk_cells hbx 0 _ H0.out; clear hbx hbw))
   clear hcv0; have HBd := below_drew1 BW1.out; have BXd := blk_drew BX1.out; clear BW1 BX1; refine start_ (n := 13) (S := fun w' => Aside0 (Below w.heap.size w w') ∧ Aside0 (w'.heap[w.heap.size]? = some (.cells cs.toArray 31 (0, 0)))) (ds := []) #[false, false, false, false, false, false, false, false, false, false, false, false, false] (by kernel_rfl) rfl rfl ⟨⟨HBd⟩, ⟨BXd⟩⟩ (fun hHeld => ?_)
   clear HBd BXd; generalize w1.drew = wR at hHeld ⊢
   refine pure_ (i := 0) (N := some 104) (v := ?_) (a' := ?_) #[true, false, false, false, false, false, false, false, false, false, false, false, false] rfl rfl (by kernel_rfl) (fun _ _ _ h => h) (Or.inl ⟨by rfl, ?_⟩) ?_ ?_
   rotate_left
   ·intro w'
    go_simp
    with_reducible rfl
   rotate_left
   ·simp only [Act.put, List.setIfInBounds_toArray, List.set_cons_zero, List.set_cons_succ, i64_w, i32_w]
    rfl
   refine take_ (i := 1) (N := some 105) (v := ?_) (a' := ?_) #[true, true, false, false, false, false, false, false, false, false, false, false, false] rfl rfl (by kernel_rfl) (fun _ _ _ h => h) (Or.inl ⟨by rfl, ?_⟩) hHeld ?_ ?_
   rotate_left
   ·intro w' hs
    have hcv : w'.cell? ⟨w.heap.size, 15, none⟩ = some (.int .i64 p.f10) := blk_cells hs.2.out 15 _ H15.out; clear hs; go_simp
    with_reducible rfl
   rotate_left
   ·simp only [Act.put, List.setIfInBounds_toArray, List.set_cons_zero, List.set_cons_succ, i64_w, i32_w]
    rfl
   refine pure_ (i := 2) (N := some 106) (v := ?_) (a' := ?_) #[true, true, true, false, false, false, false, false, false, false, false, false, false] rfl rfl (by kernel_rfl) (fun _ _ _ h => h) (Or.inl ⟨by rfl, ?_⟩) ?_ ?_
   rotate_left
   ·intro w'
    go_simp
    with_reducible rfl
   rotate_left
   ·simp only [Act.put, List.setIfInBounds_toArray, List.set_cons_zero, List.set_cons_succ, i64_w, i32_w]
    rfl
   refine pure_ (i := 3) (N := some 107) (v := ?_) (a' := ?_) #[true, true, true, true, false, false, false, false, false, false, false, false, false] rfl rfl (by kernel_rfl) (fun _ _ _ h => h) (Or.inl ⟨by rfl, ?_⟩) ?_ ?_
   rotate_left
   ·intro w'
    go_simp
    with_reducible rfl
   rotate_left
   ·simp only [Act.put, List.setIfInBounds_toArray, List.set_cons_zero, List.set_cons_succ, i64_w, i32_w]
    rfl
   refine pure_ (i := 4) (N := some 108) (v := ?_) (a' := ?_) #[true, true, true, true, true, false, false, false, false, false, false, false, false] rfl rfl (by kernel_rfl) (fun _ _ _ h => h) (Or.inl ⟨by rfl, ?_⟩) ?_ ?_
   rotate_left
   ·intro w'
    go_simp
    with_reducible rfl
   rotate_left
   ·simp only [Act.put, List.setIfInBounds_toArray, List.set_cons_zero, List.set_cons_succ, i64_w, i32_w]
    rfl
   refine take_ (i := 5) (N := some 109) (v := ?_) (a' := ?_) #[true, true, true, true, true, true, false, false, false, false, false, false, false] rfl rfl (by kernel_rfl) (fun _ _ _ h => h) (Or.inl ⟨by rfl, ?_⟩) hHeld ?_ ?_
   rotate_left
   ·intro w' hs
    have hcv : w'.cell? ⟨w.heap.size, 16, none⟩ = some (.int .i64 p.f11) := blk_cells hs.2.out 16 _ H16.out; clear hs; go_simp
    with_reducible rfl
   rotate_left
   ·simp only [Act.put, List.setIfInBounds_toArray, List.set_cons_zero, List.set_cons_succ, i64_w, i32_w]
    rfl
   refine pure_ (i := 6) (N := some 110) (v := ?_) (a' := ?_) #[true, true, true, true, true, true, true, false, false, false, false, false, false] rfl rfl (by kernel_rfl) (fun _ _ _ h => h) (Or.inl ⟨by rfl, ?_⟩) ?_ ?_
   rotate_left
   ·intro w'
    go_simp
    with_reducible rfl
   rotate_left
   ·simp only [Act.put, List.setIfInBounds_toArray, List.set_cons_zero, List.set_cons_succ, i64_w, i32_w]
    rfl
   refine pure_ (i := 7) (N := some 111) (v := ?_) (a' := ?_) #[true, true, true, true, true, true, true, true, false, false, false, false, false] rfl rfl (by kernel_rfl) (fun _ _ _ h => h) (Or.inl ⟨by rfl, ?_⟩) ?_ ?_
   rotate_left
   ·intro w'
    go_simp
    with_reducible rfl
   rotate_left
   ·simp only [Act.put, List.setIfInBounds_toArray, List.set_cons_zero, List.set_cons_succ, i64_w, i32_w]
    rfl
   refine pure_ (i := 8) (N := some 112) (v := ?_) (a' := ?_) #[true, true, true, true, true, true, true, true, true, false, false, false, false] rfl rfl (by kernel_rfl) (fun _ _ _ h => h) (Or.inl ⟨by rfl, ?_⟩) ?_ ?_
   rotate_left
   ·intro w'
    go_simp
    with_reducible rfl
   rotate_left
   ·simp only [Act.put, List.setIfInBounds_toArray, List.set_cons_zero, List.set_cons_succ, i64_w, i32_w]
    rfl
   refine pure_ (i := 9) (N := some 113) (v := ?_) (a' := ?_) #[true, true, true, true, true, true, true, true, true, true, false, false, false] rfl rfl (by kernel_rfl) (fun _ _ _ h => h) (Or.inl ⟨by rfl, ?_⟩) ?_ ?_
   rotate_left
   ·intro w'
    go_simp
    with_reducible rfl
   rotate_left
   ·simp only [Act.put, List.setIfInBounds_toArray, List.set_cons_zero, List.set_cons_succ, i64_w, i32_w]
    rfl
   refine take_ (i := 10) (N := some 114) (v := ?_) (a' := ?_) #[true, true, true, true, true, true, true, true, true, true, true, false, false] rfl rfl (by kernel_rfl) (fun _ _ _ h => h) (Or.inl ⟨by rfl, ?_⟩) hHeld ?_ ?_
   rotate_left
   ·intro w' hs
    have hcv := (hs.1.out.cell (World.block_lt_of_cell? w _ HKID0.out)).trans HKID0.out
    clear hs; go_simp
    with_reducible rfl
   rotate_left
   ·simp only [Act.put, List.setIfInBounds_toArray, List.set_cons_zero, List.set_cons_succ, i64_w, i32_w]
    rfl
   refine one_ (i := 11) (N := some 115) #[true, true, true, true, true, true, true, true, true, true, true, true, false] rfl rfl (by kernel_rfl) (by decide) (fun K hK => ?_)
   refine goes_ Try.func42 (by kernel_rfl) rfl #[.bool true, .int .i64 (rd ks 0)] (by rfl) rfl rfl (by (try simp only [List.map_toArray, List.map_cons, List.map_nil]); first | done | rfl) ?_
   refine (HWH.out _).mono ?_
   rintro e wC1 ⟨rfl, hdC⟩
   refine ⟨_, rfl, ?_⟩
   have hbC := hdC.below; clear hdC; have hS1 : Aside0 (Below w.heap.size w wC1) ∧ Aside0 (wC1.heap[w.heap.size]? = some (.cells cs.toArray 31 (0, 0))) := ⟨⟨below_step hHeld.1.out hbC⟩, ⟨blk_keep hbC hHeld.2.out⟩⟩
   clear hbC hHeld; refine hK.out _ _ hS1 (fun hHeld => ?_)
   clear hK K hS1; refine norm_ (a' := ?u10_na11) ?u10_nh11 ?u10_nc11
   case u10_nh11 => show Act.put _ (some 115) _ = _; simp only [Act.put, List.setIfInBounds_toArray, List.set_cons_zero, List.set_cons_succ, i64_w, i32_w]; rfl
   case u10_nc11 =>
   refine pure_ (i := 12) (N := some 6) (v := ?_) (a' := ?_) #[true, true, true, true, true, true, true, true, true, true, true, true, true] rfl rfl (by kernel_rfl) (fun _ _ _ h => h) (Or.inl ⟨by rfl, ?_⟩) ?_ ?_
   rotate_left
   ·intro w'
    go_simp
    with_reducible rfl
   rotate_left
   ·simp only [Act.put, List.setIfInBounds_toArray, List.set_cons_zero, List.set_cons_succ, i64_w, i32_w]
    rfl
   refine done_ (by kernel_rfl) ?_
   have HBE := hHeld.1; have BXE := hHeld.2; clear hHeld; try go_wp2
   go_ret
   exact ⟨rfl, HBE.out⟩
theorem ownP_mono (k : Nat) (p : S31) (ks : List Int) (l1 : List S46) : LeO (ownP k p ks l1) (ownP (k + 1) p ks l1) := by
 unfold ownP
 refine LeO.ite' LeO.same (LeO.ite' (LeO.ite' (LeO.bind' (show LeO (needRP k p.f2 _) (needRP (k + 1) p.f2 _) from need_Right.mono _ _ _ _ _ _ _ k) fun b => LeO.same) LeO.same) (LeO.ite' (LeO.ite' (LeO.bind' (plan_exprs.mono _ _ k) fun b => LeO.same) LeO.same) ?_))
 exact LeO.same
theorem plan_own.calls (k : Nat) (a0_0 : Int) (a0_1 : ByteArray) (a0_2 : Int) (a0_3 : Int) (a0_4 : ByteArray) (a0_5 : Int) (a0_6 : Int) (A0_7 : Option Addr) (c0_7 : Nat) (l0_7 : List (S24)) (A0_8 : Option Addr) (c0_8 : Nat) (l0_8 : List (S50)) (A0_9 : Option Addr) (c0_9 : Nat) (l0_9 : List Int) (A0_10 : Option Addr) (c0_10 : Nat) (l0_10 : List (S72)) (a0_11 : Int) (A0_12 : Option Addr) (c0_12 : Nat) (l0_12 : List Int) (A0_13 : Option Addr) (c0_13 : Nat) (l0_13 : List Int) (A0_14 : Option Addr) (c0_14 : Nat) (l0_14 : List (S52)) (a0_15 : Int) (a0_16 : Int) (A0_17 : Option Addr) (c0_17 : Nat) (l0_17 : List (S31)) (A1 : Option Addr) (c1 : Nat) (l1 : List Int) (A2 : Option Addr) (c2 : Nat) (l2 : List S46) (r : Int) (w : World) (hr0_7 : Kd.C k24 w A0_7 l0_7.length l0_7) (hc0_7 : l0_7.length ≤ c0_7) (hr0_8 : Kd.C k50 w A0_8 l0_8.length l0_8) (hc0_8 : l0_8.length ≤ c0_8) (hr0_9 : Kd.C (Kd.int .i64) w A0_9 l0_9.length l0_9) (hc0_9 : l0_9.length ≤ c0_9) (hr0_10 : Kd.C k72 w A0_10 l0_10.length l0_10) (hc0_10 : l0_10.length ≤ c0_10) (hr0_12 : Kd.C (Kd.int .i64) w A0_12 l0_12.length l0_12) (hc0_12 : l0_12.length ≤ c0_12) (hr0_13 : Kd.C (Kd.int .i64) w A0_13 l0_13.length l0_13) (hc0_13 : l0_13.length ≤ c0_13) (hr0_14 : Kd.C k52 w A0_14 l0_14.length l0_14) (hc0_14 : l0_14.length ≤ c0_14) (hr0_17 : Kd.C k31 w A0_17 l0_17.length l0_17) (hc0_17 : l0_17.length ≤ c0_17) (hr1 : Kd.C (Kd.int .i64) w A1 l1.length l1) (hc1 : l1.length ≤ c1) (hr2 : Kd.C k46 w A2 l2.length l2) (hc2 : l2.length ≤ c2) (h : plan_own.f k a0_0 a0_1 a0_2 a0_3 a0_4 a0_5 a0_6 l0_7 l0_8 l0_9 l0_10 a0_11 l0_12 l0_13 l0_14 a0_15 a0_16 l0_17 l1 l2 = some r) :
  Calls Try.prog 35 #[.agg #[.int .i64 a0_0, .string a0_1, .int .i64 a0_2, .int .i64 a0_3, .string a0_4, .int .i64 a0_5, .int .i64 a0_6, .slice A0_7 l0_7.length c0_7, .slice A0_8 l0_8.length c0_8, .slice A0_9 l0_9.length c0_9, .slice A0_10 l0_10.length c0_10, .int .i64 a0_11, .slice A0_12 l0_12.length c0_12, .slice A0_13 l0_13.length c0_13, .slice A0_14 l0_14.length c0_14, .int .i64 a0_15, .int .i64 a0_16, .slice A0_17 l0_17.length c0_17], .slice A1 l1.length c1, .slice A2 l2.length c2] w fun e w' => e = .returned (.int .i64 r) ∧ Below w.heap.size w w' :=
 plan_own.core k ⟨a0_0, a0_1, ⟨a0_2, a0_3, a0_4, a0_5, a0_6, l0_7⟩, l0_8, l0_9, l0_10, a0_11, l0_12, l0_13, l0_14, a0_15, a0_16, l0_17⟩ _ A1 c1 l1 A2 c2 l2 r w (k31_mk w ⟨a0_0, a0_1, ⟨a0_2, a0_3, a0_4, a0_5, a0_6, l0_7⟩, l0_8, l0_9, l0_10, a0_11, l0_12, l0_13, l0_14, a0_15, a0_16, l0_17⟩ hc0_7 hr0_7 hc0_8 hr0_8 hc0_9 hr0_9 hc0_10 hr0_10 hc0_12 hr0_12 hc0_13 hr0_13 hc0_14 hr0_14 hc0_17 hr0_17) hr1 hc1 hr2 hc2 h

end Go.Proofs.Ytomccmodlkdcbaa.Q
