-- PRINTED by print.py (a twelfth state) out of the translation. Not trusted: Lean checks it.
import Derived.Test.YtdccooaddoafnaaGreatDoorQx0
import Derived.Test.YtdccooaddoafnaaGreatDoorQx15
import Derived.Test.YtdccooaddoafnaaGreatDoorQx16
namespace Go.Proofs.YtdccooaddoafnaaGreatDoor.Q
open Go.RowKit Go.Proofs.YtdccooaddoafnaaGreatDoorW.PrintWords Go.Proofs.YtdccooaddoafnaaGreatDoorW.PrintLast Go.Proofs.YtdccooaddoafnaaGreatDoorW.PrintMore
attribute [local go_sem] str_gtr str_geq str_leq max2_int min2_int max_two min_two max_three min_three max_four min_four
set_option linter.unusedVariables false
set_option maxHeartbeats 8000000
set_option maxRecDepth 100000
set_option linter.unusedSimpArgs false

/-! ### hopperref08_Points: function 61 -/
def hopperref08_Points.l0 : Nat → ByteArray → List Int → Option (List Int)
 | 0, _, _ => none
 | k + 1, x0, x3 => if (x0.size : Int) > 0 then ((hopperref08_Point.f k x0).bind fun bt330 => (if x3.length < 17592186044416 then (if 0 ≤ bt330.2 then (if bt330.2 ≤ (x0.size : Int) then (hopperref08_Points.l0 k (x0.extract (bt330.2 : Int).toNat x0.size) (x3 ++ [bt330.1])) else (none)) else (none)) else (none))) else (some x3)
def hopperref08_Points.f (k : Nat) (a0 : ByteArray) : Option (List Int) := hopperref08_Points.l0 k a0 ([] : List Int)
theorem hopperref08_Points.calls (k : Nat) (a0 : ByteArray) (r : List Int) (w : World) (h : hopperref08_Points.f k a0 = some r) :
  Calls Tryz.prog 61 #[.string a0] w fun e w' => ∃ v0_ : Value, e = .returned (v0_) ∧ Kd.R (Kd.int .i64) 3 w' w.heap.size (fun _ => True) v0_ r ∧ Below w.heap.size w w' := by
 have HB := Aside0.mk (Below.refl w.heap.size w)
 have H : (hopperref08_Points.l0 k a0 ([] : List Int)) = some r := h; clear h; have H' := Aside0.mk H
 clear H; go_enter Tryz.func61, Tryz.ntmps61
 go_wp2
 go_loopg [0, 3] k (fun kq v0 v3 w' => ∃ (x0_1 : ByteArray) (x3_1 : List Int), v0 = .string x0_1 ∧ Aside0 (hopperref08_Points.l0 kq x0_1 x3_1 = some r) ∧ Aside0 (kq ≤ k) ∧ Aside0 (Kd.R (Kd.int .i64) 3 w' w.heap.size (fun _ => True) v3 x3_1) ∧ Aside0 (Below w.heap.size w w'))
 case atStart => exact ⟨(a0), (([] : List Int)), (by first | rfl | (simp; done) | (simp [*]; done)), H', ⟨Nat.le_refl _⟩, ⟨by first | exact Kd.R_nil _ _ _ _ _ | exact Kd.N_nil _ _ _ _ _ | exact Kd.V_nil _ _ _ _ _ | exact Kd.Q_nil _ _ _ _ _ | exact Kd.S_nil _ _ _ _ _⟩, ⟨mvB HB.out⟩⟩
 case round =>
  clear H'; obtain ⟨x0_1, x3_1, rfl, HA, HK1, HO_3, HB⟩ := hrel
  cases gk with
  | zero => exact absurd HA.out (by simp [hopperref08_Points.l0])
  | succ k1 =>
   have H := HA.out; clear HA; simp only [hopperref08_Points.l0] at H
   by_cases c2 : (x0_1.size : Int) > 0
   ·rw [if_pos c2] at H; have c2b0 : decide (0 < (x0_1.size : Int)) = true := decide_eq_true c2; have c2b1 : decide (0 < x0_1.size) = true := decide_eq_true (by omega)
    clear c2; replace H := Option.bind_eq_some_iff.mp H; obtain ⟨⟨t330, t331⟩, A30, H⟩ := H; replace H : (if x3_1.length < 17592186044416 then (if 0 ≤ t331 then (if t331 ≤ (x0_1.size : Int) then (hopperref08_Points.l0 k1 (x0_1.extract (t331 : Int).toNat x0_1.size) (x3_1 ++ [t330])) else (none)) else (none)) else (none)) = some r := H
    have A3 := Aside0.mk A30; clear A30; by_cases c4 : x3_1.length < 17592186044416
    case neg => rw [if_neg c4] at H; exact absurd H (by simp)
    rw [if_pos c4] at H; have LMc4 := Aside0.mk c4; clear c4; obtain ⟨y332, hy332⟩ : ∃ y_ : List Int, y_ = (x3_1 ++ [t330]) := ⟨_, rfl⟩
    replace H : (if 0 ≤ t331 then (if t331 ≤ (x0_1.size : Int) then (hopperref08_Points.l0 k1 (x0_1.extract (t331 : Int).toNat x0_1.size) y332) else (none)) else (none)) = some r := by first | (rw [hy332]; with_reducible exact H) | (have H2_ := (Option.bind_some _ _).symm.trans H; rw [hy332]; with_reducible exact H2_) | (have H2_ := (Option.bind_some _ _).symm.trans H; with_reducible exact H2_) | with_reducible exact H | (rw [hy332]; exact H) | exact H
    have Ny332 := Aside0.mk hy332; clear hy332; by_cases c5 : 0 ≤ t331
    case neg => rw [if_neg c5] at H; exact absurd H (by simp)
    rw [if_pos c5] at H; have c5b0 := eq_true c5; have c5b1 : decide (0 ≤ t331) = true := decide_eq_true c5; clear c5; by_cases c6 : t331 ≤ (x0_1.size : Int)
    case neg => rw [if_neg c6] at H; exact absurd H (by simp)
    rw [if_pos c6] at H; have c6b0 := eq_true c6; have c6b1 : decide (t331 ≤ (x0_1.size : Int)) = true := decide_eq_true c6; clear c6; have H' := Aside0.mk H
    clear H; go_wp2_with (first | ((with_reducible refine gate_callee (f := 74) rfl ?_); refine goesL_ (some 11) rfl rfl Tryz.func74 (by kernel_rfl) rfl #[.string x0_1] rfl (by (try simp only [List.map_toArray, List.map_cons, List.map_nil]); first | done | rfl | (simp only [List.length_drop, List.length_take]; rfl)) ?_; (with_reducible refine (hopperref08_Point.calls k1 x0_1 t330 t331 _ A3.out).mono ?_); rintro e w' ⟨rfl, ⟨nd, rfl⟩⟩; refine ⟨_, rfl, ?_⟩) | ((with_reducible refine gate_builtin (b := .append) (xs := #[.tmp 14, .tmp 16]) rfl ?_); at_builtin; refine Kd.R_append (Kd.int .i64) (w0 := w) w.heap.size rfl (.tmp 14) (.tmp 16) 40 3 (.int .i64 0) 8 rfl Tryz.underlying40 info3 rfl (by decide) (by omega) u3 x3_1 t330 [.int .i64 t330] (fun _ => True) (fun _ => False) rfl rfl ?aP (fun _ hk => hk.elim) ?aF ?aO ?aB ?aS ?aL ?_; (case aP => exact rfl); (case aB => exact (mvB HB.out)); (case aF => exact (fun _ _ => trivial)); (case aO => exact (mvR HO_3.out)); (case aS => exact (below_size (mvB HB.out))); (case aL => have := LMc4.out; omega); intro v333 w7 ho hb hg hat; rw [← Ny332.out] at ho; have n0_ := Aside0.mk (hb); have n1_ := Aside0.mk (ho); clear HB; clear HO_3; have HB := n0_; have HO334 := n1_; clear n0_ n1_; clear ho hb hg hat))
    go_roundg k1
    case measure => have := HK1.out; omega
    case rel => exact ⟨(x0_1.extract (t331 : Int).toNat x0_1.size), (y332), (by first | rfl | (simp; done) | (simp [*]; done)), H', ⟨by have := HK1.out; omega⟩, ⟨by (with_reducible repeat (first | apply Kd.R_alloc | apply Kd.R_drewN | apply Kd.R_drew)); exact HO334.out⟩, ⟨mvB HB.out⟩⟩
   ·rw [if_neg c2] at H; have c2b0 : decide (0 < (x0_1.size : Int)) = false := decide_eq_false c2; have c2b1 : decide (0 < x0_1.size) = false := decide_eq_false (by omega)
    clear c2; obtain rfl := Option.some.inj H
    go_wp2
    go_ret
    exact ⟨_, by first | rfl | (simp [errW_none, errW_some] <;> rfl) | (simp [*, errW_none, errW_some] <;> rfl) | exact congrArg (fun b_ => Ending.returned (.bool b_)) (decide_eq_decide.2 (by unfold wrap64; omega)), by (with_reducible repeat (first | apply Kd.R_alloc | apply Kd.R_drewN | apply Kd.R_drew)); exact HO_3.out, mvB HB.out⟩

/-! ### hopperref08_ByPoints: function 40 -/
mutual
def hopperref08_ByPoints.l0 : Nat → List Int → List Int → Int → Option (Int)
 | 0, _, _, _ => none
 | k + 1, x5, x6, x7 => if x7 < (x5.length : Int) then (hopperref08_ByPoints.j1 k x5 x6 x7 (decide (x7 < (x6.length : Int)))) else (hopperref08_ByPoints.j1 k x5 x6 x7 false)
def hopperref08_ByPoints.j1 : Nat → List Int → List Int → Int → Bool → Option (Int)
 | 0, _, _, _, _ => none
 | k + 1, x5, x6, x7, x21 => if x21 = true then (if 0 ≤ x7 then (if x7 < (x5.length : Int) then (if x7 < (x6.length : Int) then (if (rd x5 x7) < (rd x6 x7) then (some (-1)) else (if (rd x5 x7) > (rd x6 x7) then (some 1) else (hopperref08_ByPoints.l0 k x5 x6 (wrap64 (x7 + 1))))) else (none)) else (none)) else (none)) else (if (x5.length : Int) < (x6.length : Int) then (some (-1)) else (if (x5.length : Int) > (x6.length : Int) then (some 1) else (some 0)))
end
def hopperref08_ByPoints.f (k : Nat) (a0 : ByteArray) (a1 : ByteArray) : Option (Int) := (hopperref08_Points.f k a0).bind fun t335 => ((hopperref08_Points.f k a1).bind fun t338 => (hopperref08_ByPoints.l0 k t335 t338 0))
theorem hopperref08_ByPoints.calls (k : Nat) (a0 : ByteArray) (a1 : ByteArray) (r : Int) (w : World) (h : hopperref08_ByPoints.f k a0 a1 = some r) :
  Calls Tryz.prog 40 #[.string a0, .string a1] w fun e w' => e = .returned (.int .i64 r) ∧ Below w.heap.size w w' := by
 have HB := Aside0.mk (Below.refl w.heap.size w)
 have H : ((hopperref08_Points.f k a0).bind fun t335 => ((hopperref08_Points.f k a1).bind fun t338 => (hopperref08_ByPoints.l0 k t335 t338 0))) = some r := h; clear h; replace H := Option.bind_eq_some_iff.mp H; obtain ⟨t335, A30, H⟩ := H; replace H : ((hopperref08_Points.f k a1).bind fun t338 => (hopperref08_ByPoints.l0 k t335 t338 0)) = some r := H
 have A3 := Aside0.mk A30; clear A30; replace H := Option.bind_eq_some_iff.mp H; obtain ⟨t338, A40, H⟩ := H; replace H : (hopperref08_ByPoints.l0 k t335 t338 0) = some r := H
 have A4 := Aside0.mk A40; clear A40; have H' := Aside0.mk H
 clear H; go_enter Tryz.func40, Tryz.ntmps40
 have tok1_ : True := trivial; have tok2_ : True := trivial; go_wp2_with (first | (go_at_call 61; have _t := tok1_; clear _t tok1_; (with_reducible refine (hopperref08_Points.calls k a0 t335 _ A3.out).mono ?_); rintro e w5 ⟨v336, rfl, ho0, hb⟩; have n0_ := Aside0.mk (Kd.R_lower ho0 (below_size (mvB HB.out))); have n1_ := Aside0.mk (below_step (mvB HB.out) hb); clear HB; have HO337 := n0_; have HB := n1_; clear n0_ n1_; (try clear hb); (try clear hb2); (try clear hk); (try clear hi); (try clear ho0)) | (go_at_call 61; have _t := tok2_; clear _t tok2_; (with_reducible refine (hopperref08_Points.calls k a1 t338 _ A4.out).mono ?_); rintro e w6 ⟨v339, rfl, ho0, hb⟩; have n0_ := Aside0.mk (Kd.R_elder' (mvR HO337.out) (Kd.R_base ho0) hb); have n1_ := Aside0.mk (Kd.R_lower (Kd.R_new' ho0 (Kd.R_lt (mvR HO337.out))) (below_size (mvB HB.out))); have n2_ := Aside0.mk (below_step (mvB HB.out) hb); clear HO337; clear HB; have HO337 := n0_; have HO340 := n1_; have HB := n2_; clear n0_ n1_ n2_; (try clear hb); (try clear hb2); (try clear hk); (try clear hi); (try clear ho0)))
 repeat (go_quiet (first | (go_at_call 61; (with_reducible refine (hopperref08_Points.calls k a0 t335 _ A3.out).mono ?_); rintro e w5 ⟨v336, rfl, ho0, hb⟩; have n0_ := Aside0.mk (Kd.R_lower ho0 (below_size (mvB HB.out))); have n1_ := Aside0.mk (below_step (mvB HB.out) hb); clear HB; have HO337 := n0_; have HB := n1_; clear n0_ n1_; (try clear hb); (try clear hb2); (try clear hk); (try clear hi); (try clear ho0)) | (go_at_call 61; (with_reducible refine (hopperref08_Points.calls k a1 t338 _ A4.out).mono ?_); rintro e w6 ⟨v339, rfl, ho0, hb⟩; have n0_ := Aside0.mk (Kd.R_elder' (mvR HO337.out) (Kd.R_base ho0) hb); have n1_ := Aside0.mk (Kd.R_lower (Kd.R_new' ho0 (Kd.R_lt (mvR HO337.out))) (below_size (mvB HB.out))); have n2_ := Aside0.mk (below_step (mvB HB.out) hb); clear HO337; clear HB; have HO337 := n0_; have HO340 := n1_; have HB := n2_; clear n0_ n1_ n2_; (try clear hb); (try clear hb2); (try clear hk); (try clear hi); (try clear ho0))); try go_wp2_with (first | (go_at_call 61; (with_reducible refine (hopperref08_Points.calls k a0 t335 _ A3.out).mono ?_); rintro e w5 ⟨v336, rfl, ho0, hb⟩; have n0_ := Aside0.mk (Kd.R_lower ho0 (below_size (mvB HB.out))); have n1_ := Aside0.mk (below_step (mvB HB.out) hb); clear HB; have HO337 := n0_; have HB := n1_; clear n0_ n1_; (try clear hb); (try clear hb2); (try clear hk); (try clear hi); (try clear ho0)) | (go_at_call 61; (with_reducible refine (hopperref08_Points.calls k a1 t338 _ A4.out).mono ?_); rintro e w6 ⟨v339, rfl, ho0, hb⟩; have n0_ := Aside0.mk (Kd.R_elder' (mvR HO337.out) (Kd.R_base ho0) hb); have n1_ := Aside0.mk (Kd.R_lower (Kd.R_new' ho0 (Kd.R_lt (mvR HO337.out))) (below_size (mvB HB.out))); have n2_ := Aside0.mk (below_step (mvB HB.out) hb); clear HO337; clear HB; have HO337 := n0_; have HO340 := n1_; have HB := n2_; clear n0_ n1_ n2_; (try clear hb); (try clear hb2); (try clear hk); (try clear hi); (try clear ho0))))
 go_loopg [7] k (fun kq v7 w' => ∃ (x7_1 : Int), v7 = .int .i64 x7_1 ∧ Aside0 (hopperref08_ByPoints.l0 kq t335 t338 x7_1 = some r) ∧ Aside0 (kq ≤ k) ∧ Aside0 (Kd.R (Kd.int .i64) 3 w' w.heap.size (fun k_ => some k_ ≠ (v339 : Value).ownBlock) v336 t335) ∧ Aside0 (Kd.R (Kd.int .i64) 3 w' w.heap.size (fun k_ => some k_ ≠ (v336 : Value).ownBlock) v339 t338) ∧ Aside0 (Below w.heap.size w w'))
 case atStart => exact ⟨(0), (by first | rfl | (simp; done) | (simp [*]; done)), H', ⟨Nat.le_refl _⟩, ⟨by (with_reducible repeat (first | apply Kd.R_alloc | apply Kd.R_drewN | apply Kd.R_drew)); exact Kd.R_mono HO337.out (fun _ hk => hk.2)⟩, ⟨by (with_reducible repeat (first | apply Kd.R_alloc | apply Kd.R_drewN | apply Kd.R_drew)); exact Kd.R_mono HO340.out (fun _ hk => hk.2)⟩, ⟨mvB HB.out⟩⟩
 case round =>
  clear H'; try clear p2
  try clear c4
  obtain ⟨x7_1, rfl, HA, HK1, HO_5, HO_6, HB⟩ := hrel
  cases gk with
  | zero => exact absurd HA.out (by simp [hopperref08_ByPoints.l0])
  | succ k1 =>
   have H := HA.out; clear HA; simp only [hopperref08_ByPoints.l0] at H
   have HC7 := Aside0.mk H; clear H; go_upto_region 4 with (fail)
   repeat (go_quiet (fail); go_upto_region 4 with (fail))
   go_cut [21] (fun v21 wc => ∃ (kq : Nat) (x21_6 : Bool), v21 = .bool x21_6 ∧ Aside0 (hopperref08_ByPoints.j1 kq t335 t338 x7_1 x21_6 = some r) ∧ Aside0 (kq ≤ k1) ∧ Aside0 (Kd.R (Kd.int .i64) 3 wc w.heap.size (fun k_ => some k_ ≠ (v339 : Value).ownBlock) v336 t335) ∧ Aside0 (Kd.R (Kd.int .i64) 3 wc w.heap.size (fun k_ => some k_ ≠ (v336 : Value).ownBlock) v339 t338) ∧ Aside0 (Below w.heap.size w wc))
   case first =>
    have H := HC7.out; clear HC7; by_cases c8 : x7_1 < (t335.length : Int)
    ·rw [if_pos c8] at H; have c8b0 : decide (x7_1 < (t335.length : Int)) = true := decide_eq_true c8; clear c8; (first | rw [c8b0] | (simp only [i64_w, i32_w]; rw [c8b0]) | skip)
     have H' := Aside0.mk H
     clear H; obtain ⟨Ao9, co9, eo9⟩ := Kd.R_slice HO_5.out
     subst eo9; obtain ⟨Ao10, co10, eo10⟩ := Kd.R_slice HO_6.out
     subst eo10; go_wp2
     repeat (go_quiet (fail); try go_wp2)
     go_meet
     case rel => exact ⟨_, (decide (x7_1 < (t338.length : Int))), (by first | rfl | (simp; done) | (simp [*]; done)), H', ⟨by have := HK1.out; first | omega | exact Nat.le_refl _⟩, ⟨by (with_reducible repeat (first | apply Kd.R_alloc | apply Kd.R_drewN | apply Kd.R_drew)); exact HO_5.out⟩, ⟨by (with_reducible repeat (first | apply Kd.R_alloc | apply Kd.R_drewN | apply Kd.R_drew)); exact HO_6.out⟩, ⟨mvB HB.out⟩⟩
    ·rw [if_neg c8] at H; have c8b0 : decide (x7_1 < (t335.length : Int)) = false := decide_eq_false c8; clear c8; (first | rw [c8b0] | (simp only [i64_w, i32_w]; rw [c8b0]) | skip)
     have H' := Aside0.mk H
     clear H; obtain ⟨Ao11, co11, eo11⟩ := Kd.R_slice HO_5.out
     subst eo11; go_wp2
     repeat (go_quiet (fail); try go_wp2)
     go_meet
     case rel => exact ⟨_, (false), (by first | rfl | (simp; done) | (simp [*]; done)), H', ⟨by have := HK1.out; first | omega | exact Nat.le_refl _⟩, ⟨by (with_reducible repeat (first | apply Kd.R_alloc | apply Kd.R_drewN | apply Kd.R_drew)); exact HO_5.out⟩, ⟨by (with_reducible repeat (first | apply Kd.R_alloc | apply Kd.R_drewN | apply Kd.R_drew)); exact HO_6.out⟩, ⟨mvB HB.out⟩⟩
   case rest =>
    clear HC7; (try clear p2); (try clear c4); (try clear c8); (try clear c8b0); (try clear p2); obtain ⟨kq, x21_6, rfl, HA, HJ6, HO_5, HO_6, HB⟩ := hcut
    cases kq with
    | zero => exact absurd HA.out (by simp [hopperref08_ByPoints.j1])
    | succ kj6 =>
     have H := HA.out; clear HA; simp only [hopperref08_ByPoints.j1] at H
     by_cases c12 : x21_6 = true
     ·subst c12; have H1 : (if 0 ≤ x7_1 then (if x7_1 < (t335.length : Int) then (if x7_1 < (t338.length : Int) then (if (rd t335 x7_1) < (rd t338 x7_1) then (some (-1)) else (if (rd t335 x7_1) > (rd t338 x7_1) then (some 1) else (hopperref08_ByPoints.l0 kj6 t335 t338 (wrap64 (x7_1 + 1))))) else (none)) else (none)) else (none)) = some r := by rw [if_pos rfl] at H; exact H
      clear H; have H := H1; clear H1; by_cases c13 : 0 ≤ x7_1
      case neg => rw [if_neg c13] at H; exact absurd H (by simp)
      rw [if_pos c13] at H; have c13b0 : decide (0 ≤ x7_1) = true := decide_eq_true c13; clear c13; by_cases c14 : x7_1 < (t335.length : Int)
      case neg => rw [if_neg c14] at H; exact absurd H (by simp)
      rw [if_pos c14] at H; have c14b0 : decide (x7_1 < (t335.length : Int)) = true := decide_eq_true c14; clear c14; by_cases c15 : x7_1 < (t338.length : Int)
      case neg => rw [if_neg c15] at H; exact absurd H (by simp)
      rw [if_pos c15] at H; have c15b0 : decide (x7_1 < (t338.length : Int)) = true := decide_eq_true c15; clear c15; by_cases c16 : (rd t335 x7_1) < (rd t338 x7_1)
      ·rw [if_pos c16] at H; have c16b0 : decide ((rd t335 x7_1) < (rd t338 x7_1)) = true := decide_eq_true c16; clear c16; obtain rfl := Option.some.inj H
       obtain ⟨Ao17, co17, eo17⟩ := Kd.R_slice HO_5.out
       subst eo17; have p341 : 0 ≤ (x7_1 : Int) := dtA; have q341 : x7_1 < (t335.length : Int) := dtA; obtain ⟨ad341, e341, hx341_0⟩ := Kd.at_int (Kd.R_reads' HO_5.out).2.2 x7_1 p341 q341
       cases e341
       replace p341 := eq_true p341; replace q341 := eq_true q341; obtain ⟨Ao18, co18, eo18⟩ := Kd.R_slice HO_6.out
       subst eo18; have p342 : 0 ≤ (x7_1 : Int) := dtA; have q342 : x7_1 < (t338.length : Int) := dtA; obtain ⟨ad342, e342, hx342_0⟩ := Kd.at_int (Kd.R_reads' HO_6.out).2.2 x7_1 p342 q342
       cases e342
       replace p342 := eq_true p342; replace q342 := eq_true q342; go_wp2
       repeat (go_quiet (fail); try go_wp2)
       go_ret
       exact exB (mvB HB.out)
      ·rw [if_neg c16] at H; have c16b0 : decide ((rd t335 x7_1) < (rd t338 x7_1)) = false := decide_eq_false c16; clear c16; by_cases c19 : (rd t335 x7_1) > (rd t338 x7_1)
       ·rw [if_pos c19] at H; have c19b0 : decide ((rd t338 x7_1) < (rd t335 x7_1)) = true := decide_eq_true c19; clear c19; obtain rfl := Option.some.inj H
        obtain ⟨Ao20, co20, eo20⟩ := Kd.R_slice HO_5.out
        subst eo20; have p341 : 0 ≤ (x7_1 : Int) := dtA; have q341 : x7_1 < (t335.length : Int) := dtA; obtain ⟨ad341, e341, hx341_0⟩ := Kd.at_int (Kd.R_reads' HO_5.out).2.2 x7_1 p341 q341
        cases e341
        replace p341 := eq_true p341; replace q341 := eq_true q341; obtain ⟨Ao21, co21, eo21⟩ := Kd.R_slice HO_6.out
        subst eo21; have p342 : 0 ≤ (x7_1 : Int) := dtA; have q342 : x7_1 < (t338.length : Int) := dtA; obtain ⟨ad342, e342, hx342_0⟩ := Kd.at_int (Kd.R_reads' HO_6.out).2.2 x7_1 p342 q342
        cases e342
        replace p342 := eq_true p342; replace q342 := eq_true q342; have p343 : 0 ≤ (x7_1 : Int) := dtA; have q343 : x7_1 < (t335.length : Int) := dtA; obtain ⟨ad343, e343, hx343_0⟩ := Kd.at_int (Kd.R_reads' HO_5.out).2.2 x7_1 p343 q343
        obtain rfl : ad341 = ad343 := (by injection e343)
        replace p343 := eq_true p343; replace q343 := eq_true q343; have p344 : 0 ≤ (x7_1 : Int) := dtA; have q344 : x7_1 < (t338.length : Int) := dtA; obtain ⟨ad344, e344, hx344_0⟩ := Kd.at_int (Kd.R_reads' HO_6.out).2.2 x7_1 p344 q344
        obtain rfl : ad342 = ad344 := (by injection e344)
        replace p344 := eq_true p344; replace q344 := eq_true q344; go_wp2
        repeat (go_quiet (fail); try go_wp2)
        go_ret
        exact exB (mvB HB.out)
       ·rw [if_neg c19] at H; have c19b0 : decide ((rd t338 x7_1) < (rd t335 x7_1)) = false := decide_eq_false c19; clear c19; have H' := Aside0.mk H
        clear H; obtain ⟨Ao22, co22, eo22⟩ := Kd.R_slice HO_5.out
        subst eo22; have p341 : 0 ≤ (x7_1 : Int) := dtA; have q341 : x7_1 < (t335.length : Int) := dtA; obtain ⟨ad341, e341, hx341_0⟩ := Kd.at_int (Kd.R_reads' HO_5.out).2.2 x7_1 p341 q341
        cases e341
        replace p341 := eq_true p341; replace q341 := eq_true q341; obtain ⟨Ao23, co23, eo23⟩ := Kd.R_slice HO_6.out
        subst eo23; have p342 : 0 ≤ (x7_1 : Int) := dtA; have q342 : x7_1 < (t338.length : Int) := dtA; obtain ⟨ad342, e342, hx342_0⟩ := Kd.at_int (Kd.R_reads' HO_6.out).2.2 x7_1 p342 q342
        cases e342
        replace p342 := eq_true p342; replace q342 := eq_true q342; have p343 : 0 ≤ (x7_1 : Int) := dtA; have q343 : x7_1 < (t335.length : Int) := dtA; obtain ⟨ad343, e343, hx343_0⟩ := Kd.at_int (Kd.R_reads' HO_5.out).2.2 x7_1 p343 q343
        obtain rfl : ad341 = ad343 := (by injection e343)
        replace p343 := eq_true p343; replace q343 := eq_true q343; have p344 : 0 ≤ (x7_1 : Int) := dtA; have q344 : x7_1 < (t338.length : Int) := dtA; obtain ⟨ad344, e344, hx344_0⟩ := Kd.at_int (Kd.R_reads' HO_6.out).2.2 x7_1 p344 q344
        obtain rfl : ad342 = ad344 := (by injection e344)
        replace p344 := eq_true p344; replace q344 := eq_true q344; go_wp2
        repeat (go_quiet (fail); try go_wp2)
        go_roundg kj6
        case measure => have := HK1.out; have := HJ6.out; omega
        case rel => exact ⟨(wrap64 (x7_1 + 1)), (by first | rfl | (simp; done) | (simp [*]; done)), H', ⟨by have := HK1.out; have := HJ6.out; omega⟩, ⟨by (with_reducible repeat (first | apply Kd.R_alloc | apply Kd.R_drewN | apply Kd.R_drew)); exact HO_5.out⟩, ⟨by (with_reducible repeat (first | apply Kd.R_alloc | apply Kd.R_drewN | apply Kd.R_drew)); exact HO_6.out⟩, ⟨mvB HB.out⟩⟩
     ·replace c12 := Bool.eq_false_iff.mpr c12; subst c12; have H1 : (if (t335.length : Int) < (t338.length : Int) then (some (-1)) else (if (t335.length : Int) > (t338.length : Int) then (some 1) else (some 0))) = some r := by rw [if_neg (show ¬ (false = true) by decide)] at H; exact H
      clear H; have H := H1; clear H1; by_cases c24 : (t335.length : Int) < (t338.length : Int)
      ·rw [if_pos c24] at H; have c24b0 : decide ((t335.length : Int) < (t338.length : Int)) = true := decide_eq_true c24; have c24b1 : decide (t335.length < t338.length) = true := decide_eq_true (Int.ofNat_lt.mp c24)
       clear c24; obtain rfl := Option.some.inj H
       obtain ⟨Ao25, co25, eo25⟩ := Kd.R_slice HO_5.out
       subst eo25; obtain ⟨Ao26, co26, eo26⟩ := Kd.R_slice HO_6.out
       subst eo26; go_wp2
       repeat (go_quiet (fail); try go_wp2)
       go_ret
       exact exB (mvB HB.out)
      ·rw [if_neg c24] at H; have c24b0 : decide ((t335.length : Int) < (t338.length : Int)) = false := decide_eq_false c24; have c24b1 : decide (t335.length < t338.length) = false := decide_eq_false (fun h => c24 (Int.ofNat_lt.mpr h))
       clear c24; by_cases c27 : (t335.length : Int) > (t338.length : Int)
       ·rw [if_pos c27] at H; have c27b0 : decide ((t338.length : Int) < (t335.length : Int)) = true := decide_eq_true c27; have c27b1 : decide (t338.length < t335.length) = true := decide_eq_true (Int.ofNat_lt.mp c27)
        clear c27; obtain rfl := Option.some.inj H
        obtain ⟨Ao28, co28, eo28⟩ := Kd.R_slice HO_5.out
        subst eo28; obtain ⟨Ao29, co29, eo29⟩ := Kd.R_slice HO_6.out
        subst eo29; go_wp2
        repeat (go_quiet (fail); try go_wp2)
        go_ret
        exact exB (mvB HB.out)
       ·rw [if_neg c27] at H; have c27b0 : decide ((t338.length : Int) < (t335.length : Int)) = false := decide_eq_false c27; have c27b1 : decide (t338.length < t335.length) = false := decide_eq_false (fun h => c27 (Int.ofNat_lt.mpr h))
        clear c27; obtain rfl := Option.some.inj H
        obtain ⟨Ao30, co30, eo30⟩ := Kd.R_slice HO_5.out
        subst eo30; obtain ⟨Ao31, co31, eo31⟩ := Kd.R_slice HO_6.out
        subst eo31; go_wp2
        repeat (go_quiet (fail); try go_wp2)
        go_ret
        exact exB (mvB HB.out)

/-! ### hopperref16_Compare: function 23 -/
def hopperref16_Compare.f (k : Nat) (a0 : ByteArray) (a1 : ByteArray) (a2 : Int) : Option (Int) := if a2 = 1 then ((hopperref08_ByFold.f k a0 a1).bind fun t345 => (some t345)) else (if a2 = 2 then ((hopperref08_ByPoints.f k a0 a1).bind fun t346 => (some t346)) else ((hopperref07_Compare.f k a0 a1).bind fun t347 => (some t347)))
theorem hopperref16_Compare.calls (k : Nat) (a0 : ByteArray) (a1 : ByteArray) (a2 : Int) (r : Int) (w : World) (h : hopperref16_Compare.f k a0 a1 a2 = some r) :
  Calls Tryz.prog 23 #[.string a0, .string a1, .int .i64 a2] w fun e w' => e = .returned (.int .i64 r) ∧ Below w.heap.size w w' := by
 have HB := Aside0.mk (Below.refl w.heap.size w)
 have H : (if a2 = 1 then ((hopperref08_ByFold.f k a0 a1).bind fun t345 => (some t345)) else (if a2 = 2 then ((hopperref08_ByPoints.f k a0 a1).bind fun t346 => (some t346)) else ((hopperref07_Compare.f k a0 a1).bind fun t347 => (some t347)))) = some r := h; clear h; by_cases c4 : a2 = 1
 ·rw [if_pos c4] at H; have c4b0 : (a2 == 1) = true := beq_iff_eq.mpr c4; have c4b1 : (a2 != 1) = false := bne_eq_false_iff_eq.mpr c4; clear c4; replace H := Option.bind_eq_some_iff.mp H; obtain ⟨t345, A50, H⟩ := H; replace H : (some t345) = some r := H
  have A5 := Aside0.mk A50; clear A50; obtain rfl := Option.some.inj H
  go_enter Tryz.func23, Tryz.ntmps23
  go_wp2_with (first | ((with_reducible refine gate_callee (f := 39) rfl ?_); refine goesL_ (some 11) rfl rfl Tryz.func39 (by kernel_rfl) rfl #[.string a0, .string a1] rfl (by (try simp only [List.map_toArray, List.map_cons, List.map_nil]); first | done | rfl | (simp only [List.length_drop, List.length_take]; rfl)) ?_; (with_reducible refine (hopperref08_ByFold.calls k a0 a1 t345 _ A5.out).mono ?_); rintro e w6 ⟨rfl, hb⟩; refine ⟨_, rfl, ?_⟩; have n0_ := Aside0.mk (below_step (mvB HB.out) hb); clear HB; have HB := n0_; clear n0_; (try clear hb); (try clear hb2); (try clear hk); (try clear hi)))
  go_ret
  exact exB (mvB HB.out)
 ·rw [if_neg c4] at H; have c4b0 : (a2 == 1) = false := beq_eq_false_iff_ne.mpr c4; have c4b1 : (a2 != 1) = true := bne_iff_ne.mpr c4; by_cases c7 : a2 = 2
  ·rw [if_pos c7] at H; have c7b0 : (a2 == 2) = true := beq_iff_eq.mpr c7; have c7b1 : (a2 != 2) = false := bne_eq_false_iff_eq.mpr c7; clear c7; replace H := Option.bind_eq_some_iff.mp H; obtain ⟨t346, A80, H⟩ := H; replace H : (some t346) = some r := H
   have A8 := Aside0.mk A80; clear A80; obtain rfl := Option.some.inj H
   go_enter Tryz.func23, Tryz.ntmps23
   go_wp2_with (first | ((with_reducible refine gate_callee (f := 40) rfl ?_); refine goesL_ (some 16) rfl rfl Tryz.func40 (by kernel_rfl) rfl #[.string a0, .string a1] rfl (by (try simp only [List.map_toArray, List.map_cons, List.map_nil]); first | done | rfl | (simp only [List.length_drop, List.length_take]; rfl)) ?_; (with_reducible refine (hopperref08_ByPoints.calls k a0 a1 t346 _ A8.out).mono ?_); rintro e w9 ⟨rfl, hb⟩; refine ⟨_, rfl, ?_⟩; have n0_ := Aside0.mk (below_step (mvB HB.out) hb); clear HB; have HB := n0_; clear n0_; (try clear hb); (try clear hb2); (try clear hk); (try clear hi)))
   go_ret
   exact exB (mvB HB.out)
  ·rw [if_neg c7] at H; have c7b0 : (a2 == 2) = false := beq_eq_false_iff_ne.mpr c7; have c7b1 : (a2 != 2) = true := bne_iff_ne.mpr c7; replace H := Option.bind_eq_some_iff.mp H; obtain ⟨t347, A100, H⟩ := H; replace H : (some t347) = some r := H
   have A10 := Aside0.mk A100; clear A100; obtain rfl := Option.some.inj H
   go_enter Tryz.func23, Tryz.ntmps23
   go_wp2_with (first | ((with_reducible refine gate_callee (f := 41) rfl ?_); refine goesL_ (some 19) rfl rfl Tryz.func41 (by kernel_rfl) rfl #[.string a0, .string a1] rfl (by (try simp only [List.map_toArray, List.map_cons, List.map_nil]); first | done | rfl | (simp only [List.length_drop, List.length_take]; rfl)) ?_; (with_reducible refine (hopperref07_Compare.calls k a0 a1 t347 _ A10.out).mono ?_); rintro e w' ⟨rfl, ⟨nd, rfl⟩⟩; refine ⟨_, rfl, ?_⟩))
   go_ret
   exact exB (mvB HB.out)

end Go.Proofs.YtdccooaddoafnaaGreatDoor.Q
