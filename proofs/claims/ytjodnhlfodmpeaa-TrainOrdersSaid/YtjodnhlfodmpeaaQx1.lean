-- PRINTED by print.py (a twelfth state) out of the translation. Not trusted: Lean checks it.
import Derived.Test.YtjodnhlfodmpeaaQx0
namespace Go.Proofs.Ytjodnhlfodmpeaa.Q
open Go.RowKit Go.Proofs.YtjodnhlfodmpeaaW.PrintWords Go.Proofs.YtjodnhlfodmpeaaW.PrintLast Go.Proofs.YtjodnhlfodmpeaaW.PrintMore
attribute [local go_sem] str_gtr str_geq str_leq max2_int min2_int max_two min_two max_three min_three max_four min_four
set_option linter.unusedVariables false
set_option maxHeartbeats 8000000
set_option maxRecDepth 100000
set_option linter.unusedSimpArgs false

/-! ### hopperref07_Same: function 11 -/
def hopperref07_Same.l0 : Nat → List ByteArray → List ByteArray → Int → Option (Bool)
 | 0, _, _, _ => none
 | k + 1, x0, x1, x5 => if x5 < (x0.length : Int) then (if 0 ≤ x5 then (if x5 < (x1.length : Int) then (if (rdOf ByteArray.empty x0 x5).toList = (rdOf ByteArray.empty x1 x5).toList then (hopperref07_Same.l0 k x0 x1 (wrap64 (x5 + 1))) else (some false)) else (none)) else (none)) else (some true)
def hopperref07_Same.f (k : Nat) (l0 : List ByteArray) (l1 : List ByteArray) : Option (Bool) := if (l0.length : Int) = (l1.length : Int) then (hopperref07_Same.l0 k l0 l1 0) else (some false)
theorem hopperref07_Same.calls (k : Nat) (A0 : Option Addr) (c0 : Nat) (l0 : List ByteArray) (A1 : Option Addr) (c1 : Nat) (l1 : List ByteArray) (r : Bool) (w : World) (hr0 : Kd.C Kd.string w A0 l0.length l0) (hc0 : l0.length ≤ c0) (hr1 : Kd.C Kd.string w A1 l1.length l1) (hc1 : l1.length ≤ c1) (h : hopperref07_Same.f k l0 l1 = some r) :
  Calls Try.prog 11 #[.slice A0 l0.length c0, .slice A1 l1.length c1] w fun e w' => e = .returned (.bool r) ∧ Drawn0 w w' := by
 have HR0 := Aside0.mk hr0; have HC0 := Aside0.mk hc0; clear hr0 hc0; have HR1 := Aside0.mk hr1; have HC1 := Aside0.mk hc1; clear hr1 hc1; have H : (if (l0.length : Int) = (l1.length : Int) then (hopperref07_Same.l0 k l0 l1 0) else (some false)) = some r := h; clear h; by_cases c3 : (l0.length : Int) = (l1.length : Int)
 ·rw [if_pos c3] at H; have c3b0 : ((l0.length : Int) == (l1.length : Int)) = true := beq_iff_eq.mpr c3; have c3b1 : ((l0.length : Int) != (l1.length : Int)) = false := bne_eq_false_iff_eq.mpr c3; have c3b2 : (l0.length == l1.length) = true := by first | simpa using c3 | (simp at c3 ⊢; omega)
  clear c3; have H' := Aside0.mk H
  clear H; go_enter Try.func11, Try.ntmps11
  go_wp2
  repeat (go_quiet (fail); try go_wp2)
  go_loopg [5] k (fun kq v5 w' => ∃ (x5_1 : Int), v5 = .int .i64 x5_1 ∧ Aside0 (hopperref07_Same.l0 kq l0 l1 x5_1 = some r) ∧ Aside0 (kq ≤ k) ∧ Drawn0 w w')
  case atStart => exact ⟨(0), (by first | rfl | (simp; done) | (simp [*]; done)), H', ⟨Nat.le_refl _⟩, by repeat (first | exact Drawn0.refl _ | apply Drawn0.step)⟩
  case round =>
   clear H'; try clear c1
   try clear p2
   try clear c3
   try clear c3b0
   try clear c3b1
   try clear c3b2
   obtain ⟨x5_1, rfl, HA, HK1, ⟨m1, rfl⟩⟩ := hrel
   cases gk with
   | zero => exact absurd HA.out (by simp [hopperref07_Same.l0])
   | succ k1 =>
    have H := HA.out; clear HA; simp only [hopperref07_Same.l0] at H
    by_cases c4 : x5_1 < (l0.length : Int)
    ·rw [if_pos c4] at H; have c4b0 : decide (x5_1 < (l0.length : Int)) = true := decide_eq_true c4; clear c4; by_cases c5 : 0 ≤ x5_1
     case neg => rw [if_neg c5] at H; exact absurd H (by simp)
     rw [if_pos c5] at H; have c5b0 : decide (0 ≤ x5_1) = true := decide_eq_true c5; clear c5; by_cases c6 : x5_1 < (l1.length : Int)
     case neg => rw [if_neg c6] at H; exact absurd H (by simp)
     rw [if_pos c6] at H; have c6b0 : decide (x5_1 < (l1.length : Int)) = true := decide_eq_true c6; clear c6; by_cases c7 : (rdOf ByteArray.empty l0 x5_1).toList = (rdOf ByteArray.empty l1 x5_1).toList
     ·rw [if_pos c7] at H; have c7b0 : ((rdOf ByteArray.empty l0 x5_1).toList == (rdOf ByteArray.empty l1 x5_1).toList) = true := beq_iff_eq.mpr c7; have c7b1 : ((rdOf ByteArray.empty l0 x5_1).toList != (rdOf ByteArray.empty l1 x5_1).toList) = false := bne_eq_false_iff_eq.mpr c7; clear c7; have H' := Aside0.mk H
      clear H; have p101 : 0 ≤ (x5_1 : Int) := dtA; have q101 : x5_1 < (l0.length : Int) := dtA; obtain ⟨ad101, e101, hx101_0⟩ := Kd.at_string HR0.out x5_1 p101 q101
      cases e101
      replace p101 := eq_true p101; replace q101 := eq_true q101; have p102 : 0 ≤ (x5_1 : Int) := dtA; have q102 : x5_1 < (l1.length : Int) := dtA; obtain ⟨ad102, e102, hx102_0⟩ := Kd.at_string HR1.out x5_1 p102 q102
      cases e102
      replace p102 := eq_true p102; replace q102 := eq_true q102; go_wp2
      repeat (go_quiet (fail); try go_wp2)
      go_roundg k1
      case measure => have := HK1.out; omega
      case rel => exact ⟨(wrap64 (x5_1 + 1)), (by first | rfl | (simp; done) | (simp [*]; done)), H', ⟨by have := HK1.out; omega⟩, by repeat (first | exact Drawn0.refl _ | apply Drawn0.step)⟩
     ·rw [if_neg c7] at H; have c7b0 : ((rdOf ByteArray.empty l0 x5_1).toList == (rdOf ByteArray.empty l1 x5_1).toList) = false := beq_eq_false_iff_ne.mpr c7; have c7b1 : ((rdOf ByteArray.empty l0 x5_1).toList != (rdOf ByteArray.empty l1 x5_1).toList) = true := bne_iff_ne.mpr c7; obtain rfl := Option.some.inj H
      have p101 : 0 ≤ (x5_1 : Int) := dtA; have q101 : x5_1 < (l0.length : Int) := dtA; obtain ⟨ad101, e101, hx101_0⟩ := Kd.at_string HR0.out x5_1 p101 q101
      cases e101
      replace p101 := eq_true p101; replace q101 := eq_true q101; have p102 : 0 ≤ (x5_1 : Int) := dtA; have q102 : x5_1 < (l1.length : Int) := dtA; obtain ⟨ad102, e102, hx102_0⟩ := Kd.at_string HR1.out x5_1 p102 q102
      cases e102
      replace p102 := eq_true p102; replace q102 := eq_true q102; go_wp2
      repeat (go_quiet (fail); try go_wp2)
      go_ret
      exact exD
    ·rw [if_neg c4] at H; have c4b0 : decide (x5_1 < (l0.length : Int)) = false := decide_eq_false c4; clear c4; obtain rfl := Option.some.inj H
     go_wp2
     repeat (go_quiet (fail); try go_wp2)
     go_ret
     exact exD
 ·rw [if_neg c3] at H; have c3b0 : ((l0.length : Int) == (l1.length : Int)) = false := beq_eq_false_iff_ne.mpr c3; have c3b1 : ((l0.length : Int) != (l1.length : Int)) = true := bne_iff_ne.mpr c3; have c3b2 : (l0.length == l1.length) = false := by first | simpa using c3 | (simp at c3 ⊢; omega)
  obtain rfl := Option.some.inj H
  go_enter Try.func11, Try.ntmps11
  go_wp2
  repeat (go_quiet (fail); try go_wp2)
  go_ret
  exact exD

/-! ### train_distance: function 23 -/
def train_distance.f (a0 : Int) : Option (Int) := if a0 < 0 then (some (IntKind.u64.wrap (-(IntKind.u64.wrap (a0))))) else (some (IntKind.u64.wrap (a0)))
theorem train_distance.calls (a0 : Int) (r : Int) (w : World) (h : train_distance.f a0 = some r) :
  Calls Try.prog 23 #[.int .i64 a0] w fun e w' => e = .returned (.int .u64 r) ∧ Drawn0 w w' := by
 have H : (if a0 < 0 then (some (IntKind.u64.wrap (-(IntKind.u64.wrap (a0))))) else (some (IntKind.u64.wrap (a0)))) = some r := h; clear h; by_cases c2 : a0 < 0
 ·rw [if_pos c2] at H; have c2b0 : decide (a0 < 0) = true := decide_eq_true c2; clear c2; obtain rfl := Option.some.inj H
  go_enter Try.func23, Try.ntmps23
  go_wp2
  go_ret
  exact exD
 ·rw [if_neg c2] at H; have c2b0 : decide (a0 < 0) = false := decide_eq_false c2; clear c2; obtain rfl := Option.some.inj H
  go_enter Try.func23, Try.ntmps23
  go_wp2
  go_ret
  exact exD

/-! ### train_Sample: function 12 -/
def train_Sample.l0 : Nat → List ByteArray → List ByteArray → List Int → Int → Int → Option (List ByteArray)
 | 0, _, _, _, _, _ => none
 | k + 1, x0, x5, x8, x9, x10 => if x10 < x9 then (if 0 ≤ x10 then (if x10 < (x8.length : Int) then (if (x0.length : Int) > 0 then ((train_distance.f (rd x8 x10)).bind fun t104 => (if (IntKind.u64.wrap ((x0.length : Int))) = 0 then (none) else (if 0 ≤ (Int.tmod t104 (IntKind.u64.wrap ((x0.length : Int)))) then (if (Int.tmod t104 (IntKind.u64.wrap ((x0.length : Int)))) < (x0.length : Int) then (if x5.length < 8796093022208 then (train_Sample.l0 k x0 (x5 ++ [rdOf ByteArray.empty x0 (Int.tmod t104 (IntKind.u64.wrap ((x0.length : Int))))]) x8 x9 (wrap64 (x10 + 1))) else (none)) else (none)) else (none)))) else (train_Sample.l0 k x0 x5 x8 x9 (wrap64 (x10 + 1)))) else (none)) else (none)) else (some x5)
def train_Sample.f (k : Nat) (l0 : List ByteArray) (l1 : List Int) : Option (List ByteArray) := train_Sample.l0 k l0 ([] : List ByteArray) l1 (l1.length : Int) 0
theorem train_Sample.calls (k : Nat) (A0 : Option Addr) (c0 : Nat) (l0 : List ByteArray) (A1 : Option Addr) (c1 : Nat) (l1 : List Int) (r : List ByteArray) (w : World) (hr0 : Kd.C Kd.string w A0 l0.length l0) (hc0 : l0.length ≤ c0) (hr1 : Kd.C (Kd.int .i64) w A1 l1.length l1) (hc1 : l1.length ≤ c1) (h : train_Sample.f k l0 l1 = some r) :
  Calls Try.prog 12 #[.slice A0 l0.length c0, .slice A1 l1.length c1] w fun e w' => ∃ v0_ : Value, e = .returned (v0_) ∧ Kd.R Kd.string 9 w' w.heap.size (fun _ => True) v0_ r ∧ Below w.heap.size w w' := by
 have HR0 := Aside0.mk hr0; have HC0 := Aside0.mk hc0; clear hr0 hc0; have HR1 := Aside0.mk hr1; have HC1 := Aside0.mk hc1; clear hr1 hc1; have HB := Aside0.mk (Below.refl w.heap.size w)
 have H : (train_Sample.l0 k l0 ([] : List ByteArray) l1 (l1.length : Int) 0) = some r := h; clear h; have H' := Aside0.mk H
 clear H; go_enter Try.func12, Try.ntmps12
 go_wp2
 go_loopg [5, 10] k (fun kq v5 v10 w' => ∃ (x5_1 : List ByteArray) (x10_1 : Int), v10 = .int .i64 x10_1 ∧ Aside0 (train_Sample.l0 kq l0 x5_1 l1 (l1.length : Int) x10_1 = some r) ∧ Aside0 (kq ≤ k) ∧ Aside0 (Kd.R Kd.string 9 w' w.heap.size (fun _ => True) v5 x5_1) ∧ Aside0 (Below w.heap.size w w'))
 case atStart => exact ⟨(([] : List ByteArray)), (0), (by first | rfl | (simp; done) | (simp [*]; done)), H', ⟨Nat.le_refl _⟩, ⟨by first | exact Kd.R_nil _ _ _ _ _ | exact Kd.N_nil _ _ _ _ _ | exact Kd.V_nil _ _ _ _ _ | exact Kd.Q_nil _ _ _ _ _ | exact Kd.S_nil _ _ _ _ _⟩, ⟨mvB HB.out⟩⟩
 case round =>
  clear H'; try clear c1
  try clear p2
  obtain ⟨x5_1, x10_1, rfl, HA, HK1, HO_5, HB⟩ := hrel
  cases gk with
  | zero => exact absurd HA.out (by simp [train_Sample.l0])
  | succ k1 =>
   have H := HA.out; clear HA; simp only [train_Sample.l0] at H
   by_cases c3 : x10_1 < (l1.length : Int)
   ·rw [if_pos c3] at H; have c3b0 : decide (x10_1 < (l1.length : Int)) = true := decide_eq_true c3; clear c3; by_cases c4 : 0 ≤ x10_1
    case neg => rw [if_neg c4] at H; exact absurd H (by simp)
    rw [if_pos c4] at H; have c4b0 : decide (0 ≤ x10_1) = true := decide_eq_true c4; clear c4; by_cases c5 : x10_1 < (l1.length : Int)
    case neg => rw [if_neg c5] at H; exact absurd H (by simp)
    rw [if_pos c5] at H; have c5b0 : decide (x10_1 < (l1.length : Int)) = true := decide_eq_true c5; clear c5; by_cases c6 : (l0.length : Int) > 0
    ·rw [if_pos c6] at H; have c6b0 : decide (0 < (l0.length : Int)) = true := decide_eq_true c6; have c6b1 : decide (0 < l0.length) = true := decide_eq_true (by omega)
     clear c6; replace H := Option.bind_eq_some_iff.mp H; obtain ⟨t104, A70, H⟩ := H; replace H : (if (IntKind.u64.wrap ((l0.length : Int))) = 0 then (none) else (if 0 ≤ (Int.tmod t104 (IntKind.u64.wrap ((l0.length : Int)))) then (if (Int.tmod t104 (IntKind.u64.wrap ((l0.length : Int)))) < (l0.length : Int) then (if x5_1.length < 8796093022208 then (train_Sample.l0 k1 l0 (x5_1 ++ [rdOf ByteArray.empty l0 (Int.tmod t104 (IntKind.u64.wrap ((l0.length : Int))))]) l1 (l1.length : Int) (wrap64 (x10_1 + 1))) else (none)) else (none)) else (none))) = some r := H
     have A7 := Aside0.mk A70; clear A70; by_cases c8 : (IntKind.u64.wrap ((l0.length : Int))) = 0
     ·rw [if_pos c8] at H; exact absurd H (by simp)
     ·rw [if_neg c8] at H; have c8b0 : ((IntKind.u64.wrap ((l0.length : Int))) == 0) = false := beq_eq_false_iff_ne.mpr c8; have c8b1 : ((IntKind.u64.wrap ((l0.length : Int))) != 0) = true := bne_iff_ne.mpr c8; obtain ⟨ji9, hji9⟩ : ∃ j_ : Int, (Int.tmod t104 (IntKind.u64.wrap ((l0.length : Int)))) = j_ := ⟨_, rfl⟩
      replace H : (if 0 ≤ (ji9) then (if (ji9) < (l0.length : Int) then (if x5_1.length < 8796093022208 then (train_Sample.l0 k1 l0 (x5_1 ++ [rdOf ByteArray.empty l0 (ji9)]) l1 (l1.length : Int) (wrap64 (x10_1 + 1))) else (none)) else (none)) else (none)) = some r := by first | (rw [hji9] at H; exact H) | (simp only [hji9] at H ⊢; exact H)
      (try rw [hji9] at A7)
      by_cases c10 : 0 ≤ (ji9)
      case neg => rw [if_neg c10] at H; exact absurd H (by simp)
      rw [if_pos c10] at H; have c10b0 : decide (0 ≤ (ji9)) = true := decide_eq_true c10; clear c10; by_cases c11 : (ji9) < (l0.length : Int)
      case neg => rw [if_neg c11] at H; exact absurd H (by simp)
      rw [if_pos c11] at H; have c11b0 : decide ((ji9) < (l0.length : Int)) = true := decide_eq_true c11; clear c11; by_cases c12 : x5_1.length < 8796093022208
      case neg => rw [if_neg c12] at H; exact absurd H (by simp)
      rw [if_pos c12] at H; have LMc12 := Aside0.mk c12; clear c12; obtain ⟨y106, hy106⟩ : ∃ y_ : List ByteArray, y_ = (x5_1 ++ [rdOf ByteArray.empty l0 (ji9)]) := ⟨_, rfl⟩
      replace H : (train_Sample.l0 k1 l0 y106 l1 (l1.length : Int) (wrap64 (x10_1 + 1))) = some r := by first | (rw [hy106]; with_reducible exact H) | (have H2_ := (Option.bind_some _ _).symm.trans H; rw [hy106]; with_reducible exact H2_) | (have H2_ := (Option.bind_some _ _).symm.trans H; with_reducible exact H2_) | with_reducible exact H | (rw [hy106]; exact H) | exact H
      have Ny106 := Aside0.mk hy106; clear hy106; have H' := Aside0.mk H
      clear H; have p103 : 0 ≤ (x10_1 : Int) := dtA; have q103 : x10_1 < (l1.length : Int) := dtA; obtain ⟨ad103, e103, hx103_0⟩ := Kd.at_int HR1.out x10_1 p103 q103
      cases e103
      replace hx103_0 := (HB.out.cell (World.block_lt_of_cell? w _ hx103_0)).trans hx103_0
      replace p103 := eq_true p103; replace q103 := eq_true q103; go_wp2_with (first | ((with_reducible refine gate_callee (f := 23) rfl ?_); refine goesL_ (some 20) rfl rfl Try.func23 (by kernel_rfl) rfl #[.int .i64 (rd l1 x10_1)] rfl (by (try simp only [List.map_toArray, List.map_cons, List.map_nil]); first | done | rfl | (simp only [List.length_drop, List.length_take]; rfl)) ?_; (with_reducible refine (train_distance.calls (rd l1 x10_1) t104 _ A7.out).mono ?_); rintro e w' ⟨rfl, ⟨nd, rfl⟩⟩; refine ⟨_, rfl, ?_⟩; have p105 : 0 ≤ ((ji9) : Int) := dtA; have q105 : (ji9) < (l0.length : Int) := dtA; obtain ⟨ad105, e105, hx105_0⟩ := Kd.at_string HR0.out (ji9) p105 q105; cases e105; replace hx105_0 := (HB.out.cell (World.block_lt_of_cell? w _ hx105_0)).trans hx105_0; replace p105 := eq_true p105; replace q105 := eq_true q105) | ((with_reducible refine gate_builtin (b := .append) (xs := #[.tmp 17, .tmp 27]) rfl ?_); at_builtin; refine Kd.R_append Kd.string (w0 := w) w.heap.size rfl (.tmp 17) (.tmp 27) 22 9 (.string ⟨#[]⟩) 16 rfl Try.underlying22 info9 rfl (by decide) (by omega) u5 x5_1 (rdOf ByteArray.empty l0 (ji9)) [.string (rdOf ByteArray.empty l0 (ji9))] (fun _ => True) (fun _ => False) rfl rfl ?aP (fun _ hk => hk.elim) ?aF ?aO ?aB ?aS ?aL ?_; (case aP => exact rfl); (case aB => exact (mvB HB.out)); (case aF => exact (fun _ _ => trivial)); (case aO => exact (mvR HO_5.out)); (case aS => exact (below_size (mvB HB.out))); (case aL => have := LMc12.out; omega); intro v107 w13 ho hb hg hat; rw [← Ny106.out] at ho; have n0_ := Aside0.mk (hb); have n1_ := Aside0.mk (ho); clear HB; clear HO_5; have HB := n0_; have HO108 := n1_; clear n0_ n1_; clear ho hb hg hat))
      go_roundg k1
      case measure => have := HK1.out; omega
      case rel => exact ⟨(y106), (wrap64 (x10_1 + 1)), (by first | rfl | (simp; done) | (simp [*]; done)), H', ⟨by have := HK1.out; omega⟩, ⟨by (with_reducible repeat (first | apply Kd.R_alloc | apply Kd.R_drewN | apply Kd.R_drew)); exact HO108.out⟩, ⟨mvB HB.out⟩⟩
    ·rw [if_neg c6] at H; have c6b0 : decide (0 < (l0.length : Int)) = false := decide_eq_false c6; have c6b1 : decide (0 < l0.length) = false := decide_eq_false (by omega)
     clear c6; have H' := Aside0.mk H
     clear H; have p103 : 0 ≤ (x10_1 : Int) := dtA; have q103 : x10_1 < (l1.length : Int) := dtA; obtain ⟨ad103, e103, hx103_0⟩ := Kd.at_int HR1.out x10_1 p103 q103
     cases e103
     replace hx103_0 := (HB.out.cell (World.block_lt_of_cell? w _ hx103_0)).trans hx103_0
     replace p103 := eq_true p103; replace q103 := eq_true q103; go_wp2
     go_roundg k1
     case measure => have := HK1.out; omega
     case rel => exact ⟨(x5_1), (wrap64 (x10_1 + 1)), (by first | rfl | (simp; done) | (simp [*]; done)), H', ⟨by have := HK1.out; omega⟩, ⟨by (with_reducible repeat (first | apply Kd.R_alloc | apply Kd.R_drewN | apply Kd.R_drew)); exact HO_5.out⟩, ⟨mvB HB.out⟩⟩
   ·rw [if_neg c3] at H; have c3b0 : decide (x10_1 < (l1.length : Int)) = false := decide_eq_false c3; clear c3; obtain rfl := Option.some.inj H
    go_wp2
    go_ret
    exact ⟨_, by first | rfl | (simp [errW_none, errW_some] <;> rfl) | (simp [*, errW_none, errW_some] <;> rfl) | exact congrArg (fun b_ => Ending.returned (.bool b_)) (decide_eq_decide.2 (by unfold wrap64; omega)), by (with_reducible repeat (first | apply Kd.R_alloc | apply Kd.R_drewN | apply Kd.R_drew)); exact HO_5.out, mvB HB.out⟩

/-! ### symbol_may: function 42 -/
def symbol_may.f (a0 : ByteArray) : Option (Bool) := if (a0.size : Int) ≥ 1 then (some (decide ((a0.size : Int) ≤ 8))) else (some false)
theorem symbol_may.calls (a0 : ByteArray) (r : Bool) (w : World) (h : symbol_may.f a0 = some r) :
  Calls Try.prog 42 #[.string a0] w fun e w' => e = .returned (.bool r) ∧ Drawn0 w w' := by
 have H : (if (a0.size : Int) ≥ 1 then (some (decide ((a0.size : Int) ≤ 8))) else (some false)) = some r := h; clear h; by_cases c2 : (a0.size : Int) ≥ 1
 ·rw [if_pos c2] at H; have c2b0 : decide (1 ≤ (a0.size : Int)) = true := decide_eq_true c2; have c2b1 : decide (1 ≤ a0.size) = true := decide_eq_true (by omega)
  clear c2; obtain rfl := Option.some.inj H
  go_enter Try.func42, Try.ntmps42
  go_wp2
  go_ret
  exact exD
 ·rw [if_neg c2] at H; have c2b0 : decide (1 ≤ (a0.size : Int)) = false := decide_eq_false c2; have c2b1 : decide (1 ≤ a0.size) = false := decide_eq_false (by omega)
  clear c2; obtain rfl := Option.some.inj H
  go_enter Try.func42, Try.ntmps42
  go_wp2
  go_ret
  exact exD

/-! ### slices_Sort_string_string: function 43 -/
-- told by hand
/-- Strings in the order of their bytes. -/
def sortS (l : List ByteArray) : List ByteArray := ((l.map toB).mergeSort fun x y => decide (x ≤ y)).map ofB
def slices_Sort_string_string.f (l0 : List ByteArray) : Option (List ByteArray) := if l0.length < 4611686018427387904 then some (sortS l0) else none
theorem slices_Sort_string_string.heap (w : World) (n g : Nat) (d : Array (List UInt8)) (os : Array Obj) (i : Nat) (hi : i < w.heap.size) : (Sort.grow (Sort.putRow encStr (Sort.ahead w n) g 0 d) os).heap[i]? = (Sort.putRow encStr w g 0 d).heap[i]? := by
 have hs : (Sort.putRow encStr (Sort.ahead w n) g 0 d).heap.size = w.heap.size := by simp [Sort.putRow, Sort.mapBlock, Sort.ahead]
 unfold Sort.grow
 simp only
 rw [Array.getElem?_append_left (by rw [hs]; exact hi)]
 rfl
theorem slices_Sort_string_string.heap_ne (w : World) (g : Nat) (d : Array (List UInt8)) (i : Nat) (hi : i ≠ g) : (Sort.putRow encStr w g 0 d).heap[i]? = w.heap[i]? := by
 simp only [Sort.putRow, Sort.mapBlock, Array.getElem?_modify]
 rw [if_neg (fun z => hi z.symm)]
theorem slices_Sort_string_string.calls (P0_ : Nat → Prop) (u9000_ : Value) (l0 : List ByteArray) (r : List ByteArray) (w0 w : World) (hB : Below w0.heap.size w0 w) (ho0 : Kd.R Kd.string 9 w w0.heap.size P0_ u9000_ l0) (h : slices_Sort_string_string.f l0 = some r) :
  Calls Try.prog 43 #[u9000_] w fun e w' => e = .returned (.tuple #[]) ∧ Kd.R Kd.string 9 w' w0.heap.size (fun k_ => (P0_ k_ ∨ w.heap.size ≤ k_)) u9000_ r ∧ Below w0.heap.size w0 w' ∧ Kept w w' (fun k_ => P0_ k_) := by
 unfold slices_Sort_string_string.f at h
 by_cases hlen : l0.length < 4611686018427387904
 case neg => rw [if_neg hlen] at h; cases h
 rw [if_pos hlen] at h; obtain rfl := Option.some.inj h
 clear h; obtain ⟨A, cp, rfl⟩ := Kd.R_slice ho0
 by_cases hn : l0 = []
 ·subst hn; refine (Try.slices_Sort_string_none A cp w).mono ?_
  rintro e w' ⟨rfl, rfl⟩
  exact ⟨rfl, by rw [show sortS [] = [] by simp [sortS]]; exact Kd.R_mono ho0 (fun _ hk => .inl hk), hB, Kept.refl _ _⟩
 ·have hpos : 0 < l0.length := by cases l0 with | nil => exact absurd rfl hn | cons _ _ => simp
  obtain ⟨g, rfl⟩ : ∃ g, A = some ⟨g, 0, none⟩ := by
   obtain ⟨_, inner, hown, _⟩ := ho0; rcases hown.2 with ⟨_, h⟩ | ⟨g, _, _, h, _⟩
   ·omega
   ·injection h with h _ _
    exact ⟨g, h⟩
  have hg : g < w.heap.size := Kd.R_lt ho0 g rfl; have hgb : w0.heap.size ≤ g := Kd.R_base ho0 g rfl; have hP : P0_ g := ho0.1 g rfl; have hc := Try.slices_Sort_string g 0 cp (l0.map toB) w (holds_strs rfl ho0) hg (by simpa using hlen)
  rw [List.length_map] at hc
  refine hc.mono ?_
  rintro e w' ⟨rfl, n, os, rfl⟩
  have hl : ((l0.map toB).mergeSort fun x y => decide (x ≤ y)).length = l0.length := by rw [List.length_mergeSort, List.length_map]
  have hR := R_putStr (ok' := fun k_ => (P0_ k_ ∨ w.heap.size ≤ k_)) rfl ho0 (.inl hP) ((l0.map toB).mergeSort fun x y => decide (x ≤ y)) hl l0.length (Nat.le_refl _) (slices_Sort_string_string.heap w n g _ os g hg)
  rw [List.take_of_length_le (by omega)] at hR
  have hsz : w.heap.size ≤ (Sort.grow (Sort.putRow encStr (Sort.ahead w n) g 0 ((l0.map toB).mergeSort fun x y => decide (x ≤ y)).toArray) os).heap.size := by
   simp [Sort.grow, Sort.putRow, Sort.mapBlock, Sort.ahead]
  refine ⟨rfl, hR, ⟨hB.os, hB.tape, hB.output, Nat.le_trans hB.size hsz, fun k hk => ?_⟩, hsz, fun i hi hni => ?_⟩
  ·rw [slices_Sort_string_string.heap w n g _ os k (Nat.lt_of_lt_of_le hk hB.size), slices_Sort_string_string.heap_ne w g _ k (by omega)]
   exact hB.block k hk
  ·rw [slices_Sort_string_string.heap w n g _ os i hi]
   exact slices_Sort_string_string.heap_ne w g _ i (fun e => hni (by rw [e]; exact hP))

/-! ### slices_Compact_string_string: function 44 -/
-- told by hand
/-- Neighbours that are alike stand once. -/
def compS (l : List ByteArray) : List ByteArray := (Lib.compact (l.map toB)).map ofB
def slices_Compact_string_string.f (l0 : List ByteArray) : Option (List ByteArray) := if l0.length ≤ 9223372036854775807 then some (compS l0) else none
theorem slices_Compact_string_string.le (zs : List (List UInt8)) : (Lib.compact zs).length ≤ zs.length := by
 unfold Lib.compact Lib.compactUpTo
 rw [List.length_map]
 exact Nat.le_trans (List.length_filter_le _ _) (by simp)
theorem slices_Compact_string_string.heap (w : World) (n g : Nat) (d : Array (List UInt8)) (i : Nat) : (Sort.putRow encStr (Sort.ahead w n) g 0 d).heap[i]? = (Sort.putRow encStr w g 0 d).heap[i]? := rfl
theorem slices_Compact_string_string.heap_ne (w : World) (g : Nat) (d : Array (List UInt8)) (i : Nat) (hi : i ≠ g) : (Sort.putRow encStr w g 0 d).heap[i]? = w.heap[i]? := by
 simp only [Sort.putRow, Sort.mapBlock, Array.getElem?_modify]
 rw [if_neg (fun z => hi z.symm)]
theorem slices_Compact_string_string.calls (P0_ : Nat → Prop) (u9000_ : Value) (l0 : List ByteArray) (r : List ByteArray) (w0 w : World) (hB : Below w0.heap.size w0 w) (ho0 : Kd.R Kd.string 9 w w0.heap.size P0_ u9000_ l0) (h : slices_Compact_string_string.f l0 = some r) :
  Calls Try.prog 44 #[u9000_] w fun e w' => ∃ v0_ : Value, e = .returned (v0_) ∧ Kd.R Kd.string 9 w' w0.heap.size (fun k_ => (P0_ k_ ∨ w.heap.size ≤ k_)) v0_ r ∧ Below w0.heap.size w0 w' ∧ Kept w w' (fun k_ => P0_ k_) := by
 unfold slices_Compact_string_string.f at h
 by_cases hlen : l0.length ≤ 9223372036854775807
 case neg => rw [if_neg hlen] at h; cases h
 rw [if_pos hlen] at h; obtain rfl := Option.some.inj h
 clear h; obtain ⟨A, cp, rfl⟩ := Kd.R_slice ho0
 by_cases hn : l0 = []
 ·subst hn; refine (Try.slices_Compact_string_empty A cp w).mono ?_
  rintro e w' ⟨rfl, rfl⟩
  exact ⟨_, rfl, Kd.R_mono ho0 (fun _ hk => .inl hk), hB, Kept.refl _ _⟩
 ·have hpos : 0 < l0.length := by cases l0 with | nil => exact absurd rfl hn | cons _ _ => simp
  have hcap : l0.length ≤ cp := by
   obtain ⟨A', c', e, hl, _⟩ := Kd.R_reads ho0
   injection e with _ _ e
   rw [e]; exact hl
  obtain ⟨g, rfl⟩ : ∃ g, A = some ⟨g, 0, none⟩ := by
   obtain ⟨_, inner, hown, _⟩ := ho0; rcases hown.2 with ⟨_, h⟩ | ⟨g, _, _, h, _⟩
   ·omega
   ·injection h with h _ _
    exact ⟨g, h⟩
  have hg : g < w.heap.size := Kd.R_lt ho0 g rfl; have hgb : w0.heap.size ≤ g := Kd.R_base ho0 g rfl; have hP : P0_ g := ho0.1 g rfl; have hc := Try.slices_Compact_string g 0 cp (l0.map toB) w (holds_strs rfl ho0) (by simpa using hlen) (by simpa using hcap)
  rw [List.length_map] at hc
  refine hc.mono ?_
  rintro e w' ⟨rfl, n, rfl⟩
  have hle := slices_Compact_string_string.le (l0.map toB)
  rw [List.length_map] at hle
  have hR := R_putStr (ok' := fun k_ => (P0_ k_ ∨ w.heap.size ≤ k_)) rfl ho0 (.inl hP) (Lib.compact (l0.map toB) ++ List.replicate (l0.length - (Lib.compact (l0.map toB)).length) []) (by simp; omega) (Lib.compact (l0.map toB)).length hle (slices_Compact_string_string.heap w n g _ g)
  rw [List.take_append_of_le_length (Nat.le_refl _), List.take_length] at hR
  have hsz : w.heap.size ≤ (Sort.putRow encStr (Sort.ahead w n) g 0 (Lib.compact (l0.map toB) ++ List.replicate (l0.length - (Lib.compact (l0.map toB)).length) []).toArray).heap.size := by
   simp [Sort.putRow, Sort.mapBlock, Sort.ahead]
  refine ⟨_, rfl, hR, ⟨hB.os, hB.tape, hB.output, Nat.le_trans hB.size hsz, fun k hk => ?_⟩, hsz, fun i hi hni => ?_⟩
  ·rw [slices_Compact_string_string.heap w n g _ k, slices_Compact_string_string.heap_ne w g _ k (by omega)]
   exact hB.block k hk
  ·rw [slices_Compact_string_string.heap w n g _ i]
   exact slices_Compact_string_string.heap_ne w g _ i (fun e => hni (by rw [e]; exact hP))

/-! ### symbol_Order: function 32 -/
def symbol_Order.l0 : Nat → List ByteArray → List ByteArray → Int → Int → Option (List ByteArray)
 | 0, _, _, _, _ => none
 | k + 1, x3, x6, x7, x8 => if x8 < x7 then (if 0 ≤ x8 then (if x8 < (x6.length : Int) then ((symbol_may.f (rdOf ByteArray.empty x6 x8)).bind fun t110 => (if t110 = true then (if x3.length < 8796093022208 then (symbol_Order.l0 k (x3 ++ [rdOf ByteArray.empty x6 x8]) x6 x7 (wrap64 (x8 + 1))) else (none)) else (symbol_Order.l0 k x3 x6 x7 (wrap64 (x8 + 1))))) else (none)) else (none)) else ((slices_Sort_string_string.f x3).bind fun t114 => ((slices_Compact_string_string.f t114).bind fun t115 => (if 0 ≤ (mn (t115.length : Int) 255) then (if (mn (t115.length : Int) 255) ≤ (t115.length : Int) then (some (t115.take ((mn (t115.length : Int) 255) : Int).toNat)) else (none)) else (none))))
def symbol_Order.f (k : Nat) (l0 : List ByteArray) : Option (List ByteArray) := symbol_Order.l0 k ([] : List ByteArray) l0 (l0.length : Int) 0
theorem symbol_Order.calls (k : Nat) (A0 : Option Addr) (c0 : Nat) (l0 : List ByteArray) (r : List ByteArray) (w : World) (hr0 : Kd.C Kd.string w A0 l0.length l0) (hc0 : l0.length ≤ c0) (h : symbol_Order.f k l0 = some r) :
  Calls Try.prog 32 #[.slice A0 l0.length c0] w fun e w' => ∃ v0_ : Value, e = .returned (v0_) ∧ Kd.R Kd.string 9 w' w.heap.size (fun _ => True) v0_ r ∧ Below w.heap.size w w' := by
 have HR0 := Aside0.mk hr0; have HC0 := Aside0.mk hc0; clear hr0 hc0; have HB := Aside0.mk (Below.refl w.heap.size w)
 have H : (symbol_Order.l0 k ([] : List ByteArray) l0 (l0.length : Int) 0) = some r := h; clear h; have H' := Aside0.mk H
 clear H; go_enter Try.func32, Try.ntmps32
 go_wp2
 go_loopg [3, 8] k (fun kq v3 v8 w' => ∃ (x3_1 : List ByteArray) (x8_1 : Int), v8 = .int .i64 x8_1 ∧ Aside0 (symbol_Order.l0 kq x3_1 l0 (l0.length : Int) x8_1 = some r) ∧ Aside0 (kq ≤ k) ∧ Aside0 (Kd.R Kd.string 9 w' w.heap.size (fun _ => True) v3 x3_1) ∧ Aside0 (Below w.heap.size w w'))
 case atStart => exact ⟨(([] : List ByteArray)), (0), (by first | rfl | (simp; done) | (simp [*]; done)), H', ⟨Nat.le_refl _⟩, ⟨by first | exact Kd.R_nil _ _ _ _ _ | exact Kd.N_nil _ _ _ _ _ | exact Kd.V_nil _ _ _ _ _ | exact Kd.Q_nil _ _ _ _ _ | exact Kd.S_nil _ _ _ _ _⟩, ⟨mvB HB.out⟩⟩
 case round =>
  clear H'; obtain ⟨x3_1, x8_1, rfl, HA, HK1, HO_3, HB⟩ := hrel
  cases gk with
  | zero => exact absurd HA.out (by simp [symbol_Order.l0])
  | succ k1 =>
   have H := HA.out; clear HA; simp only [symbol_Order.l0] at H
   by_cases c2 : x8_1 < (l0.length : Int)
   ·rw [if_pos c2] at H; have c2b0 : decide (x8_1 < (l0.length : Int)) = true := decide_eq_true c2; clear c2; by_cases c3 : 0 ≤ x8_1
    case neg => rw [if_neg c3] at H; exact absurd H (by simp)
    rw [if_pos c3] at H; have c3b0 : decide (0 ≤ x8_1) = true := decide_eq_true c3; clear c3; by_cases c4 : x8_1 < (l0.length : Int)
    case neg => rw [if_neg c4] at H; exact absurd H (by simp)
    rw [if_pos c4] at H; have c4b0 : decide (x8_1 < (l0.length : Int)) = true := decide_eq_true c4; clear c4; replace H := Option.bind_eq_some_iff.mp H; obtain ⟨t110, A50, H⟩ := H; replace H : (if t110 = true then (if x3_1.length < 8796093022208 then (symbol_Order.l0 k1 (x3_1 ++ [rdOf ByteArray.empty l0 x8_1]) l0 (l0.length : Int) (wrap64 (x8_1 + 1))) else (none)) else (symbol_Order.l0 k1 x3_1 l0 (l0.length : Int) (wrap64 (x8_1 + 1)))) = some r := H
    have A5 := Aside0.mk A50; clear A50; by_cases c6 : t110 = true
    ·subst c6; have H1 : (if x3_1.length < 8796093022208 then (symbol_Order.l0 k1 (x3_1 ++ [rdOf ByteArray.empty l0 x8_1]) l0 (l0.length : Int) (wrap64 (x8_1 + 1))) else (none)) = some r := by rw [if_pos rfl] at H; exact H
     clear H; have H := H1; clear H1; by_cases c7 : x3_1.length < 8796093022208
     case neg => rw [if_neg c7] at H; exact absurd H (by simp)
     rw [if_pos c7] at H; have LMc7 := Aside0.mk c7; clear c7; obtain ⟨y111, hy111⟩ : ∃ y_ : List ByteArray, y_ = (x3_1 ++ [rdOf ByteArray.empty l0 x8_1]) := ⟨_, rfl⟩
     replace H : (symbol_Order.l0 k1 y111 l0 (l0.length : Int) (wrap64 (x8_1 + 1))) = some r := by first | (rw [hy111]; with_reducible exact H) | (have H2_ := (Option.bind_some _ _).symm.trans H; rw [hy111]; with_reducible exact H2_) | (have H2_ := (Option.bind_some _ _).symm.trans H; with_reducible exact H2_) | with_reducible exact H | (rw [hy111]; exact H) | exact H
     have Ny111 := Aside0.mk hy111; clear hy111; have H' := Aside0.mk H
     clear H; have p109 : 0 ≤ (x8_1 : Int) := dtA; have q109 : x8_1 < (l0.length : Int) := dtA; obtain ⟨ad109, e109, hx109_0⟩ := Kd.at_string HR0.out x8_1 p109 q109
     cases e109
     replace hx109_0 := (HB.out.cell (World.block_lt_of_cell? w _ hx109_0)).trans hx109_0
     replace p109 := eq_true p109; replace q109 := eq_true q109; go_wp2_with (first | ((with_reducible refine gate_callee (f := 42) rfl ?_); refine goesL_ (some 13) rfl rfl Try.func42 (by kernel_rfl) rfl #[.string (rdOf ByteArray.empty l0 x8_1)] rfl (by (try simp only [List.map_toArray, List.map_cons, List.map_nil]); first | done | rfl | (simp only [List.length_drop, List.length_take]; rfl)) ?_; (with_reducible refine (symbol_may.calls (rdOf ByteArray.empty l0 x8_1) true _ A5.out).mono ?_); rintro e w' ⟨rfl, ⟨nd, rfl⟩⟩; refine ⟨_, rfl, ?_⟩) | ((with_reducible refine gate_builtin (b := .append) (xs := #[.tmp 14, .tmp 16]) rfl ?_); at_builtin; refine Kd.R_append Kd.string (w0 := w) w.heap.size rfl (.tmp 14) (.tmp 16) 22 9 (.string ⟨#[]⟩) 16 rfl Try.underlying22 info9 rfl (by decide) (by omega) u3 x3_1 (rdOf ByteArray.empty l0 x8_1) [.string (rdOf ByteArray.empty l0 x8_1)] (fun _ => True) (fun _ => False) rfl rfl ?aP (fun _ hk => hk.elim) ?aF ?aO ?aB ?aS ?aL ?_; (case aP => exact rfl); (case aB => exact (mvB HB.out)); (case aF => exact (fun _ _ => trivial)); (case aO => exact (mvR HO_3.out)); (case aS => exact (below_size (mvB HB.out))); (case aL => have := LMc7.out; omega); intro v112 w8 ho hb hg hat; rw [← Ny111.out] at ho; have n0_ := Aside0.mk (hb); have n1_ := Aside0.mk (ho); clear HB; clear HO_3; have HB := n0_; have HO113 := n1_; clear n0_ n1_; clear ho hb hg hat))
     go_roundg k1
     case measure => have := HK1.out; omega
     case rel => exact ⟨(y111), (wrap64 (x8_1 + 1)), (by first | rfl | (simp; done) | (simp [*]; done)), H', ⟨by have := HK1.out; omega⟩, ⟨by (with_reducible repeat (first | apply Kd.R_alloc | apply Kd.R_drewN | apply Kd.R_drew)); exact HO113.out⟩, ⟨mvB HB.out⟩⟩
    ·replace c6 := Bool.eq_false_iff.mpr c6; subst c6; have H1 : (symbol_Order.l0 k1 x3_1 l0 (l0.length : Int) (wrap64 (x8_1 + 1))) = some r := by rw [if_neg (show ¬ (false = true) by decide)] at H; exact H
     clear H; have H := H1; clear H1; have H' := Aside0.mk H
     clear H; have p109 : 0 ≤ (x8_1 : Int) := dtA; have q109 : x8_1 < (l0.length : Int) := dtA; obtain ⟨ad109, e109, hx109_0⟩ := Kd.at_string HR0.out x8_1 p109 q109
     cases e109
     replace hx109_0 := (HB.out.cell (World.block_lt_of_cell? w _ hx109_0)).trans hx109_0
     replace p109 := eq_true p109; replace q109 := eq_true q109; go_wp2_with (first | ((with_reducible refine gate_callee (f := 42) rfl ?_); refine goesL_ (some 13) rfl rfl Try.func42 (by kernel_rfl) rfl #[.string (rdOf ByteArray.empty l0 x8_1)] rfl (by (try simp only [List.map_toArray, List.map_cons, List.map_nil]); first | done | rfl | (simp only [List.length_drop, List.length_take]; rfl)) ?_; (with_reducible refine (symbol_may.calls (rdOf ByteArray.empty l0 x8_1) false _ A5.out).mono ?_); rintro e w' ⟨rfl, ⟨nd, rfl⟩⟩; refine ⟨_, rfl, ?_⟩))
     go_roundg k1
     case measure => have := HK1.out; omega
     case rel => exact ⟨(x3_1), (wrap64 (x8_1 + 1)), (by first | rfl | (simp; done) | (simp [*]; done)), H', ⟨by have := HK1.out; omega⟩, ⟨by (with_reducible repeat (first | apply Kd.R_alloc | apply Kd.R_drewN | apply Kd.R_drew)); exact HO_3.out⟩, ⟨mvB HB.out⟩⟩
   ·rw [if_neg c2] at H; have c2b0 : decide (x8_1 < (l0.length : Int)) = false := decide_eq_false c2; clear c2; replace H := Option.bind_eq_some_iff.mp H; obtain ⟨t114, A90, H⟩ := H; replace H : ((slices_Compact_string_string.f t114).bind fun t115 => (if 0 ≤ (mn (t115.length : Int) 255) then (if (mn (t115.length : Int) 255) ≤ (t115.length : Int) then (some (t115.take ((mn (t115.length : Int) 255) : Int).toNat)) else (none)) else (none))) = some r := H
    have A9 := Aside0.mk A90; clear A90; replace H := Option.bind_eq_some_iff.mp H; obtain ⟨t115, A100, H⟩ := H; replace H : (if 0 ≤ (mn (t115.length : Int) 255) then (if (mn (t115.length : Int) 255) ≤ (t115.length : Int) then (some (t115.take ((mn (t115.length : Int) 255) : Int).toNat)) else (none)) else (none)) = some r := H
    have A10 := Aside0.mk A100; clear A100; obtain ⟨ji11, hji11⟩ : ∃ j_ : Int, (mn (t115.length : Int) 255) = j_ := ⟨_, rfl⟩
    replace H : (if 0 ≤ (ji11) then (if (ji11) ≤ (t115.length : Int) then (some (t115.take ((ji11) : Int).toNat)) else (none)) else (none)) = some r := by first | (rw [hji11] at H; exact H) | (simp only [hji11] at H ⊢; exact H)
    (try rw [hji11] at A9)
    (try rw [hji11] at A10)
    (try (have hji11h : ji11 ≤ 255 := by (rw [← hji11]; unfold mn; (repeat' split) <;> omega)))
    (try (have hji11g : ji11 ≤ 64 := by omega))
    (try (have hji11l : 0 ≤ ji11 := by (rw [← hji11]; unfold mn; (repeat' split) <;> omega)))
    (try (have hji11m : 0 ≤ ji11 := by omega))
    have hji11_ : (if 255 < (t115.length : Int) then 255 else (t115.length : Int)) = ji11 := hji11; by_cases c12 : 0 ≤ (ji11)
    case neg => rw [if_neg c12] at H; exact absurd H (by simp)
    rw [if_pos c12] at H; have c12b0 := eq_true c12; have c12b1 : decide (0 ≤ (ji11)) = true := decide_eq_true c12; clear c12; by_cases c13 : (ji11) ≤ (t115.length : Int)
    case neg => rw [if_neg c13] at H; exact absurd H (by simp)
    rw [if_pos c13] at H; have c13b0 := eq_true c13; have c13b1 : decide ((ji11) ≤ (t115.length : Int)) = true := decide_eq_true c13; clear c13; obtain ⟨y118, hy118⟩ : ∃ y_ : List ByteArray, y_ = (t115.take ((ji11) : Int).toNat) := ⟨_, rfl⟩
    replace H : (some y118) = some r := by first | (rw [hy118]; with_reducible exact H) | (have H2_ := (Option.bind_some _ _).symm.trans H; rw [hy118]; with_reducible exact H2_) | (have H2_ := (Option.bind_some _ _).symm.trans H; with_reducible exact H2_) | with_reducible exact H | (rw [hy118]; exact H) | exact H
    have Ny118 := Aside0.mk hy118; clear hy118; obtain rfl := Option.some.inj H
    obtain ⟨Ao14, co14, eo14⟩ := Kd.R_slice HO_3.out
    subst eo14; go_wp2_with (first | ((with_reducible refine gate_callee (f := 43) rfl ?_); refine goesL_ (some 20) rfl rfl Try.func43 (by kernel_rfl) rfl #[.slice Ao14 x3_1.length co14] rfl (by (try simp only [List.map_toArray, List.map_cons, List.map_nil]); first | done | rfl | (simp only [List.length_drop, List.length_take]; rfl)) ?_; (with_reducible refine (slices_Sort_string_string.calls (fun k_ => some k_ = (.slice Ao14 x3_1.length co14 : Value).ownBlock) (.slice Ao14 x3_1.length co14) x3_1 t114 w _ ?side1 ?side2 A9.out).mono ?_); (case side1 => repeat (first | (with_reducible first | exact HB.out | apply below_alloc | apply pw_below_drewN | apply below_drew1) | exact HB.out)); (case side2 => exact Kd.R_tight rfl HO_3.out); rintro e w15 ⟨rfl, hy0, hb, hkp⟩; refine ⟨_, rfl, ?_⟩; have n0_ := Aside0.mk (Kd.R_reok rfl hy0 (fun k_ e_ => HO_3.out.1 k_ e_)); have n1_ := Aside0.mk (hb); clear HO_3; clear HB; have HO_3 := n0_; have HB := n1_; clear n0_ n1_; (try clear hb); (try clear hkp); (try clear hy0)) | ((with_reducible refine gate_callee (f := 44) rfl ?_); refine goesL_ (some 22) rfl rfl Try.func44 (by kernel_rfl) rfl #[.slice Ao14 x3_1.length co14] rfl (by (try simp only [List.map_toArray, List.map_cons, List.map_nil]); first | done | rfl | (simp only [List.length_drop, List.length_take]; rfl)) ?_; (with_reducible refine (slices_Compact_string_string.calls (fun k_ => some k_ = (.slice Ao14 x3_1.length co14 : Value).ownBlock) (.slice Ao14 x3_1.length co14) t114 t115 w _ ?side1 ?side2 A10.out).mono ?_); (case side1 => repeat (first | (with_reducible first | exact HB.out | apply below_alloc | apply pw_below_drewN | apply below_drew1) | exact HB.out)); (case side2 => exact Kd.R_tight rfl HO_3.out); rintro e w16 ⟨v116, rfl, ho0, hb, hkp⟩; refine ⟨_, rfl, ?_⟩; have n0_ := Aside0.mk (Kd.R_mono (ok' := fun k_ => True) ho0 (fun k_ hk_ => trivial)); have n1_ := Aside0.mk (hb); clear HB; clear HO_3; have HO117 := n0_; have HB := n1_; clear n0_ n1_; (try clear hb); (try clear hkp); (try clear ho0); obtain ⟨Ao17, co17, eo17⟩ := Kd.R_slice HO117.out; subst eo17; have q18 : ((ji11) : Int) ≤ ((t115.length : Int) : Int) := dtA; obtain ⟨i018, hi018, _, hsz18, _⟩ := info_parts info9; have hcut18 := cut_to (P := Try.prog) 22 9 .i64 Try.underlying22 hi018 Ao17 t115.length co17 (ji11) dtA q18 (Kd.R_reads' HO117.out).2.1; have hr18 := Kd.R_take (m := ((ji11) : Int).toNat) HO117.out (by omega); have hy18 : y118.length = ((ji11) : Int).toNat := (by rw [Ny118.out, List.length_take]; omega); rw [← Ny118.out] at hr18; rw [← hy18] at hr18 hcut18; clear hy18 hi018 hsz18 HO117; have HO120 := Aside0.mk hr18; clear hr18; replace q18 := eq_true q18))
    go_ret
    exact ⟨_, by first | rfl | (simp [errW_none, errW_some] <;> rfl) | (simp only [← hji11]; first | rfl | (simp [errW_none, errW_some] <;> rfl)) | (simp [*, errW_none, errW_some] <;> rfl) | exact congrArg (fun b_ => Ending.returned (.bool b_)) (decide_eq_decide.2 (by unfold wrap64; omega)), by (with_reducible repeat (first | apply Kd.R_alloc | apply Kd.R_drewN | apply Kd.R_drew)); exact HO120.out, mvB HB.out⟩

/-! ### cmp_isNaN_string: function 41 -/
def cmp_isNaN_string.f (a0 : ByteArray) : Option (Bool) := some (a0.toList != a0.toList)
theorem cmp_isNaN_string.calls (a0 : ByteArray) (r : Bool) (w : World) (h : cmp_isNaN_string.f a0 = some r) :
  Calls Try.prog 41 #[.string a0] w fun e w' => e = .returned (.bool r) ∧ Drawn0 w w' := by
 have H : (some (a0.toList != a0.toList)) = some r := h; clear h; obtain rfl := Option.some.inj H
 go_enter Try.func41, Try.ntmps41
 go_wp2
 go_ret
 exact exD

/-! ### cmp_Less_string: function 62 -/
def cmp_Less_string.f (a0 : ByteArray) (a1 : ByteArray) : Option (Bool) := (cmp_isNaN_string.f a0).bind fun t121 => (if t121 = true then ((cmp_isNaN_string.f a1).bind fun t122 => (if t122 = true then (some (Op.bytesLess a0.toList a1.toList)) else (some true))) else (some (Op.bytesLess a0.toList a1.toList)))
theorem cmp_Less_string.calls (a0 : ByteArray) (a1 : ByteArray) (r : Bool) (w : World) (h : cmp_Less_string.f a0 a1 = some r) :
  Calls Try.prog 62 #[.string a0, .string a1] w fun e w' => e = .returned (.bool r) ∧ Drawn0 w w' := by
 have H : ((cmp_isNaN_string.f a0).bind fun t121 => (if t121 = true then ((cmp_isNaN_string.f a1).bind fun t122 => (if t122 = true then (some (Op.bytesLess a0.toList a1.toList)) else (some true))) else (some (Op.bytesLess a0.toList a1.toList)))) = some r := h; clear h; replace H := Option.bind_eq_some_iff.mp H; obtain ⟨t121, A30, H⟩ := H; replace H : (if t121 = true then ((cmp_isNaN_string.f a1).bind fun t122 => (if t122 = true then (some (Op.bytesLess a0.toList a1.toList)) else (some true))) else (some (Op.bytesLess a0.toList a1.toList))) = some r := H
 have A3 := Aside0.mk A30; clear A30; by_cases c4 : t121 = true
 ·subst c4; have H1 : ((cmp_isNaN_string.f a1).bind fun t122 => (if t122 = true then (some (Op.bytesLess a0.toList a1.toList)) else (some true))) = some r := by rw [if_pos rfl] at H; exact H
  clear H; have H := H1; clear H1; replace H := Option.bind_eq_some_iff.mp H; obtain ⟨t122, A50, H⟩ := H; replace H : (if t122 = true then (some (Op.bytesLess a0.toList a1.toList)) else (some true)) = some r := H
  have A5 := Aside0.mk A50; clear A50; by_cases c6 : t122 = true
  ·subst c6; have H1 : (some (Op.bytesLess a0.toList a1.toList)) = some r := by rw [if_pos rfl] at H; exact H
   clear H; have H := H1; clear H1; obtain rfl := Option.some.inj H
   go_enter Try.func62, Try.ntmps62
   go_wp2_with (first | ((with_reducible refine gate_callee (f := 41) rfl ?_); refine goesL_ (some 6) rfl rfl Try.func41 (by kernel_rfl) rfl #[.string a0] rfl (by (try simp only [List.map_toArray, List.map_cons, List.map_nil]); first | done | rfl | (simp only [List.length_drop, List.length_take]; rfl)) ?_; (with_reducible refine (cmp_isNaN_string.calls a0 true _ A3.out).mono ?_); rintro e w' ⟨rfl, ⟨nd, rfl⟩⟩; refine ⟨_, rfl, ?_⟩) | (go_at_call 41; (with_reducible refine (cmp_isNaN_string.calls a1 true _ A5.out).mono ?_); rintro e w' ⟨rfl, ⟨nd, rfl⟩⟩))
   go_ret
   exact exD
  ·replace c6 := Bool.eq_false_iff.mpr c6; subst c6; have H1 : (some true) = some r := by rw [if_neg (show ¬ (false = true) by decide)] at H; exact H
   clear H; have H := H1; clear H1; obtain rfl := Option.some.inj H
   go_enter Try.func62, Try.ntmps62
   go_wp2_with (first | ((with_reducible refine gate_callee (f := 41) rfl ?_); refine goesL_ (some 6) rfl rfl Try.func41 (by kernel_rfl) rfl #[.string a0] rfl (by (try simp only [List.map_toArray, List.map_cons, List.map_nil]); first | done | rfl | (simp only [List.length_drop, List.length_take]; rfl)) ?_; (with_reducible refine (cmp_isNaN_string.calls a0 true _ A3.out).mono ?_); rintro e w' ⟨rfl, ⟨nd, rfl⟩⟩; refine ⟨_, rfl, ?_⟩) | (go_at_call 41; (with_reducible refine (cmp_isNaN_string.calls a1 false _ A5.out).mono ?_); rintro e w' ⟨rfl, ⟨nd, rfl⟩⟩))
   go_ret
   exact exD
 ·replace c4 := Bool.eq_false_iff.mpr c4; subst c4; have H1 : (some (Op.bytesLess a0.toList a1.toList)) = some r := by rw [if_neg (show ¬ (false = true) by decide)] at H; exact H
  clear H; have H := H1; clear H1; obtain rfl := Option.some.inj H
  go_enter Try.func62, Try.ntmps62
  go_wp2_with (first | ((with_reducible refine gate_callee (f := 41) rfl ?_); refine goesL_ (some 6) rfl rfl Try.func41 (by kernel_rfl) rfl #[.string a0] rfl (by (try simp only [List.map_toArray, List.map_cons, List.map_nil]); first | done | rfl | (simp only [List.length_drop, List.length_take]; rfl)) ?_; (with_reducible refine (cmp_isNaN_string.calls a0 false _ A3.out).mono ?_); rintro e w' ⟨rfl, ⟨nd, rfl⟩⟩; refine ⟨_, rfl, ?_⟩))
  go_ret
  exact exD

/-! ### slices_isNaN_string: function 63 -/
def slices_isNaN_string.f (a0 : ByteArray) : Option (Bool) := some (a0.toList != a0.toList)
theorem slices_isNaN_string.calls (a0 : ByteArray) (r : Bool) (w : World) (h : slices_isNaN_string.f a0 = some r) :
  Calls Try.prog 63 #[.string a0] w fun e w' => e = .returned (.bool r) ∧ Drawn0 w w' := by
 have H : (some (a0.toList != a0.toList)) = some r := h; clear h; obtain rfl := Option.some.inj H
 go_enter Try.func63, Try.ntmps63
 go_wp2
 go_ret
 exact exD

end Go.Proofs.Ytjodnhlfodmpeaa.Q
