-- PRINTED by print.py (a twelfth state) out of the translation. Not trusted: Lean checks it.
import Derived.Test.YtdccooaddoafnaaGreatDoorQx0
namespace Go.Proofs.YtdccooaddoafnaaGreatDoor.Q
open Go.RowKit Go.Proofs.YtdccooaddoafnaaGreatDoorW.PrintWords Go.Proofs.YtdccooaddoafnaaGreatDoorW.PrintLast Go.Proofs.YtdccooaddoafnaaGreatDoorW.PrintMore
attribute [local go_sem] str_gtr str_geq str_leq max2_int min2_int max_two min_two max_three min_three max_four min_four
set_option linter.unusedVariables false
set_option maxHeartbeats 8000000
set_option maxRecDepth 100000
set_option linter.unusedSimpArgs false

/-! ### need_yes: function 17 -/
def need_yes.f (a0 : Bool) : Option (Int) := if a0 = true then (some 1) else (some 0)
theorem need_yes.calls (a0 : Bool) (r : Int) (w : World) (h : need_yes.f a0 = some r) :
  Calls Tryz.prog 17 #[.bool a0] w fun e w' => e = .returned (.int .i64 r) ∧ Drawn0 w w' := by
 have H : (if a0 = true then (some 1) else (some 0)) = some r := h; clear h; by_cases c2 : a0 = true
 ·subst c2; have H1 : (some 1) = some r := by rw [if_pos rfl] at H; exact H
  clear H; have H := H1; clear H1; obtain rfl := Option.some.inj H
  go_enter Tryz.func17, Tryz.ntmps17
  go_wp2
  go_ret
  exact exD
 ·replace c2 := Bool.eq_false_iff.mpr c2; subst c2; have H1 : (some 0) = some r := by rw [if_neg (show ¬ (false = true) by decide)] at H; exact H
  clear H; have H := H1; clear H1; obtain rfl := Option.some.inj H
  go_enter Tryz.func17, Tryz.ntmps17
  go_wp2
  go_ret
  exact exD

/-! ### stringslite_HasPrefix: function 53 -/
def stringslite_HasPrefix.f (a0 : ByteArray) (a1 : ByteArray) : Option (Bool) := if (a0.size : Int) ≥ (a1.size : Int) then (if 0 ≤ (a1.size : Int) then (if (a1.size : Int) ≤ (a0.size : Int) then (some ((a0.extract 0 (a1.size)).toList == a1.toList)) else (none)) else (none)) else (some false)
theorem stringslite_HasPrefix.calls (a0 : ByteArray) (a1 : ByteArray) (r : Bool) (w : World) (h : stringslite_HasPrefix.f a0 a1 = some r) :
  Calls Tryz.prog 53 #[.string a0, .string a1] w fun e w' => e = .returned (.bool r) ∧ Drawn0 w w' := by
 have H : (if (a0.size : Int) ≥ (a1.size : Int) then (if 0 ≤ (a1.size : Int) then (if (a1.size : Int) ≤ (a0.size : Int) then (some ((a0.extract 0 (a1.size)).toList == a1.toList)) else (none)) else (none)) else (some false)) = some r := h; clear h; by_cases c3 : (a0.size : Int) ≥ (a1.size : Int)
 ·rw [if_pos c3] at H; have c3b0 : decide ((a1.size : Int) ≤ (a0.size : Int)) = true := decide_eq_true c3; have c3b1 : decide (a1.size ≤ a0.size) = true := decide_eq_true (Int.ofNat_le.mp c3)
  clear c3; by_cases c4 : 0 ≤ (a1.size : Int)
  case neg => rw [if_neg c4] at H; exact absurd H (by simp)
  rw [if_pos c4] at H; have c4b0 := eq_true c4; have c4b1 : decide (0 ≤ (a1.size : Int)) = true := decide_eq_true c4; clear c4; by_cases c5 : (a1.size : Int) ≤ (a0.size : Int)
  case neg => rw [if_neg c5] at H; exact absurd H (by simp)
  rw [if_pos c5] at H; have c5b0 := eq_true c5; have c5b1 : decide ((a1.size : Int) ≤ (a0.size : Int)) = true := decide_eq_true c5; clear c5; obtain rfl := Option.some.inj H
  go_enter Tryz.func53, Tryz.ntmps53
  go_wp2
  go_ret
  exact exD
 ·rw [if_neg c3] at H; have c3b0 : decide ((a1.size : Int) ≤ (a0.size : Int)) = false := decide_eq_false c3; have c3b1 : decide (a1.size ≤ a0.size) = false := decide_eq_false (fun h => c3 (Int.ofNat_le.mpr h))
  clear c3; obtain rfl := Option.some.inj H
  go_enter Tryz.func53, Tryz.ntmps53
  go_wp2
  go_ret
  exact exD

/-! ### strings_HasPrefix: function 33 -/
def strings_HasPrefix.f (a0 : ByteArray) (a1 : ByteArray) : Option (Bool) := (stringslite_HasPrefix.f a0 a1).bind fun t101 => (some t101)
theorem strings_HasPrefix.calls (a0 : ByteArray) (a1 : ByteArray) (r : Bool) (w : World) (h : strings_HasPrefix.f a0 a1 = some r) :
  Calls Tryz.prog 33 #[.string a0, .string a1] w fun e w' => e = .returned (.bool r) ∧ Drawn0 w w' := by
 have H : ((stringslite_HasPrefix.f a0 a1).bind fun t101 => (some t101)) = some r := h; clear h; replace H := Option.bind_eq_some_iff.mp H; obtain ⟨t101, A30, H⟩ := H; replace H : (some t101) = some r := H
 have A3 := Aside0.mk A30; clear A30; obtain rfl := Option.some.inj H
 go_enter Tryz.func33, Tryz.ntmps33
 go_wp2_with (first | ((with_reducible refine gate_callee (f := 53) rfl ?_); refine goesL_ (some 7) rfl rfl Tryz.func53 (by kernel_rfl) rfl #[.string a0, .string a1] rfl (by (try simp only [List.map_toArray, List.map_cons, List.map_nil]); first | done | rfl | (simp only [List.length_drop, List.length_take]; rfl)) ?_; (with_reducible refine (stringslite_HasPrefix.calls a0 a1 t101 _ A3.out).mono ?_); rintro e w' ⟨rfl, ⟨nd, rfl⟩⟩; refine ⟨_, rfl, ?_⟩))
 go_ret
 exact exD

/-! ### stringslite_HasSuffix: function 54 -/
def stringslite_HasSuffix.f (a0 : ByteArray) (a1 : ByteArray) : Option (Bool) := if (a0.size : Int) ≥ (a1.size : Int) then (if 0 ≤ (wrap64 ((a0.size : Int) - (a1.size : Int))) then (if (wrap64 ((a0.size : Int) - (a1.size : Int))) ≤ (a0.size : Int) then (some ((a0.extract ((wrap64 ((a0.size : Int) - (a1.size : Int))) : Int).toNat a0.size).toList == a1.toList)) else (none)) else (none)) else (some false)
theorem stringslite_HasSuffix.calls (a0 : ByteArray) (a1 : ByteArray) (r : Bool) (w : World) (h : stringslite_HasSuffix.f a0 a1 = some r) :
  Calls Tryz.prog 54 #[.string a0, .string a1] w fun e w' => e = .returned (.bool r) ∧ Drawn0 w w' := by
 have H : (if (a0.size : Int) ≥ (a1.size : Int) then (if 0 ≤ (wrap64 ((a0.size : Int) - (a1.size : Int))) then (if (wrap64 ((a0.size : Int) - (a1.size : Int))) ≤ (a0.size : Int) then (some ((a0.extract ((wrap64 ((a0.size : Int) - (a1.size : Int))) : Int).toNat a0.size).toList == a1.toList)) else (none)) else (none)) else (some false)) = some r := h; clear h; by_cases c3 : (a0.size : Int) ≥ (a1.size : Int)
 ·rw [if_pos c3] at H; have c3b0 : decide ((a1.size : Int) ≤ (a0.size : Int)) = true := decide_eq_true c3; have c3b1 : decide (a1.size ≤ a0.size) = true := decide_eq_true (Int.ofNat_le.mp c3)
  clear c3; obtain ⟨ji4, hji4⟩ : ∃ j_ : Int, (wrap64 ((a0.size : Int) - (a1.size : Int))) = j_ := ⟨_, rfl⟩
  replace H : (if 0 ≤ (ji4) then (if (ji4) ≤ (a0.size : Int) then (some ((a0.extract ((ji4) : Int).toNat a0.size).toList == a1.toList)) else (none)) else (none)) = some r := by first | (rw [hji4] at H; exact H) | (simp only [hji4] at H ⊢; exact H)
  have hji4w : (IntKind.i64.wrap ((a0.size : Int) - (a1.size : Int))) = ji4 := (i64_w _).trans hji4
  by_cases c5 : 0 ≤ (ji4)
  case neg => rw [if_neg c5] at H; exact absurd H (by simp)
  rw [if_pos c5] at H; have c5b0 := eq_true c5; have c5b1 : decide (0 ≤ (ji4)) = true := decide_eq_true c5; clear c5; by_cases c6 : (ji4) ≤ (a0.size : Int)
  case neg => rw [if_neg c6] at H; exact absurd H (by simp)
  rw [if_pos c6] at H; have c6b0 := eq_true c6; have c6b1 : decide ((ji4) ≤ (a0.size : Int)) = true := decide_eq_true c6; clear c6; obtain rfl := Option.some.inj H
  go_enter Tryz.func54, Tryz.ntmps54
  go_wp2
  go_ret
  exact ⟨by first | rfl | (simp; done) | (simp only [← hji4] <;> (first | rfl | simp)) | (simp [*]; done), by repeat (first | exact Drawn0.refl _ | apply Drawn0.step)⟩
 ·rw [if_neg c3] at H; have c3b0 : decide ((a1.size : Int) ≤ (a0.size : Int)) = false := decide_eq_false c3; have c3b1 : decide (a1.size ≤ a0.size) = false := decide_eq_false (fun h => c3 (Int.ofNat_le.mpr h))
  clear c3; obtain rfl := Option.some.inj H
  go_enter Tryz.func54, Tryz.ntmps54
  go_wp2
  go_ret
  exact exD

/-! ### strings_HasSuffix: function 34 -/
def strings_HasSuffix.f (a0 : ByteArray) (a1 : ByteArray) : Option (Bool) := (stringslite_HasSuffix.f a0 a1).bind fun t102 => (some t102)
theorem strings_HasSuffix.calls (a0 : ByteArray) (a1 : ByteArray) (r : Bool) (w : World) (h : strings_HasSuffix.f a0 a1 = some r) :
  Calls Tryz.prog 34 #[.string a0, .string a1] w fun e w' => e = .returned (.bool r) ∧ Drawn0 w w' := by
 have H : ((stringslite_HasSuffix.f a0 a1).bind fun t102 => (some t102)) = some r := h; clear h; replace H := Option.bind_eq_some_iff.mp H; obtain ⟨t102, A30, H⟩ := H; replace H : (some t102) = some r := H
 have A3 := Aside0.mk A30; clear A30; obtain rfl := Option.some.inj H
 go_enter Tryz.func34, Tryz.ntmps34
 go_wp2_with (first | ((with_reducible refine gate_callee (f := 54) rfl ?_); refine goesL_ (some 7) rfl rfl Tryz.func54 (by kernel_rfl) rfl #[.string a0, .string a1] rfl (by (try simp only [List.map_toArray, List.map_cons, List.map_nil]); first | done | rfl | (simp only [List.length_drop, List.length_take]; rfl)) ?_; (with_reducible refine (stringslite_HasSuffix.calls a0 a1 t102 _ A3.out).mono ?_); rintro e w' ⟨rfl, ⟨nd, rfl⟩⟩; refine ⟨_, rfl, ?_⟩))
 go_ret
 exact exD

/-! ### strings_Index: function 55 -/
-- told by hand
def strings_Index.f (a0 : ByteArray) (a1 : ByteArray) : Option Int := if a0.size < 4294967281 then some (Lib.index a0.data.toList a1.data.toList) else none
theorem strings_Index.calls (a0 : ByteArray) (a1 : ByteArray) (r : Int) (w : World) (hT : Facts w) (h : strings_Index.f a0 a1 = some r) :
  Calls Tryz.prog 55 #[.string a0, .string a1] w fun e w' => e = .returned (.int .i64 r) ∧ Drawn0 w w' := by
 unfold strings_Index.f at h
 by_cases hs : a0.size < 4294967281
 case neg => rw [if_neg hs] at h; cases h
 rw [if_pos hs] at h; obtain rfl := Option.some.inj h
 obtain ⟨m, hm⟩ := hT.maxLen; refine (Tryz.strings_Index a0 a1 m w hs hm).mono ?_
 rintro e w' ⟨rfl, rfl⟩
 exact ⟨rfl, Drawn0.refl _⟩

/-! ### strings_Contains: function 35 -/
def strings_Contains.f (a0 : ByteArray) (a1 : ByteArray) : Option (Bool) := (strings_Index.f a0 a1).bind fun t103 => (some (decide (t103 ≥ 0)))
theorem strings_Contains.calls (a0 : ByteArray) (a1 : ByteArray) (r : Bool) (w : World) (hT : Facts w) (h : strings_Contains.f a0 a1 = some r) :
  Calls Tryz.prog 35 #[.string a0, .string a1] w fun e w' => e = .returned (.bool r) ∧ Drawn0 w w' := by
 have HT := Aside0.mk hT; clear hT; have H : ((strings_Index.f a0 a1).bind fun t103 => (some (decide (t103 ≥ 0)))) = some r := h; clear h; replace H := Option.bind_eq_some_iff.mp H; obtain ⟨t103, A30, H⟩ := H; replace H : (some (decide (t103 ≥ 0))) = some r := H
 have A3 := Aside0.mk A30; clear A30; obtain rfl := Option.some.inj H
 go_enter Tryz.func35, Tryz.ntmps35
 go_wp2_with (first | ((with_reducible refine gate_callee (f := 55) rfl ?_); refine goesL_ (some 7) rfl rfl Tryz.func55 (by kernel_rfl) rfl #[.string a0, .string a1] rfl (by (try simp only [List.map_toArray, List.map_cons, List.map_nil]); first | done | rfl | (simp only [List.length_drop, List.length_take]; rfl)) ?_; (with_reducible refine (strings_Index.calls a0 a1 t103 _ ?side1 A3.out).mono ?_); (case side1 => first | exact HT.out | exact Facts.below HT.out (mvB HB.out) | exact Facts.below HT.out HB.out | (repeat (first | exact HT.out | refine Facts.drewN ?_ _ | refine Facts.drew ?_ | refine Facts.alloc ?_ _))); rintro e w' ⟨rfl, ⟨nd, rfl⟩⟩; refine ⟨_, rfl, ?_⟩))
 go_ret
 exact exD

/-! ### like_sign: function 56 -/
def like_sign.f (a0 : Int) : Option (Int) := if a0 = 37 then (some 257) else (if a0 = 95 then (some 256) else (some (wrap64 (a0))))
theorem like_sign.calls (a0 : Int) (r : Int) (w : World) (h : like_sign.f a0 = some r) :
  Calls Tryz.prog 56 #[.int .u8 a0] w fun e w' => e = .returned (.int .i64 r) ∧ Drawn0 w w' := by
 have H : (if a0 = 37 then (some 257) else (if a0 = 95 then (some 256) else (some (wrap64 (a0))))) = some r := h; clear h; by_cases c2 : a0 = 37
 ·rw [if_pos c2] at H; have c2b0 : (a0 == 37) = true := beq_iff_eq.mpr c2; have c2b1 : (a0 != 37) = false := bne_eq_false_iff_eq.mpr c2; clear c2; obtain rfl := Option.some.inj H
  go_enter Tryz.func56, Tryz.ntmps56
  go_wp2
  go_ret
  exact exD
 ·rw [if_neg c2] at H; have c2b0 : (a0 == 37) = false := beq_eq_false_iff_ne.mpr c2; have c2b1 : (a0 != 37) = true := bne_iff_ne.mpr c2; by_cases c3 : a0 = 95
  ·rw [if_pos c3] at H; have c3b0 : (a0 == 95) = true := beq_iff_eq.mpr c3; have c3b1 : (a0 != 95) = false := bne_eq_false_iff_eq.mpr c3; clear c3; obtain rfl := Option.some.inj H
   go_enter Tryz.func56, Tryz.ntmps56
   go_wp2
   go_ret
   exact exD
  ·rw [if_neg c3] at H; have c3b0 : (a0 == 95) = false := beq_eq_false_iff_ne.mpr c3; have c3b1 : (a0 != 95) = true := bne_iff_ne.mpr c3; obtain rfl := Option.some.inj H
   go_enter Tryz.func56, Tryz.ntmps56
   go_wp2
   go_ret
   exact exD

/-! ### like_Parse: function 36 -/
mutual
def like_Parse.j0 : Nat → ByteArray → Int → Bool → Option (List Int × Int)
 | 0, _, _, _ => none
 | k + 1, x0, x1, x18 => if x18 = true then (some (([] : List Int), 8)) else (like_Parse.l0 k x0 x1 ([] : List Int) 0)
def like_Parse.l0 : Nat → ByteArray → Int → List Int → Int → Option (List Int × Int)
 | 0, _, _, _, _ => none
 | k + 1, x0, x1, x6, x7 => if x7 < (x0.size : Int) then (if 0 ≤ x7 then (if (wrap64 (bt x0 x7)) = x1 then (if (wrap64 (x7 + 1)) = (x0.size : Int) then (some (([] : List Int), 8)) else (if 0 ≤ (wrap64 (x7 + 1)) then (if (wrap64 (x7 + 1)) < (x0.size : Int) then (if x6.length < 17592186044416 then (like_Parse.l0 k x0 x1 (x6 ++ [wrap64 (bt x0 (wrap64 (x7 + 1)))]) (wrap64 ((wrap64 (x7 + 1)) + 1))) else (none)) else (none)) else (none))) else ((like_sign.f (bt x0 x7)).bind fun t107 => (if x6.length < 17592186044416 then (like_Parse.l0 k x0 x1 (x6 ++ [t107]) (wrap64 (x7 + 1))) else (none)))) else (none)) else (some (x6, 0))
end
def like_Parse.f (k : Nat) (a0 : ByteArray) (a1 : Int) : Option (List Int × Int) := if a1 < (-1) then (like_Parse.j0 k a0 a1 true) else (if a1 > 255 then (like_Parse.j0 k a0 a1 true) else (like_Parse.j0 k a0 a1 (decide ((a0.size : Int) > 4096))))
theorem like_Parse.mono_l : ∀ k, (∀ y0 y1 y2, LeO (like_Parse.j0 k y0 y1 y2) (like_Parse.j0 (k + 1) y0 y1 y2)) ∧ (∀ y0 y1 y2 y3, LeO (like_Parse.l0 k y0 y1 y2 y3) (like_Parse.l0 (k + 1) y0 y1 y2 y3))
 | 0 => ⟨fun _ _ _ r h => by simp [like_Parse.j0] at h, fun _ _ _ _ r h => by simp [like_Parse.l0] at h⟩
 | k + 1 => by
  obtain ⟨ih0, ih1⟩ := like_Parse.mono_l k
  refine ⟨?_, ?_⟩
  ·intro y0 y1 y2
   unfold like_Parse.j0
   repeat' first
   | (with_reducible exact ih0 _ _ _)
   | (with_reducible exact ih1 _ _ _ _)
   | (with_reducible exact LeO.refl _)
   | (with_reducible exact LeO.none _)
   | (with_reducible refine LeO.ite ?_ ?_)
   | (with_reducible refine LeO.bind ?_ (fun _ => ?_))
   | exact ih0 _ _ _
   | exact ih1 _ _ _ _
   | exact LeO.none _
   | refine LeO.ite ?_ ?_
   | refine LeO.bind ?_ (fun _ => ?_)
  ·intro y0 y1 y2 y3
   unfold like_Parse.l0
   repeat' first
   | (with_reducible exact ih0 _ _ _)
   | (with_reducible exact ih1 _ _ _ _)
   | (with_reducible exact LeO.refl _)
   | (with_reducible exact LeO.none _)
   | (with_reducible refine LeO.ite ?_ ?_)
   | (with_reducible refine LeO.bind ?_ (fun _ => ?_))
   | exact ih0 _ _ _
   | exact ih1 _ _ _ _
   | exact LeO.none _
   | refine LeO.ite ?_ ?_
   | refine LeO.bind ?_ (fun _ => ?_)
theorem like_Parse.mono : ∀ a0 a1 k, LeO (like_Parse.f k a0 a1) (like_Parse.f (k + 1) a0 a1) := by
 intro a0 a1 k
 obtain ⟨ih0, ih1⟩ := like_Parse.mono_l k
 unfold like_Parse.f
 repeat' first
   | (with_reducible exact ih0 _ _ _)
   | (with_reducible exact ih1 _ _ _ _)
   | (with_reducible exact LeO.refl _)
   | (with_reducible exact LeO.none _)
   | (with_reducible refine LeO.ite ?_ ?_)
   | (with_reducible refine LeO.bind ?_ (fun _ => ?_))
   | exact ih0 _ _ _
   | exact ih1 _ _ _ _
   | exact LeO.none _
   | refine LeO.ite ?_ ?_
   | refine LeO.bind ?_ (fun _ => ?_)
theorem like_Parse.calls (k : Nat) (a0 : ByteArray) (a1 : Int) (r1 : List Int) (r2 : Int) (w : World) (h : like_Parse.f k a0 a1 = some (r1, r2)) :
  Calls Tryz.prog 36 #[.string a0, .int .i64 a1] w fun e w' => ∃ v0_ : Value, e = .returned (.tuple #[v0_, .int .i64 r2]) ∧ Kd.R (Kd.int .i64) 3 w' w.heap.size (fun _ => True) v0_ r1 ∧ Below w.heap.size w w' := by
 have HB := Aside0.mk (Below.refl w.heap.size w)
 have H : (if a1 < (-1) then (like_Parse.j0 k a0 a1 true) else (if a1 > 255 then (like_Parse.j0 k a0 a1 true) else (like_Parse.j0 k a0 a1 (decide ((a0.size : Int) > 4096))))) = some (r1, r2) := h; clear h; have HC3 := Aside0.mk H; clear H; go_enter Tryz.func36, Tryz.ntmps36
 go_upto_region 1 with (fail)
 go_cut [18] (fun v18 wc => ∃ (kq : Nat) (x18_2 : Bool), v18 = .bool x18_2 ∧ Aside0 (like_Parse.j0 kq a0 a1 x18_2 = some (r1, r2)) ∧ Aside0 (kq ≤ k) ∧ Aside0 (Below w.heap.size w wc))
 case first =>
  have H := HC3.out; clear HC3; by_cases c4 : a1 < (-1)
  ·rw [if_pos c4] at H; have c4b0 : decide (a1 < (-1)) = true := decide_eq_true c4; clear c4; (first | rw [c4b0] | (simp only [i64_w, i32_w]; rw [c4b0]) | skip)
   have H' := Aside0.mk H
   clear H; go_wp2
   go_meet
   case rel => exact ⟨_, (true), (by first | rfl | (simp; done) | (simp [*]; done)), H', ⟨by first | omega | exact Nat.le_refl _⟩, ⟨mvB HB.out⟩⟩
  ·rw [if_neg c4] at H; have c4b0 : decide (a1 < (-1)) = false := decide_eq_false c4; clear c4; (first | rw [c4b0] | (simp only [i64_w, i32_w]; rw [c4b0]) | skip)
   by_cases c5 : a1 > 255
   ·rw [if_pos c5] at H; have c5b0 : decide (255 < a1) = true := decide_eq_true c5; clear c5; have H' := Aside0.mk H
    clear H; go_wp2
    go_meet
    case rel => exact ⟨_, (true), (by first | rfl | (simp; done) | (simp [*]; done)), H', ⟨by first | omega | exact Nat.le_refl _⟩, ⟨mvB HB.out⟩⟩
   ·rw [if_neg c5] at H; have c5b0 : decide (255 < a1) = false := decide_eq_false c5; clear c5; have H' := Aside0.mk H
    clear H; go_wp2
    go_meet
    case rel => exact ⟨_, (decide ((a0.size : Int) > 4096)), (by first | rfl | (simp; done) | (simp [*]; done)), H', ⟨by first | omega | exact Nat.le_refl _⟩, ⟨mvB HB.out⟩⟩
 case rest =>
  clear HC3; try clear p2
  try clear c3
  try clear c4
  try clear c4b0
  try clear c5
  try clear c5b0
  obtain ⟨kq, x18_2, rfl, HA, HJ2, HB⟩ := hcut
  cases kq with
  | zero => exact absurd HA.out (by simp [like_Parse.j0])
  | succ kj2 =>
   have H := HA.out; clear HA; simp only [like_Parse.j0] at H
   by_cases c6 : x18_2 = true
   ·subst c6; have H1 : (some (([] : List Int), 8)) = some (r1, r2) := by rw [if_pos rfl] at H; exact H
    clear H; have H := H1; clear H1; simp only [Option.some.injEq, Prod.mk.injEq] at H
    obtain ⟨rfl, rfl⟩ := H; go_wp2
    go_ret2
    exact ⟨_, by first | rfl | (simp [errW_none, errW_some] <;> rfl) | (simp [*, errW_none, errW_some] <;> rfl) | exact congrArg (fun b_ => Ending.returned (.bool b_)) (decide_eq_decide.2 (by unfold wrap64; omega)), by first | exact Kd.R_nil _ _ _ _ _ | exact Kd.N_nil _ _ _ _ _ | exact Kd.V_nil _ _ _ _ _ | exact Kd.Q_nil _ _ _ _ _ | exact Kd.S_nil _ _ _ _ _, mvB HB.out⟩
   ·replace c6 := Bool.eq_false_iff.mpr c6; subst c6; have H1 : (like_Parse.l0 kj2 a0 a1 ([] : List Int) 0) = some (r1, r2) := by rw [if_neg (show ¬ (false = true) by decide)] at H; exact H
    clear H; have H := H1; clear H1; have H' := Aside0.mk H
    clear H; go_wp2
    go_loopg [6, 7] kj2 (fun kq v6 v7 w' => ∃ (x6_2 : List Int) (x7_2 : Int), v7 = .int .i64 x7_2 ∧ Aside0 (like_Parse.l0 kq a0 a1 x6_2 x7_2 = some (r1, r2)) ∧ Aside0 (kq ≤ kj2) ∧ Aside0 (Kd.R (Kd.int .i64) 3 w' w.heap.size (fun _ => True) v6 x6_2) ∧ Aside0 (Below w.heap.size w w'))
    case atStart => exact ⟨(([] : List Int)), (0), (by first | rfl | (simp; done) | (simp [*]; done)), H', ⟨Nat.le_refl _⟩, ⟨by first | exact Kd.R_nil _ _ _ _ _ | exact Kd.N_nil _ _ _ _ _ | exact Kd.V_nil _ _ _ _ _ | exact Kd.Q_nil _ _ _ _ _ | exact Kd.S_nil _ _ _ _ _⟩, ⟨mvB HB.out⟩⟩
    case round =>
     clear H'; (try clear p2); (try clear c3); (try clear c4); (try clear c4b0); (try clear c5); (try clear c5b0); (try clear c6); (try clear p6); (try clear p2); obtain ⟨x6_2, x7_2, rfl, HA, HK2, HO_6, HB⟩ := hrel
     cases gk with
     | zero => exact absurd HA.out (by simp [like_Parse.l0])
     | succ k2 =>
      have H := HA.out; clear HA; simp only [like_Parse.l0] at H
      by_cases c7 : x7_2 < (a0.size : Int)
      ·rw [if_pos c7] at H; have c7b0 : decide (x7_2 < (a0.size : Int)) = true := decide_eq_true c7; clear c7; by_cases c8 : 0 ≤ x7_2
       case neg => rw [if_neg c8] at H; exact absurd H (by simp)
       rw [if_pos c8] at H; have c8b0 : decide (0 ≤ x7_2) = true := decide_eq_true c8; clear c8; by_cases c10 : (wrap64 (bt a0 x7_2)) = a1
       ·rw [if_pos c10] at H; have c10b0 : ((wrap64 (bt a0 x7_2)) == a1) = true := beq_iff_eq.mpr c10; have c10b1 : ((wrap64 (bt a0 x7_2)) != a1) = false := bne_eq_false_iff_eq.mpr c10; clear c10; by_cases c11 : (wrap64 (x7_2 + 1)) = (a0.size : Int)
        ·rw [if_pos c11] at H; have c11b0 : ((wrap64 (x7_2 + 1)) == (a0.size : Int)) = true := beq_iff_eq.mpr c11; have c11b1 : ((wrap64 (x7_2 + 1)) != (a0.size : Int)) = false := bne_eq_false_iff_eq.mpr c11; clear c11; simp only [Option.some.injEq, Prod.mk.injEq] at H
         obtain ⟨rfl, rfl⟩ := H; have p9 : 0 ≤ (x7_2 : Int) := dtA; have q9 : x7_2 < (a0.size : Int) := dtA; have hx9 := bt_at a0 x7_2; replace p9 := eq_true p9; replace q9 := eq_true q9; go_wp2
         go_ret2
         exact ⟨_, by first | rfl | (simp [errW_none, errW_some] <;> rfl) | (simp [*, errW_none, errW_some] <;> rfl) | exact congrArg (fun b_ => Ending.returned (.bool b_)) (decide_eq_decide.2 (by unfold wrap64; omega)), by first | exact Kd.R_nil _ _ _ _ _ | exact Kd.N_nil _ _ _ _ _ | exact Kd.V_nil _ _ _ _ _ | exact Kd.Q_nil _ _ _ _ _ | exact Kd.S_nil _ _ _ _ _, mvB HB.out⟩
        ·rw [if_neg c11] at H; have c11b0 : ((wrap64 (x7_2 + 1)) == (a0.size : Int)) = false := beq_eq_false_iff_ne.mpr c11; have c11b1 : ((wrap64 (x7_2 + 1)) != (a0.size : Int)) = true := bne_iff_ne.mpr c11; obtain ⟨ji12, hji12⟩ : ∃ j_ : Int, (wrap64 (x7_2 + 1)) = j_ := ⟨_, rfl⟩
         replace H : (if 0 ≤ (ji12) then (if (ji12) < (a0.size : Int) then (if x6_2.length < 17592186044416 then (like_Parse.l0 k2 a0 a1 (x6_2 ++ [wrap64 (bt a0 (ji12))]) (wrap64 ((ji12) + 1))) else (none)) else (none)) else (none)) = some (r1, r2) := by first | (rw [hji12] at H; exact H) | (simp only [hji12] at H ⊢; exact H)
         (try rw [hji12] at c11b0)
         (try rw [hji12] at c11b1)
         have hji12w : (IntKind.i64.wrap (x7_2 + 1)) = ji12 := (i64_w _).trans hji12
         by_cases c13 : 0 ≤ (ji12)
         case neg => rw [if_neg c13] at H; exact absurd H (by simp)
         rw [if_pos c13] at H; have c13b0 : decide (0 ≤ (ji12)) = true := decide_eq_true c13; clear c13; by_cases c14 : (ji12) < (a0.size : Int)
         case neg => rw [if_neg c14] at H; exact absurd H (by simp)
         rw [if_pos c14] at H; have c14b0 : decide ((ji12) < (a0.size : Int)) = true := decide_eq_true c14; clear c14; by_cases c16 : x6_2.length < 17592186044416
         case neg => rw [if_neg c16] at H; exact absurd H (by simp)
         rw [if_pos c16] at H; have LMc16 := Aside0.mk c16; clear c16; obtain ⟨y104, hy104⟩ : ∃ y_ : List Int, y_ = (x6_2 ++ [wrap64 (bt a0 (ji12))]) := ⟨_, rfl⟩
         replace H : (like_Parse.l0 k2 a0 a1 y104 (wrap64 ((ji12) + 1))) = some (r1, r2) := by first | (rw [hy104]; with_reducible exact H) | (have H2_ := (Option.bind_some _ _).symm.trans H; rw [hy104]; with_reducible exact H2_) | (have H2_ := (Option.bind_some _ _).symm.trans H; with_reducible exact H2_) | with_reducible exact H | (rw [hy104]; exact H) | exact H
         have Ny104 := Aside0.mk hy104; clear hy104; have H' := Aside0.mk H
         clear H; have p9 : 0 ≤ (x7_2 : Int) := dtA; have q9 : x7_2 < (a0.size : Int) := dtA; have hx9 := bt_at a0 x7_2; replace p9 := eq_true p9; replace q9 := eq_true q9; have p15 : 0 ≤ ((ji12) : Int) := dtA; have q15 : (ji12) < (a0.size : Int) := dtA; have hx15 := bt_at a0 (ji12)
         replace p15 := eq_true p15; replace q15 := eq_true q15; go_wp2_with (first | ((with_reducible refine gate_builtin (b := .append) (xs := #[.tmp 44, .tmp 49]) rfl ?_); (try (refine gate_guard (by rfl) ?_; dsimp only)); at_builtin; refine Kd.R_append (Kd.int .i64) (w0 := w) w.heap.size rfl (.tmp 44) (.tmp 49) 40 3 (.int .i64 0) 8 rfl Tryz.underlying40 info3 rfl (by decide) (by omega) u6 x6_2 (wrap64 (bt a0 (ji12))) [.int .i64 (wrap64 (bt a0 (ji12)))] (fun _ => True) (fun _ => False) rfl rfl ?aP (fun _ hk => hk.elim) ?aF ?aO ?aB ?aS ?aL ?_; (case aP => exact rfl); (case aB => exact (mvB HB.out)); (case aF => exact (fun _ _ => trivial)); (case aO => exact (mvR HO_6.out)); (case aS => exact (below_size (mvB HB.out))); (case aL => have := LMc16.out; omega); intro v105 w17 ho hb hg hat; rw [← Ny104.out] at ho; have n0_ := Aside0.mk (hb); have n1_ := Aside0.mk (ho); clear HB; clear HO_6; have HB := n0_; have HO106 := n1_; clear n0_ n1_; clear ho hb hg hat))
         go_roundg k2
         case measure => have := HJ2.out; have := HK2.out; omega
         case rel => exact ⟨(y104), (wrap64 ((ji12) + 1)), (by first | rfl | (simp; done) | (simp only [← hji12] <;> (first | rfl | simp)) | (simp [*]; done)), H', ⟨by have := HJ2.out; have := HK2.out; omega⟩, ⟨by (with_reducible repeat (first | apply Kd.R_alloc | apply Kd.R_drewN | apply Kd.R_drew)); exact HO106.out⟩, ⟨mvB HB.out⟩⟩
       ·rw [if_neg c10] at H; have c10b0 : ((wrap64 (bt a0 x7_2)) == a1) = false := beq_eq_false_iff_ne.mpr c10; have c10b1 : ((wrap64 (bt a0 x7_2)) != a1) = true := bne_iff_ne.mpr c10; replace H := Option.bind_eq_some_iff.mp H; obtain ⟨t107, A190, H⟩ := H; replace H : (if x6_2.length < 17592186044416 then (like_Parse.l0 k2 a0 a1 (x6_2 ++ [t107]) (wrap64 (x7_2 + 1))) else (none)) = some (r1, r2) := H
        have A19 := Aside0.mk A190; clear A190; by_cases c20 : x6_2.length < 17592186044416
        case neg => rw [if_neg c20] at H; exact absurd H (by simp)
        rw [if_pos c20] at H; have LMc20 := Aside0.mk c20; clear c20; obtain ⟨y108, hy108⟩ : ∃ y_ : List Int, y_ = (x6_2 ++ [t107]) := ⟨_, rfl⟩
        replace H : (like_Parse.l0 k2 a0 a1 y108 (wrap64 (x7_2 + 1))) = some (r1, r2) := by first | (rw [hy108]; with_reducible exact H) | (have H2_ := (Option.bind_some _ _).symm.trans H; rw [hy108]; with_reducible exact H2_) | (have H2_ := (Option.bind_some _ _).symm.trans H; with_reducible exact H2_) | with_reducible exact H | (rw [hy108]; exact H) | exact H
        have Ny108 := Aside0.mk hy108; clear hy108; have H' := Aside0.mk H
        clear H; have p9 : 0 ≤ (x7_2 : Int) := dtA; have q9 : x7_2 < (a0.size : Int) := dtA; have hx9 := bt_at a0 x7_2; replace p9 := eq_true p9; replace q9 := eq_true q9; have p18 : 0 ≤ (x7_2 : Int) := dtA; have q18 : x7_2 < (a0.size : Int) := dtA; have hx18 := bt_at a0 x7_2; replace p18 := eq_true p18; replace q18 := eq_true q18; go_wp2_with (first | ((with_reducible refine gate_callee (f := 56) rfl ?_); refine goesL_ (some 35) rfl rfl Tryz.func56 (by kernel_rfl) rfl #[.int .u8 (bt a0 x7_2)] rfl (by (try simp only [List.map_toArray, List.map_cons, List.map_nil]); first | done | rfl | (simp only [List.length_drop, List.length_take]; rfl)) ?_; (with_reducible refine (like_sign.calls (bt a0 x7_2) t107 _ A19.out).mono ?_); rintro e w' ⟨rfl, ⟨nd, rfl⟩⟩; refine ⟨_, rfl, ?_⟩) | ((with_reducible refine gate_builtin (b := .append) (xs := #[.tmp 31, .tmp 36]) rfl ?_); (try (refine gate_guard (by rfl) ?_; dsimp only)); at_builtin; refine Kd.R_append (Kd.int .i64) (w0 := w) w.heap.size rfl (.tmp 31) (.tmp 36) 40 3 (.int .i64 0) 8 rfl Tryz.underlying40 info3 rfl (by decide) (by omega) u6 x6_2 t107 [.int .i64 t107] (fun _ => True) (fun _ => False) rfl rfl ?aP (fun _ hk => hk.elim) ?aF ?aO ?aB ?aS ?aL ?_; (case aP => exact rfl); (case aB => exact (mvB HB.out)); (case aF => exact (fun _ _ => trivial)); (case aO => exact (mvR HO_6.out)); (case aS => exact (below_size (mvB HB.out))); (case aL => have := LMc20.out; omega); intro v109 w21 ho hb hg hat; rw [← Ny108.out] at ho; have n0_ := Aside0.mk (hb); have n1_ := Aside0.mk (ho); clear HB; clear HO_6; have HB := n0_; have HO110 := n1_; clear n0_ n1_; clear ho hb hg hat))
        go_roundg k2
        case measure => have := HJ2.out; have := HK2.out; omega
        case rel => exact ⟨(y108), (wrap64 (x7_2 + 1)), (by first | rfl | (simp; done) | (simp [*]; done)), H', ⟨by have := HJ2.out; have := HK2.out; omega⟩, ⟨by (with_reducible repeat (first | apply Kd.R_alloc | apply Kd.R_drewN | apply Kd.R_drew)); exact HO110.out⟩, ⟨mvB HB.out⟩⟩
      ·rw [if_neg c7] at H; have c7b0 : decide (x7_2 < (a0.size : Int)) = false := decide_eq_false c7; clear c7; simp only [Option.some.injEq, Prod.mk.injEq] at H
       obtain ⟨rfl, rfl⟩ := H; go_wp2
       go_ret2
       exact ⟨_, by first | rfl | (simp [errW_none, errW_some] <;> rfl) | (simp [*, errW_none, errW_some] <;> rfl) | exact congrArg (fun b_ => Ending.returned (.bool b_)) (decide_eq_decide.2 (by unfold wrap64; omega)), by (with_reducible repeat (first | apply Kd.R_alloc | apply Kd.R_drewN | apply Kd.R_drew)); exact HO_6.out, mvB HB.out⟩

/-! ### like_Match: function 37 -/
-- told by hand
def like_Match.f (l0 : List Int) (a1 : ByteArray) : Option (Bool) := if l0.length ≤ 1152921504606846976 then (if a1.size ≤ 1152921504606846976 then some (HopPure.lm l0 a1.data.toList) else none) else none
theorem bt_list (s : ByteArray) (i : Int) (h : i.toNat < s.data.toList.length) : bt s i = ((s.data.toList[i.toNat]).toNat : Int) := by
 have h2 : i.toNat < s.size := by simpa using h
 unfold bt
 rw [dif_pos h2]
 rfl
theorem rd_list (l : List Int) (i : Int) (h : i.toNat < l.length) : rd l i = l[i.toNat] := by
 simp [rd, List.getD, h]
def mbk (back : Int) : Option Nat := if back < 0 then none else some back.toNat
/-- The search's state: bounds, that it is sound, what it still has to tell. -/
structure InvMatch (l : List Int) (s : ByteArray) (r : Bool) (at_ i back from_ : Int) : Prop where
 a0 : 0 ≤ at_
 i0 : 0 ≤ i
 b0 : -1 ≤ back
 f0 : 0 ≤ from_
 ok : HopPure.Ok l s.data.toList at_.toNat i.toNat (mbk back) from_.toNat
 cur : HopPure.cur l s.data.toList at_.toNat i.toNat (mbk back) from_.toNat = r
theorem toNat_succ {i : Int} (h : 0 ≤ i) : (i + 1).toNat = i.toNat + 1 := by omega
theorem dsize (s : ByteArray) : s.data.toList.length = s.size := by simp
theorem InvMatch.a1 {l : List Int} {s : ByteArray} {r : Bool} {at_ i back from_ : Int} (h : InvMatch l s r at_ i back from_) : at_ ≤ s.size := by have := h.ok.at_le; rw [dsize] at this; have := h.a0; omega
theorem InvMatch.i1 {l : List Int} {s : ByteArray} {r : Bool} {at_ i back from_ : Int} (h : InvMatch l s r at_ i back from_) : i ≤ l.length := by have := h.ok.i_le; have := h.i0; omega
theorem InvMatch.f1 {l : List Int} {s : ByteArray} {r : Bool} {at_ i back from_ : Int} (h : InvMatch l s r at_ i back from_) : from_ ≤ at_ := by have := h.ok.fr; have := h.f0; have := h.a0; omega
theorem InvMatch.star {l : List Int} {s : ByteArray} {r : Bool} {at_ i back from_ : Int} (h : InvMatch l s r at_ i back from_) (hi : i < (l.length : Int)) (he : rd l i = 257) : InvMatch l s r at_ (i + 1) (i + 1) at_ := by
 have hi0 := h.i0; have hin : i.toNat < l.length := by omega
 rw [rd_list l i hin] at he
 have hb : mbk (i + 1) = some (i.toNat + 1) := by unfold mbk; rw [if_neg (by omega), toNat_succ hi0]
 obtain ⟨h1, h2⟩ := h.ok.star hin he
 exact ⟨h.a0, by omega, by omega, h.a0, by rw [hb, toNat_succ hi0]; exact h1, by rw [hb, toNat_succ hi0, h2]; exact h.cur⟩
theorem InvMatch.step {l : List Int} {s : ByteArray} {r : Bool} {at_ i back from_ : Int} (h : InvMatch l s r at_ i back from_) (hi : i < (l.length : Int)) (ha : at_ < (s.size : Int)) (h1 : ¬ rd l i = 257) (h2 : rd l i = 256 ∨ rd l i = bt s at_) : InvMatch l s r (at_ + 1) (i + 1) back from_ := by
 have hi0 := h.i0; have ha0 := h.a0; have hin : i.toNat < l.length := by omega
 have han : at_.toNat < s.data.toList.length := by rw [dsize]; omega
 rw [rd_list l i hin] at h1 h2
 rw [bt_list s at_ han] at h2
 obtain ⟨h3, h4⟩ := h.ok.step hin han h1 h2
 exact ⟨by omega, by omega, h.b0, h.f0, by rw [toNat_succ hi0, toNat_succ ha0]; exact h3, by rw [toNat_succ hi0, toNat_succ ha0, h4]; exact h.cur⟩
theorem InvMatch.no {l : List Int} {s : ByteArray} {r : Bool} {at_ i back from_ : Int} (h : InvMatch l s r at_ i back from_) (ha : at_ < (s.size : Int)) (hn : i < (l.length : Int) → ¬ rd l i = 257 ∧ ¬ (rd l i = 256 ∨ rd l i = bt s at_)) : HopPure.lm (l.drop i.toNat) (s.data.toList.drop at_.toNat) = false := by
 have hi0 := h.i0; have ha0 := h.a0; have han : at_.toNat < s.data.toList.length := by rw [dsize]; omega
 refine HopPure.lm_no han fun hi => ?_
 have := hn (by omega)
 rw [rd_list l i hi, bt_list s at_ han] at this
 exact this
theorem InvMatch.back {l : List Int} {s : ByteArray} {r : Bool} {at_ i back from_ : Int} (h : InvMatch l s r at_ i back from_) (ha : at_ < (s.size : Int)) (hb : ¬ back < 0) (hn : i < (l.length : Int) → ¬ rd l i = 257 ∧ ¬ (rd l i = 256 ∨ rd l i = bt s at_)) : InvMatch l s r (from_ + 1) back back (from_ + 1) := by
 have hm := h.no ha hn; have ha0 := h.a0; have hf0 := h.f0; have hbk : mbk back = some back.toNat := by unfold mbk; rw [if_neg hb]
 have hok := h.ok; have hcur := h.cur; rw [hbk] at hok hcur
 obtain ⟨h3, h4⟩ := hok.back (by rw [dsize]; omega) hm
 exact ⟨by omega, by omega, h.b0, by omega, by rw [hbk, toNat_succ hf0]; exact h3, by rw [hbk, toNat_succ hf0, h4]; exact hcur⟩
theorem InvMatch.fail {l : List Int} {s : ByteArray} {r : Bool} {at_ i back from_ : Int} (h : InvMatch l s r at_ i back from_) (ha : at_ < (s.size : Int)) (hb : back < 0) (hn : i < (l.length : Int) → ¬ rd l i = 257 ∧ ¬ (rd l i = 256 ∨ rd l i = bt s at_)) : r = false := by
 have hm := h.no ha hn; have hbk : mbk back = none := by unfold mbk; rw [if_pos hb]
 have hcur := h.cur; rw [hbk, HopPure.Ok.fail hm] at hcur
 exact hcur.symm
theorem InvMatch.done {l : List Int} {s : ByteArray} {r : Bool} {at_ i back from_ : Int} (h : InvMatch l s r at_ i back from_) (ha : at_ = (s.size : Int)) (hn : i < (l.length : Int) → ¬ rd l i = 257) : r = decide (i = (l.length : Int)) := by
 have hi0 := h.i0; rw [← h.cur, h.ok.done (by rw [dsize]; omega) (fun hi => by have := hn (by omega); rwa [rd_list l i hi] at this)]
 exact decide_eq_decide.2 (by omega)
theorem InvMatch.start (l : List Int) (s : ByteArray) : InvMatch l s (HopPure.lm l s.data.toList) 0 0 (-1) 0 := ⟨by omega, by omega, by omega, by omega, HopPure.Ok.start _ _, HopPure.cur_start _ _⟩
theorem wp_scope_jumps2 {P : Program} {a : Act} {w : World} {Q : Exit → Act → World → Prop} {c rest : Code} (l : Nat) (J : Act → World → Prop) (μ : Act → World → Nat) (hf : findLabel c l = some (Code.skip.seq rest))
  (pass : ∀ a w, J a w → rest.wp P (Exit.jump l (fun a' w' => J a' w' ∧ μ a' w' < μ a w) Q) a w)
  (first : (∀ a w, J a w → rest.wp P (Exit.jump l J Q) a w) → c.wp P (Exit.jump l J Q) a w) : (Code.scope c).wp P Q a w := by
 refine wp_scope_jumps l J μ hf (first fun a w h => wp_mono (pass a w h) fun e a' w' hq => ?_) (fun a w h => wp_seq (wp_skip (pass a w h)))
 cases e <;> first | exact ⟨hq.1, hq.2.1⟩ | exact hq
def frMatch (A : Option Addr) (n c : Nat) (s : ByteArray) (at_ i back from_ : Int) (a : Act) : Prop := ∃ u9 u10 u11 u12 u13 u14 u15 u16 u17 u18 u19 u20 u21 u22 u23 u24 u25 u26 u27 u28 u29 u30 u31 u32 u33 u34 u35 u36 u37 u38 u39 u40 u41 u42 u43 u44 u45 u46 u47 u48 u49 u50 u51 u52 u53 u54 u55 u56 u57 u58 u59 u60 u61 u62 u63 : Value, a = { tmps := #[.slice A n c, .string s, undef, undef, .bool false, .int .i64 at_, .int .i64 i, .int .i64 back, .int .i64 from_, u9, u10, u11, u12, u13, u14, u15, u16, u17, u18, u19, u20, u21, u22, u23, u24, u25, u26, u27, u28, u29, u30, u31, u32, u33, u34, u35, u36, u37, u38, u39, u40, u41, u42, u43, u44, u45, u46, u47, u48, u49, u50, u51, u52, u53, u54, u55, u56, u57, u58, u59, u60, u61, u62, u63], defers := [] }
def meMatch (l : List Int) (s : ByteArray) (a : Act) (_ : World) : Nat := (s.size - (intOf (a.tmps.getD 8 undef)).toNat) * (l.length + 1) + (l.length - (intOf (a.tmps.getD 6 undef)).toNat)

theorem like_Match.calls (A0 : Option Addr) (c0 : Nat) (l0 : List Int) (a1 : ByteArray) (r : Bool) (w : World) (hr0 : Kd.C (Kd.int .i64) w A0 l0.length l0) (hc0 : l0.length ≤ c0) (h : like_Match.f l0 a1 = some r) :
  Calls Tryz.prog 37 #[.slice A0 l0.length c0, .string a1] w fun e w' => e = .returned (.bool r) ∧ Drawn0 w w' := by
 have hl : l0.length ≤ 1152921504606846976 := by
  unfold like_Match.f at h
  by_cases hl : l0.length ≤ 1152921504606846976
  ·exact hl
  ·rw [if_neg hl] at h; cases h
 have hs : a1.size ≤ 1152921504606846976 := by
  unfold like_Match.f at h
  by_cases hs : a1.size ≤ 1152921504606846976
  ·exact hs
  ·rw [if_pos hl, if_neg hs] at h; cases h
 unfold like_Match.f at h
 rw [if_pos hl, if_pos hs] at h
 have H0 : Aside0 (HopPure.lm l0 a1.data.toList = r) := ⟨Option.some.inj h⟩
 clear h; have HR0 := Aside0.mk hr0; clear hr0; go_enter Tryz.func37, Tryz.ntmps37
 go_wp2
 refine wp_scope_jumps2 0 (fun a' w' => Drawn0 w w' ∧ ∃ at_ i back from_ : Int, frMatch A0 l0.length c0 a1 at_ i back from_ a' ∧ InvMatch l0 a1 r at_ i back from_) (meMatch l0 a1) rfl ?pass ?first

 case pass =>
  rintro a' w' ⟨⟨m_, rfl⟩, at_, i, back, from_, ⟨u9, u10, u11, u12, u13, u14, u15, u16, u17, u18, u19, u20, u21, u22, u23, u24, u25, u26, u27, u28, u29, u30, u31, u32, u33, u34, u35, u36, u37, u38, u39, u40, u41, u42, u43, u44, u45, u46, u47, u48, u49, u50, u51, u52, u53, u54, u55, u56, u57, u58, u59, u60, u61, u62, u63, rfl⟩, hI⟩
  have hi0 := hI.i0; have hi1 := hI.i1; have ha0 := hI.a0; have ha1 := hI.a1; have hb0 := hI.b0; have hf0 := hI.f0; have hf1 := hI.f1; have HI := Aside0.mk hI; clear hI

  by_cases hi : i < (l0.length : Int)
  ·obtain ⟨ad, e, hx⟩ := Kd.at_int HR0.out i hi0 hi
   cases e
   have h_lt : decide (i < (l0.length : Int)) = true := decide_eq_true hi; by_cases c1 : rd l0 i = 257
   ·have c1b : (rd l0 i == 257) = true := beq_iff_eq.mpr c1; have HN := Aside0.mk (HI.out.star hi c1)
    clear c1; go_wp2
    go_step3
    refine ⟨rfl, ⟨by first | exact ⟨_, rfl⟩ | exact ⟨_, (World.drewN_drewN ..)⟩, _, _, _, _, ⟨_, _, _, _, _, _, _, _, _, _, _, _, _, _, _, _, _, _, _, _, _, _, _, _, _, _, _, _, _, _, _, _, _, _, _, _, _, _, _, _, _, _, _, _, _, _, _, _, _, _, _, _, _, _, _, rfl⟩, HN.out⟩, ?_⟩
    refine HopPure.lexm ?_ ?_
    ·first | omega | (simp only [intOf]; simp; omega) | (simp [intOf]; omega) | simp [intOf]
    ·first | omega | (simp only [intOf]; simp; omega) | (simp [intOf]; omega)
   ·have c1b : (rd l0 i == 257) = false := beq_eq_false_iff_ne.mpr c1; by_cases ca : at_ = (a1.size : Int)
    ·have ca1 : (at_ == (a1.size : Int)) = true := beq_iff_eq.mpr ca; have HD := Aside0.mk (HI.out.done ca (fun _ => c1))
     have e2 : decide (i = (l0.length : Int)) = false := decide_eq_false (by omega)
     rw [e2] at HD
     have e3 : (i == (l0.length : Int)) = false := beq_eq_false_iff_ne.mpr (by omega)
     clear ca e2; go_wp2
     simp only [Exit.jump]
     go_ret
     exact ⟨by rw [(HD.out)] <;> rfl, by first | exact ⟨_, rfl⟩ | exact ⟨_, (World.drewN_drewN ..)⟩⟩
    ·have ca1 : (at_ == (a1.size : Int)) = false := beq_eq_false_iff_ne.mpr ca; have ha2 : at_ < (a1.size : Int) := by omega
     have hx2 := bt_at a1 at_; have hb1 := bt_range a1 at_; by_cases c2 : rd l0 i = 256
     ·have c2b : (rd l0 i == 256) = true := beq_iff_eq.mpr c2; have HN := Aside0.mk (HI.out.step hi ha2 c1 (.inl c2))
      clear c2 c1; go_wp2
      go_quiet (fail)
      go_wp2
      go_step3
      refine ⟨rfl, ⟨by first | exact ⟨_, rfl⟩ | exact ⟨_, (World.drewN_drewN ..)⟩, _, _, _, _, ⟨_, _, _, _, _, _, _, _, _, _, _, _, _, _, _, _, _, _, _, _, _, _, _, _, _, _, _, _, _, _, _, _, _, _, _, _, _, _, _, _, _, _, _, _, _, _, _, _, _, _, _, _, _, _, _, rfl⟩, HN.out⟩, ?_⟩
      refine HopPure.lexm ?_ ?_
      ·first | omega | (simp only [intOf]; simp; omega) | (simp [intOf]; omega) | simp [intOf]
      ·first | omega | (simp only [intOf]; simp; omega) | (simp [intOf]; omega)
     have c2b : (rd l0 i == 256) = false := beq_eq_false_iff_ne.mpr c2; by_cases c3 : rd l0 i = bt a1 at_
     ·have c3b : (rd l0 i == bt a1 at_) = true := beq_iff_eq.mpr c3; have HN := Aside0.mk (HI.out.step hi ha2 c1 (.inr c3))
      clear c3 c2 c1; go_wp2
      go_quiet (fail)
      go_wp2
      go_step3
      refine ⟨rfl, ⟨by first | exact ⟨_, rfl⟩ | exact ⟨_, (World.drewN_drewN ..)⟩, _, _, _, _, ⟨_, _, _, _, _, _, _, _, _, _, _, _, _, _, _, _, _, _, _, _, _, _, _, _, _, _, _, _, _, _, _, _, _, _, _, _, _, _, _, _, _, _, _, _, _, _, _, _, _, _, _, _, _, _, _, rfl⟩, HN.out⟩, ?_⟩
      refine HopPure.lexm ?_ ?_
      ·first | omega | (simp only [intOf]; simp; omega) | (simp [intOf]; omega) | simp [intOf]
      ·first | omega | (simp only [intOf]; simp; omega) | (simp [intOf]; omega)
     have c3b : (rd l0 i == bt a1 at_) = false := beq_eq_false_iff_ne.mpr c3; by_cases c4 : back < 0
     ·have c4b : decide (back < 0) = true := decide_eq_true c4; have HD := Aside0.mk (HI.out.fail ha2 c4 (fun _ => ⟨c1, fun z => z.elim c2 c3⟩))
      go_wp2
      go_quiet (fail)
      go_wp2
      simp only [Exit.jump]
      go_ret
      exact ⟨by rw [(HD.out)] <;> rfl, by first | exact ⟨_, rfl⟩ | exact ⟨_, (World.drewN_drewN ..)⟩⟩
     ·have c4b : decide (back < 0) = false := decide_eq_false c4; have HN := Aside0.mk (HI.out.back ha2 c4 (fun _ => ⟨c1, fun z => z.elim c2 c3⟩))
      clear c1 c2 c3; go_wp2
      go_quiet (fail)
      go_wp2
      go_step3
      refine ⟨rfl, ⟨by first | exact ⟨_, rfl⟩ | exact ⟨_, (World.drewN_drewN ..)⟩, _, _, _, _, ⟨_, _, _, _, _, _, _, _, _, _, _, _, _, _, _, _, _, _, _, _, _, _, _, _, _, _, _, _, _, _, _, _, _, _, _, _, _, _, _, _, _, _, _, _, _, _, _, _, _, _, _, _, _, _, _, rfl⟩, HN.out⟩, ?_⟩
      refine HopPure.lexm ?_ ?_
      ·first | omega | (simp only [intOf]; simp; omega) | (simp [intOf]; omega) | simp [intOf]
      ·first | omega | (simp only [intOf]; simp; omega) | (simp [intOf]; omega)
  ·have h_lt : decide (i < (l0.length : Int)) = false := decide_eq_false hi; by_cases ca : at_ = (a1.size : Int)
   ·have ca1 : (at_ == (a1.size : Int)) = true := beq_iff_eq.mpr ca; have HD := Aside0.mk (HI.out.done ca (fun z => absurd z hi))
    have ei : i = (l0.length : Int) := by omega
    have e2 : decide (i = (l0.length : Int)) = true := decide_eq_true ei; rw [e2] at HD
    have e3 : (i == (l0.length : Int)) = true := beq_iff_eq.mpr ei; clear ei; clear ca e2; go_wp2
    simp only [Exit.jump]
    go_ret
    exact ⟨by rw [(HD.out)] <;> rfl, by first | exact ⟨_, rfl⟩ | exact ⟨_, (World.drewN_drewN ..)⟩⟩
   ·have ca1 : (at_ == (a1.size : Int)) = false := beq_eq_false_iff_ne.mpr ca; have ha2 : at_ < (a1.size : Int) := by omega
    have hx2 := bt_at a1 at_; have hb1 := bt_range a1 at_; by_cases c4 : back < 0
    ·have c4b : decide (back < 0) = true := decide_eq_true c4; have HD := Aside0.mk (HI.out.fail ha2 c4 (fun z => absurd z hi))
     go_wp2
     go_quiet (fail)
     go_wp2
     simp only [Exit.jump]
     go_ret
     exact ⟨by rw [(HD.out)] <;> rfl, by first | exact ⟨_, rfl⟩ | exact ⟨_, (World.drewN_drewN ..)⟩⟩
    ·have c4b : decide (back < 0) = false := decide_eq_false c4; have HN := Aside0.mk (HI.out.back ha2 c4 (fun z => absurd z hi))
     go_wp2
     go_quiet (fail)
     go_wp2
     go_step3
     refine ⟨rfl, ⟨by first | exact ⟨_, rfl⟩ | exact ⟨_, (World.drewN_drewN ..)⟩, _, _, _, _, ⟨_, _, _, _, _, _, _, _, _, _, _, _, _, _, _, _, _, _, _, _, _, _, _, _, _, _, _, _, _, _, _, _, _, _, _, _, _, _, _, _, _, _, _, _, _, _, _, _, _, _, _, _, _, _, _, rfl⟩, HN.out⟩, ?_⟩
     refine HopPure.lexm ?_ ?_
     ·first | omega | (simp only [intOf]; simp; omega) | (simp [intOf]; omega) | simp [intOf]
     ·first | omega | (simp only [intOf]; simp; omega) | (simp [intOf]; omega)
 case first =>
  intro hp
  have HP := Aside0.mk hp; clear hp; go_wp2
  go_step3
  rename_i K_ hK_
  refine hK_ _ _ (HP.out _ _ ⟨Drawn0.refl _, 0, 0, -1, 0, ⟨_, _, _, _, _, _, _, _, _, _, _, _, _, _, _, _, _, _, _, _, _, _, _, _, _, _, _, _, _, _, _, _, _, _, _, _, _, _, _, _, _, _, _, _, _, _, _, _, _, _, _, _, _, _, _, rfl⟩, ?_⟩)
  have hI := InvMatch.start l0 a1; rw [H0.out] at hI
  exact hI

/-! ### cmp_isNaN_string: function 73 -/
def cmp_isNaN_string.f (a0 : ByteArray) : Option (Bool) := some (a0.toList != a0.toList)
theorem cmp_isNaN_string.calls (a0 : ByteArray) (r : Bool) (w : World) (h : cmp_isNaN_string.f a0 = some r) :
  Calls Tryz.prog 73 #[.string a0] w fun e w' => e = .returned (.bool r) ∧ Drawn0 w w' := by
 have H : (some (a0.toList != a0.toList)) = some r := h; clear h; obtain rfl := Option.some.inj H
 go_enter Tryz.func73, Tryz.ntmps73
 go_wp2
 go_ret
 exact exD

/-! ### cmp_Compare_string: function 59 -/
def cmp_Compare_string.f (a0 : ByteArray) (a1 : ByteArray) : Option (Int) := (cmp_isNaN_string.f a0).bind fun t111 => ((cmp_isNaN_string.f a1).bind fun t112 => (if t111 = true then (if t112 = true then (some 0) else (some (-1))) else (if t112 = true then (some 1) else (if (Op.bytesLess a0.toList a1.toList) = true then (some (-1)) else (if (Op.bytesLess a1.toList a0.toList) = true then (some 1) else (some 0))))))
theorem cmp_Compare_string.calls (a0 : ByteArray) (a1 : ByteArray) (r : Int) (w : World) (h : cmp_Compare_string.f a0 a1 = some r) :
  Calls Tryz.prog 59 #[.string a0, .string a1] w fun e w' => e = .returned (.int .i64 r) ∧ Drawn0 w w' := by
 have H : ((cmp_isNaN_string.f a0).bind fun t111 => ((cmp_isNaN_string.f a1).bind fun t112 => (if t111 = true then (if t112 = true then (some 0) else (some (-1))) else (if t112 = true then (some 1) else (if (Op.bytesLess a0.toList a1.toList) = true then (some (-1)) else (if (Op.bytesLess a1.toList a0.toList) = true then (some 1) else (some 0))))))) = some r := h; clear h; replace H := Option.bind_eq_some_iff.mp H; obtain ⟨t111, A30, H⟩ := H; replace H : ((cmp_isNaN_string.f a1).bind fun t112 => (if t111 = true then (if t112 = true then (some 0) else (some (-1))) else (if t112 = true then (some 1) else (if (Op.bytesLess a0.toList a1.toList) = true then (some (-1)) else (if (Op.bytesLess a1.toList a0.toList) = true then (some 1) else (some 0)))))) = some r := H
 have A3 := Aside0.mk A30; clear A30; replace H := Option.bind_eq_some_iff.mp H; obtain ⟨t112, A40, H⟩ := H; replace H : (if t111 = true then (if t112 = true then (some 0) else (some (-1))) else (if t112 = true then (some 1) else (if (Op.bytesLess a0.toList a1.toList) = true then (some (-1)) else (if (Op.bytesLess a1.toList a0.toList) = true then (some 1) else (some 0))))) = some r := H
 have A4 := Aside0.mk A40; clear A40; by_cases c5 : t111 = true
 ·subst c5; have H1 : (if t112 = true then (some 0) else (some (-1))) = some r := by rw [if_pos rfl] at H; exact H
  clear H; have H := H1; clear H1; by_cases c6 : t112 = true
  ·subst c6; have H1 : (some 0) = some r := by rw [if_pos rfl] at H; exact H
   clear H; have H := H1; clear H1; obtain rfl := Option.some.inj H
   go_enter Tryz.func59, Tryz.ntmps59
   go_wp2_with (first | ((with_reducible refine gate_callee (f := 73) rfl ?_); refine goesL_ (some 8) rfl rfl Tryz.func73 (by kernel_rfl) rfl #[.string a0] rfl (by (try simp only [List.map_toArray, List.map_cons, List.map_nil]); first | done | rfl | (simp only [List.length_drop, List.length_take]; rfl)) ?_; (with_reducible refine (cmp_isNaN_string.calls a0 true _ A3.out).mono ?_); rintro e w' ⟨rfl, ⟨nd, rfl⟩⟩; refine ⟨_, rfl, ?_⟩) | ((with_reducible refine gate_callee (f := 73) rfl ?_); refine goesL_ (some 10) rfl rfl Tryz.func73 (by kernel_rfl) rfl #[.string a1] rfl (by (try simp only [List.map_toArray, List.map_cons, List.map_nil]); first | done | rfl | (simp only [List.length_drop, List.length_take]; rfl)) ?_; (with_reducible refine (cmp_isNaN_string.calls a1 true _ A4.out).mono ?_); rintro e w' ⟨rfl, ⟨nd, rfl⟩⟩; refine ⟨_, rfl, ?_⟩))
   go_ret
   exact exD
  ·replace c6 := Bool.eq_false_iff.mpr c6; subst c6; have H1 : (some (-1)) = some r := by rw [if_neg (show ¬ (false = true) by decide)] at H; exact H
   clear H; have H := H1; clear H1; obtain rfl := Option.some.inj H
   go_enter Tryz.func59, Tryz.ntmps59
   go_wp2_with (first | ((with_reducible refine gate_callee (f := 73) rfl ?_); refine goesL_ (some 8) rfl rfl Tryz.func73 (by kernel_rfl) rfl #[.string a0] rfl (by (try simp only [List.map_toArray, List.map_cons, List.map_nil]); first | done | rfl | (simp only [List.length_drop, List.length_take]; rfl)) ?_; (with_reducible refine (cmp_isNaN_string.calls a0 true _ A3.out).mono ?_); rintro e w' ⟨rfl, ⟨nd, rfl⟩⟩; refine ⟨_, rfl, ?_⟩) | ((with_reducible refine gate_callee (f := 73) rfl ?_); refine goesL_ (some 10) rfl rfl Tryz.func73 (by kernel_rfl) rfl #[.string a1] rfl (by (try simp only [List.map_toArray, List.map_cons, List.map_nil]); first | done | rfl | (simp only [List.length_drop, List.length_take]; rfl)) ?_; (with_reducible refine (cmp_isNaN_string.calls a1 false _ A4.out).mono ?_); rintro e w' ⟨rfl, ⟨nd, rfl⟩⟩; refine ⟨_, rfl, ?_⟩))
   go_ret
   exact exD
 ·replace c5 := Bool.eq_false_iff.mpr c5; subst c5; have H1 : (if t112 = true then (some 1) else (if (Op.bytesLess a0.toList a1.toList) = true then (some (-1)) else (if (Op.bytesLess a1.toList a0.toList) = true then (some 1) else (some 0)))) = some r := by rw [if_neg (show ¬ (false = true) by decide)] at H; exact H
  clear H; have H := H1; clear H1; by_cases c7 : t112 = true
  ·subst c7; have H1 : (some 1) = some r := by rw [if_pos rfl] at H; exact H
   clear H; have H := H1; clear H1; obtain rfl := Option.some.inj H
   go_enter Tryz.func59, Tryz.ntmps59
   go_wp2_with (first | ((with_reducible refine gate_callee (f := 73) rfl ?_); refine goesL_ (some 8) rfl rfl Tryz.func73 (by kernel_rfl) rfl #[.string a0] rfl (by (try simp only [List.map_toArray, List.map_cons, List.map_nil]); first | done | rfl | (simp only [List.length_drop, List.length_take]; rfl)) ?_; (with_reducible refine (cmp_isNaN_string.calls a0 false _ A3.out).mono ?_); rintro e w' ⟨rfl, ⟨nd, rfl⟩⟩; refine ⟨_, rfl, ?_⟩) | ((with_reducible refine gate_callee (f := 73) rfl ?_); refine goesL_ (some 10) rfl rfl Tryz.func73 (by kernel_rfl) rfl #[.string a1] rfl (by (try simp only [List.map_toArray, List.map_cons, List.map_nil]); first | done | rfl | (simp only [List.length_drop, List.length_take]; rfl)) ?_; (with_reducible refine (cmp_isNaN_string.calls a1 true _ A4.out).mono ?_); rintro e w' ⟨rfl, ⟨nd, rfl⟩⟩; refine ⟨_, rfl, ?_⟩))
   go_ret
   exact exD
  ·replace c7 := Bool.eq_false_iff.mpr c7; subst c7; have H1 : (if (Op.bytesLess a0.toList a1.toList) = true then (some (-1)) else (if (Op.bytesLess a1.toList a0.toList) = true then (some 1) else (some 0))) = some r := by rw [if_neg (show ¬ (false = true) by decide)] at H; exact H
   clear H; have H := H1; clear H1; by_cases c8 : (Op.bytesLess a0.toList a1.toList) = true
   ·rw [if_pos c8] at H; have c8b0 : (Op.bytesLess a0.toList a1.toList) = true := c8; clear c8; obtain rfl := Option.some.inj H
    go_enter Tryz.func59, Tryz.ntmps59
    go_wp2_with (first | ((with_reducible refine gate_callee (f := 73) rfl ?_); refine goesL_ (some 8) rfl rfl Tryz.func73 (by kernel_rfl) rfl #[.string a0] rfl (by (try simp only [List.map_toArray, List.map_cons, List.map_nil]); first | done | rfl | (simp only [List.length_drop, List.length_take]; rfl)) ?_; (with_reducible refine (cmp_isNaN_string.calls a0 false _ A3.out).mono ?_); rintro e w' ⟨rfl, ⟨nd, rfl⟩⟩; refine ⟨_, rfl, ?_⟩) | ((with_reducible refine gate_callee (f := 73) rfl ?_); refine goesL_ (some 10) rfl rfl Tryz.func73 (by kernel_rfl) rfl #[.string a1] rfl (by (try simp only [List.map_toArray, List.map_cons, List.map_nil]); first | done | rfl | (simp only [List.length_drop, List.length_take]; rfl)) ?_; (with_reducible refine (cmp_isNaN_string.calls a1 false _ A4.out).mono ?_); rintro e w' ⟨rfl, ⟨nd, rfl⟩⟩; refine ⟨_, rfl, ?_⟩))
    go_ret
    exact exD
   ·rw [if_neg c8] at H; have c8b0 : (Op.bytesLess a0.toList a1.toList) = false := by simpa using c8
    clear c8; by_cases c9 : (Op.bytesLess a1.toList a0.toList) = true
    ·rw [if_pos c9] at H; have c9b0 : (Op.bytesLess a1.toList a0.toList) = true := c9; clear c9; obtain rfl := Option.some.inj H
     go_enter Tryz.func59, Tryz.ntmps59
     go_wp2_with (first | ((with_reducible refine gate_callee (f := 73) rfl ?_); refine goesL_ (some 8) rfl rfl Tryz.func73 (by kernel_rfl) rfl #[.string a0] rfl (by (try simp only [List.map_toArray, List.map_cons, List.map_nil]); first | done | rfl | (simp only [List.length_drop, List.length_take]; rfl)) ?_; (with_reducible refine (cmp_isNaN_string.calls a0 false _ A3.out).mono ?_); rintro e w' ⟨rfl, ⟨nd, rfl⟩⟩; refine ⟨_, rfl, ?_⟩) | ((with_reducible refine gate_callee (f := 73) rfl ?_); refine goesL_ (some 10) rfl rfl Tryz.func73 (by kernel_rfl) rfl #[.string a1] rfl (by (try simp only [List.map_toArray, List.map_cons, List.map_nil]); first | done | rfl | (simp only [List.length_drop, List.length_take]; rfl)) ?_; (with_reducible refine (cmp_isNaN_string.calls a1 false _ A4.out).mono ?_); rintro e w' ⟨rfl, ⟨nd, rfl⟩⟩; refine ⟨_, rfl, ?_⟩))
     go_ret
     exact exD
    ·rw [if_neg c9] at H; have c9b0 : (Op.bytesLess a1.toList a0.toList) = false := by simpa using c9
     clear c9; obtain rfl := Option.some.inj H
     go_enter Tryz.func59, Tryz.ntmps59
     go_wp2_with (first | ((with_reducible refine gate_callee (f := 73) rfl ?_); refine goesL_ (some 8) rfl rfl Tryz.func73 (by kernel_rfl) rfl #[.string a0] rfl (by (try simp only [List.map_toArray, List.map_cons, List.map_nil]); first | done | rfl | (simp only [List.length_drop, List.length_take]; rfl)) ?_; (with_reducible refine (cmp_isNaN_string.calls a0 false _ A3.out).mono ?_); rintro e w' ⟨rfl, ⟨nd, rfl⟩⟩; refine ⟨_, rfl, ?_⟩) | ((with_reducible refine gate_callee (f := 73) rfl ?_); refine goesL_ (some 10) rfl rfl Tryz.func73 (by kernel_rfl) rfl #[.string a1] rfl (by (try simp only [List.map_toArray, List.map_cons, List.map_nil]); first | done | rfl | (simp only [List.length_drop, List.length_take]; rfl)) ?_; (with_reducible refine (cmp_isNaN_string.calls a1 false _ A4.out).mono ?_); rintro e w' ⟨rfl, ⟨nd, rfl⟩⟩; refine ⟨_, rfl, ?_⟩))
     go_ret
     exact exD

/-! ### text_small: function 83 -/
def text_small.f (a0 : Int) : Option (Int) := if a0 ≥ 65 then (if a0 ≤ 90 then (some ((((a0 + 97) % 256) - 65) % 256)) else (some a0)) else (some a0)
theorem text_small.calls (a0 : Int) (r : Int) (w : World) (h : text_small.f a0 = some r) :
  Calls Tryz.prog 83 #[.int .u8 a0] w fun e w' => e = .returned (.int .u8 r) ∧ Drawn0 w w' := by
 have H : (if a0 ≥ 65 then (if a0 ≤ 90 then (some ((((a0 + 97) % 256) - 65) % 256)) else (some a0)) else (some a0)) = some r := h; clear h; by_cases c2 : a0 ≥ 65
 ·rw [if_pos c2] at H; have c2b0 : decide (65 ≤ a0) = true := decide_eq_true c2; clear c2; by_cases c3 : a0 ≤ 90
  ·rw [if_pos c3] at H; have c3b0 : decide (a0 ≤ 90) = true := decide_eq_true c3; clear c3; obtain rfl := Option.some.inj H
   go_enter Tryz.func83, Tryz.ntmps83
   go_wp2
   go_ret
   exact exD
  ·rw [if_neg c3] at H; have c3b0 : decide (a0 ≤ 90) = false := decide_eq_false c3; clear c3; obtain rfl := Option.some.inj H
   go_enter Tryz.func83, Tryz.ntmps83
   go_wp2
   go_ret
   exact exD
 ·rw [if_neg c2] at H; have c2b0 : decide (65 ≤ a0) = false := decide_eq_false c2; clear c2; obtain rfl := Option.some.inj H
  go_enter Tryz.func83, Tryz.ntmps83
  go_wp2
  go_ret
  exact exD

end Go.Proofs.YtdccooaddoafnaaGreatDoor.Q
