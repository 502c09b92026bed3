-- PRINTED by print.py (a twelfth state) out of the translation. Not trusted: Lean checks it.
import Derived.Test.YtdojgfkcpaeacaaDoorHSortWalk
import Derived.Test.YtdojgfkcpaeacaaDoorQx0
import Derived.Test.YtdojgfkcpaeacaaDoorQx7
import Derived.Test.YtdojgfkcpaeacaaDoorQx10
namespace Go.Proofs.YtdojgfkcpaeacaaDoor.Q
open Go.RowKit Go.Proofs.YtdojgfkcpaeacaaDoorW.PrintWords Go.Proofs.YtdojgfkcpaeacaaDoorW.PrintLast Go.Proofs.YtdojgfkcpaeacaaDoorW.PrintMore
attribute [local go_sem] str_gtr str_geq str_leq max2_int min2_int max_two min_two max_three min_three max_four min_four
set_option linter.unusedVariables false
set_option maxHeartbeats 8000000
set_option maxRecDepth 1000000
set_option linter.unusedSimpArgs false

/-! ### order_Rows: function 15 -/
-- told by hand
/-- slices.insertionSortCmpFunc over rows. -/
theorem order_Rows.ins {α : Type} [Inhabited α] (enc : α → Value) (hE : ∀ x, ∃ A n c, enc x = .slice A n c) (cf : α → α → Int) (bx : Value) (w1 : World) (g cap a b : Nat) (d0 d : Array α) (w : World)
  (hst : St enc w1 g d0 w d) (hg : g < w1.heap.size) (hab : a ≤ b) (hb : b ≤ d.size) (hsz : d.size < 4611686018427387904)
  (hcmp : ∀ W d', St enc w1 g d0 W d' → ∀ i j, i < d'.size → j < d'.size → Calls Tryd.prog 25 #[enc d'[i]!, enc d'[j]!, bx] W fun e w' => e = .returned (.int .i64 (cf d'[i]! d'[j]!)) ∧ Below W.heap.size W w') :
  Calls Tryd.prog 46 #[.slice (some ⟨g, 0, none⟩) d.size cap, .int .i64 a, .int .i64 b, .func (.func 25) #[] #[bx]] w fun e w' =>
   e = .returned (.tuple #[]) ∧ St enc w1 g d0 w' (Sort.insertionSort (ltOf cf) d a b) := by
 have mixed : Tryd.prog.follows .mixedOrders = true := by kernel_rfl
 have HC := Aside0.mk hcmp; have HST := Aside0.mk hst; have HE := Aside0.mk hE; clear hcmp hst hE; go_enter Tryd.func46, Tryd.ntmps46
 go_wp2
 go_loopg [8] (b - a) (fun g1 vi wr => ∃ (i : Nat) (dk : Array α), vi = .int .i64 i ∧ a < i ∧ i ≤ b + 1 ∧ b + 1 - i ≤ g1 + 1 ∧ dk.size = d.size ∧ Aside0 (St enc w1 g d0 wr dk) ∧ Aside0 (Sort.insOuter (ltOf cf) a b i dk = Sort.insOuter (ltOf cf) a b (a + 1) d))
 case atStart => exact ⟨a + 1, d, by go_num, by omega, by omega, by omega, rfl, HST, ⟨rfl⟩⟩
 case round =>
  obtain ⟨i, dk, rfl, hai, hib, hg1, hsk, HS, HO⟩ := hrel; by_cases hlt : i < b
  ·have hltz : (i : Int) < (b : Int) := by omega
   go_wp2
   go_loopg [9] i (fun g2 vj wr2 => ∃ (j : Nat) (dj : Array α), vj = .int .i64 j ∧ a ≤ j ∧ j ≤ i ∧ j ≤ g2 ∧ dj.size = d.size ∧ Aside0 (St enc w1 g d0 wr2 dj) ∧ Aside0 (Sort.insInner (ltOf cf) a j dj = Sort.insInner (ltOf cf) a i dk))
   case atStart => exact ⟨i, dk, rfl, by omega, Nat.le_refl _, Nat.le_refl _, hsk, HS, ⟨rfl⟩⟩
   case round =>
    obtain ⟨j, dj, rfl, haj, hji, hg2, hsj, HS2, HI⟩ := hrel
    have OUT : Aside0 ((j ≤ a ∨ ltOf cf dj[j]! dj[j - 1]! = false) → Sort.insOuter (ltOf cf) a b (i + 1) dj = Sort.insOuter (ltOf cf) a b (a + 1) d) := ⟨fun hs => by
     rw [← HO.out, insOuter_go _ _ _ _ _ hlt, ← HI.out, insInner_stop _ _ _ _ hs]⟩
    by_cases hja : a < j
    ·obtain ⟨jp, rfl⟩ : ∃ jp, j = jp + 1 := ⟨j - 1, by omega⟩
     have hjaz : (a : Int) < (jp : Int) + 1 := by omega
     have hwp : IntKind.i64.wrap (jp : Int) = (jp : Int) := by rw [IntKind.wrap_i64]; omega
     have jz : (jp : Int) + 1 < (d.size : Int) := by omega
     have jz1 : (jp : Int) < (d.size : Int) := by omega
     have p0 : (0 : Int) ≤ (jp : Int) + 1 := by omega
     have e0 : ((jp : Int) + 1).toNat = jp + 1 := by omega
     obtain ⟨xj, hxj⟩ : ∃ x, dj[jp + 1]! = x := ⟨_, rfl⟩
     obtain ⟨xp, hxp⟩ : ∃ x, dj[jp]! = x := ⟨_, rfl⟩
     obtain ⟨cj, fj⟩ := HS2.out.holds (jp + 1) (by omega)
     obtain ⟨cp, fp⟩ := HS2.out.holds jp (by omega)
     obtain ⟨Aj, nj, kj, ej⟩ := HE.out xj
     obtain ⟨Ap, np, kp, ep⟩ := HE.out xp
     rw [hxj, ej, Nat.zero_add] at cj
     rw [hxp, ep, Nat.zero_add] at cp
     rw [Nat.zero_add] at fj fp
     have hc : ∀ dd os, Calls Tryd.prog 25 #[.slice Aj nj kj, .slice Ap np kp, bx] (later wr dd os) fun e w' => e = .returned (.int .i64 (cf xj xp)) ∧ Below (later wr dd os).heap.size (later wr dd os) w' := fun dd os => by
      have := HC.out (later wr dd os) dj (HS2.out.below hg (below_later _ _ _)) (jp + 1) jp (by omega) (by omega)
      rw [hxj, hxp, ej, ep] at this
      exact this
     have lj : ∀ dd os, (later wr dd os).cell? ⟨g, jp + 1, none⟩ = some (.slice Aj nj kj) := fun dd os => cell_later cj dd os
     have lp : ∀ dd os, (later wr dd os).cell? ⟨g, jp, none⟩ = some (.slice Ap np kp) := fun dd os => cell_later cp dd os
     by_cases hlv : cf xj xp < 0
     ·go_wp2_with fail
      refine wp_region_later (by kernel_rfl) (by kernel_rfl) ?_
      repeat (quiet_step (first | (go_at_call 25; refine Calls.later_of (hc _ _))))
      refine wpQuiet_nil ?_
      intro _ hw'
      obtain ⟨⟨dq, osq⟩, hw''⟩ := hw'
      subst hw''
      go_wp2_with fail
      have HS3 : Aside0 (St enc w1 g d0 (later wr dq osq) dj) := ⟨HS2.out.below hg (below_later _ _ _)⟩
      have cj2 := lj dq osq; have cp2 := lp dq osq; have fj2 : (later wr dq osq).frozen? ⟨g, jp + 1, none⟩ = false := by have := (HS3.out.holds (jp + 1) (by omega)).2; rwa [Nat.zero_add] at this
      have fp2 : (later wr dq osq).frozen? ⟨g, jp, none⟩ = false := by have := (HS3.out.holds jp (by omega)).2; rwa [Nat.zero_add] at this
      clear hc lj lp cj cp fj fp; generalize later wr dq osq = wq2 at HS3 cj2 cp2 fj2 fp2 ⊢
      obtain ⟨j1, hj1⟩ : ∃ j1, j1 = jp + 1 := ⟨_, rfl⟩
      rw [← hj1] at cj2 fj2 e0
      have J1 := Aside0.mk hj1; clear hj1; have EX := Aside0.mk (And.intro hxj hxp)
      have EV := Aside0.mk (And.intro ej ep)
      clear hxj hxp ej ep; go_big_region_o
      all_goals go_wp2
      go_roundg jp
      case measure => omega
      case rel =>
       refine ⟨jp, Sort.swp dj (jp + 1) jp, by first | rfl | go_num | (congr 1; omega), by omega, by omega, Nat.le_refl _, by rw [Sort.size_swp]; exact hsj, ⟨?_⟩, ⟨?_⟩⟩
       ·rw [J1.out, ← EV.out.1, ← EV.out.2, ← EX.out.1, ← EX.out.2]
        have hsw := (HS3.out.below (w2 := wq2.drew) hg (Below.drew (Below.refl _ _))).swap (jp + 1) jp (by omega) (by omega)
        rw [Nat.zero_add, Nat.zero_add] at hsw
        exact hsw
       ·have := insInner_go (ltOf cf) a (jp + 1) dj hja (by simp only [Nat.add_sub_cancel]; rw [EX.out.1, EX.out.2]; exact decide_eq_true hlv)
        simp only [Nat.add_sub_cancel] at this
        rw [← HI.out, this]
     ·go_wp2_with fail
      refine wp_region_later (by kernel_rfl) (by kernel_rfl) ?_
      repeat (quiet_step (first | (go_at_call 25; refine Calls.later_of (hc _ _))))
      refine wpQuiet_nil ?_
      intro _ hw'
      obtain ⟨⟨dq, osq⟩, hw''⟩ := hw'
      subst hw''
      go_wp2
      go_roundg (b - (i + 1))
      case measure => omega
      case rel => exact ⟨i + 1, dj, by go_num, by omega, by omega, by omega, hsj, ⟨HS2.out.below hg (below_later _ _ _)⟩, ⟨OUT.out (Or.inr (by simp only [Nat.add_sub_cancel]; rw [hxj, hxp]; exact decide_eq_false (by omega)))⟩⟩
    ·have hjaz : decide ((j : Int) > (a : Int)) = false := decide_eq_false (by omega)
     have hjaz' : ¬ (a : Int) < (j : Int) := by omega
     go_wp2_with fail
     go_big_region_o
     all_goals go_wp2
     go_roundg (b - (i + 1))
     case measure => omega
     case rel => exact ⟨i + 1, dj, by go_num, by omega, by omega, by omega, hsj, ⟨HS2.out.below hg (Below.drew (Below.refl _ _))⟩, ⟨OUT.out (Or.inl (by omega))⟩⟩
  ·have hltz : ¬ (i : Int) < (b : Int) := by omega
   go_wp2
   go_end0
   refine ⟨rfl, ?_⟩
   have : Sort.insertionSort (ltOf cf) d a b = dk := by unfold Sort.insertionSort; rw [← HO.out, insOuter_stop _ _ _ _ _ hlt]
   rw [this]
   exact HS.out
/-- slices.SortStableFunc over rows. -/
theorem order_Rows.sort {α : Type} [Inhabited α] (enc : α → Value) (hE : ∀ x, ∃ A n c, enc x = .slice A n c) (cf : α → α → Int) (bx : Value) (w1 : World) (g cap : Nat) (d0 d : Array α) (w : World)
  (hst : St enc w1 g d0 w d) (hg : g < w1.heap.size) (hsz : d.size ≤ 1000) (hcmp : CmpAt enc cf bx w1 g d0) :
  Calls Tryd.prog 24 #[.slice (some ⟨g, 0, none⟩) d.size cap, .func (.func 25) #[] #[bx]] w fun e w' =>
   e = .returned (.tuple #[]) ∧ St enc w1 g d0 w' (stableP (ltOf cf) d.size d) := by
 have hI := stable_walk enc hE cf bx w1 g cap d0 hg hcmp d w hst (by omega) (fun a b dk W hS hk hab hb => by
  have := order_Rows.ins enc hE cf bx w1 g cap a b d0 dk W hS hg hab (by omega) (by omega) hcmp
  rw [hk] at this
  exact this)
 clear hcmp hE hst; go_enter Tryd.func24, Tryd.ntmps24
 go_wp2_with (go_at_call 37; refine hI.mono ?_; rintro e w' ⟨rfl, hS2⟩)
 go_end0
 exact ⟨rfl, hS2⟩
/-- The literal: two rows compared. -/
theorem order_Rows.lit (k : Nat) (B : Nat) (A0 : Option Addr) (c0 : Nat) (l0 : List (S36)) (A1 : Option Addr) (c1 : Nat) (l1 : List (S36)) (A2 : Option Addr) (c2 : Nat) (l2 : List (S39)) (r : Int) (w : World)
  (hr0 : Kd.C k36 w A0 l0.length l0) (hc0 : l0.length ≤ c0) (hr1 : Kd.C k36 w A1 l1.length l1) (hc1 : l1.length ≤ c1) (hr2 : Kd.C k39 w A2 l2.length l2) (hc2 : l2.length ≤ c2) (hT : Facts w)
  (hB : w.cell? ⟨B, 0, none⟩ = some (.slice A2 l2.length c2)) (h : order_Compare.f k l0 l1 l2 = some r) :
  Calls Tryd.prog 25 #[.slice A0 l0.length c0, .slice A1 l1.length c1, .pointer (some ⟨B, 0, none⟩)] w fun e w' => e = .returned (.int .i64 r) ∧ Below w.heap.size w w' := by
 have hC := order_Compare.calls k A0 c0 l0 A1 c1 l1 A2 c2 l2 r w hr0 hc0 hr1 hc1 hr2 hc2 hT h; clear hr0 hc0 hr1 hc1 hr2 hc2 hT h; go_enter Tryd.func25, Tryd.ntmps25
 go_wp2_with (go_at_call 12; refine hC.mono ?_; rintro e w' ⟨rfl, hb'⟩)
 go_ret
 exact ⟨rfl, hb'⟩
/-- No rows are sorted. -/
theorem order_Rows.ins0 (A : Option Addr) (cap : Nat) (bx : Value) (w : World) :
  Calls Tryd.prog 46 #[.slice A 0 cap, .int .i64 0, .int .i64 0, .func (.func 25) #[] #[bx]] w fun e w' => e = .returned (.tuple #[]) ∧ w' = w := by
 go_enter Tryd.func46, Tryd.ntmps46
 go_wp2
 go_loopg [8] 0 (fun gg v8 wr => v8 = .int .i64 1 ∧ Aside0 (wr = w))
 case atStart => exact ⟨rfl, ⟨rfl⟩⟩
 case round =>
  obtain ⟨rfl, HW⟩ := hrel; go_wp2
  go_end0
  exact ⟨rfl, HW.out⟩
theorem order_Rows.stable0 (A : Option Addr) (cap : Nat) (bx : Value) (w : World) :
  Calls Tryd.prog 37 #[.slice A 0 cap, .int .i64 0, .func (.func 25) #[] #[bx]] w fun e w' => e = .returned (.tuple #[]) ∧ w' = w := by
 have hI := fun W => order_Rows.ins0 A cap bx W
 go_enter Tryd.func37, Tryd.ntmps37
 go_wp2
 go_loopg [7, 8] 0 (fun gg v7 v8 wr => v7 = .int .i64 0 ∧ v8 = .int .i64 20 ∧ Aside0 (wr = w))
 case atStart => exact ⟨rfl, rfl, ⟨rfl⟩⟩
 case round =>
  obtain ⟨rfl, rfl, HW⟩ := hrel; go_wp2_with (go_at_call 46; refine (hI _).mono ?_; rintro e w' ⟨rfl, hS2⟩)
  go_loopg [6] 0 (fun gg v6 wr => v6 = .int .i64 20 ∧ Aside0 (wr = w))
  case atStart => exact ⟨rfl, HW⟩
  case round =>
   obtain ⟨rfl, HS3⟩ := hrel; go_wp2
   go_end0
   exact ⟨rfl, HS3.out⟩
theorem order_Rows.sort0 (A : Option Addr) (cap : Nat) (bx : Value) (w : World) :
  Calls Tryd.prog 24 #[.slice A 0 cap, .func (.func 25) #[] #[bx]] w fun e w' => e = .returned (.tuple #[]) ∧ w' = w := by
 have hI := fun W => order_Rows.stable0 A cap bx W
 go_enter Tryd.func24, Tryd.ntmps24
 go_wp2_with (go_at_call 37; refine (hI _).mono ?_; rintro e w' ⟨rfl, hS2⟩)
 go_end0
 exact ⟨rfl, rfl⟩
/-- How two rows compare, by their places. -/
def order_Rows.cf (k : Nat) (c : List (List (S36))) (l1 : List (S39)) (i j : Nat) : Int := if i < c.length ∧ j < c.length then (order_Compare.f k (c.getD i []) (c.getD j []) l1).getD 0 else 0
def order_Rows.idx (k : Nat) (c : List (List (S36))) (l1 : List (S39)) : Array Nat := stableP (ltOf (order_Rows.cf k c l1)) c.length (Array.range c.length)
def order_Rows.ok (k : Nat) (c : List (List (S36))) (l1 : List (S39)) : Bool := decide (c.length ≤ 1000) && ((List.range c.length).all fun i => (List.range c.length).all fun j => (order_Compare.f k (c.getD i []) (c.getD j []) l1).isSome)
def order_Rows.f (k : Nat) (l0 : List (List (S36))) (l1 : List (S39)) : Option (List (List (S36))) :=
 (order_copied.f k l0).bind fun c => if order_Rows.ok k c l1 then some ((order_Rows.idx k c l1).toList.map fun i => c.getD i []) else none
theorem order_Rows.ok_at {k : Nat} {c : List (List (S36))} {l1 : List (S39)} (h : order_Rows.ok k c l1 = true) {i j : Nat} (hi : i < c.length) (hj : j < c.length) : order_Compare.f k (c.getD i []) (c.getD j []) l1 = some (order_Rows.cf k c l1 i j) := by
 unfold order_Rows.ok at h
 rw [Bool.and_eq_true, List.all_eq_true] at h
 have h2 := h.2 i (List.mem_range.2 hi)
 rw [List.all_eq_true] at h2
 have h3 := h2 j (List.mem_range.2 hj)
 unfold order_Rows.cf
 rw [if_pos ⟨hi, hj⟩]
 cases hh : order_Compare.f k (c.getD i []) (c.getD j []) l1 with
 | none => rw [hh] at h3; cases h3
 | some r => rfl
theorem leO_le {α : Type} {F : Nat → Option α} (h : ∀ k, LeO (F k) (F (k + 1))) (k : Nat) : ∀ m, LeO (F k) (F (k + m))
 | 0 => fun _ hr => hr
 | m + 1 => fun r hr => h (k + m) r (leO_le h k m r hr)
theorem order_Rows.mono : ∀ a0 a1 k, LeO (order_Rows.f k a0 a1) (order_Rows.f (k + 1) a0 a1) := by
 intro a0 a1 k r h
 unfold order_Rows.f at h ⊢
 cases hc : order_copied.f k a0 with
 | none => rw [hc] at h; cases h
 | some c =>
  rw [hc] at h
  rw [order_copied.mono a0 k c hc]
  simp only [Option.bind_some] at h ⊢
  by_cases ho : order_Rows.ok k c a1 = true
  ·rw [if_pos ho] at h; have hcf : ∀ i j, i < c.length → j < c.length → order_Compare.f (k + 1) (c.getD i []) (c.getD j []) a1 = some (order_Rows.cf k c a1 i j) := fun i j hi hj => order_Compare.mono _ _ _ k _ (order_Rows.ok_at ho hi hj)
   have ho2 : order_Rows.ok (k + 1) c a1 = true := by
    have hl : c.length ≤ 1000 := by
     unfold order_Rows.ok at ho
     rw [Bool.and_eq_true] at ho
     exact of_decide_eq_true ho.1
    unfold order_Rows.ok
    rw [Bool.and_eq_true, List.all_eq_true]
    refine ⟨decide_eq_true hl, fun i hi => ?_⟩
    rw [List.all_eq_true]
    intro j hj
    rw [hcf i j (List.mem_range.1 hi) (List.mem_range.1 hj)]
    rfl
   rw [if_pos ho2]
   rw [← h]
   have e : order_Rows.cf (k + 1) c a1 = order_Rows.cf k c a1 := by
    funext i j
    by_cases hij : i < c.length ∧ j < c.length
    ·have e1 := hcf i j hij.1 hij.2; rw [order_Rows.cf.eq_def (k + 1), if_pos hij, e1]; rfl
    ·rw [order_Rows.cf.eq_def (k + 1), if_neg hij, order_Rows.cf.eq_def k, if_neg hij]
   unfold order_Rows.idx
   rw [e]
  ·rw [if_neg ho] at h; cases h
theorem order_Rows.idx_nil (k : Nat) (l1 : List (S39)) : (order_Rows.idx k [] l1).toList = [] := by
 unfold order_Rows.idx stableP
 rw [symAll, dif_neg (by simp), insBlocks, dif_neg (by simp)]
 have := insertionSort_perm (ltOf (order_Rows.cf k [] l1)) (Array.range 0) 0 0 (Nat.le_refl _)
 exact List.Perm.eq_nil this
/-- The copied rows, sorted. -/
theorem order_Rows.sorted (k : Nat) (c : List (List (S36))) (A1 : Option Addr) (c1 : Nat) (l1 : List (S39)) (w w2 : World) (B base : Nat) (v1 : Value) (ho : order_Rows.ok k c l1 = true)
  (hS : Kd.S (Kd.slice 36 k36) 28 w2 base (fun _ => True) v1 c) (hb : Below w.heap.size w w2) (hbase : w.heap.size ≤ base) (hB : B < base) (hcell : w2.cell? ⟨B, 0, none⟩ = some (.slice A1 l1.length c1))
  (hr1 : Kd.C k39 w A1 l1.length l1) (hc1 : l1.length ≤ c1) (hT : Facts w) :
  Calls Tryd.prog 24 #[v1, .func (.func 25) #[] #[.pointer (some ⟨B, 0, none⟩)]] w2 fun e w3 =>
   e = .returned (.tuple #[]) ∧ Kd.S (Kd.slice 36 k36) 28 w3 base (fun _ => True) v1 ((order_Rows.idx k c l1).toList.map fun i => c.getD i []) ∧ Below w.heap.size w w3 := by
 obtain ⟨A, cp, rfl⟩ := Kd.R_slice (Kd.S_R hS)
 by_cases hn : c = []
 ·subst hn; refine (order_Rows.sort0 A cp _ w2).mono ?_
  rintro e w' ⟨rfl, rfl⟩
  refine ⟨rfl, ?_, hb⟩
  rw [order_Rows.idx_nil]
  exact hS
 ·have hS0 := hS; obtain ⟨f, h0, inner, hown, hr⟩ := hS; rw [List.length_zipIdx] at hown
  have hpos : 0 < c.length := by cases c with | nil => exact absurd rfl hn | cons _ _ => simp
  obtain ⟨g, rfl⟩ : ∃ g, A = some ⟨g, 0, none⟩ := by
   rcases hown.2 with ⟨_, h⟩ | ⟨g, _, _, h, _⟩
   ·omega
   ·injection h with h _ _
    exact ⟨g, h⟩
  have hg : g < w2.heap.size := own_lt hown g rfl; have hgb : base ≤ g := own_base hown g rfl; have hilen : inner.length = c.length := by rw [hown.1]; exact Nat.mul_one _
  have hst0 : St (rawOf inner) w2 g (Array.range c.length) w2 (Array.range c.length) := St.start (holds_raw hown)
  have hlen : c.length ≤ 1000 := by
   unfold order_Rows.ok at ho
   rw [Bool.and_eq_true] at ho
   exact of_decide_eq_true ho.1
  have hE : ∀ x, ∃ A n c, rawOf inner x = .slice A n c := fun x => by
   by_cases hx : x < c.length
   ·obtain ⟨A, c', e, _⟩ := raw_reads hilen hr rfl hst0 x hx
    exact ⟨_, _, _, e⟩
   ·refine ⟨none, 0, 0, ?_⟩
    unfold rawOf
    rw [List.getD_eq_getElem?_getD, List.getElem?_eq_none (by omega)]
    rfl
  have hs := order_Rows.sort (rawOf inner) hE (order_Rows.cf k c l1) (.pointer (some ⟨B, 0, none⟩)) w2 g cp (Array.range c.length) (Array.range c.length) w2 hst0 hg (by simpa using hlen) (fun W d' hSt i j hi hj => by
   have hm : ∀ i, i < d'.size → d'[i]! < c.length := fun i hi => by
    have := hSt.perm.mem_iff.1 (mem_getB d' i hi)
    simpa using this
   obtain ⟨Ai, ci, ei, li, ri⟩ := raw_reads hilen hr rfl hSt d'[i]! (hm i hi)
   obtain ⟨Aj, cj, ej, lj, rj⟩ := raw_reads hilen hr rfl hSt d'[j]! (hm j hj)
   rw [ei, ej]
   have hbW : Below w.heap.size w W := hSt.old hb (Nat.le_trans hbase hgb)
   exact order_Rows.lit k B Ai ci _ Aj cj _ A1 c1 l1 _ W ri li rj lj (Kd.C_below hr1 hbW) hc1 (hT.below hbW) (hSt.cell hcell (by show B ≠ g; omega)) (order_Rows.ok_at ho (hm i hi) (hm j hj)))
  rw [Array.size_range] at hs
  refine hs.mono ?_
  rintro e w3 ⟨rfl, hS3⟩
  exact ⟨rfl, S_sorted hown hr rfl hg hS3, hS3.old hb (Nat.le_trans hbase hgb)⟩
theorem order_Rows.calls (k : Nat) (A0 : Option Addr) (c0 : Nat) (l0 : List (List (S36))) (A1 : Option Addr) (c1 : Nat) (l1 : List (S39)) (r : List (List (S36))) (w : World) (hr0 : Kd.C (Kd.slice 36 k36) w A0 l0.length l0) (hc0 : l0.length ≤ c0) (hr1 : Kd.C k39 w A1 l1.length l1) (hc1 : l1.length ≤ c1) (hT : Facts w) (h : order_Rows.f k l0 l1 = some r) :
  Calls Tryd.prog 15 #[.slice A0 l0.length c0, .slice A1 l1.length c1] w fun e w' => ∃ v0_ : Value, e = .returned (v0_) ∧ Kd.S (Kd.slice 36 k36) 28 w' w.heap.size (fun _ => True) v0_ r ∧ Below w.heap.size w w' := by
 unfold order_Rows.f at h
 cases hc : order_copied.f k l0 with
 | none => rw [hc] at h; cases h
 | some c =>
  rw [hc] at h
  simp only [Option.bind_some] at h
  by_cases ho : order_Rows.ok k c l1 = true
  case neg => rw [if_neg ho] at h; cases h
  rw [if_pos ho] at h; have hR := Option.some.inj h; clear h; have hCop := fun W (hr : Kd.C (Kd.slice 36 k36) W A0 l0.length l0) => order_copied.calls k A0 c0 l0 c W hr hc0 hc
  have hlen : c.length ≤ 1000 := by
   unfold order_Rows.ok at ho
   rw [Bool.and_eq_true] at ho
   exact of_decide_eq_true ho.1
  have HO := Aside0.mk ho; have HR := Aside0.mk hR; have HT := Aside0.mk hT; have HR1 := Aside0.mk hr1; have HC1 := Aside0.mk hc1; clear ho hR hT hr1 hc1; go_enter Tryd.func15, Tryd.ntmps15
  have hsrt := fun w2 v1 base (hlt : w.heap.size < base) (hS : Kd.S (Kd.slice 36 k36) 28 w2 base (fun _ => True) v1 c) (hb : Below w.heap.size w w2) hcell => order_Rows.sorted k c A1 c1 l1 w w2 w.heap.size base v1 HO.out hS hb (Nat.le_of_lt hlt) hlt hcell HR1.out HC1.out HT.out
  go_wp2_with (first
   | (go_at_call 23; refine (hCop _ (Kd.C_alloc hr0 _)).mono ?_; rintro e w' ⟨v1, rfl, hS, hb⟩; have HS1 := Aside0.mk hS; have HB1 := Aside0.mk hb; clear hS hb)
   | (go_at_call 24; refine (hsrt _ _ _ (by simp) HS1.out (below_step ((Below.refl _ w).alloc (Nat.le_refl _) _) HB1.out) ((HB1.out.cell (p := ⟨w.heap.size, 0, none⟩) (by simp)).trans (by simp))).mono ?_; rintro e w' ⟨rfl, hS3, hb3⟩))
  go_ret
  rw [← HR.out]
  exact ⟨_, rfl, Kd.S_lower hS3 (by simp), hb3⟩

end Go.Proofs.YtdojgfkcpaeacaaDoor.Q
