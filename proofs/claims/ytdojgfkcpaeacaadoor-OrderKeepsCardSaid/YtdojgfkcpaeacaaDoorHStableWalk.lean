/- The stable sort of slices over rows: swapRange, rotate: what their walks come to. -/
import Derived.Test.YtdojgfkcpaeacaaDoorProg
import Derived.Below
import Derived.Deep.Draws
import Derived.Tactics
import Derived.WalkKit
import Derived.KernelRfl
import Derived.RowKit3
import Derived.Deep.LoopGhost
import Derived.Deep.QuietTactic
import Derived.BigQuiet
import Derived.WideLaws
import Derived.OrdersHeld
import Derived.Laws.BitsLemmas
import Derived.RowKit
import Derived.ScopeJumps
import Derived.Shelf.RegionOpenPlain
import Derived.WalkMore
import Derived.Test.YtdojgfkcpaeacaaDoorHSortMore
import Derived.Test.YtdojgfkcpaeacaaDoorHSymMerge
import Derived.Test.YtdojgfkcpaeacaaDoorHWords
set_option linter.unusedVariables false
set_option linter.unusedSimpArgs false
namespace Go.Proofs.YtdojgfkcpaeacaaDoorW.PrintWords
open Go.RowKit Go.Sort
set_option maxHeartbeats 8000000 in
set_option maxRecDepth 1000000 in
theorem swapRange_walk {α : Type} [Inhabited α] (enc : α → Value) (hE : ∀ x, ∃ A n c, enc x = .slice A n c) (fv : Value) (w1 : World) (g cap a b n : Nat) (d0 d : Array α) (w : World)
    (hst : St enc w1 g d0 w d) (hg : g < w1.heap.size) (hne : a ≠ b) (ha : a + n ≤ d.size) (hb : b + n ≤ d.size) (hsz : d.size < 4611686018427387904) :
    Calls Tryd.prog 54 #[.slice (some ⟨g, 0, none⟩) d.size cap, .int .i64 a, .int .i64 b, .int .i64 n, fv] w fun e w' =>
      e = .returned (.tuple #[]) ∧ St enc w1 g d0 w' (swpR a b n 0 d) := by
  have mixed : Tryd.prog.follows .mixedOrders = true := by kernel_rfl
  have HST := Aside0.mk hst
  have HE := Aside0.mk hE
  clear hst hE
  go_enter Tryd.func54, Tryd.ntmps54
  go_wp2
  go_loopg [10] n (fun gg v10 wr => ∃ (i : Nat) (dk : Array α), v10 = .int .i64 i ∧ i ≤ n ∧ n - i ≤ gg ∧ dk.size = d.size ∧ Aside0 (St enc w1 g d0 wr dk) ∧ Aside0 (swpR a b (n - i) i dk = swpR a b n 0 d))
  case atStart => exact ⟨0, d, by go_num, by omega, by omega, rfl, HST, ⟨rfl⟩⟩
  case round =>
    clear HST
    obtain ⟨i, dk, rfl, hin, hgg, hsk, HS, HO⟩ := hrel
    by_cases hlt : i < n
    · have hltz : (i : Int) < (n : Int) := by omega
      obtain ⟨p, hp⟩ : ∃ p, a + i = p := ⟨_, rfl⟩
      obtain ⟨q, hq⟩ : ∃ q, b + i = q := ⟨_, rfl⟩
      have wp : IntKind.i64.wrap ((a : Int) + (i : Int)) = (p : Int) := by rw [IntKind.wrap_i64]; omega
      have wq : IntKind.i64.wrap ((b : Int) + (i : Int)) = (q : Int) := by rw [IntKind.wrap_i64]; omega
      have npq : ¬ p = q := by omega
      have nqp : ¬ q = p := by omega
      have zp : (p : Int) < (d.size : Int) := by omega
      have zq : (q : Int) < (d.size : Int) := by omega
      obtain ⟨xp, hxp⟩ : ∃ x, dk[p]! = x := ⟨_, rfl⟩
      obtain ⟨xq, hxq⟩ : ∃ x, dk[q]! = x := ⟨_, rfl⟩
      obtain ⟨cp, fp⟩ := HS.out.holds p (by omega)
      obtain ⟨cq, fq⟩ := HS.out.holds q (by omega)
      obtain ⟨Ap, np, kp, ep⟩ := HE.out xp
      obtain ⟨Aq, nq, kq, eq⟩ := HE.out xq
      rw [hxp, ep, Nat.zero_add] at cp
      rw [hxq, eq, Nat.zero_add] at cq
      rw [Nat.zero_add] at fp fq
      have P := Aside0.mk (And.intro hp hq)
      have EX := Aside0.mk (And.intro hxp hxq)
      have EV := Aside0.mk (And.intro ep eq)
      clear hp hq hxp hxq ep eq
      go_wp2_with fail
      go_big_region_o
      all_goals go_wp2
      go_roundg (n - (i + 1))
      case measure => omega
      case rel =>
        refine ⟨i + 1, Sort.swp dk p q, by first | rfl | go_num | (congr 1; omega), by omega, by omega, by rw [Sort.size_swp]; exact hsk, ⟨?_⟩, ⟨?_⟩⟩
        · rw [← EV.out.1, ← EV.out.2, ← EX.out.1, ← EX.out.2]
          have hsw := (HS.out.below (w2 := wr.drew) hg (Below.drew (Below.refl _ _))).swap p q (by omega) (by omega)
          rw [Nat.zero_add, Nat.zero_add] at hsw
          exact hsw
        · rw [← HO.out, show n - i = n - (i + 1) + 1 by omega, swpR, P.out.1, P.out.2]
    · have hltz : ¬ (i : Int) < (n : Int) := by omega
      go_wp2
      go_end0
      refine ⟨rfl, ?_⟩
      have e := HO.out
      rw [show n - i = 0 by omega, swpR] at e
      rw [← e]
      exact HS.out
set_option maxHeartbeats 8000000 in
set_option maxRecDepth 1000000 in
theorem rotate_walk {α : Type} [Inhabited α] (enc : α → Value) (hE : ∀ x, ∃ A n c, enc x = .slice A n c) (fv : Value) (w1 : World) (g cap a m b : Nat) (d0 d : Array α) (w : World)
    (hst : St enc w1 g d0 w d) (hg : g < w1.heap.size) (ha : a < m) (hm : m < b) (hb : b ≤ d.size) (hsz : d.size < 4611686018427387904) :
    Calls Tryd.prog 51 #[.slice (some ⟨g, 0, none⟩) d.size cap, .int .i64 a, .int .i64 m, .int .i64 b, fv] w fun e w' =>
      e = .returned (.tuple #[]) ∧ St enc w1 g d0 w' (rotP m (m - a) (b - m) d) := by
  have hSW : ∀ (W : World) (dk : Array α) (x y k : Nat), St enc w1 g d0 W dk → dk.size = d.size → x ≠ y → x + k ≤ d.size → y + k ≤ d.size → Calls Tryd.prog 54 #[.slice (some ⟨g, 0, none⟩) d.size cap, .int .i64 x, .int .i64 y, .int .i64 k, fv] W fun e w' => e = .returned (.tuple #[]) ∧ St enc w1 g d0 w' (swpR x y k 0 dk) := fun W dk x y k hS hk hne h1 h2 => by
    have := swapRange_walk enc hE fv w1 g cap x y k d0 dk W hS hg hne (by omega) (by omega) (by omega)
    rw [hk] at this
    exact this
  have HSW := Aside0.mk hSW
  have HST := Aside0.mk hst
  clear hst hE hSW
  go_enter Tryd.func51, Tryd.ntmps51
  obtain ⟨i0, hi0⟩ : ∃ i0, m - a = i0 := ⟨_, rfl⟩
  obtain ⟨j0, hj0⟩ : ∃ j0, b - m = j0 := ⟨_, rfl⟩
  have wi : IntKind.i64.wrap ((m : Int) - (a : Int)) = (i0 : Int) := by rw [IntKind.wrap_i64]; omega
  have wj : IntKind.i64.wrap ((b : Int) - (m : Int)) = (j0 : Int) := by rw [IntKind.wrap_i64]; omega
  rw [hi0, hj0]
  have IJ := Aside0.mk (And.intro hi0 hj0)
  clear hi0 hj0
  go_wp2
  go_loopg [10, 11] b (fun gg v10 v11 wr => ∃ (i j : Nat) (dk : Array α), v10 = .int .i64 i ∧ v11 = .int .i64 j ∧ 0 < i ∧ 0 < j ∧ i ≤ m ∧ m + j ≤ d.size ∧ i + j ≤ gg ∧ dk.size = d.size ∧ Aside0 (St enc w1 g d0 wr dk) ∧ Aside0 (rotP m i j dk = rotP m i0 j0 d))
  case atStart => obtain ⟨hi0, hj0⟩ := IJ.out; exact ⟨i0, j0, d, by go_num, by go_num, by omega, by omega, by omega, by omega, by omega, rfl, HST, ⟨rfl⟩⟩
  case round =>
    clear HST wi wj IJ
    obtain ⟨i, j, dk, rfl, rfl, hi, hj, him, hjm, hgg, hsk, HS, HO⟩ := hrel
    obtain ⟨x, hx⟩ : ∃ x, m - i = x := ⟨_, rfl⟩
    have wmi : IntKind.i64.wrap ((m : Int) - (i : Int)) = (x : Int) := by rw [IntKind.wrap_i64]; omega
    by_cases e : i = j
    · subst e
      have hz : ((i : Int) != (i : Int)) = false := by simp
      have hc := HSW.out wr dk x m i HS.out hsk (by omega) (by omega) (by omega)
      have HO2 := HO.out
      rw [rotP, dif_pos ⟨hi, hj⟩, if_pos rfl, hx] at HO2
      have HO3 := Aside0.mk HO2
      clear hx HO2 HO
      go_wp2_with (go_at_call 54; refine hc.mono ?_; rintro e w' ⟨rfl, hS2⟩)
      go_end0
      refine ⟨rfl, ?_⟩
      rw [← HO3.out]
      exact hS2
    have hz : ((i : Int) != (j : Int)) = true := bne_iff_ne.2 (by omega)
    have E := Aside0.mk e
    clear e
    by_cases c : j < i
    · have cz : (i : Int) > (j : Int) := by omega
      obtain ⟨y, hy⟩ : ∃ y, i - j = y := ⟨_, rfl⟩
      have wij : IntKind.i64.wrap ((i : Int) - (j : Int)) = (y : Int) := by rw [IntKind.wrap_i64]; omega
      have hc := HSW.out wr dk x m j HS.out hsk (by omega) (by omega) (by omega)
      have HX := Aside0.mk (And.intro hx hy)
      clear hx hy
      go_wp2_with (go_at_call 54; refine hc.mono ?_; rintro e w' ⟨rfl, hS2⟩; have HS2 := Aside0.mk hS2; clear hS2)
      obtain ⟨hx, hy⟩ := HX.out
      go_roundg (y + j)
      case measure => omega
      case rel =>
        refine ⟨y, j, _, by first | rfl | go_num, by first | rfl | go_num, by omega, hj, by omega, by omega, by omega, by rw [swpR_size]; exact hsk, HS2, ⟨?_⟩⟩
        rw [← HO.out]
        conv => rhs; rw [rotP, dif_pos ⟨hi, hj⟩, if_neg E.out, if_pos c, hx, hy]
    · have cz : ¬ (i : Int) > (j : Int) := by omega
      obtain ⟨y, hy⟩ : ∃ y, j - i = y := ⟨_, rfl⟩
      obtain ⟨z, hzz⟩ : ∃ z, m + j = z := ⟨_, rfl⟩
      obtain ⟨u, hu⟩ : ∃ u, m + j - i = u := ⟨_, rfl⟩
      have wij : IntKind.i64.wrap ((j : Int) - (i : Int)) = (y : Int) := by rw [IntKind.wrap_i64]; omega
      have wmj : IntKind.i64.wrap ((m : Int) + (j : Int)) = (z : Int) := by rw [IntKind.wrap_i64]; omega
      have wmji : IntKind.i64.wrap ((z : Int) - (i : Int)) = (u : Int) := by rw [IntKind.wrap_i64]; omega
      have hc := HSW.out wr dk x u i HS.out hsk (by have := E.out; omega) (by omega) (by omega)
      have HX := Aside0.mk (And.intro hx (And.intro hy (And.intro hzz hu)))
      clear hx hy hzz hu
      go_wp2_with (go_at_call 54; refine hc.mono ?_; rintro e w' ⟨rfl, hS2⟩; have HS2 := Aside0.mk hS2; clear hS2)
      obtain ⟨hx, hy, hzz, hu⟩ := HX.out
      have e := E.out
      go_roundg (i + y)
      case measure => omega
      case rel =>
        refine ⟨i, y, _, by first | rfl | go_num, by first | rfl | go_num, hi, by omega, him, by omega, by omega, by rw [swpR_size]; exact hsk, HS2, ⟨?_⟩⟩
        rw [← HO.out]
        conv => rhs; rw [rotP, dif_pos ⟨hi, hj⟩, if_neg e, if_neg c, hx, hy, hu]
end Go.Proofs.YtdojgfkcpaeacaaDoorW.PrintWords
