-- PRINTED by print.py (a twelfth state) out of the translation. Not trusted: Lean checks it.
import Derived.Test.YtdojgfkcpaeacaaDoorProg
import Derived.Below
import Derived.Deep.Draws
import Derived.Deep.AppendLies
import Derived.Maps.AppendAt
import Derived.OwnWalk
import Derived.Laws.BytesArg
import Derived.Laws.MakeOwn
import Derived.Laws.OwnMore
import Derived.Deep.OwnRows
import Derived.Tactics
import Derived.Lib.ConvBytes
import Derived.Laws.Slices
import Derived.WalkKit
import Derived.KernelRfl
import Derived.RowKit3
import Derived.Deep.LoopGhost
import Derived.Deep.QuietTactic
import Derived.BigQuiet
import Derived.WideLaws
import Derived.Deep.DeepCutAuto
import Derived.Deep.CutBlock
import Derived.Deep.RegionHeld3
import Derived.Laws.Rows
import Derived.Lib.AppendStr
import Derived.ArgAppend
import Derived.Laws.IdiomCopy
import Derived.OrdersHeld
import Derived.Laws.BitsLemmas
import Derived.RowKit
import Derived.ScopeJumps
import Derived.WalkMore
import Derived.Test.YtdojgfkcpaeacaaDoorHWords2
import Derived.Test.YtdojgfkcpaeacaaDoorHRows2
import Derived.Test.YtdojgfkcpaeacaaDoorHFacts
import Derived.Test.YtdojgfkcpaeacaaDoorHNilEq
import Derived.Test.YtdojgfkcpaeacaaDoorHLater
import Derived.Test.YtdojgfkcpaeacaaDoorHSortRow
import Derived.Test.YtdojgfkcpaeacaaDoorHSortMore
import Derived.Test.YtdojgfkcpaeacaaDoorHSortLift
import Derived.Test.YtdojgfkcpaeacaaDoorHSymMerge
import Derived.Test.YtdojgfkcpaeacaaDoorHFuncVals
import Derived.Test.YtdojgfkcpaeacaaDoorHOpens
import Derived.Test.YtdojgfkcpaeacaaDoorHWords
namespace Go.Proofs.YtdojgfkcpaeacaaDoor.Q
open Go.RowKit Go.Proofs.YtdojgfkcpaeacaaDoorW.PrintWords Go.Proofs.YtdojgfkcpaeacaaDoorW.PrintLast Go.Proofs.YtdojgfkcpaeacaaDoorW.PrintMore
attribute [local go_sem] str_gtr str_geq str_leq max2_int min2_int max_two min_two max_three min_three max_four min_four   -- for this text's walks alone
set_option linter.unusedVariables false
set_option linter.unusedSimpArgs false



def errW : Option Int → Value
 | none => .nilIface
 | some c => .iface 0 (.int .i64 c)
theorem errW_none : errW none = .nilIface := rfl
theorem errW_some (c : Int) : errW (some c) = .iface 0 (.int .i64 c) := rfl

theorem info3 : (Tryd.prog.info? 3).map (fun i => (i.zero, i.size, i.bytes)) = some (some (.int .i64 0), 1, 8) := by kernel_rfl
theorem info28 : (Tryd.prog.info? 28).map (fun i => (i.zero, i.size, i.bytes)) = some (some (.slice none 0 0), 1, 24) := by kernel_rfl
theorem info36 : (Tryd.prog.info? 36).map (fun i => (i.zero, i.size, i.bytes)) = some (some (.agg #[(.bool false), (.string ⟨#[]⟩)]), 2, 24) := by kernel_rfl
-- the values' own types
/-! #### struct type 39 -/
structure S39 where
 f0 : Int
 f1 : Int
 f2 : Bool
def z39 : S39 := ⟨(0 : Int), (0 : Int), false⟩
def k39 : Kd S39 := Kd.iso (Kd.pair (Kd.int .i64) (Kd.pair (Kd.int .i64) Kd.bool)) (fun x : S39 => (x.f0, x.f1, x.f2))
theorem k39_open {w : World} {x : S39} {cs : List Value} (h : k39.K w x cs) : cs = [.int .i64 x.f0, .int .i64 x.f1, .bool x.f2] := by
 obtain ⟨_, _, rfl, rfl, ⟨_, _, rfl, rfl, rfl⟩⟩ := h; exact rfl
theorem k39_mk (w : World) (x : S39)  : k39.K w x [.int .i64 x.f0, .int .i64 x.f1, .bool x.f2] := ⟨[.int .i64 x.f0], [.int .i64 x.f1, .bool x.f2], rfl, rfl, ⟨[.int .i64 x.f1], [.bool x.f2], rfl, rfl, rfl⟩⟩
theorem k39_mkM (w : World) (base : Nat) (ok : Nat → Prop) (x : S39)  : k39.M w base ok x [.int .i64 x.f0, .int .i64 x.f1, .bool x.f2] := ⟨[.int .i64 x.f0], [.int .i64 x.f1, .bool x.f2], rfl, rfl, ⟨[.int .i64 x.f1], [.bool x.f2], rfl, rfl, rfl⟩⟩
def rd_T39 (xs : List S39) (i : Int) : S39 := xs.getD i.toNat z39
theorem at_T39 {w : World} {A : Option Addr} {n : Nat} {xs : List S39} (h : Kd.C k39 w A n xs) (i : Int) (h0 : 0 ≤ i) (h1 : i < n) : ∃ ad , A = some ad ∧ w.cell? (ad.add (i.toNat * 3)) = some (.int .i64 (rd_T39 xs i).f0) ∧ w.cell? ⟨(ad.add (i.toNat * 3)).block, (ad.add (i.toNat * 3)).off + 1, none⟩ = some (.int .i64 (rd_T39 xs i).f1) ∧ w.cell? ⟨(ad.add (i.toNat * 3)).block, (ad.add (i.toNat * 3)).off + 2, none⟩ = some (.bool (rd_T39 xs i).f2) := by
 obtain ⟨ad, c, e, _, hK, hc0⟩ := Kd.C_get h z39 i h0 h1
 have hc : ∀ j u, c[j]? = some u → w.cell? (ad.add (i.toNat * 3 + j)) = some u := hc0; obtain rfl := k39_open hK
 exact ⟨ad, e, hc 0 _ rfl, by rw [← add_field _ _ 1 (by omega)]; exact hc 1 _ rfl, by rw [← add_field _ _ 2 (by omega)]; exact hc 2 _ rfl⟩

/-! #### struct type 36 -/
structure S36 where
 f0 : Bool
 f1 : ByteArray
def z36 : S36 := ⟨false, (⟨#[]⟩ : ByteArray)⟩
def k36 : Kd S36 := Kd.iso (Kd.pair Kd.bool Kd.string) (fun x : S36 => (x.f0, x.f1))
theorem k36_open {w : World} {x : S36} {cs : List Value} (h : k36.K w x cs) : cs = [.bool x.f0, .string x.f1] := by
 obtain ⟨_, _, rfl, rfl, rfl⟩ := h; exact rfl
theorem k36_mk (w : World) (x : S36)  : k36.K w x [.bool x.f0, .string x.f1] := ⟨[.bool x.f0], [.string x.f1], rfl, rfl, rfl⟩
theorem k36_mkM (w : World) (base : Nat) (ok : Nat → Prop) (x : S36)  : k36.M w base ok x [.bool x.f0, .string x.f1] := ⟨[.bool x.f0], [.string x.f1], rfl, rfl, rfl⟩
def rd_T36 (xs : List S36) (i : Int) : S36 := xs.getD i.toNat z36
theorem at_T36 {w : World} {A : Option Addr} {n : Nat} {xs : List S36} (h : Kd.C k36 w A n xs) (i : Int) (h0 : 0 ≤ i) (h1 : i < n) : ∃ ad , A = some ad ∧ w.cell? (ad.add (i.toNat * 2)) = some (.bool (rd_T36 xs i).f0) ∧ w.cell? ⟨(ad.add (i.toNat * 2)).block, (ad.add (i.toNat * 2)).off + 1, none⟩ = some (.string (rd_T36 xs i).f1) := by
 obtain ⟨ad, c, e, _, hK, hc0⟩ := Kd.C_get h z36 i h0 h1
 have hc : ∀ j u, c[j]? = some u → w.cell? (ad.add (i.toNat * 2 + j)) = some u := hc0; obtain rfl := k36_open hK
 exact ⟨ad, e, hc 0 _ rfl, by rw [← add_field _ _ 1 (by omega)]; exact hc 1 _ rfl⟩

def rd_L6 (xs : List (List S36)) (i : Int) : (List S36) := xs.getD i.toNat ([] : List S36)
theorem at_L6 {w : World} {A : Option Addr} {n : Nat} {xs : List (List S36)} (h : Kd.C (Kd.slice 36 k36) w A n xs) (i : Int) (h0 : 0 ≤ i) (h1 : i < n) : ∃ ad A0 c0, A = some ad ∧ w.cell? (ad.add i.toNat) = some (.slice A0 (rd_L6 xs i).length c0) ∧ (rd_L6 xs i).length ≤ c0 ∧ k36.C w A0 (rd_L6 xs i).length (rd_L6 xs i) := by
 obtain ⟨ad, c, e, _, hK, hc0⟩ := Kd.C_get h ([] : List S36) i h0 h1
 have hc : ∀ j u, c[j]? = some u → w.cell? (ad.add (i.toNat * 1 + j)) = some u := hc0; obtain ⟨A0, c0, rfl, l0, g0⟩ := hK; exact ⟨ad, A0, c0, e, by have hq := hc 0 _ rfl; rwa [Nat.mul_one, Nat.add_zero] at hq, l0, g0⟩

/-! what is well formed, and reads so -/
def Wf36 (x : S36) : Prop := True ∧ (x.f1).size ≤ maxLen
set_option maxRecDepth 100000 in
theorem opens36 : Opens Tryd.prog 36 k36 Wf36 := fun n => by
 intro H enc w base spare held fuel cs x hf h
 obtain ⟨xs, m, rfl, rfl, hl, hlen, hfd⟩ := DataW.trod_struct Tryd.underlying36 h
 replace hl : cs.length = 2 := hl.trans (by kernel_rfl)
 obtain ⟨c0, c1, rfl⟩ : ∃ c0 c1, cs = [c0, c1] := by
  match cs, hl with
  | [c0, c1], _ => exact ⟨c0, c1, rfl⟩
 have e0 := hfd 0 _ rfl; rw [List.getElem?_eq_getElem (by rw [hlen]; decide)] at e0
 obtain ⟨a0, hk0, hw0⟩ := (Opens.bool Tryd.underlying4) m enc w base spare held m _ _ (Nat.le_refl _) e0
 replace hk0 : Kd.bool.K w a0 [c0] := by have h_ : Kd.bool.K w a0 (([c0, c1].drop 0).take (Tryd.prog.cellsOf 4)) := hk0; rwa [show Tryd.prog.cellsOf 4 = 1 by kernel_rfl] at h_
 have e1 := hfd 1 _ rfl; rw [List.getElem?_eq_getElem (by rw [hlen]; decide)] at e1
 obtain ⟨a1, hk1, hw1⟩ := (Opens.string Tryd.underlying9) m enc w base spare held m _ _ (Nat.le_refl _) e1
 replace hk1 : Kd.string.K w a1 [c1] := by have h_ : Kd.string.K w a1 (([c0, c1].drop 1).take (Tryd.prog.cellsOf 9)) := hk1; rwa [show Tryd.prog.cellsOf 9 = 1 by kernel_rfl] at h_
 replace hk0 : [c0] = _ := hk0
 simp only [List.cons.injEq, and_true] at hk0
 subst hk0; replace hk1 : [c1] = _ := hk1
 simp only [List.cons.injEq, and_true] at hk1
 subst hk1; exact ⟨⟨a0, a1⟩, k36_mk w (⟨a0, a1⟩ : S36) , ⟨hw0, hw1⟩⟩
def Wf39 (x : S39) : Prop := (Lit.int .i64 x.f0).wf = true ∧ (Lit.int .i64 x.f1).wf = true ∧ True
set_option maxRecDepth 100000 in
theorem opens39 : Opens Tryd.prog 39 k39 Wf39 := fun n => by
 intro H enc w base spare held fuel cs x hf h
 obtain ⟨xs, m, rfl, rfl, hl, hlen, hfd⟩ := DataW.trod_struct Tryd.underlying39 h
 replace hl : cs.length = 3 := hl.trans (by kernel_rfl)
 obtain ⟨c0, c1, c2, rfl⟩ : ∃ c0 c1 c2, cs = [c0, c1, c2] := by
  match cs, hl with
  | [c0, c1, c2], _ => exact ⟨c0, c1, c2, rfl⟩
 have e0 := hfd 0 _ rfl; rw [List.getElem?_eq_getElem (by rw [hlen]; decide)] at e0
 obtain ⟨a0, hk0, hw0⟩ := (Opens.int Tryd.underlying3) m enc w base spare held m _ _ (Nat.le_refl _) e0
 replace hk0 : (Kd.int .i64).K w a0 [c0] := by have h_ : (Kd.int .i64).K w a0 (([c0, c1, c2].drop 0).take (Tryd.prog.cellsOf 3)) := hk0; rwa [show Tryd.prog.cellsOf 3 = 1 by kernel_rfl] at h_
 have e1 := hfd 1 _ rfl; rw [List.getElem?_eq_getElem (by rw [hlen]; decide)] at e1
 obtain ⟨a1, hk1, hw1⟩ := (Opens.int Tryd.underlying3) m enc w base spare held m _ _ (Nat.le_refl _) e1
 replace hk1 : (Kd.int .i64).K w a1 [c1] := by have h_ : (Kd.int .i64).K w a1 (([c0, c1, c2].drop 1).take (Tryd.prog.cellsOf 3)) := hk1; rwa [show Tryd.prog.cellsOf 3 = 1 by kernel_rfl] at h_
 have e2 := hfd 2 _ rfl; rw [List.getElem?_eq_getElem (by rw [hlen]; decide)] at e2
 obtain ⟨a2, hk2, hw2⟩ := (Opens.bool Tryd.underlying4) m enc w base spare held m _ _ (Nat.le_refl _) e2
 replace hk2 : Kd.bool.K w a2 [c2] := by have h_ : Kd.bool.K w a2 (([c0, c1, c2].drop 2).take (Tryd.prog.cellsOf 4)) := hk2; rwa [show Tryd.prog.cellsOf 4 = 1 by kernel_rfl] at h_
 replace hk0 : [c0] = _ := hk0
 simp only [List.cons.injEq, and_true] at hk0
 subst hk0; replace hk1 : [c1] = _ := hk1
 simp only [List.cons.injEq, and_true] at hk1
 subst hk1; replace hk2 : [c2] = _ := hk2
 simp only [List.cons.injEq, and_true] at hk2
 subst hk2; exact ⟨⟨a0, a1, a2⟩, k39_mk w (⟨a0, a1, a2⟩ : S39) , ⟨hw0, hw1, hw2⟩⟩
theorem dtA {p : Prop} [Decidable p] (h : decide p = true := by first | (with_reducible assumption) | assumption) : p := of_decide_eq_true h
theorem exD {P Q : Prop} (h : P := by first | rfl | (simp; done) | (simp [*]; done)) (g : Q := by repeat (first | exact Drawn0.refl _ | apply Drawn0.step)) : P ∧ Q := ⟨h, g⟩
theorem exB {P Q : Prop} (g : Q) (h : P := by first | rfl | (simp [errW_none, errW_some] <;> rfl) | (simp [*, errW_none, errW_some] <;> rfl) | exact congrArg (fun b_ => Ending.returned (.bool b_)) (decide_eq_decide.2 (by unfold wrap64; omega))) : P ∧ Q := ⟨h, g⟩
end Go.Proofs.YtdojgfkcpaeacaaDoor.Q
