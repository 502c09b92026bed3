-- PRINTED by print.py (a twelfth state) out of the translation. Not trusted: Lean checks it.
import Derived.Test.YtdccooaddoafnaaGreatDoorProg
import Derived.Below
import Derived.Deep.Draws
import Derived.Deep.AppendLies
import Derived.Maps.AppendAt
import Derived.OwnWalk
import Derived.Laws.BytesArg
import Derived.Laws.MakeOwn
import Derived.Laws.OwnMore
import Derived.Deep.OwnRows
import Derived.Tactics
import Derived.Lib.ConvBytes
import Derived.Laws.Slices
import Derived.WalkKit
import Derived.KernelRfl
import Derived.RowKit3
import Derived.Deep.LoopGhost
import Derived.Deep.QuietTactic
import Derived.BigQuiet
import Derived.WideLaws
import Derived.Deep.DeepCutAuto
import Derived.Deep.CutBlock
import Derived.Deep.RegionHeld3
import Derived.Laws.Rows
import Derived.Lib.AppendStr
import Derived.ArgAppend
import Derived.Laws.IdiomCopy
import Derived.OrdersHeld
import Derived.Laws.BitsLemmas
import Derived.RowKit
import Derived.ScopeJumps
import Derived.WalkMore
import Derived.Test.YtdccooaddoafnaaGreatDoorHWords2
import Derived.Test.YtdccooaddoafnaaGreatDoorHFacts
import Derived.Test.YtdccooaddoafnaaGreatDoorHLikePure
import Derived.Test.YtdccooaddoafnaaGreatDoorHRows2
import Derived.Test.YtdccooaddoafnaaGreatDoorHStoreAll
import Derived.Test.YtdccooaddoafnaaGreatDoorHFuncVals
import Derived.Test.YtdccooaddoafnaaGreatDoorHCore
import Derived.Test.YtdccooaddoafnaaGreatDoorHBoxes
import Derived.Test.YtdccooaddoafnaaGreatDoorHIntRow
import Derived.Test.YtdccooaddoafnaaGreatDoorHOpens
import Derived.Test.YtdccooaddoafnaaGreatDoorHWords
namespace Go.Proofs.YtdccooaddoafnaaGreatDoor.Q
open Go.RowKit Go.Proofs.YtdccooaddoafnaaGreatDoorW.PrintWords Go.Proofs.YtdccooaddoafnaaGreatDoorW.PrintLast Go.Proofs.YtdccooaddoafnaaGreatDoorW.PrintMore
attribute [local go_sem] str_gtr str_geq str_leq max2_int min2_int max_two min_two max_three min_three max_four min_four   -- for this text's walks alone
set_option linter.unusedVariables false
set_option linter.unusedSimpArgs false



def errW : Option Int → Value
 | none => .nilIface
 | some c => .iface 0 (.int .i64 c)
theorem errW_none : errW none = .nilIface := rfl
theorem errW_some (c : Int) : errW (some c) = .iface 0 (.int .i64 c) := rfl

theorem info3 : (Tryz.prog.info? 3).map (fun i => (i.zero, i.size, i.bytes)) = some (some (.int .i64 0), 1, 8) := by kernel_rfl
theorem info4 : (Tryz.prog.info? 4).map (fun i => (i.zero, i.size, i.bytes)) = some (some (.bool false), 1, 1) := by kernel_rfl
theorem info5 : (Tryz.prog.info? 5).map (fun i => (i.zero, i.size, i.bytes)) = some (some (.int .u8 0), 1, 1) := by kernel_rfl
theorem info9 : (Tryz.prog.info? 9).map (fun i => (i.zero, i.size, i.bytes)) = some (some (.string ⟨#[]⟩), 1, 16) := by kernel_rfl
theorem info53 : (Tryz.prog.info? 53).map (fun i => (i.zero, i.size, i.bytes)) = some (some (.agg #[(.int .i64 0), (.slice none 0 0), (.slice none 0 0)]), 3, 56) := by kernel_rfl
-- the values' own types
/-! #### struct type 24, nested in itself -/
structure S24 where
 f0 : Int
 f1 : Int
 f2 : ByteArray
 f3 : Int
 f4 : Int
 f5 : (List S24)
def z24 : S24 := ⟨(0 : Int), (0 : Int), (⟨#[]⟩ : ByteArray), (0 : Int), (0 : Int), ([] : List S24)⟩
def F24 (d : Kd S24) : Kd S24 := Kd.iso (Kd.pair (Kd.int .i64) (Kd.pair (Kd.int .i64) (Kd.pair Kd.string (Kd.pair (Kd.int .i64) (Kd.pair (Kd.int .i64) (Kd.slice 24 d)))))) (fun x : S24 => (x.f0, x.f1, x.f2, x.f3, x.f4, x.f5))
theorem mono24 : Kd.Mono F24 := Kd.mono_iso _ (Kd.mono_pair (Kd.mono_const _) (Kd.mono_pair (Kd.mono_const _) (Kd.mono_pair (Kd.mono_const _) (Kd.mono_pair (Kd.mono_const _) (Kd.mono_pair (Kd.mono_const _) (Kd.mono_slice 24 Kd.mono_id))))))
theorem sub24 : Kd.Sub F24 [24] := Kd.sub_iso _ (Kd.sub_pair (Kd.sub_const _ (by decide)) (Kd.sub_pair (Kd.sub_const _ (by decide)) (Kd.sub_pair (Kd.sub_const _ (by decide)) (Kd.sub_pair (Kd.sub_const _ (by decide)) (Kd.sub_pair (Kd.sub_const _ (by decide)) (Kd.sub_slice 24 (by decide) Kd.sub_id))))))
theorem sz24 : ∀ n, (Kd.upto F24 6 [24] n).sz = 6 := Kd.upto_sz (fun _ => rfl)
def k24 : Kd S24 := Kd.fix F24 6 [24] sz24 (Kd.upto_E sub24)
theorem k24_open {w : World} {x : S24} {cs : List Value} (h : k24.K w x cs) : ∃ A5 c5, cs = [.int .i64 x.f0, .int .i64 x.f1, .string x.f2, .int .i64 x.f3, .int .i64 x.f4, .slice A5 x.f5.length c5] ∧ x.f5.length ≤ c5 ∧ k24.C w A5 x.f5.length x.f5 := by
 obtain ⟨n, h⟩ := h
 cases n with
 | zero => exact h.elim
 | succ n =>
  obtain ⟨_, _, rfl, rfl, ⟨_, _, rfl, rfl, ⟨_, _, rfl, rfl, ⟨_, _, rfl, rfl, ⟨_, _, rfl, rfl, ⟨A5, c5, rfl, l5, g5⟩⟩⟩⟩⟩⟩ := h; exact ⟨A5, c5, rfl, l5, Kd.fix_C g5⟩
theorem k24_mk (w : World) (x : S24) {A5 : Option Addr} {c5 : Nat} (l5 : x.f5.length ≤ c5) (g5 : k24.C w A5 x.f5.length x.f5) : k24.K w x [.int .i64 x.f0, .int .i64 x.f1, .string x.f2, .int .i64 x.f3, .int .i64 x.f4, .slice A5 x.f5.length c5] := by
 obtain ⟨n5, q5⟩ := Kd.fix_C_back mono24 g5
 have r5 := Kd.upto_C_le mono24 sz24 (show n5 ≤ n5 by omega) q5
 exact ⟨n5 + 1, ⟨[.int .i64 x.f0], [.int .i64 x.f1, .string x.f2, .int .i64 x.f3, .int .i64 x.f4, .slice A5 x.f5.length c5], rfl, rfl, ⟨[.int .i64 x.f1], [.string x.f2, .int .i64 x.f3, .int .i64 x.f4, .slice A5 x.f5.length c5], rfl, rfl, ⟨[.string x.f2], [.int .i64 x.f3, .int .i64 x.f4, .slice A5 x.f5.length c5], rfl, rfl, ⟨[.int .i64 x.f3], [.int .i64 x.f4, .slice A5 x.f5.length c5], rfl, rfl, ⟨[.int .i64 x.f4], [.slice A5 x.f5.length c5], rfl, rfl, ⟨A5, c5, rfl, l5, r5⟩⟩⟩⟩⟩⟩⟩
theorem k24_mkF (W : World) (ok : Nat → Prop) (x : S24) {A5 : Option Addr} {c5 : Nat} (l5 : x.f5.length ≤ c5) (g5 : Kd.F k24 W ok A5 x.f5.length x.f5) : Kd.FK k24 W ok x [.int .i64 x.f0, .int .i64 x.f1, .string x.f2, .int .i64 x.f3, .int .i64 x.f4, .slice A5 x.f5.length c5] := fun W2 hW => k24_mk W2 x l5 (g5 W2 hW)
def rd_T24 (xs : List S24) (i : Int) : S24 := xs.getD i.toNat z24
theorem at_T24 {w : World} {A : Option Addr} {n : Nat} {xs : List S24} (h : Kd.C k24 w A n xs) (i : Int) (h0 : 0 ≤ i) (h1 : i < n) : ∃ ad A5 c5, A = some ad ∧ w.cell? (ad.add (i.toNat * 6)) = some (.int .i64 (rd_T24 xs i).f0) ∧ w.cell? ⟨(ad.add (i.toNat * 6)).block, (ad.add (i.toNat * 6)).off + 1, none⟩ = some (.int .i64 (rd_T24 xs i).f1) ∧ w.cell? ⟨(ad.add (i.toNat * 6)).block, (ad.add (i.toNat * 6)).off + 2, none⟩ = some (.string (rd_T24 xs i).f2) ∧ w.cell? ⟨(ad.add (i.toNat * 6)).block, (ad.add (i.toNat * 6)).off + 3, none⟩ = some (.int .i64 (rd_T24 xs i).f3) ∧ w.cell? ⟨(ad.add (i.toNat * 6)).block, (ad.add (i.toNat * 6)).off + 4, none⟩ = some (.int .i64 (rd_T24 xs i).f4) ∧ w.cell? ⟨(ad.add (i.toNat * 6)).block, (ad.add (i.toNat * 6)).off + 5, none⟩ = some (.slice A5 (rd_T24 xs i).f5.length c5) ∧ (rd_T24 xs i).f5.length ≤ c5 ∧ k24.C w A5 (rd_T24 xs i).f5.length (rd_T24 xs i).f5 := by
 obtain ⟨ad, c, e, _, hK, hc0⟩ := Kd.C_get h z24 i h0 h1
 have hc : ∀ j u, c[j]? = some u → w.cell? (ad.add (i.toNat * 6 + j)) = some u := hc0; obtain ⟨A5, c5, rfl, l5, g5⟩ := k24_open hK
 exact ⟨ad, A5, c5, e, hc 0 _ rfl, by rw [← add_field _ _ 1 (by omega)]; exact hc 1 _ rfl, by rw [← add_field _ _ 2 (by omega)]; exact hc 2 _ rfl, by rw [← add_field _ _ 3 (by omega)]; exact hc 3 _ rfl, by rw [← add_field _ _ 4 (by omega)]; exact hc 4 _ rfl, by rw [← add_field _ _ 5 (by omega)]; exact hc 5 _ rfl, l5, g5⟩

/-! #### struct type 38 -/
structure S38 where
 f0 : Bool
 f1 : ByteArray
def z38 : S38 := ⟨false, (⟨#[]⟩ : ByteArray)⟩
def k38 : Kd S38 := Kd.iso (Kd.pair Kd.bool Kd.string) (fun x : S38 => (x.f0, x.f1))
theorem k38_open {w : World} {x : S38} {cs : List Value} (h : k38.K w x cs) : cs = [.bool x.f0, .string x.f1] := by
 obtain ⟨_, _, rfl, rfl, rfl⟩ := h; exact rfl
theorem k38_mk (w : World) (x : S38)  : k38.K w x [.bool x.f0, .string x.f1] := ⟨[.bool x.f0], [.string x.f1], rfl, rfl, rfl⟩
theorem k38_mkM (w : World) (base : Nat) (ok : Nat → Prop) (x : S38)  : k38.M w base ok x [.bool x.f0, .string x.f1] := ⟨[.bool x.f0], [.string x.f1], rfl, rfl, rfl⟩
def rd_T38 (xs : List S38) (i : Int) : S38 := xs.getD i.toNat z38
theorem at_T38 {w : World} {A : Option Addr} {n : Nat} {xs : List S38} (h : Kd.C k38 w A n xs) (i : Int) (h0 : 0 ≤ i) (h1 : i < n) : ∃ ad , A = some ad ∧ w.cell? (ad.add (i.toNat * 2)) = some (.bool (rd_T38 xs i).f0) ∧ w.cell? ⟨(ad.add (i.toNat * 2)).block, (ad.add (i.toNat * 2)).off + 1, none⟩ = some (.string (rd_T38 xs i).f1) := by
 obtain ⟨ad, c, e, _, hK, hc0⟩ := Kd.C_get h z38 i h0 h1
 have hc : ∀ j u, c[j]? = some u → w.cell? (ad.add (i.toNat * 2 + j)) = some u := hc0; obtain rfl := k38_open hK
 exact ⟨ad, e, hc 0 _ rfl, by rw [← add_field _ _ 1 (by omega)]; exact hc 1 _ rfl⟩

def rd_L7 (xs : List (List S38)) (i : Int) : (List S38) := xs.getD i.toNat ([] : List S38)
theorem at_L7 {w : World} {A : Option Addr} {n : Nat} {xs : List (List S38)} (h : Kd.C (Kd.slice 38 k38) w A n xs) (i : Int) (h0 : 0 ≤ i) (h1 : i < n) : ∃ ad A0 c0, A = some ad ∧ w.cell? (ad.add i.toNat) = some (.slice A0 (rd_L7 xs i).length c0) ∧ (rd_L7 xs i).length ≤ c0 ∧ k38.C w A0 (rd_L7 xs i).length (rd_L7 xs i) := by
 obtain ⟨ad, c, e, _, hK, hc0⟩ := Kd.C_get h ([] : List S38) i h0 h1
 have hc : ∀ j u, c[j]? = some u → w.cell? (ad.add (i.toNat * 1 + j)) = some u := hc0; obtain ⟨A0, c0, rfl, l0, g0⟩ := hK; exact ⟨ad, A0, c0, e, by have hq := hc 0 _ rfl; rwa [Nat.mul_one, Nat.add_zero] at hq, l0, g0⟩

/-! #### struct type 53 -/
structure S53 where
 f0 : Int
 f1 : (List Int)
 f2 : (List Bool)
def z53 : S53 := ⟨(0 : Int), ([] : List Int), ([] : List Bool)⟩
def k53 : Kd S53 := Kd.iso (Kd.pair (Kd.int .i64) (Kd.pair (Kd.slice 3 (Kd.int .i64)) (Kd.slice 4 Kd.bool))) (fun x : S53 => (x.f0, x.f1, x.f2))
theorem k53_open {w : World} {x : S53} {cs : List Value} (h : k53.K w x cs) : ∃ A1 c1 A2 c2, cs = [.int .i64 x.f0, .slice A1 x.f1.length c1, .slice A2 x.f2.length c2] ∧ x.f1.length ≤ c1 ∧ (Kd.int .i64).C w A1 x.f1.length x.f1 ∧ x.f2.length ≤ c2 ∧ Kd.bool.C w A2 x.f2.length x.f2 := by
 obtain ⟨_, _, rfl, rfl, ⟨_, _, rfl, ⟨A1, c1, rfl, l1, g1⟩, ⟨A2, c2, rfl, l2, g2⟩⟩⟩ := h; exact ⟨A1, c1, A2, c2, rfl, l1, g1, l2, g2⟩
theorem k53_mk (w : World) (x : S53) {A1 : Option Addr} {c1 : Nat} (l1 : x.f1.length ≤ c1) (g1 : (Kd.int .i64).C w A1 x.f1.length x.f1) {A2 : Option Addr} {c2 : Nat} (l2 : x.f2.length ≤ c2) (g2 : Kd.bool.C w A2 x.f2.length x.f2) : k53.K w x [.int .i64 x.f0, .slice A1 x.f1.length c1, .slice A2 x.f2.length c2] := ⟨[.int .i64 x.f0], [.slice A1 x.f1.length c1, .slice A2 x.f2.length c2], rfl, rfl, ⟨[.slice A1 x.f1.length c1], [.slice A2 x.f2.length c2], rfl, ⟨A1, c1, rfl, l1, g1⟩, ⟨A2, c2, rfl, l2, g2⟩⟩⟩
theorem k53_mkM (w : World) (base : Nat) (ok : Nat → Prop) (x : S53) {v1 : Value} (g1 : (Kd.int .i64).R 3 w base ok v1 x.f1) {v2 : Value} (g2 : Kd.bool.R 4 w base ok v2 x.f2) : k53.M w base ok x [.int .i64 x.f0, v1, v2] := ⟨[.int .i64 x.f0], [v1, v2], rfl, rfl, ⟨[v1], [v2], rfl, ⟨v1, rfl, g1⟩, ⟨v2, rfl, g2⟩⟩⟩
def rd_T53 (xs : List S53) (i : Int) : S53 := xs.getD i.toNat z53
/-! what is well formed, and reads so -/
inductive Wf24 : S24 → Prop
 | mk (x : S24) : (Lit.int .i64 x.f0).wf = true → (Lit.int .i64 x.f1).wf = true → (x.f2).size ≤ maxLen → (Lit.int .i64 x.f3).wf = true → (Lit.int .i64 x.f4).wf = true → x.f5.length ≤ maxLen → (∀ y ∈ x.f5, Wf24 y) → Wf24 x
theorem wf24_leaves {x : S24} (h : Wf24 x) : (Lit.int .i64 x.f0).wf = true ∧ (Lit.int .i64 x.f1).wf = true ∧ (x.f2).size ≤ maxLen ∧ (Lit.int .i64 x.f3).wf = true ∧ (Lit.int .i64 x.f4).wf = true ∧ (WfSl Wf24) x.f5 := by
 obtain ⟨_, h0, h1, h2, h3, h4, h5, g5⟩ := h; exact ⟨h0, h1, h2, h3, h4, ⟨h5, g5⟩⟩
set_option maxRecDepth 100000 in
theorem opensF24 : ∀ n, OpensF Tryz.prog 24 k24 Wf24 n := by
 intro n
 induction n with
 | zero => exact OpensF.zero
 | succ n ih =>
 intro H enc w base spare held fuel cs x hf h
 obtain ⟨xs, m, rfl, rfl, hl, hlen, hfd⟩ := DataW.trod_struct Tryz.underlying24 h
 replace hl : cs.length = 6 := hl.trans (by kernel_rfl)
 obtain ⟨c0, c1, c2, c3, c4, c5, rfl⟩ : ∃ c0 c1 c2 c3 c4 c5, cs = [c0, c1, c2, c3, c4, c5] := by
  match cs, hl with
  | [c0, c1, c2, c3, c4, c5], _ => exact ⟨c0, c1, c2, c3, c4, c5, rfl⟩
 have e0 := hfd 0 _ rfl; rw [List.getElem?_eq_getElem (by rw [hlen]; decide)] at e0
 obtain ⟨a0, hk0, hw0⟩ := (Opens.int Tryz.underlying3) m enc w base spare held m _ _ (Nat.le_refl _) e0
 replace hk0 : (Kd.int .i64).K w a0 [c0] := by have h_ : (Kd.int .i64).K w a0 (([c0, c1, c2, c3, c4, c5].drop 0).take (Tryz.prog.cellsOf 3)) := hk0; rwa [show Tryz.prog.cellsOf 3 = 1 by kernel_rfl] at h_
 have e1 := hfd 1 _ rfl; rw [List.getElem?_eq_getElem (by rw [hlen]; decide)] at e1
 obtain ⟨a1, hk1, hw1⟩ := (Opens.int Tryz.underlying3) m enc w base spare held m _ _ (Nat.le_refl _) e1
 replace hk1 : (Kd.int .i64).K w a1 [c1] := by have h_ : (Kd.int .i64).K w a1 (([c0, c1, c2, c3, c4, c5].drop 1).take (Tryz.prog.cellsOf 3)) := hk1; rwa [show Tryz.prog.cellsOf 3 = 1 by kernel_rfl] at h_
 have e2 := hfd 2 _ rfl; rw [List.getElem?_eq_getElem (by rw [hlen]; decide)] at e2
 obtain ⟨a2, hk2, hw2⟩ := (Opens.string Tryz.underlying9) m enc w base spare held m _ _ (Nat.le_refl _) e2
 replace hk2 : Kd.string.K w a2 [c2] := by have h_ : Kd.string.K w a2 (([c0, c1, c2, c3, c4, c5].drop 2).take (Tryz.prog.cellsOf 9)) := hk2; rwa [show Tryz.prog.cellsOf 9 = 1 by kernel_rfl] at h_
 have e3 := hfd 3 _ rfl; rw [List.getElem?_eq_getElem (by rw [hlen]; decide)] at e3
 obtain ⟨a3, hk3, hw3⟩ := (Opens.int Tryz.underlying3) m enc w base spare held m _ _ (Nat.le_refl _) e3
 replace hk3 : (Kd.int .i64).K w a3 [c3] := by have h_ : (Kd.int .i64).K w a3 (([c0, c1, c2, c3, c4, c5].drop 3).take (Tryz.prog.cellsOf 3)) := hk3; rwa [show Tryz.prog.cellsOf 3 = 1 by kernel_rfl] at h_
 have e4 := hfd 4 _ rfl; rw [List.getElem?_eq_getElem (by rw [hlen]; decide)] at e4
 obtain ⟨a4, hk4, hw4⟩ := (Opens.int Tryz.underlying3) m enc w base spare held m _ _ (Nat.le_refl _) e4
 replace hk4 : (Kd.int .i64).K w a4 [c4] := by have h_ : (Kd.int .i64).K w a4 (([c0, c1, c2, c3, c4, c5].drop 4).take (Tryz.prog.cellsOf 3)) := hk4; rwa [show Tryz.prog.cellsOf 3 = 1 by kernel_rfl] at h_
 have e5 := hfd 5 _ rfl; rw [List.getElem?_eq_getElem (by rw [hlen]; decide)] at e5
 obtain ⟨a5, hk5, hw5⟩ := (OpensF.slice (d := k24) Tryz.underlying22 (by kernel_rfl) ih) enc w base spare held m _ _ (by omega) e5
 replace hk5 : (Kd.slice 24 k24).K w a5 [c5] := by have h_ : (Kd.slice 24 k24).K w a5 (([c0, c1, c2, c3, c4, c5].drop 5).take (Tryz.prog.cellsOf 22)) := hk5; rwa [show Tryz.prog.cellsOf 22 = 1 by kernel_rfl] at h_
 replace hk0 : [c0] = _ := hk0
 simp only [List.cons.injEq, and_true] at hk0
 subst hk0; replace hk1 : [c1] = _ := hk1
 simp only [List.cons.injEq, and_true] at hk1
 subst hk1; replace hk2 : [c2] = _ := hk2
 simp only [List.cons.injEq, and_true] at hk2
 subst hk2; replace hk3 : [c3] = _ := hk3
 simp only [List.cons.injEq, and_true] at hk3
 subst hk3; replace hk4 : [c4] = _ := hk4
 simp only [List.cons.injEq, and_true] at hk4
 subst hk4; obtain ⟨A5, b5, ek5, l5, g5⟩ := hk5; simp only [List.cons.injEq, and_true] at ek5
 subst ek5; exact ⟨⟨a0, a1, a2, a3, a4, a5⟩, k24_mk w (⟨a0, a1, a2, a3, a4, a5⟩ : S24) l5 g5, Wf24.mk _ hw0 hw1 hw2 hw3 hw4 hw5.1 hw5.2⟩
theorem opens24 : Opens Tryz.prog 24 k24 Wf24 := opensF24
def Wf38 (x : S38) : Prop := True ∧ (x.f1).size ≤ maxLen
set_option maxRecDepth 100000 in
theorem opens38 : Opens Tryz.prog 38 k38 Wf38 := fun n => by
 intro H enc w base spare held fuel cs x hf h
 obtain ⟨xs, m, rfl, rfl, hl, hlen, hfd⟩ := DataW.trod_struct Tryz.underlying38 h
 replace hl : cs.length = 2 := hl.trans (by kernel_rfl)
 obtain ⟨c0, c1, rfl⟩ : ∃ c0 c1, cs = [c0, c1] := by
  match cs, hl with
  | [c0, c1], _ => exact ⟨c0, c1, rfl⟩
 have e0 := hfd 0 _ rfl; rw [List.getElem?_eq_getElem (by rw [hlen]; decide)] at e0
 obtain ⟨a0, hk0, hw0⟩ := (Opens.bool Tryz.underlying4) m enc w base spare held m _ _ (Nat.le_refl _) e0
 replace hk0 : Kd.bool.K w a0 [c0] := by have h_ : Kd.bool.K w a0 (([c0, c1].drop 0).take (Tryz.prog.cellsOf 4)) := hk0; rwa [show Tryz.prog.cellsOf 4 = 1 by kernel_rfl] at h_
 have e1 := hfd 1 _ rfl; rw [List.getElem?_eq_getElem (by rw [hlen]; decide)] at e1
 obtain ⟨a1, hk1, hw1⟩ := (Opens.string Tryz.underlying9) m enc w base spare held m _ _ (Nat.le_refl _) e1
 replace hk1 : Kd.string.K w a1 [c1] := by have h_ : Kd.string.K w a1 (([c0, c1].drop 1).take (Tryz.prog.cellsOf 9)) := hk1; rwa [show Tryz.prog.cellsOf 9 = 1 by kernel_rfl] at h_
 replace hk0 : [c0] = _ := hk0
 simp only [List.cons.injEq, and_true] at hk0
 subst hk0; replace hk1 : [c1] = _ := hk1
 simp only [List.cons.injEq, and_true] at hk1
 subst hk1; exact ⟨⟨a0, a1⟩, k38_mk w (⟨a0, a1⟩ : S38) , ⟨hw0, hw1⟩⟩
theorem dtA {p : Prop} [Decidable p] (h : decide p = true := by first | (with_reducible assumption) | assumption) : p := of_decide_eq_true h
theorem exD {P Q : Prop} (h : P := by first | rfl | (simp; done) | (simp [*]; done)) (g : Q := by repeat (first | exact Drawn0.refl _ | apply Drawn0.step)) : P ∧ Q := ⟨h, g⟩
theorem exB {P Q : Prop} (g : Q) (h : P := by first | rfl | (simp [errW_none, errW_some] <;> rfl) | (simp [*, errW_none, errW_some] <;> rfl) | exact congrArg (fun b_ => Ending.returned (.bool b_)) (decide_eq_decide.2 (by unfold wrap64; omega))) : P ∧ Q := ⟨h, g⟩
end Go.Proofs.YtdccooaddoafnaaGreatDoor.Q
