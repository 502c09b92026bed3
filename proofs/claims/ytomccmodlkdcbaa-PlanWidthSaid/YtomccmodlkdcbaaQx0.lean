-- PRINTED by print.py (a twelfth state) out of the translation. Not trusted: Lean checks it.
import Derived.Test.YtomccmodlkdcbaaProg
import Derived.Below
import Derived.Deep.Draws
import Derived.Deep.AppendLies
import Derived.Maps.AppendAt
import Derived.OwnWalk
import Derived.Laws.BytesArg
import Derived.Laws.MakeOwn
import Derived.Laws.OwnMore
import Derived.Deep.OwnRows
import Derived.Tactics
import Derived.Lib.ConvBytes
import Derived.Laws.Slices
import Derived.WalkKit
import Derived.KernelRfl
import Derived.RowKit3
import Derived.Deep.LoopGhost
import Derived.Deep.QuietTactic
import Derived.BigQuiet
import Derived.WideLaws
import Derived.Deep.DeepCutAuto
import Derived.Deep.CutBlock
import Derived.Deep.RegionHeld3
import Derived.Laws.Rows
import Derived.Lib.AppendStr
import Derived.ArgAppend
import Derived.Laws.IdiomCopy
import Derived.OrdersHeld
import Derived.Laws.BitsLemmas
import Derived.RowKit
import Derived.ScopeJumps
import Derived.WalkMore
import Derived.Test.YtomccmodlkdcbaaHWords2
import Derived.Test.YtomccmodlkdcbaaHStoreAll
import Derived.Test.YtomccmodlkdcbaaHFuncVals
import Derived.Test.YtomccmodlkdcbaaHCore
import Derived.Test.YtomccmodlkdcbaaHRows2
import Derived.Test.YtomccmodlkdcbaaHStrRow
import Derived.Test.YtomccmodlkdcbaaHOpens
import Derived.Test.YtomccmodlkdcbaaHWords
namespace Go.Proofs.Ytomccmodlkdcbaa.Q
open Go.RowKit Go.Proofs.YtomccmodlkdcbaaW.PrintWords Go.Proofs.YtomccmodlkdcbaaW.PrintLast Go.Proofs.YtomccmodlkdcbaaW.PrintMore
attribute [local go_sem] str_gtr str_geq str_leq max2_int min2_int max_two min_two max_three min_three max_four min_four   -- for this text's walks alone
set_option linter.unusedVariables false
set_option linter.unusedSimpArgs false



def errW : Option Int → Value
 | none => .nilIface
 | some c => .iface 0 (.int .i64 c)
theorem errW_none : errW none = .nilIface := rfl
theorem errW_some (c : Int) : errW (some c) = .iface 0 (.int .i64 c) := rfl

theorem info3 : (Try.prog.info? 3).map (fun i => (i.zero, i.size, i.bytes)) = some (some (.int .i64 0), 1, 8) := by kernel_rfl
theorem info9 : (Try.prog.info? 9).map (fun i => (i.zero, i.size, i.bytes)) = some (some (.string ⟨#[]⟩), 1, 16) := by kernel_rfl
-- the values' own types
/-! #### struct type 24, nested in itself -/
structure S24 where
 f0 : Int
 f1 : Int
 f2 : ByteArray
 f3 : Int
 f4 : Int
 f5 : (List S24)
def z24 : S24 := ⟨(0 : Int), (0 : Int), (⟨#[]⟩ : ByteArray), (0 : Int), (0 : Int), ([] : List S24)⟩
def F24 (d : Kd S24) : Kd S24 := Kd.iso (Kd.pair (Kd.int .i64) (Kd.pair (Kd.int .i64) (Kd.pair Kd.string (Kd.pair (Kd.int .i64) (Kd.pair (Kd.int .i64) (Kd.slice 24 d)))))) (fun x : S24 => (x.f0, x.f1, x.f2, x.f3, x.f4, x.f5))
theorem mono24 : Kd.Mono F24 := Kd.mono_iso _ (Kd.mono_pair (Kd.mono_const _) (Kd.mono_pair (Kd.mono_const _) (Kd.mono_pair (Kd.mono_const _) (Kd.mono_pair (Kd.mono_const _) (Kd.mono_pair (Kd.mono_const _) (Kd.mono_slice 24 Kd.mono_id))))))
theorem sub24 : Kd.Sub F24 [24] := Kd.sub_iso _ (Kd.sub_pair (Kd.sub_const _ (by decide)) (Kd.sub_pair (Kd.sub_const _ (by decide)) (Kd.sub_pair (Kd.sub_const _ (by decide)) (Kd.sub_pair (Kd.sub_const _ (by decide)) (Kd.sub_pair (Kd.sub_const _ (by decide)) (Kd.sub_slice 24 (by decide) Kd.sub_id))))))
theorem sz24 : ∀ n, (Kd.upto F24 6 [24] n).sz = 6 := Kd.upto_sz (fun _ => rfl)
def k24 : Kd S24 := Kd.fix F24 6 [24] sz24 (Kd.upto_E sub24)
theorem k24_open {w : World} {x : S24} {cs : List Value} (h : k24.K w x cs) : ∃ A5 c5, cs = [.int .i64 x.f0, .int .i64 x.f1, .string x.f2, .int .i64 x.f3, .int .i64 x.f4, .slice A5 x.f5.length c5] ∧ x.f5.length ≤ c5 ∧ k24.C w A5 x.f5.length x.f5 := by
 obtain ⟨n, h⟩ := h
 cases n with
 | zero => exact h.elim
 | succ n =>
  obtain ⟨_, _, rfl, rfl, ⟨_, _, rfl, rfl, ⟨_, _, rfl, rfl, ⟨_, _, rfl, rfl, ⟨_, _, rfl, rfl, ⟨A5, c5, rfl, l5, g5⟩⟩⟩⟩⟩⟩ := h; exact ⟨A5, c5, rfl, l5, Kd.fix_C g5⟩
theorem k24_mk (w : World) (x : S24) {A5 : Option Addr} {c5 : Nat} (l5 : x.f5.length ≤ c5) (g5 : k24.C w A5 x.f5.length x.f5) : k24.K w x [.int .i64 x.f0, .int .i64 x.f1, .string x.f2, .int .i64 x.f3, .int .i64 x.f4, .slice A5 x.f5.length c5] := by
 obtain ⟨n5, q5⟩ := Kd.fix_C_back mono24 g5
 have r5 := Kd.upto_C_le mono24 sz24 (show n5 ≤ n5 by omega) q5
 exact ⟨n5 + 1, ⟨[.int .i64 x.f0], [.int .i64 x.f1, .string x.f2, .int .i64 x.f3, .int .i64 x.f4, .slice A5 x.f5.length c5], rfl, rfl, ⟨[.int .i64 x.f1], [.string x.f2, .int .i64 x.f3, .int .i64 x.f4, .slice A5 x.f5.length c5], rfl, rfl, ⟨[.string x.f2], [.int .i64 x.f3, .int .i64 x.f4, .slice A5 x.f5.length c5], rfl, rfl, ⟨[.int .i64 x.f3], [.int .i64 x.f4, .slice A5 x.f5.length c5], rfl, rfl, ⟨[.int .i64 x.f4], [.slice A5 x.f5.length c5], rfl, rfl, ⟨A5, c5, rfl, l5, r5⟩⟩⟩⟩⟩⟩⟩
def rd_T24 (xs : List S24) (i : Int) : S24 := xs.getD i.toNat z24
theorem at_T24 {w : World} {A : Option Addr} {n : Nat} {xs : List S24} (h : Kd.C k24 w A n xs) (i : Int) (h0 : 0 ≤ i) (h1 : i < n) : ∃ ad A5 c5, A = some ad ∧ w.cell? (ad.add (i.toNat * 6)) = some (.int .i64 (rd_T24 xs i).f0) ∧ w.cell? ⟨(ad.add (i.toNat * 6)).block, (ad.add (i.toNat * 6)).off + 1, none⟩ = some (.int .i64 (rd_T24 xs i).f1) ∧ w.cell? ⟨(ad.add (i.toNat * 6)).block, (ad.add (i.toNat * 6)).off + 2, none⟩ = some (.string (rd_T24 xs i).f2) ∧ w.cell? ⟨(ad.add (i.toNat * 6)).block, (ad.add (i.toNat * 6)).off + 3, none⟩ = some (.int .i64 (rd_T24 xs i).f3) ∧ w.cell? ⟨(ad.add (i.toNat * 6)).block, (ad.add (i.toNat * 6)).off + 4, none⟩ = some (.int .i64 (rd_T24 xs i).f4) ∧ w.cell? ⟨(ad.add (i.toNat * 6)).block, (ad.add (i.toNat * 6)).off + 5, none⟩ = some (.slice A5 (rd_T24 xs i).f5.length c5) ∧ (rd_T24 xs i).f5.length ≤ c5 ∧ k24.C w A5 (rd_T24 xs i).f5.length (rd_T24 xs i).f5 := by
 obtain ⟨ad, c, e, _, hK, hc0⟩ := Kd.C_get h z24 i h0 h1
 have hc : ∀ j u, c[j]? = some u → w.cell? (ad.add (i.toNat * 6 + j)) = some u := hc0; obtain ⟨A5, c5, rfl, l5, g5⟩ := k24_open hK
 exact ⟨ad, A5, c5, e, hc 0 _ rfl, by rw [← add_field _ _ 1 (by omega)]; exact hc 1 _ rfl, by rw [← add_field _ _ 2 (by omega)]; exact hc 2 _ rfl, by rw [← add_field _ _ 3 (by omega)]; exact hc 3 _ rfl, by rw [← add_field _ _ 4 (by omega)]; exact hc 4 _ rfl, by rw [← add_field _ _ 5 (by omega)]; exact hc 5 _ rfl, l5, g5⟩

/-! #### struct type 50, nested in itself -/
structure S50 where
 f0 : Int
 f1 : Int
 f2 : ByteArray
 f3 : Int
 f4 : Int
 f5 : (List S50)
def z50 : S50 := ⟨(0 : Int), (0 : Int), (⟨#[]⟩ : ByteArray), (0 : Int), (0 : Int), ([] : List S50)⟩
def F50 (d : Kd S50) : Kd S50 := Kd.iso (Kd.pair (Kd.int .i64) (Kd.pair (Kd.int .i64) (Kd.pair Kd.string (Kd.pair (Kd.int .i64) (Kd.pair (Kd.int .i64) (Kd.slice 50 d)))))) (fun x : S50 => (x.f0, x.f1, x.f2, x.f3, x.f4, x.f5))
theorem mono50 : Kd.Mono F50 := Kd.mono_iso _ (Kd.mono_pair (Kd.mono_const _) (Kd.mono_pair (Kd.mono_const _) (Kd.mono_pair (Kd.mono_const _) (Kd.mono_pair (Kd.mono_const _) (Kd.mono_pair (Kd.mono_const _) (Kd.mono_slice 50 Kd.mono_id))))))
theorem sub50 : Kd.Sub F50 [50] := Kd.sub_iso _ (Kd.sub_pair (Kd.sub_const _ (by decide)) (Kd.sub_pair (Kd.sub_const _ (by decide)) (Kd.sub_pair (Kd.sub_const _ (by decide)) (Kd.sub_pair (Kd.sub_const _ (by decide)) (Kd.sub_pair (Kd.sub_const _ (by decide)) (Kd.sub_slice 50 (by decide) Kd.sub_id))))))
theorem sz50 : ∀ n, (Kd.upto F50 6 [50] n).sz = 6 := Kd.upto_sz (fun _ => rfl)
def k50 : Kd S50 := Kd.fix F50 6 [50] sz50 (Kd.upto_E sub50)
theorem k50_open {w : World} {x : S50} {cs : List Value} (h : k50.K w x cs) : ∃ A5 c5, cs = [.int .i64 x.f0, .int .i64 x.f1, .string x.f2, .int .i64 x.f3, .int .i64 x.f4, .slice A5 x.f5.length c5] ∧ x.f5.length ≤ c5 ∧ k50.C w A5 x.f5.length x.f5 := by
 obtain ⟨n, h⟩ := h
 cases n with
 | zero => exact h.elim
 | succ n =>
  obtain ⟨_, _, rfl, rfl, ⟨_, _, rfl, rfl, ⟨_, _, rfl, rfl, ⟨_, _, rfl, rfl, ⟨_, _, rfl, rfl, ⟨A5, c5, rfl, l5, g5⟩⟩⟩⟩⟩⟩ := h; exact ⟨A5, c5, rfl, l5, Kd.fix_C g5⟩
theorem k50_mk (w : World) (x : S50) {A5 : Option Addr} {c5 : Nat} (l5 : x.f5.length ≤ c5) (g5 : k50.C w A5 x.f5.length x.f5) : k50.K w x [.int .i64 x.f0, .int .i64 x.f1, .string x.f2, .int .i64 x.f3, .int .i64 x.f4, .slice A5 x.f5.length c5] := by
 obtain ⟨n5, q5⟩ := Kd.fix_C_back mono50 g5
 have r5 := Kd.upto_C_le mono50 sz50 (show n5 ≤ n5 by omega) q5
 exact ⟨n5 + 1, ⟨[.int .i64 x.f0], [.int .i64 x.f1, .string x.f2, .int .i64 x.f3, .int .i64 x.f4, .slice A5 x.f5.length c5], rfl, rfl, ⟨[.int .i64 x.f1], [.string x.f2, .int .i64 x.f3, .int .i64 x.f4, .slice A5 x.f5.length c5], rfl, rfl, ⟨[.string x.f2], [.int .i64 x.f3, .int .i64 x.f4, .slice A5 x.f5.length c5], rfl, rfl, ⟨[.int .i64 x.f3], [.int .i64 x.f4, .slice A5 x.f5.length c5], rfl, rfl, ⟨[.int .i64 x.f4], [.slice A5 x.f5.length c5], rfl, rfl, ⟨A5, c5, rfl, l5, r5⟩⟩⟩⟩⟩⟩⟩
theorem k50_mkM (w : World) (base : Nat) (ok : Nat → Prop) (x : S50) {v5 : Value} (g5 : k50.R 50 w base ok v5 x.f5) : k50.M w base ok x [.int .i64 x.f0, .int .i64 x.f1, .string x.f2, .int .i64 x.f3, .int .i64 x.f4, v5] := by
 obtain ⟨n5, q5⟩ := Kd.fix_R_back mono50 g5
 have r5 := Kd.upto_R_le mono50 sz50 (show n5 ≤ n5 by omega) q5
 exact ⟨n5 + 1, ⟨[.int .i64 x.f0], [.int .i64 x.f1, .string x.f2, .int .i64 x.f3, .int .i64 x.f4, v5], rfl, rfl, ⟨[.int .i64 x.f1], [.string x.f2, .int .i64 x.f3, .int .i64 x.f4, v5], rfl, rfl, ⟨[.string x.f2], [.int .i64 x.f3, .int .i64 x.f4, v5], rfl, rfl, ⟨[.int .i64 x.f3], [.int .i64 x.f4, v5], rfl, rfl, ⟨[.int .i64 x.f4], [v5], rfl, rfl, ⟨v5, rfl, r5⟩⟩⟩⟩⟩⟩⟩
def rd_T50 (xs : List S50) (i : Int) : S50 := xs.getD i.toNat z50
theorem at_T50 {w : World} {A : Option Addr} {n : Nat} {xs : List S50} (h : Kd.C k50 w A n xs) (i : Int) (h0 : 0 ≤ i) (h1 : i < n) : ∃ ad A5 c5, A = some ad ∧ w.cell? (ad.add (i.toNat * 6)) = some (.int .i64 (rd_T50 xs i).f0) ∧ w.cell? ⟨(ad.add (i.toNat * 6)).block, (ad.add (i.toNat * 6)).off + 1, none⟩ = some (.int .i64 (rd_T50 xs i).f1) ∧ w.cell? ⟨(ad.add (i.toNat * 6)).block, (ad.add (i.toNat * 6)).off + 2, none⟩ = some (.string (rd_T50 xs i).f2) ∧ w.cell? ⟨(ad.add (i.toNat * 6)).block, (ad.add (i.toNat * 6)).off + 3, none⟩ = some (.int .i64 (rd_T50 xs i).f3) ∧ w.cell? ⟨(ad.add (i.toNat * 6)).block, (ad.add (i.toNat * 6)).off + 4, none⟩ = some (.int .i64 (rd_T50 xs i).f4) ∧ w.cell? ⟨(ad.add (i.toNat * 6)).block, (ad.add (i.toNat * 6)).off + 5, none⟩ = some (.slice A5 (rd_T50 xs i).f5.length c5) ∧ (rd_T50 xs i).f5.length ≤ c5 ∧ k50.C w A5 (rd_T50 xs i).f5.length (rd_T50 xs i).f5 := by
 obtain ⟨ad, c, e, _, hK, hc0⟩ := Kd.C_get h z50 i h0 h1
 have hc : ∀ j u, c[j]? = some u → w.cell? (ad.add (i.toNat * 6 + j)) = some u := hc0; obtain ⟨A5, c5, rfl, l5, g5⟩ := k50_open hK
 exact ⟨ad, A5, c5, e, hc 0 _ rfl, by rw [← add_field _ _ 1 (by omega)]; exact hc 1 _ rfl, by rw [← add_field _ _ 2 (by omega)]; exact hc 2 _ rfl, by rw [← add_field _ _ 3 (by omega)]; exact hc 3 _ rfl, by rw [← add_field _ _ 4 (by omega)]; exact hc 4 _ rfl, by rw [← add_field _ _ 5 (by omega)]; exact hc 5 _ rfl, l5, g5⟩

/-! #### struct type 72 -/
structure S72 where
 f0 : Int
 f1 : Int
def z72 : S72 := ⟨(0 : Int), (0 : Int)⟩
def k72 : Kd S72 := Kd.iso (Kd.pair (Kd.int .i64) (Kd.int .i64)) (fun x : S72 => (x.f0, x.f1))
theorem k72_open {w : World} {x : S72} {cs : List Value} (h : k72.K w x cs) : cs = [.int .i64 x.f0, .int .i64 x.f1] := by
 obtain ⟨_, _, rfl, rfl, rfl⟩ := h; exact rfl
theorem k72_mk (w : World) (x : S72)  : k72.K w x [.int .i64 x.f0, .int .i64 x.f1] := ⟨[.int .i64 x.f0], [.int .i64 x.f1], rfl, rfl, rfl⟩
/-! #### struct type 52 -/
structure S52 where
 f0 : Int
 f1 : Int
 f2 : Bool
def z52 : S52 := ⟨(0 : Int), (0 : Int), false⟩
def k52 : Kd S52 := Kd.iso (Kd.pair (Kd.int .i64) (Kd.pair (Kd.int .i64) Kd.bool)) (fun x : S52 => (x.f0, x.f1, x.f2))
theorem k52_open {w : World} {x : S52} {cs : List Value} (h : k52.K w x cs) : cs = [.int .i64 x.f0, .int .i64 x.f1, .bool x.f2] := by
 obtain ⟨_, _, rfl, rfl, ⟨_, _, rfl, rfl, rfl⟩⟩ := h; exact rfl
theorem k52_mk (w : World) (x : S52)  : k52.K w x [.int .i64 x.f0, .int .i64 x.f1, .bool x.f2] := ⟨[.int .i64 x.f0], [.int .i64 x.f1, .bool x.f2], rfl, rfl, ⟨[.int .i64 x.f1], [.bool x.f2], rfl, rfl, rfl⟩⟩
def rd_T52 (xs : List S52) (i : Int) : S52 := xs.getD i.toNat z52
theorem at_T52 {w : World} {A : Option Addr} {n : Nat} {xs : List S52} (h : Kd.C k52 w A n xs) (i : Int) (h0 : 0 ≤ i) (h1 : i < n) : ∃ ad , A = some ad ∧ w.cell? (ad.add (i.toNat * 3)) = some (.int .i64 (rd_T52 xs i).f0) ∧ w.cell? ⟨(ad.add (i.toNat * 3)).block, (ad.add (i.toNat * 3)).off + 1, none⟩ = some (.int .i64 (rd_T52 xs i).f1) ∧ w.cell? ⟨(ad.add (i.toNat * 3)).block, (ad.add (i.toNat * 3)).off + 2, none⟩ = some (.bool (rd_T52 xs i).f2) := by
 obtain ⟨ad, c, e, _, hK, hc0⟩ := Kd.C_get h z52 i h0 h1
 have hc : ∀ j u, c[j]? = some u → w.cell? (ad.add (i.toNat * 3 + j)) = some u := hc0; obtain rfl := k52_open hK
 exact ⟨ad, e, hc 0 _ rfl, by rw [← add_field _ _ 1 (by omega)]; exact hc 1 _ rfl, by rw [← add_field _ _ 2 (by omega)]; exact hc 2 _ rfl⟩

/-! #### struct type 31, nested in itself -/
structure S31 where
 f0 : Int
 f1 : ByteArray
 f2 : S24
 f3 : (List S50)
 f4 : (List Int)
 f5 : (List S72)
 f6 : Int
 f7 : (List Int)
 f8 : (List Int)
 f9 : (List S52)
 f10 : Int
 f11 : Int
 f12 : (List S31)
def z31 : S31 := ⟨(0 : Int), (⟨#[]⟩ : ByteArray), z24, ([] : List S50), ([] : List Int), ([] : List S72), (0 : Int), ([] : List Int), ([] : List Int), ([] : List S52), (0 : Int), (0 : Int), ([] : List S31)⟩
def F31 (d : Kd S31) : Kd S31 := Kd.iso (Kd.pair (Kd.int .i64) (Kd.pair Kd.string (Kd.pair k24 (Kd.pair (Kd.slice 50 k50) (Kd.pair (Kd.slice 3 (Kd.int .i64)) (Kd.pair (Kd.slice 72 k72) (Kd.pair (Kd.int .i64) (Kd.pair (Kd.slice 3 (Kd.int .i64)) (Kd.pair (Kd.slice 3 (Kd.int .i64)) (Kd.pair (Kd.slice 52 k52) (Kd.pair (Kd.int .i64) (Kd.pair (Kd.int .i64) (Kd.slice 31 d))))))))))))) (fun x : S31 => (x.f0, x.f1, x.f2, x.f3, x.f4, x.f5, x.f6, x.f7, x.f8, x.f9, x.f10, x.f11, x.f12))
theorem mono31 : Kd.Mono F31 := Kd.mono_iso _ (Kd.mono_pair (Kd.mono_const _) (Kd.mono_pair (Kd.mono_const _) (Kd.mono_pair (Kd.mono_const _) (Kd.mono_pair (Kd.mono_const _) (Kd.mono_pair (Kd.mono_const _) (Kd.mono_pair (Kd.mono_const _) (Kd.mono_pair (Kd.mono_const _) (Kd.mono_pair (Kd.mono_const _) (Kd.mono_pair (Kd.mono_const _) (Kd.mono_pair (Kd.mono_const _) (Kd.mono_pair (Kd.mono_const _) (Kd.mono_pair (Kd.mono_const _) (Kd.mono_slice 31 Kd.mono_id)))))))))))))
theorem sub31 : Kd.Sub F31 [3, 24, 31, 50, 52, 72] := Kd.sub_iso _ (Kd.sub_pair (Kd.sub_const _ (by decide)) (Kd.sub_pair (Kd.sub_const _ (by decide)) (Kd.sub_pair (Kd.sub_const _ (by decide)) (Kd.sub_pair (Kd.sub_const _ (by decide)) (Kd.sub_pair (Kd.sub_const _ (by decide)) (Kd.sub_pair (Kd.sub_const _ (by decide)) (Kd.sub_pair (Kd.sub_const _ (by decide)) (Kd.sub_pair (Kd.sub_const _ (by decide)) (Kd.sub_pair (Kd.sub_const _ (by decide)) (Kd.sub_pair (Kd.sub_const _ (by decide)) (Kd.sub_pair (Kd.sub_const _ (by decide)) (Kd.sub_pair (Kd.sub_const _ (by decide)) (Kd.sub_slice 31 (by decide) Kd.sub_id)))))))))))))
theorem sz31 : ∀ n, (Kd.upto F31 18 [3, 24, 31, 50, 52, 72] n).sz = 18 := Kd.upto_sz (fun _ => rfl)
def k31 : Kd S31 := Kd.fix F31 18 [3, 24, 31, 50, 52, 72] sz31 (Kd.upto_E sub31)
theorem k31_open {w : World} {x : S31} {cs : List Value} (h : k31.K w x cs) : ∃ A7 c7 A8 c8 A9 c9 A10 c10 A12 c12 A13 c13 A14 c14 A17 c17, cs = [.int .i64 x.f0, .string x.f1, .int .i64 x.f2.f0, .int .i64 x.f2.f1, .string x.f2.f2, .int .i64 x.f2.f3, .int .i64 x.f2.f4, .slice A7 x.f2.f5.length c7, .slice A8 x.f3.length c8, .slice A9 x.f4.length c9, .slice A10 x.f5.length c10, .int .i64 x.f6, .slice A12 x.f7.length c12, .slice A13 x.f8.length c13, .slice A14 x.f9.length c14, .int .i64 x.f10, .int .i64 x.f11, .slice A17 x.f12.length c17] ∧ x.f2.f5.length ≤ c7 ∧ k24.C w A7 x.f2.f5.length x.f2.f5 ∧ x.f3.length ≤ c8 ∧ k50.C w A8 x.f3.length x.f3 ∧ x.f4.length ≤ c9 ∧ (Kd.int .i64).C w A9 x.f4.length x.f4 ∧ x.f5.length ≤ c10 ∧ k72.C w A10 x.f5.length x.f5 ∧ x.f7.length ≤ c12 ∧ (Kd.int .i64).C w A12 x.f7.length x.f7 ∧ x.f8.length ≤ c13 ∧ (Kd.int .i64).C w A13 x.f8.length x.f8 ∧ x.f9.length ≤ c14 ∧ k52.C w A14 x.f9.length x.f9 ∧ x.f12.length ≤ c17 ∧ k31.C w A17 x.f12.length x.f12 := by
 obtain ⟨n, h⟩ := h
 cases n with
 | zero => exact h.elim
 | succ n =>
  obtain ⟨_, _, rfl, rfl, ⟨_, _, rfl, rfl, ⟨_, _, rfl, s2, ⟨_, _, rfl, ⟨A8, c8, rfl, l8, g8⟩, ⟨_, _, rfl, ⟨A9, c9, rfl, l9, g9⟩, ⟨_, _, rfl, ⟨A10, c10, rfl, l10, g10⟩, ⟨_, _, rfl, rfl, ⟨_, _, rfl, ⟨A12, c12, rfl, l12, g12⟩, ⟨_, _, rfl, ⟨A13, c13, rfl, l13, g13⟩, ⟨_, _, rfl, ⟨A14, c14, rfl, l14, g14⟩, ⟨_, _, rfl, rfl, ⟨_, _, rfl, rfl, ⟨A17, c17, rfl, l17, g17⟩⟩⟩⟩⟩⟩⟩⟩⟩⟩⟩⟩⟩ := h; obtain ⟨A7, c7, rfl, l7, g7⟩ := k24_open s2
  exact ⟨A7, c7, A8, c8, A9, c9, A10, c10, A12, c12, A13, c13, A14, c14, A17, c17, rfl, l7, g7, l8, g8, l9, g9, l10, g10, l12, g12, l13, g13, l14, g14, l17, Kd.fix_C g17⟩
theorem k31_mk (w : World) (x : S31) {A7 : Option Addr} {c7 : Nat} (l7 : x.f2.f5.length ≤ c7) (g7 : k24.C w A7 x.f2.f5.length x.f2.f5) {A8 : Option Addr} {c8 : Nat} (l8 : x.f3.length ≤ c8) (g8 : k50.C w A8 x.f3.length x.f3) {A9 : Option Addr} {c9 : Nat} (l9 : x.f4.length ≤ c9) (g9 : (Kd.int .i64).C w A9 x.f4.length x.f4) {A10 : Option Addr} {c10 : Nat} (l10 : x.f5.length ≤ c10) (g10 : k72.C w A10 x.f5.length x.f5) {A12 : Option Addr} {c12 : Nat} (l12 : x.f7.length ≤ c12) (g12 : (Kd.int .i64).C w A12 x.f7.length x.f7) {A13 : Option Addr} {c13 : Nat} (l13 : x.f8.length ≤ c13) (g13 : (Kd.int .i64).C w A13 x.f8.length x.f8) {A14 : Option Addr} {c14 : Nat} (l14 : x.f9.length ≤ c14) (g14 : k52.C w A14 x.f9.length x.f9) {A17 : Option Addr} {c17 : Nat} (l17 : x.f12.length ≤ c17) (g17 : k31.C w A17 x.f12.length x.f12) : k31.K w x [.int .i64 x.f0, .string x.f1, .int .i64 x.f2.f0, .int .i64 x.f2.f1, .string x.f2.f2, .int .i64 x.f2.f3, .int .i64 x.f2.f4, .slice A7 x.f2.f5.length c7, .slice A8 x.f3.length c8, .slice A9 x.f4.length c9, .slice A10 x.f5.length c10, .int .i64 x.f6, .slice A12 x.f7.length c12, .slice A13 x.f8.length c13, .slice A14 x.f9.length c14, .int .i64 x.f10, .int .i64 x.f11, .slice A17 x.f12.length c17] := by
 obtain ⟨n17, q17⟩ := Kd.fix_C_back mono31 g17
 have r17 := Kd.upto_C_le mono31 sz31 (show n17 ≤ n17 by omega) q17
 exact ⟨n17 + 1, ⟨[.int .i64 x.f0], [.string x.f1, .int .i64 x.f2.f0, .int .i64 x.f2.f1, .string x.f2.f2, .int .i64 x.f2.f3, .int .i64 x.f2.f4, .slice A7 x.f2.f5.length c7, .slice A8 x.f3.length c8, .slice A9 x.f4.length c9, .slice A10 x.f5.length c10, .int .i64 x.f6, .slice A12 x.f7.length c12, .slice A13 x.f8.length c13, .slice A14 x.f9.length c14, .int .i64 x.f10, .int .i64 x.f11, .slice A17 x.f12.length c17], rfl, rfl, ⟨[.string x.f1], [.int .i64 x.f2.f0, .int .i64 x.f2.f1, .string x.f2.f2, .int .i64 x.f2.f3, .int .i64 x.f2.f4, .slice A7 x.f2.f5.length c7, .slice A8 x.f3.length c8, .slice A9 x.f4.length c9, .slice A10 x.f5.length c10, .int .i64 x.f6, .slice A12 x.f7.length c12, .slice A13 x.f8.length c13, .slice A14 x.f9.length c14, .int .i64 x.f10, .int .i64 x.f11, .slice A17 x.f12.length c17], rfl, rfl, ⟨[.int .i64 x.f2.f0, .int .i64 x.f2.f1, .string x.f2.f2, .int .i64 x.f2.f3, .int .i64 x.f2.f4, .slice A7 x.f2.f5.length c7], [.slice A8 x.f3.length c8, .slice A9 x.f4.length c9, .slice A10 x.f5.length c10, .int .i64 x.f6, .slice A12 x.f7.length c12, .slice A13 x.f8.length c13, .slice A14 x.f9.length c14, .int .i64 x.f10, .int .i64 x.f11, .slice A17 x.f12.length c17], rfl, (k24_mk w x.f2 l7 g7), ⟨[.slice A8 x.f3.length c8], [.slice A9 x.f4.length c9, .slice A10 x.f5.length c10, .int .i64 x.f6, .slice A12 x.f7.length c12, .slice A13 x.f8.length c13, .slice A14 x.f9.length c14, .int .i64 x.f10, .int .i64 x.f11, .slice A17 x.f12.length c17], rfl, ⟨A8, c8, rfl, l8, g8⟩, ⟨[.slice A9 x.f4.length c9], [.slice A10 x.f5.length c10, .int .i64 x.f6, .slice A12 x.f7.length c12, .slice A13 x.f8.length c13, .slice A14 x.f9.length c14, .int .i64 x.f10, .int .i64 x.f11, .slice A17 x.f12.length c17], rfl, ⟨A9, c9, rfl, l9, g9⟩, ⟨[.slice A10 x.f5.length c10], [.int .i64 x.f6, .slice A12 x.f7.length c12, .slice A13 x.f8.length c13, .slice A14 x.f9.length c14, .int .i64 x.f10, .int .i64 x.f11, .slice A17 x.f12.length c17], rfl, ⟨A10, c10, rfl, l10, g10⟩, ⟨[.int .i64 x.f6], [.slice A12 x.f7.length c12, .slice A13 x.f8.length c13, .slice A14 x.f9.length c14, .int .i64 x.f10, .int .i64 x.f11, .slice A17 x.f12.length c17], rfl, rfl, ⟨[.slice A12 x.f7.length c12], [.slice A13 x.f8.length c13, .slice A14 x.f9.length c14, .int .i64 x.f10, .int .i64 x.f11, .slice A17 x.f12.length c17], rfl, ⟨A12, c12, rfl, l12, g12⟩, ⟨[.slice A13 x.f8.length c13], [.slice A14 x.f9.length c14, .int .i64 x.f10, .int .i64 x.f11, .slice A17 x.f12.length c17], rfl, ⟨A13, c13, rfl, l13, g13⟩, ⟨[.slice A14 x.f9.length c14], [.int .i64 x.f10, .int .i64 x.f11, .slice A17 x.f12.length c17], rfl, ⟨A14, c14, rfl, l14, g14⟩, ⟨[.int .i64 x.f10], [.int .i64 x.f11, .slice A17 x.f12.length c17], rfl, rfl, ⟨[.int .i64 x.f11], [.slice A17 x.f12.length c17], rfl, rfl, ⟨A17, c17, rfl, l17, r17⟩⟩⟩⟩⟩⟩⟩⟩⟩⟩⟩⟩⟩⟩
theorem k31_mkF (W : World) (ok : Nat → Prop) (x : S31) {A7 : Option Addr} {c7 : Nat} (l7 : x.f2.f5.length ≤ c7) (g7 : Kd.F k24 W ok A7 x.f2.f5.length x.f2.f5) {A8 : Option Addr} {c8 : Nat} (l8 : x.f3.length ≤ c8) (g8 : Kd.F k50 W ok A8 x.f3.length x.f3) {A9 : Option Addr} {c9 : Nat} (l9 : x.f4.length ≤ c9) (g9 : Kd.F (Kd.int .i64) W ok A9 x.f4.length x.f4) {A10 : Option Addr} {c10 : Nat} (l10 : x.f5.length ≤ c10) (g10 : Kd.F k72 W ok A10 x.f5.length x.f5) {A12 : Option Addr} {c12 : Nat} (l12 : x.f7.length ≤ c12) (g12 : Kd.F (Kd.int .i64) W ok A12 x.f7.length x.f7) {A13 : Option Addr} {c13 : Nat} (l13 : x.f8.length ≤ c13) (g13 : Kd.F (Kd.int .i64) W ok A13 x.f8.length x.f8) {A14 : Option Addr} {c14 : Nat} (l14 : x.f9.length ≤ c14) (g14 : Kd.F k52 W ok A14 x.f9.length x.f9) {A17 : Option Addr} {c17 : Nat} (l17 : x.f12.length ≤ c17) (g17 : Kd.F k31 W ok A17 x.f12.length x.f12) : Kd.FK k31 W ok x [.int .i64 x.f0, .string x.f1, .int .i64 x.f2.f0, .int .i64 x.f2.f1, .string x.f2.f2, .int .i64 x.f2.f3, .int .i64 x.f2.f4, .slice A7 x.f2.f5.length c7, .slice A8 x.f3.length c8, .slice A9 x.f4.length c9, .slice A10 x.f5.length c10, .int .i64 x.f6, .slice A12 x.f7.length c12, .slice A13 x.f8.length c13, .slice A14 x.f9.length c14, .int .i64 x.f10, .int .i64 x.f11, .slice A17 x.f12.length c17] := fun W2 hW => k31_mk W2 x l7 (g7 W2 hW) l8 (g8 W2 hW) l9 (g9 W2 hW) l10 (g10 W2 hW) l12 (g12 W2 hW) l13 (g13 W2 hW) l14 (g14 W2 hW) l17 (g17 W2 hW)
/-! #### struct type 46 -/
structure S46 where
 f0 : ByteArray
 f1 : Int
def z46 : S46 := ⟨(⟨#[]⟩ : ByteArray), (0 : Int)⟩
def k46 : Kd S46 := Kd.iso (Kd.pair Kd.string (Kd.int .i64)) (fun x : S46 => (x.f0, x.f1))
theorem k46_open {w : World} {x : S46} {cs : List Value} (h : k46.K w x cs) : cs = [.string x.f0, .int .i64 x.f1] := by
 obtain ⟨_, _, rfl, rfl, rfl⟩ := h; exact rfl
theorem k46_mk (w : World) (x : S46)  : k46.K w x [.string x.f0, .int .i64 x.f1] := ⟨[.string x.f0], [.int .i64 x.f1], rfl, rfl, rfl⟩
theorem k46_mkM (w : World) (base : Nat) (ok : Nat → Prop) (x : S46)  : k46.M w base ok x [.string x.f0, .int .i64 x.f1] := ⟨[.string x.f0], [.int .i64 x.f1], rfl, rfl, rfl⟩
def rd_T46 (xs : List S46) (i : Int) : S46 := xs.getD i.toNat z46
theorem at_T46 {w : World} {A : Option Addr} {n : Nat} {xs : List S46} (h : Kd.C k46 w A n xs) (i : Int) (h0 : 0 ≤ i) (h1 : i < n) : ∃ ad , A = some ad ∧ w.cell? (ad.add (i.toNat * 2)) = some (.string (rd_T46 xs i).f0) ∧ w.cell? ⟨(ad.add (i.toNat * 2)).block, (ad.add (i.toNat * 2)).off + 1, none⟩ = some (.int .i64 (rd_T46 xs i).f1) := by
 obtain ⟨ad, c, e, _, hK, hc0⟩ := Kd.C_get h z46 i h0 h1
 have hc : ∀ j u, c[j]? = some u → w.cell? (ad.add (i.toNat * 2 + j)) = some u := hc0; obtain rfl := k46_open hK
 exact ⟨ad, e, hc 0 _ rfl, by rw [← add_field _ _ 1 (by omega)]; exact hc 1 _ rfl⟩

/-! what is well formed, and reads so -/
inductive Wf24 : S24 → Prop
 | mk (x : S24) : (Lit.int .i64 x.f0).wf = true → (Lit.int .i64 x.f1).wf = true → (x.f2).size ≤ maxLen → (Lit.int .i64 x.f3).wf = true → (Lit.int .i64 x.f4).wf = true → x.f5.length ≤ maxLen → (∀ y ∈ x.f5, Wf24 y) → Wf24 x
theorem wf24_leaves {x : S24} (h : Wf24 x) : (Lit.int .i64 x.f0).wf = true ∧ (Lit.int .i64 x.f1).wf = true ∧ (x.f2).size ≤ maxLen ∧ (Lit.int .i64 x.f3).wf = true ∧ (Lit.int .i64 x.f4).wf = true ∧ (WfSl Wf24) x.f5 := by
 obtain ⟨_, h0, h1, h2, h3, h4, h5, g5⟩ := h; exact ⟨h0, h1, h2, h3, h4, ⟨h5, g5⟩⟩
set_option maxRecDepth 100000 in
theorem opensF24 : ∀ n, OpensF Try.prog 24 k24 Wf24 n := by
 intro n
 induction n with
 | zero => exact OpensF.zero
 | succ n ih =>
 intro H enc w base spare held fuel cs x hf h
 obtain ⟨xs, m, rfl, rfl, hl, hlen, hfd⟩ := DataW.trod_struct Try.underlying24 h
 replace hl : cs.length = 6 := hl.trans (by kernel_rfl)
 obtain ⟨c0, c1, c2, c3, c4, c5, rfl⟩ : ∃ c0 c1 c2 c3 c4 c5, cs = [c0, c1, c2, c3, c4, c5] := by
  match cs, hl with
  | [c0, c1, c2, c3, c4, c5], _ => exact ⟨c0, c1, c2, c3, c4, c5, rfl⟩
 have e0 := hfd 0 _ rfl; rw [List.getElem?_eq_getElem (by rw [hlen]; decide)] at e0
 obtain ⟨a0, hk0, hw0⟩ := (Opens.int Try.underlying3) m enc w base spare held m _ _ (Nat.le_refl _) e0
 replace hk0 : (Kd.int .i64).K w a0 [c0] := by have h_ : (Kd.int .i64).K w a0 (([c0, c1, c2, c3, c4, c5].drop 0).take (Try.prog.cellsOf 3)) := hk0; rwa [show Try.prog.cellsOf 3 = 1 by kernel_rfl] at h_
 have e1 := hfd 1 _ rfl; rw [List.getElem?_eq_getElem (by rw [hlen]; decide)] at e1
 obtain ⟨a1, hk1, hw1⟩ := (Opens.int Try.underlying3) m enc w base spare held m _ _ (Nat.le_refl _) e1
 replace hk1 : (Kd.int .i64).K w a1 [c1] := by have h_ : (Kd.int .i64).K w a1 (([c0, c1, c2, c3, c4, c5].drop 1).take (Try.prog.cellsOf 3)) := hk1; rwa [show Try.prog.cellsOf 3 = 1 by kernel_rfl] at h_
 have e2 := hfd 2 _ rfl; rw [List.getElem?_eq_getElem (by rw [hlen]; decide)] at e2
 obtain ⟨a2, hk2, hw2⟩ := (Opens.string Try.underlying9) m enc w base spare held m _ _ (Nat.le_refl _) e2
 replace hk2 : Kd.string.K w a2 [c2] := by have h_ : Kd.string.K w a2 (([c0, c1, c2, c3, c4, c5].drop 2).take (Try.prog.cellsOf 9)) := hk2; rwa [show Try.prog.cellsOf 9 = 1 by kernel_rfl] at h_
 have e3 := hfd 3 _ rfl; rw [List.getElem?_eq_getElem (by rw [hlen]; decide)] at e3
 obtain ⟨a3, hk3, hw3⟩ := (Opens.int Try.underlying3) m enc w base spare held m _ _ (Nat.le_refl _) e3
 replace hk3 : (Kd.int .i64).K w a3 [c3] := by have h_ : (Kd.int .i64).K w a3 (([c0, c1, c2, c3, c4, c5].drop 3).take (Try.prog.cellsOf 3)) := hk3; rwa [show Try.prog.cellsOf 3 = 1 by kernel_rfl] at h_
 have e4 := hfd 4 _ rfl; rw [List.getElem?_eq_getElem (by rw [hlen]; decide)] at e4
 obtain ⟨a4, hk4, hw4⟩ := (Opens.int Try.underlying3) m enc w base spare held m _ _ (Nat.le_refl _) e4
 replace hk4 : (Kd.int .i64).K w a4 [c4] := by have h_ : (Kd.int .i64).K w a4 (([c0, c1, c2, c3, c4, c5].drop 4).take (Try.prog.cellsOf 3)) := hk4; rwa [show Try.prog.cellsOf 3 = 1 by kernel_rfl] at h_
 have e5 := hfd 5 _ rfl; rw [List.getElem?_eq_getElem (by rw [hlen]; decide)] at e5
 obtain ⟨a5, hk5, hw5⟩ := (OpensF.slice (d := k24) Try.underlying22 (by kernel_rfl) ih) enc w base spare held m _ _ (by omega) e5
 replace hk5 : (Kd.slice 24 k24).K w a5 [c5] := by have h_ : (Kd.slice 24 k24).K w a5 (([c0, c1, c2, c3, c4, c5].drop 5).take (Try.prog.cellsOf 22)) := hk5; rwa [show Try.prog.cellsOf 22 = 1 by kernel_rfl] at h_
 replace hk0 : [c0] = _ := hk0
 simp only [List.cons.injEq, and_true] at hk0
 subst hk0; replace hk1 : [c1] = _ := hk1
 simp only [List.cons.injEq, and_true] at hk1
 subst hk1; replace hk2 : [c2] = _ := hk2
 simp only [List.cons.injEq, and_true] at hk2
 subst hk2; replace hk3 : [c3] = _ := hk3
 simp only [List.cons.injEq, and_true] at hk3
 subst hk3; replace hk4 : [c4] = _ := hk4
 simp only [List.cons.injEq, and_true] at hk4
 subst hk4; obtain ⟨A5, b5, ek5, l5, g5⟩ := hk5; simp only [List.cons.injEq, and_true] at ek5
 subst ek5; exact ⟨⟨a0, a1, a2, a3, a4, a5⟩, k24_mk w (⟨a0, a1, a2, a3, a4, a5⟩ : S24) l5 g5, Wf24.mk _ hw0 hw1 hw2 hw3 hw4 hw5.1 hw5.2⟩
theorem opens24 : Opens Try.prog 24 k24 Wf24 := opensF24
inductive Wf50 : S50 → Prop
 | mk (x : S50) : (Lit.int .i64 x.f0).wf = true → (Lit.int .i64 x.f1).wf = true → (x.f2).size ≤ maxLen → (Lit.int .i64 x.f3).wf = true → (Lit.int .i64 x.f4).wf = true → x.f5.length ≤ maxLen → (∀ y ∈ x.f5, Wf50 y) → Wf50 x
set_option maxRecDepth 100000 in
theorem opensF50 : ∀ n, OpensF Try.prog 50 k50 Wf50 n := by
 intro n
 induction n with
 | zero => exact OpensF.zero
 | succ n ih =>
 intro H enc w base spare held fuel cs x hf h
 obtain ⟨xs, m, rfl, rfl, hl, hlen, hfd⟩ := DataW.trod_struct Try.underlying50 h
 replace hl : cs.length = 6 := hl.trans (by kernel_rfl)
 obtain ⟨c0, c1, c2, c3, c4, c5, rfl⟩ : ∃ c0 c1 c2 c3 c4 c5, cs = [c0, c1, c2, c3, c4, c5] := by
  match cs, hl with
  | [c0, c1, c2, c3, c4, c5], _ => exact ⟨c0, c1, c2, c3, c4, c5, rfl⟩
 have e0 := hfd 0 _ rfl; rw [List.getElem?_eq_getElem (by rw [hlen]; decide)] at e0
 obtain ⟨a0, hk0, hw0⟩ := (Opens.int Try.underlying3) m enc w base spare held m _ _ (Nat.le_refl _) e0
 replace hk0 : (Kd.int .i64).K w a0 [c0] := by have h_ : (Kd.int .i64).K w a0 (([c0, c1, c2, c3, c4, c5].drop 0).take (Try.prog.cellsOf 3)) := hk0; rwa [show Try.prog.cellsOf 3 = 1 by kernel_rfl] at h_
 have e1 := hfd 1 _ rfl; rw [List.getElem?_eq_getElem (by rw [hlen]; decide)] at e1
 obtain ⟨a1, hk1, hw1⟩ := (Opens.int Try.underlying3) m enc w base spare held m _ _ (Nat.le_refl _) e1
 replace hk1 : (Kd.int .i64).K w a1 [c1] := by have h_ : (Kd.int .i64).K w a1 (([c0, c1, c2, c3, c4, c5].drop 1).take (Try.prog.cellsOf 3)) := hk1; rwa [show Try.prog.cellsOf 3 = 1 by kernel_rfl] at h_
 have e2 := hfd 2 _ rfl; rw [List.getElem?_eq_getElem (by rw [hlen]; decide)] at e2
 obtain ⟨a2, hk2, hw2⟩ := (Opens.string Try.underlying9) m enc w base spare held m _ _ (Nat.le_refl _) e2
 replace hk2 : Kd.string.K w a2 [c2] := by have h_ : Kd.string.K w a2 (([c0, c1, c2, c3, c4, c5].drop 2).take (Try.prog.cellsOf 9)) := hk2; rwa [show Try.prog.cellsOf 9 = 1 by kernel_rfl] at h_
 have e3 := hfd 3 _ rfl; rw [List.getElem?_eq_getElem (by rw [hlen]; decide)] at e3
 obtain ⟨a3, hk3, hw3⟩ := (Opens.int Try.underlying3) m enc w base spare held m _ _ (Nat.le_refl _) e3
 replace hk3 : (Kd.int .i64).K w a3 [c3] := by have h_ : (Kd.int .i64).K w a3 (([c0, c1, c2, c3, c4, c5].drop 3).take (Try.prog.cellsOf 3)) := hk3; rwa [show Try.prog.cellsOf 3 = 1 by kernel_rfl] at h_
 have e4 := hfd 4 _ rfl; rw [List.getElem?_eq_getElem (by rw [hlen]; decide)] at e4
 obtain ⟨a4, hk4, hw4⟩ := (Opens.int Try.underlying3) m enc w base spare held m _ _ (Nat.le_refl _) e4
 replace hk4 : (Kd.int .i64).K w a4 [c4] := by have h_ : (Kd.int .i64).K w a4 (([c0, c1, c2, c3, c4, c5].drop 4).take (Try.prog.cellsOf 3)) := hk4; rwa [show Try.prog.cellsOf 3 = 1 by kernel_rfl] at h_
 have e5 := hfd 5 _ rfl; rw [List.getElem?_eq_getElem (by rw [hlen]; decide)] at e5
 obtain ⟨a5, hk5, hw5⟩ := (OpensF.slice (d := k50) Try.underlying25 (by kernel_rfl) ih) enc w base spare held m _ _ (by omega) e5
 replace hk5 : (Kd.slice 50 k50).K w a5 [c5] := by have h_ : (Kd.slice 50 k50).K w a5 (([c0, c1, c2, c3, c4, c5].drop 5).take (Try.prog.cellsOf 25)) := hk5; rwa [show Try.prog.cellsOf 25 = 1 by kernel_rfl] at h_
 replace hk0 : [c0] = _ := hk0
 simp only [List.cons.injEq, and_true] at hk0
 subst hk0; replace hk1 : [c1] = _ := hk1
 simp only [List.cons.injEq, and_true] at hk1
 subst hk1; replace hk2 : [c2] = _ := hk2
 simp only [List.cons.injEq, and_true] at hk2
 subst hk2; replace hk3 : [c3] = _ := hk3
 simp only [List.cons.injEq, and_true] at hk3
 subst hk3; replace hk4 : [c4] = _ := hk4
 simp only [List.cons.injEq, and_true] at hk4
 subst hk4; obtain ⟨A5, b5, ek5, l5, g5⟩ := hk5; simp only [List.cons.injEq, and_true] at ek5
 subst ek5; exact ⟨⟨a0, a1, a2, a3, a4, a5⟩, k50_mk w (⟨a0, a1, a2, a3, a4, a5⟩ : S50) l5 g5, Wf50.mk _ hw0 hw1 hw2 hw3 hw4 hw5.1 hw5.2⟩
theorem opens50 : Opens Try.prog 50 k50 Wf50 := opensF50
def Wf72 (x : S72) : Prop := (Lit.int .i64 x.f0).wf = true ∧ (Lit.int .i64 x.f1).wf = true
set_option maxRecDepth 100000 in
theorem opens72 : Opens Try.prog 72 k72 Wf72 := fun n => by
 intro H enc w base spare held fuel cs x hf h
 obtain ⟨xs, m, rfl, rfl, hl, hlen, hfd⟩ := DataW.trod_struct Try.underlying72 h
 replace hl : cs.length = 2 := hl.trans (by kernel_rfl)
 obtain ⟨c0, c1, rfl⟩ : ∃ c0 c1, cs = [c0, c1] := by
  match cs, hl with
  | [c0, c1], _ => exact ⟨c0, c1, rfl⟩
 have e0 := hfd 0 _ rfl; rw [List.getElem?_eq_getElem (by rw [hlen]; decide)] at e0
 obtain ⟨a0, hk0, hw0⟩ := (Opens.int Try.underlying3) m enc w base spare held m _ _ (Nat.le_refl _) e0
 replace hk0 : (Kd.int .i64).K w a0 [c0] := by have h_ : (Kd.int .i64).K w a0 (([c0, c1].drop 0).take (Try.prog.cellsOf 3)) := hk0; rwa [show Try.prog.cellsOf 3 = 1 by kernel_rfl] at h_
 have e1 := hfd 1 _ rfl; rw [List.getElem?_eq_getElem (by rw [hlen]; decide)] at e1
 obtain ⟨a1, hk1, hw1⟩ := (Opens.int Try.underlying3) m enc w base spare held m _ _ (Nat.le_refl _) e1
 replace hk1 : (Kd.int .i64).K w a1 [c1] := by have h_ : (Kd.int .i64).K w a1 (([c0, c1].drop 1).take (Try.prog.cellsOf 3)) := hk1; rwa [show Try.prog.cellsOf 3 = 1 by kernel_rfl] at h_
 replace hk0 : [c0] = _ := hk0
 simp only [List.cons.injEq, and_true] at hk0
 subst hk0; replace hk1 : [c1] = _ := hk1
 simp only [List.cons.injEq, and_true] at hk1
 subst hk1; exact ⟨⟨a0, a1⟩, k72_mk w (⟨a0, a1⟩ : S72) , ⟨hw0, hw1⟩⟩
def Wf52 (x : S52) : Prop := (Lit.int .i64 x.f0).wf = true ∧ (Lit.int .i64 x.f1).wf = true ∧ True
set_option maxRecDepth 100000 in
theorem opens52 : Opens Try.prog 52 k52 Wf52 := fun n => by
 intro H enc w base spare held fuel cs x hf h
 obtain ⟨xs, m, rfl, rfl, hl, hlen, hfd⟩ := DataW.trod_struct Try.underlying52 h
 replace hl : cs.length = 3 := hl.trans (by kernel_rfl)
 obtain ⟨c0, c1, c2, rfl⟩ : ∃ c0 c1 c2, cs = [c0, c1, c2] := by
  match cs, hl with
  | [c0, c1, c2], _ => exact ⟨c0, c1, c2, rfl⟩
 have e0 := hfd 0 _ rfl; rw [List.getElem?_eq_getElem (by rw [hlen]; decide)] at e0
 obtain ⟨a0, hk0, hw0⟩ := (Opens.int Try.underlying3) m enc w base spare held m _ _ (Nat.le_refl _) e0
 replace hk0 : (Kd.int .i64).K w a0 [c0] := by have h_ : (Kd.int .i64).K w a0 (([c0, c1, c2].drop 0).take (Try.prog.cellsOf 3)) := hk0; rwa [show Try.prog.cellsOf 3 = 1 by kernel_rfl] at h_
 have e1 := hfd 1 _ rfl; rw [List.getElem?_eq_getElem (by rw [hlen]; decide)] at e1
 obtain ⟨a1, hk1, hw1⟩ := (Opens.int Try.underlying3) m enc w base spare held m _ _ (Nat.le_refl _) e1
 replace hk1 : (Kd.int .i64).K w a1 [c1] := by have h_ : (Kd.int .i64).K w a1 (([c0, c1, c2].drop 1).take (Try.prog.cellsOf 3)) := hk1; rwa [show Try.prog.cellsOf 3 = 1 by kernel_rfl] at h_
 have e2 := hfd 2 _ rfl; rw [List.getElem?_eq_getElem (by rw [hlen]; decide)] at e2
 obtain ⟨a2, hk2, hw2⟩ := (Opens.bool Try.underlying4) m enc w base spare held m _ _ (Nat.le_refl _) e2
 replace hk2 : Kd.bool.K w a2 [c2] := by have h_ : Kd.bool.K w a2 (([c0, c1, c2].drop 2).take (Try.prog.cellsOf 4)) := hk2; rwa [show Try.prog.cellsOf 4 = 1 by kernel_rfl] at h_
 replace hk0 : [c0] = _ := hk0
 simp only [List.cons.injEq, and_true] at hk0
 subst hk0; replace hk1 : [c1] = _ := hk1
 simp only [List.cons.injEq, and_true] at hk1
 subst hk1; replace hk2 : [c2] = _ := hk2
 simp only [List.cons.injEq, and_true] at hk2
 subst hk2; exact ⟨⟨a0, a1, a2⟩, k52_mk w (⟨a0, a1, a2⟩ : S52) , ⟨hw0, hw1, hw2⟩⟩
inductive Wf31 : S31 → Prop
 | mk (x : S31) : (Lit.int .i64 x.f0).wf = true → (x.f1).size ≤ maxLen → Wf24 x.f2 → (WfSl Wf50) x.f3 → (WfSl (fun x_ : Int => (Lit.int .i64 x_).wf = true)) x.f4 → (WfSl Wf72) x.f5 → (Lit.int .i64 x.f6).wf = true → (WfSl (fun x_ : Int => (Lit.int .i64 x_).wf = true)) x.f7 → (WfSl (fun x_ : Int => (Lit.int .i64 x_).wf = true)) x.f8 → (WfSl Wf52) x.f9 → (Lit.int .i64 x.f10).wf = true → (Lit.int .i64 x.f11).wf = true → x.f12.length ≤ maxLen → (∀ y ∈ x.f12, Wf31 y) → Wf31 x
theorem wf31_leaves {x : S31} (h : Wf31 x) : (Lit.int .i64 x.f0).wf = true ∧ (x.f1).size ≤ maxLen ∧ (Lit.int .i64 x.f2.f0).wf = true ∧ (Lit.int .i64 x.f2.f1).wf = true ∧ (x.f2.f2).size ≤ maxLen ∧ (Lit.int .i64 x.f2.f3).wf = true ∧ (Lit.int .i64 x.f2.f4).wf = true ∧ (WfSl Wf24) x.f2.f5 ∧ (WfSl Wf50) x.f3 ∧ (WfSl (fun x_ : Int => (Lit.int .i64 x_).wf = true)) x.f4 ∧ (WfSl Wf72) x.f5 ∧ (Lit.int .i64 x.f6).wf = true ∧ (WfSl (fun x_ : Int => (Lit.int .i64 x_).wf = true)) x.f7 ∧ (WfSl (fun x_ : Int => (Lit.int .i64 x_).wf = true)) x.f8 ∧ (WfSl Wf52) x.f9 ∧ (Lit.int .i64 x.f10).wf = true ∧ (Lit.int .i64 x.f11).wf = true ∧ (WfSl Wf31) x.f12 := by
 obtain ⟨_, h0, h1, h2, h3, h4, h5, h6, h7, h8, h9, h10, h11, h12, g12⟩ := h; obtain ⟨u2_0, u2_1, u2_2, u2_3, u2_4, u2_5⟩ := wf24_leaves h2
 exact ⟨h0, h1, u2_0, u2_1, u2_2, u2_3, u2_4, u2_5, h3, h4, h5, h6, h7, h8, h9, h10, h11, ⟨h12, g12⟩⟩
set_option maxRecDepth 100000 in
theorem opensF31 : ∀ n, OpensF Try.prog 31 k31 Wf31 n := by
 intro n
 induction n with
 | zero => exact OpensF.zero
 | succ n ih =>
 intro H enc w base spare held fuel cs x hf h
 obtain ⟨xs, m, rfl, rfl, hl, hlen, hfd⟩ := DataW.trod_struct Try.underlying31 h
 replace hl : cs.length = 18 := hl.trans (by kernel_rfl)
 obtain ⟨c0, c1, c2, c3, c4, c5, c6, c7, c8, c9, c10, c11, c12, c13, c14, c15, c16, c17, rfl⟩ : ∃ c0 c1 c2 c3 c4 c5 c6 c7 c8 c9 c10 c11 c12 c13 c14 c15 c16 c17, cs = [c0, c1, c2, c3, c4, c5, c6, c7, c8, c9, c10, c11, c12, c13, c14, c15, c16, c17] := by
  match cs, hl with
  | [c0, c1, c2, c3, c4, c5, c6, c7, c8, c9, c10, c11, c12, c13, c14, c15, c16, c17], _ => exact ⟨c0, c1, c2, c3, c4, c5, c6, c7, c8, c9, c10, c11, c12, c13, c14, c15, c16, c17, rfl⟩
 have e0 := hfd 0 _ rfl; rw [List.getElem?_eq_getElem (by rw [hlen]; decide)] at e0
 obtain ⟨a0, hk0, hw0⟩ := (Opens.int Try.underlying3) m enc w base spare held m _ _ (Nat.le_refl _) e0
 replace hk0 : (Kd.int .i64).K w a0 [c0] := by have h_ : (Kd.int .i64).K w a0 (([c0, c1, c2, c3, c4, c5, c6, c7, c8, c9, c10, c11, c12, c13, c14, c15, c16, c17].drop 0).take (Try.prog.cellsOf 3)) := hk0; rwa [show Try.prog.cellsOf 3 = 1 by kernel_rfl] at h_
 have e1 := hfd 1 _ rfl; rw [List.getElem?_eq_getElem (by rw [hlen]; decide)] at e1
 obtain ⟨a1, hk1, hw1⟩ := (Opens.string Try.underlying9) m enc w base spare held m _ _ (Nat.le_refl _) e1
 replace hk1 : Kd.string.K w a1 [c1] := by have h_ : Kd.string.K w a1 (([c0, c1, c2, c3, c4, c5, c6, c7, c8, c9, c10, c11, c12, c13, c14, c15, c16, c17].drop 1).take (Try.prog.cellsOf 9)) := hk1; rwa [show Try.prog.cellsOf 9 = 1 by kernel_rfl] at h_
 have e2 := hfd 2 _ rfl; rw [List.getElem?_eq_getElem (by rw [hlen]; decide)] at e2
 obtain ⟨a2, hk2, hw2⟩ := opens24 m enc w base spare held m _ _ (Nat.le_refl _) e2
 replace hk2 : k24.K w a2 [c2, c3, c4, c5, c6, c7] := by have h_ : k24.K w a2 (([c0, c1, c2, c3, c4, c5, c6, c7, c8, c9, c10, c11, c12, c13, c14, c15, c16, c17].drop 2).take (Try.prog.cellsOf 24)) := hk2; rwa [show Try.prog.cellsOf 24 = 6 by kernel_rfl] at h_
 have e3 := hfd 3 _ rfl; rw [List.getElem?_eq_getElem (by rw [hlen]; decide)] at e3
 obtain ⟨a3, hk3, hw3⟩ := (Opens.slice (d := k50) Try.underlying25 (by kernel_rfl) opens50) m enc w base spare held m _ _ (Nat.le_refl _) e3
 replace hk3 : (Kd.slice 50 k50).K w a3 [c8] := by have h_ : (Kd.slice 50 k50).K w a3 (([c0, c1, c2, c3, c4, c5, c6, c7, c8, c9, c10, c11, c12, c13, c14, c15, c16, c17].drop 8).take (Try.prog.cellsOf 25)) := hk3; rwa [show Try.prog.cellsOf 25 = 1 by kernel_rfl] at h_
 have e4 := hfd 4 _ rfl; rw [List.getElem?_eq_getElem (by rw [hlen]; decide)] at e4
 obtain ⟨a4, hk4, hw4⟩ := (Opens.slice (d := (Kd.int .i64)) Try.underlying26 (by kernel_rfl) (Opens.int Try.underlying3)) m enc w base spare held m _ _ (Nat.le_refl _) e4
 replace hk4 : (Kd.slice 3 (Kd.int .i64)).K w a4 [c9] := by have h_ : (Kd.slice 3 (Kd.int .i64)).K w a4 (([c0, c1, c2, c3, c4, c5, c6, c7, c8, c9, c10, c11, c12, c13, c14, c15, c16, c17].drop 9).take (Try.prog.cellsOf 26)) := hk4; rwa [show Try.prog.cellsOf 26 = 1 by kernel_rfl] at h_
 have e5 := hfd 5 _ rfl; rw [List.getElem?_eq_getElem (by rw [hlen]; decide)] at e5
 obtain ⟨a5, hk5, hw5⟩ := (Opens.slice (d := k72) Try.underlying27 (by kernel_rfl) opens72) m enc w base spare held m _ _ (Nat.le_refl _) e5
 replace hk5 : (Kd.slice 72 k72).K w a5 [c10] := by have h_ : (Kd.slice 72 k72).K w a5 (([c0, c1, c2, c3, c4, c5, c6, c7, c8, c9, c10, c11, c12, c13, c14, c15, c16, c17].drop 10).take (Try.prog.cellsOf 27)) := hk5; rwa [show Try.prog.cellsOf 27 = 1 by kernel_rfl] at h_
 have e6 := hfd 6 _ rfl; rw [List.getElem?_eq_getElem (by rw [hlen]; decide)] at e6
 obtain ⟨a6, hk6, hw6⟩ := (Opens.int Try.underlying3) m enc w base spare held m _ _ (Nat.le_refl _) e6
 replace hk6 : (Kd.int .i64).K w a6 [c11] := by have h_ : (Kd.int .i64).K w a6 (([c0, c1, c2, c3, c4, c5, c6, c7, c8, c9, c10, c11, c12, c13, c14, c15, c16, c17].drop 11).take (Try.prog.cellsOf 3)) := hk6; rwa [show Try.prog.cellsOf 3 = 1 by kernel_rfl] at h_
 have e7 := hfd 7 _ rfl; rw [List.getElem?_eq_getElem (by rw [hlen]; decide)] at e7
 obtain ⟨a7, hk7, hw7⟩ := (Opens.slice (d := (Kd.int .i64)) Try.underlying26 (by kernel_rfl) (Opens.int Try.underlying3)) m enc w base spare held m _ _ (Nat.le_refl _) e7
 replace hk7 : (Kd.slice 3 (Kd.int .i64)).K w a7 [c12] := by have h_ : (Kd.slice 3 (Kd.int .i64)).K w a7 (([c0, c1, c2, c3, c4, c5, c6, c7, c8, c9, c10, c11, c12, c13, c14, c15, c16, c17].drop 12).take (Try.prog.cellsOf 26)) := hk7; rwa [show Try.prog.cellsOf 26 = 1 by kernel_rfl] at h_
 have e8 := hfd 8 _ rfl; rw [List.getElem?_eq_getElem (by rw [hlen]; decide)] at e8
 obtain ⟨a8, hk8, hw8⟩ := (Opens.slice (d := (Kd.int .i64)) Try.underlying26 (by kernel_rfl) (Opens.int Try.underlying3)) m enc w base spare held m _ _ (Nat.le_refl _) e8
 replace hk8 : (Kd.slice 3 (Kd.int .i64)).K w a8 [c13] := by have h_ : (Kd.slice 3 (Kd.int .i64)).K w a8 (([c0, c1, c2, c3, c4, c5, c6, c7, c8, c9, c10, c11, c12, c13, c14, c15, c16, c17].drop 13).take (Try.prog.cellsOf 26)) := hk8; rwa [show Try.prog.cellsOf 26 = 1 by kernel_rfl] at h_
 have e9 := hfd 9 _ rfl; rw [List.getElem?_eq_getElem (by rw [hlen]; decide)] at e9
 obtain ⟨a9, hk9, hw9⟩ := (Opens.slice (d := k52) Try.underlying28 (by kernel_rfl) opens52) m enc w base spare held m _ _ (Nat.le_refl _) e9
 replace hk9 : (Kd.slice 52 k52).K w a9 [c14] := by have h_ : (Kd.slice 52 k52).K w a9 (([c0, c1, c2, c3, c4, c5, c6, c7, c8, c9, c10, c11, c12, c13, c14, c15, c16, c17].drop 14).take (Try.prog.cellsOf 28)) := hk9; rwa [show Try.prog.cellsOf 28 = 1 by kernel_rfl] at h_
 have e10 := hfd 10 _ rfl; rw [List.getElem?_eq_getElem (by rw [hlen]; decide)] at e10
 obtain ⟨a10, hk10, hw10⟩ := (Opens.int Try.underlying3) m enc w base spare held m _ _ (Nat.le_refl _) e10
 replace hk10 : (Kd.int .i64).K w a10 [c15] := by have h_ : (Kd.int .i64).K w a10 (([c0, c1, c2, c3, c4, c5, c6, c7, c8, c9, c10, c11, c12, c13, c14, c15, c16, c17].drop 15).take (Try.prog.cellsOf 3)) := hk10; rwa [show Try.prog.cellsOf 3 = 1 by kernel_rfl] at h_
 have e11 := hfd 11 _ rfl; rw [List.getElem?_eq_getElem (by rw [hlen]; decide)] at e11
 obtain ⟨a11, hk11, hw11⟩ := (Opens.int Try.underlying3) m enc w base spare held m _ _ (Nat.le_refl _) e11
 replace hk11 : (Kd.int .i64).K w a11 [c16] := by have h_ : (Kd.int .i64).K w a11 (([c0, c1, c2, c3, c4, c5, c6, c7, c8, c9, c10, c11, c12, c13, c14, c15, c16, c17].drop 16).take (Try.prog.cellsOf 3)) := hk11; rwa [show Try.prog.cellsOf 3 = 1 by kernel_rfl] at h_
 have e12 := hfd 12 _ rfl; rw [List.getElem?_eq_getElem (by rw [hlen]; decide)] at e12
 obtain ⟨a12, hk12, hw12⟩ := (OpensF.slice (d := k31) Try.underlying29 (by kernel_rfl) ih) enc w base spare held m _ _ (by omega) e12
 replace hk12 : (Kd.slice 31 k31).K w a12 [c17] := by have h_ : (Kd.slice 31 k31).K w a12 (([c0, c1, c2, c3, c4, c5, c6, c7, c8, c9, c10, c11, c12, c13, c14, c15, c16, c17].drop 17).take (Try.prog.cellsOf 29)) := hk12; rwa [show Try.prog.cellsOf 29 = 1 by kernel_rfl] at h_
 replace hk0 : [c0] = _ := hk0
 simp only [List.cons.injEq, and_true] at hk0
 subst hk0; replace hk1 : [c1] = _ := hk1
 simp only [List.cons.injEq, and_true] at hk1
 subst hk1; obtain ⟨A2_5, c2_5, ek2, l2_5, g2_5⟩ := k24_open hk2
 simp only [List.cons.injEq, and_true] at ek2
 obtain ⟨rfl, rfl, rfl, rfl, rfl, rfl⟩ := ek2; obtain ⟨A3, b3, ek3, l3, g3⟩ := hk3; simp only [List.cons.injEq, and_true] at ek3
 subst ek3; obtain ⟨A4, b4, ek4, l4, g4⟩ := hk4; simp only [List.cons.injEq, and_true] at ek4
 subst ek4; obtain ⟨A5, b5, ek5, l5, g5⟩ := hk5; simp only [List.cons.injEq, and_true] at ek5
 subst ek5; replace hk6 : [c11] = _ := hk6
 simp only [List.cons.injEq, and_true] at hk6
 subst hk6; obtain ⟨A7, b7, ek7, l7, g7⟩ := hk7; simp only [List.cons.injEq, and_true] at ek7
 subst ek7; obtain ⟨A8, b8, ek8, l8, g8⟩ := hk8; simp only [List.cons.injEq, and_true] at ek8
 subst ek8; obtain ⟨A9, b9, ek9, l9, g9⟩ := hk9; simp only [List.cons.injEq, and_true] at ek9
 subst ek9; replace hk10 : [c15] = _ := hk10
 simp only [List.cons.injEq, and_true] at hk10
 subst hk10; replace hk11 : [c16] = _ := hk11
 simp only [List.cons.injEq, and_true] at hk11
 subst hk11; obtain ⟨A12, b12, ek12, l12, g12⟩ := hk12; simp only [List.cons.injEq, and_true] at ek12
 subst ek12; exact ⟨⟨a0, a1, a2, a3, a4, a5, a6, a7, a8, a9, a10, a11, a12⟩, k31_mk w (⟨a0, a1, a2, a3, a4, a5, a6, a7, a8, a9, a10, a11, a12⟩ : S31) l2_5 g2_5 l3 g3 l4 g4 l5 g5 l7 g7 l8 g8 l9 g9 l12 g12, Wf31.mk _ hw0 hw1 hw2 hw3 hw4 hw5 hw6 hw7 hw8 hw9 hw10 hw11 hw12.1 hw12.2⟩
theorem opens31 : Opens Try.prog 31 k31 Wf31 := opensF31
def Wf46 (x : S46) : Prop := (x.f0).size ≤ maxLen ∧ (Lit.int .i64 x.f1).wf = true
set_option maxRecDepth 100000 in
theorem opens46 : Opens Try.prog 46 k46 Wf46 := fun n => by
 intro H enc w base spare held fuel cs x hf h
 obtain ⟨xs, m, rfl, rfl, hl, hlen, hfd⟩ := DataW.trod_struct Try.underlying46 h
 replace hl : cs.length = 2 := hl.trans (by kernel_rfl)
 obtain ⟨c0, c1, rfl⟩ : ∃ c0 c1, cs = [c0, c1] := by
  match cs, hl with
  | [c0, c1], _ => exact ⟨c0, c1, rfl⟩
 have e0 := hfd 0 _ rfl; rw [List.getElem?_eq_getElem (by rw [hlen]; decide)] at e0
 obtain ⟨a0, hk0, hw0⟩ := (Opens.string Try.underlying9) m enc w base spare held m _ _ (Nat.le_refl _) e0
 replace hk0 : Kd.string.K w a0 [c0] := by have h_ : Kd.string.K w a0 (([c0, c1].drop 0).take (Try.prog.cellsOf 9)) := hk0; rwa [show Try.prog.cellsOf 9 = 1 by kernel_rfl] at h_
 have e1 := hfd 1 _ rfl; rw [List.getElem?_eq_getElem (by rw [hlen]; decide)] at e1
 obtain ⟨a1, hk1, hw1⟩ := (Opens.int Try.underlying3) m enc w base spare held m _ _ (Nat.le_refl _) e1
 replace hk1 : (Kd.int .i64).K w a1 [c1] := by have h_ : (Kd.int .i64).K w a1 (([c0, c1].drop 1).take (Try.prog.cellsOf 3)) := hk1; rwa [show Try.prog.cellsOf 3 = 1 by kernel_rfl] at h_
 replace hk0 : [c0] = _ := hk0
 simp only [List.cons.injEq, and_true] at hk0
 subst hk0; replace hk1 : [c1] = _ := hk1
 simp only [List.cons.injEq, and_true] at hk1
 subst hk1; exact ⟨⟨a0, a1⟩, k46_mk w (⟨a0, a1⟩ : S46) , ⟨hw0, hw1⟩⟩
theorem dtA {p : Prop} [Decidable p] (h : decide p = true := by first | (with_reducible assumption) | assumption) : p := of_decide_eq_true h
theorem exD {P Q : Prop} (h : P := by first | rfl | (simp; done) | (simp [*]; done)) (g : Q := by repeat (first | exact Drawn0.refl _ | apply Drawn0.step)) : P ∧ Q := ⟨h, g⟩
theorem exB {P Q : Prop} (g : Q) (h : P := by first | rfl | (simp [errW_none, errW_some] <;> rfl) | (simp [*, errW_none, errW_some] <;> rfl) | exact congrArg (fun b_ => Ending.returned (.bool b_)) (decide_eq_decide.2 (by unfold wrap64; omega))) : P ∧ Q := ⟨h, g⟩
end Go.Proofs.Ytomccmodlkdcbaa.Q
