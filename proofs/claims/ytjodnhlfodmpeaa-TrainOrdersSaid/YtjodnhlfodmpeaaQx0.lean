-- PRINTED by print.py (a twelfth state) out of the translation. Not trusted: Lean checks it.
import Derived.Test.YtjodnhlfodmpeaaProg
import Derived.Below
import Derived.Deep.Draws
import Derived.Deep.AppendLies
import Derived.Maps.AppendAt
import Derived.OwnWalk
import Derived.Laws.BytesArg
import Derived.Laws.MakeOwn
import Derived.Laws.OwnMore
import Derived.Deep.OwnRows
import Derived.Tactics
import Derived.Lib.ConvBytes
import Derived.Laws.Slices
import Derived.WalkKit
import Derived.KernelRfl
import Derived.RowKit3
import Derived.Deep.LoopGhost
import Derived.Deep.QuietTactic
import Derived.BigQuiet
import Derived.WideLaws
import Derived.Deep.DeepCutAuto
import Derived.Deep.CutBlock
import Derived.Deep.RegionHeld3
import Derived.Laws.Rows
import Derived.Lib.AppendStr
import Derived.ArgAppend
import Derived.Laws.IdiomCopy
import Derived.OrdersHeld
import Derived.Laws.BitsLemmas
import Derived.RowKit
import Derived.ScopeJumps
import Derived.WalkMore
import Derived.Test.YtjodnhlfodmpeaaHWords2
import Derived.Test.YtjodnhlfodmpeaaHRows2
import Derived.Test.YtjodnhlfodmpeaaHStrRow
import Derived.Test.YtjodnhlfodmpeaaHMaps
import Derived.Test.YtjodnhlfodmpeaaHBoxes
import Derived.Test.YtjodnhlfodmpeaaHGainSort
import Derived.Test.YtjodnhlfodmpeaaHOpens
import Derived.Test.YtjodnhlfodmpeaaHWords
namespace Go.Proofs.Ytjodnhlfodmpeaa.Q
open Go.RowKit Go.Proofs.YtjodnhlfodmpeaaW.PrintWords Go.Proofs.YtjodnhlfodmpeaaW.PrintLast Go.Proofs.YtjodnhlfodmpeaaW.PrintMore
attribute [local go_sem] str_gtr str_geq str_leq max2_int min2_int max_two min_two max_three min_three max_four min_four   -- for this text's walks alone
set_option linter.unusedVariables false
set_option linter.unusedSimpArgs false



def errW : Option Int → Value
 | none => .nilIface
 | some c => .iface 0 (.int .i64 c)
theorem errW_none : errW none = .nilIface := rfl
theorem errW_some (c : Int) : errW (some c) = .iface 0 (.int .i64 c) := rfl

theorem info9 : (Try.prog.info? 9).map (fun i => (i.zero, i.size, i.bytes)) = some (some (.string ⟨#[]⟩), 1, 16) := by kernel_rfl
-- the values' own types
theorem dtA {p : Prop} [Decidable p] (h : decide p = true := by first | (with_reducible assumption) | assumption) : p := of_decide_eq_true h
theorem exD {P Q : Prop} (h : P := by first | rfl | (simp; done) | (simp [*]; done)) (g : Q := by repeat (first | exact Drawn0.refl _ | apply Drawn0.step)) : P ∧ Q := ⟨h, g⟩
theorem exB {P Q : Prop} (g : Q) (h : P := by first | rfl | (simp [errW_none, errW_some] <;> rfl) | (simp [*, errW_none, errW_some] <;> rfl) | exact congrArg (fun b_ => Ending.returned (.bool b_)) (decide_eq_decide.2 (by unfold wrap64; omega))) : P ∧ Q := ⟨h, g⟩
end Go.Proofs.Ytjodnhlfodmpeaa.Q
