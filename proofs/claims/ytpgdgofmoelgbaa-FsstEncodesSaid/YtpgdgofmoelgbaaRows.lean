/-
  No cell of these rows narrows 'for every input' (looked for: loops, veiled, ifaces, maps, wideKeys, modest, calm, conditions, laid).
  DERIVED. THE GIVEN ROWS OF THIS SEAT. 5 by the template 'for every input the law returns true; each argument reads behind the call as it read before'; 0 by the template 'total and deterministic' (their statements: YtpgdgofmoelgbaaTotals.lean).
  GIVEN WITH THE SEED: the statements are not yours to turn. If you find one false, say at which input.
  Laid BY PROGRAM, IN A SANDBOX (cutbox-rows.mjs): the forced cells as the released guide's own fill.sh prints them over the translation a0efbce40c3a9c94… (all of the seat's roots in one cut). By AI agents, Wed Nov 11 2026. No macro, syntax, notation, axiom, sorry.
-/
import Derived.Test.YtpgdgofmoelgbaaChecked
import GoSem.Claim
import GoSem.ClaimJoined
import GoSem.ClaimMapViews
import Derived.JoinedTies
import Derived.KernelRfl
namespace Go.Proofs.Ytpgdgofmoelgbaa
/- THE CELL 'sum', in the pinned program and in every row, IS THE sha256 OF THE DUMP (.gsa) THAT YtpgdgofmoelgbaaProg.lean LOADS. Nothing in Lean hashes anything: it is a label: what it is worth is what the hold of that sum in a sandbox is worth. -/
noncomputable def Try.pinned : Pinned := { name := "ytpgdgofmoelgbaa", sum := "a0efbce40c3a9c9497df6aba7c4cf7364c4da899551b54bc2f5d4f0e3589a0ec", checked := Try.checked }
namespace Rows
def none {H : Type} : Left H := { results := [], args := [] }

/-- 'hopperlaw11.FsstEncodes': WHATEVER THE INPUT: true; the input reads as it did. -/
def fsstEncodesSpec : ChangeSpec := { name := "fsstEncodes", fn := fun _ => fun
  | [d1, d2] => { results := [.lit (.bool true)], args := [d1, d2] }
  | _ => none }
def fsstEncodesRow : OpenClaim := { program := "ytpgdgofmoelgbaa", sum := "a0efbce40c3a9c9497df6aba7c4cf7364c4da899551b54bc2f5d4f0e3589a0ec", func := "hopper/hopperlaw11.FsstEncodes", spec := "fsstEncodes", apart := false }
def FsstEncodesSaid : Prop := fsstEncodesRow.holds Try.pinned (OpenSpec.ofChange fsstEncodesSpec)

/-- ITS FALSE NEIGHBOUR: 'it returns false'. Refute it at one input. -/
def fsstEncodesWrong : ChangeSpec := { name := "fsstEncodes", fn := fun _ => fun
  | [d1, d2] => { results := [.lit (.bool false)], args := [d1, d2] }
  | _ => none }
def FsstEncodesWrongFalsely : Prop := fsstEncodesRow.holds Try.pinned (OpenSpec.ofChange fsstEncodesWrong)

/-- 'hopperlaw11.FsstDecodes': WHATEVER THE INPUT: true; the input reads as it did. -/
def fsstDecodesSpec : ChangeSpec := { name := "fsstDecodes", fn := fun _ => fun
  | [d1, d2, d3] => { results := [.lit (.bool true)], args := [d1, d2, d3] }
  | _ => none }
def fsstDecodesRow : OpenClaim := { program := "ytpgdgofmoelgbaa", sum := "a0efbce40c3a9c9497df6aba7c4cf7364c4da899551b54bc2f5d4f0e3589a0ec", func := "hopper/hopperlaw11.FsstDecodes", spec := "fsstDecodes", apart := false }
def FsstDecodesSaid : Prop := fsstDecodesRow.holds Try.pinned (OpenSpec.ofChange fsstDecodesSpec)

/-- ITS FALSE NEIGHBOUR: 'it returns false'. Refute it at one input. -/
def fsstDecodesWrong : ChangeSpec := { name := "fsstDecodes", fn := fun _ => fun
  | [d1, d2, d3] => { results := [.lit (.bool false)], args := [d1, d2, d3] }
  | _ => none }
def FsstDecodesWrongFalsely : Prop := fsstDecodesRow.holds Try.pinned (OpenSpec.ofChange fsstDecodesWrong)

/-- 'hopperlaw11.FsstBack': WHATEVER THE INPUT: true; the input reads as it did. -/
def fsstBackSpec : ChangeSpec := { name := "fsstBack", fn := fun _ => fun
  | [d1, d2, d3] => { results := [.lit (.bool true)], args := [d1, d2, d3] }
  | _ => none }
def fsstBackRow : OpenClaim := { program := "ytpgdgofmoelgbaa", sum := "a0efbce40c3a9c9497df6aba7c4cf7364c4da899551b54bc2f5d4f0e3589a0ec", func := "hopper/hopperlaw11.FsstBack", spec := "fsstBack", apart := false }
def FsstBackSaid : Prop := fsstBackRow.holds Try.pinned (OpenSpec.ofChange fsstBackSpec)

/-- ITS FALSE NEIGHBOUR: 'it returns false'. Refute it at one input. -/
def fsstBackWrong : ChangeSpec := { name := "fsstBack", fn := fun _ => fun
  | [d1, d2, d3] => { results := [.lit (.bool false)], args := [d1, d2, d3] }
  | _ => none }
def FsstBackWrongFalsely : Prop := fsstBackRow.holds Try.pinned (OpenSpec.ofChange fsstBackWrong)

/-- 'hopperlaw11.FsstJoins': WHATEVER THE INPUT: true; the input reads as it did. -/
def fsstJoinsSpec : ChangeSpec := { name := "fsstJoins", fn := fun _ => fun
  | [d1, d2, d3] => { results := [.lit (.bool true)], args := [d1, d2, d3] }
  | _ => none }
def fsstJoinsRow : OpenClaim := { program := "ytpgdgofmoelgbaa", sum := "a0efbce40c3a9c9497df6aba7c4cf7364c4da899551b54bc2f5d4f0e3589a0ec", func := "hopper/hopperlaw11.FsstJoins", spec := "fsstJoins", apart := false }
def FsstJoinsSaid : Prop := fsstJoinsRow.holds Try.pinned (OpenSpec.ofChange fsstJoinsSpec)

/-- ITS FALSE NEIGHBOUR: 'it returns false'. Refute it at one input. -/
def fsstJoinsWrong : ChangeSpec := { name := "fsstJoins", fn := fun _ => fun
  | [d1, d2, d3] => { results := [.lit (.bool false)], args := [d1, d2, d3] }
  | _ => none }
def FsstJoinsWrongFalsely : Prop := fsstJoinsRow.holds Try.pinned (OpenSpec.ofChange fsstJoinsWrong)

/-- 'hopperlaw11.FsstKeeps': WHATEVER THE INPUT: true; the input reads as it did. -/
def fsstKeepsSpec : ChangeSpec := { name := "fsstKeeps", fn := fun _ => fun
  | [d1, d2] => { results := [.lit (.bool true)], args := [d1, d2] }
  | _ => none }
def fsstKeepsRow : OpenClaim := { program := "ytpgdgofmoelgbaa", sum := "a0efbce40c3a9c9497df6aba7c4cf7364c4da899551b54bc2f5d4f0e3589a0ec", func := "hopper/hopperlaw11.FsstKeeps", spec := "fsstKeeps", apart := false }
def FsstKeepsSaid : Prop := fsstKeepsRow.holds Try.pinned (OpenSpec.ofChange fsstKeepsSpec)

/-- ITS FALSE NEIGHBOUR: 'it returns false'. Refute it at one input. -/
def fsstKeepsWrong : ChangeSpec := { name := "fsstKeeps", fn := fun _ => fun
  | [d1, d2] => { results := [.lit (.bool false)], args := [d1, d2] }
  | _ => none }
def FsstKeepsWrongFalsely : Prop := fsstKeepsRow.holds Try.pinned (OpenSpec.ofChange fsstKeepsWrong)

/- THE SECOND FORM. 'bulk': how many values and letters a reading holds, each counted each time it is reached (what is shared counts as often as it is met; a slice's spare places count too). A statement '..UptoSaid' is the law's where the arguments, and the package variables that the reading takes, are together of bulk at most 1048576: NARROWER than '..Said'. Prove '..Said' where nothing that the law and all that it calls make is longer than what came in: it says more and counts as full. Else prove '..UptoSaid'. A law counts once. -/
mutual
def uptoBulk {H : Type} : DataW H → Nat
  | .lit (.string bytes) => bytes.length + 1
  | .lit _ => 1
  | .nil => 1
  | .ptr d => uptoBulk d + 1
  | .slice elems spare => uptoBulkAll elems + uptoBulkAll spare + 1
  | .agg parts => uptoBulkAll parts + 1
  | .iface _ d => uptoBulk d + 1
  | .map entries => uptoBulkEntries entries + 1
  | .held _ => 1
def uptoBulkAll {H : Type} : List (DataW H) → Nat
  | [] => 0
  | d :: r => uptoBulk d + uptoBulkAll r
def uptoBulkEntries {H : Type} : List (Lit × DataW H) → Nat
  | [] => 0
  | x :: r => uptoBulkEntry x + uptoBulkEntries r
def uptoBulkEntry {H : Type} : Lit × DataW H → Nat
  | (.string bytes, d) => bytes.length + uptoBulk d + 1
  | (_, d) => uptoBulk d + 1
 end
def uptoSmall : (H : Type) → List (DataW H) → Bool := fun _ ds => decide (uptoBulkAll ds ≤ 1048576)
def OpenSpec.upto (s : _root_.Go.ChangeSpec) : _root_.Go.OpenSpec := { _root_.Go.OpenSpec.ofChange s with cond := some uptoSmall }

/-- 'hopperlaw11.FsstEncodes', WHERE WHAT IT READS IS OF BULK AT MOST 1048576: true; the input reads as it did. -/
def fsstEncodesUptoRow : OpenClaim := { program := "ytpgdgofmoelgbaa", sum := "a0efbce40c3a9c9497df6aba7c4cf7364c4da899551b54bc2f5d4f0e3589a0ec", func := "hopper/hopperlaw11.FsstEncodes", spec := "fsstEncodes", apart := false, narrowed := true }
def FsstEncodesUptoSaid : Prop := fsstEncodesUptoRow.holds Try.pinned (OpenSpec.upto fsstEncodesSpec)

/-- 'hopperlaw11.FsstDecodes', WHERE WHAT IT READS IS OF BULK AT MOST 1048576: true; the input reads as it did. -/
def fsstDecodesUptoRow : OpenClaim := { program := "ytpgdgofmoelgbaa", sum := "a0efbce40c3a9c9497df6aba7c4cf7364c4da899551b54bc2f5d4f0e3589a0ec", func := "hopper/hopperlaw11.FsstDecodes", spec := "fsstDecodes", apart := false, narrowed := true }
def FsstDecodesUptoSaid : Prop := fsstDecodesUptoRow.holds Try.pinned (OpenSpec.upto fsstDecodesSpec)

/-- 'hopperlaw11.FsstBack', WHERE WHAT IT READS IS OF BULK AT MOST 1048576: true; the input reads as it did. -/
def fsstBackUptoRow : OpenClaim := { program := "ytpgdgofmoelgbaa", sum := "a0efbce40c3a9c9497df6aba7c4cf7364c4da899551b54bc2f5d4f0e3589a0ec", func := "hopper/hopperlaw11.FsstBack", spec := "fsstBack", apart := false, narrowed := true }
def FsstBackUptoSaid : Prop := fsstBackUptoRow.holds Try.pinned (OpenSpec.upto fsstBackSpec)

/-- 'hopperlaw11.FsstJoins', WHERE WHAT IT READS IS OF BULK AT MOST 1048576: true; the input reads as it did. -/
def fsstJoinsUptoRow : OpenClaim := { program := "ytpgdgofmoelgbaa", sum := "a0efbce40c3a9c9497df6aba7c4cf7364c4da899551b54bc2f5d4f0e3589a0ec", func := "hopper/hopperlaw11.FsstJoins", spec := "fsstJoins", apart := false, narrowed := true }
def FsstJoinsUptoSaid : Prop := fsstJoinsUptoRow.holds Try.pinned (OpenSpec.upto fsstJoinsSpec)

/-- 'hopperlaw11.FsstKeeps', WHERE WHAT IT READS IS OF BULK AT MOST 1048576: true; the input reads as it did. -/
def fsstKeepsUptoRow : OpenClaim := { program := "ytpgdgofmoelgbaa", sum := "a0efbce40c3a9c9497df6aba7c4cf7364c4da899551b54bc2f5d4f0e3589a0ec", func := "hopper/hopperlaw11.FsstKeeps", spec := "fsstKeeps", apart := false, narrowed := true }
def FsstKeepsUptoSaid : Prop := fsstKeepsUptoRow.holds Try.pinned (OpenSpec.upto fsstKeepsSpec)

end Rows
end Go.Proofs.Ytpgdgofmoelgbaa
