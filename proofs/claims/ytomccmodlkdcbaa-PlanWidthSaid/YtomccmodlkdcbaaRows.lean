/-
  NARROWER THAN 'FOR EVERY INPUT', by the rows' own cells (each row's printed sentence says how): PlanCols: loops · PlanTables: loops · PlanMore: loops · PlanWidth: loops · PlanKeeps: loops.
  DERIVED. THE GIVEN ROWS OF THIS SEAT. 6 by the template 'for every input the law returns true; each argument reads behind the call as it read before'; 0 by the template 'total and deterministic' (their statements: YtomccmodlkdcbaaTotals.lean).
  GIVEN WITH THE SEED: the statements are not yours to turn. If you find one false, say at which input.
  Laid BY PROGRAM, IN A SANDBOX (cutbox-rows.mjs): the forced cells as the released guide's own fill.sh prints them over the translation 0ed150e9936b156e… (all of the seat's roots in one cut). By AI agents, Wed Nov 11 2026. No macro, syntax, notation, axiom, sorry.
-/
import Derived.Test.YtomccmodlkdcbaaChecked
import GoSem.Claim
import GoSem.ClaimJoined
import GoSem.ClaimMapViews
import Derived.JoinedTies
import Derived.KernelRfl
namespace Go.Proofs.Ytomccmodlkdcbaa
/- THE CELL 'sum', in the pinned program and in every row, IS THE sha256 OF THE DUMP (.gsa) THAT YtomccmodlkdcbaaProg.lean LOADS. Nothing in Lean hashes anything: it is a label: what it is worth is what the hold of that sum in a sandbox is worth. -/
noncomputable def Try.pinned : Pinned := { name := "ytomccmodlkdcbaa", sum := "0ed150e9936b156e0f39342c9c2d48f072dbb40e98411a80cf1f1b5da13148a7", checked := Try.checked }
namespace Rows
def none {H : Type} : Left H := { results := [], args := [] }

/-- 'hopperlaw25.PlanCols': WHATEVER THE INPUT: true; the input reads as it did. -/
def planColsSpec : ChangeSpec := { name := "planCols", fn := fun _ => fun
  | [d1, d2] => { results := [.lit (.bool true)], args := [d1, d2] }
  | _ => none }
def planColsRow : OpenClaim := { program := "ytomccmodlkdcbaa", sum := "0ed150e9936b156e0f39342c9c2d48f072dbb40e98411a80cf1f1b5da13148a7", func := "hopper/hopperlaw25.PlanCols", spec := "planCols", unfollowed := true, recurses := true, loops := true, apart := false }
def PlanColsSaid : Prop := planColsRow.holds Try.pinned (OpenSpec.ofChange planColsSpec)

/-- ITS FALSE NEIGHBOUR: 'it returns false'. Refute it at one input. -/
def planColsWrong : ChangeSpec := { name := "planCols", fn := fun _ => fun
  | [d1, d2] => { results := [.lit (.bool false)], args := [d1, d2] }
  | _ => none }
def PlanColsWrongFalsely : Prop := planColsRow.holds Try.pinned (OpenSpec.ofChange planColsWrong)

/-- 'hopperlaw25.PlanTables': WHATEVER THE INPUT: true; the input reads as it did. -/
def planTablesSpec : ChangeSpec := { name := "planTables", fn := fun _ => fun
  | [d] => { results := [.lit (.bool true)], args := [d] }
  | _ => none }
def planTablesRow : OpenClaim := { program := "ytomccmodlkdcbaa", sum := "0ed150e9936b156e0f39342c9c2d48f072dbb40e98411a80cf1f1b5da13148a7", func := "hopper/hopperlaw25.PlanTables", spec := "planTables", unfollowed := true, recurses := true, loops := true, apart := false }
def PlanTablesSaid : Prop := planTablesRow.holds Try.pinned (OpenSpec.ofChange planTablesSpec)

/-- ITS FALSE NEIGHBOUR: 'it returns false'. Refute it at one input. -/
def planTablesWrong : ChangeSpec := { name := "planTables", fn := fun _ => fun
  | [d] => { results := [.lit (.bool false)], args := [d] }
  | _ => none }
def PlanTablesWrongFalsely : Prop := planTablesRow.holds Try.pinned (OpenSpec.ofChange planTablesWrong)

/-- 'hopperlaw25.PlanMore': WHATEVER THE INPUT: true; the input reads as it did. -/
def planMoreSpec : ChangeSpec := { name := "planMore", fn := fun _ => fun
  | [d1, d2, d3] => { results := [.lit (.bool true)], args := [d1, d2, d3] }
  | _ => none }
def planMoreRow : OpenClaim := { program := "ytomccmodlkdcbaa", sum := "0ed150e9936b156e0f39342c9c2d48f072dbb40e98411a80cf1f1b5da13148a7", func := "hopper/hopperlaw25.PlanMore", spec := "planMore", unfollowed := true, recurses := true, loops := true, apart := false }
def PlanMoreSaid : Prop := planMoreRow.holds Try.pinned (OpenSpec.ofChange planMoreSpec)

/-- ITS FALSE NEIGHBOUR: 'it returns false'. Refute it at one input. -/
def planMoreWrong : ChangeSpec := { name := "planMore", fn := fun _ => fun
  | [d1, d2, d3] => { results := [.lit (.bool false)], args := [d1, d2, d3] }
  | _ => none }
def PlanMoreWrongFalsely : Prop := planMoreRow.holds Try.pinned (OpenSpec.ofChange planMoreWrong)

/-- 'hopperlaw25.PlanWidth': WHATEVER THE INPUT: true; the input reads as it did. -/
def planWidthSpec : ChangeSpec := { name := "planWidth", fn := fun _ => fun
  | [d1, d2, d3] => { results := [.lit (.bool true)], args := [d1, d2, d3] }
  | _ => none }
def planWidthRow : OpenClaim := { program := "ytomccmodlkdcbaa", sum := "0ed150e9936b156e0f39342c9c2d48f072dbb40e98411a80cf1f1b5da13148a7", func := "hopper/hopperlaw25.PlanWidth", spec := "planWidth", unfollowed := true, recurses := true, loops := true, apart := false }
def PlanWidthSaid : Prop := planWidthRow.holds Try.pinned (OpenSpec.ofChange planWidthSpec)

/-- ITS FALSE NEIGHBOUR: 'it returns false'. Refute it at one input. -/
def planWidthWrong : ChangeSpec := { name := "planWidth", fn := fun _ => fun
  | [d1, d2, d3] => { results := [.lit (.bool false)], args := [d1, d2, d3] }
  | _ => none }
def PlanWidthWrongFalsely : Prop := planWidthRow.holds Try.pinned (OpenSpec.ofChange planWidthWrong)

/-- 'hopperlaw25.PlanDeep': WHATEVER THE INPUT: true; the input reads as it did. -/
def planDeepSpec : ChangeSpec := { name := "planDeep", fn := fun _ => fun
  | [d] => { results := [.lit (.bool true)], args := [d] }
  | _ => none }
def planDeepRow : OpenClaim := { program := "ytomccmodlkdcbaa", sum := "0ed150e9936b156e0f39342c9c2d48f072dbb40e98411a80cf1f1b5da13148a7", func := "hopper/hopperlaw25.PlanDeep", spec := "planDeep", unfollowed := true, recurses := true, apart := false }
def PlanDeepSaid : Prop := planDeepRow.holds Try.pinned (OpenSpec.ofChange planDeepSpec)

/-- ITS FALSE NEIGHBOUR: 'it returns false'. Refute it at one input. -/
def planDeepWrong : ChangeSpec := { name := "planDeep", fn := fun _ => fun
  | [d] => { results := [.lit (.bool false)], args := [d] }
  | _ => none }
def PlanDeepWrongFalsely : Prop := planDeepRow.holds Try.pinned (OpenSpec.ofChange planDeepWrong)

/-- 'hopperlaw25.PlanKeeps': WHATEVER THE INPUT: true; the input reads as it did. -/
def planKeepsSpec : ChangeSpec := { name := "planKeeps", fn := fun _ => fun
  | [d] => { results := [.lit (.bool true)], args := [d] }
  | _ => none }
def planKeepsRow : OpenClaim := { program := "ytomccmodlkdcbaa", sum := "0ed150e9936b156e0f39342c9c2d48f072dbb40e98411a80cf1f1b5da13148a7", func := "hopper/hopperlaw25.PlanKeeps", spec := "planKeeps", unfollowed := true, recurses := true, loops := true, apart := false }
def PlanKeepsSaid : Prop := planKeepsRow.holds Try.pinned (OpenSpec.ofChange planKeepsSpec)

/-- ITS FALSE NEIGHBOUR: 'it returns false'. Refute it at one input. -/
def planKeepsWrong : ChangeSpec := { name := "planKeeps", fn := fun _ => fun
  | [d] => { results := [.lit (.bool false)], args := [d] }
  | _ => none }
def PlanKeepsWrongFalsely : Prop := planKeepsRow.holds Try.pinned (OpenSpec.ofChange planKeepsWrong)

/- THE SECOND FORM. 'bulk': how many values and letters a reading holds, each counted each time it is reached (what is shared counts as often as it is met; a slice's spare places count too). A statement '..UptoSaid' is the law's where the arguments, and the package variables that the reading takes, are together of bulk at most 1048576: NARROWER than '..Said'. Prove '..Said' where nothing that the law and all that it calls make is longer than what came in: it says more and counts as full. Else prove '..UptoSaid'. A law counts once. -/
mutual
def uptoBulk {H : Type} : DataW H → Nat
  | .lit (.string bytes) => bytes.length + 1
  | .lit _ => 1
  | .nil => 1
  | .ptr d => uptoBulk d + 1
  | .slice elems spare => uptoBulkAll elems + uptoBulkAll spare + 1
  | .agg parts => uptoBulkAll parts + 1
  | .iface _ d => uptoBulk d + 1
  | .map entries => uptoBulkEntries entries + 1
  | .held _ => 1
def uptoBulkAll {H : Type} : List (DataW H) → Nat
  | [] => 0
  | d :: r => uptoBulk d + uptoBulkAll r
def uptoBulkEntries {H : Type} : List (Lit × DataW H) → Nat
  | [] => 0
  | x :: r => uptoBulkEntry x + uptoBulkEntries r
def uptoBulkEntry {H : Type} : Lit × DataW H → Nat
  | (.string bytes, d) => bytes.length + uptoBulk d + 1
  | (_, d) => uptoBulk d + 1
 end
def uptoSmall : (H : Type) → List (DataW H) → Bool := fun _ ds => decide (uptoBulkAll ds ≤ 1048576)
def OpenSpec.upto (s : _root_.Go.ChangeSpec) : _root_.Go.OpenSpec := { _root_.Go.OpenSpec.ofChange s with cond := some uptoSmall }

/-- 'hopperlaw25.PlanCols', WHERE WHAT IT READS IS OF BULK AT MOST 1048576: true; the input reads as it did. -/
def planColsUptoRow : OpenClaim := { program := "ytomccmodlkdcbaa", sum := "0ed150e9936b156e0f39342c9c2d48f072dbb40e98411a80cf1f1b5da13148a7", func := "hopper/hopperlaw25.PlanCols", spec := "planCols", unfollowed := true, recurses := true, loops := true, apart := false, narrowed := true }
def PlanColsUptoSaid : Prop := planColsUptoRow.holds Try.pinned (OpenSpec.upto planColsSpec)

/-- 'hopperlaw25.PlanTables', WHERE WHAT IT READS IS OF BULK AT MOST 1048576: true; the input reads as it did. -/
def planTablesUptoRow : OpenClaim := { program := "ytomccmodlkdcbaa", sum := "0ed150e9936b156e0f39342c9c2d48f072dbb40e98411a80cf1f1b5da13148a7", func := "hopper/hopperlaw25.PlanTables", spec := "planTables", unfollowed := true, recurses := true, loops := true, apart := false, narrowed := true }
def PlanTablesUptoSaid : Prop := planTablesUptoRow.holds Try.pinned (OpenSpec.upto planTablesSpec)

/-- 'hopperlaw25.PlanMore', WHERE WHAT IT READS IS OF BULK AT MOST 1048576: true; the input reads as it did. -/
def planMoreUptoRow : OpenClaim := { program := "ytomccmodlkdcbaa", sum := "0ed150e9936b156e0f39342c9c2d48f072dbb40e98411a80cf1f1b5da13148a7", func := "hopper/hopperlaw25.PlanMore", spec := "planMore", unfollowed := true, recurses := true, loops := true, apart := false, narrowed := true }
def PlanMoreUptoSaid : Prop := planMoreUptoRow.holds Try.pinned (OpenSpec.upto planMoreSpec)

/-- 'hopperlaw25.PlanWidth', WHERE WHAT IT READS IS OF BULK AT MOST 1048576: true; the input reads as it did. -/
def planWidthUptoRow : OpenClaim := { program := "ytomccmodlkdcbaa", sum := "0ed150e9936b156e0f39342c9c2d48f072dbb40e98411a80cf1f1b5da13148a7", func := "hopper/hopperlaw25.PlanWidth", spec := "planWidth", unfollowed := true, recurses := true, loops := true, apart := false, narrowed := true }
def PlanWidthUptoSaid : Prop := planWidthUptoRow.holds Try.pinned (OpenSpec.upto planWidthSpec)

/-- 'hopperlaw25.PlanDeep', WHERE WHAT IT READS IS OF BULK AT MOST 1048576: true; the input reads as it did. -/
def planDeepUptoRow : OpenClaim := { program := "ytomccmodlkdcbaa", sum := "0ed150e9936b156e0f39342c9c2d48f072dbb40e98411a80cf1f1b5da13148a7", func := "hopper/hopperlaw25.PlanDeep", spec := "planDeep", unfollowed := true, recurses := true, apart := false, narrowed := true }
def PlanDeepUptoSaid : Prop := planDeepUptoRow.holds Try.pinned (OpenSpec.upto planDeepSpec)

/-- 'hopperlaw25.PlanKeeps', WHERE WHAT IT READS IS OF BULK AT MOST 1048576: true; the input reads as it did. -/
def planKeepsUptoRow : OpenClaim := { program := "ytomccmodlkdcbaa", sum := "0ed150e9936b156e0f39342c9c2d48f072dbb40e98411a80cf1f1b5da13148a7", func := "hopper/hopperlaw25.PlanKeeps", spec := "planKeeps", unfollowed := true, recurses := true, loops := true, apart := false, narrowed := true }
def PlanKeepsUptoSaid : Prop := planKeepsUptoRow.holds Try.pinned (OpenSpec.upto planKeepsSpec)

end Rows
end Go.Proofs.Ytomccmodlkdcbaa
