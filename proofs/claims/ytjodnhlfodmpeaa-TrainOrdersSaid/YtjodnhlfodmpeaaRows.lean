/-
  No cell of these rows narrows 'for every input' (looked for: loops, veiled, ifaces, maps, wideKeys, modest, calm, conditions, laid).
  DERIVED. THE GIVEN ROWS OF THIS SEAT. 6 by the template 'for every input the law returns true; each argument reads behind the call as it read before'; 0 by the template 'total and deterministic' (their statements: YtjodnhlfodmpeaaTotals.lean).
  GIVEN WITH THE SEED: the statements are not yours to turn. If you find one false, say at which input.
  Laid BY PROGRAM, IN A SANDBOX (cutbox-rows.mjs): the forced cells as the released guide's own fill.sh prints them over the translation af0a06a06887e78d… (all of the seat's roots in one cut). By AI agents, Wed Nov 11 2026. No macro, syntax, notation, axiom, sorry.
-/
import Derived.Test.YtjodnhlfodmpeaaChecked
import GoSem.Claim
import GoSem.ClaimJoined
import GoSem.ClaimMapViews
import Derived.JoinedTies
import Derived.KernelRfl
namespace Go.Proofs.Ytjodnhlfodmpeaa
/- THE CELL 'sum', in the pinned program and in every row, IS THE sha256 OF THE DUMP (.gsa) THAT YtjodnhlfodmpeaaProg.lean LOADS. Nothing in Lean hashes anything: it is a label: what it is worth is what the hold of that sum in a sandbox is worth. -/
noncomputable def Try.pinned : Pinned := { name := "ytjodnhlfodmpeaa", sum := "af0a06a06887e78daf7e33dc60effe934ba1bd31fcd2fe6ddddca11bb982dc85", checked := Try.checked }
namespace Rows
def none {H : Type} : Left H := { results := [], args := [] }

/-- 'hopperlaw12.TrainSamples': WHATEVER THE INPUT: true; the input reads as it did. -/
def trainSamplesSpec : ChangeSpec := { name := "trainSamples", fn := fun _ => fun
  | [d1, d2] => { results := [.lit (.bool true)], args := [d1, d2] }
  | _ => none }
def trainSamplesRow : OpenClaim := { program := "ytjodnhlfodmpeaa", sum := "af0a06a06887e78daf7e33dc60effe934ba1bd31fcd2fe6ddddca11bb982dc85", func := "hopper/hopperlaw12.TrainSamples", spec := "trainSamples", unfollowed := true, recurses := true, apart := false }
def TrainSamplesSaid : Prop := trainSamplesRow.holds Try.pinned (OpenSpec.ofChange trainSamplesSpec)

/-- ITS FALSE NEIGHBOUR: 'it returns false'. Refute it at one input. -/
def trainSamplesWrong : ChangeSpec := { name := "trainSamples", fn := fun _ => fun
  | [d1, d2] => { results := [.lit (.bool false)], args := [d1, d2] }
  | _ => none }
def TrainSamplesWrongFalsely : Prop := trainSamplesRow.holds Try.pinned (OpenSpec.ofChange trainSamplesWrong)

/-- 'hopperlaw12.TrainRounds': WHATEVER THE INPUT: true; the input reads as it did. -/
def trainRoundsSpec : ChangeSpec := { name := "trainRounds", fn := fun _ => fun
  | [d1, d2] => { results := [.lit (.bool true)], args := [d1, d2] }
  | _ => none }
def trainRoundsRow : OpenClaim := { program := "ytjodnhlfodmpeaa", sum := "af0a06a06887e78daf7e33dc60effe934ba1bd31fcd2fe6ddddca11bb982dc85", func := "hopper/hopperlaw12.TrainRounds", spec := "trainRounds", unfollowed := true, recurses := true, apart := false }
def TrainRoundsSaid : Prop := trainRoundsRow.holds Try.pinned (OpenSpec.ofChange trainRoundsSpec)

/-- ITS FALSE NEIGHBOUR: 'it returns false'. Refute it at one input. -/
def trainRoundsWrong : ChangeSpec := { name := "trainRounds", fn := fun _ => fun
  | [d1, d2] => { results := [.lit (.bool false)], args := [d1, d2] }
  | _ => none }
def TrainRoundsWrongFalsely : Prop := trainRoundsRow.holds Try.pinned (OpenSpec.ofChange trainRoundsWrong)

/-- 'hopperlaw12.TrainTrains': WHATEVER THE INPUT: true; the input reads as it did. -/
def trainTrainsSpec : ChangeSpec := { name := "trainTrains", fn := fun _ => fun
  | [d1, d2] => { results := [.lit (.bool true)], args := [d1, d2] }
  | _ => none }
def trainTrainsRow : OpenClaim := { program := "ytjodnhlfodmpeaa", sum := "af0a06a06887e78daf7e33dc60effe934ba1bd31fcd2fe6ddddca11bb982dc85", func := "hopper/hopperlaw12.TrainTrains", spec := "trainTrains", unfollowed := true, recurses := true, apart := false }
def TrainTrainsSaid : Prop := trainTrainsRow.holds Try.pinned (OpenSpec.ofChange trainTrainsSpec)

/-- ITS FALSE NEIGHBOUR: 'it returns false'. Refute it at one input. -/
def trainTrainsWrong : ChangeSpec := { name := "trainTrains", fn := fun _ => fun
  | [d1, d2] => { results := [.lit (.bool false)], args := [d1, d2] }
  | _ => none }
def TrainTrainsWrongFalsely : Prop := trainTrainsRow.holds Try.pinned (OpenSpec.ofChange trainTrainsWrong)

/-- 'hopperlaw12.TrainOrders': WHATEVER THE INPUT: true; the input reads as it did. -/
def trainOrdersSpec : ChangeSpec := { name := "trainOrders", fn := fun _ => fun
  | [d1, d2, d3] => { results := [.lit (.bool true)], args := [d1, d2, d3] }
  | _ => none }
def trainOrdersRow : OpenClaim := { program := "ytjodnhlfodmpeaa", sum := "af0a06a06887e78daf7e33dc60effe934ba1bd31fcd2fe6ddddca11bb982dc85", func := "hopper/hopperlaw12.TrainOrders", spec := "trainOrders", unfollowed := true, recurses := true, apart := false }
def TrainOrdersSaid : Prop := trainOrdersRow.holds Try.pinned (OpenSpec.ofChange trainOrdersSpec)

/-- ITS FALSE NEIGHBOUR: 'it returns false'. Refute it at one input. -/
def trainOrdersWrong : ChangeSpec := { name := "trainOrders", fn := fun _ => fun
  | [d1, d2, d3] => { results := [.lit (.bool false)], args := [d1, d2, d3] }
  | _ => none }
def TrainOrdersWrongFalsely : Prop := trainOrdersRow.holds Try.pinned (OpenSpec.ofChange trainOrdersWrong)

/-- 'hopperlaw12.TrainKeeps': WHATEVER THE INPUT: true; the input reads as it did. -/
def trainKeepsSpec : ChangeSpec := { name := "trainKeeps", fn := fun _ => fun
  | [d] => { results := [.lit (.bool true)], args := [d] }
  | _ => none }
def trainKeepsRow : OpenClaim := { program := "ytjodnhlfodmpeaa", sum := "af0a06a06887e78daf7e33dc60effe934ba1bd31fcd2fe6ddddca11bb982dc85", func := "hopper/hopperlaw12.TrainKeeps", spec := "trainKeeps", unfollowed := true, recurses := true, apart := false }
def TrainKeepsSaid : Prop := trainKeepsRow.holds Try.pinned (OpenSpec.ofChange trainKeepsSpec)

/-- ITS FALSE NEIGHBOUR: 'it returns false'. Refute it at one input. -/
def trainKeepsWrong : ChangeSpec := { name := "trainKeeps", fn := fun _ => fun
  | [d] => { results := [.lit (.bool false)], args := [d] }
  | _ => none }
def TrainKeepsWrongFalsely : Prop := trainKeepsRow.holds Try.pinned (OpenSpec.ofChange trainKeepsWrong)

/-- 'hopperlaw12.TrainRight': WHATEVER THE INPUT: true; the input reads as it did. -/
def trainRightSpec : ChangeSpec := { name := "trainRight", fn := fun _ => fun
  | [d1, d2] => { results := [.lit (.bool true)], args := [d1, d2] }
  | _ => none }
def trainRightRow : OpenClaim := { program := "ytjodnhlfodmpeaa", sum := "af0a06a06887e78daf7e33dc60effe934ba1bd31fcd2fe6ddddca11bb982dc85", func := "hopper/hopperlaw12.TrainRight", spec := "trainRight", inPlace := ["internal/bytealg.IndexByteString", "internal/bytealg.IndexString"], unfollowed := true, recurses := true, named := ["internal/bytealg.MaxLen"], apart := false }
def TrainRightSaid : Prop := trainRightRow.holds Try.pinned (OpenSpec.ofChange trainRightSpec)

/-- ITS FALSE NEIGHBOUR: 'it returns false'. Refute it at one input. -/
def trainRightWrong : ChangeSpec := { name := "trainRight", fn := fun _ => fun
  | [d1, d2] => { results := [.lit (.bool false)], args := [d1, d2] }
  | _ => none }
def TrainRightWrongFalsely : Prop := trainRightRow.holds Try.pinned (OpenSpec.ofChange trainRightWrong)

/- THE SECOND FORM. 'bulk': how many values and letters a reading holds, each counted each time it is reached (what is shared counts as often as it is met; a slice's spare places count too). A statement '..UptoSaid' is the law's where the arguments, and the package variables that the reading takes, are together of bulk at most 1048576: NARROWER than '..Said'. Prove '..Said' where nothing that the law and all that it calls make is longer than what came in: it says more and counts as full. Else prove '..UptoSaid'. A law counts once. -/
mutual
def uptoBulk {H : Type} : DataW H → Nat
  | .lit (.string bytes) => bytes.length + 1
  | .lit _ => 1
  | .nil => 1
  | .ptr d => uptoBulk d + 1
  | .slice elems spare => uptoBulkAll elems + uptoBulkAll spare + 1
  | .agg parts => uptoBulkAll parts + 1
  | .iface _ d => uptoBulk d + 1
  | .map entries => uptoBulkEntries entries + 1
  | .held _ => 1
def uptoBulkAll {H : Type} : List (DataW H) → Nat
  | [] => 0
  | d :: r => uptoBulk d + uptoBulkAll r
def uptoBulkEntries {H : Type} : List (Lit × DataW H) → Nat
  | [] => 0
  | x :: r => uptoBulkEntry x + uptoBulkEntries r
def uptoBulkEntry {H : Type} : Lit × DataW H → Nat
  | (.string bytes, d) => bytes.length + uptoBulk d + 1
  | (_, d) => uptoBulk d + 1
 end
def uptoSmall : (H : Type) → List (DataW H) → Bool := fun _ ds => decide (uptoBulkAll ds ≤ 1048576)
def OpenSpec.upto (s : _root_.Go.ChangeSpec) : _root_.Go.OpenSpec := { _root_.Go.OpenSpec.ofChange s with cond := some uptoSmall }

/-- 'hopperlaw12.TrainSamples', WHERE WHAT IT READS IS OF BULK AT MOST 1048576: true; the input reads as it did. -/
def trainSamplesUptoRow : OpenClaim := { program := "ytjodnhlfodmpeaa", sum := "af0a06a06887e78daf7e33dc60effe934ba1bd31fcd2fe6ddddca11bb982dc85", func := "hopper/hopperlaw12.TrainSamples", spec := "trainSamples", unfollowed := true, recurses := true, apart := false, narrowed := true }
def TrainSamplesUptoSaid : Prop := trainSamplesUptoRow.holds Try.pinned (OpenSpec.upto trainSamplesSpec)

/-- 'hopperlaw12.TrainRounds', WHERE WHAT IT READS IS OF BULK AT MOST 1048576: true; the input reads as it did. -/
def trainRoundsUptoRow : OpenClaim := { program := "ytjodnhlfodmpeaa", sum := "af0a06a06887e78daf7e33dc60effe934ba1bd31fcd2fe6ddddca11bb982dc85", func := "hopper/hopperlaw12.TrainRounds", spec := "trainRounds", unfollowed := true, recurses := true, apart := false, narrowed := true }
def TrainRoundsUptoSaid : Prop := trainRoundsUptoRow.holds Try.pinned (OpenSpec.upto trainRoundsSpec)

/-- 'hopperlaw12.TrainTrains', WHERE WHAT IT READS IS OF BULK AT MOST 1048576: true; the input reads as it did. -/
def trainTrainsUptoRow : OpenClaim := { program := "ytjodnhlfodmpeaa", sum := "af0a06a06887e78daf7e33dc60effe934ba1bd31fcd2fe6ddddca11bb982dc85", func := "hopper/hopperlaw12.TrainTrains", spec := "trainTrains", unfollowed := true, recurses := true, apart := false, narrowed := true }
def TrainTrainsUptoSaid : Prop := trainTrainsUptoRow.holds Try.pinned (OpenSpec.upto trainTrainsSpec)

/-- 'hopperlaw12.TrainOrders', WHERE WHAT IT READS IS OF BULK AT MOST 1048576: true; the input reads as it did. -/
def trainOrdersUptoRow : OpenClaim := { program := "ytjodnhlfodmpeaa", sum := "af0a06a06887e78daf7e33dc60effe934ba1bd31fcd2fe6ddddca11bb982dc85", func := "hopper/hopperlaw12.TrainOrders", spec := "trainOrders", unfollowed := true, recurses := true, apart := false, narrowed := true }
def TrainOrdersUptoSaid : Prop := trainOrdersUptoRow.holds Try.pinned (OpenSpec.upto trainOrdersSpec)

/-- 'hopperlaw12.TrainKeeps', WHERE WHAT IT READS IS OF BULK AT MOST 1048576: true; the input reads as it did. -/
def trainKeepsUptoRow : OpenClaim := { program := "ytjodnhlfodmpeaa", sum := "af0a06a06887e78daf7e33dc60effe934ba1bd31fcd2fe6ddddca11bb982dc85", func := "hopper/hopperlaw12.TrainKeeps", spec := "trainKeeps", unfollowed := true, recurses := true, apart := false, narrowed := true }
def TrainKeepsUptoSaid : Prop := trainKeepsUptoRow.holds Try.pinned (OpenSpec.upto trainKeepsSpec)

/-- 'hopperlaw12.TrainRight', WHERE WHAT IT READS IS OF BULK AT MOST 1048576: true; the input reads as it did. -/
def trainRightUptoRow : OpenClaim := { program := "ytjodnhlfodmpeaa", sum := "af0a06a06887e78daf7e33dc60effe934ba1bd31fcd2fe6ddddca11bb982dc85", func := "hopper/hopperlaw12.TrainRight", spec := "trainRight", inPlace := ["internal/bytealg.IndexByteString", "internal/bytealg.IndexString"], unfollowed := true, recurses := true, named := ["internal/bytealg.MaxLen"], apart := false, narrowed := true }
def TrainRightUptoSaid : Prop := trainRightUptoRow.holds Try.pinned (OpenSpec.upto trainRightSpec)

end Rows
end Go.Proofs.Ytjodnhlfodmpeaa
