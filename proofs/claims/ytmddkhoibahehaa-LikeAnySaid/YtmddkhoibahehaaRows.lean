/-
  No cell of these rows narrows 'for every input' (looked for: loops, veiled, ifaces, maps, wideKeys, modest, calm, conditions, laid).
  DERIVED. THE GIVEN ROWS OF THIS SEAT. 7 by the template 'for every input the law returns true; each argument reads behind the call as it read before'; 0 by the template 'total and deterministic' (their statements: YtmddkhoibahehaaTotals.lean).
  GIVEN WITH THE SEED: the statements are not yours to turn. If you find one false, say at which input.
  Laid BY PROGRAM, IN A SANDBOX (cutbox-rows.mjs): the forced cells as the released guide's own fill.sh prints them over the translation abf7d83bb14c98c4… (all of the seat's roots in one cut). By AI agents, Wed Nov 11 2026. No macro, syntax, notation, axiom, sorry.
-/
import Derived.Test.YtmddkhoibahehaaChecked
import GoSem.Claim
import GoSem.ClaimJoined
import GoSem.ClaimMapViews
import Derived.JoinedTies
import Derived.KernelRfl
namespace Go.Proofs.Ytmddkhoibahehaa
/- THE CELL 'sum', in the pinned program and in every row, IS THE sha256 OF THE DUMP (.gsa) THAT YtmddkhoibahehaaProg.lean LOADS. Nothing in Lean hashes anything: it is a label: what it is worth is what the hold of that sum in a sandbox is worth. -/
noncomputable def Try.pinned : Pinned := { name := "ytmddkhoibahehaa", sum := "abf7d83bb14c98c462bcfe6864e99c9714acb98e9ee5a81797e349912024b955", checked := Try.checked }
namespace Rows
def none {H : Type} : Left H := { results := [], args := [] }

/-- 'hopperlaw09.LikeParses': WHATEVER THE INPUT: true; the input reads as it did. -/
def likeParsesSpec : ChangeSpec := { name := "likeParses", fn := fun _ => fun
  | [d1, d2] => { results := [.lit (.bool true)], args := [d1, d2] }
  | _ => none }
def likeParsesRow : OpenClaim := { program := "ytmddkhoibahehaa", sum := "abf7d83bb14c98c462bcfe6864e99c9714acb98e9ee5a81797e349912024b955", func := "hopper/hopperlaw09.LikeParses", spec := "likeParses", apart := false }
def LikeParsesSaid : Prop := likeParsesRow.holds Try.pinned (OpenSpec.ofChange likeParsesSpec)

/-- ITS FALSE NEIGHBOUR: 'it returns false'. Refute it at one input. -/
def likeParsesWrong : ChangeSpec := { name := "likeParses", fn := fun _ => fun
  | [d1, d2] => { results := [.lit (.bool false)], args := [d1, d2] }
  | _ => none }
def LikeParsesWrongFalsely : Prop := likeParsesRow.holds Try.pinned (OpenSpec.ofChange likeParsesWrong)

/-- 'hopperlaw09.LikeMatches': WHATEVER THE INPUT: true; the input reads as it did. -/
def likeMatchesSpec : ChangeSpec := { name := "likeMatches", fn := fun _ => fun
  | [d1, d2] => { results := [.lit (.bool true)], args := [d1, d2] }
  | _ => none }
def likeMatchesRow : OpenClaim := { program := "ytmddkhoibahehaa", sum := "abf7d83bb14c98c462bcfe6864e99c9714acb98e9ee5a81797e349912024b955", func := "hopper/hopperlaw09.LikeMatches", spec := "likeMatches", apart := false }
def LikeMatchesSaid : Prop := likeMatchesRow.holds Try.pinned (OpenSpec.ofChange likeMatchesSpec)

/-- ITS FALSE NEIGHBOUR: 'it returns false'. Refute it at one input. -/
def likeMatchesWrong : ChangeSpec := { name := "likeMatches", fn := fun _ => fun
  | [d1, d2] => { results := [.lit (.bool false)], args := [d1, d2] }
  | _ => none }
def LikeMatchesWrongFalsely : Prop := likeMatchesRow.holds Try.pinned (OpenSpec.ofChange likeMatchesWrong)

/-- 'hopperlaw09.LikeRuns': WHATEVER THE INPUT: true; the input reads as it did. -/
def likeRunsSpec : ChangeSpec := { name := "likeRuns", fn := fun _ => fun
  | [d] => { results := [.lit (.bool true)], args := [d] }
  | _ => none }
def likeRunsRow : OpenClaim := { program := "ytmddkhoibahehaa", sum := "abf7d83bb14c98c462bcfe6864e99c9714acb98e9ee5a81797e349912024b955", func := "hopper/hopperlaw09.LikeRuns", spec := "likeRuns", apart := false }
def LikeRunsSaid : Prop := likeRunsRow.holds Try.pinned (OpenSpec.ofChange likeRunsSpec)

/-- ITS FALSE NEIGHBOUR: 'it returns false'. Refute it at one input. -/
def likeRunsWrong : ChangeSpec := { name := "likeRuns", fn := fun _ => fun
  | [d] => { results := [.lit (.bool false)], args := [d] }
  | _ => none }
def LikeRunsWrongFalsely : Prop := likeRunsRow.holds Try.pinned (OpenSpec.ofChange likeRunsWrong)

/-- 'hopperlaw09.LikeQuotes': WHATEVER THE INPUT: true; the input reads as it did. -/
def likeQuotesSpec : ChangeSpec := { name := "likeQuotes", fn := fun _ => fun
  | [d1, d2, d3] => { results := [.lit (.bool true)], args := [d1, d2, d3] }
  | _ => none }
def likeQuotesRow : OpenClaim := { program := "ytmddkhoibahehaa", sum := "abf7d83bb14c98c462bcfe6864e99c9714acb98e9ee5a81797e349912024b955", func := "hopper/hopperlaw09.LikeQuotes", spec := "likeQuotes", apart := false }
def LikeQuotesSaid : Prop := likeQuotesRow.holds Try.pinned (OpenSpec.ofChange likeQuotesSpec)

/-- ITS FALSE NEIGHBOUR: 'it returns false'. Refute it at one input. -/
def likeQuotesWrong : ChangeSpec := { name := "likeQuotes", fn := fun _ => fun
  | [d1, d2, d3] => { results := [.lit (.bool false)], args := [d1, d2, d3] }
  | _ => none }
def LikeQuotesWrongFalsely : Prop := likeQuotesRow.holds Try.pinned (OpenSpec.ofChange likeQuotesWrong)

/-- 'hopperlaw09.LikeKeeps': WHATEVER THE INPUT: true; the input reads as it did. -/
def likeKeepsSpec : ChangeSpec := { name := "likeKeeps", fn := fun _ => fun
  | [d] => { results := [.lit (.bool true)], args := [d] }
  | _ => none }
def likeKeepsRow : OpenClaim := { program := "ytmddkhoibahehaa", sum := "abf7d83bb14c98c462bcfe6864e99c9714acb98e9ee5a81797e349912024b955", func := "hopper/hopperlaw09.LikeKeeps", spec := "likeKeeps", apart := false }
def LikeKeepsSaid : Prop := likeKeepsRow.holds Try.pinned (OpenSpec.ofChange likeKeepsSpec)

/-- ITS FALSE NEIGHBOUR: 'it returns false'. Refute it at one input. -/
def likeKeepsWrong : ChangeSpec := { name := "likeKeeps", fn := fun _ => fun
  | [d] => { results := [.lit (.bool false)], args := [d] }
  | _ => none }
def LikeKeepsWrongFalsely : Prop := likeKeepsRow.holds Try.pinned (OpenSpec.ofChange likeKeepsWrong)

/-- 'hopperlaw09.LikeAny': WHATEVER THE INPUT: true; the input reads as it did. -/
def likeAnySpec : ChangeSpec := { name := "likeAny", fn := fun _ => fun
  | [d1, d2] => { results := [.lit (.bool true)], args := [d1, d2] }
  | _ => none }
def likeAnyRow : OpenClaim := { program := "ytmddkhoibahehaa", sum := "abf7d83bb14c98c462bcfe6864e99c9714acb98e9ee5a81797e349912024b955", func := "hopper/hopperlaw09.LikeAny", spec := "likeAny", inPlace := ["internal/bytealg.IndexByteString", "internal/bytealg.IndexString"], named := ["internal/bytealg.MaxLen"], apart := false }
def LikeAnySaid : Prop := likeAnyRow.holds Try.pinned (OpenSpec.ofChange likeAnySpec)

/-- ITS FALSE NEIGHBOUR: 'it returns false'. Refute it at one input. -/
def likeAnyWrong : ChangeSpec := { name := "likeAny", fn := fun _ => fun
  | [d1, d2] => { results := [.lit (.bool false)], args := [d1, d2] }
  | _ => none }
def LikeAnyWrongFalsely : Prop := likeAnyRow.holds Try.pinned (OpenSpec.ofChange likeAnyWrong)

/-- 'hopperlaw09.LikeHas': WHATEVER THE INPUT: true; the input reads as it did. -/
def likeHasSpec : ChangeSpec := { name := "likeHas", fn := fun _ => fun
  | [d1, d2] => { results := [.lit (.bool true)], args := [d1, d2] }
  | _ => none }
def likeHasRow : OpenClaim := { program := "ytmddkhoibahehaa", sum := "abf7d83bb14c98c462bcfe6864e99c9714acb98e9ee5a81797e349912024b955", func := "hopper/hopperlaw09.LikeHas", spec := "likeHas", inPlace := ["internal/bytealg.IndexByteString", "internal/bytealg.IndexString"], named := ["internal/bytealg.MaxLen"], apart := false }
def LikeHasSaid : Prop := likeHasRow.holds Try.pinned (OpenSpec.ofChange likeHasSpec)

/-- ITS FALSE NEIGHBOUR: 'it returns false'. Refute it at one input. -/
def likeHasWrong : ChangeSpec := { name := "likeHas", fn := fun _ => fun
  | [d1, d2] => { results := [.lit (.bool false)], args := [d1, d2] }
  | _ => none }
def LikeHasWrongFalsely : Prop := likeHasRow.holds Try.pinned (OpenSpec.ofChange likeHasWrong)

/- THE SECOND FORM. 'bulk': how many values and letters a reading holds, each counted each time it is reached (what is shared counts as often as it is met; a slice's spare places count too). A statement '..UptoSaid' is the law's where the arguments, and the package variables that the reading takes, are together of bulk at most 1048576: NARROWER than '..Said'. Prove '..Said' where nothing that the law and all that it calls make is longer than what came in: it says more and counts as full. Else prove '..UptoSaid'. A law counts once. -/
mutual
def uptoBulk {H : Type} : DataW H → Nat
  | .lit (.string bytes) => bytes.length + 1
  | .lit _ => 1
  | .nil => 1
  | .ptr d => uptoBulk d + 1
  | .slice elems spare => uptoBulkAll elems + uptoBulkAll spare + 1
  | .agg parts => uptoBulkAll parts + 1
  | .iface _ d => uptoBulk d + 1
  | .map entries => uptoBulkEntries entries + 1
  | .held _ => 1
def uptoBulkAll {H : Type} : List (DataW H) → Nat
  | [] => 0
  | d :: r => uptoBulk d + uptoBulkAll r
def uptoBulkEntries {H : Type} : List (Lit × DataW H) → Nat
  | [] => 0
  | x :: r => uptoBulkEntry x + uptoBulkEntries r
def uptoBulkEntry {H : Type} : Lit × DataW H → Nat
  | (.string bytes, d) => bytes.length + uptoBulk d + 1
  | (_, d) => uptoBulk d + 1
 end
def uptoSmall : (H : Type) → List (DataW H) → Bool := fun _ ds => decide (uptoBulkAll ds ≤ 1048576)
def OpenSpec.upto (s : _root_.Go.ChangeSpec) : _root_.Go.OpenSpec := { _root_.Go.OpenSpec.ofChange s with cond := some uptoSmall }

/-- 'hopperlaw09.LikeParses', WHERE WHAT IT READS IS OF BULK AT MOST 1048576: true; the input reads as it did. -/
def likeParsesUptoRow : OpenClaim := { program := "ytmddkhoibahehaa", sum := "abf7d83bb14c98c462bcfe6864e99c9714acb98e9ee5a81797e349912024b955", func := "hopper/hopperlaw09.LikeParses", spec := "likeParses", apart := false, narrowed := true }
def LikeParsesUptoSaid : Prop := likeParsesUptoRow.holds Try.pinned (OpenSpec.upto likeParsesSpec)

/-- 'hopperlaw09.LikeMatches', WHERE WHAT IT READS IS OF BULK AT MOST 1048576: true; the input reads as it did. -/
def likeMatchesUptoRow : OpenClaim := { program := "ytmddkhoibahehaa", sum := "abf7d83bb14c98c462bcfe6864e99c9714acb98e9ee5a81797e349912024b955", func := "hopper/hopperlaw09.LikeMatches", spec := "likeMatches", apart := false, narrowed := true }
def LikeMatchesUptoSaid : Prop := likeMatchesUptoRow.holds Try.pinned (OpenSpec.upto likeMatchesSpec)

/-- 'hopperlaw09.LikeRuns', WHERE WHAT IT READS IS OF BULK AT MOST 1048576: true; the input reads as it did. -/
def likeRunsUptoRow : OpenClaim := { program := "ytmddkhoibahehaa", sum := "abf7d83bb14c98c462bcfe6864e99c9714acb98e9ee5a81797e349912024b955", func := "hopper/hopperlaw09.LikeRuns", spec := "likeRuns", apart := false, narrowed := true }
def LikeRunsUptoSaid : Prop := likeRunsUptoRow.holds Try.pinned (OpenSpec.upto likeRunsSpec)

/-- 'hopperlaw09.LikeQuotes', WHERE WHAT IT READS IS OF BULK AT MOST 1048576: true; the input reads as it did. -/
def likeQuotesUptoRow : OpenClaim := { program := "ytmddkhoibahehaa", sum := "abf7d83bb14c98c462bcfe6864e99c9714acb98e9ee5a81797e349912024b955", func := "hopper/hopperlaw09.LikeQuotes", spec := "likeQuotes", apart := false, narrowed := true }
def LikeQuotesUptoSaid : Prop := likeQuotesUptoRow.holds Try.pinned (OpenSpec.upto likeQuotesSpec)

/-- 'hopperlaw09.LikeKeeps', WHERE WHAT IT READS IS OF BULK AT MOST 1048576: true; the input reads as it did. -/
def likeKeepsUptoRow : OpenClaim := { program := "ytmddkhoibahehaa", sum := "abf7d83bb14c98c462bcfe6864e99c9714acb98e9ee5a81797e349912024b955", func := "hopper/hopperlaw09.LikeKeeps", spec := "likeKeeps", apart := false, narrowed := true }
def LikeKeepsUptoSaid : Prop := likeKeepsUptoRow.holds Try.pinned (OpenSpec.upto likeKeepsSpec)

/-- 'hopperlaw09.LikeAny', WHERE WHAT IT READS IS OF BULK AT MOST 1048576: true; the input reads as it did. -/
def likeAnyUptoRow : OpenClaim := { program := "ytmddkhoibahehaa", sum := "abf7d83bb14c98c462bcfe6864e99c9714acb98e9ee5a81797e349912024b955", func := "hopper/hopperlaw09.LikeAny", spec := "likeAny", inPlace := ["internal/bytealg.IndexByteString", "internal/bytealg.IndexString"], named := ["internal/bytealg.MaxLen"], apart := false, narrowed := true }
def LikeAnyUptoSaid : Prop := likeAnyUptoRow.holds Try.pinned (OpenSpec.upto likeAnySpec)

/-- 'hopperlaw09.LikeHas', WHERE WHAT IT READS IS OF BULK AT MOST 1048576: true; the input reads as it did. -/
def likeHasUptoRow : OpenClaim := { program := "ytmddkhoibahehaa", sum := "abf7d83bb14c98c462bcfe6864e99c9714acb98e9ee5a81797e349912024b955", func := "hopper/hopperlaw09.LikeHas", spec := "likeHas", inPlace := ["internal/bytealg.IndexByteString", "internal/bytealg.IndexString"], named := ["internal/bytealg.MaxLen"], apart := false, narrowed := true }
def LikeHasUptoSaid : Prop := likeHasUptoRow.holds Try.pinned (OpenSpec.upto likeHasSpec)

end Rows
end Go.Proofs.Ytmddkhoibahehaa
