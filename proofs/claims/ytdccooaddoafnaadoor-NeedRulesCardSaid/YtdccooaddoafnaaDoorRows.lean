/-
  NARROWER THAN 'FOR EVERY INPUT', by the rows' own cells (each row's printed sentence says how): NeedRights: loops, laid · NeedSkip: loops, laid · NeedSkips: loops, laid · NeedRules: loops, laid · NeedKeeps: loops, laid.
  DERIVED. THE GIVEN ROWS OF THIS SEAT. 5 by the template 'for every input the law returns true; each argument reads behind the call as it read before'; 0 by the template 'total and deterministic' (their statements: YtdccooaddoafnaaDoorTotals.lean).
  GIVEN WITH THE SEED: the statements are not yours to turn. If you find one false, say at which input.
  Laid BY PROGRAM, IN A SANDBOX (cutbox-rows.mjs): the forced cells as the released guide's own fill.sh prints them over the translation 44cac82e27bf3910… (all of the seat's roots in one cut). By AI agents, Wed Nov 11 2026. No macro, syntax, notation, axiom, sorry.
-/
import Derived.Test.YtdccooaddoafnaaDoorChecked
import GoSem.PinnedTables
import GoSem.Claim
import GoSem.ClaimJoined
import GoSem.ClaimMapViews
import Derived.JoinedTies
import Derived.KernelRfl
namespace Go.Proofs.YtdccooaddoafnaaDoor
/- THE CELL 'sum', in the pinned program and in every row, IS THE sha256 OF THE DUMP (.gsa) THAT YtdccooaddoafnaaDoorProg.lean LOADS. Nothing in Lean hashes anything: it is a label: what it is worth is what the hold of that sum in a sandbox is worth. -/
noncomputable def Tryd.pinned : Pinned := { name := "ytdccooaddoafnaadoor", sum := "44cac82e27bf391022adad2e13bdeca7db91150142bffac95ee53cd8449e4cf0", checked := Tryd.checked }
namespace Rows
def none {H : Type} : Left H := { results := [], args := [] }

/- WHAT THE LISTED PACKAGE-LEVEL VARIABLES READ AS WHEN THE CALL BEGINS. Each datum BY PROGRAM (the guide's laid-datum.mjs) off the statement by which the dump's own 'gosem.cut.vars' lays the variable. In a bare row this is a premise. The card (YtdccooaddoafnaaDoorCards.lean) ties it to the program's text. -/
def laid_unicode_utf8_acceptRanges {H : Type} : DataW H := .agg [.agg [.lit (.int .u8 128), .lit (.int .u8 191)], .agg [.lit (.int .u8 160), .lit (.int .u8 191)], .agg [.lit (.int .u8 128), .lit (.int .u8 159)], .agg [.lit (.int .u8 144), .lit (.int .u8 191)], .agg [.lit (.int .u8 128), .lit (.int .u8 143)], .agg [.lit (.int .u8 0), .lit (.int .u8 0)], .agg [.lit (.int .u8 0), .lit (.int .u8 0)], .agg [.lit (.int .u8 0), .lit (.int .u8 0)], .agg [.lit (.int .u8 0), .lit (.int .u8 0)], .agg [.lit (.int .u8 0), .lit (.int .u8 0)], .agg [.lit (.int .u8 0), .lit (.int .u8 0)], .agg [.lit (.int .u8 0), .lit (.int .u8 0)], .agg [.lit (.int .u8 0), .lit (.int .u8 0)], .agg [.lit (.int .u8 0), .lit (.int .u8 0)], .agg [.lit (.int .u8 0), .lit (.int .u8 0)], .agg [.lit (.int .u8 0), .lit (.int .u8 0)]]
/-- One of Go's own tables, pinned by name: the form's constant. -/
def laid_unicode_utf8_first : DataW Unit := Go.Pinned.utf8First

/-- 'hopperlaw16.NeedRights': WHATEVER THE INPUT: true; the input reads as it did. -/
def needRightsSpec : ChangeSpec := { name := "needRights", fn := fun _ => fun
  | [d1, d2] => { results := [.lit (.bool true)], args := [d1, d2] }
  | _ => none }
def needRightsRow : OpenClaim := { program := "ytdccooaddoafnaadoor", sum := "44cac82e27bf391022adad2e13bdeca7db91150142bffac95ee53cd8449e4cf0", func := "hopper/hopperlaw16.NeedRights", spec := "needRights", inPlace := ["internal/bytealg.IndexByteString", "internal/bytealg.IndexString"], unfollowed := true, recurses := true, named := ["internal/bytealg.MaxLen", "unicode/utf8.first", "unicode/utf8.acceptRanges"], loops := true, apart := false, laid := [("unicode/utf8.acceptRanges", laid_unicode_utf8_acceptRanges), ("unicode/utf8.first", laid_unicode_utf8_first)] }
def NeedRightsSaid : Prop := needRightsRow.holds Tryd.pinned (OpenSpec.ofChange needRightsSpec)

/-- ITS FALSE NEIGHBOUR: 'it returns false'. Refute it at one input. -/
def needRightsWrong : ChangeSpec := { name := "needRights", fn := fun _ => fun
  | [d1, d2] => { results := [.lit (.bool false)], args := [d1, d2] }
  | _ => none }
def NeedRightsWrongFalsely : Prop := needRightsRow.holds Tryd.pinned (OpenSpec.ofChange needRightsWrong)

/-- 'hopperlaw16.NeedSkip': WHATEVER THE INPUT: true; the input reads as it did. -/
def needSkipSpec : ChangeSpec := { name := "needSkip", fn := fun _ => fun
  | [d1, d2, d3, d4] => { results := [.lit (.bool true)], args := [d1, d2, d3, d4] }
  | _ => none }
def needSkipRow : OpenClaim := { program := "ytdccooaddoafnaadoor", sum := "44cac82e27bf391022adad2e13bdeca7db91150142bffac95ee53cd8449e4cf0", func := "hopper/hopperlaw16.NeedSkip", spec := "needSkip", inPlace := ["internal/bytealg.IndexByteString", "internal/bytealg.IndexString"], unfollowed := true, recurses := true, named := ["internal/bytealg.MaxLen", "unicode/utf8.first", "unicode/utf8.acceptRanges"], loops := true, apart := false, laid := [("unicode/utf8.acceptRanges", laid_unicode_utf8_acceptRanges), ("unicode/utf8.first", laid_unicode_utf8_first)] }
def NeedSkipSaid : Prop := needSkipRow.holds Tryd.pinned (OpenSpec.ofChange needSkipSpec)

/-- ITS FALSE NEIGHBOUR: 'it returns false'. Refute it at one input. -/
def needSkipWrong : ChangeSpec := { name := "needSkip", fn := fun _ => fun
  | [d1, d2, d3, d4] => { results := [.lit (.bool false)], args := [d1, d2, d3, d4] }
  | _ => none }
def NeedSkipWrongFalsely : Prop := needSkipRow.holds Tryd.pinned (OpenSpec.ofChange needSkipWrong)

/-- 'hopperlaw16.NeedSkips': WHATEVER THE INPUT: true; the input reads as it did. -/
def needSkipsSpec : ChangeSpec := { name := "needSkips", fn := fun _ => fun
  | [d1, d2, d3, d4] => { results := [.lit (.bool true)], args := [d1, d2, d3, d4] }
  | _ => none }
def needSkipsRow : OpenClaim := { program := "ytdccooaddoafnaadoor", sum := "44cac82e27bf391022adad2e13bdeca7db91150142bffac95ee53cd8449e4cf0", func := "hopper/hopperlaw16.NeedSkips", spec := "needSkips", inPlace := ["internal/bytealg.IndexByteString", "internal/bytealg.IndexString"], unfollowed := true, recurses := true, named := ["internal/bytealg.MaxLen", "unicode/utf8.first", "unicode/utf8.acceptRanges"], loops := true, apart := false, laid := [("unicode/utf8.acceptRanges", laid_unicode_utf8_acceptRanges), ("unicode/utf8.first", laid_unicode_utf8_first)] }
def NeedSkipsSaid : Prop := needSkipsRow.holds Tryd.pinned (OpenSpec.ofChange needSkipsSpec)

/-- ITS FALSE NEIGHBOUR: 'it returns false'. Refute it at one input. -/
def needSkipsWrong : ChangeSpec := { name := "needSkips", fn := fun _ => fun
  | [d1, d2, d3, d4] => { results := [.lit (.bool false)], args := [d1, d2, d3, d4] }
  | _ => none }
def NeedSkipsWrongFalsely : Prop := needSkipsRow.holds Tryd.pinned (OpenSpec.ofChange needSkipsWrong)

/-- 'hopperlaw16.NeedRules': WHATEVER THE INPUT: true; the input reads as it did. -/
def needRulesSpec : ChangeSpec := { name := "needRules", fn := fun _ => fun
  | [d1, d2, d3] => { results := [.lit (.bool true)], args := [d1, d2, d3] }
  | _ => none }
def needRulesRow : OpenClaim := { program := "ytdccooaddoafnaadoor", sum := "44cac82e27bf391022adad2e13bdeca7db91150142bffac95ee53cd8449e4cf0", func := "hopper/hopperlaw16.NeedRules", spec := "needRules", inPlace := ["internal/bytealg.IndexByteString", "internal/bytealg.IndexString"], unfollowed := true, recurses := true, named := ["internal/bytealg.MaxLen", "unicode/utf8.first", "unicode/utf8.acceptRanges"], loops := true, apart := false, laid := [("unicode/utf8.acceptRanges", laid_unicode_utf8_acceptRanges), ("unicode/utf8.first", laid_unicode_utf8_first)] }
def NeedRulesSaid : Prop := needRulesRow.holds Tryd.pinned (OpenSpec.ofChange needRulesSpec)

/-- ITS FALSE NEIGHBOUR: 'it returns false'. Refute it at one input. -/
def needRulesWrong : ChangeSpec := { name := "needRules", fn := fun _ => fun
  | [d1, d2, d3] => { results := [.lit (.bool false)], args := [d1, d2, d3] }
  | _ => none }
def NeedRulesWrongFalsely : Prop := needRulesRow.holds Tryd.pinned (OpenSpec.ofChange needRulesWrong)

/-- 'hopperlaw16.NeedKeeps': WHATEVER THE INPUT: true; the input reads as it did. -/
def needKeepsSpec : ChangeSpec := { name := "needKeeps", fn := fun _ => fun
  | [d1, d2] => { results := [.lit (.bool true)], args := [d1, d2] }
  | _ => none }
def needKeepsRow : OpenClaim := { program := "ytdccooaddoafnaadoor", sum := "44cac82e27bf391022adad2e13bdeca7db91150142bffac95ee53cd8449e4cf0", func := "hopper/hopperlaw16.NeedKeeps", spec := "needKeeps", inPlace := ["internal/bytealg.IndexByteString", "internal/bytealg.IndexString"], unfollowed := true, recurses := true, named := ["internal/bytealg.MaxLen", "unicode/utf8.first", "unicode/utf8.acceptRanges"], loops := true, apart := false, laid := [("unicode/utf8.acceptRanges", laid_unicode_utf8_acceptRanges), ("unicode/utf8.first", laid_unicode_utf8_first)] }
def NeedKeepsSaid : Prop := needKeepsRow.holds Tryd.pinned (OpenSpec.ofChange needKeepsSpec)

/-- ITS FALSE NEIGHBOUR: 'it returns false'. Refute it at one input. -/
def needKeepsWrong : ChangeSpec := { name := "needKeeps", fn := fun _ => fun
  | [d1, d2] => { results := [.lit (.bool false)], args := [d1, d2] }
  | _ => none }
def NeedKeepsWrongFalsely : Prop := needKeepsRow.holds Tryd.pinned (OpenSpec.ofChange needKeepsWrong)

/- THE SECOND FORM. 'bulk': how many values and letters a reading holds, each counted each time it is reached (what is shared counts as often as it is met; a slice's spare places count too). A statement '..UptoSaid' is the law's where the arguments, and the package variables that the reading takes, are together of bulk at most 1048576: NARROWER than '..Said'. Prove '..Said' where nothing that the law and all that it calls make is longer than what came in: it says more and counts as full. Else prove '..UptoSaid'. A law counts once. -/
mutual
def uptoBulk {H : Type} : DataW H → Nat
  | .lit (.string bytes) => bytes.length + 1
  | .lit _ => 1
  | .nil => 1
  | .ptr d => uptoBulk d + 1
  | .slice elems spare => uptoBulkAll elems + uptoBulkAll spare + 1
  | .agg parts => uptoBulkAll parts + 1
  | .iface _ d => uptoBulk d + 1
  | .map entries => uptoBulkEntries entries + 1
  | .held _ => 1
def uptoBulkAll {H : Type} : List (DataW H) → Nat
  | [] => 0
  | d :: r => uptoBulk d + uptoBulkAll r
def uptoBulkEntries {H : Type} : List (Lit × DataW H) → Nat
  | [] => 0
  | x :: r => uptoBulkEntry x + uptoBulkEntries r
def uptoBulkEntry {H : Type} : Lit × DataW H → Nat
  | (.string bytes, d) => bytes.length + uptoBulk d + 1
  | (_, d) => uptoBulk d + 1
 end
def uptoSmall : (H : Type) → List (DataW H) → Bool := fun _ ds => decide (uptoBulkAll ds ≤ 1048576)
def OpenSpec.upto (s : _root_.Go.ChangeSpec) : _root_.Go.OpenSpec := { _root_.Go.OpenSpec.ofChange s with cond := some uptoSmall }

/-- 'hopperlaw16.NeedRights', WHERE WHAT IT READS IS OF BULK AT MOST 1048576: true; the input reads as it did. -/
def needRightsUptoRow : OpenClaim := { program := "ytdccooaddoafnaadoor", sum := "44cac82e27bf391022adad2e13bdeca7db91150142bffac95ee53cd8449e4cf0", func := "hopper/hopperlaw16.NeedRights", spec := "needRights", inPlace := ["internal/bytealg.IndexByteString", "internal/bytealg.IndexString"], unfollowed := true, recurses := true, named := ["internal/bytealg.MaxLen", "unicode/utf8.first", "unicode/utf8.acceptRanges"], loops := true, apart := false, laid := [("unicode/utf8.acceptRanges", laid_unicode_utf8_acceptRanges), ("unicode/utf8.first", laid_unicode_utf8_first)], narrowed := true }
def NeedRightsUptoSaid : Prop := needRightsUptoRow.holds Tryd.pinned (OpenSpec.upto needRightsSpec)

/-- 'hopperlaw16.NeedSkip', WHERE WHAT IT READS IS OF BULK AT MOST 1048576: true; the input reads as it did. -/
def needSkipUptoRow : OpenClaim := { program := "ytdccooaddoafnaadoor", sum := "44cac82e27bf391022adad2e13bdeca7db91150142bffac95ee53cd8449e4cf0", func := "hopper/hopperlaw16.NeedSkip", spec := "needSkip", inPlace := ["internal/bytealg.IndexByteString", "internal/bytealg.IndexString"], unfollowed := true, recurses := true, named := ["internal/bytealg.MaxLen", "unicode/utf8.first", "unicode/utf8.acceptRanges"], loops := true, apart := false, laid := [("unicode/utf8.acceptRanges", laid_unicode_utf8_acceptRanges), ("unicode/utf8.first", laid_unicode_utf8_first)], narrowed := true }
def NeedSkipUptoSaid : Prop := needSkipUptoRow.holds Tryd.pinned (OpenSpec.upto needSkipSpec)

/-- 'hopperlaw16.NeedSkips', WHERE WHAT IT READS IS OF BULK AT MOST 1048576: true; the input reads as it did. -/
def needSkipsUptoRow : OpenClaim := { program := "ytdccooaddoafnaadoor", sum := "44cac82e27bf391022adad2e13bdeca7db91150142bffac95ee53cd8449e4cf0", func := "hopper/hopperlaw16.NeedSkips", spec := "needSkips", inPlace := ["internal/bytealg.IndexByteString", "internal/bytealg.IndexString"], unfollowed := true, recurses := true, named := ["internal/bytealg.MaxLen", "unicode/utf8.first", "unicode/utf8.acceptRanges"], loops := true, apart := false, laid := [("unicode/utf8.acceptRanges", laid_unicode_utf8_acceptRanges), ("unicode/utf8.first", laid_unicode_utf8_first)], narrowed := true }
def NeedSkipsUptoSaid : Prop := needSkipsUptoRow.holds Tryd.pinned (OpenSpec.upto needSkipsSpec)

/-- 'hopperlaw16.NeedRules', WHERE WHAT IT READS IS OF BULK AT MOST 1048576: true; the input reads as it did. -/
def needRulesUptoRow : OpenClaim := { program := "ytdccooaddoafnaadoor", sum := "44cac82e27bf391022adad2e13bdeca7db91150142bffac95ee53cd8449e4cf0", func := "hopper/hopperlaw16.NeedRules", spec := "needRules", inPlace := ["internal/bytealg.IndexByteString", "internal/bytealg.IndexString"], unfollowed := true, recurses := true, named := ["internal/bytealg.MaxLen", "unicode/utf8.first", "unicode/utf8.acceptRanges"], loops := true, apart := false, laid := [("unicode/utf8.acceptRanges", laid_unicode_utf8_acceptRanges), ("unicode/utf8.first", laid_unicode_utf8_first)], narrowed := true }
def NeedRulesUptoSaid : Prop := needRulesUptoRow.holds Tryd.pinned (OpenSpec.upto needRulesSpec)

/-- 'hopperlaw16.NeedKeeps', WHERE WHAT IT READS IS OF BULK AT MOST 1048576: true; the input reads as it did. -/
def needKeepsUptoRow : OpenClaim := { program := "ytdccooaddoafnaadoor", sum := "44cac82e27bf391022adad2e13bdeca7db91150142bffac95ee53cd8449e4cf0", func := "hopper/hopperlaw16.NeedKeeps", spec := "needKeeps", inPlace := ["internal/bytealg.IndexByteString", "internal/bytealg.IndexString"], unfollowed := true, recurses := true, named := ["internal/bytealg.MaxLen", "unicode/utf8.first", "unicode/utf8.acceptRanges"], loops := true, apart := false, laid := [("unicode/utf8.acceptRanges", laid_unicode_utf8_acceptRanges), ("unicode/utf8.first", laid_unicode_utf8_first)], narrowed := true }
def NeedKeepsUptoSaid : Prop := needKeepsUptoRow.holds Tryd.pinned (OpenSpec.upto needKeepsSpec)

end Rows
end Go.Proofs.YtdccooaddoafnaaDoor
