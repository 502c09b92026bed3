/-
  DERIVED. GIVEN WITH THE SEED: THE CARDS: each row of YtdccooaddoafnaaDoorRows.lean that lists a variable, with what it lists TIED to the program's text (the seventh form; the later family's looks); each row that meets fmt, with fmt's text TOLD by the authors' own Lean function (tested against real Go, not proved from fmt's source: count such statements apart). THE CARD IS WHAT COUNTS. Prove the row's statement (the work); the ties are given (YtdccooaddoafnaaDoorTie.lean); close each card by the builder's one call (the guide's Derived/Test/ToyasCard.lean, 'card_holds'). Laid BY PROGRAM, IN A SANDBOX (cutbox-door.mjs). By AI agents, Wed Nov 11 2026. No macro, syntax, notation, axiom, sorry.
-/
import Derived.Test.YtdccooaddoafnaaDoorRows
import GoSem.ClaimSeven
namespace Go.Proofs.YtdccooaddoafnaaDoor
namespace Rows

/-- THE TIED CARD OF 'hopperlaw16.NeedRights'. -/
def needRightsCard : Claim7 := { stood := { row := needRightsRow, standIns := [], harness := (true, "8b18673966a7c27c65dab4bb93bbca289d89e1387d4b522b39e7b7ae50096a65"), looks := false }, kinds := [], alts := [], laidByText := true, laidKinds := [.data, .pinned], laidTests := true, laidLooks := .later }
def NeedRightsCardSaid : Prop := Claim7.holds Tryd.pinned (.plain (OpenSpec.ofChange needRightsSpec)) needRightsCard

/-- THE TIED CARD OF 'hopperlaw16.NeedSkip'. -/
def needSkipCard : Claim7 := { stood := { row := needSkipRow, standIns := [], harness := (true, "8b18673966a7c27c65dab4bb93bbca289d89e1387d4b522b39e7b7ae50096a65"), looks := false }, kinds := [], alts := [], laidByText := true, laidKinds := [.data, .pinned], laidTests := true, laidLooks := .later }
def NeedSkipCardSaid : Prop := Claim7.holds Tryd.pinned (.plain (OpenSpec.ofChange needSkipSpec)) needSkipCard

/-- THE TIED CARD OF 'hopperlaw16.NeedSkips'. -/
def needSkipsCard : Claim7 := { stood := { row := needSkipsRow, standIns := [], harness := (true, "8b18673966a7c27c65dab4bb93bbca289d89e1387d4b522b39e7b7ae50096a65"), looks := false }, kinds := [], alts := [], laidByText := true, laidKinds := [.data, .pinned], laidTests := true, laidLooks := .later }
def NeedSkipsCardSaid : Prop := Claim7.holds Tryd.pinned (.plain (OpenSpec.ofChange needSkipsSpec)) needSkipsCard

/-- THE TIED CARD OF 'hopperlaw16.NeedRules'. -/
def needRulesCard : Claim7 := { stood := { row := needRulesRow, standIns := [], harness := (true, "8b18673966a7c27c65dab4bb93bbca289d89e1387d4b522b39e7b7ae50096a65"), looks := false }, kinds := [], alts := [], laidByText := true, laidKinds := [.data, .pinned], laidTests := true, laidLooks := .later }
def NeedRulesCardSaid : Prop := Claim7.holds Tryd.pinned (.plain (OpenSpec.ofChange needRulesSpec)) needRulesCard

/-- THE TIED CARD OF 'hopperlaw16.NeedKeeps'. -/
def needKeepsCard : Claim7 := { stood := { row := needKeepsRow, standIns := [], harness := (true, "8b18673966a7c27c65dab4bb93bbca289d89e1387d4b522b39e7b7ae50096a65"), looks := false }, kinds := [], alts := [], laidByText := true, laidKinds := [.data, .pinned], laidTests := true, laidLooks := .later }
def NeedKeepsCardSaid : Prop := Claim7.holds Tryd.pinned (.plain (OpenSpec.ofChange needKeepsSpec)) needKeepsCard

/-- THE SECOND FORM's CARD OF 'hopperlaw16.NeedRights'. -/
def needRightsUptoCard : Claim7 := { stood := { row := needRightsUptoRow, standIns := [], harness := (true, "8b18673966a7c27c65dab4bb93bbca289d89e1387d4b522b39e7b7ae50096a65"), looks := false }, kinds := [], alts := [], laidByText := true, laidKinds := [.data, .pinned], laidTests := true, laidLooks := .later }
def NeedRightsUptoCardSaid : Prop := Claim7.holds Tryd.pinned (.plain (OpenSpec.upto needRightsSpec)) needRightsUptoCard

/-- THE SECOND FORM's CARD OF 'hopperlaw16.NeedSkip'. -/
def needSkipUptoCard : Claim7 := { stood := { row := needSkipUptoRow, standIns := [], harness := (true, "8b18673966a7c27c65dab4bb93bbca289d89e1387d4b522b39e7b7ae50096a65"), looks := false }, kinds := [], alts := [], laidByText := true, laidKinds := [.data, .pinned], laidTests := true, laidLooks := .later }
def NeedSkipUptoCardSaid : Prop := Claim7.holds Tryd.pinned (.plain (OpenSpec.upto needSkipSpec)) needSkipUptoCard

/-- THE SECOND FORM's CARD OF 'hopperlaw16.NeedSkips'. -/
def needSkipsUptoCard : Claim7 := { stood := { row := needSkipsUptoRow, standIns := [], harness := (true, "8b18673966a7c27c65dab4bb93bbca289d89e1387d4b522b39e7b7ae50096a65"), looks := false }, kinds := [], alts := [], laidByText := true, laidKinds := [.data, .pinned], laidTests := true, laidLooks := .later }
def NeedSkipsUptoCardSaid : Prop := Claim7.holds Tryd.pinned (.plain (OpenSpec.upto needSkipsSpec)) needSkipsUptoCard

/-- THE SECOND FORM's CARD OF 'hopperlaw16.NeedRules'. -/
def needRulesUptoCard : Claim7 := { stood := { row := needRulesUptoRow, standIns := [], harness := (true, "8b18673966a7c27c65dab4bb93bbca289d89e1387d4b522b39e7b7ae50096a65"), looks := false }, kinds := [], alts := [], laidByText := true, laidKinds := [.data, .pinned], laidTests := true, laidLooks := .later }
def NeedRulesUptoCardSaid : Prop := Claim7.holds Tryd.pinned (.plain (OpenSpec.upto needRulesSpec)) needRulesUptoCard

/-- THE SECOND FORM's CARD OF 'hopperlaw16.NeedKeeps'. -/
def needKeepsUptoCard : Claim7 := { stood := { row := needKeepsUptoRow, standIns := [], harness := (true, "8b18673966a7c27c65dab4bb93bbca289d89e1387d4b522b39e7b7ae50096a65"), looks := false }, kinds := [], alts := [], laidByText := true, laidKinds := [.data, .pinned], laidTests := true, laidLooks := .later }
def NeedKeepsUptoCardSaid : Prop := Claim7.holds Tryd.pinned (.plain (OpenSpec.upto needKeepsSpec)) needKeepsUptoCard
end Rows
end Go.Proofs.YtdccooaddoafnaaDoor
