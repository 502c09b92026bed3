/-
  DERIVED. GIVEN WITH THE SEED: THE CARDS: each row of YtbgilalhjeodaaaDoorRows.lean that lists a variable, with what it lists TIED to the program's text (the seventh form; the later family's looks); each row that meets fmt, with fmt's text TOLD by the authors' own Lean function (tested against real Go, not proved from fmt's source: count such statements apart). THE CARD IS WHAT COUNTS. Prove the row's statement (the work); the ties are given (YtbgilalhjeodaaaDoorTie.lean); close each card by the builder's one call (the guide's Derived/Test/ToyasCard.lean, 'card_holds'). Laid BY PROGRAM, IN A SANDBOX (cutbox-door.mjs). By AI agents, Wed Nov 11 2026. No macro, syntax, notation, axiom, sorry.
-/
import Derived.Test.YtbgilalhjeodaaaDoorRows
import GoSem.ClaimSeven
namespace Go.Proofs.YtbgilalhjeodaaaDoor
namespace Rows

/-- THE TIED CARD OF 'hopperlaw08.TextPoints'. -/
def textPointsCard : Claim7 := { stood := { row := textPointsRow, standIns := [], harness := (true, "ff9f7eaf25f4e064b46015a5ac5650022b378abd8ebefcc37025eedf327f4dc2"), looks := false }, kinds := [], alts := [], laidByText := true, laidKinds := [.data, .pinned], laidTests := true, laidLooks := .later }
def TextPointsCardSaid : Prop := Claim7.holds Tryd.pinned (.plain (OpenSpec.ofChange textPointsSpec)) textPointsCard

/-- THE TIED CARD OF 'hopperlaw08.TextSubs'. -/
def textSubsCard : Claim7 := { stood := { row := textSubsRow, standIns := [], harness := (true, "ff9f7eaf25f4e064b46015a5ac5650022b378abd8ebefcc37025eedf327f4dc2"), looks := false }, kinds := [], alts := [], laidByText := true, laidKinds := [.data, .pinned], laidTests := true, laidLooks := .later }
def TextSubsCardSaid : Prop := Claim7.holds Tryd.pinned (.plain (OpenSpec.ofChange textSubsSpec)) textSubsCard

/-- THE TIED CARD OF 'hopperlaw08.TextFolds'. -/
def textFoldsCard : Claim7 := { stood := { row := textFoldsRow, standIns := [], harness := (true, "ff9f7eaf25f4e064b46015a5ac5650022b378abd8ebefcc37025eedf327f4dc2"), looks := false }, kinds := [], alts := [], laidByText := true, laidKinds := [.data, .pinned], laidTests := true, laidLooks := .later }
def TextFoldsCardSaid : Prop := Claim7.holds Tryd.pinned (.plain (OpenSpec.ofChange textFoldsSpec)) textFoldsCard

/-- THE TIED CARD OF 'hopperlaw08.TextParts'. -/
def textPartsCard : Claim7 := { stood := { row := textPartsRow, standIns := [], harness := (true, "ff9f7eaf25f4e064b46015a5ac5650022b378abd8ebefcc37025eedf327f4dc2"), looks := false }, kinds := [], alts := [], laidByText := true, laidKinds := [.data, .pinned], laidTests := true, laidLooks := .later }
def TextPartsCardSaid : Prop := Claim7.holds Tryd.pinned (.plain (OpenSpec.ofChange textPartsSpec)) textPartsCard

/-- THE TIED CARD OF 'hopperlaw08.TextOrder'. -/
def textOrderCard : Claim7 := { stood := { row := textOrderRow, standIns := [], harness := (true, "ff9f7eaf25f4e064b46015a5ac5650022b378abd8ebefcc37025eedf327f4dc2"), looks := false }, kinds := [], alts := [], laidByText := true, laidKinds := [.data, .pinned], laidTests := true, laidLooks := .later }
def TextOrderCardSaid : Prop := Claim7.holds Tryd.pinned (.plain (OpenSpec.ofChange textOrderSpec)) textOrderCard

/-- THE TIED CARD OF 'hopperlaw08.TextKeeps'. -/
def textKeepsCard : Claim7 := { stood := { row := textKeepsRow, standIns := [], harness := (true, "ff9f7eaf25f4e064b46015a5ac5650022b378abd8ebefcc37025eedf327f4dc2"), looks := false }, kinds := [], alts := [], laidByText := true, laidKinds := [.data, .pinned], laidTests := true, laidLooks := .later }
def TextKeepsCardSaid : Prop := Claim7.holds Tryd.pinned (.plain (OpenSpec.ofChange textKeepsSpec)) textKeepsCard

/-- THE SECOND FORM's CARD OF 'hopperlaw08.TextPoints'. -/
def textPointsUptoCard : Claim7 := { stood := { row := textPointsUptoRow, standIns := [], harness := (true, "ff9f7eaf25f4e064b46015a5ac5650022b378abd8ebefcc37025eedf327f4dc2"), looks := false }, kinds := [], alts := [], laidByText := true, laidKinds := [.data, .pinned], laidTests := true, laidLooks := .later }
def TextPointsUptoCardSaid : Prop := Claim7.holds Tryd.pinned (.plain (OpenSpec.upto textPointsSpec)) textPointsUptoCard

/-- THE SECOND FORM's CARD OF 'hopperlaw08.TextSubs'. -/
def textSubsUptoCard : Claim7 := { stood := { row := textSubsUptoRow, standIns := [], harness := (true, "ff9f7eaf25f4e064b46015a5ac5650022b378abd8ebefcc37025eedf327f4dc2"), looks := false }, kinds := [], alts := [], laidByText := true, laidKinds := [.data, .pinned], laidTests := true, laidLooks := .later }
def TextSubsUptoCardSaid : Prop := Claim7.holds Tryd.pinned (.plain (OpenSpec.upto textSubsSpec)) textSubsUptoCard

/-- THE SECOND FORM's CARD OF 'hopperlaw08.TextFolds'. -/
def textFoldsUptoCard : Claim7 := { stood := { row := textFoldsUptoRow, standIns := [], harness := (true, "ff9f7eaf25f4e064b46015a5ac5650022b378abd8ebefcc37025eedf327f4dc2"), looks := false }, kinds := [], alts := [], laidByText := true, laidKinds := [.data, .pinned], laidTests := true, laidLooks := .later }
def TextFoldsUptoCardSaid : Prop := Claim7.holds Tryd.pinned (.plain (OpenSpec.upto textFoldsSpec)) textFoldsUptoCard

/-- THE SECOND FORM's CARD OF 'hopperlaw08.TextParts'. -/
def textPartsUptoCard : Claim7 := { stood := { row := textPartsUptoRow, standIns := [], harness := (true, "ff9f7eaf25f4e064b46015a5ac5650022b378abd8ebefcc37025eedf327f4dc2"), looks := false }, kinds := [], alts := [], laidByText := true, laidKinds := [.data, .pinned], laidTests := true, laidLooks := .later }
def TextPartsUptoCardSaid : Prop := Claim7.holds Tryd.pinned (.plain (OpenSpec.upto textPartsSpec)) textPartsUptoCard

/-- THE SECOND FORM's CARD OF 'hopperlaw08.TextOrder'. -/
def textOrderUptoCard : Claim7 := { stood := { row := textOrderUptoRow, standIns := [], harness := (true, "ff9f7eaf25f4e064b46015a5ac5650022b378abd8ebefcc37025eedf327f4dc2"), looks := false }, kinds := [], alts := [], laidByText := true, laidKinds := [.data, .pinned], laidTests := true, laidLooks := .later }
def TextOrderUptoCardSaid : Prop := Claim7.holds Tryd.pinned (.plain (OpenSpec.upto textOrderSpec)) textOrderUptoCard

/-- THE SECOND FORM's CARD OF 'hopperlaw08.TextKeeps'. -/
def textKeepsUptoCard : Claim7 := { stood := { row := textKeepsUptoRow, standIns := [], harness := (true, "ff9f7eaf25f4e064b46015a5ac5650022b378abd8ebefcc37025eedf327f4dc2"), looks := false }, kinds := [], alts := [], laidByText := true, laidKinds := [.data, .pinned], laidTests := true, laidLooks := .later }
def TextKeepsUptoCardSaid : Prop := Claim7.holds Tryd.pinned (.plain (OpenSpec.upto textKeepsSpec)) textKeepsUptoCard
end Rows
end Go.Proofs.YtbgilalhjeodaaaDoor
