/-
  DERIVED. GIVEN WITH THE SEED: THE CARDS: each row of YtdojgfkcpaeacaaDoorRows.lean that lists a variable, with what it lists TIED to the program's text (the seventh form; the later family's looks); each row that meets fmt, with fmt's text TOLD by the authors' own Lean function (tested against real Go, not proved from fmt's source: count such statements apart). THE CARD IS WHAT COUNTS. Prove the row's statement (the work); the ties are given (YtdojgfkcpaeacaaDoorTie.lean); close each card by the builder's one call (the guide's Derived/Test/ToyasCard.lean, 'card_holds'). Laid BY PROGRAM, IN A SANDBOX (cutbox-door.mjs). By AI agents, Wed Nov 11 2026. No macro, syntax, notation, axiom, sorry.
-/
import Derived.Test.YtdojgfkcpaeacaaDoorRows
import GoSem.ClaimSeven
namespace Go.Proofs.YtdojgfkcpaeacaaDoor
namespace Rows

/-- THE TIED CARD OF 'hopperlaw24.OrderRows'. -/
def orderRowsCard : Claim7 := { stood := { row := orderRowsRow, standIns := [], harness := (true, "6b70e2ba7ef6ad2f748fd55fd4b3e7535d462199ed66112d832c4eab3507afc4"), looks := false }, kinds := [], alts := [], laidByText := true, laidKinds := [.data, .pinned], laidTests := true, laidLooks := .later }
def OrderRowsCardSaid : Prop := Claim7.holds Tryd.pinned (.plain (OpenSpec.ofChange orderRowsSpec)) orderRowsCard

/-- THE TIED CARD OF 'hopperlaw24.OrderRights'. -/
def orderRightsCard : Claim7 := { stood := { row := orderRightsRow, standIns := [], harness := (true, "6b70e2ba7ef6ad2f748fd55fd4b3e7535d462199ed66112d832c4eab3507afc4"), looks := false }, kinds := [], alts := [], laidByText := true, laidKinds := [.data, .pinned], laidTests := true, laidLooks := .later }
def OrderRightsCardSaid : Prop := Claim7.holds Tryd.pinned (.plain (OpenSpec.ofChange orderRightsSpec)) orderRightsCard

/-- THE TIED CARD OF 'hopperlaw24.OrderCuts'. -/
def orderCutsCard : Claim7 := { stood := { row := orderCutsRow, standIns := [], harness := (true, "6b70e2ba7ef6ad2f748fd55fd4b3e7535d462199ed66112d832c4eab3507afc4"), looks := false }, kinds := [], alts := [], laidByText := true, laidKinds := [.data, .pinned], laidTests := true, laidLooks := .later }
def OrderCutsCardSaid : Prop := Claim7.holds Tryd.pinned (.plain (OpenSpec.ofChange orderCutsSpec)) orderCutsCard

/-- THE TIED CARD OF 'hopperlaw24.OrderStable'. -/
def orderStableCard : Claim7 := { stood := { row := orderStableRow, standIns := [], harness := (true, "6b70e2ba7ef6ad2f748fd55fd4b3e7535d462199ed66112d832c4eab3507afc4"), looks := false }, kinds := [], alts := [], laidByText := true, laidKinds := [.data, .pinned], laidTests := true, laidLooks := .later }
def OrderStableCardSaid : Prop := Claim7.holds Tryd.pinned (.plain (OpenSpec.ofChange orderStableSpec)) orderStableCard

/-- THE TIED CARD OF 'hopperlaw24.OrderTurns'. -/
def orderTurnsCard : Claim7 := { stood := { row := orderTurnsRow, standIns := [], harness := (true, "6b70e2ba7ef6ad2f748fd55fd4b3e7535d462199ed66112d832c4eab3507afc4"), looks := false }, kinds := [], alts := [], laidByText := true, laidKinds := [.data, .pinned], laidTests := true, laidLooks := .later }
def OrderTurnsCardSaid : Prop := Claim7.holds Tryd.pinned (.plain (OpenSpec.ofChange orderTurnsSpec)) orderTurnsCard

/-- THE TIED CARD OF 'hopperlaw24.OrderKeeps'. -/
def orderKeepsCard : Claim7 := { stood := { row := orderKeepsRow, standIns := [], harness := (true, "6b70e2ba7ef6ad2f748fd55fd4b3e7535d462199ed66112d832c4eab3507afc4"), looks := false }, kinds := [], alts := [], laidByText := true, laidKinds := [.data, .pinned], laidTests := true, laidLooks := .later }
def OrderKeepsCardSaid : Prop := Claim7.holds Tryd.pinned (.plain (OpenSpec.ofChange orderKeepsSpec)) orderKeepsCard

/-- THE SECOND FORM's CARD OF 'hopperlaw24.OrderRows'. -/
def orderRowsUptoCard : Claim7 := { stood := { row := orderRowsUptoRow, standIns := [], harness := (true, "6b70e2ba7ef6ad2f748fd55fd4b3e7535d462199ed66112d832c4eab3507afc4"), looks := false }, kinds := [], alts := [], laidByText := true, laidKinds := [.data, .pinned], laidTests := true, laidLooks := .later }
def OrderRowsUptoCardSaid : Prop := Claim7.holds Tryd.pinned (.plain (OpenSpec.upto orderRowsSpec)) orderRowsUptoCard

/-- THE SECOND FORM's CARD OF 'hopperlaw24.OrderRights'. -/
def orderRightsUptoCard : Claim7 := { stood := { row := orderRightsUptoRow, standIns := [], harness := (true, "6b70e2ba7ef6ad2f748fd55fd4b3e7535d462199ed66112d832c4eab3507afc4"), looks := false }, kinds := [], alts := [], laidByText := true, laidKinds := [.data, .pinned], laidTests := true, laidLooks := .later }
def OrderRightsUptoCardSaid : Prop := Claim7.holds Tryd.pinned (.plain (OpenSpec.upto orderRightsSpec)) orderRightsUptoCard

/-- THE SECOND FORM's CARD OF 'hopperlaw24.OrderCuts'. -/
def orderCutsUptoCard : Claim7 := { stood := { row := orderCutsUptoRow, standIns := [], harness := (true, "6b70e2ba7ef6ad2f748fd55fd4b3e7535d462199ed66112d832c4eab3507afc4"), looks := false }, kinds := [], alts := [], laidByText := true, laidKinds := [.data, .pinned], laidTests := true, laidLooks := .later }
def OrderCutsUptoCardSaid : Prop := Claim7.holds Tryd.pinned (.plain (OpenSpec.upto orderCutsSpec)) orderCutsUptoCard

/-- THE SECOND FORM's CARD OF 'hopperlaw24.OrderStable'. -/
def orderStableUptoCard : Claim7 := { stood := { row := orderStableUptoRow, standIns := [], harness := (true, "6b70e2ba7ef6ad2f748fd55fd4b3e7535d462199ed66112d832c4eab3507afc4"), looks := false }, kinds := [], alts := [], laidByText := true, laidKinds := [.data, .pinned], laidTests := true, laidLooks := .later }
def OrderStableUptoCardSaid : Prop := Claim7.holds Tryd.pinned (.plain (OpenSpec.upto orderStableSpec)) orderStableUptoCard

/-- THE SECOND FORM's CARD OF 'hopperlaw24.OrderTurns'. -/
def orderTurnsUptoCard : Claim7 := { stood := { row := orderTurnsUptoRow, standIns := [], harness := (true, "6b70e2ba7ef6ad2f748fd55fd4b3e7535d462199ed66112d832c4eab3507afc4"), looks := false }, kinds := [], alts := [], laidByText := true, laidKinds := [.data, .pinned], laidTests := true, laidLooks := .later }
def OrderTurnsUptoCardSaid : Prop := Claim7.holds Tryd.pinned (.plain (OpenSpec.upto orderTurnsSpec)) orderTurnsUptoCard

/-- THE SECOND FORM's CARD OF 'hopperlaw24.OrderKeeps'. -/
def orderKeepsUptoCard : Claim7 := { stood := { row := orderKeepsUptoRow, standIns := [], harness := (true, "6b70e2ba7ef6ad2f748fd55fd4b3e7535d462199ed66112d832c4eab3507afc4"), looks := false }, kinds := [], alts := [], laidByText := true, laidKinds := [.data, .pinned], laidTests := true, laidLooks := .later }
def OrderKeepsUptoCardSaid : Prop := Claim7.holds Tryd.pinned (.plain (OpenSpec.upto orderKeepsSpec)) orderKeepsUptoCard
end Rows
end Go.Proofs.YtdojgfkcpaeacaaDoor
