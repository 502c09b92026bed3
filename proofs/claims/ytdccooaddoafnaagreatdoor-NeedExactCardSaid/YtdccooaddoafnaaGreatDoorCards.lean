/-
  DERIVED. GIVEN WITH THE SEED: THE CARDS: each row of YtdccooaddoafnaaGreatDoorRows.lean that lists a variable, with what it lists TIED to the program's text (the seventh form; the later family's looks); each row that meets fmt, with fmt's text TOLD by the authors' own Lean function (tested against real Go, not proved from fmt's source: count such statements apart). THE CARD IS WHAT COUNTS. Prove the row's statement (the work); the ties are given (YtdccooaddoafnaaGreatDoorTie.lean); close each card by the builder's one call (the guide's Derived/Test/ToyasCard.lean, 'card_holds'). Laid BY PROGRAM, IN A SANDBOX (cutbox-door.mjs). By AI agents, Wed Nov 11 2026. No macro, syntax, notation, axiom, sorry.
-/
import Derived.Test.YtdccooaddoafnaaGreatDoorRows
import GoSem.ClaimSeven
namespace Go.Proofs.YtdccooaddoafnaaGreatDoor
namespace Rows

/-- THE TIED CARD OF 'hopperlaw16.NeedSays'. -/
def needSaysCard : Claim7 := { stood := { row := needSaysRow, standIns := [], harness := (true, "c6f314c80dff7db3b5a8b3b0e220ef7cefd2bb6c170c4d6dee22a325650582e5"), looks := false }, kinds := [], alts := [], laidByText := true, laidKinds := [.data, .pinned], laidTests := true, laidLooks := .later }
def NeedSaysCardSaid : Prop := Claim7.holds Tryz.pinned (.plain (OpenSpec.ofChange needSaysSpec)) needSaysCard

/-- THE TIED CARD OF 'hopperlaw16.NeedExact'. -/
def needExactCard : Claim7 := { stood := { row := needExactRow, standIns := [], harness := (true, "c6f314c80dff7db3b5a8b3b0e220ef7cefd2bb6c170c4d6dee22a325650582e5"), looks := false }, kinds := [], alts := [], laidByText := true, laidKinds := [.data, .pinned], laidTests := true, laidLooks := .later }
def NeedExactCardSaid : Prop := Claim7.holds Tryz.pinned (.plain (OpenSpec.ofChange needExactSpec)) needExactCard

/-- THE SECOND FORM's CARD OF 'hopperlaw16.NeedSays'. -/
def needSaysUptoCard : Claim7 := { stood := { row := needSaysUptoRow, standIns := [], harness := (true, "c6f314c80dff7db3b5a8b3b0e220ef7cefd2bb6c170c4d6dee22a325650582e5"), looks := false }, kinds := [], alts := [], laidByText := true, laidKinds := [.data, .pinned], laidTests := true, laidLooks := .later }
def NeedSaysUptoCardSaid : Prop := Claim7.holds Tryz.pinned (.plain (OpenSpec.upto needSaysSpec)) needSaysUptoCard

/-- THE SECOND FORM's CARD OF 'hopperlaw16.NeedExact'. -/
def needExactUptoCard : Claim7 := { stood := { row := needExactUptoRow, standIns := [], harness := (true, "c6f314c80dff7db3b5a8b3b0e220ef7cefd2bb6c170c4d6dee22a325650582e5"), looks := false }, kinds := [], alts := [], laidByText := true, laidKinds := [.data, .pinned], laidTests := true, laidLooks := .later }
def NeedExactUptoCardSaid : Prop := Claim7.holds Tryz.pinned (.plain (OpenSpec.upto needExactSpec)) needExactUptoCard
end Rows
end Go.Proofs.YtdccooaddoafnaaGreatDoor
