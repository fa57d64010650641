/-
  DERIVED. GIVEN WITH THE SEED: THE CARDS: each row of YtlljflmbnbjccaaGreatDoorRows.lean that lists a variable, with what it lists TIED to the program's text (the seventh form; the later family's looks); each row that meets fmt, with fmt's text TOLD by the authors' own Lean function (tested against real Go, not proved from fmt's source: count such statements apart). THE CARD IS WHAT COUNTS. Prove the row's statement (the work); the ties are given (YtlljflmbnbjccaaGreatDoorTie.lean); close each card by the builder's one call (the guide's Derived/Test/ToyasCard.lean, 'card_holds'). Laid BY PROGRAM, IN A SANDBOX (cutbox-door.mjs). By AI agents, Wed Nov 11 2026. No macro, syntax, notation, axiom, sorry.
-/
import Derived.Test.YtlljflmbnbjccaaGreatDoorRows
import GoSem.ClaimSeven
namespace Go.Proofs.YtlljflmbnbjccaaGreatDoor
namespace Rows

/-- THE TIED CARD OF 'laws.FnSheets'. -/
def fnSheetsCard : Claim7 := { stood := { row := fnSheetsRow, standIns := [], harness := (true, "631656ee95dd1fa2c77ca2fb976882a1a8b52222264f785539abb14c8da5162d"), looks := true }, kinds := [], alts := [], laidByText := true, laidKinds := [.data, .data, .data, .data, .sentinel, .sentinel, .pinned], laidTests := true, laidLooks := .later }
def FnSheetsCardSaid : Prop := Claim7.holds Tryz.pinned (.plain (OpenSpec.ofChange fnSheetsSpec)) fnSheetsCard

/-- THE SECOND FORM's CARD OF 'laws.FnSheets'. -/
def fnSheetsUptoCard : Claim7 := { stood := { row := fnSheetsUptoRow, standIns := [], harness := (true, "631656ee95dd1fa2c77ca2fb976882a1a8b52222264f785539abb14c8da5162d"), looks := true }, kinds := [], alts := [], laidByText := true, laidKinds := [.data, .data, .data, .data, .sentinel, .sentinel, .pinned], laidTests := true, laidLooks := .later }
def FnSheetsUptoCardSaid : Prop := Claim7.holds Tryz.pinned (.plain (OpenSpec.upto fnSheetsSpec)) fnSheetsUptoCard
end Rows
end Go.Proofs.YtlljflmbnbjccaaGreatDoor
