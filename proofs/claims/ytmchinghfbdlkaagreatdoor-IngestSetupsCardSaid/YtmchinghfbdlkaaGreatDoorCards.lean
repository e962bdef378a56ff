/-
  DERIVED. GIVEN WITH THE SEED: THE CARDS: each row of YtmchinghfbdlkaaGreatDoorRows.lean that lists a variable, with what it lists TIED to the program's text (the seventh form; the later family's looks); each row that meets fmt, with fmt's text TOLD by the authors' own Lean function (tested against real Go, not proved from fmt's source: count such statements apart). THE CARD IS WHAT COUNTS. Prove the row's statement (the work); the ties are given (YtmchinghfbdlkaaGreatDoorTie.lean); close each card by the builder's one call (the guide's Derived/Test/ToyasCard.lean, 'card_holds'). Laid BY PROGRAM, IN A SANDBOX (cutbox-door.mjs). By AI agents, Wed Nov 11 2026. No macro, syntax, notation, axiom, sorry.
-/
import Derived.Test.YtmchinghfbdlkaaGreatDoorRows
import GoSem.ClaimSeven
namespace Go.Proofs.YtmchinghfbdlkaaGreatDoor
namespace Rows

/-- THE TIED CARD OF 'fareboxlaw16.IngestSetups'. -/
def ingestSetupsCard : Claim7 := { stood := { row := ingestSetupsRow, standIns := [], harness := (true, "dcf4e2e1509c14c87de702d4f9c57fee7071a70de2993f95d3c7968e1218ddf6"), looks := true }, kinds := [], alts := [], laidByText := true, laidKinds := [.data, .data, .handle, .data, .data, .data], laidTests := true, laidLooks := .later }
def IngestSetupsCardSaid : Prop := Claim7.holds Tryz.pinned (.plain (OpenSpec.ofChange ingestSetupsSpec)) ingestSetupsCard

/-- THE SECOND FORM's CARD OF 'fareboxlaw16.IngestSetups'. -/
def ingestSetupsUptoCard : Claim7 := { stood := { row := ingestSetupsUptoRow, standIns := [], harness := (true, "dcf4e2e1509c14c87de702d4f9c57fee7071a70de2993f95d3c7968e1218ddf6"), looks := true }, kinds := [], alts := [], laidByText := true, laidKinds := [.data, .data, .handle, .data, .data, .data], laidTests := true, laidLooks := .later }
def IngestSetupsUptoCardSaid : Prop := Claim7.holds Tryz.pinned (.plain (OpenSpec.upto ingestSetupsSpec)) ingestSetupsUptoCard
end Rows
end Go.Proofs.YtmchinghfbdlkaaGreatDoor
