/-
  DERIVED. GIVEN WITH THE SEED: THE CARDS: each row of YtjpegplpgihmdaaGreatDoorRows.lean that lists a variable, with what it lists TIED to the program's text (the seventh form; the later family's looks); each row that meets fmt, with fmt's text TOLD by the authors' own Lean function (tested against real Go, not proved from fmt's source: count such statements apart). THE CARD IS WHAT COUNTS. Prove the row's statement (the work); the ties are given (YtjpegplpgihmdaaGreatDoorTie.lean); close each card by the builder's one call (the guide's Derived/Test/ToyasCard.lean, 'card_holds'). Laid BY PROGRAM, IN A SANDBOX (cutbox-door.mjs). By AI agents, Wed Nov 11 2026. No macro, syntax, notation, axiom, sorry.
-/
import Derived.Test.YtjpegplpgihmdaaGreatDoorRows
import GoSem.ClaimSeven
namespace Go.Proofs.YtjpegplpgihmdaaGreatDoor
namespace Rows

/-- THE TIED CARD OF 'putloglaw27.WorksRecords'. -/
def worksRecordsCard : Claim7 := { stood := { row := worksRecordsRow, standIns := [], harness := (true, "468860f15f5190c7ac6401cd6e5ff229b964a2d6403af299732cab8f77439f8c"), looks := true }, kinds := [], alts := [], laidByText := true, laidKinds := [.data, .data, .data, .data, .sentinel, .sentinel, .data, .data, .pinned], laidTests := true, laidLooks := .later }
def WorksRecordsCardSaid : Prop := Claim7.holds Tryz.pinned (.plain (OpenSpec.ofChange worksRecordsSpec)) worksRecordsCard

/-- THE SECOND FORM's CARD OF 'putloglaw27.WorksRecords'. -/
def worksRecordsUptoCard : Claim7 := { stood := { row := worksRecordsUptoRow, standIns := [], harness := (true, "468860f15f5190c7ac6401cd6e5ff229b964a2d6403af299732cab8f77439f8c"), looks := true }, kinds := [], alts := [], laidByText := true, laidKinds := [.data, .data, .data, .data, .sentinel, .sentinel, .data, .data, .pinned], laidTests := true, laidLooks := .later }
def WorksRecordsUptoCardSaid : Prop := Claim7.holds Tryz.pinned (.plain (OpenSpec.upto worksRecordsSpec)) worksRecordsUptoCard
end Rows
end Go.Proofs.YtjpegplpgihmdaaGreatDoor
