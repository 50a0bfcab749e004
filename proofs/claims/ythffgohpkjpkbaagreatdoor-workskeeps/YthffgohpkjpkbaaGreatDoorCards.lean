/-
  DERIVED. GIVEN WITH THE SEED: THE CARDS: each row of YthffgohpkjpkbaaGreatDoorRows.lean that lists a variable, with what it lists TIED to the program's text (the seventh form; the later family's looks); each row that meets fmt, with fmt's text TOLD by the authors' own Lean function (tested against real Go, not proved from fmt's source: count such statements apart). THE CARD IS WHAT COUNTS. Prove the row's statement (the work); the ties are given (YthffgohpkjpkbaaGreatDoorTie.lean); close each card by the builder's one call (the guide's Derived/Test/ToyasCard.lean, 'card_holds'). Laid BY PROGRAM, IN A SANDBOX (cutbox-door.mjs). By AI agents, Wed Nov 11 2026. No macro, syntax, notation, axiom, sorry.
-/
import Derived.Test.YthffgohpkjpkbaaGreatDoorRows
import GoSem.ClaimSeven
namespace Go.Proofs.YthffgohpkjpkbaaGreatDoor
namespace Rows

/-- THE TIED CARD OF 'putloglaw27.WorksSuits'. -/
def worksSuitsCard : Claim7 := { stood := { row := worksSuitsRow, standIns := [], harness := (true, "7801b1e663817c6afc735467bf5815ff437e316beb1b962058163a7808ac81dd"), looks := true }, kinds := [], alts := [], laidByText := true, laidKinds := [.data, .data, .data, .data, .sentinel, .sentinel, .data, .data, .pinned], laidTests := true, laidLooks := .later }
def WorksSuitsCardSaid : Prop := Claim7.holds Tryz.pinned (.plain (OpenSpec.ofChange worksSuitsSpec)) worksSuitsCard

/-- THE TIED CARD OF 'putloglaw27.WorksKeeps'. -/
def worksKeepsCard : Claim7 := { stood := { row := worksKeepsRow, standIns := [], harness := (true, "7801b1e663817c6afc735467bf5815ff437e316beb1b962058163a7808ac81dd"), looks := true }, kinds := [], alts := [], laidByText := true, laidKinds := [.data, .data, .data, .data, .sentinel, .sentinel, .data, .data, .pinned], laidTests := true, laidLooks := .later }
def WorksKeepsCardSaid : Prop := Claim7.holds Tryz.pinned (.plain (OpenSpec.ofChange worksKeepsSpec)) worksKeepsCard

/-- THE TIED CARD OF 'putloglaw27.WorksUndoes'. -/
def worksUndoesCard : Claim7 := { stood := { row := worksUndoesRow, standIns := [], harness := (true, "7801b1e663817c6afc735467bf5815ff437e316beb1b962058163a7808ac81dd"), looks := true }, kinds := [], alts := [], laidByText := true, laidKinds := [.data, .data, .data, .data, .sentinel, .sentinel, .data, .data, .pinned], laidTests := true, laidLooks := .later }
def WorksUndoesCardSaid : Prop := Claim7.holds Tryz.pinned (.plain (OpenSpec.ofChange worksUndoesSpec)) worksUndoesCard

/-- THE SECOND FORM's CARD OF 'putloglaw27.WorksSuits'. -/
def worksSuitsUptoCard : Claim7 := { stood := { row := worksSuitsUptoRow, standIns := [], harness := (true, "7801b1e663817c6afc735467bf5815ff437e316beb1b962058163a7808ac81dd"), looks := true }, kinds := [], alts := [], laidByText := true, laidKinds := [.data, .data, .data, .data, .sentinel, .sentinel, .data, .data, .pinned], laidTests := true, laidLooks := .later }
def WorksSuitsUptoCardSaid : Prop := Claim7.holds Tryz.pinned (.plain (OpenSpec.upto worksSuitsSpec)) worksSuitsUptoCard

/-- THE SECOND FORM's CARD OF 'putloglaw27.WorksKeeps'. -/
def worksKeepsUptoCard : Claim7 := { stood := { row := worksKeepsUptoRow, standIns := [], harness := (true, "7801b1e663817c6afc735467bf5815ff437e316beb1b962058163a7808ac81dd"), looks := true }, kinds := [], alts := [], laidByText := true, laidKinds := [.data, .data, .data, .data, .sentinel, .sentinel, .data, .data, .pinned], laidTests := true, laidLooks := .later }
def WorksKeepsUptoCardSaid : Prop := Claim7.holds Tryz.pinned (.plain (OpenSpec.upto worksKeepsSpec)) worksKeepsUptoCard

/-- THE SECOND FORM's CARD OF 'putloglaw27.WorksUndoes'. -/
def worksUndoesUptoCard : Claim7 := { stood := { row := worksUndoesUptoRow, standIns := [], harness := (true, "7801b1e663817c6afc735467bf5815ff437e316beb1b962058163a7808ac81dd"), looks := true }, kinds := [], alts := [], laidByText := true, laidKinds := [.data, .data, .data, .data, .sentinel, .sentinel, .data, .data, .pinned], laidTests := true, laidLooks := .later }
def WorksUndoesUptoCardSaid : Prop := Claim7.holds Tryz.pinned (.plain (OpenSpec.upto worksUndoesSpec)) worksUndoesUptoCard
end Rows
end Go.Proofs.YthffgohpkjpkbaaGreatDoor
