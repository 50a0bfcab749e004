/-
  DERIVED. GIVEN WITH THE SEED: THE CARDS: each row of YtjecgmfildhpiaaGreatDoorRows.lean that lists a variable, with what it lists TIED to the program's text (the seventh form; the later family's looks); each row that meets fmt, with fmt's text TOLD by the authors' own Lean function (tested against real Go, not proved from fmt's source: count such statements apart). THE CARD IS WHAT COUNTS. Prove the row's statement (the work); the ties are given (YtjecgmfildhpiaaGreatDoorTie.lean); close each card by the builder's one call (the guide's Derived/Test/ToyasCard.lean, 'card_holds'). Laid BY PROGRAM, IN A SANDBOX (cutbox-door.mjs). By AI agents, Wed Nov 11 2026. No macro, syntax, notation, axiom, sorry.
-/
import Derived.Test.YtjecgmfildhpiaaGreatDoorRows
import GoSem.ClaimSeven
namespace Go.Proofs.YtjecgmfildhpiaaGreatDoor
namespace Rows

/-- THE TIED CARD OF 'putloglaw41.DrawMatchesReference'. -/
def drawMatchesReferenceCard : Claim7 := { stood := { row := drawMatchesReferenceRow, standIns := [], harness := (true, "7eac79831f4627da57c9113b13deb73443884b7d478aafb8ab437a6e54df1143"), looks := true }, kinds := [], alts := [], laidByText := true, laidKinds := [.data, .pinned], laidTests := true, laidLooks := .later }
def DrawMatchesReferenceCardSaid : Prop := Claim7.holds Tryz.pinned (.plain (OpenSpec.ofChange drawMatchesReferenceSpec)) drawMatchesReferenceCard

/-- THE TIED CARD OF 'putloglaw41.DrawShows'. -/
def drawShowsCard : Claim7 := { stood := { row := drawShowsRow, standIns := [], harness := (true, "7eac79831f4627da57c9113b13deb73443884b7d478aafb8ab437a6e54df1143"), looks := true }, kinds := [], alts := [], laidByText := true, laidKinds := [.data, .pinned], laidTests := true, laidLooks := .later }
def DrawShowsCardSaid : Prop := Claim7.holds Tryz.pinned (.plain (OpenSpec.ofChange drawShowsSpec)) drawShowsCard

/-- THE TIED CARD OF 'putloglaw41.DrawViews'. -/
def drawViewsCard : Claim7 := { stood := { row := drawViewsRow, standIns := [], harness := (true, "7eac79831f4627da57c9113b13deb73443884b7d478aafb8ab437a6e54df1143"), looks := true }, kinds := [], alts := [], laidByText := true, laidKinds := [.data, .pinned], laidTests := true, laidLooks := .later }
def DrawViewsCardSaid : Prop := Claim7.holds Tryz.pinned (.plain (OpenSpec.ofChange drawViewsSpec)) drawViewsCard

/-- THE TIED CARD OF 'putloglaw41.DrawTexts'. -/
def drawTextsCard : Claim7 := { stood := { row := drawTextsRow, standIns := [], harness := (true, "7eac79831f4627da57c9113b13deb73443884b7d478aafb8ab437a6e54df1143"), looks := true }, kinds := [], alts := [], laidByText := true, laidKinds := [.data, .pinned], laidTests := true, laidLooks := .later }
def DrawTextsCardSaid : Prop := Claim7.holds Tryz.pinned (.plain (OpenSpec.ofChange drawTextsSpec)) drawTextsCard

/-- THE TIED CARD OF 'putloglaw41.DrawChanges'. -/
def drawChangesCard : Claim7 := { stood := { row := drawChangesRow, standIns := [], harness := (true, "7eac79831f4627da57c9113b13deb73443884b7d478aafb8ab437a6e54df1143"), looks := true }, kinds := [], alts := [], laidByText := true, laidKinds := [.data, .pinned], laidTests := true, laidLooks := .later }
def DrawChangesCardSaid : Prop := Claim7.holds Tryz.pinned (.plain (OpenSpec.ofChange drawChangesSpec)) drawChangesCard

/-- THE TIED CARD OF 'putloglaw41.DrawMoves'. -/
def drawMovesCard : Claim7 := { stood := { row := drawMovesRow, standIns := [], harness := (true, "7eac79831f4627da57c9113b13deb73443884b7d478aafb8ab437a6e54df1143"), looks := true }, kinds := [], alts := [], laidByText := true, laidKinds := [.data, .pinned], laidTests := true, laidLooks := .later }
def DrawMovesCardSaid : Prop := Claim7.holds Tryz.pinned (.plain (OpenSpec.ofChange drawMovesSpec)) drawMovesCard

/-- THE SECOND FORM's CARD OF 'putloglaw41.DrawMatchesReference'. -/
def drawMatchesReferenceUptoCard : Claim7 := { stood := { row := drawMatchesReferenceUptoRow, standIns := [], harness := (true, "7eac79831f4627da57c9113b13deb73443884b7d478aafb8ab437a6e54df1143"), looks := true }, kinds := [], alts := [], laidByText := true, laidKinds := [.data, .pinned], laidTests := true, laidLooks := .later }
def DrawMatchesReferenceUptoCardSaid : Prop := Claim7.holds Tryz.pinned (.plain (OpenSpec.upto drawMatchesReferenceSpec)) drawMatchesReferenceUptoCard

/-- THE SECOND FORM's CARD OF 'putloglaw41.DrawShows'. -/
def drawShowsUptoCard : Claim7 := { stood := { row := drawShowsUptoRow, standIns := [], harness := (true, "7eac79831f4627da57c9113b13deb73443884b7d478aafb8ab437a6e54df1143"), looks := true }, kinds := [], alts := [], laidByText := true, laidKinds := [.data, .pinned], laidTests := true, laidLooks := .later }
def DrawShowsUptoCardSaid : Prop := Claim7.holds Tryz.pinned (.plain (OpenSpec.upto drawShowsSpec)) drawShowsUptoCard

/-- THE SECOND FORM's CARD OF 'putloglaw41.DrawViews'. -/
def drawViewsUptoCard : Claim7 := { stood := { row := drawViewsUptoRow, standIns := [], harness := (true, "7eac79831f4627da57c9113b13deb73443884b7d478aafb8ab437a6e54df1143"), looks := true }, kinds := [], alts := [], laidByText := true, laidKinds := [.data, .pinned], laidTests := true, laidLooks := .later }
def DrawViewsUptoCardSaid : Prop := Claim7.holds Tryz.pinned (.plain (OpenSpec.upto drawViewsSpec)) drawViewsUptoCard

/-- THE SECOND FORM's CARD OF 'putloglaw41.DrawTexts'. -/
def drawTextsUptoCard : Claim7 := { stood := { row := drawTextsUptoRow, standIns := [], harness := (true, "7eac79831f4627da57c9113b13deb73443884b7d478aafb8ab437a6e54df1143"), looks := true }, kinds := [], alts := [], laidByText := true, laidKinds := [.data, .pinned], laidTests := true, laidLooks := .later }
def DrawTextsUptoCardSaid : Prop := Claim7.holds Tryz.pinned (.plain (OpenSpec.upto drawTextsSpec)) drawTextsUptoCard

/-- THE SECOND FORM's CARD OF 'putloglaw41.DrawChanges'. -/
def drawChangesUptoCard : Claim7 := { stood := { row := drawChangesUptoRow, standIns := [], harness := (true, "7eac79831f4627da57c9113b13deb73443884b7d478aafb8ab437a6e54df1143"), looks := true }, kinds := [], alts := [], laidByText := true, laidKinds := [.data, .pinned], laidTests := true, laidLooks := .later }
def DrawChangesUptoCardSaid : Prop := Claim7.holds Tryz.pinned (.plain (OpenSpec.upto drawChangesSpec)) drawChangesUptoCard

/-- THE SECOND FORM's CARD OF 'putloglaw41.DrawMoves'. -/
def drawMovesUptoCard : Claim7 := { stood := { row := drawMovesUptoRow, standIns := [], harness := (true, "7eac79831f4627da57c9113b13deb73443884b7d478aafb8ab437a6e54df1143"), looks := true }, kinds := [], alts := [], laidByText := true, laidKinds := [.data, .pinned], laidTests := true, laidLooks := .later }
def DrawMovesUptoCardSaid : Prop := Claim7.holds Tryz.pinned (.plain (OpenSpec.upto drawMovesSpec)) drawMovesUptoCard
end Rows
end Go.Proofs.YtjecgmfildhpiaaGreatDoor
