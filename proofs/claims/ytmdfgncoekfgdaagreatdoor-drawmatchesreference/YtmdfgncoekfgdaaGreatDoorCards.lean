/-
  DERIVED. GIVEN WITH THE SEED: THE CARDS: each row of YtmdfgncoekfgdaaGreatDoorRows.lean that lists a variable, with what it lists TIED to the program's text (the seventh form; the later family's looks); each row that meets fmt, with fmt's text TOLD by the authors' own Lean function (tested against real Go, not proved from fmt's source: count such statements apart). THE CARD IS WHAT COUNTS. Prove the row's statement (the work); the ties are given (YtmdfgncoekfgdaaGreatDoorTie.lean); close each card by the builder's one call (the guide's Derived/Test/ToyasCard.lean, 'card_holds'). Laid BY PROGRAM, IN A SANDBOX (cutbox-door.mjs). By AI agents, Wed Nov 11 2026. No macro, syntax, notation, axiom, sorry.
-/
import Derived.Test.YtmdfgncoekfgdaaGreatDoorRows
import GoSem.ClaimSeven
namespace Go.Proofs.YtmdfgncoekfgdaaGreatDoor
namespace Rows

/-- THE TIED CARD OF 'putloglaw41.DrawMatchesReference'. -/
def drawMatchesReferenceCard : Claim7 := { stood := { row := drawMatchesReferenceRow, standIns := [], harness := (true, "e1fd6ba8e95286c089203efe58caefa611b8684800cc5c66726fc4e73f8978ca"), looks := true }, kinds := [], alts := [], laidByText := true, laidKinds := [.data, .pinned], laidTests := true, laidLooks := .later }
def DrawMatchesReferenceCardSaid : Prop := Claim7.holds Tryz.pinned (.plain (OpenSpec.ofChange drawMatchesReferenceSpec)) drawMatchesReferenceCard

/-- THE TIED CARD OF 'putloglaw41.DrawSitesMatchReference'. -/
def drawSitesMatchReferenceCard : Claim7 := { stood := { row := drawSitesMatchReferenceRow, standIns := [], harness := (true, "e1fd6ba8e95286c089203efe58caefa611b8684800cc5c66726fc4e73f8978ca"), looks := true }, kinds := [], alts := [], laidByText := true, laidKinds := [.data, .pinned], laidTests := true, laidLooks := .later }
def DrawSitesMatchReferenceCardSaid : Prop := Claim7.holds Tryz.pinned (.plain (OpenSpec.ofChange drawSitesMatchReferenceSpec)) drawSitesMatchReferenceCard

/-- THE TIED CARD OF 'putloglaw41.DrawPhases'. -/
def drawPhasesCard : Claim7 := { stood := { row := drawPhasesRow, standIns := [], harness := (true, "e1fd6ba8e95286c089203efe58caefa611b8684800cc5c66726fc4e73f8978ca"), looks := true }, kinds := [], alts := [], laidByText := true, laidKinds := [.data, .pinned], laidTests := true, laidLooks := .later }
def DrawPhasesCardSaid : Prop := Claim7.holds Tryz.pinned (.plain (OpenSpec.ofChange drawPhasesSpec)) drawPhasesCard

/-- THE TIED CARD OF 'putloglaw41.DrawActs'. -/
def drawActsCard : Claim7 := { stood := { row := drawActsRow, standIns := [], harness := (true, "e1fd6ba8e95286c089203efe58caefa611b8684800cc5c66726fc4e73f8978ca"), looks := true }, kinds := [], alts := [], laidByText := true, laidKinds := [.data, .pinned], laidTests := true, laidLooks := .later }
def DrawActsCardSaid : Prop := Claim7.holds Tryz.pinned (.plain (OpenSpec.ofChange drawActsSpec)) drawActsCard

/-- THE TIED CARD OF 'putloglaw41.DrawBooks'. -/
def drawBooksCard : Claim7 := { stood := { row := drawBooksRow, standIns := [], harness := (true, "e1fd6ba8e95286c089203efe58caefa611b8684800cc5c66726fc4e73f8978ca"), looks := true }, kinds := [], alts := [], laidByText := true, laidKinds := [.data, .pinned], laidTests := true, laidLooks := .later }
def DrawBooksCardSaid : Prop := Claim7.holds Tryz.pinned (.plain (OpenSpec.ofChange drawBooksSpec)) drawBooksCard

/-- THE SECOND FORM's CARD OF 'putloglaw41.DrawMatchesReference'. -/
def drawMatchesReferenceUptoCard : Claim7 := { stood := { row := drawMatchesReferenceUptoRow, standIns := [], harness := (true, "e1fd6ba8e95286c089203efe58caefa611b8684800cc5c66726fc4e73f8978ca"), looks := true }, kinds := [], alts := [], laidByText := true, laidKinds := [.data, .pinned], laidTests := true, laidLooks := .later }
def DrawMatchesReferenceUptoCardSaid : Prop := Claim7.holds Tryz.pinned (.plain (OpenSpec.upto drawMatchesReferenceSpec)) drawMatchesReferenceUptoCard

/-- THE SECOND FORM's CARD OF 'putloglaw41.DrawSitesMatchReference'. -/
def drawSitesMatchReferenceUptoCard : Claim7 := { stood := { row := drawSitesMatchReferenceUptoRow, standIns := [], harness := (true, "e1fd6ba8e95286c089203efe58caefa611b8684800cc5c66726fc4e73f8978ca"), looks := true }, kinds := [], alts := [], laidByText := true, laidKinds := [.data, .pinned], laidTests := true, laidLooks := .later }
def DrawSitesMatchReferenceUptoCardSaid : Prop := Claim7.holds Tryz.pinned (.plain (OpenSpec.upto drawSitesMatchReferenceSpec)) drawSitesMatchReferenceUptoCard

/-- THE SECOND FORM's CARD OF 'putloglaw41.DrawPhases'. -/
def drawPhasesUptoCard : Claim7 := { stood := { row := drawPhasesUptoRow, standIns := [], harness := (true, "e1fd6ba8e95286c089203efe58caefa611b8684800cc5c66726fc4e73f8978ca"), looks := true }, kinds := [], alts := [], laidByText := true, laidKinds := [.data, .pinned], laidTests := true, laidLooks := .later }
def DrawPhasesUptoCardSaid : Prop := Claim7.holds Tryz.pinned (.plain (OpenSpec.upto drawPhasesSpec)) drawPhasesUptoCard

/-- THE SECOND FORM's CARD OF 'putloglaw41.DrawActs'. -/
def drawActsUptoCard : Claim7 := { stood := { row := drawActsUptoRow, standIns := [], harness := (true, "e1fd6ba8e95286c089203efe58caefa611b8684800cc5c66726fc4e73f8978ca"), looks := true }, kinds := [], alts := [], laidByText := true, laidKinds := [.data, .pinned], laidTests := true, laidLooks := .later }
def DrawActsUptoCardSaid : Prop := Claim7.holds Tryz.pinned (.plain (OpenSpec.upto drawActsSpec)) drawActsUptoCard

/-- THE SECOND FORM's CARD OF 'putloglaw41.DrawBooks'. -/
def drawBooksUptoCard : Claim7 := { stood := { row := drawBooksUptoRow, standIns := [], harness := (true, "e1fd6ba8e95286c089203efe58caefa611b8684800cc5c66726fc4e73f8978ca"), looks := true }, kinds := [], alts := [], laidByText := true, laidKinds := [.data, .pinned], laidTests := true, laidLooks := .later }
def DrawBooksUptoCardSaid : Prop := Claim7.holds Tryz.pinned (.plain (OpenSpec.upto drawBooksSpec)) drawBooksUptoCard
end Rows
end Go.Proofs.YtmdfgncoekfgdaaGreatDoor
