/-
  DERIVED. GIVEN WITH THE SEED: THE CARDS: each row of YtbpmlholiohkpaaGreatDoorRows.lean that lists a variable, with what it lists TIED to the program's text (the seventh form; the later family's looks); each row that meets fmt, with fmt's text TOLD by the authors' own Lean function (tested against real Go, not proved from fmt's source: count such statements apart). THE CARD IS WHAT COUNTS. Prove the row's statement (the work); the ties are given (YtbpmlholiohkpaaGreatDoorTie.lean); close each card by the builder's one call (the guide's Derived/Test/ToyasCard.lean, 'card_holds'). Laid BY PROGRAM, IN A SANDBOX (cutbox-door.mjs). By AI agents, Wed Nov 11 2026. No macro, syntax, notation, axiom, sorry.
-/
import Derived.Test.YtbpmlholiohkpaaGreatDoorRows
import GoSem.ClaimSeven
namespace Go.Proofs.YtbpmlholiohkpaaGreatDoor
namespace Rows

/-- THE TIED CARD OF 'putloglaw32.PermitDecides'. -/
def permitDecidesCard : Claim7 := { stood := { row := permitDecidesRow, standIns := [], harness := (true, "e27ab7191b5c928bc19d11bdfc80584cbe1bed75d44267617df7e76d3ab46cb8"), looks := true }, kinds := [], alts := [], laidByText := true, laidKinds := [.data], laidTests := true, laidLooks := .later }
def PermitDecidesCardSaid : Prop := Claim7.holds Tryz.pinned (.plain (OpenSpec.ofChange permitDecidesSpec)) permitDecidesCard

/-- THE TIED CARD OF 'putloglaw32.PermitAgain'. -/
def permitAgainCard : Claim7 := { stood := { row := permitAgainRow, standIns := [], harness := (true, "e27ab7191b5c928bc19d11bdfc80584cbe1bed75d44267617df7e76d3ab46cb8"), looks := true }, kinds := [], alts := [], laidByText := true, laidKinds := [.data], laidTests := true, laidLooks := .later }
def PermitAgainCardSaid : Prop := Claim7.holds Tryz.pinned (.plain (OpenSpec.ofChange permitAgainSpec)) permitAgainCard

/-- THE TIED CARD OF 'putloglaw32.PermitGrants'. -/
def permitGrantsCard : Claim7 := { stood := { row := permitGrantsRow, standIns := [], harness := (true, "e27ab7191b5c928bc19d11bdfc80584cbe1bed75d44267617df7e76d3ab46cb8"), looks := true }, kinds := [], alts := [], laidByText := true, laidKinds := [.data], laidTests := true, laidLooks := .later }
def PermitGrantsCardSaid : Prop := Claim7.holds Tryz.pinned (.plain (OpenSpec.ofChange permitGrantsSpec)) permitGrantsCard

/-- THE TIED CARD OF 'putloglaw32.PermitTraces'. -/
def permitTracesCard : Claim7 := { stood := { row := permitTracesRow, standIns := [], harness := (true, "e27ab7191b5c928bc19d11bdfc80584cbe1bed75d44267617df7e76d3ab46cb8"), looks := true }, kinds := [], alts := [], laidByText := true, laidKinds := [.data], laidTests := true, laidLooks := .later }
def PermitTracesCardSaid : Prop := Claim7.holds Tryz.pinned (.plain (OpenSpec.ofChange permitTracesSpec)) permitTracesCard

/-- THE TIED CARD OF 'putloglaw32.PermitMore'. -/
def permitMoreCard : Claim7 := { stood := { row := permitMoreRow, standIns := [], harness := (true, "e27ab7191b5c928bc19d11bdfc80584cbe1bed75d44267617df7e76d3ab46cb8"), looks := true }, kinds := [], alts := [], laidByText := true, laidKinds := [.data], laidTests := true, laidLooks := .later }
def PermitMoreCardSaid : Prop := Claim7.holds Tryz.pinned (.plain (OpenSpec.ofChange permitMoreSpec)) permitMoreCard

/-- THE SECOND FORM's CARD OF 'putloglaw32.PermitDecides'. -/
def permitDecidesUptoCard : Claim7 := { stood := { row := permitDecidesUptoRow, standIns := [], harness := (true, "e27ab7191b5c928bc19d11bdfc80584cbe1bed75d44267617df7e76d3ab46cb8"), looks := true }, kinds := [], alts := [], laidByText := true, laidKinds := [.data], laidTests := true, laidLooks := .later }
def PermitDecidesUptoCardSaid : Prop := Claim7.holds Tryz.pinned (.plain (OpenSpec.upto permitDecidesSpec)) permitDecidesUptoCard

/-- THE SECOND FORM's CARD OF 'putloglaw32.PermitAgain'. -/
def permitAgainUptoCard : Claim7 := { stood := { row := permitAgainUptoRow, standIns := [], harness := (true, "e27ab7191b5c928bc19d11bdfc80584cbe1bed75d44267617df7e76d3ab46cb8"), looks := true }, kinds := [], alts := [], laidByText := true, laidKinds := [.data], laidTests := true, laidLooks := .later }
def PermitAgainUptoCardSaid : Prop := Claim7.holds Tryz.pinned (.plain (OpenSpec.upto permitAgainSpec)) permitAgainUptoCard

/-- THE SECOND FORM's CARD OF 'putloglaw32.PermitGrants'. -/
def permitGrantsUptoCard : Claim7 := { stood := { row := permitGrantsUptoRow, standIns := [], harness := (true, "e27ab7191b5c928bc19d11bdfc80584cbe1bed75d44267617df7e76d3ab46cb8"), looks := true }, kinds := [], alts := [], laidByText := true, laidKinds := [.data], laidTests := true, laidLooks := .later }
def PermitGrantsUptoCardSaid : Prop := Claim7.holds Tryz.pinned (.plain (OpenSpec.upto permitGrantsSpec)) permitGrantsUptoCard

/-- THE SECOND FORM's CARD OF 'putloglaw32.PermitTraces'. -/
def permitTracesUptoCard : Claim7 := { stood := { row := permitTracesUptoRow, standIns := [], harness := (true, "e27ab7191b5c928bc19d11bdfc80584cbe1bed75d44267617df7e76d3ab46cb8"), looks := true }, kinds := [], alts := [], laidByText := true, laidKinds := [.data], laidTests := true, laidLooks := .later }
def PermitTracesUptoCardSaid : Prop := Claim7.holds Tryz.pinned (.plain (OpenSpec.upto permitTracesSpec)) permitTracesUptoCard

/-- THE SECOND FORM's CARD OF 'putloglaw32.PermitMore'. -/
def permitMoreUptoCard : Claim7 := { stood := { row := permitMoreUptoRow, standIns := [], harness := (true, "e27ab7191b5c928bc19d11bdfc80584cbe1bed75d44267617df7e76d3ab46cb8"), looks := true }, kinds := [], alts := [], laidByText := true, laidKinds := [.data], laidTests := true, laidLooks := .later }
def PermitMoreUptoCardSaid : Prop := Claim7.holds Tryz.pinned (.plain (OpenSpec.upto permitMoreSpec)) permitMoreUptoCard
end Rows
end Go.Proofs.YtbpmlholiohkpaaGreatDoor
