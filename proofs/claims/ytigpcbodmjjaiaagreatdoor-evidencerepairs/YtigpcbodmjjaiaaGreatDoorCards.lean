/-
  DERIVED. GIVEN WITH THE SEED: THE CARDS: each row of YtigpcbodmjjaiaaGreatDoorRows.lean that lists a variable, with what it lists TIED to the program's text (the seventh form; the later family's looks); each row that meets fmt, with fmt's text TOLD by the authors' own Lean function (tested against real Go, not proved from fmt's source: count such statements apart). THE CARD IS WHAT COUNTS. Prove the row's statement (the work); the ties are given (YtigpcbodmjjaiaaGreatDoorTie.lean); close each card by the builder's one call (the guide's Derived/Test/ToyasCard.lean, 'card_holds'). Laid BY PROGRAM, IN A SANDBOX (cutbox-door.mjs). By AI agents, Wed Nov 11 2026. No macro, syntax, notation, axiom, sorry.
-/
import Derived.Test.YtigpcbodmjjaiaaGreatDoorRows
import GoSem.ClaimSeven
namespace Go.Proofs.YtigpcbodmjjaiaaGreatDoor
namespace Rows

/-- THE TIED CARD OF 'putloglaw29.EvidenceRepairs'. -/
def evidenceRepairsCard : Claim7 := { stood := { row := evidenceRepairsRow, standIns := [], harness := (true, "f46eaa7c6e732c1d9041727cb76d95df1db70db873e51e514363cb367ea7c8f1"), looks := true }, kinds := [], alts := [], laidByText := true, laidKinds := [.data], laidTests := true, laidLooks := .later }
def EvidenceRepairsCardSaid : Prop := Claim7.holds Tryz.pinned (.plain (OpenSpec.ofChange evidenceRepairsSpec)) evidenceRepairsCard

/-- THE TIED CARD OF 'putloglaw29.EvidenceFewer'. -/
def evidenceFewerCard : Claim7 := { stood := { row := evidenceFewerRow, standIns := [], harness := (true, "f46eaa7c6e732c1d9041727cb76d95df1db70db873e51e514363cb367ea7c8f1"), looks := true }, kinds := [], alts := [], laidByText := true, laidKinds := [.data], laidTests := true, laidLooks := .later }
def EvidenceFewerCardSaid : Prop := Claim7.holds Tryz.pinned (.plain (OpenSpec.ofChange evidenceFewerSpec)) evidenceFewerCard

/-- THE TIED CARD OF 'putloglaw29.EvidenceWitnesses'. -/
def evidenceWitnessesCard : Claim7 := { stood := { row := evidenceWitnessesRow, standIns := [], harness := (true, "f46eaa7c6e732c1d9041727cb76d95df1db70db873e51e514363cb367ea7c8f1"), looks := true }, kinds := [], alts := [], laidByText := true, laidKinds := [.data], laidTests := true, laidLooks := .later }
def EvidenceWitnessesCardSaid : Prop := Claim7.holds Tryz.pinned (.plain (OpenSpec.ofChange evidenceWitnessesSpec)) evidenceWitnessesCard

/-- THE SECOND FORM's CARD OF 'putloglaw29.EvidenceRepairs'. -/
def evidenceRepairsUptoCard : Claim7 := { stood := { row := evidenceRepairsUptoRow, standIns := [], harness := (true, "f46eaa7c6e732c1d9041727cb76d95df1db70db873e51e514363cb367ea7c8f1"), looks := true }, kinds := [], alts := [], laidByText := true, laidKinds := [.data], laidTests := true, laidLooks := .later }
def EvidenceRepairsUptoCardSaid : Prop := Claim7.holds Tryz.pinned (.plain (OpenSpec.upto evidenceRepairsSpec)) evidenceRepairsUptoCard

/-- THE SECOND FORM's CARD OF 'putloglaw29.EvidenceFewer'. -/
def evidenceFewerUptoCard : Claim7 := { stood := { row := evidenceFewerUptoRow, standIns := [], harness := (true, "f46eaa7c6e732c1d9041727cb76d95df1db70db873e51e514363cb367ea7c8f1"), looks := true }, kinds := [], alts := [], laidByText := true, laidKinds := [.data], laidTests := true, laidLooks := .later }
def EvidenceFewerUptoCardSaid : Prop := Claim7.holds Tryz.pinned (.plain (OpenSpec.upto evidenceFewerSpec)) evidenceFewerUptoCard

/-- THE SECOND FORM's CARD OF 'putloglaw29.EvidenceWitnesses'. -/
def evidenceWitnessesUptoCard : Claim7 := { stood := { row := evidenceWitnessesUptoRow, standIns := [], harness := (true, "f46eaa7c6e732c1d9041727cb76d95df1db70db873e51e514363cb367ea7c8f1"), looks := true }, kinds := [], alts := [], laidByText := true, laidKinds := [.data], laidTests := true, laidLooks := .later }
def EvidenceWitnessesUptoCardSaid : Prop := Claim7.holds Tryz.pinned (.plain (OpenSpec.upto evidenceWitnessesSpec)) evidenceWitnessesUptoCard
end Rows
end Go.Proofs.YtigpcbodmjjaiaaGreatDoor
