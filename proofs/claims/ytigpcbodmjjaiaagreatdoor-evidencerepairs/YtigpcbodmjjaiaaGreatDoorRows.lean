/-
  NARROWER THAN 'FOR EVERY INPUT', by the rows' own cells (each row's printed sentence says how): EvidenceRepairs: laid · EvidenceFewer: laid · EvidenceWitnesses: laid.
  DERIVED. THE GIVEN ROWS OF THIS SEAT. 3 by the template 'for every input the law returns true; each argument reads behind the call as it read before'; 0 by the template 'total and deterministic' (their statements: YtigpcbodmjjaiaaGreatDoorTotals.lean).
  GIVEN WITH THE SEED: the statements are not yours to turn. If you find one false, say at which input.
  Laid BY PROGRAM, IN A SANDBOX (cutbox-rows.mjs): the forced cells as the released guide's own fill.sh prints them over the translation 5b305ed55144a73b… (all of the seat's roots in one cut). By AI agents, Wed Nov 11 2026. No macro, syntax, notation, axiom, sorry.
-/
import Derived.Test.YtigpcbodmjjaiaaGreatDoorChecked
import GoSem.Claim
import GoSem.ClaimJoined
import GoSem.ClaimMapViews
import Derived.JoinedTies
import Derived.KernelRfl
namespace Go.Proofs.YtigpcbodmjjaiaaGreatDoor
/- THE CELL 'sum', in the pinned program and in every row, IS THE sha256 OF THE DUMP (.gsa) THAT YtigpcbodmjjaiaaGreatDoorProg.lean LOADS. Nothing in Lean hashes anything: it is a label: what it is worth is what the hold of that sum in a sandbox is worth. -/
noncomputable def Tryz.pinned : Pinned := { name := "ytigpcbodmjjaiaagreatdoor", sum := "5b305ed55144a73bf90860257c47a67cf19c5bd6a6d3fb775b1707cf3829387b", checked := Tryz.checked }
namespace Rows
def none {H : Type} : Left H := { results := [], args := [] }

/- WHAT THE LISTED PACKAGE-LEVEL VARIABLES READ AS WHEN THE CALL BEGINS. Each datum BY PROGRAM (the guide's laid-datum.mjs) off the statement by which the dump's own 'gosem.cut.vars' lays the variable. In a bare row this is a premise. The card (YtigpcbodmjjaiaaGreatDoorCards.lean) ties it to the program's text. -/
def laid_putlog_unit_stuffs {H : Type} : DataW H := .agg [.agg [.lit (.int .i64 9), .lit (.int .i64 3), .lit (.int .i64 9), .lit (.int .i64 1), .lit (.int .i64 0)], .agg [.lit (.int .i64 8), .lit (.int .i64 3), .lit (.int .i64 6), .lit (.int .i64 4), .lit (.int .i64 1)], .agg [.lit (.int .i64 7), .lit (.int .i64 3), .lit (.int .i64 5), .lit (.int .i64 5), .lit (.int .i64 1)], .agg [.lit (.int .i64 6), .lit (.int .i64 3), .lit (.int .i64 4), .lit (.int .i64 6), .lit (.int .i64 3)], .agg [.lit (.int .i64 3), .lit (.int .i64 2), .lit (.int .i64 5), .lit (.int .i64 3), .lit (.int .i64 0)], .agg [.lit (.int .i64 5), .lit (.int .i64 2), .lit (.int .i64 2), .lit (.int .i64 7), .lit (.int .i64 1)], .agg [.lit (.int .i64 8), .lit (.int .i64 3), .lit (.int .i64 8), .lit (.int .i64 1), .lit (.int .i64 4)], .agg [.lit (.int .i64 10), .lit (.int .i64 1), .lit (.int .i64 9), .lit (.int .i64 0), .lit (.int .i64 0)]]

/-- 'putloglaw29.EvidenceRepairs': WHATEVER THE INPUT: true; the input reads as it did. -/
def evidenceRepairsSpec : ChangeSpec := { name := "evidenceRepairs", fn := fun _ => fun
  | [d1, d2, d3, d4, d5] => { results := [.lit (.bool true)], args := [d1, d2, d3, d4, d5] }
  | _ => none }
def evidenceRepairsRow : OpenClaim := { program := "ytigpcbodmjjaiaagreatdoor", sum := "5b305ed55144a73bf90860257c47a67cf19c5bd6a6d3fb775b1707cf3829387b", func := "putlog/putloglaw29.EvidenceRepairs", spec := "evidenceRepairs", inPlace := ["slices.overlaps[putlog/api.Unit]", "internal/abi.NoEscape", "slices.overlaps[putlog/api.Mark]", "slices.overlaps[putlog/api.Kept]", "slices.overlaps[putlog/api.Face]", "slices.overlaps[putlog/api.Mortar]"], unfollowed := true, recurses := true, named := ["putlog/unit.stuffs"], plainKeys := false, apart := false, laid := [("putlog/unit.stuffs", laid_putlog_unit_stuffs)] }
def EvidenceRepairsSaid : Prop := evidenceRepairsRow.holds Tryz.pinned (OpenSpec.ofChange evidenceRepairsSpec)

/-- ITS FALSE NEIGHBOUR: 'it returns false'. Refute it at one input. -/
def evidenceRepairsWrong : ChangeSpec := { name := "evidenceRepairs", fn := fun _ => fun
  | [d1, d2, d3, d4, d5] => { results := [.lit (.bool false)], args := [d1, d2, d3, d4, d5] }
  | _ => none }
def EvidenceRepairsWrongFalsely : Prop := evidenceRepairsRow.holds Tryz.pinned (OpenSpec.ofChange evidenceRepairsWrong)

/-- 'putloglaw29.EvidenceFewer': WHATEVER THE INPUT: true; the input reads as it did. -/
def evidenceFewerSpec : ChangeSpec := { name := "evidenceFewer", fn := fun _ => fun
  | [d1, d2, d3, d4, d5, d6, d7, d8] => { results := [.lit (.bool true)], args := [d1, d2, d3, d4, d5, d6, d7, d8] }
  | _ => none }
def evidenceFewerRow : OpenClaim := { program := "ytigpcbodmjjaiaagreatdoor", sum := "5b305ed55144a73bf90860257c47a67cf19c5bd6a6d3fb775b1707cf3829387b", func := "putlog/putloglaw29.EvidenceFewer", spec := "evidenceFewer", inPlace := ["slices.overlaps[putlog/api.Unit]", "internal/abi.NoEscape", "slices.overlaps[putlog/api.Mark]", "slices.overlaps[putlog/api.Kept]", "slices.overlaps[putlog/api.Face]", "slices.overlaps[putlog/api.Mortar]"], unfollowed := true, recurses := true, named := ["putlog/unit.stuffs"], plainKeys := false, apart := false, laid := [("putlog/unit.stuffs", laid_putlog_unit_stuffs)] }
def EvidenceFewerSaid : Prop := evidenceFewerRow.holds Tryz.pinned (OpenSpec.ofChange evidenceFewerSpec)

/-- ITS FALSE NEIGHBOUR: 'it returns false'. Refute it at one input. -/
def evidenceFewerWrong : ChangeSpec := { name := "evidenceFewer", fn := fun _ => fun
  | [d1, d2, d3, d4, d5, d6, d7, d8] => { results := [.lit (.bool false)], args := [d1, d2, d3, d4, d5, d6, d7, d8] }
  | _ => none }
def EvidenceFewerWrongFalsely : Prop := evidenceFewerRow.holds Tryz.pinned (OpenSpec.ofChange evidenceFewerWrong)

/-- 'putloglaw29.EvidenceWitnesses': WHATEVER THE INPUT: true; the input reads as it did. -/
def evidenceWitnessesSpec : ChangeSpec := { name := "evidenceWitnesses", fn := fun _ => fun
  | [d1, d2, d3, d4, d5] => { results := [.lit (.bool true)], args := [d1, d2, d3, d4, d5] }
  | _ => none }
def evidenceWitnessesRow : OpenClaim := { program := "ytigpcbodmjjaiaagreatdoor", sum := "5b305ed55144a73bf90860257c47a67cf19c5bd6a6d3fb775b1707cf3829387b", func := "putlog/putloglaw29.EvidenceWitnesses", spec := "evidenceWitnesses", inPlace := ["slices.overlaps[putlog/api.Unit]", "internal/abi.NoEscape", "slices.overlaps[putlog/api.Mark]", "slices.overlaps[putlog/api.Kept]", "slices.overlaps[putlog/api.Face]", "slices.overlaps[putlog/api.Mortar]"], unfollowed := true, recurses := true, named := ["putlog/unit.stuffs"], plainKeys := false, apart := false, laid := [("putlog/unit.stuffs", laid_putlog_unit_stuffs)] }
def EvidenceWitnessesSaid : Prop := evidenceWitnessesRow.holds Tryz.pinned (OpenSpec.ofChange evidenceWitnessesSpec)

/-- ITS FALSE NEIGHBOUR: 'it returns false'. Refute it at one input. -/
def evidenceWitnessesWrong : ChangeSpec := { name := "evidenceWitnesses", fn := fun _ => fun
  | [d1, d2, d3, d4, d5] => { results := [.lit (.bool false)], args := [d1, d2, d3, d4, d5] }
  | _ => none }
def EvidenceWitnessesWrongFalsely : Prop := evidenceWitnessesRow.holds Tryz.pinned (OpenSpec.ofChange evidenceWitnessesWrong)

/- THE SECOND FORM. 'bulk': how many values and letters a reading holds, each counted each time it is reached (what is shared counts as often as it is met; a slice's spare places count too). A statement '..UptoSaid' is the law's where the arguments, and the package variables that the reading takes, are together of bulk at most 1048576: NARROWER than '..Said'. Prove '..Said' where nothing that the law and all that it calls make is longer than what came in: it says more and counts as full. Else prove '..UptoSaid'. A law counts once. -/
mutual
def uptoBulk {H : Type} : DataW H → Nat
  | .lit (.string bytes) => bytes.length + 1
  | .lit _ => 1
  | .nil => 1
  | .ptr d => uptoBulk d + 1
  | .slice elems spare => uptoBulkAll elems + uptoBulkAll spare + 1
  | .agg parts => uptoBulkAll parts + 1
  | .iface _ d => uptoBulk d + 1
  | .map entries => uptoBulkEntries entries + 1
  | .held _ => 1
def uptoBulkAll {H : Type} : List (DataW H) → Nat
  | [] => 0
  | d :: r => uptoBulk d + uptoBulkAll r
def uptoBulkEntries {H : Type} : List (Lit × DataW H) → Nat
  | [] => 0
  | x :: r => uptoBulkEntry x + uptoBulkEntries r
def uptoBulkEntry {H : Type} : Lit × DataW H → Nat
  | (.string bytes, d) => bytes.length + uptoBulk d + 1
  | (_, d) => uptoBulk d + 1
 end
def uptoSmall : (H : Type) → List (DataW H) → Bool := fun _ ds => decide (uptoBulkAll ds ≤ 1048576)
def OpenSpec.upto (s : _root_.Go.ChangeSpec) : _root_.Go.OpenSpec := { _root_.Go.OpenSpec.ofChange s with cond := some uptoSmall }

/-- 'putloglaw29.EvidenceRepairs', WHERE WHAT IT READS IS OF BULK AT MOST 1048576: true; the input reads as it did. -/
def evidenceRepairsUptoRow : OpenClaim := { program := "ytigpcbodmjjaiaagreatdoor", sum := "5b305ed55144a73bf90860257c47a67cf19c5bd6a6d3fb775b1707cf3829387b", func := "putlog/putloglaw29.EvidenceRepairs", spec := "evidenceRepairs", inPlace := ["slices.overlaps[putlog/api.Unit]", "internal/abi.NoEscape", "slices.overlaps[putlog/api.Mark]", "slices.overlaps[putlog/api.Kept]", "slices.overlaps[putlog/api.Face]", "slices.overlaps[putlog/api.Mortar]"], unfollowed := true, recurses := true, named := ["putlog/unit.stuffs"], plainKeys := false, apart := false, laid := [("putlog/unit.stuffs", laid_putlog_unit_stuffs)], narrowed := true }
def EvidenceRepairsUptoSaid : Prop := evidenceRepairsUptoRow.holds Tryz.pinned (OpenSpec.upto evidenceRepairsSpec)

/-- 'putloglaw29.EvidenceFewer', WHERE WHAT IT READS IS OF BULK AT MOST 1048576: true; the input reads as it did. -/
def evidenceFewerUptoRow : OpenClaim := { program := "ytigpcbodmjjaiaagreatdoor", sum := "5b305ed55144a73bf90860257c47a67cf19c5bd6a6d3fb775b1707cf3829387b", func := "putlog/putloglaw29.EvidenceFewer", spec := "evidenceFewer", inPlace := ["slices.overlaps[putlog/api.Unit]", "internal/abi.NoEscape", "slices.overlaps[putlog/api.Mark]", "slices.overlaps[putlog/api.Kept]", "slices.overlaps[putlog/api.Face]", "slices.overlaps[putlog/api.Mortar]"], unfollowed := true, recurses := true, named := ["putlog/unit.stuffs"], plainKeys := false, apart := false, laid := [("putlog/unit.stuffs", laid_putlog_unit_stuffs)], narrowed := true }
def EvidenceFewerUptoSaid : Prop := evidenceFewerUptoRow.holds Tryz.pinned (OpenSpec.upto evidenceFewerSpec)

/-- 'putloglaw29.EvidenceWitnesses', WHERE WHAT IT READS IS OF BULK AT MOST 1048576: true; the input reads as it did. -/
def evidenceWitnessesUptoRow : OpenClaim := { program := "ytigpcbodmjjaiaagreatdoor", sum := "5b305ed55144a73bf90860257c47a67cf19c5bd6a6d3fb775b1707cf3829387b", func := "putlog/putloglaw29.EvidenceWitnesses", spec := "evidenceWitnesses", inPlace := ["slices.overlaps[putlog/api.Unit]", "internal/abi.NoEscape", "slices.overlaps[putlog/api.Mark]", "slices.overlaps[putlog/api.Kept]", "slices.overlaps[putlog/api.Face]", "slices.overlaps[putlog/api.Mortar]"], unfollowed := true, recurses := true, named := ["putlog/unit.stuffs"], plainKeys := false, apart := false, laid := [("putlog/unit.stuffs", laid_putlog_unit_stuffs)], narrowed := true }
def EvidenceWitnessesUptoSaid : Prop := evidenceWitnessesUptoRow.holds Tryz.pinned (OpenSpec.upto evidenceWitnessesSpec)

end Rows
end Go.Proofs.YtigpcbodmjjaiaaGreatDoor
