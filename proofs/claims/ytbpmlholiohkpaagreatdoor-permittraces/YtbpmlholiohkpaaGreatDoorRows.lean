/-
  NARROWER THAN 'FOR EVERY INPUT', by the rows' own cells (each row's printed sentence says how): PermitDecides: laid · PermitAgain: laid · PermitGrants: laid · PermitTraces: laid · PermitMore: laid.
  DERIVED. THE GIVEN ROWS OF THIS SEAT. 5 by the template 'for every input the law returns true; each argument reads behind the call as it read before'; 0 by the template 'total and deterministic' (their statements: YtbpmlholiohkpaaGreatDoorTotals.lean).
  GIVEN WITH THE SEED: the statements are not yours to turn. If you find one false, say at which input.
  Laid BY PROGRAM, IN A SANDBOX (cutbox-rows.mjs): the forced cells as the released guide's own fill.sh prints them over the translation ccd071d117407f09… (all of the seat's roots in one cut). By AI agents, Wed Nov 11 2026. No macro, syntax, notation, axiom, sorry.
-/
import Derived.Test.YtbpmlholiohkpaaGreatDoorChecked
import GoSem.Claim
import GoSem.ClaimJoined
import GoSem.ClaimMapViews
import Derived.JoinedTies
import Derived.KernelRfl
namespace Go.Proofs.YtbpmlholiohkpaaGreatDoor
/- THE CELL 'sum', in the pinned program and in every row, IS THE sha256 OF THE DUMP (.gsa) THAT YtbpmlholiohkpaaGreatDoorProg.lean LOADS. Nothing in Lean hashes anything: it is a label: what it is worth is what the hold of that sum in a sandbox is worth. -/
noncomputable def Tryz.pinned : Pinned := { name := "ytbpmlholiohkpaagreatdoor", sum := "ccd071d117407f09e2158523aa5aedae9a303692666d6fe5e16ad44305e00eaa", checked := Tryz.checked }
namespace Rows
def none {H : Type} : Left H := { results := [], args := [] }

/- WHAT THE LISTED PACKAGE-LEVEL VARIABLES READ AS WHEN THE CALL BEGINS. Each datum BY PROGRAM (the guide's laid-datum.mjs) off the statement by which the dump's own 'gosem.cut.vars' lays the variable. In a bare row this is a premise. The card (YtbpmlholiohkpaaGreatDoorCards.lean) ties it to the program's text. -/
def laid_putlog_unit_stuffs {H : Type} : DataW H := .agg [.agg [.lit (.int .i64 9), .lit (.int .i64 3), .lit (.int .i64 9), .lit (.int .i64 1), .lit (.int .i64 0)], .agg [.lit (.int .i64 8), .lit (.int .i64 3), .lit (.int .i64 6), .lit (.int .i64 4), .lit (.int .i64 1)], .agg [.lit (.int .i64 7), .lit (.int .i64 3), .lit (.int .i64 5), .lit (.int .i64 5), .lit (.int .i64 1)], .agg [.lit (.int .i64 6), .lit (.int .i64 3), .lit (.int .i64 4), .lit (.int .i64 6), .lit (.int .i64 3)], .agg [.lit (.int .i64 3), .lit (.int .i64 2), .lit (.int .i64 5), .lit (.int .i64 3), .lit (.int .i64 0)], .agg [.lit (.int .i64 5), .lit (.int .i64 2), .lit (.int .i64 2), .lit (.int .i64 7), .lit (.int .i64 1)], .agg [.lit (.int .i64 8), .lit (.int .i64 3), .lit (.int .i64 8), .lit (.int .i64 1), .lit (.int .i64 4)], .agg [.lit (.int .i64 10), .lit (.int .i64 1), .lit (.int .i64 9), .lit (.int .i64 0), .lit (.int .i64 0)]]

/-- 'putloglaw32.PermitDecides': WHATEVER THE INPUT: true; the input reads as it did. -/
def permitDecidesSpec : ChangeSpec := { name := "permitDecides", fn := fun _ => fun
  | [d1, d2, d3] => { results := [.lit (.bool true)], args := [d1, d2, d3] }
  | _ => none }
def permitDecidesRow : OpenClaim := { program := "ytbpmlholiohkpaagreatdoor", sum := "ccd071d117407f09e2158523aa5aedae9a303692666d6fe5e16ad44305e00eaa", func := "putlog/putloglaw32.PermitDecides", spec := "permitDecides", inPlace := ["slices.overlaps[putlog/api.Unit]", "internal/abi.NoEscape", "slices.overlaps[putlog/api.Mark]", "slices.overlaps[putlog/api.Kept]", "slices.overlaps[putlog/api.Face]", "slices.overlaps[putlog/api.Mortar]"], unfollowed := true, recurses := true, named := ["putlog/unit.stuffs"], apart := false, laid := [("putlog/unit.stuffs", laid_putlog_unit_stuffs)] }
def PermitDecidesSaid : Prop := permitDecidesRow.holds Tryz.pinned (OpenSpec.ofChange permitDecidesSpec)

/-- ITS FALSE NEIGHBOUR: 'it returns false'. Refute it at one input. -/
def permitDecidesWrong : ChangeSpec := { name := "permitDecides", fn := fun _ => fun
  | [d1, d2, d3] => { results := [.lit (.bool false)], args := [d1, d2, d3] }
  | _ => none }
def PermitDecidesWrongFalsely : Prop := permitDecidesRow.holds Tryz.pinned (OpenSpec.ofChange permitDecidesWrong)

/-- 'putloglaw32.PermitAgain': WHATEVER THE INPUT: true; the input reads as it did. -/
def permitAgainSpec : ChangeSpec := { name := "permitAgain", fn := fun _ => fun
  | [d1, d2, d3] => { results := [.lit (.bool true)], args := [d1, d2, d3] }
  | _ => none }
def permitAgainRow : OpenClaim := { program := "ytbpmlholiohkpaagreatdoor", sum := "ccd071d117407f09e2158523aa5aedae9a303692666d6fe5e16ad44305e00eaa", func := "putlog/putloglaw32.PermitAgain", spec := "permitAgain", inPlace := ["slices.overlaps[putlog/api.Unit]", "internal/abi.NoEscape", "slices.overlaps[putlog/api.Mark]", "slices.overlaps[putlog/api.Kept]", "slices.overlaps[putlog/api.Face]", "slices.overlaps[putlog/api.Mortar]"], unfollowed := true, recurses := true, named := ["putlog/unit.stuffs"], apart := false, laid := [("putlog/unit.stuffs", laid_putlog_unit_stuffs)] }
def PermitAgainSaid : Prop := permitAgainRow.holds Tryz.pinned (OpenSpec.ofChange permitAgainSpec)

/-- ITS FALSE NEIGHBOUR: 'it returns false'. Refute it at one input. -/
def permitAgainWrong : ChangeSpec := { name := "permitAgain", fn := fun _ => fun
  | [d1, d2, d3] => { results := [.lit (.bool false)], args := [d1, d2, d3] }
  | _ => none }
def PermitAgainWrongFalsely : Prop := permitAgainRow.holds Tryz.pinned (OpenSpec.ofChange permitAgainWrong)

/-- 'putloglaw32.PermitGrants': WHATEVER THE INPUT: true; the input reads as it did. -/
def permitGrantsSpec : ChangeSpec := { name := "permitGrants", fn := fun _ => fun
  | [d1, d2, d3, d4] => { results := [.lit (.bool true)], args := [d1, d2, d3, d4] }
  | _ => none }
def permitGrantsRow : OpenClaim := { program := "ytbpmlholiohkpaagreatdoor", sum := "ccd071d117407f09e2158523aa5aedae9a303692666d6fe5e16ad44305e00eaa", func := "putlog/putloglaw32.PermitGrants", spec := "permitGrants", inPlace := ["slices.overlaps[putlog/api.Unit]", "internal/abi.NoEscape", "slices.overlaps[putlog/api.Mark]", "slices.overlaps[putlog/api.Kept]", "slices.overlaps[putlog/api.Face]", "slices.overlaps[putlog/api.Mortar]"], unfollowed := true, recurses := true, named := ["putlog/unit.stuffs"], apart := false, laid := [("putlog/unit.stuffs", laid_putlog_unit_stuffs)] }
def PermitGrantsSaid : Prop := permitGrantsRow.holds Tryz.pinned (OpenSpec.ofChange permitGrantsSpec)

/-- ITS FALSE NEIGHBOUR: 'it returns false'. Refute it at one input. -/
def permitGrantsWrong : ChangeSpec := { name := "permitGrants", fn := fun _ => fun
  | [d1, d2, d3, d4] => { results := [.lit (.bool false)], args := [d1, d2, d3, d4] }
  | _ => none }
def PermitGrantsWrongFalsely : Prop := permitGrantsRow.holds Tryz.pinned (OpenSpec.ofChange permitGrantsWrong)

/-- 'putloglaw32.PermitTraces': WHATEVER THE INPUT: true; the input reads as it did. -/
def permitTracesSpec : ChangeSpec := { name := "permitTraces", fn := fun _ => fun
  | [d1, d2, d3, d4] => { results := [.lit (.bool true)], args := [d1, d2, d3, d4] }
  | _ => none }
def permitTracesRow : OpenClaim := { program := "ytbpmlholiohkpaagreatdoor", sum := "ccd071d117407f09e2158523aa5aedae9a303692666d6fe5e16ad44305e00eaa", func := "putlog/putloglaw32.PermitTraces", spec := "permitTraces", inPlace := ["slices.overlaps[putlog/api.Unit]", "internal/abi.NoEscape", "slices.overlaps[putlog/api.Mark]", "slices.overlaps[putlog/api.Kept]", "slices.overlaps[putlog/api.Face]", "slices.overlaps[putlog/api.Mortar]"], unfollowed := true, recurses := true, named := ["putlog/unit.stuffs"], apart := false, laid := [("putlog/unit.stuffs", laid_putlog_unit_stuffs)] }
def PermitTracesSaid : Prop := permitTracesRow.holds Tryz.pinned (OpenSpec.ofChange permitTracesSpec)

/-- ITS FALSE NEIGHBOUR: 'it returns false'. Refute it at one input. -/
def permitTracesWrong : ChangeSpec := { name := "permitTraces", fn := fun _ => fun
  | [d1, d2, d3, d4] => { results := [.lit (.bool false)], args := [d1, d2, d3, d4] }
  | _ => none }
def PermitTracesWrongFalsely : Prop := permitTracesRow.holds Tryz.pinned (OpenSpec.ofChange permitTracesWrong)

/-- 'putloglaw32.PermitMore': WHATEVER THE INPUT: true; the input reads as it did. -/
def permitMoreSpec : ChangeSpec := { name := "permitMore", fn := fun _ => fun
  | [d1, d2, d3] => { results := [.lit (.bool true)], args := [d1, d2, d3] }
  | _ => none }
def permitMoreRow : OpenClaim := { program := "ytbpmlholiohkpaagreatdoor", sum := "ccd071d117407f09e2158523aa5aedae9a303692666d6fe5e16ad44305e00eaa", func := "putlog/putloglaw32.PermitMore", spec := "permitMore", inPlace := ["slices.overlaps[putlog/api.Unit]", "internal/abi.NoEscape", "slices.overlaps[putlog/api.Mark]", "slices.overlaps[putlog/api.Kept]", "slices.overlaps[putlog/api.Face]", "slices.overlaps[putlog/api.Mortar]"], unfollowed := true, recurses := true, named := ["putlog/unit.stuffs"], apart := false, laid := [("putlog/unit.stuffs", laid_putlog_unit_stuffs)] }
def PermitMoreSaid : Prop := permitMoreRow.holds Tryz.pinned (OpenSpec.ofChange permitMoreSpec)

/-- ITS FALSE NEIGHBOUR: 'it returns false'. Refute it at one input. -/
def permitMoreWrong : ChangeSpec := { name := "permitMore", fn := fun _ => fun
  | [d1, d2, d3] => { results := [.lit (.bool false)], args := [d1, d2, d3] }
  | _ => none }
def PermitMoreWrongFalsely : Prop := permitMoreRow.holds Tryz.pinned (OpenSpec.ofChange permitMoreWrong)

/- THE SECOND FORM. 'bulk': how many values and letters a reading holds, each counted each time it is reached (what is shared counts as often as it is met; a slice's spare places count too). A statement '..UptoSaid' is the law's where the arguments, and the package variables that the reading takes, are together of bulk at most 1048576: NARROWER than '..Said'. Prove '..Said' where nothing that the law and all that it calls make is longer than what came in: it says more and counts as full. Else prove '..UptoSaid'. A law counts once. -/
mutual
def uptoBulk {H : Type} : DataW H → Nat
  | .lit (.string bytes) => bytes.length + 1
  | .lit _ => 1
  | .nil => 1
  | .ptr d => uptoBulk d + 1
  | .slice elems spare => uptoBulkAll elems + uptoBulkAll spare + 1
  | .agg parts => uptoBulkAll parts + 1
  | .iface _ d => uptoBulk d + 1
  | .map entries => uptoBulkEntries entries + 1
  | .held _ => 1
def uptoBulkAll {H : Type} : List (DataW H) → Nat
  | [] => 0
  | d :: r => uptoBulk d + uptoBulkAll r
def uptoBulkEntries {H : Type} : List (Lit × DataW H) → Nat
  | [] => 0
  | x :: r => uptoBulkEntry x + uptoBulkEntries r
def uptoBulkEntry {H : Type} : Lit × DataW H → Nat
  | (.string bytes, d) => bytes.length + uptoBulk d + 1
  | (_, d) => uptoBulk d + 1
 end
def uptoSmall : (H : Type) → List (DataW H) → Bool := fun _ ds => decide (uptoBulkAll ds ≤ 1048576)
def OpenSpec.upto (s : _root_.Go.ChangeSpec) : _root_.Go.OpenSpec := { _root_.Go.OpenSpec.ofChange s with cond := some uptoSmall }

/-- 'putloglaw32.PermitDecides', WHERE WHAT IT READS IS OF BULK AT MOST 1048576: true; the input reads as it did. -/
def permitDecidesUptoRow : OpenClaim := { program := "ytbpmlholiohkpaagreatdoor", sum := "ccd071d117407f09e2158523aa5aedae9a303692666d6fe5e16ad44305e00eaa", func := "putlog/putloglaw32.PermitDecides", spec := "permitDecides", inPlace := ["slices.overlaps[putlog/api.Unit]", "internal/abi.NoEscape", "slices.overlaps[putlog/api.Mark]", "slices.overlaps[putlog/api.Kept]", "slices.overlaps[putlog/api.Face]", "slices.overlaps[putlog/api.Mortar]"], unfollowed := true, recurses := true, named := ["putlog/unit.stuffs"], apart := false, laid := [("putlog/unit.stuffs", laid_putlog_unit_stuffs)], narrowed := true }
def PermitDecidesUptoSaid : Prop := permitDecidesUptoRow.holds Tryz.pinned (OpenSpec.upto permitDecidesSpec)

/-- 'putloglaw32.PermitAgain', WHERE WHAT IT READS IS OF BULK AT MOST 1048576: true; the input reads as it did. -/
def permitAgainUptoRow : OpenClaim := { program := "ytbpmlholiohkpaagreatdoor", sum := "ccd071d117407f09e2158523aa5aedae9a303692666d6fe5e16ad44305e00eaa", func := "putlog/putloglaw32.PermitAgain", spec := "permitAgain", inPlace := ["slices.overlaps[putlog/api.Unit]", "internal/abi.NoEscape", "slices.overlaps[putlog/api.Mark]", "slices.overlaps[putlog/api.Kept]", "slices.overlaps[putlog/api.Face]", "slices.overlaps[putlog/api.Mortar]"], unfollowed := true, recurses := true, named := ["putlog/unit.stuffs"], apart := false, laid := [("putlog/unit.stuffs", laid_putlog_unit_stuffs)], narrowed := true }
def PermitAgainUptoSaid : Prop := permitAgainUptoRow.holds Tryz.pinned (OpenSpec.upto permitAgainSpec)

/-- 'putloglaw32.PermitGrants', WHERE WHAT IT READS IS OF BULK AT MOST 1048576: true; the input reads as it did. -/
def permitGrantsUptoRow : OpenClaim := { program := "ytbpmlholiohkpaagreatdoor", sum := "ccd071d117407f09e2158523aa5aedae9a303692666d6fe5e16ad44305e00eaa", func := "putlog/putloglaw32.PermitGrants", spec := "permitGrants", inPlace := ["slices.overlaps[putlog/api.Unit]", "internal/abi.NoEscape", "slices.overlaps[putlog/api.Mark]", "slices.overlaps[putlog/api.Kept]", "slices.overlaps[putlog/api.Face]", "slices.overlaps[putlog/api.Mortar]"], unfollowed := true, recurses := true, named := ["putlog/unit.stuffs"], apart := false, laid := [("putlog/unit.stuffs", laid_putlog_unit_stuffs)], narrowed := true }
def PermitGrantsUptoSaid : Prop := permitGrantsUptoRow.holds Tryz.pinned (OpenSpec.upto permitGrantsSpec)

/-- 'putloglaw32.PermitTraces', WHERE WHAT IT READS IS OF BULK AT MOST 1048576: true; the input reads as it did. -/
def permitTracesUptoRow : OpenClaim := { program := "ytbpmlholiohkpaagreatdoor", sum := "ccd071d117407f09e2158523aa5aedae9a303692666d6fe5e16ad44305e00eaa", func := "putlog/putloglaw32.PermitTraces", spec := "permitTraces", inPlace := ["slices.overlaps[putlog/api.Unit]", "internal/abi.NoEscape", "slices.overlaps[putlog/api.Mark]", "slices.overlaps[putlog/api.Kept]", "slices.overlaps[putlog/api.Face]", "slices.overlaps[putlog/api.Mortar]"], unfollowed := true, recurses := true, named := ["putlog/unit.stuffs"], apart := false, laid := [("putlog/unit.stuffs", laid_putlog_unit_stuffs)], narrowed := true }
def PermitTracesUptoSaid : Prop := permitTracesUptoRow.holds Tryz.pinned (OpenSpec.upto permitTracesSpec)

/-- 'putloglaw32.PermitMore', WHERE WHAT IT READS IS OF BULK AT MOST 1048576: true; the input reads as it did. -/
def permitMoreUptoRow : OpenClaim := { program := "ytbpmlholiohkpaagreatdoor", sum := "ccd071d117407f09e2158523aa5aedae9a303692666d6fe5e16ad44305e00eaa", func := "putlog/putloglaw32.PermitMore", spec := "permitMore", inPlace := ["slices.overlaps[putlog/api.Unit]", "internal/abi.NoEscape", "slices.overlaps[putlog/api.Mark]", "slices.overlaps[putlog/api.Kept]", "slices.overlaps[putlog/api.Face]", "slices.overlaps[putlog/api.Mortar]"], unfollowed := true, recurses := true, named := ["putlog/unit.stuffs"], apart := false, laid := [("putlog/unit.stuffs", laid_putlog_unit_stuffs)], narrowed := true }
def PermitMoreUptoSaid : Prop := permitMoreUptoRow.holds Tryz.pinned (OpenSpec.upto permitMoreSpec)

end Rows
end Go.Proofs.YtbpmlholiohkpaaGreatDoor
