/-
  NARROWER THAN 'FOR EVERY INPUT', by the rows' own cells (each row's printed sentence says how): DrawMatchesReference: laid · DrawSitesMatchReference: laid · DrawPhases: laid · DrawActs: laid · DrawBooks: laid.
  DERIVED. THE GIVEN ROWS OF THIS SEAT. 5 by the template 'for every input the law returns true; each argument reads behind the call as it read before'; 0 by the template 'total and deterministic' (their statements: YtmdfgncoekfgdaaGreatDoorTotals.lean).
  GIVEN WITH THE SEED: the statements are not yours to turn. If you find one false, say at which input.
  Laid BY PROGRAM, IN A SANDBOX (cutbox-rows.mjs): the forced cells as the released guide's own fill.sh prints them over the translation 1e670615d1f0a8e5… (all of the seat's roots in one cut). By AI agents, Wed Nov 11 2026. No macro, syntax, notation, axiom, sorry.
-/
import Derived.Test.YtmdfgncoekfgdaaGreatDoorChecked
import GoSem.PinnedTables
import GoSem.Claim
import GoSem.ClaimJoined
import GoSem.ClaimMapViews
import Derived.JoinedTies
import Derived.KernelRfl
namespace Go.Proofs.YtmdfgncoekfgdaaGreatDoor
/- THE CELL 'sum', in the pinned program and in every row, IS THE sha256 OF THE DUMP (.gsa) THAT YtmdfgncoekfgdaaGreatDoorProg.lean LOADS. Nothing in Lean hashes anything: it is a label: what it is worth is what the hold of that sum in a sandbox is worth. -/
noncomputable def Tryz.pinned : Pinned := { name := "ytmdfgncoekfgdaagreatdoor", sum := "1e670615d1f0a8e58aba102e1493ca7305a8c1b3bdcf2eda0b99e11310580031", checked := Tryz.checked }
namespace Rows
def none {H : Type} : Left H := { results := [], args := [] }

/- WHAT THE LISTED PACKAGE-LEVEL VARIABLES READ AS WHEN THE CALL BEGINS. Each datum BY PROGRAM (the guide's laid-datum.mjs) off the statement by which the dump's own 'gosem.cut.vars' lays the variable. In a bare row this is a premise. The card (YtmdfgncoekfgdaaGreatDoorCards.lean) ties it to the program's text. -/
def laid_unicode_utf8_acceptRanges {H : Type} : DataW H := .agg [.agg [.lit (.int .u8 128), .lit (.int .u8 191)], .agg [.lit (.int .u8 160), .lit (.int .u8 191)], .agg [.lit (.int .u8 128), .lit (.int .u8 159)], .agg [.lit (.int .u8 144), .lit (.int .u8 191)], .agg [.lit (.int .u8 128), .lit (.int .u8 143)], .agg [.lit (.int .u8 0), .lit (.int .u8 0)], .agg [.lit (.int .u8 0), .lit (.int .u8 0)], .agg [.lit (.int .u8 0), .lit (.int .u8 0)], .agg [.lit (.int .u8 0), .lit (.int .u8 0)], .agg [.lit (.int .u8 0), .lit (.int .u8 0)], .agg [.lit (.int .u8 0), .lit (.int .u8 0)], .agg [.lit (.int .u8 0), .lit (.int .u8 0)], .agg [.lit (.int .u8 0), .lit (.int .u8 0)], .agg [.lit (.int .u8 0), .lit (.int .u8 0)], .agg [.lit (.int .u8 0), .lit (.int .u8 0)], .agg [.lit (.int .u8 0), .lit (.int .u8 0)]]
/-- One of Go's own tables, pinned by name: the form's constant. -/
def laid_unicode_utf8_first : DataW Unit := Go.Pinned.utf8First

/-- 'putloglaw41.DrawMatchesReference': WHATEVER THE INPUT: true; the input reads as it did. -/
def drawMatchesReferenceSpec : ChangeSpec := { name := "drawMatchesReference", fn := fun _ => fun
  | [d1, d2, d3, d4, d5, d6, d7, d8, d9, d10, d11] => { results := [.lit (.bool true)], args := [d1, d2, d3, d4, d5, d6, d7, d8, d9, d10, d11] }
  | _ => none }
def drawMatchesReferenceRow : OpenClaim := { program := "ytmdfgncoekfgdaagreatdoor", sum := "1e670615d1f0a8e58aba102e1493ca7305a8c1b3bdcf2eda0b99e11310580031", func := "putlog/putloglaw41.DrawMatchesReference", spec := "drawMatchesReference", inPlace := ["internal/abi.NoEscape", "internal/bytealg.MakeNoZero", "internal/bytealg.CountString", "internal/bytealg.IndexByteString", "internal/bytealg.IndexString", "slices.overlaps[putlog/api.Unit]", "slices.overlaps[putlog/api.Mark]"], unfollowed := true, recurses := true, named := ["unicode/utf8.first", "unicode/utf8.acceptRanges", "internal/bytealg.MaxLen"], plainKeys := false, apart := false, laid := [("unicode/utf8.acceptRanges", laid_unicode_utf8_acceptRanges), ("unicode/utf8.first", laid_unicode_utf8_first)] }
def DrawMatchesReferenceSaid : Prop := drawMatchesReferenceRow.holds Tryz.pinned (OpenSpec.ofChange drawMatchesReferenceSpec)

/-- ITS FALSE NEIGHBOUR: 'it returns false'. Refute it at one input. -/
def drawMatchesReferenceWrong : ChangeSpec := { name := "drawMatchesReference", fn := fun _ => fun
  | [d1, d2, d3, d4, d5, d6, d7, d8, d9, d10, d11] => { results := [.lit (.bool false)], args := [d1, d2, d3, d4, d5, d6, d7, d8, d9, d10, d11] }
  | _ => none }
def DrawMatchesReferenceWrongFalsely : Prop := drawMatchesReferenceRow.holds Tryz.pinned (OpenSpec.ofChange drawMatchesReferenceWrong)

/-- 'putloglaw41.DrawSitesMatchReference': WHATEVER THE INPUT: true; the input reads as it did. -/
def drawSitesMatchReferenceSpec : ChangeSpec := { name := "drawSitesMatchReference", fn := fun _ => fun
  | [d1, d2, d3, d4] => { results := [.lit (.bool true)], args := [d1, d2, d3, d4] }
  | _ => none }
def drawSitesMatchReferenceRow : OpenClaim := { program := "ytmdfgncoekfgdaagreatdoor", sum := "1e670615d1f0a8e58aba102e1493ca7305a8c1b3bdcf2eda0b99e11310580031", func := "putlog/putloglaw41.DrawSitesMatchReference", spec := "drawSitesMatchReference", inPlace := ["internal/abi.NoEscape", "internal/bytealg.MakeNoZero", "internal/bytealg.CountString", "internal/bytealg.IndexByteString", "internal/bytealg.IndexString", "slices.overlaps[putlog/api.Unit]", "slices.overlaps[putlog/api.Mark]"], unfollowed := true, recurses := true, named := ["unicode/utf8.first", "unicode/utf8.acceptRanges", "internal/bytealg.MaxLen"], plainKeys := false, apart := false, laid := [("unicode/utf8.acceptRanges", laid_unicode_utf8_acceptRanges), ("unicode/utf8.first", laid_unicode_utf8_first)] }
def DrawSitesMatchReferenceSaid : Prop := drawSitesMatchReferenceRow.holds Tryz.pinned (OpenSpec.ofChange drawSitesMatchReferenceSpec)

/-- ITS FALSE NEIGHBOUR: 'it returns false'. Refute it at one input. -/
def drawSitesMatchReferenceWrong : ChangeSpec := { name := "drawSitesMatchReference", fn := fun _ => fun
  | [d1, d2, d3, d4] => { results := [.lit (.bool false)], args := [d1, d2, d3, d4] }
  | _ => none }
def DrawSitesMatchReferenceWrongFalsely : Prop := drawSitesMatchReferenceRow.holds Tryz.pinned (OpenSpec.ofChange drawSitesMatchReferenceWrong)

/-- 'putloglaw41.DrawPhases': WHATEVER THE INPUT: true; the input reads as it did. -/
def drawPhasesSpec : ChangeSpec := { name := "drawPhases", fn := fun _ => fun
  | [d1, d2] => { results := [.lit (.bool true)], args := [d1, d2] }
  | _ => none }
def drawPhasesRow : OpenClaim := { program := "ytmdfgncoekfgdaagreatdoor", sum := "1e670615d1f0a8e58aba102e1493ca7305a8c1b3bdcf2eda0b99e11310580031", func := "putlog/putloglaw41.DrawPhases", spec := "drawPhases", inPlace := ["internal/abi.NoEscape", "internal/bytealg.MakeNoZero", "internal/bytealg.CountString", "internal/bytealg.IndexByteString", "internal/bytealg.IndexString", "slices.overlaps[putlog/api.Unit]", "slices.overlaps[putlog/api.Mark]"], unfollowed := true, recurses := true, named := ["unicode/utf8.first", "unicode/utf8.acceptRanges", "internal/bytealg.MaxLen"], plainKeys := false, apart := false, laid := [("unicode/utf8.acceptRanges", laid_unicode_utf8_acceptRanges), ("unicode/utf8.first", laid_unicode_utf8_first)] }
def DrawPhasesSaid : Prop := drawPhasesRow.holds Tryz.pinned (OpenSpec.ofChange drawPhasesSpec)

/-- ITS FALSE NEIGHBOUR: 'it returns false'. Refute it at one input. -/
def drawPhasesWrong : ChangeSpec := { name := "drawPhases", fn := fun _ => fun
  | [d1, d2] => { results := [.lit (.bool false)], args := [d1, d2] }
  | _ => none }
def DrawPhasesWrongFalsely : Prop := drawPhasesRow.holds Tryz.pinned (OpenSpec.ofChange drawPhasesWrong)

/-- 'putloglaw41.DrawActs': WHATEVER THE INPUT: true; the input reads as it did. -/
def drawActsSpec : ChangeSpec := { name := "drawActs", fn := fun _ => fun
  | [d1, d2] => { results := [.lit (.bool true)], args := [d1, d2] }
  | _ => none }
def drawActsRow : OpenClaim := { program := "ytmdfgncoekfgdaagreatdoor", sum := "1e670615d1f0a8e58aba102e1493ca7305a8c1b3bdcf2eda0b99e11310580031", func := "putlog/putloglaw41.DrawActs", spec := "drawActs", inPlace := ["internal/abi.NoEscape", "internal/bytealg.MakeNoZero", "internal/bytealg.CountString", "internal/bytealg.IndexByteString", "internal/bytealg.IndexString", "slices.overlaps[putlog/api.Unit]", "slices.overlaps[putlog/api.Mark]"], unfollowed := true, recurses := true, named := ["unicode/utf8.first", "unicode/utf8.acceptRanges", "internal/bytealg.MaxLen"], plainKeys := false, apart := false, laid := [("unicode/utf8.acceptRanges", laid_unicode_utf8_acceptRanges), ("unicode/utf8.first", laid_unicode_utf8_first)] }
def DrawActsSaid : Prop := drawActsRow.holds Tryz.pinned (OpenSpec.ofChange drawActsSpec)

/-- ITS FALSE NEIGHBOUR: 'it returns false'. Refute it at one input. -/
def drawActsWrong : ChangeSpec := { name := "drawActs", fn := fun _ => fun
  | [d1, d2] => { results := [.lit (.bool false)], args := [d1, d2] }
  | _ => none }
def DrawActsWrongFalsely : Prop := drawActsRow.holds Tryz.pinned (OpenSpec.ofChange drawActsWrong)

/-- 'putloglaw41.DrawBooks': WHATEVER THE INPUT: true; the input reads as it did. -/
def drawBooksSpec : ChangeSpec := { name := "drawBooks", fn := fun _ => fun
  | [d1, d2, d3] => { results := [.lit (.bool true)], args := [d1, d2, d3] }
  | _ => none }
def drawBooksRow : OpenClaim := { program := "ytmdfgncoekfgdaagreatdoor", sum := "1e670615d1f0a8e58aba102e1493ca7305a8c1b3bdcf2eda0b99e11310580031", func := "putlog/putloglaw41.DrawBooks", spec := "drawBooks", inPlace := ["internal/abi.NoEscape", "internal/bytealg.MakeNoZero", "internal/bytealg.CountString", "internal/bytealg.IndexByteString", "internal/bytealg.IndexString", "slices.overlaps[putlog/api.Unit]", "slices.overlaps[putlog/api.Mark]"], unfollowed := true, recurses := true, named := ["unicode/utf8.first", "unicode/utf8.acceptRanges", "internal/bytealg.MaxLen"], plainKeys := false, apart := false, laid := [("unicode/utf8.acceptRanges", laid_unicode_utf8_acceptRanges), ("unicode/utf8.first", laid_unicode_utf8_first)] }
def DrawBooksSaid : Prop := drawBooksRow.holds Tryz.pinned (OpenSpec.ofChange drawBooksSpec)

/-- ITS FALSE NEIGHBOUR: 'it returns false'. Refute it at one input. -/
def drawBooksWrong : ChangeSpec := { name := "drawBooks", fn := fun _ => fun
  | [d1, d2, d3] => { results := [.lit (.bool false)], args := [d1, d2, d3] }
  | _ => none }
def DrawBooksWrongFalsely : Prop := drawBooksRow.holds Tryz.pinned (OpenSpec.ofChange drawBooksWrong)

/- THE SECOND FORM. 'bulk': how many values and letters a reading holds, each counted each time it is reached (what is shared counts as often as it is met; a slice's spare places count too). A statement '..UptoSaid' is the law's where the arguments, and the package variables that the reading takes, are together of bulk at most 1048576: NARROWER than '..Said'. Prove '..Said' where nothing that the law and all that it calls make is longer than what came in: it says more and counts as full. Else prove '..UptoSaid'. A law counts once. -/
mutual
def uptoBulk {H : Type} : DataW H → Nat
  | .lit (.string bytes) => bytes.length + 1
  | .lit _ => 1
  | .nil => 1
  | .ptr d => uptoBulk d + 1
  | .slice elems spare => uptoBulkAll elems + uptoBulkAll spare + 1
  | .agg parts => uptoBulkAll parts + 1
  | .iface _ d => uptoBulk d + 1
  | .map entries => uptoBulkEntries entries + 1
  | .held _ => 1
def uptoBulkAll {H : Type} : List (DataW H) → Nat
  | [] => 0
  | d :: r => uptoBulk d + uptoBulkAll r
def uptoBulkEntries {H : Type} : List (Lit × DataW H) → Nat
  | [] => 0
  | x :: r => uptoBulkEntry x + uptoBulkEntries r
def uptoBulkEntry {H : Type} : Lit × DataW H → Nat
  | (.string bytes, d) => bytes.length + uptoBulk d + 1
  | (_, d) => uptoBulk d + 1
 end
def uptoSmall : (H : Type) → List (DataW H) → Bool := fun _ ds => decide (uptoBulkAll ds ≤ 1048576)
def OpenSpec.upto (s : _root_.Go.ChangeSpec) : _root_.Go.OpenSpec := { _root_.Go.OpenSpec.ofChange s with cond := some uptoSmall }

/-- 'putloglaw41.DrawMatchesReference', WHERE WHAT IT READS IS OF BULK AT MOST 1048576: true; the input reads as it did. -/
def drawMatchesReferenceUptoRow : OpenClaim := { program := "ytmdfgncoekfgdaagreatdoor", sum := "1e670615d1f0a8e58aba102e1493ca7305a8c1b3bdcf2eda0b99e11310580031", func := "putlog/putloglaw41.DrawMatchesReference", spec := "drawMatchesReference", inPlace := ["internal/abi.NoEscape", "internal/bytealg.MakeNoZero", "internal/bytealg.CountString", "internal/bytealg.IndexByteString", "internal/bytealg.IndexString", "slices.overlaps[putlog/api.Unit]", "slices.overlaps[putlog/api.Mark]"], unfollowed := true, recurses := true, named := ["unicode/utf8.first", "unicode/utf8.acceptRanges", "internal/bytealg.MaxLen"], plainKeys := false, apart := false, laid := [("unicode/utf8.acceptRanges", laid_unicode_utf8_acceptRanges), ("unicode/utf8.first", laid_unicode_utf8_first)], narrowed := true }
def DrawMatchesReferenceUptoSaid : Prop := drawMatchesReferenceUptoRow.holds Tryz.pinned (OpenSpec.upto drawMatchesReferenceSpec)

/-- 'putloglaw41.DrawSitesMatchReference', WHERE WHAT IT READS IS OF BULK AT MOST 1048576: true; the input reads as it did. -/
def drawSitesMatchReferenceUptoRow : OpenClaim := { program := "ytmdfgncoekfgdaagreatdoor", sum := "1e670615d1f0a8e58aba102e1493ca7305a8c1b3bdcf2eda0b99e11310580031", func := "putlog/putloglaw41.DrawSitesMatchReference", spec := "drawSitesMatchReference", inPlace := ["internal/abi.NoEscape", "internal/bytealg.MakeNoZero", "internal/bytealg.CountString", "internal/bytealg.IndexByteString", "internal/bytealg.IndexString", "slices.overlaps[putlog/api.Unit]", "slices.overlaps[putlog/api.Mark]"], unfollowed := true, recurses := true, named := ["unicode/utf8.first", "unicode/utf8.acceptRanges", "internal/bytealg.MaxLen"], plainKeys := false, apart := false, laid := [("unicode/utf8.acceptRanges", laid_unicode_utf8_acceptRanges), ("unicode/utf8.first", laid_unicode_utf8_first)], narrowed := true }
def DrawSitesMatchReferenceUptoSaid : Prop := drawSitesMatchReferenceUptoRow.holds Tryz.pinned (OpenSpec.upto drawSitesMatchReferenceSpec)

/-- 'putloglaw41.DrawPhases', WHERE WHAT IT READS IS OF BULK AT MOST 1048576: true; the input reads as it did. -/
def drawPhasesUptoRow : OpenClaim := { program := "ytmdfgncoekfgdaagreatdoor", sum := "1e670615d1f0a8e58aba102e1493ca7305a8c1b3bdcf2eda0b99e11310580031", func := "putlog/putloglaw41.DrawPhases", spec := "drawPhases", inPlace := ["internal/abi.NoEscape", "internal/bytealg.MakeNoZero", "internal/bytealg.CountString", "internal/bytealg.IndexByteString", "internal/bytealg.IndexString", "slices.overlaps[putlog/api.Unit]", "slices.overlaps[putlog/api.Mark]"], unfollowed := true, recurses := true, named := ["unicode/utf8.first", "unicode/utf8.acceptRanges", "internal/bytealg.MaxLen"], plainKeys := false, apart := false, laid := [("unicode/utf8.acceptRanges", laid_unicode_utf8_acceptRanges), ("unicode/utf8.first", laid_unicode_utf8_first)], narrowed := true }
def DrawPhasesUptoSaid : Prop := drawPhasesUptoRow.holds Tryz.pinned (OpenSpec.upto drawPhasesSpec)

/-- 'putloglaw41.DrawActs', WHERE WHAT IT READS IS OF BULK AT MOST 1048576: true; the input reads as it did. -/
def drawActsUptoRow : OpenClaim := { program := "ytmdfgncoekfgdaagreatdoor", sum := "1e670615d1f0a8e58aba102e1493ca7305a8c1b3bdcf2eda0b99e11310580031", func := "putlog/putloglaw41.DrawActs", spec := "drawActs", inPlace := ["internal/abi.NoEscape", "internal/bytealg.MakeNoZero", "internal/bytealg.CountString", "internal/bytealg.IndexByteString", "internal/bytealg.IndexString", "slices.overlaps[putlog/api.Unit]", "slices.overlaps[putlog/api.Mark]"], unfollowed := true, recurses := true, named := ["unicode/utf8.first", "unicode/utf8.acceptRanges", "internal/bytealg.MaxLen"], plainKeys := false, apart := false, laid := [("unicode/utf8.acceptRanges", laid_unicode_utf8_acceptRanges), ("unicode/utf8.first", laid_unicode_utf8_first)], narrowed := true }
def DrawActsUptoSaid : Prop := drawActsUptoRow.holds Tryz.pinned (OpenSpec.upto drawActsSpec)

/-- 'putloglaw41.DrawBooks', WHERE WHAT IT READS IS OF BULK AT MOST 1048576: true; the input reads as it did. -/
def drawBooksUptoRow : OpenClaim := { program := "ytmdfgncoekfgdaagreatdoor", sum := "1e670615d1f0a8e58aba102e1493ca7305a8c1b3bdcf2eda0b99e11310580031", func := "putlog/putloglaw41.DrawBooks", spec := "drawBooks", inPlace := ["internal/abi.NoEscape", "internal/bytealg.MakeNoZero", "internal/bytealg.CountString", "internal/bytealg.IndexByteString", "internal/bytealg.IndexString", "slices.overlaps[putlog/api.Unit]", "slices.overlaps[putlog/api.Mark]"], unfollowed := true, recurses := true, named := ["unicode/utf8.first", "unicode/utf8.acceptRanges", "internal/bytealg.MaxLen"], plainKeys := false, apart := false, laid := [("unicode/utf8.acceptRanges", laid_unicode_utf8_acceptRanges), ("unicode/utf8.first", laid_unicode_utf8_first)], narrowed := true }
def DrawBooksUptoSaid : Prop := drawBooksUptoRow.holds Tryz.pinned (OpenSpec.upto drawBooksSpec)

end Rows
end Go.Proofs.YtmdfgncoekfgdaaGreatDoor
