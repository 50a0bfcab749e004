/-
  NARROWER THAN 'FOR EVERY INPUT', by the rows' own cells (each row's printed sentence says how): DrawMatchesReference: laid · DrawShows: laid · DrawViews: laid · DrawTexts: laid · DrawChanges: laid · DrawMoves: laid.
  DERIVED. THE GIVEN ROWS OF THIS SEAT. 6 by the template 'for every input the law returns true; each argument reads behind the call as it read before'; 0 by the template 'total and deterministic' (their statements: YtjecgmfildhpiaaGreatDoorTotals.lean).
  GIVEN WITH THE SEED: the statements are not yours to turn. If you find one false, say at which input.
  Laid BY PROGRAM, IN A SANDBOX (cutbox-rows.mjs): the forced cells as the released guide's own fill.sh prints them over the translation 4af4468f9d35833d… (all of the seat's roots in one cut). By AI agents, Wed Nov 11 2026. No macro, syntax, notation, axiom, sorry.
-/
import Derived.Test.YtjecgmfildhpiaaGreatDoorChecked
import GoSem.PinnedTables
import GoSem.Claim
import GoSem.ClaimJoined
import GoSem.ClaimMapViews
import Derived.JoinedTies
import Derived.KernelRfl
namespace Go.Proofs.YtjecgmfildhpiaaGreatDoor
/- THE CELL 'sum', in the pinned program and in every row, IS THE sha256 OF THE DUMP (.gsa) THAT YtjecgmfildhpiaaGreatDoorProg.lean LOADS. Nothing in Lean hashes anything: it is a label: what it is worth is what the hold of that sum in a sandbox is worth. -/
noncomputable def Tryz.pinned : Pinned := { name := "ytjecgmfildhpiaagreatdoor", sum := "4af4468f9d35833d760873672d4c26453813a9cec0fcea93904dbe2536f0c6eb", checked := Tryz.checked }
namespace Rows
def none {H : Type} : Left H := { results := [], args := [] }

/- WHAT THE LISTED PACKAGE-LEVEL VARIABLES READ AS WHEN THE CALL BEGINS. Each datum BY PROGRAM (the guide's laid-datum.mjs) off the statement by which the dump's own 'gosem.cut.vars' lays the variable. In a bare row this is a premise. The card (YtjecgmfildhpiaaGreatDoorCards.lean) ties it to the program's text. -/
def laid_unicode_utf8_acceptRanges {H : Type} : DataW H := .agg [.agg [.lit (.int .u8 128), .lit (.int .u8 191)], .agg [.lit (.int .u8 160), .lit (.int .u8 191)], .agg [.lit (.int .u8 128), .lit (.int .u8 159)], .agg [.lit (.int .u8 144), .lit (.int .u8 191)], .agg [.lit (.int .u8 128), .lit (.int .u8 143)], .agg [.lit (.int .u8 0), .lit (.int .u8 0)], .agg [.lit (.int .u8 0), .lit (.int .u8 0)], .agg [.lit (.int .u8 0), .lit (.int .u8 0)], .agg [.lit (.int .u8 0), .lit (.int .u8 0)], .agg [.lit (.int .u8 0), .lit (.int .u8 0)], .agg [.lit (.int .u8 0), .lit (.int .u8 0)], .agg [.lit (.int .u8 0), .lit (.int .u8 0)], .agg [.lit (.int .u8 0), .lit (.int .u8 0)], .agg [.lit (.int .u8 0), .lit (.int .u8 0)], .agg [.lit (.int .u8 0), .lit (.int .u8 0)], .agg [.lit (.int .u8 0), .lit (.int .u8 0)]]
/-- One of Go's own tables, pinned by name: the form's constant. -/
def laid_unicode_utf8_first : DataW Unit := Go.Pinned.utf8First

/-- 'putloglaw41.DrawMatchesReference': WHATEVER THE INPUT: true; the input reads as it did. -/
def drawMatchesReferenceSpec : ChangeSpec := { name := "drawMatchesReference", fn := fun _ => fun
  | [d1, d2, d3, d4, d5, d6, d7, d8, d9, d10, d11] => { results := [.lit (.bool true)], args := [d1, d2, d3, d4, d5, d6, d7, d8, d9, d10, d11] }
  | _ => none }
def drawMatchesReferenceRow : OpenClaim := { program := "ytjecgmfildhpiaagreatdoor", sum := "4af4468f9d35833d760873672d4c26453813a9cec0fcea93904dbe2536f0c6eb", func := "putlog/putloglaw41.DrawMatchesReference", spec := "drawMatchesReference", inPlace := ["internal/abi.NoEscape", "internal/bytealg.MakeNoZero", "internal/bytealg.CountString", "internal/bytealg.IndexByteString", "internal/bytealg.IndexString", "slices.overlaps[putlog/api.Unit]", "slices.overlaps[putlog/api.Mark]"], unfollowed := true, recurses := true, named := ["unicode/utf8.first", "unicode/utf8.acceptRanges", "internal/bytealg.MaxLen"], plainKeys := false, apart := false, laid := [("unicode/utf8.acceptRanges", laid_unicode_utf8_acceptRanges), ("unicode/utf8.first", laid_unicode_utf8_first)] }
def DrawMatchesReferenceSaid : Prop := drawMatchesReferenceRow.holds Tryz.pinned (OpenSpec.ofChange drawMatchesReferenceSpec)

/-- ITS FALSE NEIGHBOUR: 'it returns false'. Refute it at one input. -/
def drawMatchesReferenceWrong : ChangeSpec := { name := "drawMatchesReference", fn := fun _ => fun
  | [d1, d2, d3, d4, d5, d6, d7, d8, d9, d10, d11] => { results := [.lit (.bool false)], args := [d1, d2, d3, d4, d5, d6, d7, d8, d9, d10, d11] }
  | _ => none }
def DrawMatchesReferenceWrongFalsely : Prop := drawMatchesReferenceRow.holds Tryz.pinned (OpenSpec.ofChange drawMatchesReferenceWrong)

/-- 'putloglaw41.DrawShows': WHATEVER THE INPUT: true; the input reads as it did. -/
def drawShowsSpec : ChangeSpec := { name := "drawShows", fn := fun _ => fun
  | [d1, d2, d3] => { results := [.lit (.bool true)], args := [d1, d2, d3] }
  | _ => none }
def drawShowsRow : OpenClaim := { program := "ytjecgmfildhpiaagreatdoor", sum := "4af4468f9d35833d760873672d4c26453813a9cec0fcea93904dbe2536f0c6eb", func := "putlog/putloglaw41.DrawShows", spec := "drawShows", inPlace := ["internal/abi.NoEscape", "internal/bytealg.MakeNoZero", "internal/bytealg.CountString", "internal/bytealg.IndexByteString", "internal/bytealg.IndexString", "slices.overlaps[putlog/api.Unit]", "slices.overlaps[putlog/api.Mark]"], unfollowed := true, recurses := true, named := ["unicode/utf8.first", "unicode/utf8.acceptRanges", "internal/bytealg.MaxLen"], plainKeys := false, apart := false, laid := [("unicode/utf8.acceptRanges", laid_unicode_utf8_acceptRanges), ("unicode/utf8.first", laid_unicode_utf8_first)] }
def DrawShowsSaid : Prop := drawShowsRow.holds Tryz.pinned (OpenSpec.ofChange drawShowsSpec)

/-- ITS FALSE NEIGHBOUR: 'it returns false'. Refute it at one input. -/
def drawShowsWrong : ChangeSpec := { name := "drawShows", fn := fun _ => fun
  | [d1, d2, d3] => { results := [.lit (.bool false)], args := [d1, d2, d3] }
  | _ => none }
def DrawShowsWrongFalsely : Prop := drawShowsRow.holds Tryz.pinned (OpenSpec.ofChange drawShowsWrong)

/-- 'putloglaw41.DrawViews': WHATEVER THE INPUT: true; the input reads as it did. -/
def drawViewsSpec : ChangeSpec := { name := "drawViews", fn := fun _ => fun
  | [d1, d2, d3] => { results := [.lit (.bool true)], args := [d1, d2, d3] }
  | _ => none }
def drawViewsRow : OpenClaim := { program := "ytjecgmfildhpiaagreatdoor", sum := "4af4468f9d35833d760873672d4c26453813a9cec0fcea93904dbe2536f0c6eb", func := "putlog/putloglaw41.DrawViews", spec := "drawViews", inPlace := ["internal/abi.NoEscape", "internal/bytealg.MakeNoZero", "internal/bytealg.CountString", "internal/bytealg.IndexByteString", "internal/bytealg.IndexString", "slices.overlaps[putlog/api.Unit]", "slices.overlaps[putlog/api.Mark]"], unfollowed := true, recurses := true, named := ["unicode/utf8.first", "unicode/utf8.acceptRanges", "internal/bytealg.MaxLen"], plainKeys := false, apart := false, laid := [("unicode/utf8.acceptRanges", laid_unicode_utf8_acceptRanges), ("unicode/utf8.first", laid_unicode_utf8_first)] }
def DrawViewsSaid : Prop := drawViewsRow.holds Tryz.pinned (OpenSpec.ofChange drawViewsSpec)

/-- ITS FALSE NEIGHBOUR: 'it returns false'. Refute it at one input. -/
def drawViewsWrong : ChangeSpec := { name := "drawViews", fn := fun _ => fun
  | [d1, d2, d3] => { results := [.lit (.bool false)], args := [d1, d2, d3] }
  | _ => none }
def DrawViewsWrongFalsely : Prop := drawViewsRow.holds Tryz.pinned (OpenSpec.ofChange drawViewsWrong)

/-- 'putloglaw41.DrawTexts': WHATEVER THE INPUT: true; the input reads as it did. -/
def drawTextsSpec : ChangeSpec := { name := "drawTexts", fn := fun _ => fun
  | [d1, d2, d3, d4] => { results := [.lit (.bool true)], args := [d1, d2, d3, d4] }
  | _ => none }
def drawTextsRow : OpenClaim := { program := "ytjecgmfildhpiaagreatdoor", sum := "4af4468f9d35833d760873672d4c26453813a9cec0fcea93904dbe2536f0c6eb", func := "putlog/putloglaw41.DrawTexts", spec := "drawTexts", inPlace := ["internal/abi.NoEscape", "internal/bytealg.MakeNoZero", "internal/bytealg.CountString", "internal/bytealg.IndexByteString", "internal/bytealg.IndexString", "slices.overlaps[putlog/api.Unit]", "slices.overlaps[putlog/api.Mark]"], unfollowed := true, recurses := true, named := ["unicode/utf8.first", "unicode/utf8.acceptRanges", "internal/bytealg.MaxLen"], plainKeys := false, apart := false, laid := [("unicode/utf8.acceptRanges", laid_unicode_utf8_acceptRanges), ("unicode/utf8.first", laid_unicode_utf8_first)] }
def DrawTextsSaid : Prop := drawTextsRow.holds Tryz.pinned (OpenSpec.ofChange drawTextsSpec)

/-- ITS FALSE NEIGHBOUR: 'it returns false'. Refute it at one input. -/
def drawTextsWrong : ChangeSpec := { name := "drawTexts", fn := fun _ => fun
  | [d1, d2, d3, d4] => { results := [.lit (.bool false)], args := [d1, d2, d3, d4] }
  | _ => none }
def DrawTextsWrongFalsely : Prop := drawTextsRow.holds Tryz.pinned (OpenSpec.ofChange drawTextsWrong)

/-- 'putloglaw41.DrawChanges': WHATEVER THE INPUT: true; the input reads as it did. -/
def drawChangesSpec : ChangeSpec := { name := "drawChanges", fn := fun _ => fun
  | [d1, d2, d3, d4, d5, d6] => { results := [.lit (.bool true)], args := [d1, d2, d3, d4, d5, d6] }
  | _ => none }
def drawChangesRow : OpenClaim := { program := "ytjecgmfildhpiaagreatdoor", sum := "4af4468f9d35833d760873672d4c26453813a9cec0fcea93904dbe2536f0c6eb", func := "putlog/putloglaw41.DrawChanges", spec := "drawChanges", inPlace := ["internal/abi.NoEscape", "internal/bytealg.MakeNoZero", "internal/bytealg.CountString", "internal/bytealg.IndexByteString", "internal/bytealg.IndexString", "slices.overlaps[putlog/api.Unit]", "slices.overlaps[putlog/api.Mark]"], unfollowed := true, recurses := true, named := ["unicode/utf8.first", "unicode/utf8.acceptRanges", "internal/bytealg.MaxLen"], plainKeys := false, apart := false, laid := [("unicode/utf8.acceptRanges", laid_unicode_utf8_acceptRanges), ("unicode/utf8.first", laid_unicode_utf8_first)] }
def DrawChangesSaid : Prop := drawChangesRow.holds Tryz.pinned (OpenSpec.ofChange drawChangesSpec)

/-- ITS FALSE NEIGHBOUR: 'it returns false'. Refute it at one input. -/
def drawChangesWrong : ChangeSpec := { name := "drawChanges", fn := fun _ => fun
  | [d1, d2, d3, d4, d5, d6] => { results := [.lit (.bool false)], args := [d1, d2, d3, d4, d5, d6] }
  | _ => none }
def DrawChangesWrongFalsely : Prop := drawChangesRow.holds Tryz.pinned (OpenSpec.ofChange drawChangesWrong)

/-- 'putloglaw41.DrawMoves': WHATEVER THE INPUT: true; the input reads as it did. -/
def drawMovesSpec : ChangeSpec := { name := "drawMoves", fn := fun _ => fun
  | [d1, d2, d3, d4] => { results := [.lit (.bool true)], args := [d1, d2, d3, d4] }
  | _ => none }
def drawMovesRow : OpenClaim := { program := "ytjecgmfildhpiaagreatdoor", sum := "4af4468f9d35833d760873672d4c26453813a9cec0fcea93904dbe2536f0c6eb", func := "putlog/putloglaw41.DrawMoves", spec := "drawMoves", inPlace := ["internal/abi.NoEscape", "internal/bytealg.MakeNoZero", "internal/bytealg.CountString", "internal/bytealg.IndexByteString", "internal/bytealg.IndexString", "slices.overlaps[putlog/api.Unit]", "slices.overlaps[putlog/api.Mark]"], unfollowed := true, recurses := true, named := ["unicode/utf8.first", "unicode/utf8.acceptRanges", "internal/bytealg.MaxLen"], plainKeys := false, apart := false, laid := [("unicode/utf8.acceptRanges", laid_unicode_utf8_acceptRanges), ("unicode/utf8.first", laid_unicode_utf8_first)] }
def DrawMovesSaid : Prop := drawMovesRow.holds Tryz.pinned (OpenSpec.ofChange drawMovesSpec)

/-- ITS FALSE NEIGHBOUR: 'it returns false'. Refute it at one input. -/
def drawMovesWrong : ChangeSpec := { name := "drawMoves", fn := fun _ => fun
  | [d1, d2, d3, d4] => { results := [.lit (.bool false)], args := [d1, d2, d3, d4] }
  | _ => none }
def DrawMovesWrongFalsely : Prop := drawMovesRow.holds Tryz.pinned (OpenSpec.ofChange drawMovesWrong)

/- THE SECOND FORM. 'bulk': how many values and letters a reading holds, each counted each time it is reached (what is shared counts as often as it is met; a slice's spare places count too). A statement '..UptoSaid' is the law's where the arguments, and the package variables that the reading takes, are together of bulk at most 1048576: NARROWER than '..Said'. Prove '..Said' where nothing that the law and all that it calls make is longer than what came in: it says more and counts as full. Else prove '..UptoSaid'. A law counts once. -/
mutual
def uptoBulk {H : Type} : DataW H → Nat
  | .lit (.string bytes) => bytes.length + 1
  | .lit _ => 1
  | .nil => 1
  | .ptr d => uptoBulk d + 1
  | .slice elems spare => uptoBulkAll elems + uptoBulkAll spare + 1
  | .agg parts => uptoBulkAll parts + 1
  | .iface _ d => uptoBulk d + 1
  | .map entries => uptoBulkEntries entries + 1
  | .held _ => 1
def uptoBulkAll {H : Type} : List (DataW H) → Nat
  | [] => 0
  | d :: r => uptoBulk d + uptoBulkAll r
def uptoBulkEntries {H : Type} : List (Lit × DataW H) → Nat
  | [] => 0
  | x :: r => uptoBulkEntry x + uptoBulkEntries r
def uptoBulkEntry {H : Type} : Lit × DataW H → Nat
  | (.string bytes, d) => bytes.length + uptoBulk d + 1
  | (_, d) => uptoBulk d + 1
 end
def uptoSmall : (H : Type) → List (DataW H) → Bool := fun _ ds => decide (uptoBulkAll ds ≤ 1048576)
def OpenSpec.upto (s : _root_.Go.ChangeSpec) : _root_.Go.OpenSpec := { _root_.Go.OpenSpec.ofChange s with cond := some uptoSmall }

/-- 'putloglaw41.DrawMatchesReference', WHERE WHAT IT READS IS OF BULK AT MOST 1048576: true; the input reads as it did. -/
def drawMatchesReferenceUptoRow : OpenClaim := { program := "ytjecgmfildhpiaagreatdoor", sum := "4af4468f9d35833d760873672d4c26453813a9cec0fcea93904dbe2536f0c6eb", func := "putlog/putloglaw41.DrawMatchesReference", spec := "drawMatchesReference", inPlace := ["internal/abi.NoEscape", "internal/bytealg.MakeNoZero", "internal/bytealg.CountString", "internal/bytealg.IndexByteString", "internal/bytealg.IndexString", "slices.overlaps[putlog/api.Unit]", "slices.overlaps[putlog/api.Mark]"], unfollowed := true, recurses := true, named := ["unicode/utf8.first", "unicode/utf8.acceptRanges", "internal/bytealg.MaxLen"], plainKeys := false, apart := false, laid := [("unicode/utf8.acceptRanges", laid_unicode_utf8_acceptRanges), ("unicode/utf8.first", laid_unicode_utf8_first)], narrowed := true }
def DrawMatchesReferenceUptoSaid : Prop := drawMatchesReferenceUptoRow.holds Tryz.pinned (OpenSpec.upto drawMatchesReferenceSpec)

/-- 'putloglaw41.DrawShows', WHERE WHAT IT READS IS OF BULK AT MOST 1048576: true; the input reads as it did. -/
def drawShowsUptoRow : OpenClaim := { program := "ytjecgmfildhpiaagreatdoor", sum := "4af4468f9d35833d760873672d4c26453813a9cec0fcea93904dbe2536f0c6eb", func := "putlog/putloglaw41.DrawShows", spec := "drawShows", inPlace := ["internal/abi.NoEscape", "internal/bytealg.MakeNoZero", "internal/bytealg.CountString", "internal/bytealg.IndexByteString", "internal/bytealg.IndexString", "slices.overlaps[putlog/api.Unit]", "slices.overlaps[putlog/api.Mark]"], unfollowed := true, recurses := true, named := ["unicode/utf8.first", "unicode/utf8.acceptRanges", "internal/bytealg.MaxLen"], plainKeys := false, apart := false, laid := [("unicode/utf8.acceptRanges", laid_unicode_utf8_acceptRanges), ("unicode/utf8.first", laid_unicode_utf8_first)], narrowed := true }
def DrawShowsUptoSaid : Prop := drawShowsUptoRow.holds Tryz.pinned (OpenSpec.upto drawShowsSpec)

/-- 'putloglaw41.DrawViews', WHERE WHAT IT READS IS OF BULK AT MOST 1048576: true; the input reads as it did. -/
def drawViewsUptoRow : OpenClaim := { program := "ytjecgmfildhpiaagreatdoor", sum := "4af4468f9d35833d760873672d4c26453813a9cec0fcea93904dbe2536f0c6eb", func := "putlog/putloglaw41.DrawViews", spec := "drawViews", inPlace := ["internal/abi.NoEscape", "internal/bytealg.MakeNoZero", "internal/bytealg.CountString", "internal/bytealg.IndexByteString", "internal/bytealg.IndexString", "slices.overlaps[putlog/api.Unit]", "slices.overlaps[putlog/api.Mark]"], unfollowed := true, recurses := true, named := ["unicode/utf8.first", "unicode/utf8.acceptRanges", "internal/bytealg.MaxLen"], plainKeys := false, apart := false, laid := [("unicode/utf8.acceptRanges", laid_unicode_utf8_acceptRanges), ("unicode/utf8.first", laid_unicode_utf8_first)], narrowed := true }
def DrawViewsUptoSaid : Prop := drawViewsUptoRow.holds Tryz.pinned (OpenSpec.upto drawViewsSpec)

/-- 'putloglaw41.DrawTexts', WHERE WHAT IT READS IS OF BULK AT MOST 1048576: true; the input reads as it did. -/
def drawTextsUptoRow : OpenClaim := { program := "ytjecgmfildhpiaagreatdoor", sum := "4af4468f9d35833d760873672d4c26453813a9cec0fcea93904dbe2536f0c6eb", func := "putlog/putloglaw41.DrawTexts", spec := "drawTexts", inPlace := ["internal/abi.NoEscape", "internal/bytealg.MakeNoZero", "internal/bytealg.CountString", "internal/bytealg.IndexByteString", "internal/bytealg.IndexString", "slices.overlaps[putlog/api.Unit]", "slices.overlaps[putlog/api.Mark]"], unfollowed := true, recurses := true, named := ["unicode/utf8.first", "unicode/utf8.acceptRanges", "internal/bytealg.MaxLen"], plainKeys := false, apart := false, laid := [("unicode/utf8.acceptRanges", laid_unicode_utf8_acceptRanges), ("unicode/utf8.first", laid_unicode_utf8_first)], narrowed := true }
def DrawTextsUptoSaid : Prop := drawTextsUptoRow.holds Tryz.pinned (OpenSpec.upto drawTextsSpec)

/-- 'putloglaw41.DrawChanges', WHERE WHAT IT READS IS OF BULK AT MOST 1048576: true; the input reads as it did. -/
def drawChangesUptoRow : OpenClaim := { program := "ytjecgmfildhpiaagreatdoor", sum := "4af4468f9d35833d760873672d4c26453813a9cec0fcea93904dbe2536f0c6eb", func := "putlog/putloglaw41.DrawChanges", spec := "drawChanges", inPlace := ["internal/abi.NoEscape", "internal/bytealg.MakeNoZero", "internal/bytealg.CountString", "internal/bytealg.IndexByteString", "internal/bytealg.IndexString", "slices.overlaps[putlog/api.Unit]", "slices.overlaps[putlog/api.Mark]"], unfollowed := true, recurses := true, named := ["unicode/utf8.first", "unicode/utf8.acceptRanges", "internal/bytealg.MaxLen"], plainKeys := false, apart := false, laid := [("unicode/utf8.acceptRanges", laid_unicode_utf8_acceptRanges), ("unicode/utf8.first", laid_unicode_utf8_first)], narrowed := true }
def DrawChangesUptoSaid : Prop := drawChangesUptoRow.holds Tryz.pinned (OpenSpec.upto drawChangesSpec)

/-- 'putloglaw41.DrawMoves', WHERE WHAT IT READS IS OF BULK AT MOST 1048576: true; the input reads as it did. -/
def drawMovesUptoRow : OpenClaim := { program := "ytjecgmfildhpiaagreatdoor", sum := "4af4468f9d35833d760873672d4c26453813a9cec0fcea93904dbe2536f0c6eb", func := "putlog/putloglaw41.DrawMoves", spec := "drawMoves", inPlace := ["internal/abi.NoEscape", "internal/bytealg.MakeNoZero", "internal/bytealg.CountString", "internal/bytealg.IndexByteString", "internal/bytealg.IndexString", "slices.overlaps[putlog/api.Unit]", "slices.overlaps[putlog/api.Mark]"], unfollowed := true, recurses := true, named := ["unicode/utf8.first", "unicode/utf8.acceptRanges", "internal/bytealg.MaxLen"], plainKeys := false, apart := false, laid := [("unicode/utf8.acceptRanges", laid_unicode_utf8_acceptRanges), ("unicode/utf8.first", laid_unicode_utf8_first)], narrowed := true }
def DrawMovesUptoSaid : Prop := drawMovesUptoRow.holds Tryz.pinned (OpenSpec.upto drawMovesSpec)

end Rows
end Go.Proofs.YtjecgmfildhpiaaGreatDoor
