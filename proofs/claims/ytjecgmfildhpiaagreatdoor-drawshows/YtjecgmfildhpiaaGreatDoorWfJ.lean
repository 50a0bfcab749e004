/- The law DrawShows: the closed facts of its row, one by one. -/
import Derived.Test.YtjecgmfildhpiaaGreatDoorBtJ
/- The law DrawShows: the closed facts of its row, one by one. -/
namespace Go.Proofs.YtjecgmfildhpiaaGreatDoor.drawShows
open Go.ChangeShapes Go.WideShapes Go.ChangeAt Go.RowKit
namespace jf
theorem q1 : Rows.drawShowsRow.wf (OpenSpec.ofChange Rows.drawShowsSpec) = true := by kernel_rfl
theorem q2 : Tryz.f4.params.all (Tryz.prog.readableRec ·) = true := by kernel_rfl
theorem q3 : namedTie Tryz.prog Rows.drawShowsRow.named Rows.drawShowsSpec.vars = true := by kernel_rfl
theorem q4 : (Rows.drawShowsRow.inPlace == Tryz.prog.inPlace 4) = true := by kernel_rfl
theorem q5 : (Rows.drawShowsRow.unfollowed == Tryz.prog.unfollowed 4) = true := by kernel_rfl
theorem q6 : (Rows.drawShowsRow.recurses == Tryz.prog.recurses 4) = true := by kernel_rfl
theorem q7 : (Rows.drawShowsRow.named == Tryz.prog.varsNamed 4) = true := by kernel_rfl
theorem q8 : (Rows.drawShowsRow.plainKeys == Tryz.prog.plainKeys) = true := by kernel_rfl
theorem q9 : (Rows.drawShowsRow.lifted == Tryz.prog.liftsFinal) = true := by kernel_rfl
theorem q10 : (Tryz.prog.make == some Rows.drawShowsRow.make) = true := by kernel_rfl
end jf
theorem closed : joinedFacts Tryz.prog 4 Tryz.f4 Rows.drawShowsSpec Rows.drawShowsRow = true := by
  unfold joinedFacts
  repeat' (with_reducible apply band)
  · exact jf.q1
  · exact laidOut
  · exact jf.p2
  · exact jf.q2
  · exact jf.q3
  · rfl
  · exact jf.p3
  · rfl
  · exact jf.p4
  · exact jf.q4
  · exact jf.q5
  · exact jf.q6
  · exact jf.q7
  · kernel_rfl
  · kernel_rfl
  · kernel_rfl
  · kernel_rfl
  · kernel_rfl
  · kernel_rfl
  · kernel_rfl
  · kernel_rfl
  · kernel_rfl
  · exact jf.q8
  · rfl
  · exact jf.p5
  · exact jf.p6
  · exact jf.q9
  · exact jf.q10
  · kernel_rfl
  · kernel_rfl
  · kernel_rfl
  · kernel_rfl
theorem funcNamed : Tryz.pinned.checked.prog.funcNamed Rows.drawShowsRow.func = some 4 := by kernel_rfl
theorem isInst : Tryz.f4.isInstance Tryz.pinned.checked.prog Rows.drawShowsRow.origin Rows.drawShowsRow.targs := of_decide_eq_true (by kernel_rfl)
theorem isWrap : Tryz.f4.isWrapper Tryz.pinned.checked.prog Rows.drawShowsRow.wrapper Rows.drawShowsRow.mainSum := by unfold Func.isWrapper; first | (rw [if_pos (by decide +kernel)]; kernel_rfl) | (rw [if_neg (by decide +kernel)]; exact ⟨rfl, rfl⟩)
end Go.Proofs.YtjecgmfildhpiaaGreatDoor.drawShows
