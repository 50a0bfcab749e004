/- The law DrawChanges: the closed facts of its row, one by one. -/
import Derived.Test.YtjecgmfildhpiaaGreatDoorBtJ
/- The law DrawChanges: the closed facts of its row, one by one. -/
namespace Go.Proofs.YtjecgmfildhpiaaGreatDoor.drawChanges
open Go.ChangeShapes Go.WideShapes Go.ChangeAt Go.RowKit
namespace jf
theorem q1 : Rows.drawChangesRow.wf (OpenSpec.ofChange Rows.drawChangesSpec) = true := by kernel_rfl
theorem q2 : Tryz.f7.params.all (Tryz.prog.readableRec ·) = true := by kernel_rfl
theorem q3 : namedTie Tryz.prog Rows.drawChangesRow.named Rows.drawChangesSpec.vars = true := by kernel_rfl
theorem q4 : (Rows.drawChangesRow.inPlace == Tryz.prog.inPlace 7) = true := by kernel_rfl
theorem q5 : (Rows.drawChangesRow.unfollowed == Tryz.prog.unfollowed 7) = true := by kernel_rfl
theorem q6 : (Rows.drawChangesRow.recurses == Tryz.prog.recurses 7) = true := by kernel_rfl
theorem q7 : (Rows.drawChangesRow.named == Tryz.prog.varsNamed 7) = true := by kernel_rfl
theorem q8 : (Rows.drawChangesRow.plainKeys == Tryz.prog.plainKeys) = true := by kernel_rfl
theorem q9 : (Rows.drawChangesRow.lifted == Tryz.prog.liftsFinal) = true := by kernel_rfl
theorem q10 : (Tryz.prog.make == some Rows.drawChangesRow.make) = true := by kernel_rfl
end jf
theorem closed : joinedFacts Tryz.prog 7 Tryz.f7 Rows.drawChangesSpec Rows.drawChangesRow = true := by
  unfold joinedFacts
  repeat' (with_reducible apply band)
  · exact jf.q1
  · exact laidOut
  · exact jf.p2
  · exact jf.q2
  · exact jf.q3
  · rfl
  · exact jf.p3
  · rfl
  · exact jf.p4
  · exact jf.q4
  · exact jf.q5
  · exact jf.q6
  · exact jf.q7
  · kernel_rfl
  · kernel_rfl
  · kernel_rfl
  · kernel_rfl
  · kernel_rfl
  · kernel_rfl
  · kernel_rfl
  · kernel_rfl
  · kernel_rfl
  · exact jf.q8
  · rfl
  · exact jf.p5
  · exact jf.p6
  · exact jf.q9
  · exact jf.q10
  · kernel_rfl
  · kernel_rfl
  · kernel_rfl
  · kernel_rfl
theorem funcNamed : Tryz.pinned.checked.prog.funcNamed Rows.drawChangesRow.func = some 7 := by kernel_rfl
theorem isInst : Tryz.f7.isInstance Tryz.pinned.checked.prog Rows.drawChangesRow.origin Rows.drawChangesRow.targs := of_decide_eq_true (by kernel_rfl)
theorem isWrap : Tryz.f7.isWrapper Tryz.pinned.checked.prog Rows.drawChangesRow.wrapper Rows.drawChangesRow.mainSum := by unfold Func.isWrapper; first | (rw [if_pos (by decide +kernel)]; kernel_rfl) | (rw [if_neg (by decide +kernel)]; exact ⟨rfl, rfl⟩)
end Go.Proofs.YtjecgmfildhpiaaGreatDoor.drawChanges
