/- The law DrawViews: the closed facts of its row, one by one. -/
import Derived.Test.YtjecgmfildhpiaaGreatDoorBtJ
/- The law DrawViews: the closed facts of its row, one by one. -/
namespace Go.Proofs.YtjecgmfildhpiaaGreatDoor.drawViews
open Go.ChangeShapes Go.WideShapes Go.ChangeAt Go.RowKit
namespace jf
theorem q1 : Rows.drawViewsRow.wf (OpenSpec.ofChange Rows.drawViewsSpec) = true := by kernel_rfl
theorem q2 : Tryz.f5.params.all (Tryz.prog.readableRec ·) = true := by kernel_rfl
theorem q3 : namedTie Tryz.prog Rows.drawViewsRow.named Rows.drawViewsSpec.vars = true := by kernel_rfl
theorem q4 : (Rows.drawViewsRow.inPlace == Tryz.prog.inPlace 5) = true := by kernel_rfl
theorem q5 : (Rows.drawViewsRow.unfollowed == Tryz.prog.unfollowed 5) = true := by kernel_rfl
theorem q6 : (Rows.drawViewsRow.recurses == Tryz.prog.recurses 5) = true := by kernel_rfl
theorem q7 : (Rows.drawViewsRow.named == Tryz.prog.varsNamed 5) = true := by kernel_rfl
theorem q8 : (Rows.drawViewsRow.plainKeys == Tryz.prog.plainKeys) = true := by kernel_rfl
theorem q9 : (Rows.drawViewsRow.lifted == Tryz.prog.liftsFinal) = true := by kernel_rfl
theorem q10 : (Tryz.prog.make == some Rows.drawViewsRow.make) = true := by kernel_rfl
end jf
theorem closed : joinedFacts Tryz.prog 5 Tryz.f5 Rows.drawViewsSpec Rows.drawViewsRow = true := by
  unfold joinedFacts
  repeat' (with_reducible apply band)
  · exact jf.q1
  · exact laidOut
  · exact jf.p2
  · exact jf.q2
  · exact jf.q3
  · rfl
  · exact jf.p3
  · rfl
  · exact jf.p4
  · exact jf.q4
  · exact jf.q5
  · exact jf.q6
  · exact jf.q7
  · kernel_rfl
  · kernel_rfl
  · kernel_rfl
  · kernel_rfl
  · kernel_rfl
  · kernel_rfl
  · kernel_rfl
  · kernel_rfl
  · kernel_rfl
  · exact jf.q8
  · rfl
  · exact jf.p5
  · exact jf.p6
  · exact jf.q9
  · exact jf.q10
  · kernel_rfl
  · kernel_rfl
  · kernel_rfl
  · kernel_rfl
theorem funcNamed : Tryz.pinned.checked.prog.funcNamed Rows.drawViewsRow.func = some 5 := by kernel_rfl
theorem isInst : Tryz.f5.isInstance Tryz.pinned.checked.prog Rows.drawViewsRow.origin Rows.drawViewsRow.targs := of_decide_eq_true (by kernel_rfl)
theorem isWrap : Tryz.f5.isWrapper Tryz.pinned.checked.prog Rows.drawViewsRow.wrapper Rows.drawViewsRow.mainSum := by unfold Func.isWrapper; first | (rw [if_pos (by decide +kernel)]; kernel_rfl) | (rw [if_neg (by decide +kernel)]; exact ⟨rfl, rfl⟩)
end Go.Proofs.YtjecgmfildhpiaaGreatDoor.drawViews
