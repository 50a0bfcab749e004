/- The law DrawTexts: the closed facts of its row, one by one. -/
import Derived.Test.YtjecgmfildhpiaaGreatDoorBtJ
/- The law DrawTexts: the closed facts of its row, one by one. -/
namespace Go.Proofs.YtjecgmfildhpiaaGreatDoor.drawTexts
open Go.ChangeShapes Go.WideShapes Go.ChangeAt Go.RowKit
namespace jf
theorem q1 : Rows.drawTextsRow.wf (OpenSpec.ofChange Rows.drawTextsSpec) = true := by kernel_rfl
theorem q2 : Tryz.f6.params.all (Tryz.prog.readableRec ·) = true := by kernel_rfl
theorem q3 : namedTie Tryz.prog Rows.drawTextsRow.named Rows.drawTextsSpec.vars = true := by kernel_rfl
theorem q4 : (Rows.drawTextsRow.inPlace == Tryz.prog.inPlace 6) = true := by kernel_rfl
theorem q5 : (Rows.drawTextsRow.unfollowed == Tryz.prog.unfollowed 6) = true := by kernel_rfl
theorem q6 : (Rows.drawTextsRow.recurses == Tryz.prog.recurses 6) = true := by kernel_rfl
theorem q7 : (Rows.drawTextsRow.named == Tryz.prog.varsNamed 6) = true := by kernel_rfl
theorem q8 : (Rows.drawTextsRow.plainKeys == Tryz.prog.plainKeys) = true := by kernel_rfl
theorem q9 : (Rows.drawTextsRow.lifted == Tryz.prog.liftsFinal) = true := by kernel_rfl
theorem q10 : (Tryz.prog.make == some Rows.drawTextsRow.make) = true := by kernel_rfl
end jf
theorem closed : joinedFacts Tryz.prog 6 Tryz.f6 Rows.drawTextsSpec Rows.drawTextsRow = true := by
  unfold joinedFacts
  repeat' (with_reducible apply band)
  · exact jf.q1
  · exact laidOut
  · exact jf.p2
  · exact jf.q2
  · exact jf.q3
  · rfl
  · exact jf.p3
  · rfl
  · exact jf.p4
  · exact jf.q4
  · exact jf.q5
  · exact jf.q6
  · exact jf.q7
  · kernel_rfl
  · kernel_rfl
  · kernel_rfl
  · kernel_rfl
  · kernel_rfl
  · kernel_rfl
  · kernel_rfl
  · kernel_rfl
  · kernel_rfl
  · exact jf.q8
  · rfl
  · exact jf.p5
  · exact jf.p6
  · exact jf.q9
  · exact jf.q10
  · kernel_rfl
  · kernel_rfl
  · kernel_rfl
  · kernel_rfl
theorem funcNamed : Tryz.pinned.checked.prog.funcNamed Rows.drawTextsRow.func = some 6 := by kernel_rfl
theorem isInst : Tryz.f6.isInstance Tryz.pinned.checked.prog Rows.drawTextsRow.origin Rows.drawTextsRow.targs := of_decide_eq_true (by kernel_rfl)
theorem isWrap : Tryz.f6.isWrapper Tryz.pinned.checked.prog Rows.drawTextsRow.wrapper Rows.drawTextsRow.mainSum := by unfold Func.isWrapper; first | (rw [if_pos (by decide +kernel)]; kernel_rfl) | (rw [if_neg (by decide +kernel)]; exact ⟨rfl, rfl⟩)
end Go.Proofs.YtjecgmfildhpiaaGreatDoor.drawTexts
