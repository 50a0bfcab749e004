/- The law DrawMoves: the closed facts of its row, one by one. -/
import Derived.Test.YtjecgmfildhpiaaGreatDoorBtJ
/- The law DrawMoves: the closed facts of its row, one by one. -/
namespace Go.Proofs.YtjecgmfildhpiaaGreatDoor.drawMoves
open Go.ChangeShapes Go.WideShapes Go.ChangeAt Go.RowKit
namespace jf
theorem q1 : Rows.drawMovesRow.wf (OpenSpec.ofChange Rows.drawMovesSpec) = true := by kernel_rfl
theorem q2 : Tryz.f8.params.all (Tryz.prog.readableRec ·) = true := by kernel_rfl
theorem q3 : namedTie Tryz.prog Rows.drawMovesRow.named Rows.drawMovesSpec.vars = true := by kernel_rfl
theorem q4 : (Rows.drawMovesRow.inPlace == Tryz.prog.inPlace 8) = true := by kernel_rfl
theorem q5 : (Rows.drawMovesRow.unfollowed == Tryz.prog.unfollowed 8) = true := by kernel_rfl
theorem q6 : (Rows.drawMovesRow.recurses == Tryz.prog.recurses 8) = true := by kernel_rfl
theorem q7 : (Rows.drawMovesRow.named == Tryz.prog.varsNamed 8) = true := by kernel_rfl
theorem q8 : (Rows.drawMovesRow.plainKeys == Tryz.prog.plainKeys) = true := by kernel_rfl
theorem q9 : (Rows.drawMovesRow.lifted == Tryz.prog.liftsFinal) = true := by kernel_rfl
theorem q10 : (Tryz.prog.make == some Rows.drawMovesRow.make) = true := by kernel_rfl
end jf
theorem closed : joinedFacts Tryz.prog 8 Tryz.f8 Rows.drawMovesSpec Rows.drawMovesRow = true := by
  unfold joinedFacts
  repeat' (with_reducible apply band)
  · exact jf.q1
  · exact laidOut
  · exact jf.p2
  · exact jf.q2
  · exact jf.q3
  · rfl
  · exact jf.p3
  · rfl
  · exact jf.p4
  · exact jf.q4
  · exact jf.q5
  · exact jf.q6
  · exact jf.q7
  · kernel_rfl
  · kernel_rfl
  · kernel_rfl
  · kernel_rfl
  · kernel_rfl
  · kernel_rfl
  · kernel_rfl
  · kernel_rfl
  · kernel_rfl
  · exact jf.q8
  · rfl
  · exact jf.p5
  · exact jf.p6
  · exact jf.q9
  · exact jf.q10
  · kernel_rfl
  · kernel_rfl
  · kernel_rfl
  · kernel_rfl
theorem funcNamed : Tryz.pinned.checked.prog.funcNamed Rows.drawMovesRow.func = some 8 := by kernel_rfl
theorem isInst : Tryz.f8.isInstance Tryz.pinned.checked.prog Rows.drawMovesRow.origin Rows.drawMovesRow.targs := of_decide_eq_true (by kernel_rfl)
theorem isWrap : Tryz.f8.isWrapper Tryz.pinned.checked.prog Rows.drawMovesRow.wrapper Rows.drawMovesRow.mainSum := by unfold Func.isWrapper; first | (rw [if_pos (by decide +kernel)]; kernel_rfl) | (rw [if_neg (by decide +kernel)]; exact ⟨rfl, rfl⟩)
end Go.Proofs.YtjecgmfildhpiaaGreatDoor.drawMoves
