/- The law PermitDecides: the closed facts of its row, one by one. -/
import Derived.Test.YtbpmlholiohkpaaGreatDoorBt
/- The law PermitDecides: the closed facts of its row, one by one. -/
namespace Go.Proofs.YtbpmlholiohkpaaGreatDoor.permitDecides
open Go.ChangeShapes Go.WideShapes Go.ChangeAt Go.RowKit
namespace jf
theorem q1 : Rows.permitDecidesRow.wf (OpenSpec.ofChange Rows.permitDecidesSpec) = true := by kernel_rfl
theorem q2 : Tryz.f3.params.all (Tryz.prog.readableRec ·) = true := by kernel_rfl
theorem q3 : namedTie Tryz.prog Rows.permitDecidesRow.named Rows.permitDecidesSpec.vars = true := by kernel_rfl
theorem q4 : (Rows.permitDecidesRow.inPlace == Tryz.prog.inPlace 3) = true := by kernel_rfl
theorem q5 : (Rows.permitDecidesRow.unfollowed == Tryz.prog.unfollowed 3) = true := by kernel_rfl
theorem q6 : (Rows.permitDecidesRow.recurses == Tryz.prog.recurses 3) = true := by kernel_rfl
theorem q7 : (Rows.permitDecidesRow.named == Tryz.prog.varsNamed 3) = true := by kernel_rfl
theorem q8 : (Rows.permitDecidesRow.plainKeys == Tryz.prog.plainKeys) = true := by kernel_rfl
theorem q9 : (Rows.permitDecidesRow.lifted == Tryz.prog.liftsFinal) = true := by kernel_rfl
theorem q10 : (Tryz.prog.make == some Rows.permitDecidesRow.make) = true := by kernel_rfl
end jf
theorem closed : joinedFacts Tryz.prog 3 Tryz.f3 Rows.permitDecidesSpec Rows.permitDecidesRow = true := by
  unfold joinedFacts
  repeat' (with_reducible apply band)
  · exact jf.q1
  · exact laidOut
  · exact jf.p2
  · exact jf.q2
  · exact jf.q3
  · rfl
  · exact jf.p3
  · rfl
  · exact jf.p4
  · exact jf.q4
  · exact jf.q5
  · exact jf.q6
  · exact jf.q7
  · kernel_rfl
  · kernel_rfl
  · kernel_rfl
  · kernel_rfl
  · kernel_rfl
  · kernel_rfl
  · kernel_rfl
  · kernel_rfl
  · kernel_rfl
  · exact jf.q8
  · rfl
  · exact jf.p5
  · exact jf.p6
  · exact jf.q9
  · exact jf.q10
  · kernel_rfl
  · kernel_rfl
  · kernel_rfl
  · kernel_rfl
theorem funcNamed : Tryz.pinned.checked.prog.funcNamed Rows.permitDecidesRow.func = some 3 := by kernel_rfl
theorem isInst : Tryz.f3.isInstance Tryz.pinned.checked.prog Rows.permitDecidesRow.origin Rows.permitDecidesRow.targs := of_decide_eq_true (by kernel_rfl)
theorem isWrap : Tryz.f3.isWrapper Tryz.pinned.checked.prog Rows.permitDecidesRow.wrapper Rows.permitDecidesRow.mainSum := by unfold Func.isWrapper; first | (rw [if_pos (by decide +kernel)]; kernel_rfl) | (rw [if_neg (by decide +kernel)]; exact ⟨rfl, rfl⟩)
end Go.Proofs.YtbpmlholiohkpaaGreatDoor.permitDecides
