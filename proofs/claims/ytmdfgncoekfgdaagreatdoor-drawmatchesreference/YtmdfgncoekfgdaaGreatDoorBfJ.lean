/- The law DrawMatchesReference: the closed facts of its row, one by one. -/
import Derived.Test.YtmdfgncoekfgdaaGreatDoorBtJ
namespace Go.Proofs.YtmdfgncoekfgdaaGreatDoor.cO
open Go.ChangeShapes Go.WideShapes Go.ChangeAt Go.RowKit
namespace jf
theorem q1:Rows.drawMatchesReferenceRow.wf (OpenSpec.ofChange Rows.drawMatchesReferenceSpec)=true:=by kernel_rfl
theorem q2:Tryz.f3.params.all (Tryz.prog.readableRec ·)=true:=by kernel_rfl
theorem q3:namedTie Tryz.prog Rows.drawMatchesReferenceRow.named Rows.drawMatchesReferenceSpec.vars=true:=by kernel_rfl
theorem q4:(Rows.drawMatchesReferenceRow.inPlace==Tryz.prog.inPlace 3)=true:=by kernel_rfl
theorem q5:(Rows.drawMatchesReferenceRow.unfollowed==Tryz.prog.unfollowed 3)=true:=by kernel_rfl
theorem q6:(Rows.drawMatchesReferenceRow.recurses==Tryz.prog.recurses 3)=true:=by kernel_rfl
theorem q7:(Rows.drawMatchesReferenceRow.named==Tryz.prog.varsNamed 3)=true:=by kernel_rfl
theorem q8:(Rows.drawMatchesReferenceRow.plainKeys==Tryz.prog.plainKeys)=true:=by kernel_rfl
theorem q9:(Rows.drawMatchesReferenceRow.lifted==Tryz.prog.liftsFinal)=true:=by kernel_rfl
theorem Lt:(Tryz.prog.make==some Rows.drawMatchesReferenceRow.make)=true:=by kernel_rfl
end jf
theorem closed:joinedFacts Tryz.prog 3 Tryz.f3 Rows.drawMatchesReferenceSpec Rows.drawMatchesReferenceRow=true:=by
 unfold joinedFacts
 repeat' (with_reducible apply QM)
 ·exact jf.q1
 ·exact laidOut
 ·exact jf.p2
 ·exact jf.q2
 ·exact jf.q3
 ·rfl
 ·exact jf.p3
 ·rfl
 ·exact jf.p4
 ·exact jf.q4
 ·exact jf.q5
 ·exact jf.q6
 ·exact jf.q7
 ·kernel_rfl
 ·kernel_rfl
 ·kernel_rfl
 ·kernel_rfl
 ·kernel_rfl
 ·kernel_rfl
 ·kernel_rfl
 ·kernel_rfl
 ·kernel_rfl
 ·exact jf.q8
 ·rfl
 ·exact jf.p5
 ·exact jf.p6
 ·exact jf.q9
 ·exact jf.Lt
 ·kernel_rfl
 ·kernel_rfl
 ·kernel_rfl
 ·kernel_rfl
theorem funcNamed:Tryz.pinned.checked.prog.funcNamed Rows.drawMatchesReferenceRow.func=some 3:=by kernel_rfl
theorem LI:Tryz.f3.isInstance Tryz.pinned.checked.prog Rows.drawMatchesReferenceRow.origin Rows.drawMatchesReferenceRow.targs:=of_decide_eq_true (by kernel_rfl)
theorem isWrap:Tryz.f3.isWrapper Tryz.pinned.checked.prog Rows.drawMatchesReferenceRow.wrapper Rows.drawMatchesReferenceRow.mainSum:=by unfold Func.isWrapper;first |(rw[if_pos (by decide+kernel)];kernel_rfl) |(rw[if_neg (by decide+kernel)];exact⟨rfl,rfl⟩)
end Go.Proofs.YtmdfgncoekfgdaaGreatDoor.cO
