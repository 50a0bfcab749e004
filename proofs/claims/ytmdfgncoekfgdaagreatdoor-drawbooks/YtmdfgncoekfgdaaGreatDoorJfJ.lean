/- The law DrawBooks: the closed facts of its row, one by one. -/
import Derived.Test.YtmdfgncoekfgdaaGreatDoorBtJ
namespace Go.Proofs.YtmdfgncoekfgdaaGreatDoor.jr
open Go.ChangeShapes Go.WideShapes Go.ChangeAt Go.RowKit
namespace jf
theorem q1:Rows.drawBooksRow.wf (OpenSpec.ofChange Rows.drawBooksSpec)=true:=by kernel_rfl
theorem q2:Tryz.f7.params.all (Tryz.prog.readableRec ·)=true:=by kernel_rfl
theorem q3:namedTie Tryz.prog Rows.drawBooksRow.named Rows.drawBooksSpec.vars=true:=by kernel_rfl
theorem q4:(Rows.drawBooksRow.inPlace==Tryz.prog.inPlace 7)=true:=by kernel_rfl
theorem q5:(Rows.drawBooksRow.unfollowed==Tryz.prog.unfollowed 7)=true:=by kernel_rfl
theorem q6:(Rows.drawBooksRow.recurses==Tryz.prog.recurses 7)=true:=by kernel_rfl
theorem q7:(Rows.drawBooksRow.named==Tryz.prog.varsNamed 7)=true:=by kernel_rfl
theorem q8:(Rows.drawBooksRow.plainKeys==Tryz.prog.plainKeys)=true:=by kernel_rfl
theorem q9:(Rows.drawBooksRow.lifted==Tryz.prog.liftsFinal)=true:=by kernel_rfl
theorem Pd:(Tryz.prog.make==some Rows.drawBooksRow.make)=true:=by kernel_rfl
end jf
theorem closed:joinedFacts Tryz.prog 7 Tryz.f7 Rows.drawBooksSpec Rows.drawBooksRow=true:=by
 unfold joinedFacts
 repeat' (with_reducible apply Su)
 ·exact jf.q1
 ·exact laidOut
 ·exact jf.p2
 ·exact jf.q2
 ·exact jf.q3
 ·rfl
 ·exact jf.p3
 ·rfl
 ·exact jf.p4
 ·exact jf.q4
 ·exact jf.q5
 ·exact jf.q6
 ·exact jf.q7
 ·kernel_rfl
 ·kernel_rfl
 ·kernel_rfl
 ·kernel_rfl
 ·kernel_rfl
 ·kernel_rfl
 ·kernel_rfl
 ·kernel_rfl
 ·kernel_rfl
 ·exact jf.q8
 ·rfl
 ·exact jf.p5
 ·exact jf.p6
 ·exact jf.q9
 ·exact jf.Pd
 ·kernel_rfl
 ·kernel_rfl
 ·kernel_rfl
 ·kernel_rfl
theorem funcNamed:Tryz.pinned.checked.prog.funcNamed Rows.drawBooksRow.func=some 7:=by kernel_rfl
theorem Nf:Tryz.f7.isInstance Tryz.pinned.checked.prog Rows.drawBooksRow.origin Rows.drawBooksRow.targs:=of_decide_eq_true (by kernel_rfl)
theorem isWrap:Tryz.f7.isWrapper Tryz.pinned.checked.prog Rows.drawBooksRow.wrapper Rows.drawBooksRow.mainSum:=by unfold Func.isWrapper;first |(rw[if_pos (by decide+kernel)];kernel_rfl) |(rw[if_neg (by decide+kernel)];exact⟨rfl,rfl⟩)
end Go.Proofs.YtmdfgncoekfgdaaGreatDoor.jr
