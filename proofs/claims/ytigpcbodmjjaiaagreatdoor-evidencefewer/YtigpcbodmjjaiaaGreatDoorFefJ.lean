/- The law EvidenceFewer: the .. -/
import Derived.Test.YtigpcbodmjjaiaaGreatDoorBtJ
namespace Go.Proofs.YtigpcbodmjjaiaaGreatDoor.fD
open Go.ChangeShapes Go.WideShapes Go.ChangeAt Go.RowKit
namespace jf
theorem q1:Rows.evidenceFewerRow.wf (OpenSpec.ofChange Rows.evidenceFewerSpec)=true:=by kernel_rfl
theorem q2:Tryz.f4.params.all (Tryz.prog.readableRec ·)=true:=by kernel_rfl
theorem q3:namedTie Tryz.prog Rows.evidenceFewerRow.named Rows.evidenceFewerSpec.vars=true:=by kernel_rfl
theorem q4:(Rows.evidenceFewerRow.inPlace==Tryz.prog.inPlace 4)=true:=by kernel_rfl
theorem q5:(Rows.evidenceFewerRow.unfollowed==Tryz.prog.unfollowed 4)=true:=by kernel_rfl
theorem q6:(Rows.evidenceFewerRow.recurses==Tryz.prog.recurses 4)=true:=by kernel_rfl
theorem q7:(Rows.evidenceFewerRow.named==Tryz.prog.varsNamed 4)=true:=by kernel_rfl
theorem q8:(Rows.evidenceFewerRow.plainKeys==Tryz.prog.plainKeys)=true:=by kernel_rfl
theorem q9:(Rows.evidenceFewerRow.lifted==Tryz.prog.liftsFinal)=true:=by kernel_rfl
theorem Wj:(Tryz.prog.make==some Rows.evidenceFewerRow.make)=true:=by kernel_rfl
end jf
theorem closed:joinedFacts Tryz.prog 4 Tryz.f4 Rows.evidenceFewerSpec Rows.evidenceFewerRow:=by
 unfold joinedFacts;repeat' (with_reducible apply Y0)
 ·exact jf.q1
 ·exact laidOut
 ·exact jf.p2
 ·exact jf.q2
 ·exact jf.q3
 ·rfl
 ·exact jf.p3
 ·rfl
 ·exact jf.p4
 ·exact jf.q4
 ·exact jf.q5
 ·exact jf.q6
 ·exact jf.q7
 ·kernel_rfl
 ·kernel_rfl
 ·kernel_rfl
 ·kernel_rfl
 ·kernel_rfl
 ·kernel_rfl
 ·kernel_rfl
 ·kernel_rfl
 ·kernel_rfl
 ·exact jf.q8
 ·rfl
 ·exact jf.p5
 ·exact jf.p6
 ·exact jf.q9
 ·exact jf.Wj
 ·kernel_rfl
 ·kernel_rfl
 ·kernel_rfl
 kernel_rfl
theorem funcNamed:Tryz.pinned.checked.prog.funcNamed Rows.evidenceFewerRow.func=some 4:=by kernel_rfl
theorem Tw:Tryz.f4.isInstance Tryz.pinned.checked.prog Rows.evidenceFewerRow.origin Rows.evidenceFewerRow.targs:=aa1 (by kernel_rfl)
theorem isWrap:Tryz.f4.isWrapper Tryz.pinned.checked.prog Rows.evidenceFewerRow.wrapper Rows.evidenceFewerRow.mainSum:=by unfold Func.isWrapper;first |(rw[aa5 (by decide+kernel)];kernel_rfl) |(rw[aa4 (by decide+kernel)];exact⟨rfl,rfl⟩)
end Go.Proofs.YtigpcbodmjjaiaaGreatDoor.fD
