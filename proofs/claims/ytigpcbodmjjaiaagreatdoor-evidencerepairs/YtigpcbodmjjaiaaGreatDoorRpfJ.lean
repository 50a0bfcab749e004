/- The law EvidenceRepairs: the .. -/
import Derived.Test.YtigpcbodmjjaiaaGreatDoorBtJ
namespace Go.Proofs.YtigpcbodmjjaiaaGreatDoor.eG
open Go.ChangeShapes Go.WideShapes Go.ChangeAt Go.RowKit
namespace jf
theorem q1:Rows.evidenceRepairsRow.wf (OpenSpec.ofChange Rows.evidenceRepairsSpec)=true:=by kernel_rfl
theorem q2:Tryz.f3.params.all (Tryz.prog.readableRec ·)=true:=by kernel_rfl
theorem q3:namedTie Tryz.prog Rows.evidenceRepairsRow.named Rows.evidenceRepairsSpec.vars=true:=by kernel_rfl
theorem q4:(Rows.evidenceRepairsRow.inPlace==Tryz.prog.inPlace 3)=true:=by kernel_rfl
theorem q5:(Rows.evidenceRepairsRow.unfollowed==Tryz.prog.unfollowed 3)=true:=by kernel_rfl
theorem q6:(Rows.evidenceRepairsRow.recurses==Tryz.prog.recurses 3)=true:=by kernel_rfl
theorem q7:(Rows.evidenceRepairsRow.named==Tryz.prog.varsNamed 3)=true:=by kernel_rfl
theorem q8:(Rows.evidenceRepairsRow.plainKeys==Tryz.prog.plainKeys)=true:=by kernel_rfl
theorem q9:(Rows.evidenceRepairsRow.lifted==Tryz.prog.liftsFinal)=true:=by kernel_rfl
theorem WB:(Tryz.prog.make==some Rows.evidenceRepairsRow.make)=true:=by kernel_rfl
end jf
theorem closed:joinedFacts Tryz.prog 3 Tryz.f3 Rows.evidenceRepairsSpec Rows.evidenceRepairsRow:=by
 unfold joinedFacts;repeat' (with_reducible apply ab5)
 ·exact jf.q1
 ·exact laidOut
 ·exact jf.p2
 ·exact jf.q2
 ·exact jf.q3
 ·rfl
 ·exact jf.p3
 ·rfl
 ·exact jf.p4
 ·exact jf.q4
 ·exact jf.q5
 ·exact jf.q6
 ·exact jf.q7
 ·kernel_rfl
 ·kernel_rfl
 ·kernel_rfl
 ·kernel_rfl
 ·kernel_rfl
 ·kernel_rfl
 ·kernel_rfl
 ·kernel_rfl
 ·kernel_rfl
 ·exact jf.q8
 ·rfl
 ·exact jf.p5
 ·exact jf.p6
 ·exact jf.q9
 ·exact jf.WB
 ·kernel_rfl
 ·kernel_rfl
 ·kernel_rfl
 kernel_rfl
theorem funcNamed:Tryz.pinned.checked.prog.funcNamed Rows.evidenceRepairsRow.func=some 3:=by kernel_rfl
theorem adE:Tryz.f3.isInstance Tryz.pinned.checked.prog Rows.evidenceRepairsRow.origin Rows.evidenceRepairsRow.targs:=NT (by kernel_rfl)
theorem isWrap:Tryz.f3.isWrapper Tryz.pinned.checked.prog Rows.evidenceRepairsRow.wrapper Rows.evidenceRepairsRow.mainSum:=by unfold Func.isWrapper;first|(rw[Tf (by decide+kernel)];kernel_rfl)|(rw[QL (by decide+kernel)];exact⟨rfl,rfl⟩)
end Go.Proofs.YtigpcbodmjjaiaaGreatDoor.eG
