/- The law EvidenceWitnesses: the .. -/
import Derived.Test.YtigpcbodmjjaiaaGreatDoorBtJ
namespace Go.Proofs.YtigpcbodmjjaiaaGreatDoor.dO
open Go.ChangeShapes Go.WideShapes Go.ChangeAt Go.RowKit
namespace jf
theorem q1:Rows.evidenceWitnessesRow.wf (OpenSpec.ofChange Rows.evidenceWitnessesSpec):=by kernel_rfl
theorem q2:Tryz.f5.params.all (Tryz.prog.readableRec ·):=by kernel_rfl
theorem q3:namedTie Tryz.prog Rows.evidenceWitnessesRow.named Rows.evidenceWitnessesSpec.vars:=by kernel_rfl
theorem q4:(Rows.evidenceWitnessesRow.inPlace==Tryz.prog.inPlace 5):=by kernel_rfl
theorem q5:(Rows.evidenceWitnessesRow.unfollowed==Tryz.prog.unfollowed 5):=by kernel_rfl
theorem q6:(Rows.evidenceWitnessesRow.recurses==Tryz.prog.recurses 5):=by kernel_rfl
theorem q7:(Rows.evidenceWitnessesRow.named==Tryz.prog.varsNamed 5):=by kernel_rfl
theorem q8:(Rows.evidenceWitnessesRow.plainKeys==Tryz.prog.plainKeys):=by kernel_rfl
theorem q9:(Rows.evidenceWitnessesRow.lifted==Tryz.prog.liftsFinal):=by kernel_rfl
theorem WN:(Tryz.prog.make==some Rows.evidenceWitnessesRow.make):=by kernel_rfl
end jf
theorem closed:joinedFacts Tryz.prog 5 Tryz.f5 Rows.evidenceWitnessesSpec Rows.evidenceWitnessesRow:=by
 unfold joinedFacts;repeat' (with_reducible apply Ze)
 ·exact jf.q1
 ·exact laidOut
 ·exact jf.p2
 ·exact jf.q2
 ·exact jf.q3
 ·rfl
 ·exact jf.p3
 ·rfl
 ·exact jf.p4
 ·exact jf.q4
 ·exact jf.q5
 ·exact jf.q6
 ·exact jf.q7
 ·kernel_rfl
 ·kernel_rfl
 ·kernel_rfl
 ·kernel_rfl
 ·kernel_rfl
 ·kernel_rfl
 ·kernel_rfl
 ·kernel_rfl
 ·kernel_rfl
 ·exact jf.q8
 ·rfl
 ·exact jf.p5
 ·exact jf.p6
 ·exact jf.q9
 ·exact jf.WN
 ·kernel_rfl
 ·kernel_rfl
 ·kernel_rfl
 kernel_rfl
theorem funcNamed:Tryz.pinned.checked.prog.funcNamed Rows.evidenceWitnessesRow.func=some 5:=by kernel_rfl
theorem Ue:Tryz.f5.isInstance Tryz.pinned.checked.prog Rows.evidenceWitnessesRow.origin Rows.evidenceWitnessesRow.targs:=aba (by kernel_rfl)
theorem isWrap:Tryz.f5.isWrapper Tryz.pinned.checked.prog Rows.evidenceWitnessesRow.wrapper Rows.evidenceWitnessesRow.mainSum:=by unfold Func.isWrapper;first |(rw[abe (by decide+kernel)];kernel_rfl) |(rw[abd (by decide+kernel)];exact⟨rfl,rfl⟩)
end Go.Proofs.YtigpcbodmjjaiaaGreatDoor.dO
