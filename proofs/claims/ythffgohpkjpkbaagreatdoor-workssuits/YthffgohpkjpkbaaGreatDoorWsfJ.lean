/- The law WorksSuits: the closed .. -/
import Derived.Test.YthffgohpkjpkbaaGreatDoorBtJ
set_option maxHeartbeats 1000000
namespace Go.Proofs.YthffgohpkjpkbaaGreatDoor.kZ
open Go.ChangeShapes Go.WideShapes Go.ChangeAt Go.RowKit
namespace jf
theorem q1:Rows.worksSuitsRow.wf (OpenSpec.ofChange Rows.worksSuitsSpec)=true:=bv
theorem q2:Tryz.f3.params.all (Tryz.prog.readableRec ·)=true:=bv
theorem q3:namedTie Tryz.prog Rows.worksSuitsRow.named Rows.worksSuitsSpec.vars=true:=bv
theorem q4:(Rows.worksSuitsRow.inPlace==Tryz.prog.inPlace 3)=true:=bv
theorem q5:(Rows.worksSuitsRow.unfollowed==Tryz.prog.unfollowed 3)=true:=bv
theorem q6:(Rows.worksSuitsRow.recurses==Tryz.prog.recurses 3)=true:=bv
theorem q7:(Rows.worksSuitsRow.named==Tryz.prog.varsNamed 3)=true:=bv
theorem q8:(Rows.worksSuitsRow.plainKeys==Tryz.prog.plainKeys)=true:=bv
theorem q9:(Rows.worksSuitsRow.lifted==Tryz.prog.liftsFinal)=true:=bv
theorem q10:(Tryz.prog.make==some Rows.worksSuitsRow.make)=true:=bv
end jf
theorem closed:joinedFacts Tryz.prog 3 Tryz.f3 Rows.worksSuitsSpec Rows.worksSuitsRow:=by unfold joinedFacts;(repeat' (with_reducible apply band));exact jf.q1;exact laidOut;exact jf.p2;exact jf.q2;exact jf.q3;rfl;exact jf.p3;rfl;exact jf.p4;exact jf.q4;exact jf.q5;exact jf.q6;exact jf.q7;kernel_rfl;kernel_rfl;kernel_rfl;kernel_rfl;kernel_rfl;kernel_rfl;kernel_rfl;kernel_rfl;kernel_rfl;exact jf.q8;rfl;exact jf.p5;exact jf.p6;exact jf.q9;exact jf.q10;kernel_rfl;kernel_rfl;kernel_rfl;kernel_rfl
theorem funcNamed:Tryz.pinned.checked.prog.funcNamed Rows.worksSuitsRow.func=some 3:=bv
theorem aa7:Tryz.f3.isInstance Tryz.pinned.checked.prog Rows.worksSuitsRow.origin Rows.worksSuitsRow.targs:=Ds bv
theorem isWrap:Tryz.f3.isWrapper Tryz.pinned.checked.prog Rows.worksSuitsRow.wrapper Rows.worksSuitsRow.mainSum:=by unfold Func.isWrapper;first|(rw[QL (by decide+kernel)];kernel_rfl)|(rw[MO (by decide+kernel)];exact⟨rfl,rfl⟩)
