/- The law WorksKeeps: the closed .. -/
import Derived.Test.YthffgohpkjpkbaaGreatDoorBtJ
set_option maxHeartbeats 1000000
namespace Go.Proofs.YthffgohpkjpkbaaGreatDoor.lh
open Go.ChangeShapes Go.WideShapes Go.ChangeAt Go.RowKit
namespace jf
theorem q1:Rows.worksKeepsRow.wf (OpenSpec.ofChange Rows.worksKeepsSpec)=true:=bv
theorem q2:Tryz.f4.params.all (Tryz.prog.readableRec ·)=true:=bv
theorem q3:namedTie Tryz.prog Rows.worksKeepsRow.named Rows.worksKeepsSpec.vars=true:=bv
theorem q4:(Rows.worksKeepsRow.inPlace==Tryz.prog.inPlace 4)=true:=bv
theorem q5:(Rows.worksKeepsRow.unfollowed==Tryz.prog.unfollowed 4)=true:=bv
theorem q6:(Rows.worksKeepsRow.recurses==Tryz.prog.recurses 4)=true:=bv
theorem q7:(Rows.worksKeepsRow.named==Tryz.prog.varsNamed 4)=true:=bv
theorem q8:(Rows.worksKeepsRow.plainKeys==Tryz.prog.plainKeys)=true:=bv
theorem q9:(Rows.worksKeepsRow.lifted==Tryz.prog.liftsFinal)=true:=bv
theorem q10:(Tryz.prog.make==some Rows.worksKeepsRow.make)=true:=bv
end jf
theorem closed:joinedFacts Tryz.prog 4 Tryz.f4 Rows.worksKeepsSpec Rows.worksKeepsRow:=by unfold joinedFacts;(repeat' (with_reducible apply band));exact jf.q1;exact laidOut;exact jf.p2;exact jf.q2;exact jf.q3;rfl;exact jf.p3;rfl;exact jf.p4;exact jf.q4;exact jf.q5;exact jf.q6;exact jf.q7;kernel_rfl;kernel_rfl;kernel_rfl;kernel_rfl;kernel_rfl;kernel_rfl;kernel_rfl;kernel_rfl;kernel_rfl;exact jf.q8;rfl;exact jf.p5;exact jf.p6;exact jf.q9;exact jf.q10;kernel_rfl;kernel_rfl;kernel_rfl;kernel_rfl
theorem funcNamed:Tryz.pinned.checked.prog.funcNamed Rows.worksKeepsRow.func=some 4:=bv
theorem abU:Tryz.f4.isInstance Tryz.pinned.checked.prog Rows.worksKeepsRow.origin Rows.worksKeepsRow.targs:=Mv bv
theorem isWrap:Tryz.f4.isWrapper Tryz.pinned.checked.prog Rows.worksKeepsRow.wrapper Rows.worksKeepsRow.mainSum:=by unfold Func.isWrapper;first|(rw[UG (by decide+kernel)];kernel_rfl)|(rw[ND (by decide+kernel)];exact⟨rfl,rfl⟩)
