/- The law WorksRecords: the closed .. -/
import Derived.Test.YtjpegplpgihmdaaGreatDoorBtJ
set_option maxHeartbeats 1000000
namespace Go.Proofs.YtjpegplpgihmdaaGreatDoor.jg
open Go.ChangeShapes Go.WideShapes Go.ChangeAt Go.RowKit
namespace jf
theorem q1:Rows.worksRecordsRow.wf (OpenSpec.ofChange Rows.worksRecordsSpec)=true:=bv
theorem q2:Tryz.f3.params.all (Tryz.prog.readableRec ·)=true:=bv
theorem q3:namedTie Tryz.prog Rows.worksRecordsRow.named Rows.worksRecordsSpec.vars=true:=bv
theorem q4:(Rows.worksRecordsRow.inPlace==Tryz.prog.inPlace 3)=true:=bv
theorem q5:(Rows.worksRecordsRow.unfollowed==Tryz.prog.unfollowed 3)=true:=bv
theorem q6:(Rows.worksRecordsRow.recurses==Tryz.prog.recurses 3)=true:=bv
theorem q7:(Rows.worksRecordsRow.named==Tryz.prog.varsNamed 3)=true:=bv
theorem q8:(Rows.worksRecordsRow.plainKeys==Tryz.prog.plainKeys)=true:=bv
theorem q9:(Rows.worksRecordsRow.lifted==Tryz.prog.liftsFinal)=true:=bv
theorem ZL:(Tryz.prog.make==some Rows.worksRecordsRow.make)=true:=bv
end jf
theorem closed:joinedFacts Tryz.prog 3 Tryz.f3 Rows.worksRecordsSpec Rows.worksRecordsRow:=by unfold joinedFacts;(repeat' (with_reducible apply band));exact jf.q1;exact laidOut;exact jf.p2;exact jf.q2;exact jf.q3;rfl;exact jf.p3;rfl;exact jf.p4;exact jf.q4;exact jf.q5;exact jf.q6;exact jf.q7;kernel_rfl;kernel_rfl;kernel_rfl;kernel_rfl;kernel_rfl;kernel_rfl;kernel_rfl;kernel_rfl;kernel_rfl;exact jf.q8;rfl;exact jf.p5;exact jf.p6;exact jf.q9;exact jf.ZL;kernel_rfl;kernel_rfl;kernel_rfl;kernel_rfl
theorem funcNamed:Tryz.pinned.checked.prog.funcNamed Rows.worksRecordsRow.func=some 3:=bv
theorem WM:Tryz.f3.isInstance Tryz.pinned.checked.prog Rows.worksRecordsRow.origin Rows.worksRecordsRow.targs:=R7 bv
theorem isWrap:Tryz.f3.isWrapper Tryz.pinned.checked.prog Rows.worksRecordsRow.wrapper Rows.worksRecordsRow.mainSum:=by unfold Func.isWrapper;first|(rw[F6 (by decide+kernel)];kernel_rfl)|(rw[Od (by decide+kernel)];exact⟨rfl,rfl⟩)
