/- The law DrawActs: the closed .. -/
import Derived.Test.YtmdfgncoekfgdaaGreatDoorBtJ
namespace Go.Proofs.YtmdfgncoekfgdaaGreatDoor.mE
open Go.ChangeShapes Go.WideShapes Go.ChangeAt Go.RowKit
namespace jf
theorem q1:Rows.drawActsRow.wf (OpenSpec.ofChange Rows.drawActsSpec)=true:=by kernel_rfl
theorem q2:Tryz.f6.params.all (Tryz.prog.readableRec ·)=true:=by kernel_rfl
theorem q3:namedTie Tryz.prog Rows.drawActsRow.named Rows.drawActsSpec.vars=true:=by kernel_rfl
theorem q4:(Rows.drawActsRow.inPlace==Tryz.prog.inPlace 6)=true:=by kernel_rfl
theorem q5:(Rows.drawActsRow.unfollowed==Tryz.prog.unfollowed 6)=true:=by kernel_rfl
theorem q6:(Rows.drawActsRow.recurses==Tryz.prog.recurses 6)=true:=by kernel_rfl
theorem q7:(Rows.drawActsRow.named==Tryz.prog.varsNamed 6)=true:=by kernel_rfl
theorem q8:(Rows.drawActsRow.plainKeys==Tryz.prog.plainKeys)=true:=by kernel_rfl
theorem q9:(Rows.drawActsRow.lifted==Tryz.prog.liftsFinal)=true:=by kernel_rfl
theorem Ud:(Tryz.prog.make==some Rows.drawActsRow.make)=true:=by kernel_rfl
end jf
theorem closed:joinedFacts Tryz.prog 6 Tryz.f6 Rows.drawActsSpec Rows.drawActsRow=true:=by
 unfold joinedFacts;repeat' (with_reducible apply XT)
 ·exact jf.q1
 ·exact laidOut
 ·exact jf.p2
 ·exact jf.q2
 ·exact jf.q3
 ·rfl
 ·exact jf.p3
 ·rfl
 ·exact jf.p4
 ·exact jf.q4
 ·exact jf.q5
 ·exact jf.q6
 ·exact jf.q7
 ·kernel_rfl
 ·kernel_rfl
 ·kernel_rfl
 ·kernel_rfl
 ·kernel_rfl
 ·kernel_rfl
 ·kernel_rfl
 ·kernel_rfl
 ·kernel_rfl
 ·exact jf.q8
 ·rfl
 ·exact jf.p5
 ·exact jf.p6
 ·exact jf.q9
 ·exact jf.Ud
 ·kernel_rfl
 ·kernel_rfl
 ·kernel_rfl
 kernel_rfl
theorem funcNamed:Tryz.pinned.checked.prog.funcNamed Rows.drawActsRow.func=some 6:=by kernel_rfl
theorem Rh:Tryz.f6.isInstance Tryz.pinned.checked.prog Rows.drawActsRow.origin Rows.drawActsRow.targs:=abe (by kernel_rfl)
theorem isWrap:Tryz.f6.isWrapper Tryz.pinned.checked.prog Rows.drawActsRow.wrapper Rows.drawActsRow.mainSum:=by unfold Func.isWrapper;first |(rw[aaf (by decide+kernel)];kernel_rfl) |(rw[aaa (by decide+kernel)];exact⟨rfl,rfl⟩)
end Go.Proofs.YtmdfgncoekfgdaaGreatDoor.mE
