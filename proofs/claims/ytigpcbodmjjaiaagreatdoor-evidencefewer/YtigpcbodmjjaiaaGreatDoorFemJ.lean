/- The law EvidenceFewer, for every input: it returns true and leaves its arguments as they were (no condition; the listed package variable is tied to the program's text by the given card). -/
import Derived.Test.YtigpcbodmjjaiaaGreatDoorFeaJ
import Derived.Test.YtigpcbodmjjaiaaGreatDoorFefJ
set_option maxRecDepth 100000
namespace Go.Proofs.YtigpcbodmjjaiaaGreatDoor.fD
open Go.ChangeShapes Go.WideShapes Go.ChangeAt Go.RowKit
theorem said:Rows.EvidenceFewerSaid:=
 OpenClaim.holds_of_cond 4 Tryz.f4 rfl rfl rfl rfl rfl rfl rfl ⟨rfl,rfl,rfl,rfl,rfl⟩ rfl rfl rfl rfl rfl funcNamed Tryz.func4 closed Tw isWrap (λos started H enc _ F=>by rw[OpenClaim.pre_eq_preRow];exact lifted os started H enc F)
theorem wfT:Rows.evidenceFewerRow.wfByText (OpenSpec.ofChange Rows.evidenceFewerSpec)=true:=by kernel_rfl
theorem WJ:Tryz.pinned.checked.prog.mainIs=some (true, "f46eaa7c6e732c1d9041727cb76d95df1db70db873e51e514363cb367ea7c8f1".toList):=by kernel_rfl
theorem Tt:true=Tryz.pinned.checked.prog.looks []:=by kernel_rfl
theorem WT:false=Rows.evidenceFewerRow.goesBy Tryz.pinned.checked.prog:=by kernel_rfl
theorem plain(f:FuncId)(fn:Func)(hf:Tryz.pinned.checked.prog.funcNamed "putlog/putloglaw29.EvidenceFewer" =some f)(H:Tryz.pinned.checked.prog.funcs[f]?=some fn):
  true=Tryz.pinned.checked.prog.looks []/\∀(j:Nat) t,fn.params[j]?=some t->Tryz.pinned.checked.prog.wantsStandIn t=false:=by
 obtain rfl:f=4:=Option.some.inj ((show Tryz.prog.funcNamed "putlog/putloglaw29.EvidenceFewer" =some 4 by kernel_rfl).symm.trans hf) |>.symm
 obtain rfl:fn=Tryz.f4:=(Option.some.inj (Tryz.func4.symm.trans H)).symm
 refine⟨Tt,λj t ht=>?_⟩
 rw[By]at ht
 have hm:=Array.mem_of_getElem? ht
 simp only[List.mem_toArray,abc,abn,or_false]at hm
 rcases hm with rfl |rfl |rfl |rfl |rfl |rfl |rfl |rfl
 ·exact(show Tryz.prog.wantsStandIn 25=false by kernel_rfl)
 ·exact(show Tryz.prog.wantsStandIn 22=false by kernel_rfl)
 ·exact(show Tryz.prog.wantsStandIn 26=false by kernel_rfl)
 ·exact(show Tryz.prog.wantsStandIn 23=false by kernel_rfl)
 ·exact(show Tryz.prog.wantsStandIn 3=false by kernel_rfl)
 ·exact(show Tryz.prog.wantsStandIn 3=false by kernel_rfl)
 ·exact(show Tryz.prog.wantsStandIn 3=false by kernel_rfl)
 ·exact(show Tryz.prog.wantsStandIn 3=false by kernel_rfl)
theorem YZ:Rows.EvidenceFewerCardSaid:=
 Claim7.holds_tied_plain_at .later [] _ _ _ _ said (λ_ h=>by cases h) wfT (λ_ h=>by cases h) evidenceFewer_row_tie rfl ⟨rfl,rfl⟩ WJ rfl plain WT
end Go.Proofs.YtigpcbodmjjaiaaGreatDoor.fD
namespace Go.Proofs.YtigpcbodmjjaiaaGreatDoor
theorem evidenceFewer_holds:Rows.EvidenceFewerCardSaid:=fD.YZ
end Go.Proofs.YtigpcbodmjjaiaaGreatDoor
