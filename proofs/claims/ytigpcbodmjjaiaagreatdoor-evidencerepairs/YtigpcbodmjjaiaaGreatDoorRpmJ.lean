/- The law EvidenceRepairs, for every input: it returns true and leaves its arguments as they were (no condition; the listed package variable is tied to the program's text by the given card). -/
import Derived.Test.YtigpcbodmjjaiaaGreatDoorRpaJ
import Derived.Test.YtigpcbodmjjaiaaGreatDoorRpfJ
set_option maxRecDepth 100000
namespace Go.Proofs.YtigpcbodmjjaiaaGreatDoor.eG
open Go.ChangeShapes Go.WideShapes Go.ChangeAt Go.RowKit
theorem said:Rows.EvidenceRepairsSaid:=
 OpenClaim.holds_of_cond 3 Tryz.f3 rfl rfl rfl rfl rfl rfl rfl ⟨rfl,rfl,rfl,rfl,rfl⟩ rfl rfl rfl rfl rfl funcNamed Tryz.func3 closed adE isWrap (λos started H enc _ F=>by rw[OpenClaim.pre_eq_preRow];exact lifted os started H enc F)
theorem wfT:Rows.evidenceRepairsRow.wfByText (OpenSpec.ofChange Rows.evidenceRepairsSpec)=true:=by kernel_rfl
theorem W9:Tryz.pinned.checked.prog.mainIs=some (true, "f46eaa7c6e732c1d9041727cb76d95df1db70db873e51e514363cb367ea7c8f1".toList):=by kernel_rfl
theorem TU:true=Tryz.pinned.checked.prog.looks []:=by kernel_rfl
theorem Xj:false=Rows.evidenceRepairsRow.goesBy Tryz.pinned.checked.prog:=by kernel_rfl
theorem plain(f:FuncId)(fn:Func)(hf:Tryz.pinned.checked.prog.funcNamed "putlog/putloglaw29.EvidenceRepairs" =some f)(H:Tryz.pinned.checked.prog.funcs[f]?=some fn):
  true=Tryz.pinned.checked.prog.looks []/\∀(j:Nat) t,fn.params[j]?=some t->Tryz.pinned.checked.prog.wantsStandIn t=false:=by
 obtain rfl:f=3:=Option.some.inj ((show Tryz.prog.funcNamed "putlog/putloglaw29.EvidenceRepairs" =some 3 by kernel_rfl).symm.trans hf) |>.symm
 obtain rfl:fn=Tryz.f3:=(Option.some.inj (Tryz.func3.symm.trans H)).symm
 refine⟨TU,λj t ht=>?_⟩
 rw[Bz]at ht
 have hm:=Array.mem_of_getElem? ht
 simp only[List.mem_toArray,RN,ZX,or_false]at hm
 rcases hm with rfl |rfl |rfl |rfl |rfl
 ·exact(show Tryz.prog.wantsStandIn 25=false by kernel_rfl)
 ·exact(show Tryz.prog.wantsStandIn 22=false by kernel_rfl)
 ·exact(show Tryz.prog.wantsStandIn 26=false by kernel_rfl)
 ·exact(show Tryz.prog.wantsStandIn 23=false by kernel_rfl)
 ·exact(show Tryz.prog.wantsStandIn 3=false by kernel_rfl)
theorem aa5:Rows.EvidenceRepairsCardSaid:=
 Claim7.holds_tied_plain_at .later [] _ _ _ _ said (λ_ h=>by cases h) wfT (λ_ h=>by cases h) evidenceRepairs_row_tie rfl ⟨rfl,rfl⟩ W9 rfl plain Xj
end Go.Proofs.YtigpcbodmjjaiaaGreatDoor.eG
namespace Go.Proofs.YtigpcbodmjjaiaaGreatDoor
theorem evidenceRepairs_holds:Rows.EvidenceRepairsCardSaid:=eG.aa5
end Go.Proofs.YtigpcbodmjjaiaaGreatDoor
