/- The law DrawMatchesReference, for every input: it returns true and leaves its arguments as they were (no condition; the listed package variable is tied to the program's text by the given card). -/
import Derived.Test.YtmdfgncoekfgdaaGreatDoorBaJ
import Derived.Test.YtmdfgncoekfgdaaGreatDoorBfJ
namespace Go.Proofs.YtmdfgncoekfgdaaGreatDoor.cO
open Go.ChangeShapes Go.WideShapes Go.ChangeAt Go.RowKit
set_option maxRecDepth 100000 in
theorem said:Rows.DrawMatchesReferenceSaid:=
 OpenClaim.holds_of_cond 3 Tryz.f3 rfl rfl rfl rfl rfl rfl rfl ⟨rfl,rfl,rfl,rfl,rfl⟩ rfl rfl rfl rfl rfl funcNamed Tryz.func3 closed LI isWrap
  (fun os started H enc _ F=>by rw[OpenClaim.pre_eq_preRow];exact lifted os started H enc F)
theorem Yf:Rows.drawMatchesReferenceRow.wfByText (OpenSpec.ofChange Rows.drawMatchesReferenceSpec)=true:=by kernel_rfl
theorem NZ:Tryz.pinned.checked.prog.mainIs=some (true, "e1fd6ba8e95286c089203efe58caefa611b8684800cc5c66726fc4e73f8978ca".toList):=by kernel_rfl
theorem LB:true=Tryz.pinned.checked.prog.looks []:=by kernel_rfl
theorem N7:false=Rows.drawMatchesReferenceRow.goesBy Tryz.pinned.checked.prog:=by kernel_rfl
theorem plain(f:FuncId)(fn:Func)(hf:Tryz.pinned.checked.prog.funcNamed "putlog/putloglaw41.DrawMatchesReference" =some f)(hfn:Tryz.pinned.checked.prog.funcs[f]?=some fn):
  true=Tryz.pinned.checked.prog.looks []/\∀(j:Nat) t,fn.params[j]?=some t->Tryz.pinned.checked.prog.wantsStandIn t=false:=by
 obtain rfl:f=3:=Option.some.inj ((show Tryz.prog.funcNamed "putlog/putloglaw41.DrawMatchesReference" =some 3 by kernel_rfl).symm.trans hf) |>.symm
 obtain rfl:fn=Tryz.f3:=(Option.some.inj (Tryz.func3.symm.trans hfn)).symm
 refine⟨LB,fun j t ht=>?_⟩
 rw[uV]at ht
 have hm:=Array.mem_of_getElem? ht
 simp only[List.mem_toArray,List.mem_cons,List.not_mem_nil,or_false]at hm
 rcases hm with rfl |rfl |rfl |rfl |rfl |rfl |rfl |rfl |rfl |rfl |rfl
 ·exact(show Tryz.prog.wantsStandIn 22=false by kernel_rfl)
 ·exact(show Tryz.prog.wantsStandIn 23=false by kernel_rfl)
 ·exact(show Tryz.prog.wantsStandIn 3=false by kernel_rfl)
 ·exact(show Tryz.prog.wantsStandIn 4=false by kernel_rfl)
 ·exact(show Tryz.prog.wantsStandIn 24=false by kernel_rfl)
 ·exact(show Tryz.prog.wantsStandIn 25=false by kernel_rfl)
 ·exact(show Tryz.prog.wantsStandIn 25=false by kernel_rfl)
 ·exact(show Tryz.prog.wantsStandIn 27=false by kernel_rfl)
 ·exact(show Tryz.prog.wantsStandIn 3=false by kernel_rfl)
 ·exact(show Tryz.prog.wantsStandIn 5=false by kernel_rfl)
 ·exact(show Tryz.prog.wantsStandIn 9=false by kernel_rfl)
theorem QL:Rows.DrawMatchesReferenceCardSaid:=
 Claim7.holds_tied_plain_at .later [] _ _ _ _ said (fun _ h=>by cases h) Yf (fun _ h=>by cases h) drawMatchesReference_row_tie rfl ⟨rfl,rfl⟩ NZ rfl plain N7
end Go.Proofs.YtmdfgncoekfgdaaGreatDoor.cO
namespace Go.Proofs.YtmdfgncoekfgdaaGreatDoor
theorem drawMatchesReference_holds:Rows.DrawMatchesReferenceCardSaid:=cO.QL
end Go.Proofs.YtmdfgncoekfgdaaGreatDoor
