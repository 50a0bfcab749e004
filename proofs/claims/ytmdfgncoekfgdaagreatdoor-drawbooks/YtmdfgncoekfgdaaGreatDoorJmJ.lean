/- The law DrawBooks, for every input: it returns true and leaves its arguments as they were (no condition; the listed package variable is tied to the program's text by the given card). -/
import Derived.Test.YtmdfgncoekfgdaaGreatDoorJaJ
import Derived.Test.YtmdfgncoekfgdaaGreatDoorJfJ
namespace Go.Proofs.YtmdfgncoekfgdaaGreatDoor.jr
open Go.ChangeShapes Go.WideShapes Go.ChangeAt Go.RowKit
set_option maxRecDepth 100000 in
theorem said:Rows.DrawBooksSaid:=
 OpenClaim.holds_of_cond 7 Tryz.f7 rfl rfl rfl rfl rfl rfl rfl ⟨rfl,rfl,rfl,rfl,rfl⟩ rfl rfl rfl rfl rfl funcNamed Tryz.func7 closed Nf isWrap
  (fun os started H enc _ F=>by rw[OpenClaim.pre_eq_preRow];exact lifted os started H enc F)
theorem Z0:Rows.drawBooksRow.wfByText (OpenSpec.ofChange Rows.drawBooksSpec)=true:=by kernel_rfl
theorem PV:Tryz.pinned.checked.prog.mainIs=some (true, "e1fd6ba8e95286c089203efe58caefa611b8684800cc5c66726fc4e73f8978ca".toList):=by kernel_rfl
theorem Na:true=Tryz.pinned.checked.prog.looks []:=by kernel_rfl
theorem P9:false=Rows.drawBooksRow.goesBy Tryz.pinned.checked.prog:=by kernel_rfl
theorem plain(f:FuncId)(fn:Func)(hf:Tryz.pinned.checked.prog.funcNamed "putlog/putloglaw41.DrawBooks" =some f)(hfn:Tryz.pinned.checked.prog.funcs[f]?=some fn):
  true=Tryz.pinned.checked.prog.looks []/\∀(j:Nat) t,fn.params[j]?=some t->Tryz.pinned.checked.prog.wantsStandIn t=false:=by
 obtain rfl:f=7:=Option.some.inj ((show Tryz.prog.funcNamed "putlog/putloglaw41.DrawBooks" =some 7 by kernel_rfl).symm.trans hf) |>.symm
 obtain rfl:fn=Tryz.f7:=(Option.some.inj (Tryz.func7.symm.trans hfn)).symm
 refine⟨Na,fun j t ht=>?_⟩
 rw[vW]at ht
 have hm:=Array.mem_of_getElem? ht
 simp only[List.mem_toArray,List.mem_cons,List.not_mem_nil,or_false]at hm
 rcases hm with rfl |rfl |rfl
 ·exact(show Tryz.prog.wantsStandIn 57=false by kernel_rfl)
 ·exact(show Tryz.prog.wantsStandIn 3=false by kernel_rfl)
 ·exact(show Tryz.prog.wantsStandIn 3=false by kernel_rfl)
theorem Ss:Rows.DrawBooksCardSaid:=
 Claim7.holds_tied_plain_at .later [] _ _ _ _ said (fun _ h=>by cases h) Z0 (fun _ h=>by cases h) drawBooks_row_tie rfl ⟨rfl,rfl⟩ PV rfl plain P9
end Go.Proofs.YtmdfgncoekfgdaaGreatDoor.jr
namespace Go.Proofs.YtmdfgncoekfgdaaGreatDoor
theorem drawBooks_holds:Rows.DrawBooksCardSaid:=jr.Ss
end Go.Proofs.YtmdfgncoekfgdaaGreatDoor
