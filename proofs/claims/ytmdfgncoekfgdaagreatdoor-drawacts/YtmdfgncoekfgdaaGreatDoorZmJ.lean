/- The law DrawActs, for every input: it returns true and leaves its arguments as they were (no condition; the listed package variable is tied to the program's text by the given card). -/
import Derived.Test.YtmdfgncoekfgdaaGreatDoorZaJ
import Derived.Test.YtmdfgncoekfgdaaGreatDoorZfJ
set_option maxRecDepth 100000
namespace Go.Proofs.YtmdfgncoekfgdaaGreatDoor.mE
open Go.ChangeShapes Go.WideShapes Go.ChangeAt Go.RowKit
theorem said:Rows.DrawActsSaid:=
 OpenClaim.holds_of_cond 6 Tryz.f6 rfl rfl rfl rfl rfl rfl rfl ⟨rfl,rfl,rfl,rfl,rfl⟩ rfl rfl rfl rfl rfl funcNamed Tryz.func6 closed Rh isWrap (λos started H enc _ F=>by rw[OpenClaim.pre_eq_preRow];exact lifted os started H enc F)
theorem wfT:Rows.drawActsRow.wfByText (OpenSpec.ofChange Rows.drawActsSpec)=true:=by kernel_rfl
theorem UK:Tryz.pinned.checked.prog.mainIs=some (true, "e1fd6ba8e95286c089203efe58caefa611b8684800cc5c66726fc4e73f8978ca".toList):=by kernel_rfl
theorem Re:true=Tryz.pinned.checked.prog.looks []:=by kernel_rfl
theorem UZ:false=Rows.drawActsRow.goesBy Tryz.pinned.checked.prog:=by kernel_rfl
theorem plain(f:FuncId)(fn:Func)(W:Tryz.pinned.checked.prog.funcNamed "putlog/putloglaw41.DrawActs" =some f)(F:Tryz.pinned.checked.prog.funcs[f]?=some fn):
  true=Tryz.pinned.checked.prog.looks []/\∀(j:Nat) t,fn.params[j]?=some t->Tryz.pinned.checked.prog.wantsStandIn t=false:=by
 obtain rfl:f=6:=Option.some.inj ((show Tryz.prog.funcNamed "putlog/putloglaw41.DrawActs" =some 6 by kernel_rfl).symm.trans W) |>.symm
 obtain rfl:fn=Tryz.f6:=(Option.some.inj (Tryz.func6.symm.trans F)).symm
 refine⟨Re,λj t H=>?_⟩
 rw[zH]at H
 have hm:=abx H
 simp only[List.mem_toArray,aaS,acp,or_false]at hm
 rcases hm with rfl |rfl
 ·exact(show Tryz.prog.wantsStandIn 57=false by kernel_rfl)
 ·exact(show Tryz.prog.wantsStandIn 85=false by kernel_rfl)
theorem XS:Rows.DrawActsCardSaid:=
 Claim7.holds_tied_plain_at .later [] _ _ _ _ said (λ_ h=>by cases h) wfT (λ_ h=>by cases h) drawActs_row_tie rfl ⟨rfl,rfl⟩ UK rfl plain UZ
end Go.Proofs.YtmdfgncoekfgdaaGreatDoor.mE
namespace Go.Proofs.YtmdfgncoekfgdaaGreatDoor
theorem drawActs_holds:Rows.DrawActsCardSaid:=mE.XS
end Go.Proofs.YtmdfgncoekfgdaaGreatDoor
