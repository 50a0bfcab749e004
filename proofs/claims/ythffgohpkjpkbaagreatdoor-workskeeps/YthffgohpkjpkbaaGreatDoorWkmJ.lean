/- The law WorksKeeps, for every input: it returns true and leaves its arguments as they were (no condition; the listed package variable is tied to the program's text by the given card). -/
import Derived.Test.YthffgohpkjpkbaaGreatDoorWkaJ
import Derived.Test.YthffgohpkjpkbaaGreatDoorWkfJ
set_option maxHeartbeats 1000000
set_option maxRecDepth 100000
namespace Go.Proofs.YthffgohpkjpkbaaGreatDoor.lh
open Go.ChangeShapes Go.WideShapes Go.ChangeAt Go.RowKit
theorem said:Rows.WorksKeepsSaid:=
 OpenClaim.holds_of_cond 4 Tryz.f4 rfl rfl rfl rfl rfl rfl rfl ⟨rfl,rfl,rfl,rfl,rfl⟩ rfl rfl rfl rfl rfl funcNamed Tryz.func4 closed abU isWrap (λos started H enc _ F=>by rw[OpenClaim.pre_eq_preRow];exact lifted os started H enc F)
theorem wfT:Rows.worksKeepsRow.wfByText (OpenSpec.ofChange Rows.worksKeepsSpec)=true:=bv
theorem mainT:Tryz.pinned.checked.prog.mainIs=some (true, "7801b1e663817c6afc735467bf5815ff437e316beb1b962058163a7808ac81dd".toList):=bv
theorem XG:true=Tryz.pinned.checked.prog.looks []:=bv
theorem goesT:false=Rows.worksKeepsRow.goesBy Tryz.pinned.checked.prog:=bv
theorem plain(f:FuncId)(fn:Func)(hf:Tryz.pinned.checked.prog.funcNamed "putlog/putloglaw27.WorksKeeps" =some f)(F:Tryz.pinned.checked.prog.funcs[f]?=some fn):
  true=Tryz.pinned.checked.prog.looks []/\∀(j:Nat) t,fn.params[j]?=some t->Tryz.pinned.checked.prog.wantsStandIn t=false:=by obtain rfl:f=4:=Option.some.inj ((show Tryz.prog.funcNamed "putlog/putloglaw27.WorksKeeps" =some 4 by kernel_rfl).symm.trans hf) |>.symm;obtain rfl:fn=Tryz.f4:=(Option.some.inj (Tryz.func4.symm.trans F)).symm;refine⟨XG,λj t H=>?_⟩;rw[Fu]at H;have hm:=Array.mem_of_getElem? H;simp only[List.mem_toArray,VM,DA,or_false]at hm;rcases hm with rfl |rfl |rfl;exact(show Tryz.prog.wantsStandIn 25=false by kernel_rfl);exact(show Tryz.prog.wantsStandIn 22=false by kernel_rfl);exact(show Tryz.prog.wantsStandIn 62=false by kernel_rfl)
theorem card:Rows.WorksKeepsCardSaid:=
 Claim7.holds_tied_plain_at .later [] _ _ _ _ said (λ_ h=>by cases h) wfT (λ_ h=>by cases h) ac8 rfl ⟨rfl,rfl⟩ mainT rfl plain goesT
end Go.Proofs.YthffgohpkjpkbaaGreatDoor.lh
namespace Go.Proofs.YthffgohpkjpkbaaGreatDoor
theorem worksKeeps_holds:Rows.WorksKeepsCardSaid:=lh.card
