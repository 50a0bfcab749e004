/- The law WorksSuits, for every input: it returns true and leaves its arguments as they were (no condition; the listed package variable is tied to the program's text by the given card). -/
import Derived.Test.YthffgohpkjpkbaaGreatDoorWsaJ
import Derived.Test.YthffgohpkjpkbaaGreatDoorWsfJ
set_option maxHeartbeats 1000000
set_option maxRecDepth 100000
namespace Go.Proofs.YthffgohpkjpkbaaGreatDoor.kZ
open Go.ChangeShapes Go.WideShapes Go.ChangeAt Go.RowKit
theorem said:Rows.WorksSuitsSaid:=
 OpenClaim.holds_of_cond 3 Tryz.f3 rfl rfl rfl rfl rfl rfl rfl ⟨rfl,rfl,rfl,rfl,rfl⟩ rfl rfl rfl rfl rfl funcNamed Tryz.func3 closed aa7 isWrap (λos started H enc _ F=>by rw[OpenClaim.pre_eq_preRow];exact lifted os started H enc F)
theorem wfT:Rows.worksSuitsRow.wfByText (OpenSpec.ofChange Rows.worksSuitsSpec)=true:=bv
theorem mainT:Tryz.pinned.checked.prog.mainIs=some (true, "7801b1e663817c6afc735467bf5815ff437e316beb1b962058163a7808ac81dd".toList):=bv
theorem Xe:true=Tryz.pinned.checked.prog.looks []:=bv
theorem goesT:false=Rows.worksSuitsRow.goesBy Tryz.pinned.checked.prog:=bv
theorem plain(f:FuncId)(fn:Func)(hf:Tryz.pinned.checked.prog.funcNamed "putlog/putloglaw27.WorksSuits" =some f)(F:Tryz.pinned.checked.prog.funcs[f]?=some fn):
  true=Tryz.pinned.checked.prog.looks []/\∀(j:Nat) t,fn.params[j]?=some t->Tryz.pinned.checked.prog.wantsStandIn t=false:=by obtain rfl:f=3:=Option.some.inj ((show Tryz.prog.funcNamed "putlog/putloglaw27.WorksSuits" =some 3 by kernel_rfl).symm.trans hf) |>.symm;obtain rfl:fn=Tryz.f3:=(Option.some.inj (Tryz.func3.symm.trans F)).symm;refine⟨Xe,λj t H=>?_⟩;rw[E6]at H;have hm:=Array.mem_of_getElem? H;simp only[List.mem_toArray,OS,Dy,or_false]at hm;rcases hm with rfl |rfl |rfl |rfl |rfl;exact(show Tryz.prog.wantsStandIn 25=false by kernel_rfl);exact(show Tryz.prog.wantsStandIn 22=false by kernel_rfl);exact(show Tryz.prog.wantsStandIn 3=false by kernel_rfl);exact(show Tryz.prog.wantsStandIn 3=false by kernel_rfl);exact(show Tryz.prog.wantsStandIn 3=false by kernel_rfl)
theorem card:Rows.WorksSuitsCardSaid:=
 Claim7.holds_tied_plain_at .later [] _ _ _ _ said (λ_ h=>by cases h) wfT (λ_ h=>by cases h) worksSuits_row_tie rfl ⟨rfl,rfl⟩ mainT rfl plain goesT
end Go.Proofs.YthffgohpkjpkbaaGreatDoor.kZ
namespace Go.Proofs.YthffgohpkjpkbaaGreatDoor
theorem worksSuits_holds:Rows.WorksSuitsCardSaid:=kZ.card
