/- The law WorksRecords, for every input: it returns true and leaves its arguments as they were (no condition; the listed package variable is tied to the program's text by the given card). -/
import Derived.Test.YtjpegplpgihmdaaGreatDoorWraJ
import Derived.Test.YtjpegplpgihmdaaGreatDoorWrfJ
set_option maxHeartbeats 1000000
set_option maxRecDepth 100000
namespace Go.Proofs.YtjpegplpgihmdaaGreatDoor.jg
open Go.ChangeShapes Go.WideShapes Go.ChangeAt Go.RowKit
theorem said:Rows.WorksRecordsSaid:=
 OpenClaim.holds_of_cond 3 Tryz.f3 rfl rfl rfl rfl rfl rfl rfl ⟨rfl,rfl,rfl,rfl,rfl⟩ rfl rfl rfl rfl rfl funcNamed Tryz.func3 closed WM isWrap (λos started H enc _ F=>by rw[OpenClaim.pre_eq_preRow];exact lifted os started H enc F)
theorem wfT:Rows.worksRecordsRow.wfByText (OpenSpec.ofChange Rows.worksRecordsSpec)=true:=bv
theorem Z8:Tryz.pinned.checked.prog.mainIs=some (true, "468860f15f5190c7ac6401cd6e5ff229b964a2d6403af299732cab8f77439f8c".toList):=bv
theorem WH:true=Tryz.pinned.checked.prog.looks []:=bv
theorem aah:false=Rows.worksRecordsRow.goesBy Tryz.pinned.checked.prog:=bv
theorem plain(f:FuncId)(fn:Func)(hf:Tryz.pinned.checked.prog.funcNamed "putlog/putloglaw27.WorksRecords" =some f)(F:Tryz.pinned.checked.prog.funcs[f]?=some fn):
  true=Tryz.pinned.checked.prog.looks []/\∀(j:Nat) t,fn.params[j]?=some t->Tryz.pinned.checked.prog.wantsStandIn t=false:=by obtain rfl:f=3:=Option.some.inj ((show Tryz.prog.funcNamed "putlog/putloglaw27.WorksRecords" =some 3 by kernel_rfl).symm.trans hf) |>.symm;obtain rfl:fn=Tryz.f3:=(Option.some.inj (Tryz.func3.symm.trans F)).symm;refine⟨WH,λj t H=>?_⟩;rw[EP]at H;have hm:=Array.mem_of_getElem? H;simp only[List.mem_toArray,Qk,Uf,or_false]at hm;rcases hm with rfl |rfl |rfl;exact(show Tryz.prog.wantsStandIn 25=false by kernel_rfl);exact(show Tryz.prog.wantsStandIn 22=false by kernel_rfl);exact(show Tryz.prog.wantsStandIn 26=false by kernel_rfl)
theorem card:Rows.WorksRecordsCardSaid:=
 Claim7.holds_tied_plain_at .later [] _ _ _ _ said (λ_ h=>by cases h) wfT (λ_ h=>by cases h) worksRecords_row_tie rfl ⟨rfl,rfl⟩ Z8 rfl plain aah
end Go.Proofs.YtjpegplpgihmdaaGreatDoor.jg
namespace Go.Proofs.YtjpegplpgihmdaaGreatDoor
theorem worksRecords_holds:Rows.WorksRecordsCardSaid:=jg.card
