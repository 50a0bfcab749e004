/- Statements of sane(), by the kernel. -/
import Derived.Test.YtigpcbodmjjaiaaGreatDoorSeFJ
namespace Go.Proofs.YtigpcbodmjjaiaaGreatDoor
open Go Go.D Go.Proofs
namespace CI
set_option maxRecDepth 1000000
theorem c9:(match iJ XS (LS.drop 9) SO with|some (.ret,fr)=>(match result? TE Tryz.f6 fr.T fr.m with|some (.bool true)=>Nat.ble 1 fr.m.low|_=>false)|_=>false)=true:=by kernel_rfl
end CI
end Go.Proofs.YtigpcbodmjjaiaaGreatDoor
