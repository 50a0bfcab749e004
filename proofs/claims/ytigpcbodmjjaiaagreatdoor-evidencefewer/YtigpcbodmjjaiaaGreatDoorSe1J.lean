/- Statements of sane(), by the kernel. -/
import Derived.Test.YtigpcbodmjjaiaaGreatDoorSeFJ
namespace Go.Proofs.YtigpcbodmjjaiaaGreatDoor
open Go Go.D Go.Proofs
namespace CC
set_option maxRecDepth 1000000
theorem c0:iM XS ((LS.drop 0).take 9) YT=some (.normal,Ss):=by kernel_rfl
end CC
end Go.Proofs.YtigpcbodmjjaiaaGreatDoor
