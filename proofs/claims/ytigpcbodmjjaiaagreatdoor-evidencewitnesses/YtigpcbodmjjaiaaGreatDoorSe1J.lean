/- Statements of sane(), by the kernel. -/
import Derived.Test.YtigpcbodmjjaiaaGreatDoorSeFJ
namespace Go.Proofs.YtigpcbodmjjaiaaGreatDoor
open Go Go.D Go.Proofs
namespace CY
set_option maxRecDepth 1000000
theorem c0:jb XS ((LS.drop 0).take 9) Y6=some (.normal,S8):=by kernel_rfl
end CY
end Go.Proofs.YtigpcbodmjjaiaaGreatDoor
