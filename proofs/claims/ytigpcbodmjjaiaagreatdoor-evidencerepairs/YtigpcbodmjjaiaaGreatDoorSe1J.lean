/- Statements of sane(), by the kernel. -/
import Derived.Test.YtigpcbodmjjaiaaGreatDoorSeFJ
namespace Go.Proofs.YtigpcbodmjjaiaaGreatDoor
open Go Go.D Go.Proofs
namespace CI
set_option maxRecDepth 1000000
theorem c0:iJ XS ((LS.drop 0).take 9) Zl=some (.normal,SO):=by kernel_rfl
end CI
end Go.Proofs.YtigpcbodmjjaiaaGreatDoor
