/- The section, in sane(), by the kernel. -/
import Derived.Test.YtmdfgncoekfgdaaGreatDoorSnFJ
namespace Go.Proofs.YtmdfgncoekfgdaaGreatDoor
open Go Go.D Go.Proofs
namespace mn
set_option maxRecDepth 1000000
theorem c5(n:Nat):eD (X9 n) ((L9.drop 5).take 1) Y4=some (.normal,Y3):=by kernel_rfl
end mn
end Go.Proofs.YtmdfgncoekfgdaaGreatDoor
