/- The section, in sane(), by the kernel. -/
import Derived.Test.YtmdfgncoekfgdaaGreatDoorSnFJ
namespace Go.Proofs.YtmdfgncoekfgdaaGreatDoor
open Go Go.D Go.Proofs
namespace nS
set_option maxRecDepth 1000000
theorem c5(n:Nat):eW (X9 n) ((L9.drop 5).take 1) VM=some (.normal,VL):=by kernel_rfl
end nS
end Go.Proofs.YtmdfgncoekfgdaaGreatDoor
