/- Statements of sane(), by the kernel. -/
import Derived.Test.YtmdfgncoekfgdaaGreatDoorSnFJ
namespace Go.Proofs.YtmdfgncoekfgdaaGreatDoor
open Go Go.D Go.Proofs
namespace nS
set_option maxRecDepth 1000000
theorem c0(n:Nat):eW (X9 n) ((L9.drop 0).take 5) VN=some (.normal,VM):=by kernel_rfl
end nS
end Go.Proofs.YtmdfgncoekfgdaaGreatDoor
