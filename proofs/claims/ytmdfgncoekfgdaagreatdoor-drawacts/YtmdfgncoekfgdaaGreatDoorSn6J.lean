/- The last statements of sane(), .. -/
import Derived.Test.YtmdfgncoekfgdaaGreatDoorSnFJ
namespace Go.Proofs.YtmdfgncoekfgdaaGreatDoor
open Go Go.D Go.Proofs
namespace qL
set_option maxRecDepth 1000000
theorem c13(n:Nat):fX (X9 n) (L9.drop 13) OT=some (.ret,OS):=by kernel_rfl
end qL
end Go.Proofs.YtmdfgncoekfgdaaGreatDoor
