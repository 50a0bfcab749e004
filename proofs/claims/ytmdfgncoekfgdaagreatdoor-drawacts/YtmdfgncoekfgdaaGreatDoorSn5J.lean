/- draw.Phases in sane(), but for .. -/
import Derived.Test.YtmdfgncoekfgdaaGreatDoorSnFJ
namespace Go.Proofs.YtmdfgncoekfgdaaGreatDoor
open Go Go.D Go.Proofs
namespace qL
set_option maxRecDepth 1000000
theorem p0(n:Nat):fX (X9 n) (TO.take 10) VF=some (.normal,ng):=by kernel_rfl
end qL
end Go.Proofs.YtmdfgncoekfgdaaGreatDoor
