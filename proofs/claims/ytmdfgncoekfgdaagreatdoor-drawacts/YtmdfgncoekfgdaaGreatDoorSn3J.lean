/- The section, in sane(), by the .. -/
import Derived.Test.YtmdfgncoekfgdaaGreatDoorSnFJ
namespace Go.Proofs.YtmdfgncoekfgdaaGreatDoor
open Go Go.D Go.Proofs
namespace qL
set_option maxRecDepth 1000000
theorem c5(n:Nat):fX (X9 n) ((L9.drop 5).take 1) fr5=some (.normal,fr6):=by kernel_rfl
end qL
end Go.Proofs.YtmdfgncoekfgdaaGreatDoor
