/- Statements of sane(), by the kernel. -/
import Derived.Test.YtmdfgncoekfgdaaGreatDoorSnFJ
namespace Go.Proofs.YtmdfgncoekfgdaaGreatDoor
open Go Go.D Go.Proofs
namespace qL
set_option maxRecDepth 1000000
theorem c0(n:Nat):fX (X9 n) ((L9.drop 0).take 5) fr0=some (.normal,fr5):=by kernel_rfl
end qL
end Go.Proofs.YtmdfgncoekfgdaaGreatDoor
