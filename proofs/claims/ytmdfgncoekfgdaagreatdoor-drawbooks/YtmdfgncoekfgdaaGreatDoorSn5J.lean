/- draw.Phases in sane(), but for its last loop, by the kernel. -/
import Derived.Test.YtmdfgncoekfgdaaGreatDoorSnFJ
namespace Go.Proofs.YtmdfgncoekfgdaaGreatDoor
open Go Go.D Go.Proofs
namespace mn
set_option maxRecDepth 1000000
theorem p0(n:Nat):eD (X9 n) (OW.take 10) QC=some (.normal,ll):=by kernel_rfl
end mn
end Go.Proofs.YtmdfgncoekfgdaaGreatDoor
