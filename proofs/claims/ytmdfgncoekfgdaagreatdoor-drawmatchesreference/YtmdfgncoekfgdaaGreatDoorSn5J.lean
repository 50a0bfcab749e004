/- draw.Phases in sane(), but for its last loop, by the kernel. -/
import Derived.Test.YtmdfgncoekfgdaaGreatDoorSnFJ
namespace Go.Proofs.YtmdfgncoekfgdaaGreatDoor
open Go Go.D Go.Proofs
namespace nS
set_option maxRecDepth 1000000
theorem p0(n:Nat):eW (X9 n) (Nj.take 10) O3=some (.normal,kT):=by kernel_rfl
end nS
end Go.Proofs.YtmdfgncoekfgdaaGreatDoor
