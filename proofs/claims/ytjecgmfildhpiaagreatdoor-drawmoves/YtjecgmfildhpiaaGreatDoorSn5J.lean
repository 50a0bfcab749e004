/- draw.Phases in sane(), but for its last loop, by the kernel. -/
import Derived.Test.YtjecgmfildhpiaaGreatDoorSnFJ
/- draw.Phases in sane(), but for its last loop, by the kernel. -/
namespace Go.Proofs.YtjecgmfildhpiaaGreatDoor
open Go Go.D Go.Proofs
namespace Sane
set_option maxRecDepth 1000000
theorem p0 (n : Nat) : execs (X9 n) (L38.take 10) f38_0 = some (.normal, f38_10) := by kernel_rfl
end Sane
end Go.Proofs.YtjecgmfildhpiaaGreatDoor
