/- The last statements of sane(), by the kernel. -/
import Derived.Test.YtjecgmfildhpiaaGreatDoorSnFJ
/- The last statements of sane(), by the kernel. -/
namespace Go.Proofs.YtjecgmfildhpiaaGreatDoor
open Go Go.D Go.Proofs
namespace Sane
set_option maxRecDepth 1000000
theorem c13 (n : Nat) : execs (X9 n) (L9.drop 13) fr13 = some (.ret, fr21) := by kernel_rfl
end Sane
end Go.Proofs.YtjecgmfildhpiaaGreatDoor
