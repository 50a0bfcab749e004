/- The plan, in sane(), by the kernel. -/
import Derived.Test.YtjecgmfildhpiaaGreatDoorSnFJ
/- The plan, in sane(), by the kernel. -/
namespace Go.Proofs.YtjecgmfildhpiaaGreatDoor
open Go Go.D Go.Proofs
namespace Sane
set_option maxRecDepth 1000000
theorem c4 (n : Nat) : execs (X9 n) ((L9.drop 4).take 1) fr4 = some (.normal, fr5) := by kernel_rfl
end Sane
end Go.Proofs.YtjecgmfildhpiaaGreatDoor
