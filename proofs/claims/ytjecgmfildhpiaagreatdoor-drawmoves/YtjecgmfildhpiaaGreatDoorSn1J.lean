/- Statements of sane(), by the kernel. -/
import Derived.Test.YtjecgmfildhpiaaGreatDoorSnFJ
/- Statements of sane(), by the kernel. -/
namespace Go.Proofs.YtjecgmfildhpiaaGreatDoor
open Go Go.D Go.Proofs
namespace Sane
set_option maxRecDepth 1000000
theorem c0 (n : Nat) : execs (X9 n) ((L9.drop 0).take 4) fr0 = some (.normal, fr4) := by kernel_rfl
theorem c7 (n : Nat) : execs (X9 n) ((L9.drop 7).take 5) fr7 = some (.normal, fr12) := by kernel_rfl
end Sane
end Go.Proofs.YtjecgmfildhpiaaGreatDoor
