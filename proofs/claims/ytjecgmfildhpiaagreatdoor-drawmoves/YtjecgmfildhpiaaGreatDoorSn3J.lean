/- The section, in sane(), by the kernel. -/
import Derived.Test.YtjecgmfildhpiaaGreatDoorSnFJ
/- The section, in sane(), by the kernel. -/
namespace Go.Proofs.YtjecgmfildhpiaaGreatDoor
open Go Go.D Go.Proofs
namespace Sane
set_option maxRecDepth 1000000
theorem c5 (n : Nat) : execs (X9 n) ((L9.drop 5).take 1) fr5 = some (.normal, fr6) := by kernel_rfl
end Sane
end Go.Proofs.YtjecgmfildhpiaaGreatDoor
