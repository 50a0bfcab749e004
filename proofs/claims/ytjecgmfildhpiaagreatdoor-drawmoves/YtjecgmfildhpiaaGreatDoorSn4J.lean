/- The book, in sane(), by the kernel. -/
import Derived.Test.YtjecgmfildhpiaaGreatDoorSnFJ
/- The book, in sane(), by the kernel. -/
namespace Go.Proofs.YtjecgmfildhpiaaGreatDoor
open Go Go.D Go.Proofs
namespace Sane
set_option maxRecDepth 1000000
theorem c6 (n : Nat) : execs (X9 n) ((L9.drop 6).take 1) fr6 = some (.normal, fr7) := by kernel_rfl
end Sane
end Go.Proofs.YtjecgmfildhpiaaGreatDoor
