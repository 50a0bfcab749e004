/- Round 1 of sane()'s loop, by the kernel. -/
import Derived.Test.YtbpmlholiohkpaaGreatDoorSnF
/- Round 1 of sane()'s loop, by the kernel. -/
namespace Go.Proofs.YtbpmlholiohkpaaGreatDoor
open Go Go.D Go.Proofs
namespace Sane
set_option maxRecDepth 1000000
theorem it1 : exec? Tab.env (call? Tab.env X1 300) 300 c_lb fr1 = some (.normal, fr2) := by kernel_rfl
end Sane
end Go.Proofs.YtbpmlholiohkpaaGreatDoor
