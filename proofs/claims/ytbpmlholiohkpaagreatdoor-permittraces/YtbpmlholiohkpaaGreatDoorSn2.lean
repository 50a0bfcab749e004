/- Round 2 of sane()'s loop, by the kernel. -/
import Derived.Test.YtbpmlholiohkpaaGreatDoorSnF
/- Round 2 of sane()'s loop, by the kernel. -/
namespace Go.Proofs.YtbpmlholiohkpaaGreatDoor
open Go Go.D Go.Proofs
namespace Sane
set_option maxRecDepth 1000000
theorem it2 : exec? Tab.env (call? Tab.env X1 300) 300 c_lb fr2 = some (.normal, fr3) := by kernel_rfl
end Sane
end Go.Proofs.YtbpmlholiohkpaaGreatDoor
