/- Round 6 of sane()'s loop, by the kernel. -/
import Derived.Test.YtbpmlholiohkpaaGreatDoorSnF
/- Round 6 of sane()'s loop, by the kernel. -/
namespace Go.Proofs.YtbpmlholiohkpaaGreatDoor
open Go Go.D Go.Proofs
namespace Sane
set_option maxRecDepth 1000000
theorem it6 : exec? Tab.env (call? Tab.env X1 300) 300 c_lb fr6 = some (.exit 0, fr7) := by kernel_rfl
theorem post : exec? Tab.env (call? Tab.env X1 300) 300 c_post fr7 = some (.ret, frz) := by kernel_rfl
end Sane
end Go.Proofs.YtbpmlholiohkpaaGreatDoor
