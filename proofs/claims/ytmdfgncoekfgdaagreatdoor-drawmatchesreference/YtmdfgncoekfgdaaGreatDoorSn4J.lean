/- The book, in sane(), by the kernel. -/
import Derived.Test.YtmdfgncoekfgdaaGreatDoorSnFJ
namespace Go.Proofs.YtmdfgncoekfgdaaGreatDoor
open Go Go.D Go.Proofs
namespace nS
set_option maxRecDepth 1000000
theorem c6(n:Nat):eW (X9 n) ((L9.drop 6).take 6) VL=some (.normal,Ax):=by kernel_rfl
end nS
end Go.Proofs.YtmdfgncoekfgdaaGreatDoor
