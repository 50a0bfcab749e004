/- The book, in sane(), by the kernel. -/
import Derived.Test.YtmdfgncoekfgdaaGreatDoorSnFJ
namespace Go.Proofs.YtmdfgncoekfgdaaGreatDoor
open Go Go.D Go.Proofs
namespace mn
set_option maxRecDepth 1000000
theorem c6(n:Nat):eD (X9 n) ((L9.drop 6).take 1) Y3=some (.normal,Y2):=by kernel_rfl
end mn
end Go.Proofs.YtmdfgncoekfgdaaGreatDoor
