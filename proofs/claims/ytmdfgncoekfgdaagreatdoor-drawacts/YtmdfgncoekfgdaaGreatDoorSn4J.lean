/- The book, in sane(), by the kernel. -/
import Derived.Test.YtmdfgncoekfgdaaGreatDoorSnFJ
namespace Go.Proofs.YtmdfgncoekfgdaaGreatDoor
open Go Go.D Go.Proofs
namespace qL
set_option maxRecDepth 1000000
theorem c6(n:Nat):fX (X9 n) ((L9.drop 6).take 6) fr6=some (.normal,Ec):=by kernel_rfl
end qL
end Go.Proofs.YtmdfgncoekfgdaaGreatDoor
