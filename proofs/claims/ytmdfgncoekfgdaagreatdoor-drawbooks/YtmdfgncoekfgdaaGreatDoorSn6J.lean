/- The last statements of sane(), by the kernel. -/
import Derived.Test.YtmdfgncoekfgdaaGreatDoorSnFJ
namespace Go.Proofs.YtmdfgncoekfgdaaGreatDoor
open Go Go.D Go.Proofs
namespace mn
set_option maxRecDepth 1000000
theorem Z5(n:Nat):eD (X9 n) (L9.drop 13) Lh=some (.ret,Lg):=by kernel_rfl
end mn
end Go.Proofs.YtmdfgncoekfgdaaGreatDoor
