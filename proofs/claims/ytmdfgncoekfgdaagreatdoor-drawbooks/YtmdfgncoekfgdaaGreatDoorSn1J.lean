/- Statements of sane(), by the kernel. -/
import Derived.Test.YtmdfgncoekfgdaaGreatDoorSnFJ
namespace Go.Proofs.YtmdfgncoekfgdaaGreatDoor
open Go Go.D Go.Proofs
namespace mn
set_option maxRecDepth 1000000
theorem c0(n:Nat):eD (X9 n) ((L9.drop 0).take 4) Y6=some (.normal,Y5):=by kernel_rfl
theorem c7(n:Nat):eD (X9 n) ((L9.drop 7).take 5) Y2=some (.normal,AT):=by kernel_rfl
end mn
end Go.Proofs.YtmdfgncoekfgdaaGreatDoor
