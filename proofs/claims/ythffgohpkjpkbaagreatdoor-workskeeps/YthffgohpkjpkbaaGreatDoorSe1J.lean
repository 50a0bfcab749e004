/- Statements of sane(), by the kernel. -/
import Derived.Test.YthffgohpkjpkbaaGreatDoorSeFJ
set_option maxHeartbeats 1000000
set_option linter.defProp false
namespace Go.Proofs.YthffgohpkjpkbaaGreatDoor
open Go Go.D Go.Proofs
namespace Dj
set_option maxRecDepth 1000000
def c0:lg XS ((LS.drop 0).take 10) fr0=some (.normal,XY):=bv
