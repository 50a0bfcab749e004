/- Statements of sane(), by the kernel. -/
import Derived.Test.YthffgohpkjpkbaaGreatDoorSeFJ
set_option linter.defProp false
namespace Go.Proofs.YthffgohpkjpkbaaGreatDoor
open Go Go.D Go.Proofs
namespace C2
set_option maxRecDepth 1000000
def c0:kX XS ((LS.drop 0).take 10) fr0=some (.normal,Xt):=bv
