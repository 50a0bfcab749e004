/- Statements of sane(), by the kernel. -/
import Derived.Test.YtjpegplpgihmdaaGreatDoorSeFJ
set_option linter.defProp false
namespace Go.Proofs.YtjpegplpgihmdaaGreatDoor
open Go Go.D Go.Proofs
namespace CL
set_option maxRecDepth 1000000
def c0:kV XS ((LS.drop 0).take 10) fr0=some (.normal,WX):=bv
