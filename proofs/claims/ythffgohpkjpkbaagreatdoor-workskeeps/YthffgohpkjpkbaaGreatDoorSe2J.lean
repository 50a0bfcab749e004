/- Statements of sane(), by the kernel. -/
import Derived.Test.YthffgohpkjpkbaaGreatDoorSeFJ
set_option maxHeartbeats 1000000
set_option linter.defProp false
namespace Go.Proofs.YthffgohpkjpkbaaGreatDoor
open Go Go.D Go.Proofs
namespace Dj
set_option maxRecDepth 1000000
def c10:(match lg XS (LS.drop 10) XY with|some (.ret,fr)=>(match result? TE Tryz.f6 fr.T fr.m with|some (.bool true)=>Nat.ble 10 fr.m.low|_=>false)|_=>false)=true:=bv
