/- Statements of sane(), by the kernel. -/
import Derived.Test.YtjpegplpgihmdaaGreatDoorSeFJ
set_option linter.defProp false
namespace Go.Proofs.YtjpegplpgihmdaaGreatDoor
open Go Go.D Go.Proofs
namespace CL
set_option maxRecDepth 1000000
def c10:(match kV XS (LS.drop 10) WX with|some (.ret,fr)=>(match result? TE Tryz.f4 fr.T fr.m with|some (.bool true)=>Nat.ble 10 fr.m.low|_=>false)|_=>false)=true:=bv
