/- What the cards of this seat have .. -/
import Derived.Test.YthffgohpkjpkbaaGreatDoorG4J
import Derived.Test.YthffgohpkjpkbaaGreatDoorCards
import Derived.Lib.LaidTab
set_option maxHeartbeats 1000000
set_option linter.defProp false
namespace Go.Proofs.YthffgohpkjpkbaaGreatDoor
open Go.ChangeShapes Go.WideShapes Go.ChangeAt Go.RowKit
def Fv:ownKnob Tryz.prog.godebug=none:=bv
def laidOut:laidOutB Tryz.prog=true:=bv
def band{a b:Bool}(F:a)(hb:b):(a && b):=J
namespace jf
def p2:mapsRowed Tryz.prog=true:=bv
def p3:(Tryz.prog.stops==[])=true:=bv
def p4:(Tryz.prog.stopKnobs==[])=true:=bv
def p5:Tryz.prog.stopsHeard=true:=bv
def p6:Tryz.prog.mayEnter=true:=bv
end jf
def Rw{W:World}(h:W.ShapedOpen Tryz.prog):9<W.heap.size:=by
 have F:(((begin Tryz.prog (λ_ _=>0) default).world.heap[9]?).bind Obj.row?).isSome:=bv;obtain⟨⟨zero,t⟩,hz⟩:=XV.1 F;obtain⟨cs,hc,_⟩:=h.1 9 zero t dg hz;grind
