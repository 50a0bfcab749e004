/- What the cards of this seat have .. -/
import Derived.Test.YthffgohpkjpkbaaGreatDoorG4J
import Derived.Test.YthffgohpkjpkbaaGreatDoorCards
import Derived.Lib.LaidTab
set_option linter.defProp false
namespace Go.Proofs.YthffgohpkjpkbaaGreatDoor
open Go.ChangeShapes Go.WideShapes Go.ChangeAt Go.RowKit
def E7:ownKnob Tryz.prog.godebug=none:=bv
def laidOut:laidOutB Tryz.prog=true:=bv
def band{a b:Bool}(F:a)(hb:b):(a && b):=be
namespace jf
def p2:mapsRowed Tryz.prog=true:=bv
def p3:(Tryz.prog.stops==[])=true:=bv
def p4:(Tryz.prog.stopKnobs==[])=true:=bv
def p5:Tryz.prog.stopsHeard=true:=bv
def p6:Tryz.prog.mayEnter=true:=bv
end jf
def Rc{W:World}(h:W.ShapedOpen Tryz.prog):9<W.heap.size:=by have F:(((begin Tryz.prog (λ_ _=>0) default).world.heap[9]?).bind Obj.row?).isSome:=bv;obtain⟨⟨zero,t⟩,hz⟩:=IY.1 F;obtain⟨cs,hc,_⟩:=h.1 9 zero t dg hz;grind
section
variable {H:Type} {enc:TypeId×Φ->H} {W W':World} {v:Φ} {d:DataW H} {ps:List MemPlace}
def Iz(hb:Below W.heap.size W W')(h:DataW.Trod enc Tryz.prog W 0 (λ_=>true) true 3 v d ps)(F:∀x∈ps,x.block<W.heap.size)(sp:Nat->Bool)(hs:∀x∈ps,sp x.block):DataW.Trod enc Tryz.prog W' 0 sp true 3 v d ps:=
 WideElems.Trod_stays laidOut bv (Ds bv) h (λx hx=>hb.same (F x hx)) hs
