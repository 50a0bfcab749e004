/- What the cards of this seat have .. -/
import Derived.Test.YtigpcbodmjjaiaaGreatDoorG3J
import Derived.Test.YtigpcbodmjjaiaaGreatDoorCards
import Derived.Deep.DeepHandedRow
namespace Go.Proofs.YtigpcbodmjjaiaaGreatDoor
open Go.ChangeShapes Go.WideShapes Go.ChangeAt Go.RowKit
theorem BA:ownKnob Tryz.prog.godebug=none:=by kernel_rfl
theorem laidOut:laidOutB Tryz.prog=true:=by kernel_rfl
theorem ab5{a b:Bool}(ha:a)(hb:b):(a && b):=by grind
namespace jf
theorem p2:mapsRowed Tryz.prog=true:=by kernel_rfl
theorem p3:(Tryz.prog.stops==[])=true:=by kernel_rfl
theorem p4:(Tryz.prog.stopKnobs==[])=true:=by kernel_rfl
theorem p5:Tryz.prog.stopsHeard=true:=by kernel_rfl
theorem p6:Tryz.prog.mayEnter=true:=by kernel_rfl
end jf
theorem Oj{W:World}(h:W.ShapedOpen Tryz.prog):0<W.heap.size:=by
 have hs:(((begin Tryz.prog (λ_ _=>0) default).world.heap[0]?).bind Obj.row?).isSome:=by kernel_rfl
 obtain⟨⟨zero,t⟩,hz⟩:=RZ.1 hs;obtain⟨cs,hc,_⟩:=h.1 0 zero t (by simp_all) hz;grind
section
variable {H:Type} {enc:TypeId×Φ->H} {W W':World} {v:Φ} {d:DataW H} {ps:List MemPlace}
theorem To(hb:Below W.heap.size W W')(h:DataW.Trod enc Tryz.prog W 0 (λ_=>true) true 3 v d ps)(a0:∀x∈ps,x.block<W.heap.size)(sp:Nat->Bool)(hs:∀x∈ps,sp x.block):DataW.Trod enc Tryz.prog W' 0 sp true 3 v d ps:=
 WideElems.Trod_stays laidOut (by kernel_rfl) (NT (by kernel_rfl)) h (λx hx=>hb.same (a0 x hx)) hs
theorem Qr(hb:Below W.heap.size W W')(h:DataW.Trod enc Tryz.prog W 0 (λ_=>true) true 26 v d ps)(a0:∀x∈ps,x.block<W.heap.size)(sp:Nat->Bool)(hs:∀x∈ps,sp x.block):DataW.Trod enc Tryz.prog W' 0 sp true 26 v d ps:=
 WideElems.Trod_stays laidOut (by kernel_rfl) (NT (by kernel_rfl)) h (λx hx=>hb.same (a0 x hx)) hs
end
end Go.Proofs.YtigpcbodmjjaiaaGreatDoor
