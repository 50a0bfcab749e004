/- What the cards of this seat have .. -/
import Derived.Test.YtmdfgncoekfgdaaGreatDoorG4J
import Derived.Test.YtmdfgncoekfgdaaGreatDoorCards
import Derived.Test.YtmdfgncoekfgdaaGreatDoorTie
import Derived.WalkKit
import Derived.ProofKit
import Derived.OpenShut
import Derived.Carry
import Derived.Deep.DeepHandedRow
import Derived.Lib.LaidTab
namespace Go.Proofs.YtmdfgncoekfgdaaGreatDoor
open Go.ChangeShapes Go.WideShapes Go.ChangeAt Go.RowKit
theorem zI:ownKnob Tryz.prog.godebug=none:=by kernel_rfl
theorem laidOut:laidOutB Tryz.prog=true:=by kernel_rfl
theorem XT{a b:Bool}(F:a=true)(hb:b=true):(a && b)=true:=by rw[F,hb];rfl
namespace jf
theorem p2:mapsRowed Tryz.prog=true:=by kernel_rfl
theorem p3:(Tryz.prog.stops==[])=true:=by kernel_rfl
theorem p4:(Tryz.prog.stopKnobs==[])=true:=by kernel_rfl
theorem p5:Tryz.prog.stopsHeard=true:=by kernel_rfl
theorem p6:Tryz.prog.mayEnter=true:=by kernel_rfl
end jf
noncomputable def sO(os:Os):World:=
 {World.holding Tryz.prog os ⟨#[], #[],[]⟩with heap:=(((World.holding Tryz.prog os ⟨#[], #[],[]⟩).heap.modify 1 (λo=>match o with
   |.cells _ t frozen=> .cells (Go.Pinned.utf8FirstZ.map λn=>Value.int .u8 (n:Nat)).toArray t frozen
   |o=>o)).modify 2 (λo=>match o with
   |.cells _ t frozen=> .cells #[.int .u8 128,.int .u8 191,.int .u8 160,.int .u8 191,.int .u8 128,.int .u8 159,.int .u8 144,.int .u8 191,.int .u8 128,.int .u8 143,.int .u8 0,.int .u8 0,.int .u8 0,.int .u8 0,.int .u8 0,.int .u8 0,.int .u8 0,.int .u8 0,.int .u8 0,.int .u8 0,.int .u8 0,.int .u8 0,.int .u8 0,.int .u8 0,.int .u8 0,.int .u8 0,.int .u8 0,.int .u8 0,.int .u8 0,.int .u8 0,.int .u8 0,.int .u8 0] t frozen
   |o=>o))}
theorem Lk{W:World}(h:W.ShapedOpen Tryz.prog):2 < W.heap.size:=by
 have F:(((begin Tryz.prog (λ_ _=>0) default).world.heap[2]?).bind Obj.row?).isSome=true:=by kernel_rfl
 obtain⟨⟨zero,t⟩,hz⟩:=adA.1 F;obtain⟨cs,hc,_⟩:=h.1 2 zero t (by rw[show Tryz.prog.globals.size=3 by kernel_rfl];decide) hz;exact(aaF.1 hc).1
section
variable {H:Type} {enc:TypeId×aed->H} {W W':World} {v:aed} {d:DataW H} {ps:List MemPlace}
end
end Go.Proofs.YtmdfgncoekfgdaaGreatDoor
