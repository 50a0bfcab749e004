/- What the cards of this seat have in common. -/
import Derived.Test.YtmdfgncoekfgdaaGreatDoorG4J
import Derived.Test.YtmdfgncoekfgdaaGreatDoorCards
import Derived.Test.YtmdfgncoekfgdaaGreatDoorTie
import Derived.WalkKit
import Derived.ProofKit
import Derived.OpenShut
import Derived.Carry
import Derived.Deep.DeepHandedRow
import Derived.Lib.LaidTab
namespace Go.Proofs.YtmdfgncoekfgdaaGreatDoor
open Go.ChangeShapes Go.WideShapes Go.ChangeAt Go.RowKit
theorem uW:ownKnob Tryz.prog.godebug=none:=by kernel_rfl
theorem laidOut:laidOutB Tryz.prog=true:=by kernel_rfl
theorem QM{a b:Bool}(ha:a=true)(hb:b=true):(a && b)=true:=by rw[ha,hb];rfl
namespace jf
theorem p2:mapsRowed Tryz.prog=true:=by kernel_rfl
theorem p3:(Tryz.prog.stops==[])=true:=by kernel_rfl
theorem p4:(Tryz.prog.stopKnobs==[])=true:=by kernel_rfl
theorem p5:Tryz.prog.stopsHeard=true:=by kernel_rfl
theorem p6:Tryz.prog.mayEnter=true:=by kernel_rfl
end jf
noncomputable def pQ(os:Os):World:=
 {World.holding Tryz.prog os ⟨#[], #[],[]⟩with heap:=(((World.holding Tryz.prog os ⟨#[], #[],[]⟩).heap.modify 1 (fun o=>match o with
   |.cells _ t frozen=> .cells (Go.Pinned.utf8FirstZ.map fun n=>Value.int .u8 (n:Nat)).toArray t frozen
   |o=>o)).modify 2 (fun o=>match o with
   |.cells _ t frozen=> .cells #[.int .u8 128,.int .u8 191,.int .u8 160,.int .u8 191,.int .u8 128,.int .u8 159,.int .u8 144,.int .u8 191,.int .u8 128,.int .u8 143,.int .u8 0,.int .u8 0,.int .u8 0,.int .u8 0,.int .u8 0,.int .u8 0,.int .u8 0,.int .u8 0,.int .u8 0,.int .u8 0,.int .u8 0,.int .u8 0,.int .u8 0,.int .u8 0,.int .u8 0,.int .u8 0,.int .u8 0,.int .u8 0,.int .u8 0,.int .u8 0,.int .u8 0,.int .u8 0] t frozen
   |o=>o))}
theorem GS{W:World}(h:W.ShapedOpen Tryz.prog):2 < W.heap.size:=by
 have hs:(((begin Tryz.prog (fun _ _=>0) default).world.heap[2]?).bind Obj.row?).isSome=true:=by kernel_rfl
 obtain⟨⟨zero,t⟩,hz⟩:=Option.isSome_iff_exists.1 hs
 obtain⟨cs,hc,_⟩:=h.1 2 zero t (by rw[show Tryz.prog.globals.size=3 by kernel_rfl];decide) hz
 exact(Array.getElem?_eq_some_iff.1 hc).1
section
variable {H:Type} {enc:TypeId×Value->H} {W W':World} {v:Value} {d:DataW H} {ps:List MemPlace}
theorem FN(hb:Below W.heap.size W W')(h:DataW.Trod enc Tryz.prog W 0 (fun _=>true) true 3 v d ps)(hlt:∀x∈ps,x.block < W.heap.size)(sp:Nat->Bool)(hs:∀x∈ps,sp x.block=true):DataW.Trod enc Tryz.prog W' 0 sp true 3 v d ps:=
 WideElems.Trod_stays laidOut (by kernel_rfl) (of_decide_eq_true (by kernel_rfl)) h (fun x hx=>hb.same (hlt x hx)) hs
theorem Bs(hb:Below W.heap.size W W')(h:DataW.Trod enc Tryz.prog W 0 (fun _=>true) true 25 v d ps)(hlt:∀x∈ps,x.block < W.heap.size)(sp:Nat->Bool)(hs:∀x∈ps,sp x.block=true):DataW.Trod enc Tryz.prog W' 0 sp true 25 v d ps:=
 WideElems.Trod_stays laidOut (by kernel_rfl) (of_decide_eq_true (by kernel_rfl)) h (fun x hx=>hb.same (hlt x hx)) hs
theorem IW(hb:Below W.heap.size W W')(h:DataW.Trod enc Tryz.prog W 0 (fun _=>true) true 24 v d ps)(hlt:∀x∈ps,x.block < W.heap.size)(sp:Nat->Bool)(hs:∀x∈ps,sp x.block=true):DataW.Trod enc Tryz.prog W' 0 sp true 24 v d ps:=
 WideElems.Trod_stays laidOut (by kernel_rfl) (of_decide_eq_true (by kernel_rfl)) h (fun x hx=>hb.same (hlt x hx)) hs
end
end Go.Proofs.YtmdfgncoekfgdaaGreatDoor
