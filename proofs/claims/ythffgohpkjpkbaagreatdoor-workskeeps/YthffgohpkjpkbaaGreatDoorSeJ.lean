/- sane() returns true, and leaves .. -/
import Derived.Test.YthffgohpkjpkbaaGreatDoorSe1J
import Derived.Test.YthffgohpkjpkbaaGreatDoorSe2J
set_option maxHeartbeats 1000000
set_option linter.defProp false
namespace Go.Proofs.YthffgohpkjpkbaaGreatDoor
open Go Go.D Go.Proofs
namespace Dj
set_option maxRecDepth 1000000
def run:∃n,bT TE SX n (.func 6) [] M0=some (VT,M0):=by
 refine⟨300+1,?_⟩;have hX:SX (.func 6) [] M0=none:=bv;have hf:TE.fn.get 6=some Tryz.f6:=bv;have hn:Nat.ble ([]:ν).length Tryz.f6.ntmps:=bv;obtain⟨c,hb,hc⟩:∃c,Tryz.f6.body=some c/\flat c=LS:=(by cases hb:Tryz.f6.body with|none=>exact absurd hb (by intro h;have:Tryz.f6.body.isSome:=bv;rw[h]at this;cases this)|some c=>exact⟨c,rfl,by unfold LS;rw[hb]⟩);have e0:=adG (f:=XS) (l:=LS) 0 10 c0;have F:=c10;have H:lg XS LS fr0=lg XS (LS.drop 10) XY:=(by have:=e0;rw[Mf]at this;rw[this]);rw[<-H]at F;cases hx:lg XS LS fr0 with|none=>rw[hx]at F;cases F|some p=>have⟨e,fr⟩:=p;rw[hx]at F;cases e with|normal=>cases F|exit i=>cases F|ret=>dsimp only at F;split at F;rename_i hr;refine Gh (n:=300) hX hf hb hn ?_ hr rfl F;rw[zj,hc];exact hx;cases F
