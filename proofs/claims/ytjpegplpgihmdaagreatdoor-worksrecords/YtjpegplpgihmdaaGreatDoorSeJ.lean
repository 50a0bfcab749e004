/- sane() returns true, and leaves .. -/
import Derived.Test.YtjpegplpgihmdaaGreatDoorSe1J
import Derived.Test.YtjpegplpgihmdaaGreatDoorSe2J
set_option linter.defProp false
namespace Go.Proofs.YtjpegplpgihmdaaGreatDoor
open Go Go.D Go.Proofs
namespace CL
set_option maxRecDepth 1000000
def run:∃n,bU TE SX n (.func 4) [] M0=some (HT,M0):=by
 refine⟨300+1,?_⟩;have hX:SX (.func 4) [] M0=none:=bv;have hf:TE.fn.get 4=some Tryz.f4:=bv;have hn:Nat.ble ([]:ν).length Tryz.f4.ntmps:=bv;obtain⟨c,hb,hc⟩:∃c,Tryz.f4.body=some c/\flat c=LS:=(by cases hb:Tryz.f4.body with|none=>exact absurd hb (by intro h;have:Tryz.f4.body.isSome:=bv;rw[h]at this;cases this)|some c=>exact⟨c,rfl,by unfold LS;rw[hb]⟩);have e0:=adg (f:=XS) (l:=LS) 0 10 c0;have F:=c10;have H:kV XS LS fr0=kV XS (LS.drop 10) WX:=(by have:=e0;rw[MP]at this;rw[this]);rw[<-H]at F;cases hx:kV XS LS fr0 with|none=>rw[hx]at F;cases F|some p=>have⟨e,fr⟩:=p;rw[hx]at F;cases e with|normal=>cases F|exit i=>cases F|ret=>dsimp only at F;split at F;rename_i hr;refine aeM (n:=300) hX hf hb hn ?_ hr rfl F;rw[yB,hc];exact hx;cases F
