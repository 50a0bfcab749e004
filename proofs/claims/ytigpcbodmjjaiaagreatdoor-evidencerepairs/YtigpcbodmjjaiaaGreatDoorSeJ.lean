/- sane() returns true, and leaves .. -/
import Derived.Test.YtigpcbodmjjaiaaGreatDoorSe1J
import Derived.Test.YtigpcbodmjjaiaaGreatDoorSe2J
namespace Go.Proofs.YtigpcbodmjjaiaaGreatDoor
open Go Go.D Go.Proofs
namespace CI
set_option maxRecDepth 1000000
theorem run:∃n,cC TE SX n (.func 6) [] {st:=.e,n:=1,low:=1}=some (Ku,{st:=.e,n:=1,low:=1}):=by
 refine⟨300+1,?_⟩;have hX:SX (.func 6) [] {st:=.e,n:=1,low:=1}=none:=by kernel_rfl
 have hf:TE.fn.get 6=some Tryz.f6:=by kernel_rfl
 have hn:Nat.ble ([]:Bt).length Tryz.f6.ntmps:=by kernel_rfl
 obtain⟨c,hb,hc⟩:∃c,Tryz.f6.body=some c/\flat c=LS:=by
  cases hb:Tryz.f6.body with
  |none=>exact absurd hb (by
   intro h;have:Tryz.f6.body.isSome:=by kernel_rfl
   rw[h]at this;cases this)
  |some c=>exact⟨c,rfl,by unfold LS;rw[hb]⟩
 have e0:=adJ (f:=XS) (l:=LS) 0 9 c0;have H:=c9;have a0:iJ XS LS Zl=iJ XS (LS.drop 9) SO:=by have:=e0;rw[QA]at this;rw[this]
 rw[<-a0]at H;cases hx:iJ XS LS Zl with
 |none=>rw[hx]at H;cases H
 |some p=>
  have⟨e,fr⟩:=p;rw[hx]at H;cases e with
  |normal=>cases H
  |exit i=>cases H
  |ret=>
   dsimp only at H;split at H;·rename_i hr;refine Cv (n:=300) hX hf hb hn ?_ hr rfl H;rw[uO,hc];exact hx
   cases H
end CI
end Go.Proofs.YtigpcbodmjjaiaaGreatDoor
