/- sane() returns true, and leaves .. -/
import Derived.Test.YtigpcbodmjjaiaaGreatDoorSe1J
import Derived.Test.YtigpcbodmjjaiaaGreatDoorSe2J
namespace Go.Proofs.YtigpcbodmjjaiaaGreatDoor
open Go Go.D Go.Proofs
namespace CC
set_option maxRecDepth 1000000
theorem run:∃n,cJ TE SX n (.func 6) [] {st:=.e,n:=1,low:=1}=some (aex,{st:=.e,n:=1,low:=1}):=by
 refine⟨300+1,?_⟩
 have hX:SX (.func 6) [] {st:=.e,n:=1,low:=1}=none:=by kernel_rfl
 have hf:TE.fn.get 6=some Tryz.f6:=by kernel_rfl
 have hn:Nat.ble ([]:aet).length Tryz.f6.ntmps:=by kernel_rfl
 obtain⟨c,hb,hc⟩:∃c,Tryz.f6.body=some c/\flat c=LS:=by
  cases hb:Tryz.f6.body with
  |none=>exact absurd hb (by
   intro h;have:Tryz.f6.body.isSome:=by kernel_rfl
   rw[h]at this;cases this)
  |some c=>exact⟨c,rfl,by unfold LS;rw[hb]⟩
 have e0:=Kg (f:=XS) (l:=LS) 0 9 c0
 have H:=c9
 have a0:iM XS LS YT=iM XS (LS.drop 9) Ss:=by have:=e0;rw[abM]at this;rw[this]
 rw[<-a0]at H
 cases hx:iM XS LS YT with
 |none=>rw[hx]at H;cases H
 |some p=>
  have⟨e,fr⟩:=p
  rw[hx]at H
  cases e with
  |normal=>cases H
  |exit i=>cases H
  |ret=>
   dsimp only at H;split at H
   ·rename_i hr;refine Co (n:=300) hX hf hb hn ?_ hr rfl H;rw[uH,hc];exact hx
   cases H
end CC
end Go.Proofs.YtigpcbodmjjaiaaGreatDoor
