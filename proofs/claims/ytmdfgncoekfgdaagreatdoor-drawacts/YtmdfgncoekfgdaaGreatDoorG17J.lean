/- A call whose first statements .. -/
import Derived.Test.YtmdfgncoekfgdaaGreatDoorG10J
import Derived.Test.YtmdfgncoekfgdaaGreatDoorG2J
import Derived.Test.YtmdfgncoekfgdaaGreatDoorG7J
namespace Go.D
open Go
section
variable {E:Env} {X:aG}
theorem Cl.mixed{f:Nat}{fn:Func}{c d:Code}{pre:List Code}{k:Nat}{args:aee}{m:M}{fr:Fr}{K:KT}{R:aee->M->Nat->Prop}(hX:IQ X f)(hf:E.fn.get f=some fn)(hb:fn.body=some c)(hl:Nat.ble args.length fn.ntmps=true)
  (hc:D.flat c=pre++D.flat d) (hp:∀n,fX (bz E (bO E X (n+k)) (n+k)) pre ⟨enter args 0,m.wl m.n⟩=some (.normal,fr)) (hK:Kn K fr.T) (g0:fr.m.low<=fr.m.n) (h0:m.n<=fr.m.n)
  (h:sj E (aI E X) d (tn fn.results.toList) ⟨K,fr.m,fr.m.low⟩ (post E fn.results.toList R)):
  ∃vs m' lo,R vs m' lo/\m.n<=m'.n/\∃n0,∀n,n0<=n->∀l,l<=m.n->
   bO E X n (.func f) args (m.wl l)=some (bif bP (aO vs) && Nat.ble m.n lo then(aO vs,m.wl l)else(aO vs,m'.wl (min l lo))):=by
 obtain⟨e,F,T',H,i0,hn,k0,n0,hr⟩:=dz _ _ _ _ h fr.T hK g0
 have a0:(∀id,e≠.exit id)/\vn E F.K F.m fn.results.toList λvs=>R vs F.m F.lo:=by
  cases e with
  |exit id=>exact H.elim
  |normal=>exact⟨λ_ h=>(by cases h),H⟩
  |ret=>exact⟨λ_ h=>(by cases h),H⟩
 obtain⟨j0,W⟩:=a0
 obtain⟨vs,hR,W⟩:=fR i0 W
 refine⟨vs,F.m,F.lo,hR,abD h0 hn,n0+k+1,λn l0 l o0=>?_⟩
 obtain⟨j,rfl,hj⟩:∃j,n=j+k+1/\n0<=j:=⟨n-k-1,by omega,by omega⟩
 have b0:bz E (bO E X (j+k)) (j+k) c {T:=enter args 0,m:={m.wl l with low:=(m.wl l).n}}=some (e,⟨T',F.m.wl F.lo⟩):=by rw[mC,hc,px];have h1:fX (bz E (bO E X (j+k)) (j+k)) pre {T:=enter args 0,m:={m.wl l with low:=(m.wl l).n}}=some (.normal,fr):=hp j;rw[h1];dsimp only;rw[<-mC];exact hr (j+k) (by omega)
 have d0:=qc (fn:=fn) (W F.lo)
 have e0:X (.func f) args (m.wl l)=none:=hX _ _
 have fin:(bif bP (aO vs) && Nat.ble (m.wl l).n (F.m.wl F.lo).low then some (aO vs,m.wl l)else some (aO vs,{F.m.wl F.lo with low:=min (m.wl l).low (F.m.wl F.lo).low}))=
   some (bif bP (aO vs) && Nat.ble m.n F.lo then(aO vs,m.wl l)else(aO vs,F.m.wl (min l F.lo))):=by
  cases hc:(bP (aO vs) && Nat.ble m.n F.lo)with
  |true=>have:(bP (aO vs) && Nat.ble (m.wl l).n (F.m.wl F.lo).low)=true:=hc;rw[this];rfl
  |false=>have:(bP (aO vs) && Nat.ble (m.wl l).n (F.m.wl F.lo).low)=false:=hc;rw[this];rfl
 cases e with
 |exit id=>exact(j0 id rfl).elim
 |normal=>simp only[bO,e0,hf,hb,hl,cond_true,b0,d0];exact fin
 |ret=>simp only[bO,e0,hf,hb,hl,cond_true,b0,d0];exact fin
end
end Go.D
namespace Go.Proofs.YtmdfgncoekfgdaaGreatDoor
open Go Go.D
variable {X:aG} {m:M}
theorem OH{b n c i:Nat}{k:IntKind}(hi:i < n):ak TE 25 (aec b 0 n c) (.int k i)=some (aeb b i):=by
 have F:0<=(i:Int)/\(i:Int)< (n:Int)/\0 < ag.t25.es:=⟨by omega,by omega,by decide⟩
 have H:ag.t25.d=.slice 3:=rfl;simp only[ak,EV,H];rw[aaf F,bw rfl,aaq];show some (aeb b (i*1))=_;rw[Nat.mul_one]
end Go.Proofs.YtmdfgncoekfgdaaGreatDoor
