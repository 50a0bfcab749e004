/- A call whose first statements are run, and whose last ones are shown by the program logic. -/
import Derived.Test.YtmdfgncoekfgdaaGreatDoorG7J
import Derived.Test.YtmdfgncoekfgdaaGreatDoorG2J
namespace Go.D
open Go
section
variable {E:Env} {X:aF}
theorem Cl.mixed{f:Nat}{fn:Func}{c d:Code}{pre:List Code}{k:Nat}{args:List Value}{m:M}{fr:Fr}{K:KT}{R:List Value->M->Nat->Prop}(hX:KI X f)(hf:E.fn.get f=some fn)(hb:fn.body=some c)(hl:Nat.ble args.length fn.ntmps=true)
  (hc:D.flat c=pre++D.flat d) (hp:∀n,eW (aZ E (bN E X (n+k)) (n+k)) pre ⟨enter args 0,m.wl m.n⟩=some (.normal,fr)) (hK:Kn K fr.T) (hlo:fr.m.low<=fr.m.n) (hmn:m.n<=fr.m.n)
  (h:ta E (aI E X) d (Bw fn.results.toList) ⟨K,fr.m,fr.m.low⟩ (post E fn.results.toList R)):
  ∃vs m' lo,R vs m' lo/\m.n<=m'.n/\∃n0,∀n,n0<=n->∀l,l<=m.n->
   bN E X n (.func f) args (m.wl l)=some (bif bD (aR vs) && Nat.ble m.n lo then(aR vs,m.wl l)else(aR vs,m'.wl (min l lo))):=by
 obtain⟨e,s',T',hpost,hk',hn,hlo',n0,hr⟩:=dC _ _ _ _ h fr.T hK hlo
 have hend:(∀id,e≠.exit id)/\Df E s'.K s'.m fn.results.toList fun vs=>R vs s'.m s'.lo:=by
  cases e with
  |exit id=>exact hpost.elim
  |normal=>exact⟨fun _ h=>(by cases h),hpost⟩
  |ret=>exact⟨fun _ h=>(by cases h),hpost⟩
 obtain⟨hne,hres⟩:=hend
 obtain⟨vs,hR,hres⟩:=kF hk' hres
 refine⟨vs,s'.m,s'.lo,hR,Nat.le_trans hmn hn,n0+k+1,fun n hn' l hl'=>?_⟩
 obtain⟨j,rfl,hj⟩:∃j,n=j+k+1/\n0<=j:=⟨n-k-1,by omega,by omega⟩
 have e1':aZ E (bN E X (j+k)) (j+k) c {T:=enter args 0,m:={m.wl l with low:=(m.wl l).n}}=some (e,⟨T',s'.m.wl s'.lo⟩):=by
  rw[ku,hc,mH]
  have h1:eW (aZ E (bN E X (j+k)) (j+k)) pre {T:=enter args 0,m:={m.wl l with low:=(m.wl l).n}}=some (.normal,fr):=hp j
  rw[h1]
  dsimp only
  rw[<-ku]
  exact hr (j+k) (by omega)
 have hr2:=rE (fn:=fn) (hres s'.lo)
 have hX':X (.func f) args (m.wl l)=none:=hX _ _
 have fin:(bif bD (aR vs) && Nat.ble (m.wl l).n (s'.m.wl s'.lo).low then some (aR vs,m.wl l)else some (aR vs,{s'.m.wl s'.lo with low:=min (m.wl l).low (s'.m.wl s'.lo).low}))=
   some (bif bD (aR vs) && Nat.ble m.n s'.lo then(aR vs,m.wl l)else(aR vs,s'.m.wl (min l s'.lo))):=by
  cases hc:(bD (aR vs) && Nat.ble m.n s'.lo)with
  |true=>
   have:(bD (aR vs) && Nat.ble (m.wl l).n (s'.m.wl s'.lo).low)=true:=hc
   rw[this];rfl
  |false=>
   have:(bD (aR vs) && Nat.ble (m.wl l).n (s'.m.wl s'.lo).low)=false:=hc
   rw[this];rfl
 cases e with
 |exit id=>exact(hne id rfl).elim
 |normal=>
  simp only[bN,hX',hf,hb,hl,cond_true,e1',hr2]
  exact fin
 |ret=>
  simp only[bN,hX',hf,hb,hl,cond_true,e1',hr2]
  exact fin
end
end Go.D
