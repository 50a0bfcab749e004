/- A call whose first statements are run, and whose last ones are shown by the program logic. -/
import Derived.Test.YtmdfgncoekfgdaaGreatDoorG17J
import Derived.Test.YtmdfgncoekfgdaaGreatDoorG5J
import Derived.Test.YtmdfgncoekfgdaaGreatDoorG15J
namespace Go.D
open Go
section
variable {E:Env} {X:aF}
theorem Cl.mixed{f:Nat}{fn:Func}{c d:Code}{pre:List Code}{k:Nat}{args:List Value}{m:M}{fr:Fr}{K:KT}{R:List Value->M->Nat->Prop}(hX:OS X f)(hf:E.fn.get f=some fn)(hb:fn.body=some c)(hl:Nat.ble args.length fn.ntmps=true)
  (hc:D.flat c=pre++D.flat d) (hp:∀n,eD (bh E (bV E X (n+k)) (n+k)) pre ⟨enter args 0,m.wl m.n⟩=some (.normal,fr)) (hK:Kn K fr.T) (hlo:fr.m.low<=fr.m.n) (hmn:m.n<=fr.m.n)
  (h:uj E (aN E X) d (Cd fn.results.toList) ⟨K,fr.m,fr.m.low⟩ (post E fn.results.toList R)):
  ∃vs m' lo,R vs m' lo/\m.n<=m'.n/\∃n0,∀n,n0<=n->∀l,l<=m.n->
   bV E X n (.func f) args (m.wl l)=some (bif bY (bs vs) && Nat.ble m.n lo then(bs vs,m.wl l)else(bs vs,m'.wl (min l lo))):=by
 obtain⟨e,s',T',hpost,hk',hn,hlo',n0,hr⟩:=dv _ _ _ _ h fr.T hK hlo
 have hend:(∀id,e≠.exit id)/\Ed E s'.K s'.m fn.results.toList fun vs=>R vs s'.m s'.lo:=by
  cases e with
  |exit id=>exact hpost.elim
  |normal=>exact⟨fun _ h=>(by cases h),hpost⟩
  |ret=>exact⟨fun _ h=>(by cases h),hpost⟩
 obtain⟨hne,hres⟩:=hend
 obtain⟨vs,hR,hres⟩:=kO hk' hres
 refine⟨vs,s'.m,s'.lo,hR,Nat.le_trans hmn hn,n0+k+1,fun n hn' l hl'=>?_⟩
 obtain⟨j,rfl,hj⟩:∃j,n=j+k+1/\n0<=j:=⟨n-k-1,by omega,by omega⟩
 have e1':bh E (bV E X (j+k)) (j+k) c {T:=enter args 0,m:={m.wl l with low:=(m.wl l).n}}=some (e,⟨T',s'.m.wl s'.lo⟩):=by
  rw[kG,hc,mT]
  have h1:eD (bh E (bV E X (j+k)) (j+k)) pre {T:=enter args 0,m:={m.wl l with low:=(m.wl l).n}}=some (.normal,fr):=hp j
  rw[h1]
  dsimp only
  rw[<-kG]
  exact hr (j+k) (by omega)
 have hr2:=sC (fn:=fn) (hres s'.lo)
 have hX':X (.func f) args (m.wl l)=none:=hX _ _
 have fin:(bif bY (bs vs) && Nat.ble (m.wl l).n (s'.m.wl s'.lo).low then some (bs vs,m.wl l)else some (bs vs,{s'.m.wl s'.lo with low:=min (m.wl l).low (s'.m.wl s'.lo).low}))=
   some (bif bY (bs vs) && Nat.ble m.n s'.lo then(bs vs,m.wl l)else(bs vs,s'.m.wl (min l s'.lo))):=by
  cases hc:(bY (bs vs) && Nat.ble m.n s'.lo)with
  |true=>
   have:(bY (bs vs) && Nat.ble (m.wl l).n (s'.m.wl s'.lo).low)=true:=hc
   rw[this];rfl
  |false=>
   have:(bY (bs vs) && Nat.ble (m.wl l).n (s'.m.wl s'.lo).low)=false:=hc
   rw[this];rfl
 cases e with
 |exit id=>exact(hne id rfl).elim
 |normal=>
  simp only[bV,hX',hf,hb,hl,cond_true,e1',hr2]
  exact fin
 |ret=>
  simp only[bV,hX',hf,hb,hl,cond_true,e1',hr2]
  exact fin
end
end Go.D
namespace Go.Proofs.YtmdfgncoekfgdaaGreatDoor
open Go Go.D
variable {X:aF} {m:M}
end Go.Proofs.YtmdfgncoekfgdaaGreatDoor
namespace Go.Proofs.YtmdfgncoekfgdaaGreatDoor
open Go Go.D
variable {X:aF} {m:M}
end Go.Proofs.YtmdfgncoekfgdaaGreatDoor
namespace Go.Proofs.YtmdfgncoekfgdaaGreatDoor
open Go Go.D
def QJ(l:List Pl)(p:Pl):Nat:=(l.filter fun q=>decide (q=p)).length
end Go.Proofs.YtmdfgncoekfgdaaGreatDoor
namespace Go.Proofs.YtmdfgncoekfgdaaGreatDoor
open Go Go.D
variable {X:aF} {m:M}
theorem KY{b n c i:Nat}{k:IntKind}(hi:i < n):ai TE 25 (.slice (some ⟨b,0,none⟩) n c) (.int k i)=some (.pointer (some ⟨b,i,none⟩)):=by
 have hc:0<=(i:Int)/\(i:Int)< (n:Int)/\0 < af.t25.es:=⟨by omega,by omega,by decide⟩
 have hd:af.t25.d=.slice 3:=rfl
 simp only[ai,xT,hd]
 rw[if_pos hc,aZ rfl,Nat.zero_add]
 show some (Value.pointer (some ⟨b,i*1,none⟩))=_
 rw[Nat.mul_one]
end Go.Proofs.YtmdfgncoekfgdaaGreatDoor
