/- Valid polygons: their interiors meet exactly if no edge separates them. -/
import Derived.Test.YtmdfgncoekfgdaaGreatDoorG10J
import Derived.Test.YtmdfgncoekfgdaaGreatDoorG7J
import Derived.Test.YtmdfgncoekfgdaaGreatDoorG5J
import Derived.Test.YtmdfgncoekfgdaaGreatDoorG8J
namespace Go.Proofs.YtmdfgncoekfgdaaGreatDoor
open Go Go.D Go.pN
def Pl.h(p:Pl):V:=⟨p.x,p.y,1⟩
def jF(a b:Pl):V:=⟨a.y-b.y,b.x-a.x,(b.y-a.y)*a.x-(b.x-a.x)*a.y⟩
theorem jq(a b c:Pl):(jF a b).dot c.h=bE a b c:=by unfold V.dot jF Pl.h bE;grind
def dj(l:List Pl)(i:Nat):Pl:=(l[i]?).getD ⟨0,0⟩
theorem pL{l:List Pl}{i:Nat}(h:i < l.length):l[i]?=some (dj l i):=by unfold dj;rw[List.getElem?_eq_getElem h];rfl
theorem LD{l:List Pl}{q:Pl}(h:q∈l):∃k,k < l.length/\dj l k=q:=by
 obtain⟨k,hk,rfl⟩:=List.getElem_of_mem h
 exact⟨k,hk,by unfold dj;rw[List.getElem?_eq_getElem hk];rfl⟩
theorem BD{l:List Pl}{i:Nat}(h:i < l.length):dj l i∈l:=List.mem_of_getElem? (pL h)
def eJ(l:List Pl)(i:Nat):V:=jF (dj l i) (dj l ((i+1)%l.length))
def mU(l:List Pl):List V:=(List.range l.length).map (eJ l)
theorem iV{l:List Pl}{f:V}:f∈mU l↔∃i,i < l.length/\f=eJ l i:=by
 unfold mU
 simp only[List.mem_map,List.mem_range]
 exact⟨fun⟨i,h,e⟩=>⟨i,h,e.symm⟩,fun⟨i,h,e⟩=>⟨i,h,e.symm⟩⟩
theorem PX{ax ay bx b_y dx dy:Int}(h:ax*dy-ay*dx=bx*dy-b_y*dx):(bx-ax)*dy=(b_y-ay)*dx:=by
 rw[Int.sub_mul,Int.sub_mul];omega
theorem Sc{ux uy vx vy dx dy:Int}(h1:ux*dy=uy*dx)(h2:vx*dy=vy*dx):(ux*vy-uy*vx)*dx=0/\(ux*vy-uy*vx)*dy=0:=by
 constructor <;>grind
section
variable {l:List Pl} (hv:aP l=true)
include hv
theorem oL{i k:Nat}(hi:i < l.length)(hk:k < l.length)(h1:k≠i)(h2:k≠(i+1)%l.length):0 < (eJ l i).dot (dj l k).h:=by
 unfold eJ
 rw[jq]
 exact kK hv (pL hi) (pL (Nat.mod_lt _ (by omega))) (pL hk) h1 h2
theorem jQ{i k:Nat}(hi:i < l.length)(hk:k < l.length):0<=(eJ l i).dot (dj l k).h:=by
 by_cases h1:k=i
 ·subst h1
  unfold eJ
  rw[jq]
  unfold bE
  grind
 by_cases h2:k=(i+1)%l.length
 ·unfold eJ
  rw[jq,<-h2]
  unfold bE
  grind
 exact Int.le_of_lt (oL hv hi hk h1 h2)
theorem rL:∃p:V,0 < p.w/\∀f∈mU l,0 < f.dot p:=by
 obtain⟨h3,_⟩:=cC hv
 refine⟨⟨(dj l 0).x+(dj l 1).x+(dj l 2).x,(dj l 0).y+(dj l 1).y+(dj l 2).y,3⟩,(show(0:Int)< 3 by decide),fun f hf=>?_⟩
 obtain⟨i,hi,rfl⟩:=iV.1 hf
 have e:(eJ l i).dot ⟨(dj l 0).x+(dj l 1).x+(dj l 2).x,(dj l 0).y+(dj l 1).y+(dj l 2).y,3⟩=(eJ l i).dot (dj l 0).h+(eJ l i).dot (dj l 1).h+(eJ l i).dot (dj l 2).h:=by
  unfold V.dot Pl.h;grind
 rw[e]
 have n0:=jQ hv hi (k:=0) (by omega)
 have n1:=jQ hv hi (k:=1) (by omega)
 have n2:=jQ hv hi (k:=2) (by omega)
 have:∃k,k < 3/\k≠i/\k≠(i+1)%l.length:=by
  generalize (i+1)%l.length=j
  by_cases a0:0≠i/\0≠j
  ·exact⟨0,by omega,a0.1,a0.2⟩
  by_cases a1:1≠i/\1≠j
  ·exact⟨1,by omega,a1.1,a1.2⟩
  exact⟨2,by omega,by omega,by omega⟩
 obtain⟨k,hk,k1,k2⟩:=this
 have hp:=oL hv hi (k:=k) (by omega) k1 k2
 have:k=0\/k=1\/k=2:=by omega
 rcases this with rfl |rfl |rfl <;>omega
theorem oM(d:V)(hd:d.w=0)(hd0:d.x≠0\/d.y≠0):∃f∈mU l,f.dot d < 0:=Classical.byContradiction fun hc=>by
 obtain⟨h3,_⟩:=cC hv
 have hE:∀i,i < l.length->(dj l i).x*d.y-(dj l i).y*d.x<=(dj l ((i+1)%l.length)).x*d.y-(dj l ((i+1)%l.length)).y*d.x:=fun i hi=>by
  have h:¬(eJ l i).dot d < 0:=fun h=>hc ⟨_,iV.2 ⟨i,hi,rfl⟩,h⟩
  have e:(eJ l i).dot d=((dj l ((i+1)%l.length)).x*d.y-(dj l ((i+1)%l.length)).y*d.x)-((dj l i).x*d.y-(dj l i).y*d.x):=by
   unfold eJ jF V.dot
   grind
  omega
 have hC:∀k,k < l.length->∀j,j<=k->(dj l j).x*d.y-(dj l j).y*d.x<=(dj l k).x*d.y-(dj l k).y*d.x:=by
  intro k
  induction k with
  |zero=>intro _ j hj;rw[Nat.le_zero.1 hj];exact Int.le_refl _
  |succ k ih=>
   intro hk j hj
   by_cases e:j=k+1
   ·rw[e];exact Int.le_refl _
   ·have h1:=ih (by omega) j (by omega)
    have h2:=hE k (by omega)
    rw[Nat.mod_eq_of_lt hk]at h2
    omega
 have hL:=hE (l.length-1) (by omega)
 rw[Nat.sub_add_cancel (by omega),Nat.mod_self]at hL
 have c1:=hC 1 (by omega) 0 (by omega)
 have c2:=hC 2 (by omega) 1 (by omega)
 have c3:=hC (l.length-1) (by omega) 2 (by omega)
 have ht:=oL hv (i:=0) (k:=2) (by omega) (by omega) (by omega) (by rw[Nat.mod_eq_of_lt (by omega)];omega)
 unfold eJ at ht
 rw[Nat.zero_add,Nat.mod_eq_of_lt (by omega:1 < l.length),jq]at ht
 generalize dj l 0=a at*
 generalize dj l 1=b at*
 generalize dj l 2=c at*
 have e1:=PX (show a.x*d.y-a.y*d.x=b.x*d.y-b.y*d.x by omega)
 have e2:=PX (show a.x*d.y-a.y*d.x=c.x*d.y-c.y*d.x by omega)
 unfold bE at ht
 obtain⟨t1,t2⟩:=Sc e1 e2
 rcases hd0 with h |h
 ·rcases Int.mul_eq_zero.1 t1 with h' |h'
  ·omega
  ·exact h h'
 ·rcases Int.mul_eq_zero.1 t2 with h' |h'
  ·omega
  ·exact h h'
omit hv in
theorem Cw(G:Nat->Int):∀n,0 < n->∃k,k < n/\∀j,j < n->G j<=G k
 |1,_=>⟨0,by omega,fun j hj=>by rw[show j=0 by omega];exact Int.le_refl _⟩
 |n+2,_=>by
  obtain⟨k,hk,h⟩:=Cw G (n+1) (by omega)
  by_cases hc:G k<=G (n+1)
  ·refine⟨n+1,by omega,fun j hj=>?_⟩
   by_cases e:j=n+1
   ·rw[e];exact Int.le_refl _
   ·have:=h j (by omega);omega
  ·refine⟨k,by omega,fun j hj=>?_⟩
   by_cases e:j=n+1
   ·rw[e];omega
   ·exact h j (by omega)
theorem Ef{g p:V}(hg:∀q∈l,g.dot q.h<=0)(hw:0 < p.w)(hp:∀f∈mU l,0<=f.dot p):g.dot p<=0:=by
 obtain⟨h3,_⟩:=cC hv
 obtain⟨k,hk,hmax⟩:=Cw (fun k=>g.dot (dj l k).h) l.length (by omega)
 obtain⟨r,hr,hrk,hrn⟩:∃r,r < l.length/\(r+1)%l.length=k/\r≠(k+1)%l.length:=by
  by_cases e:k=0
  ·refine⟨l.length-1,by omega,?_,?_⟩
   ·rw[Nat.sub_add_cancel (by omega),Nat.mod_self,e]
   ·rw[e,Nat.mod_eq_of_lt (by omega)];omega
  ·refine⟨k-1,by omega,?_,?_⟩
   ·rw[Nat.sub_add_cancel (by omega),Nat.mod_eq_of_lt hk]
   ·by_cases e2:k+1=l.length
    ·rw[e2,Nat.mod_self];omega
    ·rw[Nat.mod_eq_of_lt (by omega)];omega
 have hn:(k+1)%l.length < l.length:=Nat.mod_lt _ (by omega)
 have hnk:(k+1)%l.length≠k:=by
  by_cases e2:k+1=l.length
  ·rw[e2,Nat.mod_self];omega
  ·rw[Nat.mod_eq_of_lt (by omega)];omega
 have hT:=oL hv hr hn (fun e=>hrn e.symm) (by rw[hrk];exact hnk)
 have p1:=hp _ (iV.2 ⟨r,hr,rfl⟩)
 have p2:=hp _ (iV.2 ⟨k,hk,rfl⟩)
 have m1:=hmax _ hn
 have m2:=hmax _ hr
 have m3:=hg _ (BD hk)
 unfold eJ at hT p1 p2
 rw[hrk]at hT p1
 have m1:g.dot (dj l ((k+1)%l.length)).h<=g.dot (dj l k).h:=m1
 have m2:g.dot (dj l r).h<=g.dot (dj l k).h:=m2
 generalize dj l r=a at*
 generalize dj l k=b at*
 generalize dj l ((k+1)%l.length)=c at*
 have id:(jF a b).dot c.h*(g.dot p-p.w*g.dot b.h)=(jF a b).dot p*(g.dot c.h-g.dot b.h)+(jF b c).dot p*(g.dot a.h-g.dot b.h):=by
  unfold jF V.dot Pl.h
  grind
 have r1:(jF a b).dot p*(g.dot c.h-g.dot b.h)<=0:=Int.mul_nonpos_of_nonneg_of_nonpos p1 (by omega)
 have r2:(jF b c).dot p*(g.dot a.h-g.dot b.h)<=0:=Int.mul_nonpos_of_nonneg_of_nonpos p2 (by omega)
 have r3:p.w*g.dot b.h<=0:=Int.mul_nonpos_of_nonneg_of_nonpos (Int.le_of_lt hw) m3
 refine Classical.byContradiction fun hc=>?_
 have:0 < (jF a b).dot c.h*(g.dot p-p.w*g.dot b.h):=Int.mul_pos hT (by omega)
 omega
end
def Sep(a b:List Pl):Prop:=∃f∈mU a,∀q∈b,f.dot q.h<=0
theorem Cg{a:List Pl}(ha:aP a=true){h:V}(hh:∃q∈a,0 < h.dot q.h):∃p:V,0 < p.w/\(∀f∈mU a,0 < f.dot p)/\0 < h.dot p:=by
 obtain⟨c,wc,hc⟩:=rL ha
 obtain⟨q,hq,hhq⟩:=hh
 obtain⟨k,hk,rfl⟩:=LD hq
 obtain⟨K,hK⟩:∃K:Int,K=max 1 (1-h.dot c):=⟨_,rfl⟩
 refine⟨(dj a k).h.go K 1 c,?_,fun f hf=>?_,?_⟩
 ·show 0 < K*1+1*c.w
  omega
 ·rw[lq]
  obtain⟨i,hi,rfl⟩:=iV.1 hf
  have h1:=jQ ha hi hk
  have h2:=hc _ hf
  have:=Int.mul_nonneg (show 0<=K by omega) h1
  omega
 ·rw[lq]
  have:K*1<=K*h.dot (dj a k).h:=Int.mul_le_mul_of_nonneg_left (by omega) (by omega)
  omega
theorem Co{a b:List Pl}(h:¬Sep a b):∀f∈mU a,∃q∈b,0 < f.dot q.h:=fun f hf=>Classical.byContradiction fun hc=>h ⟨f,hf,fun q hq=>by
 refine Classical.byContradiction fun h'=>hc ⟨q,hq,by omega⟩⟩
theorem GL{a b:List Pl}(ha:aP a=true)(hb:aP b=true)(h1:¬Sep a b)(h2:¬Sep b a):
  ∃u v w,gT (mU a++mU b) u/\gT (mU a++mU b) v/\gT (mU a++mU b) w/\js u v w≠0:=by
 have pa:∀h∈mU b,∃p:V,0 < p.w/\(∀f∈mU a,0 < f.dot p)/\0 < h.dot p:=fun h hh=>Cg ha (Co h2 h hh)
 have pb:∀h∈mU a,∃p:V,0 < p.w/\(∀f∈mU b,0 < f.dot p)/\0 < h.dot p:=fun h hh=>Cg hb (Co h1 h hh)
 obtain⟨p,hw,hp⟩:=zy _ (mU a++mU b) (Nat.le_refl _) fun f hf g hg h hh=>by
  rcases List.mem_append.1 hf with hf |hf <;>rcases List.mem_append.1 hg with hg |hg <;>rcases List.mem_append.1 hh with hh |hh
  ·obtain⟨p,w,h'⟩:=rL ha;exact⟨p,w,h' _ hf,h' _ hg,h' _ hh⟩
  ·obtain⟨p,w,h',h''⟩:=pa h hh;exact⟨p,w,h' _ hf,h' _ hg,h''⟩
  ·obtain⟨p,w,h',h''⟩:=pa g hg;exact⟨p,w,h' _ hf,h'',h' _ hh⟩
  ·obtain⟨p,w,h',h''⟩:=pb f hf;exact⟨p,w,h'',h' _ hg,h' _ hh⟩
  ·obtain⟨p,w,h',h''⟩:=pa f hf;exact⟨p,w,h'',h' _ hg,h' _ hh⟩
  ·obtain⟨p,w,h',h''⟩:=pb g hg;exact⟨p,w,h' _ hf,h'',h' _ hh⟩
  ·obtain⟨p,w,h',h''⟩:=pb h hh;exact⟨p,w,h' _ hf,h' _ hg,h''⟩
  ·obtain⟨p,w,h'⟩:=rL hb;exact⟨p,w,h' _ hf,h' _ hg,h' _ hh⟩
 refine three ?_ (fun d hd hd0=>?_) hw hp
 ·obtain⟨f,hf,_⟩:=oM ha ⟨1,0,0⟩ rfl (.inl (by decide))
  exact⟨f,List.mem_append.2 (.inl hf)⟩
 ·obtain⟨f,hf,h⟩:=oM ha d hd hd0
  exact⟨f,List.mem_append.2 (.inl hf),h⟩
theorem zb{a b:List Pl}(ha:aP a=true)(hb:aP b=true){L:List V}(hL:∀f,f∈mU a\/f∈mU b->f∈L)(hs:Sep a b){u v w:V}(hu:gT L u)(hv:gT L v)(hw:gT L w):js u v w=0:=by
 obtain⟨f,hf,hfb⟩:=hs
 have hz:∀{c:V},gT L c->f.dot c=0:=fun{c} hc=>by
  obtain⟨i,hi,k,hk,hm,rfl,h0⟩:=hc
  have h1:=h0 f (hL f (.inl hf))
  have h2:=Ef hb hfb (yZ hm) fun g hg=>h0 g (hL g (.inr hg))
  omega
 have hu:=hz hu
 have hv:=hz hv
 have hw:=hz hw
 have hf0:f.x≠0\/f.y≠0:=Classical.byContradiction fun hc=>by
  obtain⟨h3,_⟩:=cC ha
  obtain⟨p,_,hp⟩:=rL ha
  have:=hp f hf
  obtain⟨i,hi,rfl⟩:=iV.1 hf
  unfold eJ at hc this
  generalize dj a i=s at*
  generalize dj a ((i+1)%a.length)=t at*
  have e1:s.y-t.y=0:=by have:¬((s.y-t.y)≠0\/(t.x-s.x)≠0):=hc;omega
  have e2:t.x-s.x=0:=by have:¬((s.y-t.y)≠0\/(t.x-s.x)≠0):=hc;omega
  have e3:(jF s t).dot p=0:=by unfold jF V.dot;grind
  omega
 have t1:f.x*js u v w=0:=by
  have:f.x*js u v w=f.dot u*(v.y*w.w-v.w*w.y)-f.dot v*(u.y*w.w-u.w*w.y)+f.dot w*(u.y*v.w-u.w*v.y):=by unfold js V.dot;grind
  rw[this,hu,hv,hw];simp
 have t2:f.y*js u v w=0:=by
  have:f.y*js u v w= -(f.dot u*(v.x*w.w-v.w*w.x))+f.dot v*(u.x*w.w-u.w*w.x)-f.dot w*(u.x*v.w-u.w*v.x):=by unfold js V.dot;grind
  rw[this,hu,hv,hw];simp
 rcases hf0 with h |h
 ·exact(Int.mul_eq_zero.1 t1).resolve_left h
 ·exact(Int.mul_eq_zero.1 t2).resolve_left h
end Go.Proofs.YtmdfgncoekfgdaaGreatDoor
namespace Go.Proofs.YtmdfgncoekfgdaaGreatDoor
open Go Go.D
variable {X:aF} {m:M}
def rh(a b:List Pl)(i:Nat):Bool:=match a[i]?,a[(i+1)%a.length]? with
 |some p,some q=> !(b.any fun c=>decide (0 < bE p q c))
 |_,_=>false
def cU(a b:List Pl):Int:=match(List.range a.length).find? (rh a b)with |some i=>i |none=> -1
def cH(a b:List Pl):Bool:=aP a && aP b && decide (cU a b < 0) && decide (cU b a < 0)
theorem KO(hX:dF X){a b c:Pl}{ba bb:Nat}(ha:m.get ba=.cells a.c 98 none)(hb:m.get bb=.cells b.c 98 none)(sa:a.sm 1000000)(sb:b.sm 1000000)(sc:c.sm 1000000):
  C X (.func 302) [c.v,ptrTo ba,ptrTo bb] m m.n (.bool (decide (0 < bE a b c))) m:=by
 refine Cl.flat (hX.no _ rfl) Ns rfl rfl ?_
 rw[SC];dsimp only[aN]
 refine ar fun m1 hn1 hg1 hk1=>?_
 have hx1:Ext m m1:=⟨by omega,hk1⟩
 unfold ptrTo
 rw[bz (hx1.cells ha),aa,bz (hx1.cells hb),aa,bz hg1,aa]
 refine aC (my hX sa sb sc) ?_
 rw[cQ,aa]
 exact⟨rfl,by omega⟩
theorem zH{a b:List Pl}(h:∀j,j < a.length->rh a b j=false):cU a b= -1:=by
 unfold cU
 have:(List.range a.length).find? (rh a b)=none:=List.find?_eq_none.2 fun x hx=>by rw[h x (List.mem_range.1 hx)];decide
 rw[this]
theorem find_range{p:Nat->Bool}:∀{n k:Nat},k < n->(∀j,j < k->p j=false)->p k=true->(List.range n).find? p=some k
 |n+1,k,hk,h,hp=>by
  rw[List.range_succ,List.find?_append]
  by_cases e:k < n
  ·rw[find_range e h hp];rfl
  ·have:k=n:=by omega
   subst this
   have:(List.range k).find? p=none:=List.find?_eq_none.2 fun x hx=>by rw[h x (List.mem_range.1 hx)];decide
   rw[this]
   simp[hp]
theorem zG{a b:List Pl}{k:Nat}(hk:k < a.length)(h:∀j,j < k->rh a b j=false)(hs:rh a b k=true):cU a b=k:=by
 unfold cU
 rw[find_range hk h hs]
theorem uZ(hX:dF X){a b:List Pl}{va vb:Value}(ha:Sl m a va)(hb:Sl m b vb)(la:a.length < 1000000)(lb:b.length < 1000000)(sa:∀p∈a,p.sm 1000000)(sb:∀p∈b,p.sm 1000000):
  C X (.func 214) [va,vb] m m.n (.int .i64 (cU a b)) m:=by
 refine Cl.flat (hX.no _ rfl) Ny rfl rfl ?_
 rw[SH];dsimp only[aN]
 refine ar fun m1 hn1 hg1 hk1=>?_
 refine ar fun m2 hn2 hg2 hk2=>?_
 refine ar fun m3 hn3 hg3 hk3=>?_
 unfold ptrTo
 refine av nB hg3 rfl rfl rfl fun m4 hn4 hg4 hk4=>?_
 have hx4:Ext m m4:=⟨by omega,fun c hc=>by rw[hk4 c (by omega),hk3 c (by omega),hk2 c (by omega),hk1 c hc]⟩
 obtain⟨m7,hc,hx7,hn7,hg7⟩:=ma (m:=m4) hX ha.cells
 refine aC hc ?_
 rw[bO]
 have g17:m7.get m.n=.cells (cells vb) 45 none:=by rw[hx7.get _ (by omega),hk4 _ (by omega),hk3 _ (by omega),hk2 _ (by omega),hg1]
 have g27:m7.get m1.n=.cells [.int .i64 0] 3 none:=by rw[hx7.get _ (by omega),hk4 _ (by omega),hk3 _ (by omega),hg2]
 have g37:m7.get m2.n=.cells [.int .i64 0] 3 none:=by rw[hx7.get _ (by omega),hg4];rfl
 rw[hb.cells]at g17
 refine⟨fun _=>False,gk a,_,fun k mm=>m7.n<=mm.n/\(∀c,c < m7.n->c≠m1.n->c≠m2.n->mm.get c=m7.get c)/\mm.get m1.n=.cells [.int .i64 0] 3 none/\mm.get m2.n=.cells [.int .i64 k] 3 none/\(∀j,j < k->rh a b j=false),
  fun e mm=>e=.ret/\mm.get m1.n=.cells [.int .i64 (cU a b)] 3 none,m.n,⟨_,rfl⟩,kI hX (v:=va) (b:=m4.n) (by omega),by omega,?_,?_,?_,⟨Nat.le_refl _,fun _ _ _ _=>rfl,g27,g37,fun j hj=>by omega⟩,?_,?_,?_⟩
 ·rintro i mm ⟨h1,h2,h3,h4,h5⟩
  refine⟨by rw[h2 _ (by omega) (by omega) (by omega),hg7],?_⟩
  refine ha.bw fun b c t g hb ht=>?_
  have:=M.aI hb
  rw[h2 b (by omega) (by omega) (by omega),hx7.get b (by omega),hx4.get b this,hb]
 ·rintro i mm mm2 ⟨h1,h2,h3,h4,h5⟩ hk
  exact⟨by have:=hk.n;omega,fun c hc n1 n2=>by rw[hk.get c (by omega) (by omega),h2 c hc n1 n2],by rw[hk.get _ (by omega) (by omega),h3],by rw[hk.get _ (by omega) (by omega),h4],h5⟩
 ·rintro e mm mm2 ⟨h,h'⟩ hk
  have:=M.aI h'
  exact⟨h,by rw[hk.get _ this (by omega),h']⟩
 ·rintro k args m10 hn10 hx ⟨h1,h2,h3,h4,h5⟩
  obtain⟨pa,pb,hpa,hpb,rfl⟩:=kH hx
  have hka:k < a.length:=(List.getElem?_eq_some_iff.1 hpa).1
  rw[aA,aA]
  show vM [] _
  unfold vM
  refine ar fun m16 hn16 hg16 hk16=>?_
  refine av cG hg16 rfl rfl rfl fun m17 hn17 hg17 hk17=>?_
  refine ar fun m19 hn19 hg19 hk19=>?_
  refine av cG hg19 rfl rfl rfl fun m20 hn20 hg20 hk20=>?_
  have eO:∀c,c < m10.n->m20.get c=m10.get c:=fun c hc=>by rw[hk20 c (by omega),hk19 c (by omega),hk17 c (by omega),hk16 c hc]
  refine⟨fun c _ hc=>eO c hc,fun m22 hn22 hk22=>?_⟩
  dsimp only
  have r1:m22.get m10.n=.cells pa.c 98 none:=by rw[hk22 _ (by omega),hk20 _ (by omega),hk19 _ (by omega),hg17];rfl
  have r2:m22.get m17.n=.cells pb.c 98 none:=by rw[hk22 _ (by omega),hg20];rfl
  have o22:∀c,c < m7.n->c≠m1.n->c≠m2.n->m22.get c=m7.get c:=fun c hc n1 n2=>by rw[hk22 c (by omega),eO c (by omega),h2 c hc n1 n2]
  have r3:m22.get m.n=.cells [vb] 45 none:=by rw[o22 _ (by omega) (by omega) (by omega),g17]
  have r4:m22.get m2.n=.cells [.int .i64 k] 3 none:=by rw[hk22 _ (by omega),eO _ (by omega),h4]
  have r5:m22.get m1.n=.cells [.int .i64 0] 3 none:=by rw[hk22 _ (by omega),eO _ (by omega),h3]
  rw[mO,az r3]
  show ah (some vb) _
  rw[aa]
  have hsb:Sl m22 b vb:=hb.bw fun b c t g hb ht=>by
   have:=M.aI hb
   rw[o22 b (by omega) (by omega) (by omega),hx7.get b (by omega),hx4.get b this,hb]
  refine aC (nu hX (fun c=>decide (0 < bE pa pb c)) (by omega) hsb fun c hc=>?_) ?_
  ·exact KO hX r1 r2 (sa _ (List.mem_of_getElem? hpa)) (sa _ (List.mem_of_getElem? hpb)) (sb c hc)
  have hsep:rh a b k= !(b.any fun c=>decide (0 < bE pa pb c)):=by unfold rh;rw[hpa,hpb]
  rw[bD,aa,aj,<-hsep]
  refine ak (fun hs=>?_) (fun hs=>?_)
  ·rw[bA,az r4]
   show ah (some (Value.int .i64 k)) _
   rw[aa]
   refine av nB r5 rfl rfl rfl fun m29 hn29 hg29 hk29=>?_
   refine⟨by omega,fun c h1c h2c h3c=>hk29 c (by
                            rcases h3c with h |h;· omega
                            ·exact h.elim),rfl,?_⟩
   rw[zG hka h5 hs]
   exact hg29
  ·rw[bA,az r4]
   show ah (some (Value.int .i64 k)) _
   rw[aa,aG,aa,wrap64 (by omega) (by omega)]
   refine av nB r4 rfl rfl rfl fun m33 hn33 hg33 hk33=>?_
   refine⟨by omega,fun c h1c h2c h3c=>hk33 c (by
                            rcases h3c with h |h;· omega
                            ·exact h.elim),by omega,fun c hc n1 n2=>by rw[hk33 c n2,o22 c hc n1 n2],by rw[hk33 _ (by omega),r5],hg33,fun j hj=>?_⟩
   by_cases e:j=k
   ·rw[e];exact hs
   ·exact h5 j (by omega)
 ·rintro mm eZ ⟨h1,h2,h3,h4,h5⟩ hlo
  refine av nB h3 rfl rfl rfl fun m37 hn37 hg37 hk37=>?_
  rw[bA,az hg37]
  show ah (some (Value.int .i64 (-1))) _
  rw[aa]
  refine⟨?_,by omega⟩
  rw[jo]at h5
  rw[zH h5];rfl
 ·rintro e mm eZ hne ⟨rfl,h'⟩ hlo
  refine⟨_,List.mem_singleton.2 rfl,rfl,?_⟩
  dsimp only
  rw[bA,az h']
  show ah (some (Value.int .i64 (cU a b))) _
  rw[aa]
  exact⟨rfl,by omega⟩
def uS(a b:List Pl):Int×Int×Bool:=
 if aP a && aP b then(if 0<=cU a b then(0,cU a b,true)else if 0<=cU b a then(1,cU b a,true)else(0,0,false))else(0,0,false)
theorem Hl(hX:dF X){a b:List Pl}{va vb:Value}(ha:Sl m a va)(hb:Sl m b vb)(la:a.length < 1000000)(lb:b.length < 1000000):
  C X (.func 160) [va,vb] m m.n (.tuple #[.int .i64 (uS a b).1,.int .i64 (uS a b).2.1,.bool (uS a b).2.2]) m:=by
 refine Cl.flat (hX.no _ rfl) NQ rfl rfl ?_
 rw[S3];dsimp only[aN]
 refine cq (fun vs mm lo=>vs=[.bool (!(aP a && aP b))]/\m=mm/\m.n<=lo) (fun R hR=>?_) ?_
 ·refine aC (fw hX ha (by omega)) ?_
  rw[bD,aa,aj]
  refine ak (fun h=>?_) (fun h=>?_)
  ·have h:aP a=false:=by simpa using h
   exact hR _ _ _ ⟨by rw[h];rfl,rfl,by omega⟩
  ·have h:aP a=true:=by simpa using h
   refine aC (fw hX hb (by omega)) ?_
   rw[bD,aa]
   exact hR _ _ _ ⟨by rw[h,Bool.true_and],rfl,by omega⟩
 rintro _ _ lo ⟨rfl,rfl,hlo⟩
 rw[aA,aj]
 refine ak (fun h=>?_) (fun h=>?_)
 ·have h:(aP a && aP b)=false:=by
   cases h':(aP a && aP b)with
   |false=>rfl
   |true=>rw[h']at h;cases h
  unfold uS
  rw[if_neg (by rw[h];decide)]
  exact⟨rfl,hlo⟩
 ·have h:(aP a && aP b)=true:=by
   cases h':(aP a && aP b)with
   |true=>rfl
   |false=>rw[h']at h;cases h
  unfold uS
  rw[if_pos h]
  rw[Bool.and_eq_true]at h
  refine aC (uZ hX ha hb la lb (dI h.1) (dI h.2)) ?_
  rw[cR,aa,aj]
  refine ak (fun h1=>?_) (fun h1=>?_)
  ·have h1:0<=cU a b:=by simpa using h1
   rw[if_pos h1]
   exact⟨rfl,by omega⟩
  ·have h1:¬0<=cU a b:=by simpa using h1
   rw[if_neg h1]
   refine aC (uZ hX hb ha lb la (dI h.2) (dI h.1)) ?_
   rw[cR,aa,aj]
   refine ak (fun h2=>?_) (fun h2=>?_)
   ·have h2:0<=cU b a:=by simpa using h2
    rw[if_pos h2]
    exact⟨rfl,by omega⟩
   ·have h2:¬0<=cU b a:=by simpa using h2
    rw[if_neg h2]
    exact⟨rfl,by omega⟩
theorem lN(hX:dF X){a b:List Pl}{va vb:Value}(ha:Sl m a va)(hb:Sl m b vb)(la:a.length < 1000000)(lb:b.length < 1000000):
  C X (.func 102) [va,vb] m m.n (.bool (cH a b)) m:=by
 refine Cl.flat (hX.no _ rfl) Og rfl rfl ?_
 rw[Tt];dsimp only[aN]
 refine aC (Hl hX ha hb la lb) ?_
 rw[aR,aR,aR]
 simp only[List.getElem?_cons_zero,List.getElem?_cons_succ,aa]
 refine cq (fun vs mm lo=>vs=[.bool (cH a b)]/\m=mm/\m.n<=lo) (fun R hR=>?_) ?_
 ·refine aC (fw hX ha (by omega)) ?_
  rw[aj]
  refine ak (fun h=>?_) (fun h=>?_)
  ·refine aC (fw hX hb (by omega)) ?_
   rw[aj]
   refine ak (fun h'=>?_) (fun h'=>?_)
   ·rw[bD,aa]
    refine hR _ _ _ ⟨?_,rfl,by omega⟩
    unfold cH uS
    rw[h,h',Bool.and_self,if_pos rfl,Bool.true_and]
    by_cases h1:0<=cU a b
    ·rw[if_pos h1,decide_eq_false (show¬cU a b < 0 by omega)];rfl
    ·rw[if_neg h1,decide_eq_true (show cU a b < 0 by omega)]
     by_cases h2:0<=cU b a
     ·rw[if_pos h2,decide_eq_false (show¬cU b a < 0 by omega)];rfl
     ·rw[if_neg h2,decide_eq_true (show cU b a < 0 by omega)];rfl
   ·exact hR _ _ _ ⟨by unfold cH;rw[h',Bool.and_false];rfl,rfl,by omega⟩
  ·exact hR _ _ _ ⟨by unfold cH;rw[h];rfl,rfl,by omega⟩
 ·rintro _ _ lo ⟨rfl,rfl,hlo⟩
  rw[aA]
  exact⟨rfl,hlo⟩
end Go.Proofs.YtmdfgncoekfgdaaGreatDoor
namespace Go.Proofs.YtmdfgncoekfgdaaGreatDoor
open Go Go.D
variable {X:aF} {m:M}
theorem HB(hX:dF X)(p:Pl):C X (.func 188) [p.v] m m.n (.bool (!p.off)) m:=by
 refine Cl.flat (hX.no _ rfl) NH rfl rfl ?_
 rw[SP];dsimp only[aN]
 refine ar fun m1 hn1 hg1 hk1=>?_
 simp only[aL]at hg1
 refine cq (fun vs mm lo=>vs=[.bool (!p.off)]/\lo=m.n) (fun R hR=>?_) ?_
 ·simp only[aa,au,bO,aj,bZ,aU,dk,aM,cR,cQ,bI,cE,bD,ptrTo,ff,ef,Nat.zero_add,Nat.reduceAdd,List.getElem?_cons_zero,List.getElem?_cons_succ,List.drop_zero,List.drop_succ_cons,List.take_succ_cons,List.take_zero,Option.map_some,aL,fj,ew,dJ,fg,fh,eu,bC,bJ,bA,az hg1]
  have ho:p.off= !(decide (0<=p.x) && decide (p.x<=40) && decide (0<=p.y) && decide (p.y<=40)):=by
   unfold Pl.off
   by_cases h1:0<=p.x <;>by_cases h2:p.x<=40 <;>by_cases h3:0<=p.y <;>by_cases h4:p.y<=40 <;>simp[h1,h2,h3,h4] <;>omega
  refine ak (fun h1=>?_) (fun h1=>hR _ _ _ ⟨by rw[ho,h1];rfl,rfl⟩)
  refine ak (fun h2=>?_) (fun h2=>hR _ _ _ ⟨by rw[ho,h1,h2];rfl,rfl⟩)
  refine ak (fun h3=>?_) (fun h3=>hR _ _ _ ⟨by rw[ho,h1,h2,h3];rfl,rfl⟩)
  exact hR _ _ _ ⟨by rw[ho,h1,h2,h3,Bool.not_not];rfl,rfl⟩
 ·rintro _ mm lo ⟨rfl,rfl⟩
  rw[aA]
  exact⟨rfl,Nat.le_refl _⟩
theorem Hb(hX:dF X)(a b c:Pl):C X (.func 108) [a.v,b.v,c.v] m m.n (.int .i64 (BX a b c)) m:=by
 refine Cl.flat (hX.no _ rfl) Of rfl rfl ?_
 rw[Ts];dsimp only[aN]
 refine ar fun m1 hn1 hg1 hk1=>?_
 refine ar fun m2 hn2 hg2 hk2=>?_
 refine ar fun m3 hn3 hg3 hk3=>?_
 have g1:=(hk3 m.n (by omega)).trans ((hk2 m.n (by omega)).trans hg1)
 have g2:=(hk3 m1.n (by omega)).trans hg2
 simp only[aL]at g1 g2 hg3
 simp only[aa,au,bO,aj,bZ,aU,dk,aM,cR,cQ,bI,cE,bD,ptrTo,ff,ef,Nat.zero_add,Nat.reduceAdd,List.getElem?_cons_zero,List.getElem?_cons_succ,List.drop_zero,List.drop_succ_cons,List.take_succ_cons,List.take_zero,Option.map_some,aL,fj,ew,dJ,fg,fh,eu,bC,bJ,bA,az g1,az g2,az hg3,dc,dt]
 exact⟨rfl,Nat.le_refl _⟩
theorem Hc(hX:dF X){a b c:Pl}(ha:a.sm 1000000)(hb:b.sm 1000000)(hc:c.sm 1000000):C X (.func 108) [a.v,b.v,c.v] m m.n (.int .i64 (bE a b c)) m:=by
 rw[<-xU ha hb hc];exact Hb hX a b c
theorem Jh(hX:dF X){l:List Pl}{v:Value}(hl:Sl m l v){i:Nat}{q:Pl}(hb:l.length < 4611686018427387904)(hi:i < l.length)(hq:l[(i+1)%l.length]?=some q):C X (.func 166) [v,.int .i64 i] m m.n q.v m:=by
 refine Cl.flat (hX.no _ rfl) NP rfl rfl ?_
 rw[S2];dsimp only[aN]
 refine ar fun m1 hn1 hg1 hk1=>?_
 have hx1:Ext m m1:=⟨by omega,hk1⟩
 rw[aG,aa,wrap64 (by omega) (by omega),(hl.aD hx1).len cF,au,show((i:Int)+1)=((i+1:Nat):Int) by omega,rK (by omega),aa]
 obtain⟨a,e1,e2⟩:=(hl.aD hx1).dK (k:=.i64) hq
 rw[e1,aa,e2,aa]
 unfold ptrTo
 refine av cG hg1 rfl rfl rfl fun m7 hn7 hg7 hk7=>?_
 rw[bz hg7,aa]
 exact⟨rfl,by omega⟩
theorem qd(hX:dF X){l:List Pl}{v:Value}(hl:Sl m l v)(hb:l.length < 4611686018427387904):C X (.func 127) [v] m m.n (.bool (aP l)) m:=by
 refine Cl.flat (hX.no _ rfl) N7 rfl rfl ?_
 rw[Tk];dsimp only[aN]
 refine cq (fun vs mm lo=>vs=[.bool (!(decide (3<=l.length) && decide (l.length<=8)))]/\m=mm/\lo=m.n) (fun R hR=>?_) ?_
 ·rw[hl.len cF]
  simp only[aa,au,bO,aj,bZ,aU,dk,aM,cR,cQ,bI,cE,bD,ptrTo,ff,ef,Nat.zero_add,Nat.reduceAdd,List.getElem?_cons_zero,List.getElem?_cons_succ,List.drop_zero,List.drop_succ_cons,List.take_succ_cons,List.take_zero,Option.map_some,aL,fj,ew,dJ,fg,fh,eu]
  refine ak (fun h=>hR _ _ _ ⟨by
                      have:¬3<=l.length:=by simp at h;omega
                      simp[this],rfl,rfl⟩) (fun h=>?_)
  have h3:3<=l.length:=by simp at h;omega
  refine hR _ _ _ ⟨?_,rfl,rfl⟩
  have:decide ((8:Int)< l.length)= !(decide (l.length<=8)):=by by_cases h:l.length<=8 <;>simp[h] <;>omega
  rw[this];simp[h3]
 rintro _ _ _ ⟨rfl,rfl,rfl⟩
 rw[aA,aj]
 refine ak (fun h=>?_) (fun h=>?_)
 ·refine⟨?_,Nat.le_refl _⟩
  simp only[Bool.not_eq_true']at h
  simp only[bs,aP,h,Bool.false_and]
 simp only[Bool.not_eq_false',Bool.and_eq_true,decide_eq_true_eq]at h
 obtain⟨h3,h8⟩:=h
 refine Lp.intro (γ:=Nat) (fun i=>l.length-i) (fun i vs mm lo=>vs=[.bool false,.int .i64 i]/\i<=l.length/\m=mm/\lo=m.n/\∀j p,j < i->l[j]?=some p->p.off=false) 0 ⟨rfl,Nat.zero_le _,rfl,rfl,fun j p hj=>by omega⟩ ?_
 rintro i vs mm lo ⟨rfl,hi,rfl,rfl,hoff⟩
 rw[aA,aA,hl.len cF,au,aM,aa,aj]
 refine ak (fun hlt=>?_) (fun hge=>?_)
 ·have hlt:i < l.length:=by simpa using hlt
  obtain⟨p,hp⟩:∃p,l[i]?=some p:=⟨_,List.getElem?_eq_getElem hlt⟩
  obtain⟨q,e1,e2⟩:=hl.dK (k:=.i64) hp
  rw[e1,aa,e2,aa]
  refine aC (HB hX p) ?_
  rw[bD,aa,aj,Bool.not_not]
  refine ak (fun ho=>?_) (fun ho=>?_)
  ·refine⟨?_,by omega⟩
   have:l.any Pl.off=true:=List.any_eq_true.2 ⟨p,List.mem_of_getElem? hp,ho⟩
   simp[bs,aP,this]
  ·rw[aG,aa,wrap64 (by omega) (by omega)]
   refine⟨i+1,by omega,rfl,by omega,rfl,by omega,fun j q hj hq=>?_⟩
   by_cases e:j=i
   ·subst e;rw[hp]at hq;cases hq;exact ho
   ·exact hoff j q (by omega) hq
 have hi':i=l.length:=by
  have:¬(i:Int)< (l.length:Int):=by simpa using hge
  omega
 have hany:l.any Pl.off=false:=by
  rw[List.any_eq_false]
  intro p hp
  obtain⟨j,hj⟩:=List.getElem?_of_mem hp
  rw[hoff j p (by have:=(List.getElem?_eq_some_iff.1 hj).1;omega) hj]
  decide
 have hon:∀p∈l,p.sm 1000000:=fun p hp=>Pl.Hz (by rw[List.any_eq_false]at hany;simpa using hany p hp)
 have hv:∀r,lD l=r->aP l=r:=fun r hr=>by simp[aP,h3,h8,hany,hr]
 refine Lp.intro (γ:=Nat) (fun i=>l.length-i) (fun i vs mm lo=>vs=[.bool false,.int .i64 i]/\i<=l.length/\m=mm/\lo=m.n/\∀j,j < i->Hf l j=true) 0 ⟨rfl,Nat.zero_le _,rfl,rfl,fun j hj=>by omega⟩ ?_
 rintro i vs mm lo ⟨rfl,hi,rfl,rfl,hrow⟩
 rw[aA,aA,hl.len cF,au,aM,aa,aj]
 refine ak (fun hlt=>?_) (fun hge=>?_)
 ·have hlt:i < l.length:=by simpa using hlt
  obtain⟨pa,hpa⟩:∃p,l[i]?=some p:=⟨_,List.getElem?_eq_getElem hlt⟩
  have hnx:(i+1)%l.length < l.length:=Nat.mod_lt _ (by omega)
  obtain⟨pb,hpb⟩:∃p,l[(i+1)%l.length]?=some p:=⟨_,List.getElem?_eq_getElem hnx⟩
  refine Lp.intro (γ:=Nat) (fun k=>l.length-k) (fun k vs mm lo=>vs=[.bool false,.int .i64 k]/\k<=l.length/\m=mm/\lo=m.n/\∀j c,j < k->l[j]?=some c->j=i\/j=(i+1)%l.length\/0 < bE pa pb c) 0 ⟨rfl,Nat.zero_le _,rfl,rfl,fun j c hj=>by omega⟩ ?_
  rintro k vs mm lo ⟨rfl,hk,rfl,rfl,hcor⟩
  rw[aA,aA,hl.len cF,au,aM,aa,aj]
  refine ak (fun hlt2=>?_) (fun hge2=>?_)
  ·have hlt2:k < l.length:=by simpa using hlt2
   obtain⟨pc,hpc⟩:∃p,l[k]?=some p:=⟨_,List.getElem?_eq_getElem hlt2⟩
   refine cq (fun vs mm lo=>vs=[.bool (!(k==i ||k==(i+1)%l.length ||decide (0 < bE pa pb pc)))]/\m=mm/\lo=m.n) (fun R hR=>?_) ?_
   ·rw[cE,aa,aj]
    refine ak (fun hne=>?_) (fun he=>?_)
    ·have hne:k≠i:=by simp at hne;omega
     rw[aG,aa,wrap64 (by omega) (by omega),au,show((i:Int)+1)=((i+1:Nat):Int) by omega,rK (by omega),aa,cE,aa,aj]
     refine ak (fun hne2=>?_) (fun he2=>?_)
     ·have hne2:k≠(i+1)%l.length:=by intro e;rw[e]at hne2;simp at hne2
      obtain⟨q,e1,e2⟩:=hl.dK (k:=.i64) hpa
      rw[e1,aa,e2,aa]
      refine aC (Jh hX hl hb hlt hpb) ⟨Nat.le_refl _,?_⟩
      obtain⟨q,e1,e2⟩:=hl.dK (k:=.i64) hpc
      rw[e1,aa,e2,aa]
      refine aC (Hc hX (hon _ (List.mem_of_getElem? hpa)) (hon _ (List.mem_of_getElem? hpb)) (hon _ (List.mem_of_getElem? hpc))) ?_
      rw[dk,aa]
      refine hR _ _ _ ⟨?_,rfl,by omega⟩
      have:decide (bE pa pb pc<=0)= !(decide (0 < bE pa pb pc)):=by by_cases h:bE pa pb pc<=0 <;>simp[h] <;>omega
      rw[this]
      simp[hne,hne2]
     ·refine hR _ _ _ ⟨?_,rfl,rfl⟩
      have:k=(i+1)%l.length:=by
       have h':(k:Int)=(((i+1)%l.length:Nat):Int):=by simpa using he2
       omega
      simp[this]
    ·refine hR _ _ _ ⟨?_,rfl,rfl⟩
     have:k=i:=by simp at he;omega
     simp[this]
   ·rintro _ _ _ ⟨rfl,rfl,rfl⟩
    rw[aA,aj]
    refine ak (fun hbad=>?_) (fun hgood=>?_)
    ·have hc:lD l=false:=by
      cases hc:lD l with
      |false=>rfl
      |true=>
       simp only[lD,List.all_eq_true,List.mem_range]at hc
       have h2:=(oJ hpa hpb).1 (hc i hlt) k pc hpc
       simp only[Bool.not_eq_true',Bool.or_eq_false_iff,beq_eq_false_iff_ne,decide_eq_false_iff_not]at hbad
       omega
     exact⟨by rw[hv false hc];rfl,Nat.le_refl _⟩
    ·rw[aG,aa,wrap64 (by omega) (by omega)]
     refine⟨k+1,by omega,rfl,by omega,rfl,rfl,fun j c hj hc=>?_⟩
     by_cases hjk:j < k
     ·exact hcor j c hjk hc
     ·have:j=k:=by omega
      subst this
      rw[hpc]at hc;cases hc
      simp only[Bool.not_eq_false',Bool.or_eq_true,beq_iff_eq,decide_eq_true_eq]at hgood
      omega
  ·have hk':k=l.length:=by
    have:¬(k:Int)< (l.length:Int):=by simpa using hge2
    omega
   rw[aG,aa,wrap64 (by omega) (by omega)]
   refine⟨i+1,by omega,rfl,by omega,rfl,rfl,fun j hj=>?_⟩
   by_cases hji:j < i
   ·exact hrow j hji
   ·have:j=i:=by omega
    subst this
    rw[oJ hpa hpb]
    intro q c hq
    exact hcor q c (by have:=(List.getElem?_eq_some_iff.1 hq).1;omega) hq
 ·have hi':i=l.length:=by
   have:¬(i:Int)< (l.length:Int):=by simpa using hge
   omega
  have hc:lD l=true:=List.all_eq_true.2 fun j hj=>hrow j (by rw[List.mem_range]at hj;omega)
  exact⟨by rw[hv true hc];rfl,Nat.le_refl _⟩
end Go.Proofs.YtmdfgncoekfgdaaGreatDoor
namespace Go.Proofs.YtmdfgncoekfgdaaGreatDoor
open Go Go.D
variable {X:aF} {m:M}
abbrev wr(x:Int):Int:=IntKind.i64.wrap x
theorem BN(x:Int):wr x=if x%18446744073709551616>=9223372036854775808 then x%18446744073709551616-18446744073709551616 else x%18446744073709551616:=by
 unfold wr IntKind.wrap
 simp[IntKind.bits,IntKind.signed]
theorem pQ(x:Int):wr x%18446744073709551616=x%18446744073709551616:=by
 rw[BN];split <;>omega
theorem kj{x y:Int}(h:x%18446744073709551616=y%18446744073709551616):wr x=wr y:=by
 rw[BN,BN,h]
theorem xN(a b:Int):IntKind.i64.wrap (IntKind.i64.wrap a+b)=IntKind.i64.wrap (a+b):=kj (by
 have:=pQ a
 show(wr a+b)%_=_
 omega)
theorem xM(a b:Int):IntKind.i64.wrap (a+IntKind.i64.wrap b)=IntKind.i64.wrap (a+b):=kj (by
 have:=pQ b
 show(a+wr b)%_=_
 omega)
theorem rY(a b:Int):IntKind.i64.wrap (IntKind.i64.wrap a-b)=IntKind.i64.wrap (a-b):=kj (by
 have:=pQ a
 show(wr a-b)%_=_
 omega)
theorem rX(a b:Int):IntKind.i64.wrap (a-IntKind.i64.wrap b)=IntKind.i64.wrap (a-b):=kj (by
 have:=pQ b
 show(a-wr b)%_=_
 omega)
theorem xL(a b:Int):IntKind.i64.wrap (IntKind.i64.wrap a*b)=IntKind.i64.wrap (a*b):=kj (by
 have:=pQ a
 show(wr a*b)%_=_
 rw[Int.mul_emod,this,<-Int.mul_emod])
theorem xK(a b:Int):IntKind.i64.wrap (a*IntKind.i64.wrap b)=IntKind.i64.wrap (a*b):=kj (by
 have:=pQ b
 show(a*wr b)%_=_
 rw[Int.mul_emod,this,<-Int.mul_emod])
def mo(N x:Int):Prop:= -N<=x/\x<=N
theorem mo.mul{A B a b:Int}(ha:mo A a)(hb:mo B b):mo (A*B) (a*b):=by
 obtain⟨a1,a2⟩:=ha
 obtain⟨b1,b2⟩:=hb
 have h1:0<=(A-a)*(B+b):=Int.mul_nonneg (by omega) (by omega)
 have h2:0<=(A+a)*(B-b):=Int.mul_nonneg (by omega) (by omega)
 have h3:0<=(A-a)*(B-b):=Int.mul_nonneg (by omega) (by omega)
 have h4:0<=(A+a)*(B+b):=Int.mul_nonneg (by omega) (by omega)
 constructor <;>grind
theorem mo.add{A B a b:Int}(ha:mo A a)(hb:mo B b):mo (A+B) (a+b):=by
 obtain⟨a1,a2⟩:=ha
 obtain⟨b1,b2⟩:=hb
 constructor <;>omega
theorem mo.sub{A B a b:Int}(ha:mo A a)(hb:mo B b):mo (A+B) (a-b):=by
 obtain⟨a1,a2⟩:=ha
 obtain⟨b1,b2⟩:=hb
 constructor <;>omega
theorem mo.wr{N x:Int}(h:mo N x)(hN:N < 9223372036854775808):IntKind.i64.wrap x=x:=wrap64 (by have:=h.1;omega) (by have:=h.2;omega)
structure Ln where
 v:pN.V
structure Pt where
 v:pN.V
def vC(p:pN.V):List Value:=[.int .i64 p.x,.int .i64 p.y,.int .i64 p.w]
instance:aY Ln where
 ty:=234
 sz:=3
 agg:=true
 jN:=[]
 rep _ p cs:=cs=vC p.v
 pos:=by decide
 one:=by intro h;cases h
 len:=by rintro _ _ _ rfl;rfl
 lO:=by rintro _ _ _ rfl;rfl
 bw:=by rintro _ _ _ _ rfl _;rfl
instance:aY Pt where
 ty:=236
 sz:=3
 agg:=true
 jN:=[]
 rep _ p cs:=cs=vC p.v
 pos:=by decide
 one:=by intro h;cases h
 len:=by rintro _ _ _ rfl;rfl
 lO:=by rintro _ _ _ rfl;rfl
 bw:=by rintro _ _ _ _ rfl _;rfl
theorem vS:uJ TE 230 234 Ln:=⟨af.t230,af.t234,by kernel_rfl,⟨_,rfl⟩,rfl,by kernel_rfl,rfl,rfl⟩
theorem JN:BH TE 230 Ln:=⟨af.t230,af.t234,by kernel_rfl,rfl,rfl,by kernel_rfl,by decide,rfl⟩
theorem GX:uJ TE 232 236 Pt:=⟨af.t232,af.t236,by kernel_rfl,⟨_,rfl⟩,rfl,by kernel_rfl,rfl,rfl⟩
theorem OM:BH TE 232 Pt:=⟨af.t232,af.t236,by kernel_rfl,rfl,rfl,by kernel_rfl,by decide,rfl⟩
theorem row_one{α:Type}[aY α]{b:Nat}{cs:List Value}{x:α}{g:Option Nat}(h:m.get b=.cells cs (aY.ty α) g)(hr:aY.rep m x cs):Sl m [x] (.slice (some ⟨b,0,none⟩) 1 1):=by
 refine .inr ⟨b,0,1,cs,g,rfl,h,by rw[aY.len hr];simp,fun i y hi=>?_⟩
 match i with
 |0=>
  cases hi
  have:(cs.drop (0+0*aY.sz α)).take (aY.sz α)=cs:=by
   rw[Nat.zero_mul,Nat.zero_add,List.drop_zero,List.take_of_length_le (by rw[aY.len hr];exact Nat.le_refl _)]
  rw[this];exact hr
 |i+1=>simp at hi
theorem xC{l:List Pl}{i:Nat}{p:Pl}(h:l[i]?=some p):dj l i=p:=by unfold dj;rw[h];rfl
theorem zo(hX:dF X){l:List Pl}{v:Value}(hl:Sl m l v)(hv:aP l=true):∃r m',C X (.func 167) [v] m m.n r m'/\Ext m m'/\Ow m.n m' ((mU l).map Ln.mk) r:=by
 have key:∃r m' b,C X (.func 167) [v] m b r m'/\b=m.n/\Ext m m'/\Ow m.n m' ((mU l).map Ln.mk) r:=by
  obtain⟨h3,h8⟩:=cC hv
  have hon:=kl hv
  refine Cl.heap (R:=fun r m' b=>b=m.n/\Ext m m'/\Ow m.n m' ((mU l).map Ln.mk) r) (hX.no _ rfl) NO rfl ?_
  rw[SZ];dsimp only[aN]
  refine Lp.intro (γ:=Nat) (fun i=>l.length-i) (fun i vs mm lo=>∃r,vs=[r,.int .i64 i]/\i<=l.length/\Ext m mm/\m.n<=lo/\Ow m.n mm (((List.range i).map (eJ l)).map Ln.mk) r) 0 ⟨_,rfl,Nat.zero_le _,.refl,Nat.le_refl _,.nil⟩ ?_
  rintro i vs mm lo ⟨r,rfl,hi,hx,hlo,how⟩
  have hn:=hx.n
  rw[aA,aA,(hl.aD hx).len cF,au,aM,aa,aj]
  refine ak (fun hlt=>?_) (fun hge=>?_)
  ·have hlt:i < l.length:=by simpa using hlt
   obtain⟨p,hp⟩:∃p,l[i]?=some p:=⟨_,List.getElem?_eq_getElem hlt⟩
   obtain⟨q,hq⟩:∃p,l[(i+1)%l.length]?=some p:=⟨_,List.getElem?_eq_getElem (Nat.mod_lt _ (by omega))⟩
   obtain⟨a,e1,e2⟩:=(hl.aD hx).dK (k:=.i64) hp
   rw[e1,aa,e2,aa]
   refine ar fun m13 hn13 hg13 hk13=>?_
   unfold ptrTo
   refine av cG hg13 rfl rfl rfl fun m14 hn14 hg14 hk14=>?_
   have hx14:Ext mm m14:=⟨by omega,fun b hb=>by rw[hk14 b (by omega),hk13 b hb]⟩
   refine aC (Jh hX ((hl.aD hx).aD hx14) (by omega) hlt hq) ?_
   refine ar fun m19 hn19 hg19 hk19=>?_
   refine av cG hg19 rfl rfl rfl fun m20 hn20 hg20 hk20=>?_
   have hx20:Ext m14 m20:=⟨by omega,fun b hb=>by rw[hk20 b (by omega),hk19 b hb]⟩
   have g1:m20.get mm.n=.cells [.int .i64 p.x,.int .i64 p.y] 98 none:=by rw[hx20.get _ (by omega),hg14];rfl
   have g2:m20.get m14.n=.cells [.int .i64 q.x,.int .i64 q.y] 98 none:=hg20
   have bp:=Pl.on (hon p (List.mem_of_getElem? hp))
   have bq:=Pl.on (hon q (List.mem_of_getElem? hq))
   have b1:mo 40 p.x:=⟨by omega,by omega⟩
   have b2:mo 40 p.y:=⟨by omega,by omega⟩
   have b3:mo 80 (q.x-p.x):=⟨by omega,by omega⟩
   have b4:mo 80 (q.y-p.y):=⟨by omega,by omega⟩
   have w3:IntKind.i64.wrap ((q.y-p.y)*p.x-(q.x-p.x)*p.y)=(q.y-p.y)*p.x-(q.x-p.x)*p.y:=((b4.mul b1).sub (b3.mul b2)).wr (by decide)
   have w1:IntKind.i64.wrap (p.y-q.y)=p.y-q.y:=wrap64 (by omega) (by omega)
   have w2:IntKind.i64.wrap (q.x-p.x)=q.x-p.x:=wrap64 (by omega) (by omega)
   simp only[bC,bJ,bA,az g1,az g2,Nat.zero_add,List.getElem?_cons_zero,List.getElem?_cons_succ,aa,dc,dt,rY,rX,xL,xK,w1,w2,w3]
   have bl:∀a b c:Int,aW TE 234 [(0,.int .i64 a),(1,.int .i64 b),(2,.int .i64 c)]=some (.agg #[.int .i64 a,.int .i64 b,.int .i64 c]):=fun a b c=>rD rfl rfl rfl
   rw[bl,aa]
   obtain⟨L,hL⟩:∃L:pN.V,L=⟨p.y-q.y,q.x-p.x,(q.y-p.y)*p.x-(q.x-p.x)*p.y⟩:=⟨_,rfl⟩
   have hLs:eJ l i=L:=by unfold eJ jF;rw[xC hp,xC hq,hL]
   have hbs:∀a b c:Int,aE TE m20 230 1 [(0,.agg #[.int .i64 a,.int .i64 b,.int .i64 c])]=some (.slice (some ⟨m20.n,0,none⟩) 1 1,m20.push (.cells [.int .i64 a,.int .i64 b,.int .i64 c] 234 none)):=fun a b c=>by kernel_rfl
   rw[hbs,au]
   have hx51:Ext m20 (m20.push (.cells [.int .i64 (p.y-q.y),.int .i64 (q.x-p.x),.int .i64 ((q.y-p.y)*p.x-(q.x-p.x)*p.y)] 234 none)):=Ext.refl.push
   generalize hm51:m20.push (.cells [.int .i64 (p.y-q.y),.int .i64 (q.x-p.x),.int .i64 ((q.y-p.y)*p.x-(q.x-p.x)*p.y)] 234 none)=m51 at*
   have hg51:m51.get m20.n=.cells (vC L) 234 none:=by rw[<-hm51,hL];exact M.aV
   have hn51:m51.n=m20.n+1:=by rw[<-hm51];rfl
   obtain⟨v',m53,ha,ho53,hf53,hl53,hn53⟩:=Ow.append (y:=.slice (some ⟨m20.n,0,none⟩) 1 1) (ys:=[Ln.mk L]) JN (by simp[aY.jN]) (how.aD (hx14.trans (hx20.trans hx51))) (row_one hg51 rfl) (by omega) (by simp;omega)
   rw[ha,au,aG,aa,wrap64 (by omega) (by omega)]
   have h53:=hf53.n
   refine⟨i+1,by omega,v',rfl,by omega,⟨by omega,fun b hb=>by rw[hf53.get b hb,hx51.get b (by omega),hx20.get b (by omega),hx14.get b (by omega),hx.get b hb]⟩,by omega,?_⟩
   rw[List.range_succ,List.map_append,List.map_append]
   show Ow m.n m53 (_++ [Ln.mk (eJ l i)]) v'
   rw[hLs]
   exact ho53
  ·have hi':i=l.length:=by
    have:¬(i:Int)< (l.length:Int):=by simpa using hge
    omega
   subst hi'
   refine⟨.inl (how.flat ?_),by omega,hx,how⟩
   intro h
   have:=congrArg List.length h
   rw[List.length_map,List.length_map,List.length_range,List.length_nil]at this
   omega
 obtain⟨r,m',b,hc,rfl,h1,h2⟩:=key
 exact⟨r,m',hc,h1,h2⟩
end Go.Proofs.YtmdfgncoekfgdaaGreatDoor
namespace Go.Proofs.YtmdfgncoekfgdaaGreatDoor
open Go Go.D Go.pN
variable {X:aF} {m:M}
theorem HQ{L:List Ln}{v:Value}(h:Sl m L v){i:Nat}{x:Ln}(hx:L[i]?=some x):∃a a0 a1 a2,ai TE 230 v (.int .i64 i)=some a/\ae TE 234 a 0=some a0/\ag TE m 3 a0=some (.int .i64 x.v.x)/\
  ae TE 234 a 1=some a1/\ag TE m 3 a1=some (.int .i64 x.v.y)/\ae TE 234 a 2=some a2/\ag TE m 3 a2=some (.int .i64 x.v.w):=by
 obtain⟨b,o,bc,g,cs,e1,hb,hr,_,hj⟩:=h.iF vS (k:=.i64) hx
 have hr:cs=vC x.v:=hr
 subst hr
 refine⟨_,_,_,_,e1,rq,?_,rp,?_,rn,?_⟩
 ·rw[bA,az hb,hj 0 (by decide)];rfl
 ·rw[bA,az hb,hj 1 (by decide)];rfl
 ·rw[bA,az hb,hj 2 (by decide)];rfl
theorem Hk{L:List Pt}{v:Value}(h:Sl m L v){i:Nat}{x:Pt}(hx:L[i]?=some x):∃a,ai TE 232 v (.int .i64 i)=some a/\ag TE m 236 a=some (.agg (vC x.v).toArray):=by
 obtain⟨p,cs,e1,e2,e3⟩:=h.index GX (k:=.i64) hx
 have e3:cs=vC x.v:=e3
 subst e3
 exact⟨p,e1,e2⟩
def QY(p:V):Prop:=mo 80 p.x/\mo 80 p.y/\mo 6400 p.w
def Ph(p:V):Prop:=mo 1024000 p.x/\mo 1024000 p.y/\mo 12800 p.w
theorem mo.mono{A B x:Int}(h:mo A x)(hB:A<=B):mo B x:=⟨by have:=h.1;omega,by have:=h.2;omega⟩
theorem mo.neg{A x:Int}(h:mo A x):mo A (-x):=⟨by have:=h.2;omega,by have:=h.1;omega⟩
theorem Cu{f g:V}(hf:QY f)(hg:QY g):Ph (meet f g):=by
 obtain⟨f1,f2,f3⟩:=hf
 obtain⟨g1,g2,g3⟩:=hg
 exact⟨((f2.mul g3).sub (g2.mul f3)).mono (by decide),((f3.mul g1).sub (g3.mul f1)).mono (by decide),((f1.mul g2).sub (g1.mul f2)).mono (by decide)⟩
theorem Cp{p:V}(h:Ph p):Ph (norm p):=by
 unfold norm
 split
 ·exact⟨h.1.neg,h.2.1.neg,h.2.2.neg⟩
 ·exact h
def FF(L:List Ln)(p:V):Bool:=L.all fun x=>decide (0<=x.v.dot p)
set_option maxRecDepth 100000 in
theorem CL{L:List Ln}{v21 va:Value}{B n1 k lo0:Nat}{acc:List Pt}{p:V}{mm:M}{P:List Value->M->Nat->Prop}(hL:Sl mm L v21)(hB:mm.get B=.cells (vC p) 236 none)(hacc:Ow n1 mm acc va)(hn1:n1<=mm.n)
  (hbL:∀x∈L,QY x.v) (hbp:Ph p) (hacl:acc.length<=1000) (hk:k < 1000) (hlen:L.length<=16)
  (hP:∀va' m' lo',mm.n<=m'.n->(∀c,c < n1->m'.get c=mm.get c)->min lo0 n1<=lo'->Ow n1 m' (if FF L p then acc++ [Pt.mk p]else acc) va'->P [va',.int .i64 ((k+1:Nat):Int)] m' lo'):
  (Lp (fun P112 vs113 m114 lo115=>un vs113 fun v116 r117=>un r117 fun v118 r119=>(aO (aq TE m114 .len [230] [v21]) fun v120 _=>(ah (an TE .lss 3 v118 v120) fun v121=>(aX v121
(aX v116
(ah (ai TE 230 v21 v118) fun v122=>(ah (ae TE 234 v122 0) fun v123=>(ah (ag TE m114 3 v123) fun v124=>(ah (ae TE 236 (ptrTo B) 0) fun v125=>(ah (ag TE m114 3 v125) fun v126=>(ah (an TE .mul 3 v124 v126) fun v127=>(ah (ai TE 230 v21 v118) fun v128=>(ah (ae TE 234 v128 1) fun v129=>(ah (ag TE m114 3 v129) fun v130=>(ah (ae TE 236 (ptrTo B) 1) fun v131=>(ah (ag TE m114 3 v131) fun v132=>(ah (an TE .mul 3 v130 v132) fun v133=>(ah (an TE .add 3 v127 v133) fun v134=>(ah (ai TE 230 v21 v118) fun v135=>(ah (ae TE 234 v135 2) fun v136=>(ah (ag TE m114 3 v136) fun v137=>(ah (ae TE 236 (ptrTo B) 2) fun v138=>(ah (ag TE m114 3 v138) fun v139=>(ah (an TE .mul 3 v137 v139) fun v140=>(ah (an TE .add 3 v134 v140) fun v141=>(ah (an TE .geq 3 v141 (.int .i64 0)) fun v142=>(ah (an TE .add 3 v118 (.int .i64 1)) fun v143=>(P112 [v142,v143] m114 lo115)))))))))))))))))))))))
(ah (an TE .add 3 v118 (.int .i64 1)) fun v144=>(P112 [(.bool false),v144] m114 lo115)))
(aX v116
(ah (ag TE m114 236 (ptrTo B)) fun v145=>(aO (aE TE m114 232 1 [(0,v145)]) fun v146 m147=>(aO (aq TE (M.wl m147 (M.n m147)) .append [232,232] [va,v146]) fun v148 m149=>(ah (an TE .add 3 (.int .i64 k) (.int .i64 1)) fun v150=>(P [v148,v150] m149 (min lo115 (M.low m149)))))))
(ah (an TE .add 3 (.int .i64 k) (.int .i64 1)) fun v151=>(P [va,v151] m114 lo115))))))) [(.bool true),(.int .i64 0)] mm lo0):=by
 refine Lp.intro (γ:=Nat) (fun i=>L.length-i) (fun i vs m' lo=>vs=[.bool (FF (L.take i) p),.int .i64 i]/\i<=L.length/\mm=m'/\lo0=lo) 0 ⟨rfl,Nat.zero_le _,rfl,rfl⟩ ?_
 rintro i vs m' lo ⟨rfl,hi,rfl,rfl⟩
 rw[aA,aA,hL.len vS,au,aM,aa,aj,aj]
 refine ak (fun hlt=>?_) (fun hge=>?_)
 ·have hlt:i < L.length:=by simpa using hlt
  obtain⟨x,hx⟩:∃x,L[i]?=some x:=⟨_,List.getElem?_eq_getElem hlt⟩
  have hstep:FF (L.take (i+1)) p=(FF (L.take i) p && decide (0<=x.v.dot p)):=by
   unfold FF
   rw[List.take_add_one,hx,Option.toList_some,List.all_append]
   simp
  refine ak (fun hin=>?_) (fun hin=>?_)
  ·obtain⟨a,a0,a1,a2,e1,f0,l0,f1,l1,f2,l2⟩:=HQ hL hx
   have hB':mm.get B=.cells [.int .i64 p.x,.int .i64 p.y,.int .i64 p.w] 236 none:=hB
   obtain⟨b1,b2,b3⟩:=hbL x (List.mem_of_getElem? hx)
   obtain⟨c1,c2,c3⟩:=hbp
   have hw:IntKind.i64.wrap (x.v.x*p.x+x.v.y*p.y+x.v.w*p.w)=x.v.dot p:=(((b1.mul c1).add (b2.mul c2)).add (b3.mul c3)).wr (by decide)
   simp only[e1,f0,l0,f1,l1,f2,l2,aa,ptrTo,iJ,iI,iH,bA,az hB',Nat.zero_add,List.getElem?_cons_zero,List.getElem?_cons_succ,dt,aG,xN,xM,hw,cR]
   rw[wrap64 (by omega) (by omega)]
   exact⟨i+1,by omega,by rw[hstep,hin,Bool.true_and];rfl,by omega,by first |rfl |trivial,by first |rfl |trivial⟩
  ·rw[aG,aa,wrap64 (by omega) (by omega)]
   exact⟨i+1,by omega,by rw[hstep,hin,Bool.false_and];rfl,by omega,rfl,rfl⟩
 ·have hi':i=L.length:=by
   have:¬(i:Int)< (L.length:Int):=by simpa using hge
   omega
  subst hi'
  rw[List.take_of_length_le (Nat.le_refl _)]
  refine ak (fun hin=>?_) (fun hin=>?_)
  ·unfold ptrTo
   rw[HN,aH hB (by simp[vC])]
   show ah (some (Value.agg #[.int .i64 p.x,.int .i64 p.y,.int .i64 p.w])) _
   rw[aa]
   have hbs:aE TE mm 232 1 [(0,.agg #[.int .i64 p.x,.int .i64 p.y,.int .i64 p.w])]=some (.slice (some ⟨mm.n,0,none⟩) 1 1,mm.push (.cells (vC p) 236 none)):=by kernel_rfl
   rw[hbs,au]
   have hx1:Ext mm (mm.push (.cells (vC p) 236 none)):=Ext.refl.push
   generalize hm1:mm.push (.cells (vC p) 236 none)=m1 at*
   have hg1:m1.get mm.n=.cells (vC p) 236 none:=by rw[<-hm1];exact M.aV
   have hn1':m1.n=mm.n+1:=by rw[<-hm1];rfl
   obtain⟨v',m2,ha,ho2,hf2,hl2,hn2⟩:=Ow.append (y:=.slice (some ⟨mm.n,0,none⟩) 1 1) (ys:=[Pt.mk p]) OM (by simp[aY.jN]) (hacc.aD hx1) (row_one hg1 rfl) (by omega) (by simp;omega)
   rw[ha,au,aG,aa,wrap64 (by omega) (by omega)]
   have h2:=hf2.n
   refine hP v' m2 _ (by omega) (fun c hc=>by rw[hf2.get c hc,hx1.get c (by omega)]) (by omega) ?_
   rw[if_pos hin]
   exact ho2
  ·rw[aG,aa,wrap64 (by omega) (by omega)]
   refine hP va mm lo0 (Nat.le_refl _) (fun _ _=>rfl) (by omega) ?_
   rw[if_neg (by rw[hin];decide)]
   exact hacc
set_option maxRecDepth 100000 in
theorem GK{va:Value}{lo0 n1:Nat}{acc:List Pt}{mm:M}{R:List Value->M->Nat->Prop}(hacc:Sl mm acc va)(hbp:∀x∈acc,Ph x.v)(hacl:acc.length<=1000)(hn1:n1<=mm.n)
  (hT:∀m' lo' (u v w:Pt),u∈acc->v∈acc->w∈acc->js u.v v.v w.v≠0->min lo0 n1<=lo'->R [.bool true] m' lo')
  (hF:∀m' lo',(∀(i k n:Nat) (u v w:Pt),n < k->k < i->acc[i]?=some u->acc[k]?=some v->acc[n]?=some w->js u.v v.v w.v=0)->min lo0 n1<=lo'->R [.bool false] m' lo'):
  (Lp (fun P193 vs194 m195 lo196=>un vs194 fun v197 r198=>un r198 fun v199 r200=>(aO (aq TE m195 .len [232] [va]) fun v201 _=>(ah (an TE .lss 3 v199 v201) fun v202=>(aX v202
(Lp (fun P203 vs204 m205 lo206=>un vs204 fun v207 r208=>un r208 fun v209 r210=>(ah (an TE .lss 3 v209 v199) fun v211=>(aX v211
(Lp (fun P212 vs213 m214 lo215=>un vs213 fun v216 r217=>un r217 fun v218 r219=>(ah (an TE .lss 3 v218 v209) fun v220=>(aX v220
(ah (ai TE 232 va v199) fun v221=>(ah (ag TE m214 236 v221) fun v222=>(bW (M.push m214 (.cells [(.int .i64 0),(.int .i64 0),(.int .i64 0)] 236 none)) fun m223=>(aO (aB TE m223 236 (ptrTo (M.n m214)) v222) fun m224 b225=>(ah (ai TE 232 va v209) fun v226=>(ah (ag TE m224 236 v226) fun v227=>(bW (M.push m224 (.cells [(.int .i64 0),(.int .i64 0),(.int .i64 0)] 236 none)) fun m228=>(aO (aB TE m228 236 (ptrTo (M.n m224)) v227) fun m229 b230=>(ah (ai TE 232 va v218) fun v231=>(ah (ag TE m229 236 v231) fun v232=>(bW (M.push m229 (.cells [(.int .i64 0),(.int .i64 0),(.int .i64 0)] 236 none)) fun m233=>(aO (aB TE m233 236 (ptrTo (M.n m229)) v232) fun m234 b235=>(ah (ae TE 236 (ptrTo (M.n m214)) 0) fun v236=>(ah (ag TE m234 3 v236) fun v237=>(ah (ae TE 236 (ptrTo (M.n m224)) 1) fun v238=>(ah (ag TE m234 3 v238) fun v239=>(ah (ae TE 236 (ptrTo (M.n m229)) 2) fun v240=>(ah (ag TE m234 3 v240) fun v241=>(ah (an TE .mul 3 v239 v241) fun v242=>(ah (ae TE 236 (ptrTo (M.n m224)) 2) fun v243=>(ah (ag TE m234 3 v243) fun v244=>(ah (ae TE 236 (ptrTo (M.n m229)) 1) fun v245=>(ah (ag TE m234 3 v245) fun v246=>(ah (an TE .mul 3 v244 v246) fun v247=>(ah (an TE .sub 3 v242 v247) fun v248=>(ah (an TE .mul 3 v237 v248) fun v249=>(ah (ae TE 236 (ptrTo (M.n m214)) 1) fun v250=>(ah (ag TE m234 3 v250) fun v251=>(ah (ae TE 236 (ptrTo (M.n m224)) 0) fun v252=>(ah (ag TE m234 3 v252) fun v253=>(ah (ae TE 236 (ptrTo (M.n m229)) 2) fun v254=>(ah (ag TE m234 3 v254) fun v255=>(ah (an TE .mul 3 v253 v255) fun v256=>(ah (ae TE 236 (ptrTo (M.n m224)) 2) fun v257=>(ah (ag TE m234 3 v257) fun v258=>(ah (ae TE 236 (ptrTo (M.n m229)) 0) fun v259=>(ah (ag TE m234 3 v259) fun v260=>(ah (an TE .mul 3 v258 v260) fun v261=>(ah (an TE .sub 3 v256 v261) fun v262=>(ah (an TE .mul 3 v251 v262) fun v263=>(ah (an TE .sub 3 v249 v263) fun v264=>(ah (ae TE 236 (ptrTo (M.n m214)) 2) fun v265=>(ah (ag TE m234 3 v265) fun v266=>(ah (ae TE 236 (ptrTo (M.n m224)) 0) fun v267=>(ah (ag TE m234 3 v267) fun v268=>(ah (ae TE 236 (ptrTo (M.n m229)) 1) fun v269=>(ah (ag TE m234 3 v269) fun v270=>(ah (an TE .mul 3 v268 v270) fun v271=>(ah (ae TE 236 (ptrTo (M.n m224)) 1) fun v272=>(ah (ag TE m234 3 v272) fun v273=>(ah (ae TE 236 (ptrTo (M.n m229)) 0) fun v274=>(ah (ag TE m234 3 v274) fun v275=>(ah (an TE .mul 3 v273 v275) fun v276=>(ah (an TE .sub 3 v271 v276) fun v277=>(ah (an TE .mul 3 v266 v277) fun v278=>(ah (an TE .add 3 v264 v278) fun v279=>(ah (an TE .neq 3 v279 (.int .i64 0)) fun v280=>(aX v280
(R [(.bool true)] m234 (min (min (min lo215 b225) b230) b235))
(ah (an TE .add 3 v218 (.int .i64 1)) fun v281=>(P212 [v216,v281] m234 (min (min (min lo215 b225) b230) b235)))))))))))))))))))))))))))))))))))))))))))))))))))))))))))))
(ah (an TE .add 3 v209 (.int .i64 1)) fun v282=>(P203 [v216,v282] m214 lo215))))) [v207,(.int .i64 0)] m205 lo206)
(ah (an TE .add 3 v199 (.int .i64 1)) fun v283=>(P193 [v207,v283] m205 lo206))))) [v197,(.int .i64 0)] m195 lo196)
(R [(.bool false)] m195 lo196))))) [(.bool false),(.int .i64 0)] mm lo0):=by
 refine Lp.intro (γ:=Nat) (fun i=>acc.length-i) (fun i vs m' lo=>vs=[.bool false,.int .i64 i]/\i<=acc.length/\Ext mm m'/\min lo0 n1<=lo/\∀(i' k n:Nat) (u v w:Pt),i' < i->n < k->k < i'->acc[i']?=some u->acc[k]?=some v->acc[n]?=some w->js u.v v.v w.v=0) 0 ⟨rfl,Nat.zero_le _,.refl,Nat.min_le_left _ _,fun i' _ _ _ _ _ h=>by omega⟩ ?_
 rintro i vs m1 lo1 ⟨rfl,hi,hx1,hlo1,hz1⟩
 rw[aA,aA,(hacc.aD hx1).len GX,au,aM,aa,aj]
 refine ak (fun hlt=>?_) (fun hge=>?_)
 ·have hlt:i < acc.length:=by simpa using hlt
  obtain⟨u,hu⟩:∃u,acc[i]?=some u:=⟨_,List.getElem?_eq_getElem hlt⟩
  refine Lp.intro (γ:=Nat) (fun k=>i-k) (fun k vs m' lo=>vs=[.bool false,.int .i64 k]/\k<=i/\Ext mm m'/\min lo0 n1<=lo/\∀(k' n:Nat) (v w:Pt),k' < k->n < k'->acc[k']?=some v->acc[n]?=some w->js u.v v.v w.v=0) 0 ⟨rfl,Nat.zero_le _,hx1,hlo1,fun k' _ _ _ h=>by omega⟩ ?_
  rintro k vs m2 eZ ⟨rfl,hk,hx2,hlo2,hz2⟩
  rw[aA,aA,aM,aa,aj]
  refine ak (fun hlt2=>?_) (fun hge2=>?_)
  ·have hlt2:k < i:=by simpa using hlt2
   obtain⟨v,hv⟩:∃u,acc[k]?=some u:=⟨_,List.getElem?_eq_getElem (by omega)⟩
   refine Lp.intro (γ:=Nat) (fun n=>k-n) (fun n vs m' lo=>vs=[.bool false,.int .i64 n]/\n<=k/\Ext mm m'/\min lo0 n1<=lo/\∀(n':Nat) (w:Pt),n' < n->acc[n']?=some w->js u.v v.v w.v=0) 0 ⟨rfl,Nat.zero_le _,hx2,hlo2,fun n' _ h=>by omega⟩ ?_
   rintro n vs m3 lo3 ⟨rfl,hn,hx3,hlo3,hz3⟩
   rw[aA,aA,aM,aa,aj]
   refine ak (fun hlt3=>?_) (fun hge3=>?_)
   ·have hlt3:n < k:=by simpa using hlt3
    obtain⟨w,hw⟩:∃u,acc[n]?=some u:=⟨_,List.getElem?_eq_getElem (by omega)⟩
    have hm3:=hx3.n
    obtain⟨a,e1,e2⟩:=Hk (hacc.aD hx3) hu
    rw[e1,aa,e2,aa]
    unfold ptrTo
    refine ar fun m4 hn4 hg4 hk4=>?_
    refine av sd hg4 rfl rfl rfl fun m5 hn5 hg5 hk5=>?_
    have hx5:Ext m3 m5:=⟨by omega,fun b hb=>by rw[hk5 b (by omega),hk4 b hb]⟩
    obtain⟨a,e1,e2⟩:=Hk (hacc.aD (hx3.trans hx5)) hv
    rw[e1,aa,e2,aa]
    refine ar fun m6 hn6 hg6 hk6=>?_
    refine av sd hg6 rfl rfl rfl fun m7 hn7 hg7 hk7=>?_
    have hx7:Ext m5 m7:=⟨by omega,fun b hb=>by rw[hk7 b (by omega),hk6 b hb]⟩
    obtain⟨a,e1,e2⟩:=Hk (hacc.aD (hx3.trans (hx5.trans hx7))) hw
    rw[e1,aa,e2,aa]
    refine ar fun m8 hn8 hg8 hk8=>?_
    refine av sd hg8 rfl rfl rfl fun m9 hn9 hg9 hk9=>?_
    have hx9:Ext m7 m9:=⟨by omega,fun b hb=>by rw[hk9 b (by omega),hk8 b hb]⟩
    have g1:m9.get m3.n=.cells [.int .i64 u.v.x,.int .i64 u.v.y,.int .i64 u.v.w] 236 none:=by rw[hx9.get _ (by omega),hx7.get _ (by omega),hg5];rfl
    have g2:m9.get m5.n=.cells [.int .i64 v.v.x,.int .i64 v.v.y,.int .i64 v.v.w] 236 none:=by rw[hx9.get _ (by omega),hg7];rfl
    have g3:m9.get m7.n=.cells [.int .i64 w.v.x,.int .i64 w.v.y,.int .i64 w.v.w] 236 none:=hg9
    obtain⟨a1,a2,a3⟩:=hbp u (List.mem_of_getElem? hu)
    obtain⟨b1,b2,b3⟩:=hbp v (List.mem_of_getElem? hv)
    obtain⟨c1,c2,c3⟩:=hbp w (List.mem_of_getElem? hw)
    have hwd:IntKind.i64.wrap (u.v.x*(v.v.y*w.v.w-v.v.w*w.v.y)-u.v.y*(v.v.x*w.v.w-v.v.w*w.v.x)+u.v.w*(v.v.x*w.v.y-v.v.y*w.v.x))=js u.v v.v w.v:=
     (((a1.mul ((b2.mul c3).sub (b3.mul c2))).sub (a2.mul ((b1.mul c3).sub (b3.mul c1)))).add (a3.mul ((b1.mul c2).sub (b2.mul c1)))).wr (by decide)
    simp only[aa,iJ,iI,iH,bA,az g1,az g2,az g3,Nat.zero_add,List.getElem?_cons_zero,List.getElem?_cons_succ,dt,aG,dc,xN,xM,rY,rX,xL,xK,hwd,cE,aj]
    refine ak (fun hne=>?_) (fun he=>?_)
    ·exact hT _ _ u v w (List.mem_of_getElem? hu) (List.mem_of_getElem? hv) (List.mem_of_getElem? hw) (by simpa using hne) (by omega)
    ·rw[wrap64 (by omega) (by omega)]
     refine⟨n+1,by omega,rfl,by omega,hx3.trans (hx5.trans (hx7.trans hx9)),by omega,fun n' w' hn' hw'=>?_⟩
     by_cases e:n'=n
     ·subst e;rw[hw]at hw';cases hw';simpa using he
     ·exact hz3 n' w' (by omega) hw'
   ·have hn':n=k:=by
     have:¬(n:Int)< (k:Int):=by simpa using hge3
     omega
    subst hn'
    rw[aG,aa,wrap64 (by omega) (by omega)]
    refine⟨n+1,by omega,rfl,by omega,hx3,hlo3,fun k' n' v' w' hk' hn'' hv' hw'=>?_⟩
    by_cases e:k'=n
    ·subst e;rw[hv]at hv';cases hv';exact hz3 n' w' hn'' hw'
    ·exact hz2 k' n' v' w' (by omega) hn'' hv' hw'
  ·have hk':k=i:=by
    have:¬(k:Int)< (i:Int):=by simpa using hge2
    omega
   subst hk'
   rw[aG,aa,wrap64 (by omega) (by omega)]
   refine⟨k+1,by omega,rfl,by omega,hx2,hlo2,fun i' k' n' u' v' w' hi' hn' hk' hu' hv' hw'=>?_⟩
   by_cases e:i'=k
   ·subst e;rw[hu]at hu';cases hu';exact hz2 k' n' v' w' hk' hn' hv' hw'
   ·exact hz1 i' k' n' u' v' w' (by omega) hn' hk' hu' hv' hw'
 ·have hi':i=acc.length:=by
   have:¬(i:Int)< (acc.length:Int):=by simpa using hge
   omega
  subst hi'
  exact hF _ _ (fun i k n u v w h1 h2 h3 h4 h5=>hz1 i k n u v w (List.getElem?_eq_some_iff.1 h3).1 h1 h2 h3 h4 h5) hlo1
end Go.Proofs.YtmdfgncoekfgdaaGreatDoor
namespace Go.Proofs.YtmdfgncoekfgdaaGreatDoor
open Go Go.D Go.pN
variable {X:aF} {m:M}
theorem yG{a b:List Pl}{i:Nat}(hi:i < a.length):rh a b i=true↔∀q∈b,(eJ a i).dot q.h<=0:=by
 obtain⟨p,hp⟩:∃p,a[i]?=some p:=⟨_,List.getElem?_eq_getElem hi⟩
 obtain⟨q,hq⟩:∃p,a[(i+1)%a.length]?=some p:=⟨_,List.getElem?_eq_getElem (Nat.mod_lt _ (by omega))⟩
 unfold rh eJ
 rw[hp,hq,xC hp,xC hq]
 simp only[Bool.not_eq_true',List.any_eq_false,decide_eq_true_eq]
 constructor
 ·intro h c hc
  have:=h c hc
  rw[jq];omega
 ·intro h c hc
  have:=h c hc
  rw[jq]at this;omega
theorem Cc{a b:List Pl}:Sep a b↔¬cU a b < 0:=by
 constructor
 ·rintro⟨f,hf,h⟩ hlt
  obtain⟨i,hi,rfl⟩:=iV.1 hf
  have hs:=(yG hi).2 h
  unfold cU at hlt
  cases hc:(List.range a.length).find? (rh a b)with
  |some k=>rw[hc]at hlt;simp only at hlt;omega
  |none=>
   have:=List.find?_eq_none.1 hc i (List.mem_range.2 hi)
   exact this hs
 ·intro h
  unfold cU at h
  cases hc:(List.range a.length).find? (rh a b)with
  |some k=>
   have h1:=List.find?_some hc
   have h2:=List.mem_range.1 (List.mem_of_find?_eq_some hc)
   exact⟨_,iV.2 ⟨k,h2,rfl⟩,(yG h2).1 h1⟩
  |none=>rw[hc]at h;exact absurd (by decide) h
theorem yT{a b:List Pl}(ha:aP a=true)(hb:aP b=true):cH a b=true↔¬Sep a b/\¬Sep b a:=by
 unfold cH
 rw[ha,hb]
 simp only[Bool.and_self,Bool.true_and,Bool.and_eq_true,decide_eq_true_eq]
 rw[Cc,Cc]
 simp only[Classical.not_not]
theorem Jo(p q r:V):js q p r= -js p q r:=by unfold js;grind
theorem Mn(p q r:V):js p r q= -js p q r:=by unfold js;grind
theorem Oq(p r:V):js p p r=0:=by unfold js;grind
theorem On(p r:V):js r p p=0:=by unfold js;grind
theorem Oo(p r:V):js p r p=0:=by unfold js;grind
theorem Lw{acc:List Pt}(h:∀(i k n:Nat) (u v w:Pt),n < k->k < i->acc[i]?=some u->acc[k]?=some v->acc[n]?=some w->js u.v v.v w.v=0){u v w:Pt}(hu:u∈acc)(hv:v∈acc)(hw:w∈acc):js u.v v.v w.v=0:=by
 obtain⟨i,hi⟩:=List.getElem?_of_mem hu
 obtain⟨k,hk⟩:=List.getElem?_of_mem hv
 obtain⟨n,hn⟩:=List.getElem?_of_mem hw
 by_cases e1:i=k
 ·subst e1;rw[hi]at hk;cases hk;exact Oq _ _
 by_cases e2:k=n
 ·subst e2;rw[hk]at hn;cases hn;exact On _ _
 by_cases e3:i=n
 ·subst e3;rw[hi]at hn;cases hn;exact Oo _ _
 have s1:=Jo u.v v.v w.v
 have s2:=Mn u.v v.v w.v
 have s3:=Jo u.v w.v v.v
 have s4:=Mn v.v u.v w.v
 have s5:=Jo v.v w.v u.v
 rcases Nat.lt_or_gt_of_ne e1 with a |a <;>rcases Nat.lt_or_gt_of_ne e2 with b |b <;>rcases Nat.lt_or_gt_of_ne e3 with c |c
 ·have:=h n k i w v u a b hn hk hi;omega
 ·omega
 ·have:=h k n i v w u c b hk hn hi;omega
 ·have:=h k i n v u w c a hk hi hn;omega
 ·have:=h n i k w u v a c hn hi hk;omega
 ·have:=h i n k u w v b c hi hn hk;omega
 ·omega
 ·have:=h i k n u v w b a hi hk hn;omega
theorem Ek{f g:V}(h:(meet f g).w≠0):norm (meet g f)=norm (meet f g):=by
 have e:meet g f=(meet f g).neg:=by
  unfold meet V.neg
  simp only
  congr 1 <;>omega
 rw[e]
 have hw:(meet f g).neg.w= -(meet f g).w:=rfl
 unfold norm
 by_cases h1:(meet f g).w < 0
 ·rw[if_pos h1,if_neg (by rw[hw];omega)]
 ·rw[if_neg h1,if_pos (by rw[hw];omega)]
  unfold V.neg
  simp only[Int.neg_neg]
structure pO(L:List Ln)(acc:List Pt)(i k:Nat):Prop where
 snd:∀p∈acc,gT (L.map (·.v)) p.v
 Pg:∀(i' k':Nat) (f g:Ln),(i' < i\/(i'=i/\k' < k))->i' < k'->L[i']?=some f->L[k']?=some g->(meet f.v g.v).w≠0->FF L (norm (meet f.v g.v))=true->Pt.mk (norm (meet f.v g.v))∈acc
theorem wJ{L:List Ln}{p:V}:FF L p=true↔∀f∈L.map (·.v),0<=f.dot p:=by
 unfold FF
 simp only[List.all_eq_true,decide_eq_true_eq,List.mem_map]
 constructor
 ·rintro h _ ⟨x,hx,rfl⟩;exact h x hx
 ·intro h x hx;exact h _ ⟨x,hx,rfl⟩
theorem pO.skip{L:List Ln}{acc:List Pt}{i k:Nat}{f g:Ln}(h:pO L acc i k)(hf:L[i]?=some f)(hg:L[k]?=some g)(hn:¬((meet f.v g.v).w≠0/\FF L (norm (meet f.v g.v))=true)):pO L acc i (k+1):=
 ⟨h.snd,fun i' k' f' g' hk hik hf' hg' h1 h2=>by
  by_cases e:i'=i/\k'=k
  ·obtain⟨rfl,rfl⟩:=e
   rw[hf]at hf';rw[hg]at hg'
   cases hf';cases hg'
   exact absurd ⟨h1,h2⟩ hn
  ·exact h.Pg i' k' f' g' (by omega) hik hf' hg' h1 h2⟩
theorem pO.add{L:List Ln}{acc:List Pt}{i k:Nat}{f g:Ln}(h:pO L acc i k)(hf:L[i]?=some f)(hg:L[k]?=some g)(h1:(meet f.v g.v).w≠0)(h2:FF L (norm (meet f.v g.v))=true):pO L (acc++ [Pt.mk (norm (meet f.v g.v))]) i (k+1):=
 ⟨fun p hp=>by
  rcases List.mem_append.1 hp with hp |hp
  ·exact h.snd p hp
  ·rw[List.mem_singleton]at hp
   subst hp
   exact⟨f.v,List.mem_map.2 ⟨f,List.mem_of_getElem? hf,rfl⟩,g.v,List.mem_map.2 ⟨g,List.mem_of_getElem? hg,rfl⟩,h1,rfl,wJ.1 h2⟩,
  fun i' k' f' g' hk hik hf' hg' n1 n2=>by
  by_cases e:i'=i/\k'=k
  ·obtain⟨rfl,rfl⟩:=e
   rw[hf]at hf';rw[hg]at hg'
   cases hf';cases hg'
   simp
  ·exact List.mem_append.2 (.inl (h.Pg i' k' f' g' (by omega) hik hf' hg' n1 n2))⟩
theorem pO.next{L:List Ln}{acc:List Pt}{i k:Nat}(h:pO L acc i k)(hk:L.length<=k){k':Nat}(hk':k'<=i+2):pO L acc (i+1) k':=
 ⟨h.snd,fun i' j f g hc hij hf hg h1 h2=>h.Pg i' j f g (by have:=(List.getElem?_eq_some_iff.1 hg).1;omega) hij hf hg h1 h2⟩
theorem pO.tS{L:List Ln}{acc:List Pt}{k:Nat}(h:pO L acc L.length k){v:V}(hv:gT (L.map (·.v)) v):Pt.mk v∈acc:=by
 obtain⟨f,hf,g,hg,hm,rfl,h0⟩:=hv
 obtain⟨x,hx,rfl⟩:=List.mem_map.1 hf
 obtain⟨y,hy,rfl⟩:=List.mem_map.1 hg
 obtain⟨i,hi⟩:=List.getElem?_of_mem hx
 obtain⟨j,hj⟩:=List.getElem?_of_mem hy
 have li:=(List.getElem?_eq_some_iff.1 hi).1
 have lj:=(List.getElem?_eq_some_iff.1 hj).1
 rcases Nat.lt_trichotomy i j with e |e |e
 ·exact h.Pg i j x y (by omega) e hi hj hm (wJ.2 h0)
 ·subst e
  rw[hi]at hj;cases hj
  exfalso;apply hm
  show x.v.x*x.v.y-x.v.x*x.v.y=0
  omega
 ·rw[<-Ek (f:=x.v) (g:=y.v) hm]at h0⊢
  refine h.Pg j i y x (by omega) e hj hi ?_ (wJ.2 h0)
  intro h'
  apply hm
  have:(meet y.v x.v).w= -(meet x.v y.v).w:=by show y.v.x*x.v.y-x.v.x*y.v.y= -(x.v.x*y.v.y-y.v.x*x.v.y);omega
  omega
theorem CP{l:List Pl}(hv:aP l=true):∀f∈mU l,QY f:=by
 intro f hf
 obtain⟨i,hi,rfl⟩:=iV.1 hf
 obtain⟨h3,_⟩:=cC hv
 have hon:=kl hv
 have b1:=Pl.on (hon _ (BD hi))
 have b2:=Pl.on (hon _ (BD (l:=l) (i:=(i+1)%l.length) (Nat.mod_lt _ (by omega))))
 unfold eJ jF
 generalize dj l i=p at*
 generalize dj l ((i+1)%l.length)=q at*
 have c1:mo 40 p.x:=⟨by omega,by omega⟩
 have c2:mo 40 p.y:=⟨by omega,by omega⟩
 have c3:mo 80 (q.x-p.x):=⟨by omega,by omega⟩
 have c4:mo 80 (q.y-p.y):=⟨by omega,by omega⟩
 exact⟨⟨by show _<=p.y-q.y;omega,by show p.y-q.y<=_;omega⟩,c3,((c4.mul c1).sub (c3.mul c2)).mono (by decide)⟩
def JR(m22:M)(n0:Nat)(L:List Ln)(i k:Nat)(vs:List Value)(mm:M)(lo:Nat):Prop:=
 ∃vc acc,vs=[vc,.int .i64 k]/\i+1<=k/\k<=L.length/\Ext m22 mm/\n0<=lo/\Ow m22.n mm acc vc/\pO L acc i k/\acc.length<=16*i+k
set_option maxRecDepth 100000 in
theorem yL(hX:dF X){a b:List Pl}{va vb:Value}(ha:Sl m a va)(hb:Sl m b vb)(la:a.length < 1000000)(lb:b.length < 1000000):
  C X (.func 111) [va,vb] m m.n (.bool (cH a b)) m:=by
 refine Cl.flat (hX.no _ rfl) Oe rfl rfl ?_
 rw[Tq];dsimp only[aN]
 refine cq (fun vs mm lo=>vs=[.bool (!(aP a && aP b))]/\m=mm/\m.n<=lo) (fun R hR=>?_) ?_
 ·refine aC (qd hX ha (by omega)) ?_
  rw[bD,aa,aj]
  refine ak (fun h=>?_) (fun h=>?_)
  ·have h:aP a=false:=by simpa using h
   exact hR _ _ _ ⟨by rw[h];rfl,rfl,by omega⟩
  ·have h:aP a=true:=by simpa using h
   refine aC (qd hX hb (by omega)) ?_
   rw[bD,aa]
   exact hR _ _ _ ⟨by rw[h,Bool.true_and],rfl,by omega⟩
 rintro _ _ lo ⟨rfl,rfl,hlo⟩
 rw[aA,aj]
 refine ak (fun h=>?_) (fun h=>?_)
 ·refine⟨?_,hlo⟩
  have:(aP a && aP b)=false:=by
   cases h':(aP a && aP b)with
   |false=>rfl
   |true=>rw[h']at h;cases h
  unfold cH
  rw[this];rfl
 have hv:(aP a && aP b)=true:=by
  cases h':(aP a && aP b)with
  |true=>rfl
  |false=>rw[h']at h;cases h
 rw[Bool.and_eq_true]at hv
 obtain⟨hva,hvb⟩:=hv
 obtain⟨la3,la8⟩:=cC hva
 obtain⟨lb3,lb8⟩:=cC hvb
 obtain⟨ra,m16,hc16,hx16,ho16⟩:=zo hX ha hva
 refine aC hc16 ?_
 obtain⟨rb,m19,hc19,hx19,ho19⟩:=zo (m:=m16) hX (hb.aD hx16) hvb
 refine aC hc19 ?_
 have n16:=hx16.n
 have n19:=hx19.n
 have hla:((mU a).map Ln.mk).length=a.length:=by simp[mU]
 have hlb:((mU b).map Ln.mk).length=b.length:=by simp[mU]
 obtain⟨vL,m22,ha22,ho22,hf22,hl22,hn22⟩:=Ow.append JN (by simp[aY.jN]) (ho16.aD hx19) ho19.sl (by omega) (by rw[hla,hlb];omega)
 rw[ha22,au]
 obtain⟨L,hL⟩:∃L,L=(mU a).map Ln.mk++(mU b).map Ln.mk:=⟨_,rfl⟩
 rw[<-hL]at ho22
 have hsL:=ho22.sl
 have hLl:L.length<=16:=by rw[hL,List.length_append,hla,hlb];omega
 have hLm:L.map (·.v)=mU a++mU b:=by rw[hL,List.map_append,List.map_map,List.map_map];simp[Function.comp_def]
 have hLb:∀x∈L,QY x.v:=fun x hx=>by
  have:x.v∈L.map (·.v):=List.mem_map.2 ⟨x,hx,rfl⟩
  rw[hLm]at this
  rcases List.mem_append.1 this with h |h
  ·exact CP hva _ h
  ·exact CP hvb _ h
 have n22:=hf22.n
 have fin:∀(mm:M) (lo:Nat) (r:Bool),r=cH a b->m.n<=lo->bs [Value.bool r]=.bool (cH a b)/\m.n<=lo:=fun mm lo r hr hlo=>⟨by rw[<-hr];rfl,hlo⟩
 have bp:∀a b c:Int,aW TE 236 [(0,.int .i64 a),(1,.int .i64 b),(2,.int .i64 c)]=some (.agg #[.int .i64 a,.int .i64 b,.int .i64 c]):=fun a b c=>rC rfl rfl rfl
 refine Lp.intro (γ:=Nat) (fun i=>L.length-i) (fun i vs mm lo=>∃vc acc,vs=[vc,.int .i64 i]/\i<=L.length/\Ext m22 mm/\m.n<=lo/\Ow m22.n mm acc vc/\pO L acc i 0/\acc.length<=16*i) 0
  ⟨_,[],rfl,Nat.zero_le _,.refl,by omega,.nil,⟨fun p hp=>(by cases hp),fun i' k' f g h=>by omega⟩,Nat.zero_le _⟩ ?_
 rintro i vs mm lo1 ⟨vc,acc,rfl,hi,hx,hlo1,how,hga,hacl⟩
 rw[aA,aA,(hsL.aD hx).len vS,au,aM,aa,aj]
 refine ak (fun hlt=>?_) (fun hge=>?_)
 ·have hlt:i < L.length:=by simpa using hlt
  obtain⟨f,hf⟩:∃f,L[i]?=some f:=⟨_,List.getElem?_eq_getElem hlt⟩
  rw[aG,aa,wrap64 (by omega) (by omega)]
  refine Lp.intro (γ:=Nat) (fun k=>L.length-k) (JR m22 m.n L i) (i+1)
   ⟨vc,acc,rfl,Nat.le_refl _,by omega,hx,hlo1,how,⟨hga.snd,fun i' k' f g hc hik hf hg h1 h2=>hga.Pg i' k' f g (by omega) hik hf hg h1 h2⟩,by omega⟩ ?_
  rintro k vs m36 eZ ⟨vc,acc,rfl,hik,hk,hx36,hlo2,how,hga,hacl⟩
  have n36:=hx36.n
  rw[aA,aA,(hsL.aD hx36).len vS,au,aM,aa,aj]
  refine ak (fun hlt2=>?_) (fun hge2=>?_)
  ·have hlt2:k < L.length:=by simpa using hlt2
   obtain⟨g,hg⟩:∃f,L[k]?=some f:=⟨_,List.getElem?_eq_getElem hlt2⟩
   obtain⟨a1,a10,a11,a12,e1,f10,l10,f11,l11,f12,l12⟩:=HQ (hsL.aD hx36) hf
   obtain⟨a2,a20,a21,a22,e2,f20,l20,f21,l21,f22,l22⟩:=HQ (hsL.aD hx36) hg
   have bf:=hLb f (List.mem_of_getElem? hf)
   have bg:=hLb g (List.mem_of_getElem? hg)
   have bm:=Cu bf bg
   have bn:=Cp bm
   have wx:IntKind.i64.wrap (f.v.y*g.v.w-g.v.y*f.v.w)=(meet f.v g.v).x:=bm.1.wr (by decide)
   have wy:IntKind.i64.wrap (f.v.w*g.v.x-g.v.w*f.v.x)=(meet f.v g.v).y:=bm.2.1.wr (by decide)
   have ww:IntKind.i64.wrap (f.v.x*g.v.y-g.v.x*f.v.y)=(meet f.v g.v).w:=bm.2.2.wr (by decide)
   simp only[e1,f10,l10,f11,l11,f12,l12,e2,f20,l20,f21,l21,f22,l22,aa,dt,dc,rY,rX,wx,wy,ww,bp]
   refine ar fun m90 hn90 hg90 hk90=>?_
   unfold ptrTo
   refine av sd hg90 rfl rfl rfl fun m91 hn91 hg91 hk91=>?_
   have hx91:Ext m36 m91:=⟨by omega,fun b hb=>by rw[hk91 b (by omega),hk90 b hb]⟩
   have hg91:m91.get m36.n=.cells (vC (meet f.v g.v)) 236 none:=hg91
   have hg91':m91.get m36.n=.cells [.int .i64 (meet f.v g.v).x,.int .i64 (meet f.v g.v).y,.int .i64 (meet f.v g.v).w] 236 none:=hg91
   have ldw:∀mm:M,∀x y w:Int,mm.get m36.n=.cells [.int .i64 x,.int .i64 y,.int .i64 w] 236 none->ag TE mm 3 (.pointer (some ⟨m36.n,0+0,none⟩))=some (.int .i64 x)/\ag TE mm 3 (.pointer (some ⟨m36.n,0+1,none⟩))=some (.int .i64 y)/\ag TE mm 3 (.pointer (some ⟨m36.n,0+2,none⟩))=some (.int .i64 w):=fun mm x y w h=>by
    refine⟨?_,?_,?_⟩ <;>rw[bA,az h] <;>rfl
   have hstep:∀(va':Value) (m':M) (lo':Nat) (acc':List Pt),m91.n<=m'.n->(∀c,c < m22.n->m'.get c=m22.get c)->m.n<=lo'->Ow m22.n m' acc' va'->pO L acc' i (k+1)->acc'.length<=acc.length+1->
     ∃g',L.length-g' < L.length-k/\JR m22 m.n L i g' [va',Value.int .i64 ((k+1:Nat):Int)] m' lo':=fun va' m' lo' acc' h1 h2 h3 h4 h5 h6=>
    ⟨k+1,by omega,va',acc',rfl,by omega,by omega,⟨by omega,h2⟩,h3,h4,h5,by omega⟩
   have keep91:∀c,c < m22.n->m91.get c=m22.get c:=fun c hc=>by rw[hx91.get c (by omega),hx36.get c hc]
   have hin:∀(p:V) (mm:M) (lo':Nat),p=norm (meet f.v g.v)->(meet f.v g.v).w≠0->mm.get m36.n=.cells (vC p) 236 none->Ext m36 mm->m91.n<=mm.n->m.n<=lo'->∀(va':Value) (m':M) (lo'':Nat),mm.n<=m'.n->(∀c,c < m22.n->m'.get c=mm.get c)->min lo' m22.n<=lo''->
     Ow m22.n m' (if FF L p then acc++ [Pt.mk p]else acc) va'->∃g',L.length-g' < L.length-k/\JR m22 m.n L i g' [va',Value.int .i64 ((k+1:Nat):Int)] m' lo'':=by
    intro p mm lo' hp hw hg0 hxm hnm hlo' va' m' lo'' h1 h2 h3 h4
    by_cases tA:FF L p=true
    ·rw[if_pos tA]at h4
     refine hstep va' m' lo'' _ (by omega) (fun c hc=>by rw[h2 c hc,hxm.get c (by omega),hx36.get c hc]) (by omega) h4 ?_ (by simp)
     rw[hp]at tA⊢
     exact hga.add hf hg hw tA
    ·rw[if_neg tA]at h4
     refine hstep va' m' lo'' _ (by omega) (fun c hc=>by rw[h2 c hc,hxm.get c (by omega),hx36.get c hc]) (by omega) h4 ?_ (by omega)
     exact hga.skip hf hg fun h=>tA (by rw[hp];exact h.2)
   obtain⟨q0,q1,q2⟩:=ldw m91 _ _ _ hg91'
   rw[iH,aa,q2,aa,bI,aa,aj]
   refine ak (fun hw=>?_) (fun hw=>?_)
   ·have hw:(meet f.v g.v).w=0:=by simpa using hw
    rw[aG,aa,wrap64 (by omega) (by omega)]
    exact hstep vc m91 _ acc (Nat.le_refl _) keep91 (by omega) (how.aD hx91) (hga.skip hf hg fun h=>h.1 hw) (by omega)
   have hw:(meet f.v g.v).w≠0:=by simpa using hw
   rw[aa,q2,aa,aM,aa,aj]
   refine ak (fun hneg=>?_) (fun hpos=>?_)
   ·have hneg:(meet f.v g.v).w < 0:=by simpa using hneg
    have hnm:norm (meet f.v g.v)=(meet f.v g.v).neg:=by unfold norm;rw[if_pos hneg]
    have nx:∀{N x:Int},mo N x->N < 9223372036854775808->IntKind.i64.wrap (0-x)= -x:=fun{N x} h hN=>by rw[wrap64 (by have:=h.2;omega) (by have:=h.1;omega)];omega
    rw[iJ,aa,q0,aa,vJ,aa,iI,aa,q1,aa,vJ,aa,aa,q2,aa,vJ,aa,nx bm.1 (by decide),nx bm.2.1 (by decide),nx bm.2.2 (by decide),bp,aa]
    refine av sd hg91' rfl rfl rfl fun m110 hn110 hg110 hk110=>?_
    have hg110:m110.get m36.n=.cells (vC (norm (meet f.v g.v))) 236 none:=by rw[hnm];exact hg110
    have hx110:Ext m36 m110:=⟨by omega,fun b hb=>by rw[hk110 b (by omega),hx91.get b hb]⟩
    exact CL (P:=fun vs mm lo=>∃g',L.length-g' < L.length-k/\JR m22 m.n L i g' vs mm lo) (n1:=m22.n) (hsL.aD (hx36.trans hx110)) hg110 (how.aD hx110) (by omega) hLb bn (by omega) (by omega) hLl (hin _ m110 _ rfl hw hg110 hx110 (by omega) (by omega))
   ·have hpos:¬(meet f.v g.v).w < 0:=by simpa using hpos
    have hnm:norm (meet f.v g.v)=meet f.v g.v:=by unfold norm;rw[if_neg hpos]
    exact CL (P:=fun vs mm lo=>∃g',L.length-g' < L.length-k/\JR m22 m.n L i g' vs mm lo) (n1:=m22.n) (hsL.aD (hx36.trans hx91)) hg91 (how.aD hx91) (by omega) hLb bm (by omega) (by omega) hLl (hin _ m91 _ hnm.symm hw hg91 hx91 (Nat.le_refl _) (by omega))
  ·have hk':k=L.length:=by
    have:¬(k:Int)< (L.length:Int):=by simpa using hge2
    omega
   subst hk'
   rw[aa]
   exact⟨i+1,by omega,vc,acc,rfl,by omega,hx36,hlo2,how,hga.next (Nat.le_refl _) (by omega),by omega⟩
 ·have hi':i=L.length:=by
   have:¬(i:Int)< (L.length:Int):=by simpa using hge
   omega
  subst hi'
  have nmm:=hx.n
  have hcb:∀x∈acc,Ph x.v:=fun x hx=>by
   obtain⟨f,hf,g,hg,_,e,_⟩:=hga.snd x hx
   rw[e]
   obtain⟨f',hf',rfl⟩:=List.mem_map.1 hf
   obtain⟨g',hg',rfl⟩:=List.mem_map.1 hg
   exact Cp (Cu (hLb _ hf') (hLb _ hg'))
  refine GK (R:=fun vs _ lo=>bs vs=.bool (cH a b)/\m.n<=lo) (n1:=m22.n) how.sl hcb (by omega) (by omega) (fun m' lo' u v w hu hv hw hd hlo'=>fin m' lo' true ?_ (by omega)) (fun m' lo' hz hlo'=>fin m' lo' false ?_ (by omega))
  ·refine((yT hva hvb).2 ⟨fun hs=>hd ?_,fun hs=>hd ?_⟩).symm
   ·exact zb hva hvb (L:=L.map (·.v)) (fun f hf=>by rw[hLm];exact List.mem_append.2 hf) hs (hga.snd _ hu) (hga.snd _ hv) (hga.snd _ hw)
   ·exact zb hvb hva (L:=L.map (·.v)) (fun f hf=>by rw[hLm];exact List.mem_append.2 hf.symm) hs (hga.snd _ hu) (hga.snd _ hv) (hga.snd _ hw)
  ·cases ho:cH a b with
   |false=>rfl
   |true=>
    exfalso
    obtain⟨s1,s2⟩:=(yT hva hvb).1 ho
    obtain⟨u,v,w,cu,cv,cw,hd⟩:=GL hva hvb s1 s2
    rw[<-hLm]at cu cv cw
    exact hd (Lw hz (hga.tS cu) (hga.tS cv) (hga.tS cw))
end Go.Proofs.YtmdfgncoekfgdaaGreatDoor
namespace Go.D
open Go
section
variable {E:Env} {α:Type} [aY α] {n1:Nat} {m:M} {l ys:List α} {v y:Value} {T:TypeId}
theorem Ow.BE(hT:BH E T α)(hty:aY.ty α∉aY.jN α)(h:Ow n1 m l v)(hy:Sl m ys y)(hn:n1<=m.n)(hs:l.length+ys.length<=268435456)(hne:ys≠ []):
  ∃v' m1,aq E (m.wl m.n) .append [T,T] [v,y]=some (v',m1)/\Ow m.n m1 (l++ys) v'/\BG n1 m m1/\n1<=m1.low/\m1.n=m.n+1:=by
 obtain⟨ti,ei,t1,t2,t3,t4,t5,t6⟩:=hT
 obtain⟨news,e1,e2,e3,e4,e5⟩:=hy.first
 have hpos:=aY.pos (α:=α)
 have hc:(Nat.beq ti.es 0 ||Nat.blt 65536 ei.bytes || !news.all D.one ||Nat.blt 268435456 (l.length+ys.length) || !Nat.beq news.length (ys.length*ti.es) || !fT ei.zero ti.es)=false:=by
  have c1:Nat.beq ti.es 0=false:=by
   cases hb:Nat.beq ti.es 0 with
   |false=>rfl
   |true=>have:=Nat.eq_of_beq_eq_true hb;omega
  have c2:Nat.blt 65536 ei.bytes=false:=by
   cases hb:Nat.blt 65536 ei.bytes with
   |false=>rfl
   |true=>rw[Nat.blt_eq]at hb;omega
  have c3:Nat.blt 268435456 (l.length+ys.length)=false:=by
   cases hb:Nat.blt 268435456 (l.length+ys.length)with
   |false=>rfl
   |true=>rw[Nat.blt_eq]at hb;omega
  have c4:Nat.beq news.length (ys.length*ti.es)=true:=by rw[e3,t3];exact Nat.beq_refl _
  rw[c1,c2,c3,c4,e4,t3,t6];rfl
 have hfirst:first? (m.wl m.n) ti.es ys.length y=some news:=by rw[bN,t3];exact e2
 rcases h with⟨rfl,rfl⟩ |⟨b,cs,rfl,h2,h3,h4,h5,h6⟩
 ·
  cases hys:ys with
  |nil=>exact absurd hys hne
  |cons y0 ys'=>
   rw[<-hys]
   have hylen:0 < ys.length:=by rw[hys];simp
   have hble:Nat.ble (0+ys.length) 0=false:=by
    cases hb:Nat.ble (0+ys.length) 0 with
    |false=>rfl
    |true=>have:=Nat.le_of_ble_eq_true hb;omega
   refine⟨.slice (some ⟨m.n,0,none⟩) ys.length ys.length,(m.wl m.n).push (.cells news (aY.ty α) (some (aY.sz α))),?_,?_,⟨by show m.n<=m.n+1;omega,fun c hc=>by rw[M.bQ (by show c < m.n;omega)];rfl⟩,hn,rfl⟩
   ·simp only[aq,dD,t1,e1,t2,t4,hfirst]
    simp only[List.length_nil]at hc
    rw[hc,hble]
    simp only[cond_false,jA]
    have:(Nat.beq 0 0 && Nat.beq 0 0)=true:=rfl
    rw[this,t3]
    simp only[cond_true,Nat.zero_add]
    rfl
   ·refine .inr ⟨m.n,news,by simp,by simpa using hylen,Nat.le_refl _,M.aV (m:=m.wl m.n),by simpa using e3,fun i x hi=>?_⟩
    have:=e5 i x (by simpa using hi)
    exact aY.aD this ⟨by show m.n<=m.n+1;omega,fun c hc=>by rw[M.bQ (m:=m.wl m.n) hc];rfl⟩
 ·
  have hbn:=M.aI h4
  cases hys:ys with
  |nil=>exact absurd hys hne
  |cons y0 ys'=>
   rw[<-hys]
   have hylen:0 < ys.length:=by rw[hys];simp
   have hble:Nat.ble (l.length+ys.length) l.length=false:=by
    cases hb:Nat.ble (l.length+ys.length) l.length with
    |false=>rfl
    |true=>have:=Nat.le_of_ble_eq_true hb;omega
   have hold:(bif Nat.beq l.length 0 then some []else loadCells (m.wl m.n) ⟨b,0,none⟩ (l.length*aY.sz α))=some cs:=by
    cases hb:Nat.beq l.length 0 with
    |true=>have:=Nat.eq_of_beq_eq_true hb;omega
    |false=>
     simp only[cond_false,bu]
     rw[aH h4 (by omega),List.drop_zero,List.take_of_length_le (by omega)]
   have g1:((some (aY.sz α):Option Nat).isNone ||((some (aY.sz α):Option Nat)==some (aY.sz α) && Nat.blt (0+l.length*aY.sz α) cs.length))=false:=by
    have:Nat.blt (0+l.length*aY.sz α) cs.length=false:=by
     cases hb:Nat.blt (0+l.length*aY.sz α) cs.length with
     |false=>rfl
     |true=>rw[Nat.blt_eq]at hb;omega
    rw[this];simp
   have g2:((some (aY.sz α):Option Nat)==some (aY.sz α) && Nat.beq 0 0 && (none:Option Nat).isNone && Nat.beq (l.length*aY.sz α) cs.length && Nat.beq l.length l.length && Nat.beq (aY.ty α) (aY.ty α))=true:=by
    rw[h5]
    simp
   refine⟨.slice (some ⟨m.n,0,none⟩) (l.length+ys.length) (l.length+ys.length),((m.wl m.n).set b .dead).push (.cells (cs++news) (aY.ty α) (some (aY.sz α))),?_,?_,⟨by show m.n<=m.n+1;omega,fun c hc=>?_⟩,?_,rfl⟩
   ·simp only[aq,dD,t1,e1,t2,t4,hfirst]
    rw[hc,hble]
    simp only[cond_false,jA,t3]
    have hg:(m.wl m.n).get b=.cells cs (aY.ty α) (some (aY.sz α)):=h4
    simp only[hg,hold,g1,cond_false]
    rw[g2]
    rfl
   ·have hget:∀c,c < m.n->c≠b->(((m.wl m.n).set b .dead).push (.cells (cs++news) (aY.ty α) (some (aY.sz α)))).get c=m.get c:=fun c hc hne=>by
     rw[M.bQ (by show c < m.n;exact hc),M.cp hne];rfl
    have hrep:∀x c,aY.rep m x c->aY.rep (α:=α) (((m.wl m.n).set b .dead).push (.cells (cs++news) (aY.ty α) (some (aY.sz α)))) x c:=fun x c hx=>by
     refine aY.bw hx fun b' c' t g hb ht=>?_
     rw[hget b' (M.aI hb) (fun e=>by subst e;rw[h4]at hb;cases hb;exact hty ht),hb]
    refine .inr ⟨m.n,cs++news,by simp,by simp;omega,Nat.le_refl _,M.aV (m:=(m.wl m.n).set b .dead),by simp[h5,e3,Nat.add_mul],fun i x hi=>?_⟩
    by_cases hlt:i < l.length
    ·rw[jZ h5 hlt]
     rw[List.getElem?_append_left hlt]at hi
     exact hrep _ _ (h6 i x hi)
    ·rw[jH h5 (by omega)]
     rw[List.getElem?_append_right (by omega)]at hi
     exact hrep _ _ (e5 _ x hi)
   ·rw[M.bQ (by show c < m.n;omega),M.cp (by omega)];rfl
   ·show n1<=min m.n b
    omega
end
end Go.D
namespace Go.Proofs.YtmdfgncoekfgdaaGreatDoor
open Go Go.D
variable {X:aF} {m:M}
structure UW where
 u:Un
 w:Value
abbrev UW.c(x:UW):List Value:=x.u.c x.w
abbrev UW.v(x:UW):Value:=x.u.v x.w
instance:aY UW where
 ty:=87
 sz:=6
 agg:=true
 jN:=[]
 rep _ x cs:=cs=x.c/\one x.w=true
 pos:=by decide
 one:=by intro h;cases h
 len:=by rintro _ _ _ ⟨rfl,_⟩;rfl
 lO:=by rintro _ x _ ⟨rfl,h⟩;exact Un.eE h
 bw:=by rintro _ _ _ _ h _;exact h
theorem eP:uJ TE 29 87 UW:=⟨af.t29,af.t87,by kernel_rfl,⟨_,rfl⟩,rfl,by kernel_rfl,rfl,rfl⟩
theorem JL:BH TE 29 UW:=⟨af.t29,af.t87,by kernel_rfl,rfl,rfl,by kernel_rfl,by decide,rfl⟩
theorem _root_.Go.D.Sl.PS{l:List UW}{v:Value}(h:Sl m l v)(hs:∀x∈l,Sl m x.u.shape x.w):Sl m (l.map (·.u)) v:=by
 rcases h with⟨rfl,rfl⟩ |⟨b,o,c,bc,g,rfl,h2,h3,h4⟩
 ·exact .inl ⟨rfl,rfl⟩
 ·refine .inr ⟨b,o,c,bc,g,by rw[List.length_map],h2,by rw[List.length_map];exact h3,fun i u hi=>?_⟩
  rw[List.getElem?_map,Option.map_eq_some_iff]at hi
  obtain⟨x,hx,rfl⟩:=hi
  exact⟨x.w,(h4 i x hx).1,hs x (List.mem_of_getElem? hx)⟩
theorem _root_.Go.D.Sl.PE{l:List Un}{v:Value}(h:Sl m l v):∃l':List UW,l'.map (·.u)=l/\Sl m l' v/\∀x∈l',Sl m x.u.shape x.w:=by
 rcases h with⟨rfl,rfl⟩ |⟨b,o,c,bc,g,rfl,h2,h3,h4⟩
 ·exact⟨[],rfl,.inl ⟨rfl,rfl⟩,fun x hx=>by cases hx⟩
 ·have key:∀i u,l[i]?=some u->∃w,(bc.drop (o+i*6)).take 6=u.c w/\Sl m u.shape w/\bc[o+i*6+3]?=some w:=fun i u hi=>by
   obtain⟨w,hw,hs⟩:=h4 i u hi
   have hw:(bc.drop (o+i*6)).take 6=u.c w:=hw
   refine⟨w,hw,hs,?_⟩
   have:=congrArg (·[3]?) hw
   simp only[List.getElem?_take_of_lt (show 3 < 6 by decide),List.getElem?_drop]at this
   rw[this];rfl
  refine⟨l.mapIdx fun i u=>⟨u,(bc[o+i*6+3]?).getD undef⟩,?_,.inr ⟨b,o,c,bc,g,by rw[List.length_mapIdx],h2,by rw[List.length_mapIdx];exact h3,fun i x hx=>?_⟩,fun x hx=>?_⟩
  ·refine List.ext_getElem? fun i=>?_
   rw[List.getElem?_map,List.getElem?_mapIdx]
   cases l[i]? <;>rfl
  ·rw[List.getElem?_mapIdx,Option.map_eq_some_iff]at hx
   obtain⟨u,hu,rfl⟩:=hx
   obtain⟨w,hw,hs,hb⟩:=key i u hu
   rw[hb]
   exact⟨hw,hs.one⟩
  ·obtain⟨i,hi⟩:=List.mem_iff_getElem?.1 hx
   rw[List.getElem?_mapIdx,Option.map_eq_some_iff]at hi
   obtain⟨u,hu,rfl⟩:=hi
   obtain⟨w,hw,hs,hb⟩:=key i u hu
   rw[hb]
   exact hs
abbrev ki:=Pl×List UW×Nat
abbrev ki.val(k:ki):Value:=.slice (some ⟨k.2.2,0,none⟩) k.2.1.length k.2.1.length
def Own(n1:Nat)(m:M)(l:List UW)(b:Nat):Prop:=0 < l.length/\n1<=b/\∃cs,m.get b=.cells cs 87 (some 6)/\cs.length=l.length*6/\∀i x,l[i]?=some x->aY.rep m x (chunk cs 6 i)
theorem Own.ow{n1:Nat}{l:List UW}{b:Nat}(h:Own n1 m l b):Ow n1 m l (.slice (some ⟨b,0,none⟩) l.length l.length):=by
 obtain⟨h1,h2,cs,h3,h4,h5⟩:=h
 exact .inr ⟨b,cs,rfl,h1,h2,h3,h4,h5⟩
theorem Own.of{n1:Nat}{l:List UW}{v:Value}(h:Ow n1 m l v)(hne:l≠ []):∃b,v=.slice (some ⟨b,0,none⟩) l.length l.length/\Own n1 m l b:=by
 rcases h with⟨_,h⟩ |⟨b,cs,rfl,h1,h2,h3,h4,h5⟩
 ·exact absurd h hne
 ·exact⟨b,rfl,h1,h2,cs,h3,h4,h5⟩
theorem Own.bw{n1:Nat}{l:List UW}{b:Nat}{m':M}(h:Own n1 m l b)(hb:m'.get b=m.get b):Own n1 m' l b:=by
 obtain⟨h1,h2,cs,h3,h4,h5⟩:=h
 exact⟨h1,h2,cs,by rw[hb,h3],h4,fun i x hi=>h5 i x hi⟩
def JZ(es:List MapEntry)(kv:List ki):Prop:=es.map (fun e=>(e.key,e.val))=kv.map (fun k=>(k.1.v,ki.val k))
structure PM(n1:Nat)(m:M)(r:Nat)(kv:List ki):Prop where
 ex:∃es clock,m.get r=.map es clock/\JZ es kv/\(∀e∈es,e.born < clock)/\(es.map (·.born)).Nodup
 keys:(kv.map (·.1)).Nodup
 JI:(kv.map (·.2.2)).Nodup
 own:∀k∈kv,Own n1 m k.2.1 k.2.2
def fS(kv:List ki)(p:Pl):List UW:=match kv.find? (fun k=>decide (k.1=p))with |some k=>k.2.1 |none=> []
theorem PM.aD{n1 r:Nat}{kv:List ki}{m':M}(h:PM n1 m r kv)(hx:Ext m m'):PM n1 m' r kv:=by
 obtain⟨es,clock,h1,h2⟩:=h.ex
 refine⟨⟨es,clock,by rw[hx.get r (M.ve h1),h1],h2⟩,h.keys,h.JI,fun k hk=>?_⟩
 have ho:=h.own k hk
 obtain⟨_,_,cs,h3,_⟩:=id ho
 exact ho.bw (by rw[hx.get _ (M.aI h3)])
theorem Mm{p q:Pl}:eq? TE 98 p.v q.v=some (decide (p=q)):=by
 have e:eq? TE 98 p.v q.v=some ((p.x==q.x) && ((p.y==q.y) && true)):=by kernel_rfl
 rw[e]
 obtain⟨a,b⟩:=p
 obtain⟨c,d⟩:=q
 by_cases h1:a=c <;>by_cases h2:b=d <;>simp[h1,h2]
theorem zt{p:Pl}:keyed TE 98 p.v=true:=by kernel_rfl
theorem tp:∀{es:List MapEntry} {kv:List ki} {p:Pl} {i:Nat},JZ es kv->(fS kv p=[]/\p∉kv.map (·.1)/\findKey TE 98 p.v es i=some none)\/
  (∃j k,kv[j]?=some k/\k.1=p/\fS kv p=k.2.1/\findKey TE 98 p.v es i=some (some (i+j,ki.val k)))
 |[],[],p,i,_=> .inl ⟨rfl,by simp,rfl⟩
 |[],k::kv,_,_,h=>by cases h
 |e::es,[],_,_,h=>by cases h
 |e::es,k::kv,p,i,h=>by
  have h:(e.key,e.val)::es.map (fun e=>(e.key,e.val))=(k.1.v,ki.val k)::kv.map (fun k=>(k.1.v,ki.val k)):=h
  injection h with h1 h2
  injection h1 with hk hv
  have hstep:findKey TE 98 p.v (e::es) i=bif decide (p=k.1)then some (some (i,e.val))else findKey TE 98 p.v es (i+1):=by
   conv=>lhs;unfold findKey
   rw[hk,Mm]
   cases decide (p=k.1)<;>rfl
  by_cases hp:p=k.1
  ·refine .inr ⟨0,k,rfl,hp.symm,?_,?_⟩
   ·unfold fS
    rw[List.find?_cons_of_pos (by simp[hp])]
   ·rw[hstep,hv,show decide (p=k.1)=true by simp[hp],cond_true];rfl
  ·have hg:fS (k::kv) p=fS kv p:=by
    unfold fS
    rw[List.find?_cons_of_neg (by simpa using fun h=>hp h.symm)]
   rw[hstep,show decide (p=k.1)=false by simp[hp],cond_false,hg]
   rcases tp (p:=p) (i:=i+1) (show JZ es kv from h2)with⟨a,b,c⟩ |⟨j,k',a,b,c,d⟩
   ·exact .inl ⟨a,by simp[hp]at b⊢;exact b,c⟩
   ·exact .inr ⟨j+1,k',by simpa using a,b,c,by rw[d,show i+1+j=i+(j+1) by omega]⟩
theorem BJ:ig TE 29=some (.slice none 0 0):=by kernel_rfl
theorem PM.lookup{n1 r:Nat}{kv:List ki}(h:PM n1 m r kv)(p:Pl):∃v,eK TE m 133 (.map (some r)) p.v false=some v/\Sl m (fS kv p) v:=by
 obtain⟨es,clock,h1,h2,_⟩:=h.ex
 have e:eK TE m 133 (.map (some r)) p.v false=match findKey TE 98 p.v es 0 with
   |some (some (_,v))=>some v
   |some none=>some (.slice none 0 0)
   |none=>none:=by
  unfold eK
  rw[show TE.ty.get 133=some af.t133 by kernel_rfl]
  dsimp only[af.t133]
  rw[h1]
  dsimp only
  rw[zt,cond_true,BJ]
  rfl
 rw[e]
 rcases tp (p:=p) (i:=0) h2 with⟨a,b,c⟩ |⟨j,k,a,b,c,d⟩
 ·rw[c,a]
  exact⟨_,rfl,Sl.nil⟩
 ·rw[d,c]
  exact⟨_,rfl,(h.own k (List.mem_of_getElem? a)).ow.sl⟩
end Go.Proofs.YtmdfgncoekfgdaaGreatDoor
namespace Go.Proofs.YtmdfgncoekfgdaaGreatDoor
open Go Go.D
variable {m:M}
theorem nD:∀{es:List MapEntry} {j i:Nat} {e:MapEntry},(es.map (·.born)).Nodup->es[j]?=some e->fB (e.born:Int) es i=some (i+j)
 |f::es,0,i,e,_,h=>by
  cases h
  unfold fB
  simp
 |f::es,j+1,i,e,hd,h=>by
  have h:es[j]?=some e:=by simpa using h
  simp only[List.map_cons,List.nodup_cons]at hd
  have hne:f.born≠e.born:=fun x=>hd.1 (by rw[x];exact List.mem_map.2 ⟨e,List.mem_of_getElem? h,rfl⟩)
  unfold fB
  rw[show decide ((f.born:Int)=(e.born:Int))=false by simp;omega,cond_false,nD hd.2 h,show i+1+j=i+(j+1) by omega]
theorem CG{es:List MapEntry}{kv:List ki}(h:JZ es kv):es.length=kv.length:=by
 have:=congrArg List.length h
 simpa using this
theorem HY{es:List MapEntry}{kv:List ki}(h:JZ es kv){j:Nat}{e:MapEntry}{k:ki}(he:es[j]?=some e)(hk:kv[j]?=some k):e.key=k.1.v/\e.val=ki.val k:=by
 have:=congrArg (·[j]?) h
 simp only[List.getElem?_map,he,hk,Option.map_some,Option.some.injEq,Prod.mk.injEq]at this
 exact this
theorem Cj{x:UW}:aE TE m 29 1 [(0,x.v)]=some (.slice (some ⟨m.n,0,none⟩) 1 1,m.push (.cells x.c 87 none)):=by kernel_rfl
theorem uQ{x:UW}{b:Nat}{g:Option Nat}(h:m.get b=.cells x.c 87 g)(hw:one x.w=true):Sl m [x] (.slice (some ⟨b,0,none⟩) 1 1):=
 .inr ⟨b,0,1,_,g,rfl,h,Nat.le_refl _,fun i y hi=>by
  match i with
  |0=>cases hi;exact⟨rfl,hw⟩
  |i+1=>cases hi⟩
structure Z9(n1 r:Nat)(m m':M):Prop where
 n:m.n<=m'.n
 cell:∀c cs t g,m.get c=.cells cs t g->(t≠87\/g=none)->m'.get c=.cells cs t g
 low:∀c,c < n1->c≠r->m'.get c=m.get c
theorem zi{r:Nat}{es:List MapEntry}{clock:Nat}(h:m.get r=.map es clock)(p:Pl):dw TE m 133 (.map (some r)) p.v=match findKey TE 98 p.v es 0 with
  |some (some (i,v))=>some (.tuple #[v,.int .i64 (((es[i]?).map (·.born)).getD 0)],m.set r (.map (es.modify i fun e=>{e with key:=p.v}) clock))
  |some none=>some (.tuple #[.slice none 0 0,.int .i64 clock],m.set r (.map (es++ [{key:=p.v,val:=.slice none 0 0,born:=clock}]) (clock+1)))
  |none=>none:=by
 unfold dw
 rw[show TE.ty.get 133=some af.t133 by kernel_rfl]
 dsimp only[af.t133]
 rw[h]
 dsimp only
 rw[zt,cond_true,BJ]
 rfl
theorem nn{r:Nat}{es:List MapEntry}{clock j:Nat}{b:Int}{v:Value}(h:m.get r=.map es clock)(hj:fB b es 0=some j):cz m (.map (some r)) (.int .i64 b) v=some (m.set r (.map (es.modify j fun e=>{e with val:=v}) clock)):=by
 unfold cz
 dsimp only
 rw[h]
 dsimp only
 rw[hj]
theorem Ik{kv:List ki}{j:Nat}{k:ki}{l:List UW}{b:Nat}(hk:kv[j]?=some k)(hd:(kv.map (·.1)).Nodup)(q:Pl):fS (kv.set j (k.1,l,b)) q=if q=k.1 then l else fS kv q:=by
 induction kv generalizing j with
 |nil=>simp at hk
 |cons f kv ih=>
  simp only[List.map_cons,List.nodup_cons]at hd
  cases j with
  |zero=>
   cases hk
   rw[List.set_cons_zero]
   unfold fS
   by_cases hq:q=k.1
   ·rw[List.find?_cons_of_pos (by simp[hq]),if_pos hq]
   ·rw[List.find?_cons_of_neg (by simpa using fun h=>hq h.symm),List.find?_cons_of_neg (by simpa using fun h=>hq h.symm),if_neg hq]
  |succ j=>
   have hk:kv[j]?=some k:=by simpa using hk
   rw[List.set_cons_succ]
   have ih:=ih hk hd.2
   have hne:f.1≠k.1:=fun e=>hd.1 (by rw[e];exact List.mem_map.2 ⟨k,List.mem_of_getElem? hk,rfl⟩)
   unfold fS at ih⊢
   by_cases hq:f.1=q
   ·rw[List.find?_cons_of_pos (by simp[hq]),List.find?_cons_of_pos (by simp[hq]),if_neg (fun e=>hne (hq.trans e))]
   ·rw[List.find?_cons_of_neg (by simpa using hq),List.find?_cons_of_neg (by simpa using hq)]
    exact ih
theorem Ez{kv:List ki}{k:ki}(hn:k.1∉kv.map (·.1))(q:Pl):fS (kv++ [k]) q=if q=k.1 then k.2.1 else fS kv q:=by
 induction kv with
 |nil=>
  unfold fS
  by_cases hq:q=k.1
  ·rw[if_pos hq,List.nil_append,List.find?_cons_of_pos (by simp[hq])]
  ·rw[if_neg hq,List.nil_append,List.find?_cons_of_neg (by simpa using fun h=>hq h.symm)]
 |cons f kv ih=>
  simp only[List.map_cons,List.mem_cons,not_or]at hn
  have ih:=ih hn.2
  rw[List.cons_append]
  unfold fS at ih⊢
  by_cases hq:f.1=q
  ·rw[List.find?_cons_of_pos (by simp[hq]),List.find?_cons_of_pos (by simp[hq]),if_neg (fun e=>hn.1 (e.symm.trans hq.symm))]
  ·rw[List.find?_cons_of_neg (by simpa using hq),List.find?_cons_of_neg (by simpa using hq)]
   exact ih
end Go.Proofs.YtmdfgncoekfgdaaGreatDoor
