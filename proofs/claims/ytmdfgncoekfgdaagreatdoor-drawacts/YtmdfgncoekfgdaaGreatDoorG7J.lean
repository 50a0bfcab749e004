/- fabric.pairs, fabric.Valid; .. -/
import Derived.Test.YtmdfgncoekfgdaaGreatDoorG4J
import Derived.Test.YtmdfgncoekfgdaaGreatDoorG6J
import Derived.Test.YtmdfgncoekfgdaaGreatDoorG2J
import Derived.Test.YtmdfgncoekfgdaaGreatDoorBtJ
import Derived.Test.YtmdfgncoekfgdaaGreatDoorG4J
import Derived.Test.YtmdfgncoekfgdaaGreatDoorG1J
import Derived.Sort.Row
import Derived.Sort.Grow
set_option maxRecDepth 100000
noncomputable section
open Go Go.D
namespace Go.Proofs.YtmdfgncoekfgdaaGreatDoor
section
variable {X:aG} {m:M}
structure cF(us:List Un):Prop where
 len:us.length<=12
 val:∀u∈us,lq u=true
 IP:∀(i:Nat) (a b:Un),us[i]?=some a->us[i+1]?=some b->a.id < b.id
 apart:∀(i k:Nat) (a b:Un),i < k->us[i]?=some a->us[k]?=some b->fE a b=false
open Classical in
def jF(us:List Un):Bool:=decide (cF us)
open Classical in
theorem jk{us:List Un}(h:cF us):jF us=true:=by unfold jF;exact aaX h
open Classical in
theorem nf{us:List Un}(h:¬cF us):jF us=false:=by unfold jF;exact aat h
open Classical in
theorem My{us:List Un}:jF us=true↔cF us:=by unfold jF;exact decide_eq_true_iff
theorem Iu(a b:Un):nF a b=nF b a:=by unfold nF;rw[Bool.and_comm (lq a),Int.max_comm,Int.min_comm]
theorem DI(a b:List Pl):jb a b=jb b a:=by unfold jb;cases bI a <;>cases bI b <;>cases decide (dC a b < 0)<;>cases decide (dC b a < 0)<;>rfl
theorem qe(a b:Un):fE a b=fE b a:=by unfold fE;rw[Iu,DI]
def bR(l:List UW):List Un:=l.map (·.u)
theorem nu{l:List UW}{i:Nat}{x:UW}(h:l[i]?=some x):(bR l)[i]?=some x.u:=by unfold bR;rw[aaA,h];rfl
theorem dE{l:List UW}:(bR l).length=l.length:=by unfold bR;rw[aaB]
theorem nI{l:List UW}{i:Nat}{u:Un}(h:(bR l)[i]?=some u):∃x,l[i]?=some x/\x.u=u:=by
 unfold bR at h
 rw[aaA]at h
 cases F:l[i]? with
 |none=>rw[F]at h;cases h
 |some x=>rw[F]at h;cases h;exact⟨x,rfl,rfl⟩
theorem pU{l:List UW}{u:Un}(h:u∈bR l):∃x∈l,x.u=u:=by unfold bR at h;obtain⟨x,F,rfl⟩:=aaU.1 h;exact⟨x,F,rfl⟩
structure cJ(m:M)(l:List UW)(v:aed):Prop where
 sl:Sl m l v
 sh:∀x∈l,Sl m x.u.shape x.w
 ln:∀x∈l,x.u.shape.length < 1000000
 cap:l=[]\/∃b o c bc g,v=.slice (some ⟨b,o,none⟩) l.length c/\l.length<=c/\m.get b=.cells bc 87 g/\(g=none\/g=some 6)
theorem cJ.aD{l:List UW}{v:aed}{m':M}(h:cJ m l v)(F:Ext m m'):cJ m' l v:=
 ⟨h.sl.aD F,λx a0=>(h.sh x a0).aD F,h.ln,h.cap.imp id λ⟨b,o,c,bc,g,h1,h2,h3,h4⟩=>⟨b,o,c,bc,g,h1,h2,F.cells h3,h4⟩⟩
theorem cJ.bH{l:List UW}{v:aed}{m':M}(h:cJ m l v)(F:∀c cs t g,m.get c=.cells cs t g->(t=87\/t=98)->m'.get c=.cells cs t g):cJ m' l v:=
 ⟨h.sl.bH λb c t g hb ht=>F b c t g hb (.inl (by simpa[aP.ty,aP.fx]using ht)),λx hx=>(h.sh x hx).bH λb c t g hb ht=>F b c t g hb (.inr (by simpa[aP.ty,aP.fx]using ht)),h.ln,
  h.cap.imp id λ⟨b,o,c,bc,g,h1,h2,h3,h4⟩=>⟨b,o,c,bc,g,h1,h2,F _ _ _ _ h3 (.inl rfl),h4⟩⟩
def gK:List UW->List (aee)
 |[]=> []
 |a::r=>r.map (λb=> [a.v,b.v])++gK r
theorem DF{l:List UW}{i:Nat}{a:UW}(h:l[i]?=some a):gK (l.drop i)=(l.drop (i+1)).map (λb=> [a.v,b.v])++gK (l.drop (i+1)):=by have hi:=(Ω.1 h).1;rw[ab6 hi,(Ω.1 h).2,gK]
theorem DG{x:UW}{r:List UW}:gK (x::r)=r.map (λb=> [x.v,b.v])++gK r:=rfl
theorem Hj(hX:cV X){l:List UW}{v:aed}{b:Nat}(hlen:l.length < 1000000):
  TQ TE X (λo=>∃cs g,o=.cells cs 87 g) (.func 189) [] [ptrTo b] (gK l) (λm=>m.get b=.cells [v] 31 none/\cJ m l v):=by
 intro y n0 B I J m hD hI hJ hy Q0 hB g0 h0;refine Cl.gen (R:=λv m2 b=>B<=b/\(I (gK l).length m2\/J m2)) (hX.no _ rfl) Sj rfl ?_;rw[show([]:aee)++ .func (.yield y) #[] #[]::[ptrTo b]=[.func (.yield y) #[] #[],ptrTo b]from rfl,YZ];dsimp only[aI,δ,ε,ζ,η,ι,κ,ο,υ,φ,χ];have ld:∀F:M,F.get b=.cells [v] 31 none->ah TE F 29 (aeb b (0+0))=some v:=λF h=>by rw[eJ,aF h];rfl
 unfold ptrTo;rw[bu,ae,ld m (hD _ _ h0).1,ae,(hD _ _ h0).2.sl.len eg,aE];refine Lp.intro (γ:=Nat) (λi=>l.length-i) (λi vs F lo=>∃P,vs=[.int .i64 i]/\i<=l.length/\gK l=P++gK (l.drop i)/\I P.length F/\n0<=F.n/\m.n<=F.n/\B<=lo/\((lo=m.n/\P=[])\/lo < m.n)) 0 ⟨[],rfl,aaQ _,rfl,h0,Q0,Ξ _,by omega,.inl ⟨rfl,rfl⟩⟩ ?_;rintro i vs F w1 ⟨P,rfl,hi,hP,q0,S0,p1,z1,k0⟩;rw[aH,aX,ae,an];refine aq (λa0=>?_) (λT0=>?_)
 ·have a0:i < l.length:=by simpa using a0
  obtain⟨a,ha⟩:∃a,l[i]?=some a:=⟨_,Φ a0⟩
  obtain⟨q,e1,e2,ow⟩:=(hD _ _ q0).2.sl.mI (k:=.i64) ha;rw[e1,ae,e2,ae];refine au λA1 r1 v0 z0=>?_;refine aC ep v0 rfl rfl (Un.eN ow) λb0 s1 A0 B0=>?_;have C0:Ext F b0:=⟨by omega,λb hb=>by rw[B0 b (by omega),z0 b hb]⟩
  have l0:=hI _ _ _ q0 C0;obtain⟨D0,E0⟩:=hD _ _ l0;rw[ae,ld b0 D0,ae,aQ,ae,wrap64 (by omega) (by omega),show((i:Int)+1)=((i+1:Nat):Int) by omega]
  obtain⟨a',c',i0,U0⟩:∃a' c',slice? TE b0 29 v (some (.int .i64 ((i+1:Nat):Int))) none none=some (.slice (some a') (l.length-(i+1)) c')/\∀(mm:M),cJ mm l v->∀j x,l[i+1+j]?=some x->∃q,ak TE 29 (.slice (some a') (l.length-(i+1)) c') (.int .i64 j)=some q/\ah TE mm 87 q=some x.v:=by
   rcases E0.cap with h |⟨ab,o,c,bc,g,hv,V0,hg,X0⟩;·rw[h]at a0;simp at a0
   obtain⟨a',h1,h2⟩:=lD (E:=TE) (m:=b0) (T:=29) (ti:=ag.t29) (e:=87) (b:=ab) (cs:=bc) (te:=87) (g:=g) (n:=l.length) (o:=o) (c:=c) (j:=i+1) AS rfl (by decide) hg X0 V0 a0;refine⟨a',c-(i+1),by rw[hv];exact h1,λmm Y0 j x hx=>?_⟩;have hj:=(Ω.1 hx).1;have a1:=h2 (by omega);subst a1;have i0:=Y0.sl;rw[hv]at i0;have hp:=Sl.part (i:=i+1) (k:=l.length-(i+1)) (c':=c-(i+1)) i0 (by omega)
   have c1:((l.drop (i+1)).take (l.length-(i+1)))[j]?=some x:=by rw[aaI (by omega),aaW];exact hx
   obtain⟨q,q1,q2,_⟩:=hp.mI (k:=.i64) c1;exact⟨q,q1,q2⟩
  rw[i0,ae];have ln:av TE b0 .len [29] [.slice (some a') (l.length-(i+1)) c']=some (.int .i64 (l.length-(i+1):Nat),b0):=Rg;rw[ln,aE];have r0:=hP;rw[DF ha,<-aa7]at r0
  have F0:∀j x,l[i+1+j]?=some x->(gK l)[P.length+j]?=some [a.v,x.v]:=λj x hx=>by
   have hj:=(Ω.1 hx).1;have d1:(l.drop (i+1))[j]?=some x:=by rw[aaW];exact hx
   rw[r0,aa7,aa1 (by omega),acE,aa9 (by rw[aaB,aaK];omega),aaA,d1];rfl
  refine Lp.intro (γ:=Nat) (λj=>l.length-j) (λj vs m2 lo=>vs=[.int .i64 j]/\j<=l.length-(i+1)/\I (P.length+j) m2/\F.n < m2.n/\m2.get F.n=.cells a.c 87 none/\B<=lo/\((lo=m.n/\P=[]/\j=0)\/lo < m.n)) 0
   ⟨rfl,aaQ _,l0,by omega,A0,by omega,by
    rcases k0 with⟨h1,h2⟩ |h;·exact .inl ⟨by omega,h2,rfl⟩
    exact .inr (by omega)⟩ ?_
  rintro j vs m2 nz ⟨rfl,hj,j0,B1,G0,H0,s0⟩;rw[aH,aX,ae,an];refine aq (λo0=>?_) (λI0=>?_)
  ·have o0:j < l.length-(i+1):=by simpa using o0
   obtain⟨x,hx⟩:∃x,l[i+1+j]?=some x:=⟨_,Φ (by omega)⟩
   obtain⟨q,q1,q2⟩:=U0 m2 (hD _ _ j0).2 j x hx;obtain⟨_,_,_,ox⟩:=(hD _ _ j0).2.sl.mI (k:=.i64) hx;rw[q1,ae,q2,ae];refine au λC1 u1 J0 K0=>?_;refine aC ep J0 rfl rfl (Un.eN ox) λu0 v1 L0 M0=>?_;have d0:Ext m2 u0:=⟨by omega,λb hb=>by rw[M0 b (by omega),K0 b hb]⟩
   rw[zT (d0.cells G0),ae,zT (x:=x) L0,ae,bY];obtain⟨v2,m4,b4,hc,D1,E1,g1,N0⟩:=g0 (P.length+j) [a.v,x.v] u0 (by omega) (F0 j x hx) (hI _ _ _ j0 d0);refine az hc ?_;have F1:u0.n<=m4.n:=hc.1;rcases N0 with⟨rfl,i1⟩ |⟨rfl,j1⟩
   ·rw[bM,ae,an,aal,aM,aQ,ae,wrap64 (by omega) (by omega)]
    have O0:m4.get F.n=.cells a.c 87 none:=by have P0:=d0.cells G0;rw[g1 F.n S0 (by omega) ⟨_,_,P0⟩,P0]
    exact⟨j+1,by omega,rfl,by omega,i1,by omega,O0,by omega,.inr (by omega)⟩
   rw[bM,ae,an,aau,bU];exact .inr ⟨.inr (by omega),by omega,.inr j1⟩
  have G1:j=l.length-(i+1):=by
   have:¬(j:Int)< ((l.length-(i+1):Nat):Int):=by simpa using I0
   omega
  have e0:(P++(l.drop (i+1)).map λb=> [a.v,b.v]).length=P.length+j:=by rw[aam,aaB,aaK];omega
  rw[ae];refine⟨i+1,by omega,_,rfl,by omega,r0,by rw[e0];exact j0,by omega,by omega,H0,?_⟩;rcases s0 with⟨h1,h2,h3⟩ |h
  ·refine .inl ⟨h1,?_⟩;rw[<-acF,e0,h2,h3];rfl
  exact .inr h
 have k1:i=l.length:=by
  have:¬(i:Int)< (l.length:Int):=by simpa using T0
  omega
 subst k1;have o1:gK l=P:=by rw[hP,List.drop_of_length_le (Ξ _)];simp[gK]
 rw[o1];rcases k0 with⟨h1,h2⟩ |h
 ·subst h2;exact .inl ⟨rfl,by omega,by omega,.inl h0⟩
 exact .inr ⟨.inr h,by omega,.inl q0⟩
end
section
variable {X:aG} {m:M}
def lR:List UW->List (UW×UW)
 |[]=> []
 |a::r=>r.map (λb=>(a,b))++lR r
theorem sL:∀l:List UW,gK l=(lR l).map λp=> [p.1.v,p.2.v]
 |[]=>rfl
 |a::r=>by
  rw[DG,lR,abh,ada,sL r]
  rfl
theorem vJ:∀{l:List UW} {p:UW×UW},p∈lR l->p.1∈l/\p.2∈l/\∃(i j:Nat),i < j/\l[i]?=some p.1/\l[j]?=some p.2
 |[],p,h=>by cases h
 |a::r,p,h=>by
  rw[lR]at h
  rcases aaR.1 h with h |h
  ·obtain⟨b,F,rfl⟩:=aaU.1 h
   obtain⟨j,hj⟩:=aaN F
   exact⟨by simp,by simp[F],0,j+1,by omega,rfl,by simpa using hj⟩
  ·obtain⟨h1,h2,i,j,h3,h4,h5⟩:=vJ h
   exact⟨by simp[h1],by simp[h2],i+1,j+1,by omega,by simpa using h4,by simpa using h5⟩
theorem Hk:∀{l:List UW} (i j:Nat) (a b:UW),i < j->l[i]?=some a->l[j]?=some b->(a,b)∈lR l:=by
 intro l
 induction l with
 |nil=>intro i j a b _ F;simp at F
 |cons x r ih=>
  intro i j a b a0 F hb
  rw[lR,aaR]
  match i,j,a0 with
  |0,j+1,_=>
   have F:x=a:=by simpa using F
   subst F;have hb:r[j]?=some b:=by simpa using hb
   exact .inl (aaU.2 ⟨b,aac hb,rfl⟩)
  |i+1,j+1,a0=>exact .inr (ih i j a b (by omega) (by simpa using F) (by simpa using hb))
theorem Ku{l:List UW}{k:Nat}{args:aee}(h:(gK l)[k]?=some args):∃p,(lR l)[k]?=some p/\args=[p.1.v,p.2.v]:=by
 rw[sL,aaA]at h
 cases F:(lR l)[k]? with
 |none=>rw[F]at h;cases h
 |some p=>rw[F]at h;cases h;exact⟨p,rfl,rfl⟩
theorem Kt(hX:cV X){v:aed}(hv:cells v=[v]):∃m',C X (.func 128) [.agg #[v]] m m.n (.func (.func 189) #[] #[ptrTo m.n]) m'/\Ext m m'/\m'.n=m.n+1/\m'.get m.n=.cells [v] 31 none:=by
 have key:∃r m' b,C X (.func 128) [.agg #[v]] m b r m'/\b=m.n/\r=.func (.func 189) #[] #[ptrTo m.n]/\Ext m m'/\m'.n=m.n+1/\m'.get m.n=.cells [v] 31 none:=by refine Cl.heap (R:=λr m' b=>b=m.n/\r=.func (.func 189) #[] #[ptrTo m.n]/\Ext m m'/\m'.n=m.n+1/\m'.get m.n=.cells [v] 31 none) (hX.no _ rfl) SL rfl ?_;rw[Zv];dsimp only[aI,ς,φ];refine au λm1 F a0 b0=>?_;exact⟨.inl rfl,by omega,rfl,⟨by omega,b0⟩,F,a0⟩
 obtain⟨r,m',b,hc,rfl,rfl,h1,h2,h3⟩:=key;exact⟨m',hc,h1,h2,h3⟩
theorem ES{l:List UW}{v:aed}(h:Sl m l v){i:Nat}{x:UW}(F:l[i]?=some x):∃a a0,ak TE 29 v (.int .i64 i)=some a/\af TE 87 a 0=some a0/\ah TE m 3 a0=some (.int .i64 x.u.id):=by obtain⟨b,o,bc,g,cs,e1,hb,hr,_,hj⟩:=h.lU eg (k:=.i64) F;obtain⟨rfl,_⟩:=hr;refine⟨_,_,e1,bE,?_⟩;rw[cd,aF hb,hj 0 (by decide)];rfl
theorem Ni{l:List UW}{i:Nat}{a b:UW}(F:l[i]?=some a)(hb:l[i+1]?=some b)(h:b.u.id<=a.u.id):¬cF (bR l):=λhf=>by
 have:=hf.IP i _ _ (nu F) (nu hb)
 omega
theorem IY{l:List UW}{a:UW}(F:a∈l)(h:lq a.u=false):¬cF (bR l):=λhf=>by
 have:=hf.val a.u (aaU.2 ⟨a,F,rfl⟩)
 rw[h]at this
 cases this
theorem CN{l:List UW}{i j:Nat}{a b:UW}(F:i < j)(ha:l[i]?=some a)(hb:l[j]?=some b)(h:fE a.u b.u=true):¬cF (bR l):=λhf=>by
 have:=hf.apart i j _ _ F (nu ha) (nu hb)
 rw[h]at this
 cases this
theorem mA(hX:cV X){l:List UW}{v:aed}(h:cJ m l v)(hlen:l.length < 1000000):C X (.func 59) [.agg #[v]] m m.n (.bool (jF (bR l))) m:=by
 refine Cl.flat (hX.no _ rfl) Vr rfl rfl ?_;rw[F59];dsimp only[aI,δ,ε,ζ,η,ι,κ,ο,ς,υ,φ,χ,ψ];refine au λm1 o2 z1 A1=>?_;refine au λm2 s2 J0 K0=>?_;have e0:Ext m m2:=⟨by omega,λc hc=>by rw[K0 c (by omega),A1 c hc]⟩
 have g1:m2.get m.n=.cells [v] 31 none:=by rw[K0 _ (by omega),z1];rfl
 have C0:∀mm:M,Ext m2 mm->ah TE mm 29 (aeb m.n (0+0))=some v:=λmm hx=>by rw[eJ,aF (hx.cells g1)];rfl
 have L0:∀(mm:M) (lo:Nat),Ext m2 mm->m.n<=lo->¬cF (bR l)->aT (aA TE mm 4 (aeb m1.n 0) aei) λm7 b8=>aj (ah TE m7 4 (aeb m1.n 0)) λv9=>aO [v9]=.bool (jF (bR l))/\m.n<=min lo b8:=by intro mm lo hx B1 hn;refine aC NQ (hx.cells J0) rfl rfl rfl λm7 u2 C1 v2=>?_;rw[qq,aF C1];show aj (some (Value.bool false)) _;rw[ae,nf hn];exact⟨rfl,by omega⟩
 unfold ptrTo;rw[bu,ae,C0 m2 .refl,ae,(h.sl.aD e0).len eg,aE,dq,ae,an];refine aq (λM0=>?_) (λhle=>?_)
 ·have M0:(12:Int)< l.length:=by simpa using M0
  exact L0 m2 m.n .refl (Ξ _) λhf=>by have:=hf.len;rw[dE]at this;omega
 have hle:¬(12:Int)< l.length:=by simpa using hle
 rw[ae,C0 m2 .refl,ae,(h.sl.aD e0).len eg,aE];refine Lp.intro (γ:=Nat) (λi=>l.length-i) (λi vs mm lo=>vs=[.int .i64 i]/\i<=l.length/\Ext m2 mm/\m.n<=lo/\(∀j x,j < i->l[j]?=some x->lq x.u=true)/\(∀j a b,j+1 < i->l[j]?=some a->l[j+1]?=some b->a.u.id < b.u.id)) 0 ⟨rfl,aaQ _,.refl,Ξ _,λj x hj=>by omega,λj a b hj=>by omega⟩ ?_;rintro i vs mm lo ⟨rfl,hi,hx,B1,o0,r0⟩;rw[aH,aX,ae,an];have w2:=hx.n;refine aq (λD0=>?_) (λD1=>?_)
 ·have D0:i < l.length:=by simpa using D0
  obtain⟨x,g0⟩:∃a,l[i]?=some a:=⟨_,Φ D0⟩
  have E0:=aac g0;have N0:=h.sl.aD (e0.trans hx);obtain⟨q,e1,e2,ow⟩:=N0.mI (k:=.i64) g0;rw[e1,ae,e2,ae];refine au λz2 T1 O0 P0=>?_;refine aC ep O0 rfl rfl (Un.eN ow) λh0 U1 Q0 S0=>?_;have d0:Ext mm h0:=⟨by omega,λb F=>by rw[S0 b (by omega),P0 b F]⟩
  have g23:h0.get mm.n=.cells (x.u.c x.w) 87 none:=Q0;have T0:=(e0.trans hx).trans d0;refine cG (λvs m' lo=>∃bad,vs=[.bool bad]/\h0=m'/\m.n<=lo/\(bad=true->¬cF (bR l))/\(bad=false->lq x.u=true/\∀a,0 < i->l[i-1]?=some a->a.u.id < x.u.id)) (λR hR=>?_) ?_
  ·rw[cg g23,ae];refine az (kl hX ((h.sh x E0).aD T0) (by have:=h.ln x E0;omega)) ?_;rw[bM,ae,an];refine aq (λF=>?_) (λF=>?_);·exact hR _ _ _ ⟨true,rfl,rfl,by omega,λ_=>IY E0 (by simpa using F),λh=>by cases h⟩
   have F:lq x.u=true:=by simpa using F
   rw[dq,ae,an];refine aq (λhp=>?_) (λhp=>?_)
   ·have hp:0 < i:=by simpa using hp
    obtain⟨a,ha⟩:∃a,l[i-1]?=some a:=⟨_,Φ (by omega)⟩
    obtain⟨l0, -⟩:=pV g23;obtain⟨q,q0,f1,f2,f3⟩:=ES (h.sl.aD T0) ha;rw[bE,ae,l0,ae,ae,C0 h0 (hx.trans d0),ae,fB,ae,wrap64 (by omega) (by omega),show((i:Int)-1)=((i-1:Nat):Int) by omega,f1,ae,f2,ae,f3,ae,dj,ae];refine hR _ _ _ ⟨_,rfl,rfl,by omega,λhh=>?_,λhh=>⟨F,λa' _ U0=>?_⟩⟩
    ·have hh:x.u.id<=a.u.id:=by simpa using hh
     exact Ni ha (by rw[acJ hp];exact g0) hh
    rw[ha]at U0;cases U0;have hh:¬x.u.id<=a.u.id:=by simpa using hh
    omega
   have hp:¬0 < i:=by simpa using hp
   exact hR _ _ _ ⟨false,rfl,rfl,by omega,λh=>(by cases h),λ_=>⟨F,λa h=>absurd h hp⟩⟩
  rintro _ _ E1 ⟨bad,rfl,rfl,s0,V0,F0⟩;rw[aH,an];refine aq (λF=>?_) (λF=>?_);·exact L0 h0 E1 (hx.trans d0) s0 (V0 F)
  obtain⟨h1,h2⟩:=F0 F;rw[aQ,ae,wrap64 (by omega) (by omega)];refine⟨i+1,by omega,rfl,by omega,hx.trans d0,s0,λj y hj hy=>?_,λj a b hj ha G0=>?_⟩
  ·by_cases e:j=i;·subst e;rw[g0]at hy;cases hy;exact h1
   exact o0 j y (by omega) hy
  by_cases e:j+1=i;·subst e;rw[g0]at G0;cases G0;exact h2 a (by omega) (by simpa using ha)
  exact r0 j a b (by omega) ha G0
 have F1:i=l.length:=by
  have:¬(i:Int)< (l.length:Int):=by simpa using D1
  omega
 subst F1;have G1:=hx.cells g1;rw[dp,aJ G1 (by simp)];show aj (some (Value.agg #[v])) _;rw[ae];obtain⟨a0,X0,u0,V1,Y0⟩:=Kt (m:=mm) hX h.sl.cells;refine az X0 ?_;rw[bY];have b0:=(e0.trans hx).trans u0;have gr:a0.get m1.n=.cells [aei] 4 none:=u0.cells (hx.cells J0)
 refine⟨_,gK l,_,λk m'=>a0.n<=m'.n/\(∀c,c < a0.n->m'.get c=a0.get c)/\∀k' p,k' < k->(lR l)[k']?=some p->fE p.1.u p.2.u=false,
  λe m'=>e=.ret/\m'.get m1.n=.cells [aei] 4 none/\¬cF (bR l),m.n,⟨_,rfl⟩,Hj hX (v:=v) (b:=mm.n) hlen,by omega,?_,?_,?_,⟨Ξ _,λ_ _=>rfl,λk' p hk=>by omega⟩,?_,?_,?_⟩
 ·rintro k m' ⟨h1,h2,h3⟩;have he:Ext a0 m':=⟨h1,h2⟩
  exact⟨by rw[h2 _ (by omega),Y0],(h.aD b0).aD he⟩
 ·rintro k m' H1 ⟨h1,h2,h3⟩ hk;exact⟨by have:=hk.n;omega,λc hc=>by rw[hk.get c (by omega) (by omega),h2 c hc],h3⟩
 ·rintro e m' H1 ⟨h1,h2,h3⟩ hk;have:=M.aL h2;exact⟨h1,by rw[hk.get _ this (by omega),h2],h3⟩
 ·rintro k args j0 X1 I1 ⟨h1,h2,h3⟩;obtain⟨⟨a,b⟩,hp,rfl⟩:=Ku I1;obtain⟨ha,F,i',j',J1,K1,L1⟩:=vJ (aac hp);have a1:Ext a0 j0:=⟨h1,h2⟩
  have hF:=(h.aD b0).aD a1;have oa:one a.w=true:=(hF.sh a ha).one;have ob:one b.w=true:=(hF.sh b F).one;rw[aH,aH];show II [] _;unfold II;refine au λA2 Y1 c1 d1=>?_;refine aC ep c1 rfl rfl (Un.eN oa) λN1 a2 i1 j1=>?_;refine au λm64 c2 k1 v0=>?_;refine aC ep k1 rfl rfl (Un.eN ob) λO1 d2 o1 z0=>?_;have iG:∀c,c < j0.n->O1.get c=j0.get c:=λc hc=>by rw[z0 c (by omega),v0 c (by omega),j1 c (by omega),d1 c hc]
  refine⟨λc _ hc=>iG c hc,λk0 g2 i0=>?_⟩;dsimp only;have r1:k0.get j0.n=.cells (a.u.c a.w) 87 none:=by rw[i0 _ (by omega),z0 _ (by omega),v0 _ (by omega),i1];rfl
  have r2:k0.get N1.n=.cells (b.u.c b.w) 87 none:=by rw[i0 _ (by omega),o1];rfl
  have p1:∀c,c < a0.n->k0.get c=a0.get c:=λc hc=>by rw[i0 c (by omega),iG c (by omega),h2 c hc]
  have A0:Ext a0 k0:=⟨by omega,p1⟩
  have B0:=(h.aD b0).aD A0;rw[cg r1,ae,cg r2,ae];refine az (tg hX (B0.sh a ha) (B0.sh b F) (by have:=h.ln a ha;omega) (by have:=h.ln b F;omega)) ?_;rw[an];refine aq (λho=>?_) (λho=>?_)
  ·refine aC NQ (A0.cells gr) rfl rfl rfl λB2 i2 s1 u1=>?_;exact⟨by omega,λc C2 D2 _=>u1 c (by omega),rfl,s1,CN J1 K1 L1 ho⟩
  refine⟨by omega,λc _ _ _=>rfl,by omega,p1,λk' p H0 I0=>?_⟩;by_cases e:k'=k;·subst e;rw[hp]at I0;cases I0;exact ho
  exact h3 k' p (by omega) I0
 ·rintro m' nz ⟨h1,h2,h3⟩ v1;have P1:m'.get m1.n=.cells [aei] 4 none:=by rw[h2 _ (by omega)];exact gr
  refine aC NQ P1 rfl rfl rfl λE2 j2 w1 k2=>?_;rw[qq,aF w1];show aj (some (Value.bool true)) _;rw[ae];refine⟨?_,by omega⟩;rw[jk];·rfl
  refine⟨by rw[dE];omega,λu hu=>?_,λi a b ha F=>?_,λi k a b Q1 ha F=>?_⟩
  ·obtain⟨x,hx,rfl⟩:=pU hu;obtain⟨j,hj⟩:=aaN hx;exact o0 j x (Ω.1 hj).1 hj
  ·obtain⟨x,hx,rfl⟩:=nI ha;obtain⟨y,hy,rfl⟩:=nI F;exact r0 i x y (Ω.1 hy).1 hx hy
  obtain⟨x,hx,rfl⟩:=nI ha;obtain⟨y,hy,rfl⟩:=nI F;have:=Hk i k x y Q1 hx hy;obtain⟨k',H0⟩:=aaN this;have S1:=(Ω.1 H0).1;exact h3 k' (x,y) (by rw[sL,aaB];exact S1) H0
 rintro e m' nz F2 ⟨rfl,h2,h3⟩ v1;refine⟨_,abu.2 rfl,rfl,?_⟩;dsimp only;rw[qq,aF h2];show aj (some (Value.bool false)) _;rw[ae,nf h3];exact⟨rfl,by omega⟩
theorem vi(hX:cV X){l:List UW}{v:aed}(h:cJ m l v)(hlen:l.length < 1000000):C X (.func 61) [.agg #[v]] m m.n (.bool (jF (bR l))) m:=by
 refine Cl.flat (hX.no _ rfl) Vp rfl rfl ?_;rw[F61];dsimp only[aI,δ,ε,ζ,η,κ,ο,ς,φ,χ,ψ];refine au λm1 U0 F0 G0=>?_;have H0:Ext m m1:=⟨by omega,G0⟩
 have g1:m1.get m.n=.cells [v] 31 none:=F0;have a0:ah TE m1 29 (aeb m.n (0+0))=some v:=by rw[eJ,aF g1];rfl
 have h1:=h.aD H0;unfold ptrTo;rw[bu,ae,a0,ae,h1.sl.len eg,aE,dq,ae,an];refine aq (λr0=>?_) (λhle=>?_)
 ·have r0:(12:Int)< l.length:=by simpa using r0
  refine⟨?_,Ξ _⟩;rw[nf λhf=>by have:=hf.len;rw[dE]at this;omega];rfl
 have hle:¬(12:Int)< l.length:=by simpa using hle
 have s0:∀(lo:Nat),m.n<=lo->¬cF (bR l)->aO [Value.bool false]=.bool (jF (bR l))/\m.n<=lo:=λlo k0 hn=>⟨by rw[nf hn];rfl,k0⟩
 refine Lp.intro (γ:=Nat) (λi=>l.length-i) (λi vs mm lo=>vs=[aei,.int .i64 i]/\i<=l.length/\m1=mm/\m.n<=lo/\(∀j x,j < i->l[j]?=some x->lq x.u=true)/\(∀j a b,j+1 < i->l[j]?=some a->l[j+1]?=some b->a.u.id < b.u.id)/\(∀j k a b,k < i->j < k->l[j]?=some a->l[k]?=some b->fE a.u b.u=false)) 0 ⟨rfl,aaQ _,rfl,Ξ _,λj x hj=>by omega,λj a b hj=>by omega,λj k a b hk=>by omega⟩ ?_;rintro i vs mm lo ⟨rfl,hi,rfl,k0,h0,i0,u0⟩;rw[aH,aH,ae,a0,ae,h1.sl.len eg,aE,aX,ae,an];refine aq (λl0=>?_) (λI0=>?_)
 ·have l0:i < l.length:=by simpa using l0
  obtain⟨x,F⟩:∃a,l[i]?=some a:=⟨_,Φ l0⟩
  have d0:=aac F;obtain⟨q,e1,e2,ow⟩:=h1.sl.mI (k:=.i64) F;refine cG (λvs m' lo=>∃bad,vs=[.bool bad]/\m1=m'/\m.n<=lo/\(bad=true->¬cF (bR l))/\(bad=false->lq x.u=true/\∀a,0 < i->l[i-1]?=some a->a.u.id < x.u.id)) (λR hR=>?_) ?_
  ·rw[ae,a0,ae,e1,ae,e2,ae];refine az (qa hX (u:=x.u) (w:=x.w) (h1.sh x d0) (by have:=h.ln x d0;omega)) ?_;rw[bM,ae,an];refine aq (λhb=>?_) (λhb=>?_);·exact hR _ _ _ ⟨true,rfl,rfl,by omega,λ_=>IY d0 (by simpa using hb),λh=>by cases h⟩
   have hb:lq x.u=true:=by simpa using hb
   rw[dq,ae,an];refine aq (λhp=>?_) (λhp=>?_)
   ·have hp:0 < i:=by simpa using hp
    obtain⟨a,ha⟩:∃a,l[i-1]?=some a:=⟨_,Φ (by omega)⟩
    obtain⟨q,q0,f1,f2,f3⟩:=ES h1.sl ha;obtain⟨q',V0,J0,K0,L0⟩:=ES h1.sl F;rw[ae,a0,ae,J0,ae,K0,ae,L0,ae,ae,a0,ae,fB,ae,wrap64 (by omega) (by omega),show((i:Int)-1)=((i-1:Nat):Int) by omega,f1,ae,f2,ae,f3,ae,dj,ae];refine hR _ _ _ ⟨_,rfl,rfl,by omega,λhh=>?_,λhh=>⟨hb,λa' _ v0=>?_⟩⟩
    ·have hh:x.u.id<=a.u.id:=by simpa using hh
     exact Ni ha (by rw[acJ hp];exact F) hh
    rw[ha]at v0;cases v0;have hh:¬x.u.id<=a.u.id:=by simpa using hh
    omega
   have hp:¬0 < i:=by simpa using hp
   exact hR _ _ _ ⟨false,rfl,rfl,by omega,λh=>(by cases h),λ_=>⟨hb,λa h=>absurd h hp⟩⟩
  rintro _ _ M0 ⟨bad,rfl,rfl,j0,z0,o0⟩;rw[aH,an];refine aq (λhb=>s0 M0 j0 (z0 hb)) (λhb=>?_);obtain⟨N0,O0⟩:=o0 hb;refine Lp.intro (γ:=Nat) (λk=>i-k) (λk vs mm lo=>vs=[aei,.int .i64 k]/\k<=i/\m1=mm/\m.n<=lo/\∀j a,j < k->l[j]?=some a->fE a.u x.u=false) 0 ⟨rfl,aaQ _,rfl,j0,λj a hj=>by omega⟩ ?_;rintro k vs mm nz ⟨rfl,hk,rfl,A0,B0⟩;rw[aH,aH,aX,ae,an];refine aq (λe0=>?_) (λC0=>?_)
  ·have e0:k < i:=by simpa using e0
   obtain⟨y,g0⟩:∃a,l[k]?=some a:=⟨_,Φ (by omega)⟩
   have D0:=aac g0;obtain⟨q',P0,Q0,_⟩:=h1.sl.mI (k:=.i64) g0;rw[ae,a0,ae,e1,ae,e2,ae,ae,a0,ae,P0,ae,Q0,ae];refine az (zG hX (a:=x.u) (va:=x.w) (b:=y.u) (vb:=y.w) (h1.sh x d0) (h1.sh y D0) (by have:=h.ln x d0;omega) (by have:=h.ln y D0;omega)) ?_;rw[an];refine aq (λho=>?_) (λho=>?_);·exact s0 _ (by omega) (CN e0 g0 F (by rw[qe];exact ho))
   rw[aQ,ae,wrap64 (by omega) (by omega)];refine⟨k+1,by omega,rfl,by omega,rfl,by omega,λj a hj ha=>?_⟩;by_cases e:j=k;·subst e;rw[g0]at ha;cases ha;rw[qe];exact ho
   exact B0 j a (by omega) ha
  have E0:k=i:=by
   have:¬(k:Int)< (i:Int):=by simpa using C0
   omega
  subst E0;rw[aQ,ae,wrap64 (by omega) (by omega)];refine⟨k+1,by omega,rfl,by omega,rfl,A0,λj y hj hy=>?_,λj a b hj ha b0=>?_,λj k' a b E0 hj ha b0=>?_⟩
  ·by_cases e:j=k;·subst e;rw[F]at hy;cases hy;exact N0
   exact h0 j y (by omega) hy
  ·by_cases e:j+1=k;·subst e;rw[F]at b0;cases b0;exact O0 a (by omega) (by simpa using ha)
   exact i0 j a b (by omega) ha b0
  by_cases e:k'=k;·subst e;rw[F]at b0;cases b0;exact B0 j a hj ha
  exact u0 j k' a b (by omega) hj ha b0
 have S0:i=l.length:=by
  have:¬(i:Int)< (l.length:Int):=by simpa using I0
  omega
 subst S0;refine⟨?_,k0⟩;rw[jk];·rfl
 refine⟨by rw[dE];omega,λu hu=>?_,λi a b ha hb=>?_,λi k a b T0 ha hb=>?_⟩
 ·obtain⟨x,hx,rfl⟩:=pU hu;obtain⟨j,hj⟩:=aaN hx;exact h0 j x (Ω.1 hj).1 hj
 ·obtain⟨x,hx,rfl⟩:=nI ha;obtain⟨y,hy,rfl⟩:=nI hb;exact i0 i x y (Ω.1 hy).1 hx hy
 obtain⟨x,hx,rfl⟩:=nI ha;obtain⟨y,hy,rfl⟩:=nI hb;exact u0 i k x y (Ω.1 hy).1 T0 hx hy
end
section
variable {X:aG} {m:M}
theorem jM(x:Int):lu (IntKind.i64.wrap x):=by have h:=EO x;unfold wr at h;unfold lu;rw[h];split <;>omega
theorem eB(F:cV X){c n:Int}(hc:lu c)(hn:0 < n):C X (.func 54) [.int .i64 c,.int .i64 n] m m.n (.int .i64 (cU c n)) m:=by refine Cl.flat (F.no _ rfl) Vt rfl rfl ?_;rw[F54];dsimp only[aI,η,ο,χ];exact yO hc hn (P:=λv=>aO [v]=.int .i64 (cU c n)/\m.n<=m.n) ⟨rfl,Ξ _⟩
theorem Is(hX:cV X){u:Un}{w:aed}(hw:Sl m u.shape w)(hl:u.shape.length < 1000000):
  ∃w' m',C X (.func 57) [u.v w] m m.n (u.v w') m'/\Ext m m'/\Sl m' u.shape w':=by
 have key:∃r m' b,C X (.func 57) [u.v w] m b r m'/\b=m.n/\∃w',r=u.v w'/\Ext m m'/\Sl m' u.shape w':=by
  refine Cl.heap (R:=λr m' b=>b=m.n/\∃w',r=u.v w'/\Ext m m'/\Sl m' u.shape w') (hX.no _ rfl) Vs rfl ?_;rw[F57];dsimp only[aI,δ,ε,ι,κ,ν,ς,υ,φ,χ];refine au λm1 F0 j0 A0=>?_;refine au λm2 G0 k0 l0=>?_;simp only[bB]at j0;have o0:Ext m m2:=⟨by omega,λc hc=>by rw[l0 c (by omega),A0 c hc]⟩
  have g1:m2.get m.n=.cells (u.c w) 87 none:=by rw[l0 _ (by omega)];exact j0
  unfold ptrTo;rw[oG,aE];have a0:Ext m2 (m2.push (.cells [] 98 none)):=Ext.refl.push;generalize q0:m2.push (.cells [] 98 none)=m4 at*;have r0:m4.get m2.n=.cells [] 98 none:=by rw[<-q0];exact M.bJ
  have H0:m4.n=m2.n+1:=by rw[<-q0];rfl
  have g14:=a0.cells g1;obtain⟨-, -, -,l3, -, -⟩:=pV g14;rw[bA,ae,l3,ae]
  obtain⟨v7,m8,ha,F,b0,I0,B0⟩:∃v' m1,av TE (m4.wl m4.n) .append [45,45] [aec m2.n 0 0 0,w]=some (v',m1)/\Sl m1 u.shape v'/\Ext m4 m1/\m1.low=m4.n/\∃a n c,v'=.slice (some a) n c:=by
   have i0:=(hw.aD o0).aD a0;by_cases he:u.shape=[]
   ·rw[he]at i0⊢
    obtain⟨a,c,rfl⟩:=i0.form
    refine⟨aec m2.n 0 0 0,m4.wl m4.n,?_,.inr ⟨m2.n,0,0,[],none,rfl,r0,by simp,λi x hi=>by simp at hi⟩,⟨Ξ _,λ_ _=>rfl⟩,rfl,_,_,_,rfl⟩
    cases a with
    |none=>kernel_rfl
    |some a=>kernel_rfl
   obtain⟨v',m1,h1,h2,h3,h4⟩:=lO xA r0 i0 he (by omega);obtain⟨a,c,hv⟩:=h2.sl.form;refine⟨v',m1,h1,h2.sl,h3,h4,?_⟩;rcases h2 with⟨_,h⟩ |⟨b,cs,rfl,_⟩;·exact absurd h he
   exact⟨_,_,_,rfl⟩
  rw[ha,aE,ae];have n8:=b0.n;have g18:=b0.cells g14;have o7:one v7=true:=F.one;refine bW kG g18 (by rw[F.cells];rfl) (by rw[F.cells];simp) (by rw[F.cells];simp[o7]) λs0 D0 d0 e0=>?_;have d0:s0.get m.n=.cells (u.c v7) 87 none:=by rw[d0,F.cells];rfl
  rw[cg d0,ae];have u0:s0.get m1.n=.cells Un.zc 87 none:=by rw[e0 _ (by omega),b0.get _ (by omega),a0.get _ (by omega),k0]
  refine aC ep u0 rfl rfl (Un.eN o7) λC0 E0 g0 h0=>?_;have g0:C0.get m1.n=.cells (u.c v7) 87 none:=g0;rw[cg g0,ae];obtain⟨a,n,c,rfl⟩:=B0;refine⟨.inl ?_,by omega,_,rfl,⟨by omega,λb hb=>by rw[h0 b (by omega),e0 b (by omega),b0.get b (by omega),a0.get b (by omega),o0.get b hb]⟩,?_⟩
  ·show bP (u.v (.slice (some a) n c))=false;simp[bP,gI,cy]
  refine F.bH λb cs t g hb ht=>?_
  have v0:b≠m.n:=by rintro rfl;rw[g18]at hb;cases hb;revert ht;decide
  have z0:b≠m1.n:=by rintro rfl;rw[b0.get _ (by omega),a0.get _ (by omega),k0]at hb;cases hb;revert ht;decide
  rw[h0 b z0,e0 b v0,hb]
 obtain⟨r,m',b,hc,rfl,w',rfl,h1,h2⟩:=key;exact⟨w',m',hc,h1,h2⟩
theorem OM{b o:Nat}{k:IntKind}{i:Nat}(hi:i < 6):ak TE 85 (aeb b o) (.int k i)=some (aeb b (o+i)):=by rcases(show i=0\/i=1\/i=2\/i=3\/i=4\/i=5 by omega)with rfl |rfl |rfl |rfl |rfl |rfl <;>kernel_rfl
theorem EE(hX:cV X){R:aee->M->Nat->Prop}{b6 rc lo0:Nat}{mm:M}{w:aed}{d0:List Pl}{n i0 i1 i2 i3 i4 i5:Int}(hb:mm.get b6=.cells [.int .i64 i0,.int .i64 i1,.int .i64 i2,.int .i64 i3,.int .i64 i4,.int .i64 i5] 85 none)
  (hr:mm.get rc=.cells Un.zc 87 none) (hw:Sl mm d0 w) (hn:lu n) (h5:lu i5)
  (hR:∀(u:Un) (m':M) (lo:Nat),u.shape=d0->mm.n=m'.n->m'.get rc=.cells (u.c w) 87 none->(∀c,c≠rc->m'.get c=mm.get c)->min lo0 (min rc mm.n)<=lo->R [u.v w] m' lo):
  (aj (ak TE 85 (aeb b6 0) (.int .i64 5)) λA0=>(aj (ah TE mm 3 A0) λB0=>(bt TE X (.func 54) [B0,.int .i64 4] mm λC0 F g0=>(aj (aw TE .eql 3 C0 (.int .i64 3)) λD0=>(bD D0
(aj (ak TE 85 (aeb b6 0) (.int .i64 5)) λE0=>(aj (ah TE F 3 E0) λF0=>(aj (aw TE .quo 3 F0 (.int .i64 4)) λG0=>(bt TE X (.func 54) [G0,.int .i64 4] F λh0 j0 H0=>(aj (aw TE .add 3 h0 (.int .i64 1)) λI0=>(aj (ak TE 85 (aeb b6 0) (.int .i64 5)) λJ0=>(aj (ah TE j0 3 J0) λK0=>(aj (aw TE .quo 3 K0 (.int .i64 16)) λL0=>(bt TE X (.func 54) [L0,.int .i64 4] j0 λM0 k0 N0=>(aj (aw TE .add 3 I0 M0) λO0=>(bt TE X (.func 54) [.int .i64 n,.int .i64 100] k0 λP0 a0 l0=>((M.n k0<=l0)/\(aj (ak TE 85 (aeb b6 0) (.int .i64 5)) λQ0=>(aj (ah TE a0 3 Q0) λS0=>(aj (aw TE .quo 3 S0 (.int .i64 64)) λT0=>(bt TE X (.func 54) [T0,.int .i64 8] a0 λU0 o0 q0=>((M.n a0<=q0)/\(aj (aw TE .add 3 (.int .i64 1) U0) λV0=>(aj (ak TE 85 (aeb b6 0) (.int .i64 5)) λX0=>(aj (ah TE o0 3 X0) λY0=>(aj (aw TE .quo 3 Y0 (.int .i64 512)) λa1=>(bt TE X (.func 54) [a1,.int .i64 8] o0 λc1 d1 e1=>(aj (aR TE 87 [(0,P0),(1,V0),(2,c1),(3,w),(4,h0),(5,O0)]) λg1=>(aT (aA TE d1 87 (aeb rc 0) g1) λr0 h1=>(aj (ah TE r0 87 (aeb rc 0)) λj1=>(R [j1] r0 (min (min (min (min (min (min (min lo0 g0) H0) N0) l0) q0) e1) h1)))))))))))))))))))))))))))
(bt TE X (.func 54) [.int .i64 n,.int .i64 100] F λk1 b0 s0=>((M.n F<=s0)/\(aj (ak TE 85 (aeb b6 0) (.int .i64 5)) λo1=>(aj (ah TE b0 3 o1) λp1=>(aj (aw TE .quo 3 p1 (.int .i64 64)) λr1=>(bt TE X (.func 54) [r1,.int .i64 8] b0 λs1 u0 v0=>((M.n b0<=v0)/\(aj (aw TE .add 3 (.int .i64 1) s1) λu1=>(aj (ak TE 85 (aeb b6 0) (.int .i64 5)) λv1=>(aj (ah TE u0 3 v1) λw1=>(aj (aw TE .quo 3 w1 (.int .i64 512)) λz1=>(bt TE X (.func 54) [z1,.int .i64 8] u0 λA1 B1 C1=>(aj (aR TE 87 [(0,k1),(1,u1),(2,A1),(3,w),(4,(.int .i64 0)),(5,(.int .i64 4))]) λD1=>(aT (aA TE B1 87 (aeb rc 0) D1) λz0 E1=>(aj (ah TE z0 87 (aeb rc 0)) λF1=>(R [F1] z0 (min (min (min (min (min lo0 g0) s0) v0) C1) E1)))))))))))))))))))))):=by
 have e5:ak TE 85 (aeb b6 0) (.int .i64 5)=some (aeb b6 5):=OM (i:=5) (by decide);have l5:ah TE mm 3 (aeb b6 5)=some (.int .i64 i5):=by rw[cd,aF hb];rfl
 have ow:one w=true:=hw.one
 have G1:∀a b c d e:Int,aR TE 87 [(0,.int .i64 a),(1,.int .i64 b),(2,.int .i64 c),(3,w),(4,.int .i64 d),(5,.int .i64 e)]=some (Un.v ⟨a,b,c,d0,d,e⟩ w):=λa b c d e=>by have:=oF (x0:=.int .i64 a) (x1:=.int .i64 b) (x2:=.int .i64 c) (x3:=w) (x4:=.int .i64 d) (x5:=.int .i64 e) rfl rfl rfl (by rw[hw.cells];rfl) rfl rfl;rw[this,hw.cells];rfl
 have fin:∀(u:Un) (lo:Nat),u.shape=d0->min lo0 mm.n<=lo->aT (aA TE mm 87 (aeb rc 0) (u.v w)) λm' b=>aj (ah TE m' 87 (aeb rc 0)) λv=>R [v] m' (min lo b):=λu lo hu J1=>by refine aC ep hr rfl rfl (Un.eN ow) λm' H1 e0 I1=>?_;have e0:m'.get rc=.cells (u.c w) 87 none:=e0;rw[cg e0,ae];exact hR u m' _ hu H1.symm e0 I1 (by omega)
 rw[e5,ae,l5,ae];refine az (eB hX h5 (by decide)) ?_;rw[aY,ae,an];refine aq (λ_=>?_) (λ_=>?_)
 ·rw[ae,l5,ae,gZ (by decide),ae];refine az (eB hX (jM _) (by decide)) ?_;rw[aQ,ae,ae,l5,ae,gZ (by decide),ae];refine az (eB hX (jM _) (by decide)) ?_;rw[aQ,ae];refine az (eB hX hn (by decide)) ⟨Ξ _,?_⟩;rw[ae,l5,ae,gZ (by decide),ae];refine az (eB hX (jM _) (by decide)) ⟨Ξ _,?_⟩;rw[aQ,ae,ae,l5,ae,gZ (by decide),ae];refine az (eB hX (jM _) (by decide)) ?_;rw[G1,ae];exact fin _ _ rfl (by omega)
 refine az (eB hX hn (by decide)) ⟨Ξ _,?_⟩;rw[ae,l5,ae,gZ (by decide),ae];refine az (eB hX (jM _) (by decide)) ⟨Ξ _,?_⟩;rw[aQ,ae,ae,l5,ae,gZ (by decide),ae];refine az (eB hX (jM _) (by decide)) ?_;rw[G1,ae];exact fin _ _ rfl (by omega)
end
section
variable {X:aG} {m:M}
theorem uh{b:Nat}{L:List Pl}{i:Nat}{p:Pl}{g:Option Nat}{x:Int}{P:M->Nat->Prop}(h:m.get b=.cells (nR L) 98 g)(hi:L[i]?=some p)
  (hP:∀m1,m1.n=m.n->m1.get b=.cells (nR (L.set i ⟨x,p.y⟩)) 98 g->(∀c,c≠b->m1.get c=m.get c)->P m1 b):aT (aA TE m 3 (aeb b (i*2+0)) (.int .i64 x)) P:=by have a0:=(Ω.1 hi).1;have F:=gD L;refine bW mO h rfl (by rw[F];show i*2+0+1<=_;omega) rfl λm1 h1 h2 h3=>hP m1 h1 ?_ h3;rw[h2,abC,show i*2+(cells (Value.int .i64 x)).length=i*2+1 from rfl];have:=ir (cs:=nR L) (i:=i*2) (x:=Value.int .i64 x) (by rw[F];omega);rw[show cells (Value.int .i64 x)=[Value.int .i64 x]from rfl,this,rk x hi]
theorem wU(hX:cV X){n i0 i1 i2 i3 i4 i5:Int}(hn:lu n)(h0:lu i0)(h1:lu i1)(h2:lu i2)(h3:lu i3)(h4:lu i4)(h5:lu i5):
  ∃(u:Un) (w:aed) (m':M),C X (.func 53) [.int .i64 n,.agg #[.int .i64 i0,.int .i64 i1,.int .i64 i2,.int .i64 i3,.int .i64 i4,.int .i64 i5]] m m.n (u.v w) m'/\Ext m m'/\Sl m' u.shape w/\u.shape.length<=4:=by
 have key:∃r m' b,C X (.func 53) [.int .i64 n,.agg #[.int .i64 i0,.int .i64 i1,.int .i64 i2,.int .i64 i3,.int .i64 i4,.int .i64 i5]] m b r m'/\b=m.n/\∃(u:Un) (w:aed),r=u.v w/\Ext m m'/\Sl m' u.shape w/\u.shape.length<=4:=by
  refine Cl.heap (R:=λr m' b=>b=m.n/\∃(u:Un) (w:aed),r=u.v w/\Ext m m'/\Sl m' u.shape w/\u.shape.length<=4) (hX.no _ rfl) Vu rfl ?_;rw[F53];dsimp only[aI,δ,ε,ζ,η,θ,ι,κ,ν,ς,υ,φ,χ,ψ];refine au λm1 k1 K0 L0=>?_;refine au λm2 o1 M0 A0=>?_;have N0:Ext m m2:=⟨by omega,λc hc=>by rw[A0 c (by omega),L0 c hc]⟩
  have g1:m2.get m.n=.cells [.int .i64 i0,.int .i64 i1,.int .i64 i2,.int .i64 i3,.int .i64 i4,.int .i64 i5] 85 none:=by rw[A0 _ (by omega)];exact K0
  unfold ptrTo
  have ld:∀{mm:M} {i:Nat} {x:Int},Ext m2 mm->[i0,i1,i2,i3,i4,i5][i]?=some x->ak TE 85 (aeb m.n 0) (.int .i64 i)=some (aeb m.n i)/\ah TE mm 3 (aeb m.n i)=some (.int .i64 x):=λ{mm i x} hx hi=>by
   have B0:=(Ω.1 hi).1;refine⟨by have:=OM (b:=m.n) (o:=0) (k:=.i64) (i:=i) B0;rwa[aaq]at this,?_⟩
   have hc:[Value.int .i64 i0,.int .i64 i1,.int .i64 i2,.int .i64 i3,.int .i64 i4,.int .i64 i5][i]?=some (.int .i64 x):=by
    have:([i0,i1,i2,i3,i4,i5].map (Value.int .i64))[i]?=some (.int .i64 x):=by rw[aaA,hi];rfl
    exact this
   rw[cd,aF (hx.cells g1),hc]
  have O0:ak TE 85 (aeb m.n 0) (.int .i64 0)=some (aeb m.n 0):=(@ld m2 0 i0 .refl rfl).1;have P0:=(@ld m2 0 i0 .refl rfl).2;have Q0:ak TE 85 (aeb m.n 0) (.int .i64 1)=some (aeb m.n 1):=(@ld m2 1 i1 .refl rfl).1;have S0:=(@ld m2 1 i1 .refl rfl).2;have T0:ak TE 85 (aeb m.n 0) (.int .i64 2)=some (aeb m.n 2):=(@ld m2 2 i2 .refl rfl).1;have U0:=(@ld m2 2 i2 .refl rfl).2;have V0:ak TE 85 (aeb m.n 0) (.int .i64 3)=some (aeb m.n 3):=(@ld m2 3 i3 .refl rfl).1;have X0:=(@ld m2 3 i3 .refl rfl).2;rw[O0,ae,P0,ae];refine az (eB hX h0 (by decide)) ?_;rw[ej,ae];rw[Q0,ae,S0,ae];refine az (eB hX h1 (by decide)) ?_;rw[ej,ae];rw[T0,ae,U0,ae];refine az (eB hX h2 (by decide)) ?_;rw[aQ,ae,ej,ae,aQ,ae,iQ,aE];rw[V0,ae,X0,ae]
  refine az (eB hX h3 (by decide)) ?_;rw[aQ,ae,ej,ae,aQ,ae];generalize IntKind.i64.wrap (4*cU i0 9)=x0;generalize IntKind.i64.wrap (4*cU i1 6)=y0;generalize min (IntKind.i64.wrap _) (40:Int)=x1;generalize IntKind.i64.wrap (y0+_)=y1;have bp:∀a b:Int,aR TE 98 [(0,.int .i64 a),(1,.int .i64 b)]=some (Pl.v ⟨a,b⟩):=λa b=>eT rfl rfl;rw[bp,ae,bp,ae,bp,ae,bp,ae];obtain⟨L,hL⟩:∃L:List Pl,L=[⟨x0,y0⟩,⟨x1,y0⟩,⟨x1,y1⟩,⟨x0,y1⟩]:=⟨_,rfl⟩
  have Y0:aK TE m2 45 4 [(0,Pl.v ⟨x0,y0⟩),(1,Pl.v ⟨x1,y0⟩),(2,Pl.v ⟨x1,y1⟩),(3,Pl.v ⟨x0,y1⟩)]=some (aec m2.n 0 4 4,m2.push (.cells (nR L) 98 none)):=by rw[hL];kernel_rfl
  rw[Y0,aE];have e0:Ext m2 (m2.push (.cells (nR L) 98 none)):=Ext.refl.push;generalize s0:m2.push (.cells (nR L) 98 none)=F at*;have b0:F.get m2.n=.cells (nR L) 98 none:=by rw[<-s0];exact M.bJ
  have e1:F.n=m2.n+1:=by rw[<-s0];rfl
  have a1:ak TE 85 (aeb m.n 0) (.int .i64 4)=some (aeb m.n 4):=(@ld F 4 i4 e0 rfl).1;have c1:=(@ld F 4 i4 e0 rfl).2;rw[a1,ae,c1,ae];refine az (eB hX h4 (by decide)) ?_;have gz:F.get m1.n=.cells Un.zc 87 none:=by rw[e0.get _ (by omega),M0]
  have C0:m1.n≠m2.n:=by omega
  have fin:∀(mm:M) (lo0:Nat) (w:aed) (d0:List Pl),(∀c,c≠m2.n->c < F.n->mm.get c=F.get c)->F.n<=mm.n->m.n<=lo0->Sl mm d0 w->d0.length<=4->(∃a n c,w=.slice (some a) n c)->mm.get m.n=.cells [.int .i64 i0,.int .i64 i1,.int .i64 i2,.int .i64 i3,.int .i64 i4,.int .i64 i5] 85 none/\mm.get m1.n=.cells Un.zc 87 none/\
    ∀(u:Un) (m':M) (lo:Nat),u.shape=d0->mm.n=m'.n->m'.get m1.n=.cells (u.c w) 87 none->(∀c,c≠m1.n->m'.get c=mm.get c)->min lo0 (min m1.n mm.n)<=lo->(bP (aO [u.v w])=false\/lo < m.n)/\min m.n lo=m.n/\∃(u':Un) (w':aed),aO [u.v w]=u'.v w'/\Ext m m'/\Sl m' u'.shape w'/\u'.shape.length<=4:=by
   intro mm lo0 w d0 hk p1 r1 hs hl hw
   refine⟨by rw[hk _ (by omega) (by omega),e0.get _ (by omega),g1],by rw[hk _ C0 (by omega),gz],λu m' lo hu u1 hg D0 j1=>⟨.inl ?_,by omega,u,w,rfl,⟨by omega,λc hc=>by rw[D0 c (by omega),hk c (by omega) (by omega),e0.get c (by omega),N0.get c hc]⟩,?_,by rw[hu];exact hl⟩⟩
   ·obtain⟨a,k,c,rfl⟩:=hw;show bP (u.v (.slice (some a) k c))=false;simp[bP,gI,cy]
   ·rw[hu];refine hs.bH λb cs t g hb ht=>?_;by_cases e:b=m1.n
    ·subst e;rw[hk _ C0 (by omega),gz]at hb;cases hb;exact absurd ht (by decide)
    rw[D0 b e,hb]
  have g0:∀{mm:M} {L':List Pl},mm.get m2.n=.cells (nR L') 98 none->L'.length=4->Sl mm L' (aec m2.n 0 4 4):=λ{mm L'} h hl=>by have:=zF (c:=4) h;rwa[hl]at this
  have r0:∀i,i < 4->ak TE 45 (aec m2.n 0 4 4) (.int .i64 (i:Nat))=some (aeb m2.n (i*2)):=λi hi=>DX hi;have u0:ak TE 45 (aec m2.n 0 4 4) (.int .i64 0)=some (aeb m2.n (0*2)):=r0 0 (by decide);have E0:ak TE 45 (aec m2.n 0 4 4) (.int .i64 1)=some (aeb m2.n (1*2)):=r0 1 (by decide);have v0:ak TE 45 (aec m2.n 0 4 4) (.int .i64 2)=some (aeb m2.n (2*2)):=r0 2 (by decide);have F0:ak TE 45 (aec m2.n 0 4 4) (.int .i64 3)=some (aeb m2.n (3*2)):=r0 3 (by decide)
  have tail:∀(mm:M) (lo0:Nat) (w:aed) (d0:List Pl),(∀c,c≠m2.n->c < F.n->mm.get c=F.get c)->F.n<=mm.n->m.n<=lo0->Sl mm d0 w->d0.length<=4->(∃a n c,w=.slice (some a) n c)->_:=λmm lo0 w d0 a b c d e f=>by obtain⟨f1,f2,f3⟩:=fin mm lo0 w d0 a b c d e f;exact EE hX (R:=λvs m' lo=>(bP (aO vs)=false\/lo < m.n)/\min m.n lo=m.n/\∃(u:Un) (w:aed),aO vs=u.v w/\Ext m m'/\Sl m' u.shape w/\u.shape.length<=4) (lo0:=lo0) f1 f2 d hn h5 f3
  have j0:∀{mm:M} {L':List Pl} {i:Nat} {p:Pl},mm.get m2.n=.cells (nR L') 98 none->L'[i]?=some p->ah TE mm 98 (aeb m2.n (i*2))=some p.v:=λ{mm L' i p} h hi=>by have B0:=(Ω.1 hi).1;rw[Fx,aJ h (by rw[gD];omega)];have:=yN hi;unfold chunk at this;rw[this];rfl
  rw[aY,ae,an];refine aq (λ_=>?_) (λ_=>?_)
  ·rw[fB,ae,v0,ae,cf,ae];refine uh (L:=L) (i:=2) (p:=⟨x1,y1⟩) b0 (by rw[hL];rfl) λd1 G0 k0 l0=>?_;rw[aQ,ae,F0,ae,cf,ae];refine uh (i:=3) (p:=⟨x0,y1⟩) k0 (by rw[hL];rfl) λz0 H0 o0 q0=>?_;exact tail z0 _ _ _ (λc h _=>by rw[q0 c h,l0 c h]) (by omega) (by omega) (g0 o0 (by rw[hL];rfl)) (by rw[hL];exact Ξ _) ⟨_,_,_,rfl⟩
  rw[aY,ae,an];refine aq (λ_=>?_) (λ_=>?_)
  ·rw[aQ,ae,u0,ae,cf,ae];refine uh (L:=L) (i:=0) (p:=⟨x0,y0⟩) b0 (by rw[hL];rfl) λd1 G0 k0 l0=>?_;rw[fB,ae,E0,ae,cf,ae];refine uh (i:=1) (p:=⟨x1,y0⟩) k0 (by rw[hL];rfl) λz0 H0 o0 q0=>?_;exact tail z0 _ _ _ (λc h _=>by rw[q0 c h,l0 c h]) (by omega) (by omega) (g0 o0 (by rw[hL];rfl)) (by rw[hL];exact Ξ _) ⟨_,_,_,rfl⟩
  rw[aY,ae,an]
  have I0:∀(p q r:Pl) (lo0:Nat),m.n<=lo0->∀a0:M,F.push (.cells (nR [p,q,r]) 98 none)=a0->Sl a0 [p,q,r] (aec F.n 0 3 3)/\(∀c,c≠m2.n->c < F.n->a0.get c=F.get c)/\F.n<=a0.n:=λp q r lo0 h a0 hm=>by
   have hg:a0.get F.n=.cells (nR [p,q,r]) 98 none:=by rw[<-hm];exact M.bJ
   refine⟨zF (l:=[p,q,r]) hg,λc _ hc=>by rw[<-hm];exact M.cE hc,by rw[<-hm];exact aca _⟩
  have J0:∀p q r:Pl,aK TE F 45 3 [(0,p.v),(1,q.v),(2,r.v)]=some (aec F.n 0 3 3,F.push (.cells (nR [p,q,r]) 98 none)):=λp q r=>by kernel_rfl
  refine aq (λ_=>?_) (λ_=>?_)
  ·rw[u0,ae,j0 (i:=0) (p:=⟨x0,y0⟩) b0 (by rw[hL];rfl),ae,E0,ae,j0 (i:=1) (p:=⟨x1,y0⟩) b0 (by rw[hL];rfl),ae,v0,ae,j0 (i:=2) (p:=⟨x1,y1⟩) b0 (by rw[hL];rfl),ae,J0,aE];generalize hm:F.push (.cells (nR [⟨x0,y0⟩,⟨x1,y0⟩,⟨x1,y1⟩]) 98 none)=a0;obtain⟨s1,s2,s3⟩:=I0 _ _ _ m.n (Ξ _) a0 hm;exact tail a0 _ _ _ s2 s3 (by omega) s1 (by simp) ⟨_,_,_,rfl⟩
  rw[aY,ae,an];refine aq (λ_=>?_) (λ_=>?_)
  ·rw[u0,ae,j0 (i:=0) (p:=⟨x0,y0⟩) b0 (by rw[hL];rfl),ae,v0,ae,j0 (i:=2) (p:=⟨x1,y1⟩) b0 (by rw[hL];rfl),ae,F0,ae,j0 (i:=3) (p:=⟨x0,y1⟩) b0 (by rw[hL];rfl),ae,J0,aE];generalize hm:F.push (.cells (nR [⟨x0,y0⟩,⟨x1,y1⟩,⟨x0,y1⟩]) 98 none)=a0;obtain⟨s1,s2,s3⟩:=I0 _ _ _ m.n (Ξ _) a0 hm;exact tail a0 _ _ _ s2 s3 (by omega) s1 (by simp) ⟨_,_,_,rfl⟩
  exact tail F _ _ _ (λc _ _=>rfl) (Ξ _) (by omega) (g0 b0 (by rw[hL];rfl)) (by rw[hL];exact Ξ _) ⟨_,_,_,rfl⟩
 obtain⟨r,m',b,hc,rfl,u,w,rfl,h1,h2,h3⟩:=key;exact⟨u,w,m',hc,h1,h2,h3⟩
end
section
variable {X:aG} {m:M}
def iZ(u:Un):List Un->List Un
 |[]=> [u]
 |a::r=>if u.id < a.id then u::a::r else a::iZ u r
theorem zZ{u:Un}:∀{p q:List Un},(∀x∈p,¬u.id < x.id)->iZ u (p++q)=p++iZ u q
 |[],q,_=>rfl
 |a::p,q,h=>by
  rw[acC,iZ,aaa (h a (by simp)),zZ λx F=>h x (by simp[F])];rfl
theorem Cd{u x:Un}:∀{p:List Un},(∃y∈p,u.id < y.id)->iZ u (p++ [x])=iZ u p++ [x]
 |[],h=>by obtain⟨y,F,_⟩:=h;cases F
 |a::p,h=>by
  rw[acC,iZ,iZ]
  by_cases e:u.id < a.id
  ·rw[aaf e,aaf e];rfl
  ·rw[aaa e,aaa e,Cd]
   ·rfl
   ·obtain⟨y,F,a0⟩:=h
    rcases aaS.1 F with rfl |F
    ·exact absurd a0 e
    ·exact⟨y,F,a0⟩
structure KeU(oc:Nat)(m m1:M):Prop where
 n:m.n<=m1.n
 lo:∀c,c < oc->m1.get c=m.get c
 get:∀c,c < m.n->c≠oc->(∀cs g,m.get c≠.cells cs 87 g)->m1.get c=m.get c
structure Gc(oc:Nat)(mm:M)(acc:List UW)(r:aed):Prop where
 cell:mm.get oc=.cells [r] 31 none
 ow:Ow (oc+1) mm acc r
 sh:∀x∈acc,Sl mm x.u.shape x.w
 ln:∀x∈acc,x.u.shape.length < 1000000
theorem Gc.WJ{oc:Nat}{F:M}{acc:List UW}{r:aed}(h:Gc oc F acc r):cJ F acc r:=
 ⟨h.ow.sl,h.sh,h.ln,by
  rcases h.ow with⟨_,h⟩ |⟨b,cs,h1,h2,h3,h4,h5,h6⟩
  ·exact .inl h
  ·exact .inr ⟨b,0,_,cs,_,h1,Ξ _,h4,.inr rfl⟩⟩
theorem Gc.aD{oc:Nat}{mm m':M}{acc:List UW}{r:aed}(h:Gc oc mm acc r)(F:Ext mm m'):Gc oc m' acc r:=⟨F.cells h.cell,h.ow.aD F,λx a0=>(h.sh x a0).aD F,h.ln⟩
theorem Bu{α:Type}[aP α]{n1:Nat}{l:List α}{v:aed}(h:Ow n1 m l v){a:Addr}{n k:Nat}(e:v=.slice (some a) n k):∃cs g,m.get a.block=.cells cs (aP.ty α) g/\n1<=a.block:=by
 rcases h with⟨rfl,_⟩ |⟨b,cs,rfl,h2,F,h4,_⟩;·cases e
 cases e;exact⟨_,_,h4,F⟩
theorem Oa{oc:Nat}{mm:M}{acc:List UW}{r w:aed}{u:Un}(h:Gc oc mm acc r)(hw:Sl mm u.shape w)(hl:u.shape.length < 1000000)(C0:acc.length < 1000000):
  ∃a0 r' F e0,aK TE mm 29 1 [(0,u.v w)]=some (aec mm.n 0 1 1,a0)/\av TE (M.wl a0 (M.n a0)) .append [29,29] [r,aec mm.n 0 1 1]=some (r',F)/\
   aA TE F 29 (aeb oc (0+0)) r'=some (e0,oc)/\oc+1<=F.low/\Gc oc e0 (acc++ [⟨u,w⟩]) r'/\KeU oc mm e0:=by
 have D0:=M.aL h.cell;have s0:one w=true:=hw.one;have d0:Ext mm (mm.push (.cells (UW.c ⟨u,w⟩) 87 none)):=Ext.refl.push;refine⟨mm.push (.cells (UW.c ⟨u,w⟩) 87 none),?_⟩;have u0:aK TE mm 29 1 [(0,u.v w)]=some (aec mm.n 0 1 1,mm.push (.cells (UW.c ⟨u,w⟩) 87 none)):=um (x:=⟨u,w⟩);generalize j0:mm.push (.cells (UW.c ⟨u,w⟩) 87 none)=a0 at*;have q0:a0.get mm.n=.cells (UW.c ⟨u,w⟩) 87 none:=by rw[<-j0];exact M.bJ
 have E0:a0.n=mm.n+1:=by rw[<-j0];rfl
 have g0:=h.aD d0;obtain⟨r',F,ha,b0,h0,r0,B0⟩:=Ow.append (y:=aec mm.n 0 1 1) (ys:=[(⟨u,w⟩:UW)]) tf (by simp[aP.fx]) g0.ow (sA q0 s0) (by omega) (by simp;omega);have F0:=h0.n;have k0:F.get oc=.cells [r] 31 none:=by rw[h0.get _ (by omega),g0.cell]
 have v0:=nK (E:=TE) (o:=0+0) (x:=r') AS k0 (by rw[b0.sl.cells];rfl) (by rw[b0.sl.cells];simp) (by rw[b0.sl.cells];simp[b0.sl.one]);refine⟨r',F,_,u0,ha,v0,r0,?_⟩;have i0:∀c,c≠oc->(F.set oc (.cells (([r]:aee).take (0+0)++(cells r'++([r]:aee).drop (0+0+(cells r').length))) 31 none)).get c=F.get c:=λc hc=>M.cL hc
 have z0:(F.set oc (.cells (([r]:aee).take (0+0)++(cells r'++([r]:aee).drop (0+0+(cells r').length))) 31 none)).get oc=.cells [r'] 31 none:=by rw[M.cY (M.aL k0),b0.sl.cells];rfl
 have A0:(F.set oc (.cells (([r]:aee).take (0+0)++(cells r'++([r]:aee).drop (0+0+(cells r').length))) 31 none)).n=F.n:=rfl;generalize F.set oc (.cells (([r]:aee).take (0+0)++(cells r'++([r]:aee).drop (0+0+(cells r').length))) 31 none)=e0 at*
 have bH:∀c,c < a0.n->c≠oc->(∀cs g,a0.get c≠.cells cs 87 g)->e0.get c=a0.get c:=λc hc l0 ht=>by rw[i0 c l0,iX ha hc λa n k e he=>?_];obtain⟨cs,g,hg,_⟩:=Bu g0.ow e;rw[<-he]at hg;exact ht _ _ hg
 have rI:∀(o0:List Pl) (v:aed),Sl a0 o0 v->Sl e0 o0 v:=λo0 v hs=>hs.bH λb cs t g hb ht=>by
  have ht:t=98:=by simpa[aP.ty,aP.fx]using ht
  subst ht;rw[bH b (M.aL hb) (λe=>by subst e;rw[g0.cell]at hb;cases hb) (λG0 g' e=>by rw[hb]at e;cases e),hb]
 refine⟨⟨z0,b0.bH λb c t g hb ht=>?_,λx hx=>?_,λx hx=>?_⟩,⟨by omega,λc hc=>?_,λc hc l0 ht=>?_⟩⟩
 ·have ht:t=87:=by simpa[aP.ty,aP.fx]using ht
  rw[i0 b (λe=>by subst e;rw[k0]at hb;cases hb;exact absurd ht (by decide)),hb]
 ·rcases aaR.1 hx with hx |hx;·exact rI _ _ (g0.sh x hx)
  rw[abu]at hx;subst hx;exact rI _ _ (hw.aD d0)
 ·rcases aaR.1 hx with hx |hx;·exact h.ln x hx
  rw[abu]at hx;subst hx;exact hl
 ·rw[i0 c (by omega),h0.get c (by omega),d0.get c (by omega)]
 rw[bH c (by omega) l0 (λcs g e=>ht cs g (by rw[<-e,d0.get c (by omega)])),d0.get c (by omega)]
theorem sG(hX:cV X){oc:Nat}{mm:M}{acc:List UW}{r w:aed}{u:Un}(h:Gc oc mm acc r)(hw:Sl mm u.shape w)(hl:u.shape.length < 1000000)(h0:acc.length < 1000000):
  ∃w' a0 b0 r' d0 e0,C X (.func 57) [u.v w] mm mm.n (u.v w') a0/\aK TE a0 29 1 [(0,u.v w')]=some (aec a0.n 0 1 1,b0)/\
   av TE (M.wl b0 (M.n b0)) .append [29,29] [r,aec a0.n 0 1 1]=some (r',d0)/\
   aA TE d0 29 (aeb oc (0+0)) r'=some (e0,oc)/\oc+1<=d0.low/\Gc oc e0 (acc++ [⟨u,w'⟩]) r'/\KeU oc mm e0:=by have j0:=M.aL h.cell;obtain⟨w',a0,hc,F,g0⟩:=Is hX hw hl;have k0:=F.n;obtain⟨b0,r',d0,e0,h1,h2,h3,h4,h5,h6⟩:=Oa (h.aD F) g0 hl h0;exact⟨w',a0,b0,r',d0,e0,hc,h1,h2,h3,h4,h5,⟨by have:=h6.n;omega,λc hc=>by rw[h6.lo c hc,F.get c (by omega)],λc hc i0 ht=>by rw[h6.get c (by omega) i0 (λcs g e=>ht cs g (by rw[<-e,F.get c hc])),F.get c hc]⟩⟩
open Classical in
def qN(l:List UW)(u:Un)(m':M)(F:aed):Prop:=
 if jF (bR l)=true/\jF (iZ u (bR l))=true then∃l' r,F=.tuple #[.agg #[r],.int .i64 0]/\bR l'=iZ u (bR l)/\cJ m' l' r else F=.tuple #[.agg #[.slice none 0 0],.int .i64 120]
theorem qN.no{l:List UW}{u:Un}{m':M}(h:¬(jF (bR l)=true/\jF (iZ u (bR l))=true)):qN l u m' (.tuple #[.agg #[aeg],.int .i64 120]):=by unfold qN;rw[aaa h]
theorem qN.yes{l l':List UW}{u:Un}{m':M}{r:aed}(F:jF (bR l)=true)(h2:jF (iZ u (bR l))=true)(h3:bR l'=iZ u (bR l))(h4:cJ m' l' r):qN l u m' (.tuple #[.agg #[r],.int .i64 0]):=by unfold qN;rw[aaf ⟨F,h2⟩];exact⟨l',r,rfl,h3,h4⟩
theorem FC(u:Un)(l:List Un):iZ u l≠ []:=by
 cases l with
 |nil=>simp[iZ]
 |cons a r=>rw[iZ];split <;>simp
theorem TG(hX:cV X){l:List UW}{v w:aed}{u:Un}(h:cJ m l v)(hlen:l.length < 1000)(hw:Sl m u.shape w)(d1:u.shape.length < 1000000):
  ∃rv m',C X (.func 52) [.agg #[v],u.v w] m m.n rv m'/\Ext m m'/\qN l u m' rv:=by
 have key:∃rv m' b,C X (.func 52) [.agg #[v],u.v w] m b rv m'/\b=m.n/\Ext m m'/\qN l u m' rv:=by
  refine Cl.gen (R:=λrv m' b=>b=m.n/\Ext m m'/\qN l u m' rv) (hX.no _ rfl) Vv rfl ?_;rw[F52];dsimp only[aI,δ,ε,ζ,η,θ,ι,κ,ν,ο,ς,υ,φ,χ,ψ];refine au λm1 O1 i1 z1=>?_;refine au λm2 P1 j1 k1=>?_;refine au λm3 Q1 o1 Q0=>?_;simp only[bB]at i1 j1;have H0:Ext m m3:=⟨by omega,λc hc=>by rw[Q0 c (by omega),k1 c (by omega),z1 c hc]⟩
  have g1:m3.get m.n=.cells [v] 31 none:=by rw[Q0 _ (by omega),k1 _ (by omega)];exact i1
  have g2:m3.get m1.n=.cells (u.c w) 87 none:=by rw[Q0 _ (by omega)];exact j1
  unfold ptrTo;rw[dp,aJ g1 (by simp)];show aj (some (Value.agg #[v])) _;rw[ae];refine az (vi hX (h.aD H0) (by omega)) ?_;rw[bM,ae,an]
  have g0:∀(mm:M) (lo:Nat),(∀c,c < m3.n->mm.get c=m3.get c)->¬(jF (bR l)=true/\jF (iZ u (bR l))=true)->m.n<=lo->
    aT (aA TE mm 31 (aeb m2.n 0) (.agg #[aeg])) λd0 S0=>aj (ah TE d0 31 (aeb m2.n 0)) λv12=>
     (bP (aO [v12,.int .i64 120])=true/\m.n<=min lo S0/\m.n=m.n/\Ext m m/\qN l u m (aO [v12,.int .i64 120]))\/
     ((bP (aO [v12,.int .i64 120])=false\/min lo S0 < m.n)/\min m.n (min lo S0)=m.n/\Ext m d0/\qN l u d0 (aO [v12,.int .i64 120])):=by
   intro mm lo hk A1 B1
   have g3:mm.get m2.n=.cells [aeg] 31 none:=by rw[hk _ (by omega),o1]
   refine aC im g3 rfl rfl rfl λd0 p1 a0 u0=>?_
   have a0:d0.get m2.n=.cells [aeg] 31 none:=a0
   rw[dp,aJ a0 (by simp)]
   show aj (some (Value.agg #[aeg])) _
   rw[ae]
   exact .inl ⟨rfl,by omega,rfl,.refl,.no A1⟩
  have T0:aR TE 31 []=some (.agg #[aeg]):=Iy;refine aq (λhb=>?_) (λhb=>?_)
  ·have hb:jF (bR l)=false:=by simpa using hb
   rw[T0,ae];exact g0 m3 (min m.n m3.n) (λ_ _=>rfl) (λhh=>by rw[hb]at hh;exact absurd hh.1 (by decide)) (by omega)
  have C1:jF (bR l)=true:=by simpa using hb
  refine au λv0 J1 M0 N0=>?_;obtain⟨oc,D1⟩:∃oc,oc=m3.n:=⟨_,rfl⟩
  rw[<-D1]at M0⊢;have K1:Ext m3 v0:=⟨by omega,λc hc=>N0 c hc⟩
  refine Lp.intro (γ:=Nat) (λi=>l.length-i) (λi vs mm lo=>∃(done:Bool) (acc:List UW) (r:aed),vs=[.bool done,.int .i64 i]/\i<=l.length/\Gc oc mm acc r/\(∀c,c < oc->mm.get c=m3.get c)/\m.n<=lo/\v0.n<=mm.n/\(done=false->bR acc=(bR l).take i/\∀x∈(bR l).take i,¬u.id < x.id)/\(done=true->bR acc=iZ u ((bR l).take i)/\∃x∈(bR l).take i,u.id < x.id)/\acc.length<=i+1) 0 ⟨false,[],_,rfl,aaQ _,⟨M0,.nil,λx hx=>(by cases hx),λx hx=>(by cases hx)⟩,λc hc=>N0 c (by omega),by omega,Ξ _,λ_=>⟨rfl,λx hx=>(by simp at hx)⟩,λh=>(by cases h),aaQ _⟩ ?_;rintro i vs mm z0 ⟨done,acc,r,rfl,hi,h0,hk,B1,r1,I0,U0,S1⟩;have gf:mm.get m.n=.cells [v] 31 none:=by rw[hk _ (by omega),g1]
  have gu:mm.get m1.n=.cells (u.c w) 87 none:=by rw[hk _ (by omega),g2]
  have V0:Ext m mm:=⟨by omega,λc hc=>by rw[hk c (by omega),H0.get c hc]⟩
  have hF:=h.aD V0;have J0:∀m':M,m'.get m.n=.cells [v] 31 none->ah TE m' 29 (aeb m.n (0+0))=some v:=λm' h=>by rw[eJ,aF h];rfl
  have K0:∀(m':M) acc r,Gc oc m' acc r->ah TE m' 29 (aeb oc (0+0))=some r:=λm' acc r h=>by rw[eJ,aF h.cell];rfl
  rw[aH,aH,bu,ae,J0 mm gf,ae,hF.sl.len eg,aE,aX,ae,an];refine aq (λX0=>?_) (λE1=>?_)
  ·have X0:i < l.length:=by simpa using X0
   obtain⟨x,hx⟩:∃x,l[i]?=some x:=⟨_,Φ X0⟩
   have O0:=aac hx;have k0:(bR l).take (i+1)=(bR l).take i++ [x.u]:=by rw[abo,nu hx];rfl
   refine cG (λvs m' lo=>vs=[.bool (!done && decide (u.id < x.u.id))]/\mm=m'/\z0=lo) (λR hR=>?_) ?_
   ·rw[bM,ae,an];refine aq (λh1=>?_) (λh1=>?_)
    ·obtain⟨q,q0,f1,f2,f3⟩:=ES hF.sl hx;obtain⟨l0, -⟩:=pV gu;rw[ae,J0 mm gf,ae,f1,ae,f2,ae,f3,ae,bE,ae,l0,ae,dq,ae];exact hR _ _ _ ⟨by rw[h1,aav],rfl,rfl⟩
    exact hR _ _ _ ⟨by rw[h1,aaz],rfl,rfl⟩
   rintro _ _ _ ⟨rfl,rfl,rfl⟩;rw[aH,an]
   have step:∀(m':M) (F:List UW) (r':aed),Gc oc m' F r'->(∀c,c < oc->m'.get c=m3.get c)->v0.n<=m'.n->F.length < 100000->
     ∃q w' i0 o0 A0 r0 j0,ak TE 29 v (.int .i64 i)=some q/\ah TE m' 87 q=some x.v/\C X (.func 57) [x.v] m' m'.n (x.u.v w') i0/\aK TE i0 29 1 [(0,x.u.v w')]=some (aec i0.n 0 1 1,o0)/\
      av TE (M.wl o0 (M.n o0)) .append [29,29] [r',aec i0.n 0 1 1]=some (A0,r0)/\
      aA TE r0 29 (aeb oc (0+0)) A0=some (j0,oc)/\oc+1<=r0.low/\Gc oc j0 (F++ [⟨x.u,w'⟩]) A0/\(∀c,c < oc->j0.get c=m3.get c)/\v0.n<=j0.n:=by
    intro m' F r' hg B0 F1 s1
    have P0:Ext m m':=⟨by omega,λc hc=>by rw[B0 c (by omega),H0.get c hc]⟩
    obtain⟨q,q1,q2,_⟩:=(h.aD P0).sl.mI (k:=.i64) hx
    obtain⟨w',i0,o0,A0,r0,j0,h1,h2,h3,h4,h5,h6,h7⟩:=sG hX hg ((h.aD P0).sh x O0) (h.ln x O0) (by omega)
    exact⟨q,w',i0,o0,A0,r0,j0,q1,q2,h1,h2,h3,h4,h5,h6,λc hc=>by rw[h7.lo c hc,B0 c hc],by have:=h7.n;omega⟩
   refine aq (λh1=>?_) (λh1=>?_)
   ·rw[Ψ]at h1;obtain⟨h1,h2⟩:=h1;have b0:done=false:=by simpa using h1
    have e0:u.id < x.u.id:=by simpa using h2
    obtain⟨e1,e2⟩:=I0 b0
    have L1:acc.length<=i:=by have:=congrArg List.length e1;rw[dE,aap]at this;omega
    obtain⟨wa,T1,U1,ra,V1,L0,a1,a2,a3,a4,a5,a6,a7⟩:=sG hX h0 (hw.aD V0) d1 (by omega);obtain⟨q,wb,X1,m64,rb,Y1,c2,b1,b2,b3,b4,b5,b6,b7,b8,b9,Y0⟩:=step L0 _ ra a6 (λc hc=>by rw[a7.lo c hc,hk c hc]) (by have:=a7.n;omega) (by rw[aam];simp;omega);have u1:L0.get m.n=.cells [v] 31 none:=by rw[a7.lo _ (by omega),gf]
    rw[bu,ae,K0 mm acc r h0,ae,cg gu,ae];refine az a1 ⟨Ξ _,?_⟩;rw[a2,aE,a3,aE,ae,a4,aE,ae,K0 L0 _ _ a6,ae,ae,J0 L0 u1,ae,b1,ae,b2,ae];refine az b3 ⟨Ξ _,?_⟩;rw[b4,aE,b5,aE,ae,b6,aE,aQ,ae,wrap64 (by omega) (by omega)];have:=a7.n;refine⟨i+1,by omega,true,_,rb,rfl,by omega,b8,b9,by omega,Y0,(λh=>by cases h),λ_=>⟨?_,x.u,by rw[k0];simp,e0⟩,by simp;omega⟩;rw[k0,zZ e2];show bR ((acc++ [⟨u,wa⟩])++ [⟨x.u,wb⟩])=_;unfold bR at e1⊢;rw[abh,abh,e1];simp[iZ,e0]
   obtain⟨q,wb,i0,o0,rb,r0,j0,b1,b2,b3,b4,b5,b6,b7,b8,b9,Y0⟩:=step mm _ r h0 hk r1 (by omega);rw[bu,ae,K0 mm acc r h0,ae,ae,J0 mm gf,ae,b1,ae,b2,ae];refine az b3 ⟨Ξ _,?_⟩;rw[b4,aE,b5,aE,ae,b6,aE,aQ,ae,wrap64 (by omega) (by omega)];refine⟨i+1,by omega,done,_,rb,rfl,by omega,b8,b9,by omega,Y0,λhd=>?_,λhd=>?_,by simp;omega⟩
   ·obtain⟨e1,e2⟩:=I0 hd
    have hn:¬u.id < x.u.id:=by rw[hd,aau,aav]at h1;simpa using h1
    refine⟨?_,λy hy=>?_⟩
    ·rw[k0];unfold bR at e1⊢;rw[abh,e1];rfl
    rw[k0]at hy;rcases aaR.1 hy with hy |hy;·exact e2 y hy
    rw[abu]at hy;subst hy;exact hn
   obtain⟨e1,y,hy,e0⟩:=U0 hd;refine⟨?_,y,by rw[k0];simp[hy],e0⟩;rw[k0,Cd ⟨y,hy,e0⟩];unfold bR at e1⊢;rw[abh,e1];rfl
  have G1:i=l.length:=by
   have:¬(i:Int)< (l.length:Int):=by simpa using E1
   omega
  subst G1;rw[aa5 (by rw[dE];exact Ξ _)]at I0 U0
  have fin:∀(m':M) (F:List UW) (r':aed) (C0:Nat),Gc oc m' F r'->(∀c,c < oc->m'.get c=m3.get c)->v0.n<=m'.n->m.n<=C0->bR F=iZ u (bR l)->F.length < 100000->
    C X (.func 61) [.agg #[r']] m' m'.n (.bool (jF (iZ u (bR l)))) m'/\ah TE m' 31 (aeb oc 0)=some (.agg #[r'])/\
    (jF (iZ u (bR l))=true->aT (aA TE m' 31 (aeb m2.n 0) (.agg #[r'])) λD0 E0=>aj (ah TE D0 31 (aeb m2.n 0)) λv12=>
     (bP (aO [v12,.int .i64 0])=true/\m.n<=min C0 E0/\m.n=m.n/\Ext m m/\qN l u m (aO [v12,.int .i64 0]))\/
     ((bP (aO [v12,.int .i64 0])=false\/min C0 E0 < m.n)/\min m.n (min C0 E0)=m.n/\Ext m D0/\qN l u D0 (aO [v12,.int .i64 0]))):=by
   intro m' F r' C0 hg B0 F1 N1 s0 s1
   refine⟨by rw[<-s0];exact vi hX hg.WJ (by omega),by rw[dp,aJ hg.cell (by simp)];rfl,λhv=>?_⟩
   have g3:m'.get m2.n=.cells [aeg] 31 none:=by rw[B0 _ (by omega),o1]
   refine aC im g3 rfl rfl (by show(one r' && true)=true;rw[hg.ow.sl.one];rfl) λd0 p1 a0 u0=>?_
   have a0:d0.get m2.n=.cells [r'] 31 none:=a0
   rw[dp,aJ a0 (by simp)]
   show aj (some (Value.agg #[r'])) _
   rw[ae]
   have v1:cJ d0 F r':=hg.WJ.bH λc cs t g hb ht=>by rw[u0 c (λe=>by subst e;rw[g3]at hb;cases hb;rcases ht with ht |ht <;>exact absurd ht (by decide)),hb]
   refine .inr ⟨.inl ?_,by omega,⟨by omega,λc hc=>by rw[u0 c (by omega),B0 c (by omega),H0.get c hc]⟩,.yes C1 hv s0 v1⟩
   have H1:F≠ []:=λe=>by rw[e]at s0;exact FC u (bR l) s0.symm
   obtain⟨bb,I1,_⟩:=Own.of hg.ow H1
   rw[I1]
   simp[aO,bP,gI,cy]
  rw[bM,ae,an];refine aq (λh1=>?_) (λh1=>?_)
  ·have b0:done=false:=by simpa using h1
   obtain⟨e1,e2⟩:=I0 b0
   obtain⟨wa,d2,i2,ra,c1,F0,a1,a2,a3,a4,a5,a6,a7⟩:=sG hX h0 (hw.aD V0) d1 (by omega)
   have s0:bR (acc++ [⟨u,wa⟩])=iZ u (bR l):=by have:iZ u (bR l++ [])=bR l++iZ u []:=zZ e2;rw[abk]at this;rw[this];unfold bR at e1⊢;rw[abh,e1];rfl
   have n7:=a7.n
   obtain⟨f1,f2,f3⟩:=fin F0 _ ra (min (min (min z0 mm.n) c1.low) oc) a6 (λc hc=>by rw[a7.lo c hc,hk c hc]) (by omega) (by omega) s0 (by simp;omega)
   rw[bu,ae,K0 mm acc r h0,ae,cg gu,ae]
   refine az a1 ⟨Ξ _,?_⟩
   rw[a2,aE,a3,aE,ae,a4,aE,f2,ae]
   refine az f1 ?_
   rw[bM,ae,an]
   have w1:min (min (min (min z0 mm.n) c1.low) oc) F0.n=min (min (min z0 mm.n) c1.low) oc:=by have:=M.aL a6.cell;omega
   rw[w1]
   cases G0:jF (iZ u (bR l))with
   |false=>rw[aau,bU,T0,ae];exact g0 F0 _ (λc hc=>by rw[a7.lo c (by omega),hk c (by omega)]) (λhh=>by rw[G0]at hh;exact absurd hh.2 (by decide)) (by omega)
   |true=>rw[aal,aM,f2,ae];exact f3 G0
  ·have b0:done=true:=by simpa using h1
   obtain⟨e1,_⟩:=U0 b0
   obtain⟨f1,f2,f3⟩:=fin mm acc r (min z0 mm.n) h0 hk r1 (by omega) e1 (by omega)
   rw[f2,ae]
   refine az f1 ?_
   rw[bM,ae,an]
   cases G0:jF (iZ u (bR l))with
   |false=>rw[aau,bU,T0,ae];exact g0 mm _ (λc hc=>hk c (by omega)) (λhh=>by rw[G0]at hh;exact absurd hh.2 (by decide)) (by omega)
   |true=>rw[aal,aM,f2,ae];exact f3 G0
 obtain⟨rv,m',b,hc,rfl,h1,h2⟩:=key;exact⟨rv,m',hc,h1,h2⟩
end
section
variable {X:aG} {m:M}
structure I6 where
 a:Int
 b:Int
 c:Int
 d:Int
 e:Int
 f:Int
def I6.c'(x:I6):aee:=[.int .i64 x.a,.int .i64 x.b,.int .i64 x.c,.int .i64 x.d,.int .i64 x.e,.int .i64 x.f]
def I6.ok(x:I6):Prop:=lu x.a/\lu x.b/\lu x.c/\lu x.d/\lu x.e/\lu x.f
instance:aP I6 where
 ty:=85
 sz:=6
 agg:=true
 fx:=[]
 rep _ x cs:=cs=x.c'
 pos:=by decide
 one:=by intro h;cases h
 len:=by rintro _ _ _ rfl;rfl
 kN:=by rintro _ _ _ rfl;rfl
 bH:=by rintro _ _ _ _ rfl _;rfl
theorem Dl:uF TE 22 85 I6:=⟨ag.t22,ag.t85,by kernel_rfl,⟨_,rfl⟩,rfl,by kernel_rfl,rfl,rfl⟩
theorem UT{l:List I6}{v:aed}(h:CR m l v){i:Nat}{x:I6}(hx:l[i]?=some x):∃b o,ak TE 22 v (.int .i64 i)=some (aeb b o)/\ah TE m 85 (aeb b o)=some (.agg x.c'.toArray)/\ah TE m 3 (aeb b (o+5))=some (.int .i64 x.f):=by
 obtain⟨p,cs,e1,e2,e3⟩:=h.index Dl (k:=.i64) hx;have e3:cs=x.c':=e3;subst e3;have b0:=(Ω.1 hx).1;rcases h with h |h
 ·obtain⟨b,o,bc,g,cs,f1,hb,F,hle,hj⟩:=h.lU Dl (k:=.i64) hx;have F:cs=x.c':=F;subst F;rw[e1]at f1;cases f1;refine⟨b,o,e1,e2,?_⟩;rw[cd,aF hb,hj 5 (by decide)];rfl
 rcases h with⟨_,rfl⟩ |⟨b,o,c,bc,rfl,hb,a0⟩;·simp at hx
 obtain⟨hle,F⟩:=a0 i x hx;have F:(bc.drop (o+i*6)).take 6=x.c':=F
 have f1:ak TE 22 (aec b o l.length c) (.int .i64 i)=some (aeb b (o+i*6)):=by
  have hc:0<=(i:Int)/\(i:Int)< (l.length:Int)/\0 < ag.t22.es:=⟨by omega,by omega,by decide⟩
  have hd:ag.t22.d=.slice 85:=rfl;simp only[ak,Uz,hd];rw[aaf hc,bw rfl];rfl
 rw[e1]at f1;cases f1;refine⟨b,o+i*6,e1,e2,?_⟩
 have h5:bc[o+i*6+5]?=some (.int .i64 x.f):=by
  have:=congrArg (·[5]?) F
  simp only[aaI (show 5 < 6 by decide),aaW]at this;rw[this];rfl
 rw[cd,zk hb h5 rfl]
theorem Hz(hX:cV X){xs:List I6}{v:aed}(hv:CR m xs v)(P0:∀x∈xs,x.ok)(hlen:xs.length < 9223372036854775808):
  ∃l r m',C X (.func 9) [v] m m.n (.agg #[r]) m'/\Ext m m'/\cJ m' l r/\cF (bR l):=by
 have key:∃rv m' b,C X (.func 9) [v] m b rv m'/\b=m.n/\Ext m m'/\∃l r,rv=.agg #[r]/\cJ m' l r/\cF (bR l):=by
  refine Cl.gen (R:=λrv m' b=>b=m.n/\Ext m m'/\∃l r,rv=.agg #[r]/\cJ m' l r/\cF (bR l)) (hX.no _ rfl) XO rfl ?_;rw[F9];dsimp only[aI,δ,ζ,η,ι,κ,ξ,υ,φ,χ,ψ];refine au λm1 p1 Q0 S0=>?_;refine au λm2 r1 T0 F0=>?_;have U0:Ext m m2:=⟨by omega,λc hc=>by rw[F0 c (by omega),S0 c hc]⟩
  have g1:m2.get m.n=.cells [aeg] 31 none:=by rw[F0 _ (by omega),Q0]
  have v0:∀mm:M,cJ mm [] aeg:=λmm=>⟨.nil,λx hx=>(by cases hx),λx hx=>(by cases hx),.inl rfl⟩
  have e0:cF (bR []):=⟨by simp[bR],λu hu=>(by simp[bR]at hu),λi a b ha=>(by simp[bR]at ha),λi k a b _ ha=>(by simp[bR]at ha)⟩
  unfold ptrTo;refine Lp.intro (γ:=Nat) (λi=>12-i) (λi vs mm lo=>∃l r,vs=[.int .i64 i]/\i<=12/\Ext m mm/\m2.n<=mm.n/\mm.get m.n=.cells [aeg] 31 none/\mm.get m1.n=.cells [r] 31 none/\cJ mm l r/\cF (bR l)/\m.n<=lo/\(l=[]->r=aeg)) 0 ⟨[],_,rfl,by omega,U0,Ξ _,g1,T0,v0 _,e0,Ξ _,λ_=>rfl⟩ ?_;rintro i vs mm lo ⟨l,r,rfl,hi,hx,s1,ga,gb,hF,hP,u1,z0⟩;have v1:l.length<=12:=by have:=hP.len;rwa[dE]at this
  rw[aH];refine cG (λvs m' V0=>vs=[.bool (decide (i < xs.length) && decide (i < 12))]/\mm=m'/\lo=V0) (λR hR=>?_) ?_
  ·rw[(hv.aD hx).len Dl,aE,aX,ae,an];refine aq (λh=>?_) (λh=>?_)
   ·have h:i < xs.length:=by simpa using h
    rw[aX,ae]
    refine hR _ _ _ ⟨?_,rfl,rfl⟩
    rw[aaX h,aav]
    congr 2
    rw[decide_eq_decide];omega
   have h:¬i < xs.length:=by simpa using h
   exact hR _ _ _ ⟨by rw[aat h];rfl,rfl,rfl⟩
  rintro _ _ _ ⟨rfl,rfl,rfl⟩;rw[aH,an];have s0:∀(m':M) (b:Nat) (r:aed),m'.get b=.cells [r] 31 none->ah TE m' 31 (aeb b 0)=some (.agg #[r]):=λm' b r h=>by rw[dp,aJ h (by simp)];rfl
  refine aq (λh=>?_) (λh=>?_)
  ·simp only[Ψ,aaC]at h;obtain⟨X0,d1⟩:=h;obtain⟨x,G0⟩:∃x,xs[i]?=some x:=⟨_,Φ X0⟩
   obtain⟨k0,k1,k2,k3,k4,k5⟩:=P0 x (aac G0);obtain⟨b,o,e1,e2,e3⟩:=UT (hv.aD hx) G0;have e4:ak TE 85 (aeb b o) (.int .i64 5)=some (aeb b (o+5)):=OM (i:=5) (by decide);rw[s0 mm _ _ gb,ae,ej,ae,e1,ae,e4,ae,e3,ae];refine az (eB hX k5 (by decide)) ⟨Ξ _,?_⟩;rw[aQ,ae,ae,e2,ae];obtain⟨u,w,Y0,H0,g0,I0,i1⟩:=wU (m:=mm) hX (jM _) k0 k1 k2 k3 k4 k5;refine az H0 ⟨Ξ _,?_⟩;obtain⟨rv,D0,J0,A0,F⟩:=TG (m:=Y0) hX (hF.aD g0) (by omega) I0 (by omega);refine az J0 ⟨Ξ _,?_⟩;have n30:=g0.n;have n33:=A0.n;have b0:=g0.trans A0;by_cases hc:jF (bR l)=true/\jF (iZ u (bR l))=true
   ·unfold qN at F;rw[aaf hc]at F;obtain⟨l',r',rfl,E0,K0⟩:=F;rw[cp,cp];simp only[aad,aah,ae];refine au λa1 L0 h0 i0=>?_;have or:one r'=true:=K0.sl.one;refine aC im h0 rfl rfl (by show(one r' && true)=true;rw[or];rfl) λur M0 d0 j0=>?_;have d0:ur.get D0.n=.cells [r'] 31 none:=d0;have a0:Ext D0 ur:=⟨by omega,λc hc=>by rw[j0 c (by omega),i0 c hc]⟩
    rw[aY,ae,an,aaX rfl,bU,s0 ur _ _ d0,ae];have B0:ur.get m1.n=.cells [r] 31 none:=a0.cells (b0.cells gb);refine aC im B0 rfl rfl (by show(one r' && true)=true;rw[or];rfl) λc1 j1 l0 o0=>?_;have l0:c1.get m1.n=.cells [r'] 31 none:=l0;rw[aQ,ae,wrap64 (by omega) (by omega)];refine⟨i+1,by omega,l',r',rfl,by omega,⟨by have:=hx.n;omega,λc hc=>by rw[o0 c (by omega),a0.get c (by have:=hx.n;omega),b0.get c (by have:=hx.n;omega),hx.get c hc]⟩,by omega,?_,l0,?_,?_,by have:=hx.n;omega,λe=>?_⟩;·rw[o0 _ (by omega),a0.get _ (by omega),b0.get _ (by omega),ga]
    ·exact(K0.aD a0).bH λc cs t g hb ht=>by rw[o0 c (λe=>by subst e;rw[B0]at hb;cases hb;rcases ht with ht |ht <;>exact absurd ht (by decide)),hb]
    ·rw[E0];exact My.1 hc.2
    rw[e]at E0;exact absurd E0.symm (FC u _)
   unfold qN at F;rw[aaa hc]at F;subst F;rw[cp,cp];simp only[aad,aah,ae];refine au λa1 L0 h0 i0=>?_;refine aC im h0 rfl rfl rfl λur M0 d0 j0=>?_;have a0:Ext D0 ur:=⟨by omega,λc hc=>by rw[j0 c (by omega),i0 c hc]⟩
   rw[aY,ae,an,show decide ((120:Int)=0)=false from rfl,aM,aQ,ae,wrap64 (by omega) (by omega)];have q0:=b0.trans a0;exact⟨i+1,by omega,l,r,rfl,by omega,hx.trans q0,by have:=q0.n;omega,q0.cells ga,q0.cells gb,hF.aD q0,hP,by have:=hx.n;omega,z0⟩
  rw[s0 mm _ _ gb,ae];have or:one r=true:=hF.sl.one;refine aC im ga rfl rfl (by show(one r && true)=true;rw[or];rfl) λu0 o1 r0 C0=>?_;have r0:u0.get m.n=.cells [r] 31 none:=r0;rw[s0 u0 _ _ r0,ae]
  have N0:cJ u0 l r:=hF.bH λc cs t g hb ht=>by rw[C0 c (λe=>by subst e;rw[ga]at hb;cases hb;rcases ht with ht |ht <;>exact absurd ht (by decide)),hb]
  have O0:Ext m u0:=⟨by have:=hx.n;omega,λc hc=>by rw[C0 c (by omega),hx.get c hc]⟩
  by_cases hl:l=[]
  ·have hr:=z0 hl;subst hl;subst hr;exact .inl ⟨rfl,by omega,rfl,.refl,[],_,rfl,v0 m,e0⟩
  refine .inr ⟨.inl ?_,by omega,O0,l,r,rfl,N0,hP⟩;rcases hF.cap with h |⟨bb,o,c,bc,g,rfl,_⟩;·exact absurd h hl
  simp[aO,bP,gI,cy]
 obtain⟨rv,m',b,hc,rfl,h1,l,r,rfl,h2,h3⟩:=key;exact⟨l,r,m',hc,h1,h2,h3⟩
end
section
open Go Go.D Go.ChangeShapes Go.WideShapes Go.ChangeAt Go.RowKit
theorem ET:Tryz.prog.underlying 22=some (.slice 85):=by kernel_rfl
theorem Jd:Tryz.prog.underlying 85=some (.array 6 3):=by kernel_rfl
section
variable {H:Type} {enc:TypeId×aed->H} {W W':World} {sp:Nat->Bool} {held:Bool} {base:Nat}
theorem MH:∀fuel cs x,DataW.trod enc Tryz.prog W 0 sp held fuel 85 cs=some x->∃y:I6,y.ok/\(∀m,aP.rep m y cs)/\∀u∈cs,cy u=true:=by
 intro fuel cs x h
 obtain⟨l,rfl,hl,F⟩:=zY Jd (by kernel_rfl) h
 match l,hl,F with
 |[a,b,c,d,e,f],_,F=>refine⟨⟨a,b,c,d,e,f⟩,⟨F _ (by simp),F _ (by simp),F _ (by simp),F _ (by simp),F _ (by simp),F _ (by simp)⟩,λm=>rfl,λu hu=>?_⟩;obtain⟨z,_,rfl⟩:=aaU.1 hu;rfl
end
end
section
end
section
variable {X:aG} {m:M}
theorem cF.lt{us:List Un}(h:cF us):∀(d i:Nat) (a b:Un),us[i]?=some a->us[i+d+1]?=some b->a.id < b.id
 |0,i,a,b,ha,F=>h.IP i a b ha F
 |d+1,i,a,b,ha,F=>by
  obtain⟨c,hc⟩:∃c,us[i+d+1]?=some c:=⟨_,Φ (by have:=(Ω.1 F).1;omega)⟩
  have h1:=h.lt d i a c ha hc
  have h2:=h.IP (i+d+1) c b hc (by rw[<-F];congr 1)
  omega
theorem cF.Rd{us:List Un}(h:cF us){i k:Nat}{a b:Un}(F:i < k)(ha:us[i]?=some a)(hb:us[k]?=some b):a.id < b.id:=
 h.lt (k-i-1) i a b ha (by rw[<-hb];congr 1;omega)
theorem uE(hX:cV X)(u:Un)(w:aed)(id:Int):C X (.func 154) [u.v w,.int .i64 id] m m.n (.int .i64 (kj u.id id)) m:=by refine Cl.flat (hX.no _ rfl) SA rfl rfl ?_;rw[Zl];dsimp only[aI,δ,ε,ς,φ,ψ];refine au λm1 a0 F b0=>?_;simp only[bB]at F;have F:m1.get m.n=.cells (u.c w) 87 none:=F;obtain⟨l0,_⟩:=pV F;unfold ptrTo;rw[bE,ae,l0,ae];refine az (qD hX _ _) ?_;exact⟨rfl,by omega⟩
theorem UE{a:Int}:aw TE .shr 224 (.int .u64 a) (.int .u64 1)=some (.int .u64 (a.fdiv 2)):=by kernel_rfl
theorem PV{n:Nat}:aw TE .shr 224 (.int .u64 (n:Int)) (.int .u64 1)=some (.int .u64 ((n/2:Nat):Int)):=by rw[UE,Int.fdiv_eq_ediv_of_nonneg _ (by omega)];rfl
theorem PR{n:Nat}(h:n < 1000):IntKind.wrap .u64 (n:Int)=n:=by
 have e:IntKind.u64.wrap (n:Int)=(n:Int)%18446744073709551616:=by unfold IntKind.wrap;simp[IntKind.bits,IntKind.signed]
 rw[e];omega
theorem GU(hX:cV X){l:List UW}{v:aed}(h:Sl m l v)(hP:cF (bR l))(id:Int):
  ∃(i:Nat) (is:Bool),C X (.func 153) [v,.int .i64 id,.func (.func 154) #[] #[]] m m.n (.tuple #[.int .i64 i,.bool is]) m/\(is=true->∃x,l[i]?=some x/\x.u.id=id)/\(is=false->∀x∈l,x.u.id≠id):=by
 have hl:l.length<=12:=by have:=hP.len;rwa[dE]at this
 have key:∃rv m' b,C X (.func 153) [v,.int .i64 id,.func (.func 154) #[] #[]] m b rv m'/\(m'=m/\b=m.n/\∃(i:Nat) (is:Bool),rv=.tuple #[.int .i64 i,.bool is]/\(is=true->∃x,l[i]?=some x/\x.u.id=id)/\(is=false->∀x∈l,x.u.id≠id)):=by
  refine Cl.gen (R:=λrv m' b=>m'=m/\b=m.n/\∃(i:Nat) (is:Bool),rv=.tuple #[.int .i64 i,.bool is]/\(is=true->∃x,l[i]?=some x/\x.u.id=id)/\(is=false->∀x∈l,x.u.id≠id)) (hX.no _ rfl) Eg rfl ?_;rw[Zm];dsimp only[aI,δ,ζ,η,κ,χ];rw[h.len eg,aE];refine Lp.intro (γ:=Nat×Nat) (λs=>s.2-s.1) (λs vs mm lo=>vs=[.int .i64 s.1,.int .i64 s.2]/\s.1<=s.2/\s.2<=l.length/\m=mm/\m.n<=lo/\(∀k x,k < s.1->l[k]?=some x->x.u.id < id)/\∀k x,s.2<=k->l[k]?=some x->id<=x.u.id) (0,l.length) ⟨rfl,aaQ _,Ξ _,rfl,Ξ _,λk x hk=>by omega,λk x hk hx=>by have:=(Ω.1 hx).1;omega⟩ ?_;rintro⟨i,j⟩ vs mm lo ⟨rfl,k0,hj,rfl,l0,b0,a0⟩;dsimp only at k0 hj b0 a0⊢;rw[aH,aH,aX,ae,an];refine aq (λF=>?_) (λe0=>?_)
  ·have F:i < j:=by simpa using F
   obtain⟨x,hx⟩:∃x,l[(i+j)/2]?=some x:=⟨_,Φ (by omega)⟩
   obtain⟨a,e1,e2,_⟩:=h.mI (k:=.i64) hx;have g0:=nu hx;rw[aQ,ae,wrap64 (by omega) (by omega),show(i:Int)+(j:Int)=((i+j:Nat):Int) by omega,wO,PR (by omega),ae,PV,ae,wP,wrap64 (by omega) (by omega),ae,e1,ae,e2,ae,bY];refine az (uE hX x.u x.w id) ?_;rw[aX,ae,an];have d0:∀k y,l[k]?=some y->(k < (i+j)/2->y.u.id < x.u.id)/\((i+j)/2 < k->x.u.id < y.u.id):=λk y hk=>⟨λF=>hP.Rd F (nu hk) g0,λF=>hP.Rd F g0 (nu hk)⟩
   refine aq (λhc=>?_) (λhc=>?_)
   ·have hc:x.u.id < id:=by
     unfold kj at hc;by_cases h1:x.u.id < id;·exact h1
     rw[aaa h1]at hc;split at hc <;>simp at hc
    rw[aQ,ae,wrap64 (by omega) (by omega)];refine⟨((i+j)/2+1,j),by dsimp only;omega,by dsimp only;simp,by dsimp only;omega,hj,rfl,by omega,λk y hk hy=>?_,a0⟩;by_cases e:k=(i+j)/2;·subst e;rw[hx]at hy;cases hy;exact hc
    have:=(d0 k y hy).1 (by dsimp only at hk;omega);omega
   have hc:id<=x.u.id:=by
    unfold kj at hc;by_cases h1:x.u.id < id;·rw[aaf h1]at hc;simp at hc
    omega
   refine⟨(i,(i+j)/2),by dsimp only;omega,rfl,by dsimp only;omega,by dsimp only;omega,rfl,by omega,b0,λk y hk hy=>?_⟩;by_cases e:k=(i+j)/2;·subst e;rw[hx]at hy;cases hy;exact hc
   have:=(d0 k y hy).2 (by dsimp only at hk;omega);omega
  have h0:i=j:=by
   have:¬(i:Int)< (j:Int):=by simpa using e0
   omega
  subst h0;refine cG (λvs m' i0=>∃is,vs=[.int .i64 i,.bool is]/\m=m'/\m.n<=i0/\(is=true->∃x,l[i]?=some x/\x.u.id=id)/\(is=false->∀x∈l,x.u.id≠id)) (λR hR=>?_) ?_
  ·rw[aX,ae,an];refine aq (λF=>?_) (λe0=>?_)
   ·have F:i < l.length:=by simpa using F
    obtain⟨x,hx⟩:∃x,l[i]?=some x:=⟨_,Φ F⟩
    obtain⟨a,e1,e2,_⟩:=h.mI (k:=.i64) hx;rw[e1,ae,e2,ae,bY];refine az (uE hX x.u x.w id) ?_;rw[aY,ae];refine hR _ _ _ ⟨_,rfl,rfl,by omega,λhe=>⟨x,hx,?_⟩,λhe y hy o0=>?_⟩
    ·have he:kj x.u.id id=0:=by simpa using he
     unfold kj at he;by_cases h1:x.u.id < id;·rw[aaf h1]at he;omega
     rw[aaa h1]at he;by_cases h2:id < x.u.id;·rw[aaf h2]at he;omega
     omega
    have he:¬kj x.u.id id=0:=by simpa using he
    obtain⟨k,hk⟩:=aaN hy;by_cases e:k=i
    ·subst e;rw[hx]at hk;cases hk;apply he;unfold kj;rw[aaa (by omega),aaa (by omega)]
    by_cases e2:k < i;·have:=b0 k y e2 hk;omega
    have:=a0 i x (Ξ _) hx;have:=hP.Rd (show i < k by omega) (nu hx) (nu hk);omega
   have e0:l.length<=i:=by
    have:¬(i:Int)< (l.length:Int):=by simpa using e0
    omega
   refine hR _ _ _ ⟨false,rfl,rfl,l0,λh=>(by cases h),λ_ y hy o0=>?_⟩;obtain⟨k,hk⟩:=aaN hy;have:=b0 k y (by have:=(Ω.1 hk).1;omega) hk;omega
  rintro _ _ i0 ⟨is,rfl,rfl,j0,h1,h2⟩;rw[aH,aH];exact .inl ⟨rfl,j0,rfl,rfl,i,is,rfl,h1,h2⟩
 obtain⟨rv,m',b,hc,rfl,rfl,i,is,rfl,h1,h2⟩:=key;exact⟨i,is,hc,h1,h2⟩
end
section
variable {X:aG} {m:M}
theorem dP{u:Un}(h:lq u=true):bI u.shape=true:=by simp only[lq,Ψ]at h;exact h.2
def cM(us:List Un)(id:Int):Option Un:=us.find? λu=>decide (u.id=id)
theorem oy{us:List Un}(hP:cF us){i:Nat}{a:Un}(h:us[i]?=some a):cM us a.id=some a:=by
 unfold cM
 cases e:us.find? λu=>decide (u.id=a.id)with
 |none=>have:=acK.1 e a (aac h);simp at this
 |some b=>
  have h1:=adE e;have h1:b.id=a.id:=by simpa using h1
  obtain⟨k,hk⟩:=aaN (acW e);rcases abS i k with F |rfl |F;·have:=hP.Rd F h hk;omega
  ·rw[h]at hk;cases hk;rfl
  have:=hP.Rd F hk h;omega
theorem Ei{us:List Un}{id:Int}(h:∀u∈us,u.id≠id):cM us id=none:=by unfold cM;rw[acK];intro x F;simpa using h x F
theorem eW{us:List Un}{id:Int}{u:Un}(h:cM us id=some u):u∈us/\u.id=id:=by unfold cM at h;exact⟨acW h,by simpa using adE h⟩
theorem Cq(hX:cV X){l:List UW}{v:aed}(h:cJ m l v)(hP:cF (bR l))(id:Int):
  ∃ov m',C X (.func 98) [.agg #[v],.int .i64 id] m m.n (.tuple #[ov,.bool (cM (bR l) id).isSome]) m'/\Ext m m'/\xX m' (cM (bR l) id) ov/\(∀u,cM (bR l) id=some u->∃w,ov=u.v w/\Ow m.n m' u.shape w):=by
 have hl:l.length<=12:=by have:=hP.len;rwa[dE]at this
 have key:∃rv m' b,C X (.func 98) [.agg #[v],.int .i64 id] m b rv m'/\b=m.n/\∃ov,rv=.tuple #[ov,.bool (cM (bR l) id).isSome]/\Ext m m'/\xX m' (cM (bR l) id) ov/\(∀u,cM (bR l) id=some u->∃w,ov=u.v w/\Ow m.n m' u.shape w):=by
  refine Cl.gen (R:=λrv m' b=>b=m.n/\∃ov,rv=.tuple #[ov,.bool (cM (bR l) id).isSome]/\Ext m m'/\xX m' (cM (bR l) id) ov/\(∀u,cM (bR l) id=some u->∃w,ov=u.v w/\Ow m.n m' u.shape w)) (hX.no _ rfl) Vh rfl ?_;rw[F98];dsimp only[aI,δ,ε,ζ,θ,ι,ξ,ο,ς,υ,φ,χ,ψ];refine au λm1 a1 J0 K0=>?_;refine au λm2 c1 v0 z0=>?_;have A0:Ext m m2:=⟨by omega,λc hc=>by rw[z0 c (by omega),K0 c hc]⟩
  have g1:m2.get m.n=.cells [v] 31 none:=by rw[z0 _ (by omega)];exact J0
  have hF:=h.aD A0;unfold ptrTo;rw[dp,aJ g1 (by simp)];simp only[aa0,aa6,abi,aag,ae];refine az (mA hX hF (by omega)) ?_;rw[jk hP,bM,ae,an,aal,aM,bu,ae,eJ,aF g1];simp only[aaq,aad,ae];obtain⟨i,is,hc,B0,L0⟩:=GU (m:=m2) hX hF.sl hP id;refine az hc ?_;rw[cp,cp];simp only[aad,aah,ae];rw[bM,ae,an];refine aq (λhb=>?_) (λhb=>?_)
  ·have q0:is=false:=by simpa using hb
   have e:cM (bR l) id=none:=Ei λu hu=>by obtain⟨x,hx,rfl⟩:=pU hu;exact L0 q0 x hx
   rw[e];have M0:aR TE 87 []=some (.agg Un.zc.toArray):=zn;rw[M0,ae];refine aC ep v0 rfl rfl rfl λm9 d1 N0 i1=>?_;rw[rE,aJ N0 (by simp[bB])];refine .inl ⟨by kernel_rfl,by omega,trivial,_,rfl,.refl,rfl,λu h=>by cases h⟩
  have q0:is=true:=by simpa using hb
  obtain⟨x,hx,rfl⟩:=B0 q0;rw[oy hP (nu hx)];obtain⟨a,e1,e2,C0⟩:=hF.sl.mI (k:=.i64) hx;have D0:=aac hx;have hv:=(dP (hP.val x.u (aaU.2 ⟨x,D0,rfl⟩)))
  have o0:=cx hv;have O0:ah TE m2 29 (aeb m.n 0)=some v:=by rw[eJ,aF g1];rfl
  rw[O0,ae,e1,ae,e2,ae];refine au λj1 U0 E0 F0=>?_;refine aC ep E0 rfl rfl (Un.eN C0) λr0 V0 d0 G0=>?_;have d0:r0.get m2.n=.cells x.c 87 none:=d0;have a0:Ext m2 r0:=⟨by omega,λc hc=>by rw[G0 c (by omega),F0 c hc]⟩
  obtain⟨-, -, -,l3, -, -⟩:=pV d0;rw[bA,ae,l3,ae];obtain⟨w',P0,H0,F,e0⟩:=ij (m:=r0) hX ((hF.sh x D0).aD a0) (by intro e;rw[e]at o0;simp at o0) (by omega);refine az H0 ?_;have n34:=e0.n;have o7:one w'=true:=F.sl.one;have s0:=e0.cells d0;rw[ae];refine bW kG s0 (by rw[F.sl.cells];rfl) (by rw[F.sl.cells];show 3+1<=6;omega) (by rw[F.sl.cells];simp[o7]) λI0 X0 g0 b0=>?_;have g0:I0.get m2.n=.cells (x.u.c w') 87 none:=by rw[g0,F.sl.cells];rfl
  rw[cg g0,ae];have i0:I0.get m1.n=.cells Un.zc 87 none:=by rw[b0 _ (by omega),e0.get _ (by omega),a0.get _ (by omega),v0]
  refine aC ep i0 rfl rfl (Un.eN o7) λj0 Y0 k0 l0=>?_;have k0:j0.get m1.n=.cells (x.u.c w') 87 none:=k0;rw[cg k0,ae]
  have Q0:Sl j0 x.u.shape w':=F.sl.bH λb c t g hb ht=>by
   have h1:b≠m2.n:=λe=>by subst e;rw[s0]at hb;cases hb;simp[aP.ty,aP.fx]at ht
   rw[l0 b (λe=>by subst e;rw[<-b0 _ h1,i0]at hb;cases hb;simp[aP.ty,aP.fx]at ht),b0 b h1,hb]
  have u0:∀b c t g,P0.get b=.cells c t g->t∈aP.ty Pl::aP.fx Pl->j0.get b=.cells c t g:=λb c t g hb ht=>by
   have h1:b≠m2.n:=λe=>by subst e;rw[s0]at hb;cases hb;simp[aP.ty,aP.fx]at ht
   rw[l0 b (λe=>by subst e;rw[<-b0 _ h1,i0]at hb;cases hb;simp[aP.ty,aP.fx]at ht),b0 b h1,hb]
  have S0:Ow m.n j0 x.u.shape w':=(F.mono (by have:=a0.n;omega)).bH u0;have T0:Ext m j0:=⟨by have:=a0.n;omega,λc hc=>by rw[l0 c (by omega),b0 c (by omega),e0.get c (by have:=a0.n;omega),a0.get c (by omega),A0.get c hc]⟩
  rcases F with⟨_,h0⟩ |⟨b,cs,rfl,_⟩;·rw[h0]at o0;simp at o0
  exact .inr ⟨.inl (by simp[aO,bP,gI,cy]),by omega,_,rfl,T0,⟨_,rfl,Q0⟩,λu h=>by cases h;exact⟨_,rfl,S0⟩⟩
 obtain⟨rv,m',b,hc,rfl,ov,rfl,h1,h2,h3⟩:=key;exact⟨ov,m',hc,h1,h2,h3⟩
theorem uA(hX:cV X){l:List UW}{v:aed}(h:cJ m l v)(hP:cF (bR l))(id:Int):
  ∃F m',C X (.func 98) [.agg #[v],.int .i64 id] m m.n (.tuple #[F,.bool (cM (bR l) id).isSome]) m'/\Ext m m'/\xX m' (cM (bR l) id) F:=by obtain⟨F,m',h1,h2,h3, -⟩:=Cq hX h hP id;exact⟨F,m',h1,h2,h3⟩
theorem FL(hX:cV X){l:List UW}{v:aed}(h:cJ m l v)(hP:cF (bR l))(behind:Bool):
  ∃v' m',C X (.func 11) [.agg #[v],.bool behind] m m.n (.tuple #[qO 40 40 v',.int .i64 0]) m'/\Ext m m'/\Ow m.n m' (dh (bR l) behind) v':=by
 have hl:l.length<=12:=by have:=hP.len;rwa[dE]at this
 have key:∃rv m' b,C X (.func 11) [.agg #[v],.bool behind] m b rv m'/\b=m.n/\∃v',rv=.tuple #[qO 40 40 v',.int .i64 0]/\Ext m m'/\Ow m.n m' (dh (bR l) behind) v':=by
  refine Cl.heap (R:=λrv m' b=>b=m.n/\∃v',rv=.tuple #[qO 40 40 v',.int .i64 0]/\Ext m m'/\Ow m.n m' (dh (bR l) behind) v') (hX.no _ rfl) VE rfl ?_;rw[F11];dsimp only[aI,δ,θ,ι,ο,ς,υ,φ,χ,ψ];refine au λm1 v0 o0 q0=>?_;refine au λm2 z0 r0 e0=>?_;have g0:Ext m m2:=⟨by omega,λc hc=>by rw[e0 c (by omega),q0 c hc]⟩
  have g1:m2.get m.n=.cells [v] 31 none:=by rw[e0 _ (by omega)];exact o0
  have hF:=h.aD g0;unfold ptrTo;have ld:ah TE m2 31 (aeb m.n 0)=some (.agg #[v]):=by rw[dp,aJ g1 (by simp)];rfl
  rw[ld,ae];refine az (mA hX hF (by omega)) ?_;rw[jk hP,bM,ae,an,aal,aM,ld,ae];obtain⟨v',A0,hc,F,ho⟩:=rR (m:=m2) hX (us:=bR l) (behind:=behind) (hF.sl.PY hF.sh) (λu hu=>dP (hP.val u hu)) (by rw[dE];omega);refine az hc ?_;have B0:=F.n;have a0:=F.cells r0;have i0:one v'=true:=ho.sl.one;refine aC uR a0 rfl rfl (by show(true && (true && (one v' && true)))=true;rw[i0];rfl) λj0 u0 k0 b0=>?_;have e2:ah TE j0 27 (aeb m1.n 0)=some (qO 40 40 v'):=by rw[kh,aJ k0 (by simp[bB])];rfl
  rw[e2,ae]
  have d0:Ow m2.n j0 (dh (bR l) behind) v':=ho.bH λb c t g hb ht=>by
   by_cases l0:b=m1.n
   ·subst l0;rw[a0]at hb;cases hb;simp[aP.ty,aP.fx]at ht
   rw[b0 b l0,hb]
  have s0:dh (bR l) behind≠ []:=λe=>by have:=congrArg List.length e;unfold dh at this;rw[e9]at this;simp at this
  refine⟨.inl ?_,by omega,v',rfl,⟨by omega,λc hc=>by rw[b0 c (by omega),F.get c (by omega),g0.get c hc]⟩,d0.mono (by omega)⟩;rcases d0 with⟨_,h0⟩ |⟨b,cs,rfl,_⟩;·exact absurd h0 s0
  simp[aO,bP,gI,cy,qO]
 obtain⟨rv,m',b,hc,rfl,v',rfl,h1,h2⟩:=key;exact⟨v',m',hc,h1,h2⟩
end
section
open Go Go.D Go.sd
theorem rG{l:List Pl}{p:Pl}:∀{n:Nat},0<=kR l p n->∀i a b,i < n->l[i]?=some a->l[(i+1)%l.length]?=some b->0<=dL a b p
 |0,_,i,a,b,hi,_,_=>by omega
 |n+1,h,i,a,b,hi,F,hb=>by
  by_cases e:i=n
  ·subst e
   rw[kR,F,hb]at h
   have h:0<=min (kR l p i) (dL a b p):=h
   omega
  ·refine rG (n:=n) ?_ i a b (by omega) F hb
   rw[kR]at h
   split at h
   ·omega
   ·exact h
theorem Nb{l:List Pl}:∀(n k:Nat) (q:Pl),k < n->n<=l.length->l[k]?=some q->(fq l n).x<=q.x/\(fq l n).y<=q.y/\q.x<=(gh l n).x/\q.y<=(gh l n).y
 |0,k,q,hk,_,_=>by omega
 |n+1,k,q,hk,hn,hq=>by
  obtain⟨p,F⟩:∃p,l[n]?=some p:=⟨_,Φ (by omega)⟩
  rw[qF F,qG F]
  by_cases e:k=n
  ·subst e
   rw[hq]at F;cases F
   dsimp only
   omega
  ·have:=Nb n k q (by omega) (by omega) hq
   dsimp only
   omega
theorem Pv{l:List Pl}{x y:Int}(h:0<=ka l x y):xM l ⟨x,y⟩=true:=by
 unfold ka at h;split at h
 ·rename_i hc;simp only[Ψ]at hc;have hv:=hc.1.1
  have hs:0<=kR (l.map Pl.FQ) ⟨2*x+1,2*y+1⟩ (l.map Pl.FQ).length:=by
   unfold Fa kj at h;split at h;·omega
   omega
  have hp:∀f∈oC l,0<=f.dot ⟨2*x+1,2*y+1,2⟩:=by
   intro f hf;obtain⟨i,hi,rfl⟩:=jt.1 hf;have hm:(i+1)%l.length < l.length:=ab7 _ (by omega);have:=rG hs i (hH l i).FQ (hH l ((i+1)%l.length)).FQ (by rw[aaB];exact hi) (by rw[aaA,mJ hi];rfl) (by rw[aaB,aaA,mJ hm];rfl)
   have e:dL (hH l i).FQ (hH l ((i+1)%l.length)).FQ ⟨2*x+1,2*y+1⟩=2*(fj l i).dot ⟨2*x+1,2*y+1,2⟩:=by
    unfold dL fj jZ V.dot Pl.FQ
    grind
   omega
  have F:∀g:V,(∀q∈l,g.dot q.h<=0)->g.dot ⟨2*x+1,2*y+1,2⟩<=0:=λg hg=>yL hv (p:=⟨2*x+1,2*y+1,2⟩) hg (show(0:Int)< 2 by decide) hp
  have hb:∀q∈l,(fq l l.length).x<=q.x/\(fq l l.length).y<=q.y/\q.x<=(gh l l.length).x/\q.y<=(gh l l.length).y:=λq hq=>by obtain⟨k,hk⟩:=aaN hq;exact Nb _ k q (Ω.1 hk).1 (Ξ _) hk
  have h1:=F ⟨1,0, -(gh l l.length).x⟩ λq hq=>by have:=hb q hq;unfold V.dot Pl.h;dsimp only;omega
  have h2:=F ⟨-1,0,(fq l l.length).x⟩ λq hq=>by have:=hb q hq;unfold V.dot Pl.h;dsimp only;omega
  have h3:=F ⟨0,1, -(gh l l.length).y⟩ λq hq=>by have:=hb q hq;unfold V.dot Pl.h;dsimp only;omega
  have h4:=F ⟨0, -1,(fq l l.length).y⟩ λq hq=>by have:=hb q hq;unfold V.dot Pl.h;dsimp only;omega
  unfold V.dot at h1 h2 h3 h4;dsimp only at h1 h2 h3 h4;unfold xM;simp only[Ψ,aaC];omega
 omega
theorem Pp{u:Un}{x y:Int}:nE u ⟨x,y⟩=true↔0<=ka u.shape x y:=by unfold nE;simp only[Ψ,aaC];exact⟨λh=>h.2,λh=>⟨Pv h,h⟩⟩
theorem cF.find{us:List Un}(h:cF us){u:Un}(hu:u∈us):cM us u.id=some u:=by obtain⟨i,hi⟩:=aaN hu;exact oy h hi
theorem cF.US{us:List Un}(h:cF us){u:Un}(hu:u∈us):0<=u.id/\u.id<=99:=by have:=h.val u hu;simp only[lq,eA,Ψ,aaC]at this;omega
def XU(us:List Un)(x y:Int):Bool:=us.any λw=>decide (0<=ka w.shape x y)
structure Shows(us:List Un)(x y:Int)(front back:Int):Prop where
 n1:(cM us front).isSome=decide (0<=front)
 n2:(cM us back).isSome=decide (0<=back)
 same:(cM us front).isSome=(cM us back).isSome
 any:(cM us front).isSome=XU us x y
 out:∀w∈us,ka w.shape x y < 0->w.id≠front/\w.id≠back
 best:∀w∈us,0<=ka w.shape x y->∃u v,cM us front=some u/\cM us back=some v/\¬u.front < w.front/\(w.front=u.front->front<=w.id)/\¬w.back < v.back/\(w.back=v.back->back<=w.id)
theorem Ci{g:Nat->Nat->Int}{w x:Nat}(hx:x < w):∀{h y:Nat},y < h->(jX g w h)[y*w+x]?=some (g x y)
 |h+1,y,hy=>by
  rw[qw]
  by_cases e:y=h
  ·subst e
   rw[aa1 (by rw[e9];omega),e9,acE]
   unfold tR
   rw[aaA,adT hx];rfl
  ·have F:y*w+x < h*w:=by
    have:(y+1)*w<=h*w:=aaD _ (by omega)
    rw[aao,abg]at this
    omega
   rw[aa9 (by rw[e9];exact F)]
   exact Ci hx (by omega)
theorem HG{g:Nat->Nat->Int}{w h:Nat}{n:Int}(F:n∈jX g w h):∃i j,n=g i j:=by unfold jX at F;rw[List.mem_flatMap]at F;obtain⟨j,_,F⟩:=F;unfold tR at F;rw[aaU]at F;obtain⟨i,_,rfl⟩:=F;exact⟨i,j,rfl⟩
theorem qy{F:Un->Un->Bool}:∀(L:List Un) (o:Option Un) (u:Un),dO F L o=some u->o=some u\/u∈L
 |[],o,u,h=> .inl h
 |x::L,none,u,h=>by
  rcases qy L (some x) u h with h |h
  ·cases h;exact .inr aaP
  ·exact .inr (aaZ _ h)
 |x::L,some b,u,h=>by
  rcases qy L _ u h with h |h
  ·by_cases hb:F x b=true
   ·rw[aaf hb]at h;cases h;exact .inr aaP
   ·rw[aaa hb]at h;exact .inl h
  ·exact .inr (aaZ _ h)
theorem MG{us:List Un}(h:cF us)(b:Bool)(x y:Int): -1<=gP us b x y/\gP us b x y<=99:=by
 have key:∀(F:Un->Un->Bool) (q:Pl), -1<=Uf (dO F (rT us q) none)/\Uf (dO F (rT us q) none)<=99:=by
  intro F q
  cases e:dO F (rT us q) none with
  |none=>exact⟨aci _,by decide⟩
  |some u=>
   rcases qy _ _ _ e with h1 |h1;·cases h1
   have:=h.US (abn.1 h1).1;show -1<=u.id/\u.id<=99;omega
 unfold gP;split;·exact key _ _
 exact key _ _
theorem tC{us:List Un}(h:cF us)(b:Bool):Ip 40 40 (dh us b)=true:=by
 unfold Ip;have F:(dh us b).length=1600:=by unfold dh;rw[e9]
 simp only[Ψ,aaC];refine⟨⟨⟨by decide,by decide⟩,by rw[F];decide⟩,?_⟩;rw[aba,abF];intro n hn;obtain⟨i,j,rfl⟩:=HG hn;have:=MG h b i j;simp only[eA,aba,abI,Ψ,aaC,adx,Bool.and_eq_false_iff,aby];simp;omega
end
section
variable {X:aG} {m:M}
section
variable {α:Type} [aP α] {T:TypeId} {ti:TI}
theorem Dq{x:α}{cs:aee}{b:Nat}{g:Option Nat}(h:m.get b=.cells cs (aP.ty α) g)(F:aP.rep m x cs):Sl m [x] (aec b 0 1 1):=
 .inr ⟨b,0,1,_,g,rfl,h,by rw[aP.len F];simp,λi y hi=>by
  match i with
  |0=>
   cases hi
   have hl:=aP.len F
   rw[ab0,aaq,aa0,<-hl,abB]
   exact F
  |i+1=>cases hi⟩
theorem Ch{m m1:M}{e k sl sc F:Nat}{base:Option Addr}{news:aee}{v':aed}(h:kT m e k base sl sc F news=some (v',m1)):v'=aec m.n 0 F F:=by
 unfold kT at h;split at h
 ·cases hb:(Nat.beq sl 0 && Nat.beq sc 0)with
  |true=>rw[hb,cond_true]at h;cases h;rfl
  |false=>rw[hb,cond_false]at h;cases h
 split at h
 ·rename_i a _ _ c te g iG _ _
  cases h1:(g.isNone ||(g==some k && Nat.blt (a.off+sc*k) c.length))with
  |true=>rw[h1,cond_true]at h;cases h;rfl
  |false=>
   rw[h1,cond_false]at h
   cases h2:(g==some k && Nat.beq a.off 0 && a.spot.isNone && Nat.beq (sl*k) c.length && Nat.beq sc sl && Nat.beq te e)with
   |true=>rw[h2,cond_true]at h;cases h;rfl
   |false=>rw[h2,cond_false]at h;cases h
 cases h
theorem rY{E:Env}{m m1:M}{T U:TypeId}{sl F n:Nat}{base:Option Addr}{x v':aed}(h:av E (m.wl m.n) .append [T,U] [.slice base sl F,x]=some (v',m1))(hn:iS x=some n)(d0:F < sl+n):
  v'=aec m.n 0 (sl+n) (sl+n):=by
 have h:dQ E (m.wl m.n) T U (.slice base sl F) x=some (v',m1):=h;unfold dQ at h;rw[hn]at h;split at h
 ·rename_i ti ui a0 e0 g0 n' _ _ hs b0;cases hs;cases b0;split at h;·cases h
  ·rename_i e _ _
   cases h1:E.ty.get e with
   |none=>simp only[h1]at h;cases h
   |some ei=>
    cases h2:first? (m.wl m.n) ti.es n x with
    |none=>simp only[h1,h2]at h;cases h
    |some news=>
     simp only[h1,h2]at h
     cases h3:(Nat.beq ti.es 0 ||Nat.blt 65536 ei.bytes || !news.all one ||Nat.blt 268435456 (sl+n) || !Nat.beq news.length (n*ti.es) || !fL ei.zero ti.es)with
     |true=>rw[h3,cond_true]at h;cases h
     |false=>
      rw[h3,cond_false]at h
      have h4:Nat.ble (sl+n) F=false:=by
       cases hb:Nat.ble (sl+n) F with
       |false=>rfl
       |true=>have:=aar hb;omega
      rw[h4,cond_false]at h;exact(Ch h).trans rfl
  cases h
 cases h
theorem QT(hT:AF TE T α)(e0:aP.fx α=[])(t1:TE.ty.get T=some ti)(t2:ti.size=1){n1 oc o:Nat}{cs:aee}{tc:TypeId}{g:Option Nat}{r a:aed}{x:α}{m1:M}{acc:List α}
  (hc:m.get oc=.cells cs tc g) (ho:cs[o]?=some r) (l0:oc < n1) (hn:n1<=m.n) (hw:Ow n1 m acc r) (hx:Ext m m1) (hs:Sl m1 [x] a) (s0:acc.length < 1000000):
  ∃F m2 m3,((∃k,F=aec m1.n 0 k k)/\∀c,c < m1.n->c≠oc->(∀ad n k,r=.slice (some ad) n k->c≠ad.block)->m3.get c=m1.get c)/\av TE (M.wl m1 (M.n m1)) .append [T,T] [r,a]=some (F,m2)/\aA TE m2 T (aeb oc o) F=some (m3,oc)/\n1<=m2.low/\m3.get oc=.cells (cs.set o F) tc g/\Ow n1 m3 (acc++ [x]) F/\m1.n<=m3.n/\(∀c,c < n1->c≠oc->m3.get c=m.get c)/\(∀c,c < m1.n->c≠oc->(∀cs g,m1.get c≠.cells cs (aP.ty α) g)->m3.get c=m1.get c):=by
 have u0:=M.aL hc;have v0:=hx.n;have g0:=hw.aD hx;obtain⟨F,m2,e1,h1,h2,h3,h4⟩:=g0.append hT (by rw[e0];simp) hs (by omega) (by simp;omega);have o0:=h2.n;have g2:m2.get oc=.cells cs tc g:=by rw[h2.get _ l0,hx.cells hc]
 have h0:o < cs.length:=(Ω.1 ho).1;have i0:=nK (E:=TE) (o:=o) (x:=F) t1 g2 (by rw[h1.sl.cells,t2];rfl) (by rw[h1.sl.cells];simp;omega) (by rw[h1.sl.cells];simp[h1.sl.one])
 have j0:cs.take o++(cells F++cs.drop (o+(cells F).length))=cs.set o F:=by rw[h1.sl.cells];exact ir h0
 rw[j0]at i0;have hk:∀c,c≠oc->(m2.set oc (.cells (cs.set o F) tc g)).get c=m2.get c:=λc hc=>M.cL hc
 have q0:∃k,F=aec m1.n 0 k k:=by
  obtain⟨ba,bc,rfl⟩:=hs.form;rcases hw with⟨rfl,_⟩ |⟨b,r0,rfl,_⟩;·exact⟨_,rY e1 rfl (by simp)⟩
  exact⟨_,rY e1 rfl (by simp)⟩
 refine⟨F,m2,_,⟨q0,λc a0 b0 d0=>by rw[hk c b0,iX e1 a0 d0]⟩,e1,i0,h3,M.cY (M.aL g2),h1.FA e0 λc a0 b0=>hk c (by omega),?_,λc a0 b0=>?_,λc a0 b0 d0=>?_⟩
 ·show m1.n<=m2.n;exact o0
 ·rw[hk c b0,h2.get c a0,hx.get c (by omega)]
 rw[hk c b0,iX e1 a0 λad n k e he=>?_];obtain⟨r0,g',k0,_⟩:=Bu g0 e;rw[<-he]at k0;exact d0 _ _ k0
theorem UG(hT:AF TE T α)(a0:aP.fx α=[])(t1:TE.ty.get T=some ti)(t2:ti.size=1){n1 oc o:Nat}{cs:aee}{tc:TypeId}{g:Option Nat}{r a:aed}{x:α}{m1:M}{acc:List α}
  (hc:m.get oc=.cells cs tc g) (ho:cs[o]?=some r) (b0:oc < n1) (hn:n1<=m.n) (hw:Ow n1 m acc r) (hx:Ext m m1) (hs:Sl m1 [x] a) (d0:acc.length < 1000000):
  ∃r' m2 F,av TE (M.wl m1 (M.n m1)) .append [T,T] [r,a]=some (r',m2)/\aA TE m2 T (aeb oc o) r'=some (F,oc)/\n1<=m2.low/\F.get oc=.cells (cs.set o r') tc g/\Ow n1 F (acc++ [x]) r'/\m1.n<=F.n/\(∀c,c < n1->c≠oc->F.get c=m.get c)/\(∀c,c < m1.n->c≠oc->(∀cs g,m1.get c≠.cells cs (aP.ty α) g)->F.get c=m1.get c):=by obtain⟨r',m2,F,_,h⟩:=QT hT a0 t1 t2 hc ho b0 hn hw hx hs d0;exact⟨r',m2,F,h⟩
end
structure Fc where
 un:Int
 side:Int
deriving DecidableEq
abbrev Fc.c(f:Fc):aee:=[.int .i64 f.un,.int .i64 f.side]
abbrev Fc.v(f:Fc):aed:=.agg (f.c).toArray
instance:aP Fc where
 ty:=107
 sz:=2
 agg:=true
 fx:=[]
 rep _ f cs:=cs=f.c
 pos:=by decide
 one:=by intro h;cases h
 len:=by rintro _ _ _ rfl;rfl
 kN:=by rintro _ _ _ rfl;rfl
 bH:=by rintro _ _ _ _ rfl _;rfl
end
section
def UI(p q:Pl):Int:=if kj p.x q.x=0 then kj p.y q.y else kj p.x q.x
def nz(p q:Pl):Pl:=if UI q p < 0 then q else p
def Rn(p q:Pl):Pl:=if UI q p < 0 then p else q
def WI(l:List Pl)(i:Nat):Pl:=hH l ((i+1)%l.length)
structure Ct where
 a:Int
 b:Int
 p:Pl
 q:Pl
 back:Int
 front:Int
deriving DecidableEq
structure SeamP(a b:List Pl)(P Q:Pl):Prop where
 ne:P≠Q
 va:bI a=true
 vb:bI b=true
 ea:∃i,i < a.length/\dL (hH a i) (WI a i) P=0/\dL (hH a i) (WI a i) Q=0
 eb:∃k,k < b.length/\dL (hH b k) (WI b k) P=0/\dL (hH b k) (WI b k) Q=0
end
section
section
variable (us:List Un) (cts:List Ct) (u:Un)
end
section
variable {us:List Un} {cts:List Ct} {u v:Un}
end
end
section
variable {X:aG} {m:M}
abbrev Ct.c'(x:Ct):aee:=[.int .i64 x.a,.int .i64 x.b,.int .i64 x.p.x,.int .i64 x.p.y,.int .i64 x.q.x,.int .i64 x.q.y,.int .i64 x.back,.int .i64 x.front]
abbrev Ct.v(x:Ct):aed:=.agg (x.c').toArray
abbrev Ct.zc:aee:=[.int .i64 0,.int .i64 0,.int .i64 0,.int .i64 0,.int .i64 0,.int .i64 0,.int .i64 0,.int .i64 0]
instance:aP Ct where
 ty:=115
 sz:=8
 agg:=true
 fx:=[]
 rep _ x cs:=cs=x.c'
 pos:=by decide
 one:=by intro h;cases h
 len:=by rintro _ _ _ rfl;rfl
 kN:=by rintro _ _ _ rfl;rfl
 bH:=by rintro _ _ _ _ rfl _;rfl
structure Mk where
 id:Int
 un:Int
 side:Int
 kind:Int
 Kw:Bool
deriving DecidableEq
abbrev Mk.c(x:Mk):aee:=[.int .i64 x.id,.int .i64 x.un,.int .i64 x.side,.int .i64 x.kind,.bool x.Kw]
abbrev Mk.v(x:Mk):aed:=.agg (x.c).toArray
instance:aP Mk where
 ty:=89
 sz:=5
 agg:=true
 fx:=[]
 rep _ x cs:=cs=x.c
 pos:=by decide
 one:=by intro h;cases h
 len:=by rintro _ _ _ rfl;rfl
 kN:=by rintro _ _ _ rfl;rfl
 bH:=by rintro _ _ _ _ rfl _;rfl
theorem eU:uF TE 58 89 Mk:=⟨ag.t58,ag.t89,by kernel_rfl,⟨_,rfl⟩,rfl,by kernel_rfl,rfl,rfl⟩
theorem Aw:AF TE 58 Mk:=⟨ag.t58,ag.t89,by kernel_rfl,rfl,rfl,by kernel_rfl,by decide,rfl⟩
structure Lf where
 side:Int
 size:Int
 depth:Int
 ts:List Int
 ms:List Int
structure LW where
 l:Lf
 tv:aed
 mv:aed
abbrev LW.c(x:LW):aee:=[.int .i64 x.l.side,.int .i64 x.l.size,.int .i64 x.l.depth,x.tv,x.mv]
abbrev LW.v(x:LW):aed:=.agg (x.c).toArray
theorem LW.eN{x:LW}(F:one x.tv=true)(h2:one x.mv=true):(x.c).all one=true:=by show(true && (true && (true && (one x.tv && (one x.mv && true)))))=true;rw[F,h2];rfl
instance:aP LW where
 ty:=105
 sz:=5
 agg:=true
 fx:=[]
 rep _ x cs:=cs=x.c/\one x.tv=true/\one x.mv=true
 pos:=by decide
 one:=by intro h;cases h
 len:=by rintro _ _ _ ⟨rfl,_⟩;rfl
 kN:=by rintro _ x _ ⟨rfl,h1,h2⟩;exact LW.eN h1 h2
 bH:=by rintro _ _ _ _ h _;exact h
structure XW(m:M)(l:List LW)(v:aed):Prop where
 sl:Sl m l v
 ts:∀x∈l,Sl m x.l.ts x.tv
 ms:∀x∈l,Sl m x.l.ms x.mv
theorem XW.aD{l:List LW}{v:aed}{m':M}(h:XW m l v)(hx:Ext m m'):XW m' l v:=⟨h.sl.aD hx,λx F=>(h.ts x F).aD hx,λx F=>(h.ms x F).aD hx⟩
end
end Go.Proofs.YtmdfgncoekfgdaaGreatDoor
namespace Go.D
open Go
section
section
variable {P:Program} {σ:Sg} {m:M} {w w':World}
theorem Ev.Ra(h:dY P σ m w){g:Nat}{gr:Option (Nat×Nat×Nat)}{ob:Ob}(hk:∀B,B < w.heap.size->w'.heap[B]?=w.heap[B]?)(hle:w.heap.size<=w'.heap.size)(hg:w.heap.size<=g)(i0:g < w'.heap.size)
  (hh:Holds (σ.add m.n ⟨g,gr⟩) ⟨g,gr⟩ w' ob) (ho:w'.os=w.os) (ht:w'.tape=w.tape) (hu:w'.output=w.output):Ev P σ m w (σ.add m.n ⟨g,gr⟩) (m.push ob) w':=by
 have hn:=h.jh;have hl:=Sg.qs (i:=⟨g,gr⟩) hn
 have a0:∀b i,(σ.add m.n ⟨g,gr⟩) b=some i->(b=m.n/\i=⟨g,gr⟩)\/(b≠m.n/\σ b=some i):=by
  intro b i F;unfold Sg.add at F;by_cases b0:b=m.n;·rw[aaf b0]at F;exact .inl ⟨b0,by injection F with F;exact F.symm⟩
  rw[aaa b0]at F;exact .inr ⟨b0,F⟩
 have j0:(m.push ob).n=m.n+1:=rfl;refine⟨hl,⟨?_,?_,?_,?_,λg hg=>hl g _ (h.jE g hg)⟩,Ξ _,by omega,hle,?_,?_,λB hB _=>hk B hB,ho,ht,hu⟩
 ·intro b i F;rcases a0 b i F with⟨rfl,_⟩ |⟨_,F⟩;·omega
  have:=h.nG b i F;omega
 ·intro b i F;rw[M.fH];rcases a0 b i F with⟨rfl,rfl⟩ |⟨e0,F⟩;·rw[aaf rfl];exact hh
  rw[aaa e0];exact(h.obj b i F).bH hl (hk _ (h.lt b i F))
 ·intro b i F;rcases a0 b i F with⟨_,rfl⟩ |⟨_,F⟩;·exact i0
  have:=h.lt b i F;omega
 ·intro b b' i i' F d0 hd g0 he;rw[M.fH]at hd g0;rcases a0 b i F with⟨rfl,rfl⟩ |⟨e0,F⟩ <;>rcases a0 b' i' d0 with⟨rfl,rfl⟩ |⟨h0,d0⟩
  ·rfl
  ·have:=h.lt b' i' d0;dsimp only at he;omega
  ·have:=h.lt b i F;dsimp only at he;omega
  rw[aaa e0]at hd;rw[aaa h0]at g0;exact h.inj b b' i i' F d0 hd g0 he
 ·intro b i F hs;rcases a0 b i F with⟨rfl,rfl⟩ |⟨_,F⟩;·exact⟨Ξ _,.inl hg⟩
  rw[hs]at F;cases F
 intro b _ F;rw[M.fH,aaa (by omega)]
theorem Ev.kept(h:dY P σ m w)(hk:∀B,B < w.heap.size->w'.heap[B]?=w.heap[B]?)(hle:w.heap.size<=w'.heap.size)(ho:w'.os=w.os)(ht:w'.tape=w.tape)(hu:w'.output=w.output):Ev P σ m w σ m w':=⟨λ_ _ x=>x,⟨h.nG,λb i F=>(h.obj b i F).bH (λ_ _ x=>x) (hk _ (h.lt b i F)),λb i F=>acf (h.lt b i F) hle,h.inj,h.jE⟩,Ξ _,Ξ _,hle,λb i x y=>(by rw[x]at y;cases y),λ_ _ _=>rfl,λB hB _=>hk B hB,ho,ht,hu⟩
def ins(x:Int):List Int->List Int
 |[]=> [x]
 |y::l=>bif x<=y then x::y::l else y::ins x l
def Qc:List Int->List Int
 |[]=> []
 |x::l=>ins x (Qc l)
end
end
section
section
variable {P:Program} {σ:Sg} {m m':M} {w w':World}
theorem LK.GS{b:Nat}{cs:aee}{e:TypeId}{g:Option Nat}{o:Ob}(h:m.get b=.cells cs e g):LK m (m.set b o):=λc r F=>by
 have hb:b < m.n:=M.kV (by rw[h];simp)
 have a0:c≠b:=λq=>by subst q;rw[h]at F;cases F
 exact⟨r,by rw[M.cD _ _ _ _ hb,aaa a0];exact F⟩
variable {α:Type}
structure Srt(α:Type) where
 S:Nat
 k:Nat
 dec:aee->Option α
 enc:α->aee
 res:List α->List α
 ok:aee->Bool
structure SrtOK(P:Program)(N:Srt α):Prop where
 FK:∀args w,(callFunc N.S args).run P w=.ok (.enter N.S args) w
 dec:∀cs x,N.dec cs=some x->cs=N.enc x
 flat:∀x,(N.enc x).all cy=true
 len:∀x,(N.enc x).length=N.k
 res:∀l,(N.res l).length=l.length
 more:∀more,N.ok more=true->more.all cy=true
 go:∀(more:aee) (dg off cap:Nat) (l:List α) (w:World),N.ok more=true->Sort.Holds id w dg off (l.flatMap N.enc).toArray->dg < w.heap.size->l.length<=1048576->
  Calls P N.S (.slice (some ⟨dg,off,none⟩) l.length cap::more).toArray w λe w'=>e=.returned (.tuple #[])/\∃n os,w'=Sort.grow (Sort.putRow id (Sort.ahead w n) dg off ((N.res l).flatMap N.enc).toArray) os
 none:∀(more:aee) (w:World),N.ok more=true->Calls P N.S (.slice none 0 0::more).toArray w λe w'=>e=.returned (.tuple #[])/\w'=w
end
end
end Go.D
namespace Go.Proofs.YtmdfgncoekfgdaaGreatDoor
section
variable {X:aG} {m:M}
end
section
variable {X:aG} {m:M}
structure SrtP(X:aG)(sc:List Ct->List Ct):Prop where
 perm:∀l,(sc l).Perm l
 pl:∀(m:M) (b:Nat) (p q:Pl),m.get b=.cells (p.c++q.c) 98 none->C X (.func 367) [.slice (some ⟨b,0,none⟩) 2 2,.func (.func 331) #[] #[]] m b (.tuple #[]) (m.set b (.cells ((nz p q).c++(Rn p q).c) 98 none))
 ct:∀(m:M) (n1:Nat) (l:List Ct) (v:aed),n1<=m.n->Ow n1 m l v->l.length<=1000->∃m' b,C X (.func 183) [v,.func (.func 184) #[] #[]] m b (.tuple #[]) m'/\Ow n1 m' (sc l) v/\n1<=b/\m'.n=m.n/\∀c,(∀a n k,v=.slice (some a) n k->c≠a.block)->m'.get c=m.get c
 int:∀(m:M) (n1:Nat) (l:List Int) (v:aed),n1<=m.n->Ow n1 m l v->l.length<=1000->∃m' b,C X (.func 103) [v] m b (.tuple #[]) m'/\Ow n1 m' (Qc l) v/\n1<=b/\m'.n=m.n/\∀c,(∀a n k,v=.slice (some a) n k->c≠a.block)->m'.get c=m.get c
end
section
variable {X:aG} {m:M}
end
section
variable {X:aG} {m:M}
end
section
end
section
variable {X:aG} {m:M}
end
section
variable {X:aG} {m:M}
theorem _root_.Go.D.Sl.Au{l:List Int}{v:aed}(h:Sl m l v){i:Nat}{n:Int}(hi:l[i]?=some n){k:IntKind}:∃a,ak TE 25 v (.int k i)=some a/\ah TE m 3 a=some (.int .i64 n):=by obtain⟨a,cs,h1,F,h3⟩:=h.index lC (k:=k) hi;rw[show cs=[.int .i64 n]from h3]at F;exact⟨a,h1,F⟩
theorem _root_.Go.D.CR.Au{l:List Int}{v:aed}(h:CR m l v){i:Nat}{n:Int}(hi:l[i]?=some n){k:IntKind}:∃a,ak TE 25 v (.int k i)=some a/\ah TE m 3 a=some (.int .i64 n):=by obtain⟨a,cs,h1,F,h3⟩:=h.index lC (k:=k) hi;rw[show cs=[.int .i64 n]from h3]at F;exact⟨a,h1,F⟩
end
section
variable {X:aG} {m:M}
end
section
variable {X:aG} {m:M}
end
section
section
variable {W:Words}{x0 x1 x2 x3 x4 x5 x6 x7:aed}{m:M}{R RP:aee->M->Nat->Prop}{CP:Fn->aee->M->(M->Nat->Prop)->Prop}
theorem YD:dm TE W Tryz.f261 [x0,x1,x2] m R=W.jn (λa=>η W .leq 3 x1 x0 λb=>bD b (η W .leq 3 x0 x2 λb=>a [b] m m.n) (a [aei] m m.n)) (λa b c=>W.un a λa _=>R [a] b c):=by kernel_rfl
theorem YL:dm TE W Tryz.f248 [x0] m R=ψ W 261 [x0,χ 0,χ 99] m λa b c=>R [a] b (min m.n c):=by kernel_rfl
theorem YW:dm TE W Tryz.f210 [x0] m R=ς W m x0 89 λa=>W.jn (λb=>ε W 89 (φ m) 0 λc=>δ W a 3 c λc=>ψ W 261 [c,χ 0,χ 99] a λa c d=>bD a (ε W 89 (φ m) 1 λa=>δ W c 3 a λa=>ψ W 248 [a] c λa c f=>bD a (ε W 89 (φ m) 2 λa=>δ W c 3 a λa=>ψ W 261 [a,χ (-2),χ 7] c λa c g=>bD a (ε W 89 (φ m) 3 λa=>δ W c 3 a λa=>ψ W 261 [a,χ 1,χ 5] c λa c h=>b [a] c (min (min (min (min m.n d) f) g) h)) (b [aei] c (min (min (min m.n d) f) g))) (b [aei] c (min (min m.n d) f))) (b [aei] c (min m.n d))) (λa b c=>W.un a λa _=>R [a] b c):=by kernel_rfl
theorem Wc:dm TE W Tryz.f156 [x0] m R=ς W m x0 60 λa=>ε W 60 (φ m) 1 λb=>δ W a 58 b λb=>κ W a .len [58] [b] λc _=>W.Lp (λa d f g=>W.un d λd h=>W.un h λh i=>W.un i λi _=>η W .lss 3 i c λc=>bD c (ζ W 58 b i λb=>δ W f 89 b λb=>υ W f [χ 0,χ 0,χ 0,χ 0,aei] 89 λc=>ι W c 89 (φ f) b λb c=>ε W 60 (φ m) 0 λj=>δ W b 31 j λj=>ε W 89 (φ f) 1 λk=>δ W b 3 k λk=>ψ W 98 [j,k] b λb j k=>ξ W b 0 λl=>ξ W b 1 λb=>υ W j [χ 0,χ 0,χ 0,aeg,χ 0,χ 0] 87 λn=>ι W n 87 (φ j) l λl n=>W.jn (λa=>ο W .not b λb=>bD b (a [aeh] l (min (min (min g c) k) n)) (δ W l 89 (φ f) λb=>ψ W 210 [b] l λb d i=>ο W .not b λb=>bD b (a [aeh] d (min (min (min (min g c) k) n) i)) (ε W 89 (φ f) 0 λb=>δ W d 3 b λb=>η W .leq 3 b h λb=>bD b (a [aeh] d (min (min (min (min g c) k) n) i)) (ε W 89 (φ f) 2 λb=>δ W d 3 b λb=>ε W 87 (φ j) 3 λf=>δ W d 45 f λf=>κ W d .len [45] [f] λf _=>η W .geq 3 b f λb=>a [b] d (min (min (min (min g c) k) n) i))))) (λb c g=>W.un b λb _=>bD b (R [aei] c g) (ε W 89 (φ f) 0 λb=>δ W c 3 b λb=>η W .add 3 i (χ 1) λf=>a [d,b,f] c g))) (ε W 60 (φ m) 1 λa=>δ W f 58 a λa=>κ W f .len [58] [a] λa _=>η W .leq 3 a (χ 20) λa=>R [a] f g)) [aei,χ (-1),χ 0] a m.n:=by kernel_rfl
theorem F99:dm TE W Tryz.f99 [x0] m R=ς W m x0 60 λa=>W.jn (λb=>ε W 60 (φ m) 0 λc=>δ W a 31 c λc=>ψ W 59 [c] a λa c d=>bD a (δ W c 60 (φ m) λa=>ψ W 156 [a] c λa c f=>b [a] c (min (min m.n d) f)) (b [aei] c (min m.n d))) (λa b c=>W.un a λa _=>R [a] b c):=by kernel_rfl
theorem F95:dm TE W Tryz.f95 [x0,x1] m R=η W .lss 3 x0 (χ 0) λa=>bD a (η W .add 3 x0 (χ 1) λa=>ο W .neg a λa=>η W .rem 3 a x1 λa=>R [a] m m.n) (η W .rem 3 x0 x1 λa=>R [a] m m.n):=by kernel_rfl
theorem F96:dm TE W Tryz.f96 [x0,x1] m R=ς W m x1 89 λa=>W.Lp (λa b c d=>W.un b λb f=>W.un f λf g=>W.un g λg h=>W.un h λh i=>W.un i λi _=>κ W c .len [58] [x0] λj _=>η W .lss 3 i j λj=>bD j (ζ W 58 x0 i λj=>ε W 89 j 0 λj=>δ W c 3 j λj=>ε W 89 (φ m) 0 λk=>δ W c 3 k λk=>η W .eql 3 j k λj=>bD j (R [aeg,aei] c d) (W.jn (λa=>ο W .not h λb=>bD b (ζ W 58 x0 i λb=>ε W 89 b 0 λb=>δ W c 3 b λb=>ε W 89 (φ m) 0 λf=>δ W c 3 f λf=>η W .gtr 3 b f λb=>a [b] c d) (a [aei] c d)) (λc d j=>W.un c λc _=>bD c (δ W d 89 (φ m) λc=>ν W d 58 1 [(0,c)] λc d=>κ W (M.wl d d.n) .append [58,58] [g,c] λc d=>ζ W 58 x0 i λg=>δ W d 89 g λg=>ν W d 58 1 [(0,g)] λg h=>κ W (M.wl h h.n) .append [58,58] [c,g] λc g=>η W .add 3 i (χ 1) λh=>a [b,f,c,aeh,h] g (min (min j (M.low d)) (M.low g))) (ζ W 58 x0 i λc=>δ W d 89 c λc=>ν W d 58 1 [(0,c)] λc d=>κ W (M.wl d d.n) .append [58,58] [g,c] λc d=>η W .add 3 i (χ 1) λg=>a [b,f,c,h,g] d (min j (M.low d)))))) (ο W .not h λa=>bD a (δ W c 89 (φ m) λa=>ν W c 58 1 [(0,a)] λa b=>κ W (M.wl b b.n) .append [58,58] [g,a] λa b=>R [a,aeh] b (min d (M.low b))) (R [g,aeh] c d))) [aeg,aei,aeg,aei,χ 0] a m.n:=by kernel_rfl
theorem F34:dm TE W Tryz.f34 [x0] m R=ς W m x0 57 λa=>υ W a [aeg,aeg] 60 λb=>ε W 57 (φ m) 0 λc=>δ W b 22 c λc=>ψ W 9 [c] b λb c d=>θ W 60 [(0,b)] λb=>υ W c [aeg,aeg] 60 λf=>ι W f 60 (φ c) b λb f=>W.Lp (λb d f g=>W.un d λd _=>W.jn (λa=>ε W 57 (φ m) 1 λb=>δ W f 55 b λb=>κ W f .len [55] [b] λb _=>η W .lss 3 d b λb=>bD b (η W .lss 3 d (χ 8) λb=>bD b (ε W 60 (φ c) 0 λb=>ε W 31 b 0 λb=>δ W f 29 b λb=>κ W f .len [29] [b] λb _=>η W .gtr 3 b (χ 0) λb=>a [b] f g) (a [aei] f g)) (a [aei] f g)) (λf g h=>W.un f λf _=>bD f (ε W 57 (φ m) 1 λa=>δ W g 55 a λa=>ζ W 55 a d λa=>δ W g 166 a λa=>υ W g [χ 0,χ 0,χ 0,χ 0] 166 λf=>ι W f 166 (φ g) a λa f=>ε W 60 (φ c) 0 λi=>ε W 31 i 0 λi=>δ W a 29 i λi=>ζ W 166 (φ g) (χ 1) λj=>δ W a 3 j λj=>ε W 60 (φ c) 0 λk=>ε W 31 k 0 λk=>δ W a 29 k λk=>κ W a .len [29] [k] λk _=>ψ W 95 [j,k] a λj k l=>(a.n<=l)/\(ζ W 29 i j λa=>δ W k 87 a λa=>υ W k [χ 0,χ 0,χ 0,aeg,χ 0,χ 0] 87 λi=>ι W i 87 (φ k) a λa i=>ζ W 166 (φ g) (χ 0) λj=>δ W a 3 j λj=>ψ W 95 [j,χ 12] a λj n o=>(a.n<=o)/\(ε W 87 (φ k) 0 λa=>δ W n 3 a λa=>ζ W 166 (φ g) (χ 2) λp=>δ W n 3 p λp=>ε W 87 (φ k) 3 λk=>δ W n 45 k λk=>κ W n .len [45] [k] λk _=>η W .add 3 k (χ 2) λk=>ψ W 95 [p,k] n λk p q=>(n.n<=q)/\(η W .sub 3 k (χ 2) λk=>ζ W 166 (φ g) (χ 3) λn=>δ W p 3 n λn=>ψ W 95 [n,χ 5] p λn r s=>(p.n<=s)/\(η W .add 3 (χ 1) n λn=>ζ W 166 (φ g) (χ 3) λg=>δ W r 3 g λg=>ψ W 95 [g,χ 2] r λg p t=>(r.n<=t)/\(η W .eql 3 g (χ 0) λg=>θ W 89 [(0,j),(1,a),(2,k),(3,n),(4,g)] λa=>υ W p [χ 0,χ 0,χ 0,χ 0,aei] 89 λg=>ι W g 89 (φ p) a λa g=>ε W 60 (φ c) 1 λj=>δ W a 58 j λj=>δ W a 89 (φ p) λk=>ψ W 96 [j,k] a λa j k=>ξ W a 0 λn=>ξ W a 1 λa=>bD a (ε W 60 (φ c) 1 λa=>ι W j 58 a n λa c=>η W .add 3 d (χ 1) λd=>b [d] a (min (min (min (min (min (min (min (min (min (min h f) l) i) o) q) s) t) g) k) c)) (η W .add 3 d (χ 1) λa=>b [a] j (min (min (min (min (min (min (min (min (min h f) l) i) o) q) s) t) g) k)))))))) (δ W g 60 (φ c) λb=>ι W g 60 (φ a) b λb c=>aj (ah TE b 60 (φ a)) λa=>R [a] b (min h c)))) [χ 0] b (min (min m.n d) f):=by kernel_rfl
end
end
section
variable {X:aG} {m:M}
theorem gF(hX:cV X)(n lo hi:Int):C X (.func 261) [.int .i64 n,.int .i64 lo,.int .i64 hi] m m.n (.bool (eA n lo hi)) m:=by
 refine Cl.flat (hX.no _ rfl) R0 rfl rfl ?_;rw[YD];dsimp only[aI,η];refine cG (λvs m2 F=>vs=[.bool (eA n lo hi)]/\m.n<=F) (λR hR=>?_) ?_
 ·simp only[dj,ae,an];refine aq (λh=>hR _ _ _ ⟨by simp[eA,h],Ξ _⟩) (λh=>hR _ _ _ ⟨by simp[eA,h],Ξ _⟩)
 rintro _ m2 F ⟨rfl,hl⟩;rw[aH];exact⟨rfl,hl⟩
theorem mr(F:cV X)(n:Int):C X (.func 248) [.int .i64 n] m m.n (.bool (eA n 0 99)) m:=by refine Cl.flat (F.no _ rfl) R5 rfl rfl ?_;rw[YL];dsimp only[aI,χ,ψ];refine az (gF F _ _ _) ?_;exact⟨rfl,by omega⟩
theorem zO{b:Nat}{x:Mk}{g:Option Nat}(h:m.get b=.cells x.c 89 g):
  ah TE m 3 (aeb b (0+0))=some (.int .i64 x.id)/\ah TE m 3 (aeb b (0+1))=some (.int .i64 x.un)/\ah TE m 3 (aeb b (0+2))=some (.int .i64 x.side)/\
  ah TE m 3 (aeb b (0+3))=some (.int .i64 x.kind)/\ah TE m 89 (aeb b 0)=some x.v:=by
 refine⟨?_,?_,?_,?_,?_⟩;·rw[cd,aF h];rfl
 ·rw[cd,aF h];rfl
 ·rw[cd,aF h];rfl
 ·rw[cd,aF h];rfl
 rw[zV,aJ (o:=0) (n:=5) h (by show 0+5<=5;exact Ξ _)];rfl
def zP(x:Mk):Bool:=eA x.id 0 99 && eA x.un 0 99 && eA x.side (-2) 7 && eA x.kind 1 5
theorem sQ(F:cV X)(x:Mk):C X (.func 210) [x.v] m m.n (.bool (zP x)) m:=by
 refine Cl.flat (F.no _ rfl) Sf rfl rfl ?_;rw[YW];dsimp only[aI,δ,ε,ς,φ,χ,ψ];refine au λm1 d0 b0 e0=>?_;have g1:m1.get m.n=.cells x.c 89 none:=b0;obtain⟨k0,k1,k2,k3, -⟩:=zO g1;unfold ptrTo;refine cG (λvs m2 a0=>vs=[.bool (zP x)]/\m.n<=a0) (λR hR=>?_) ?_
 ·rw[cH,ae,k0,ae];refine az (gF F _ _ _) ?_;rw[an];refine aq (λh0=>?_) (λh0=>hR _ _ _ ⟨by unfold zP;rw[h0];rfl,by omega⟩);rw[fW,ae,k1,ae];refine az (mr F _) ?_;rw[an];refine aq (λh1=>?_) (λh1=>hR _ _ _ ⟨by unfold zP;rw[h0,h1];rfl,by omega⟩);rw[kX,ae,k2,ae];refine az (gF F _ _ _) ?_;rw[an];refine aq (λh2=>?_) (λh2=>hR _ _ _ ⟨by unfold zP;rw[h0,h1,h2];rfl,by omega⟩);rw[wB,ae,k3,ae];refine az (gF F _ _ _) ?_;exact hR _ _ _ ⟨by unfold zP;rw[h0,h1,h2];rfl,by omega⟩
 rintro _ m2 a0 ⟨rfl,hl⟩;rw[aH];exact⟨rfl,hl⟩
structure pF(us:List Un)(ms:List Mk):Prop where
 len:ms.length<=20
 IP:ms.Pairwise λa b=>a.id < b.id
 ok:∀x∈ms,zP x=true
 un:∀x∈ms,∃u∈us,u.id=x.un/\x.side < u.shape.length
theorem _root_.Go.D.Sl.FY{l:List Mk}{v:aed}(h:Sl m l v){i:Nat}{x:Mk}(hi:l[i]?=some x){k:IntKind}:∃a,ak TE 58 v (.int k i)=some a/\ah TE m 89 a=some x.v:=by obtain⟨a,cs,h1,h2,F⟩:=h.index eU (k:=k) hi;have F:cs=x.c:=F;subst F;exact⟨a,h1,h2⟩
def mo(ms:List Mk):Nat->Int
 |0=> -1
 |i+1=>match ms[i]? with |some x=>x.id |none=> -1
theorem Hw(hX:cV X){l:List UW}{v vm:aed}{ms:List Mk}(h:cJ m l v)(hP:cF (bR l))(hm:Sl m ms vm)(hM:pF (bR l) ms):C X (.func 156) [.agg #[v,vm]] m m.n aeh m:=by
 have Y0:=hM.len;refine Cl.flat (hX.no _ rfl) Mv rfl rfl ?_;rw[Wc];dsimp only[aI,δ,ε,ζ,η,ι,κ,ξ,ο,ς,υ,φ,χ,ψ];refine au λm1 a1 I0 J0=>?_;have g1:m1.get m.n=.cells [v,vm] 60 none:=I0;have e0:Ext m m1:=⟨by omega,J0⟩
 unfold ptrTo;have r0:∀mm:M,mm.get m.n=.cells [v,vm] 60 none->ah TE mm 58 (aeb m.n (0+1))=some vm:=λmm hh=>by rw[pj,aF hh];rfl
 have K0:∀mm:M,mm.get m.n=.cells [v,vm] 60 none->ah TE mm 31 (aeb m.n (0+0))=some (.agg #[v]):=λmm hh=>by rw[dp,aJ (n:=1) hh (by show 0+0+1<=2;decide)];rfl
 rw[bX,ae,r0 m1 g1,ae,(hm.aD e0).len eU,aE];refine Lp.intro (γ:=Nat) (λi=>ms.length-i) (λi vs mm lo=>vs=[aei,.int .i64 (mo ms i),.int .i64 i]/\i<=ms.length/\Ext m1 mm/\m.n<=lo) 0 ⟨rfl,aaQ _,.refl,Ξ _⟩ ?_;rintro i vs mm lo ⟨rfl,hi,hx,L0⟩;rw[aH,aH,aH,aX,ae,an];have c1:=hx.n;refine aq (λg0=>?_) (λM0=>?_)
 ·have g0:i < ms.length:=by simpa using g0
  obtain⟨x,h0⟩:∃a,ms[i]?=some a:=⟨_,Φ g0⟩
  have k0:=aac h0;obtain⟨u,hu,hid,N0⟩:=hM.un x k0
  have O0:cM (bR l) x.un=some u:=by obtain⟨j,hj⟩:=aaN hu;rw[<-hid];exact oy hP hj
  obtain⟨q,e1,e2⟩:=((hm.aD e0).aD hx).FY (k:=.i64) h0;rw[e1,ae,e2,ae];refine au λd1 S0 s0 u0=>?_;refine aC AR s0 rfl rfl rfl λi0 T0 v0 z0=>?_;have a0:Ext mm i0:=⟨by omega,λb hb=>by rw[z0 b (by omega),u0 b hb]⟩
  have j0:i0.get mm.n=.cells x.c 89 none:=v0;have A0:=a0.cells (hx.cells g1);rw[bK,ae,K0 i0 A0,ae,fW,ae,(zO j0).2.1,ae];obtain⟨ov,B0,hc,b0,C0⟩:=uA (m:=i0) hX (h.aD ((e0.trans hx).trans a0)) hP x.un;refine az hc ?_;rw[O0]at C0⊢;obtain⟨w,rfl,hw⟩:=C0;rw[cp,cp];simp only[aad,aah,ae];refine au λi1 U0 D0 E0=>?_;refine aC ep D0 rfl rfl (Un.eN hw.one) λl0 V0 F0 G0=>?_;have d0:Ext B0 l0:=⟨by omega,λb hb=>by rw[G0 b (by omega),E0 b hb]⟩
  have H0:l0.get B0.n=.cells (u.c w) 87 none:=F0;have F:=d0.cells (b0.cells j0);have P0:=b0.n;refine cG (λvs m' lo=>vs=[aei]/\m'=l0/\m.n<=lo) (λR hR=>?_) ?_
  ·rw[bM,ae,an];show Ce false _ _;rw[aM,(zO F).2.2.2.2,ae];refine az (sQ hX x) ?_;rw[hM.ok x k0,bM,ae,an];show Ce false _ _;rw[aM,cH,ae,(zO F).1,ae,dj,ae,an]
   have o0:¬x.id<=mo ms i:=by
    cases i with
    |zero=>have:=hM.ok x k0;unfold zP eA at this;simp only[Ψ,aaC]at this;show¬x.id<= -1;omega
    |succ j=>
     obtain⟨y,hy⟩:∃a,ms[j]?=some a:=⟨_,Φ (by omega)⟩
     have e:mo ms (j+1)=y.id:=by show(match ms[j]? with |some x=>x.id |none=> -1)=y.id;rw[hy]
     rw[e];have h1:=(Ω.1 hy)
     have h2:=(Ω.1 h0)
     have:=abH.1 hM.IP j (j+1) (by omega) g0 (by omega);rw[h1.2,h2.2]at this;omega
   rw[aat o0,aM,kX,ae,(zO F).2.2.1,ae,bA,ae,(pV H0).2.2.2.1,ae,(hw.aD d0).len dS,aE,cO,ae];exact hR _ _ _ ⟨by rw[aat (by omega)],rfl,by omega⟩
  rintro _ j1 X0 ⟨rfl,rfl,q0⟩;rw[aH,an,aM,cH,ae,(zO F).1,ae,aQ,ae,wrap64 (by omega) (by omega)];exact⟨i+1,by omega,by simp[mo,h0],by omega,((hx.trans a0).trans b0).trans d0,q0⟩
 have Q0:i=ms.length:=by
  have:¬(i:Int)< (ms.length:Int):=by simpa using M0
  omega
 subst Q0;rw[ae,r0 mm (hx.cells g1),ae,((hm.aD e0).aD hx).len eU,aE,dj,ae];refine⟨?_,L0⟩;rw[aaX (by omega)];rfl
theorem IA(hX:cV X){l:List UW}{v vm:aed}{ms:List Mk}(h:cJ m l v)(hP:cF (bR l))(hm:Sl m ms vm)(hM:pF (bR l) ms):C X (.func 99) [.agg #[v,vm]] m m.n aeh m:=by
 have hlen:l.length<=12:=by have:=hP.len;rw[dE]at this;exact this
 refine Cl.flat (hX.no _ rfl) Vg rfl rfl ?_;rw[F99];dsimp only[aI,δ,ε,ς,φ,ψ];refine au λm1 e0 a0 b0=>?_;have g1:m1.get m.n=.cells [v,vm] 60 none:=a0;have F:Ext m m1:=⟨by omega,b0⟩
 unfold ptrTo;refine cG (λvs m' lo=>vs=[aeh]/\m.n<=lo) (λR hR=>?_) ?_
 ·rw[bK,ae,show ah TE m1 31 (aeb m.n (0+0))=some (.agg #[v]) by rw[dp,aJ (n:=1) g1 (by show 0+0+1<=2;decide)];rfl,ae];refine az (mA hX (h.aD F) (by omega)) ?_;rw[jk hP,an,bU,show ah TE m1 60 (aeb m.n 0)=some (.agg #[v,vm]) by rw[ph,aJ (n:=2) g1 (by show 0+2<=2;decide)];rfl,ae];refine az (Hw hX (h.aD F) hP (hm.aD F) hM) ?_;exact hR _ _ _ ⟨rfl,by omega⟩
 rintro _ m' lo ⟨rfl,d0⟩;rw[aH];exact⟨rfl,d0⟩
end
section
variable {X:aG} {m:M}
theorem cK(F:cV X){c n:Int}(hc:lu c)(hn:0 < n):C X (.func 95) [.int .i64 c,.int .i64 n] m m.n (.int .i64 (cU c n)) m:=by refine Cl.flat (F.no _ rfl) Vj rfl rfl ?_;rw[F95];dsimp only[aI,η,ο,χ];exact yO hc hn (P:=λv=>aO [v]=.int .i64 (cU c n)/\m.n<=m.n) ⟨rfl,Ξ _⟩
structure I4 where
 a:Int
 b:Int
 c:Int
 d:Int
def I4.c'(x:I4):aee:=[.int .i64 x.a,.int .i64 x.b,.int .i64 x.c,.int .i64 x.d]
def I4.ok(x:I4):Prop:=lu x.a/\lu x.b/\lu x.c/\lu x.d
instance:aP I4 where
 ty:=166
 sz:=4
 agg:=true
 fx:=[]
 rep _ x cs:=cs=x.c'
 pos:=by decide
 one:=by intro h;cases h
 len:=by rintro _ _ _ rfl;rfl
 kN:=by rintro _ _ _ rfl;rfl
 bH:=by rintro _ _ _ _ rfl _;rfl
theorem Ka:uF TE 55 166 I4:=⟨ag.t55,ag.t166,by kernel_rfl,⟨_,rfl⟩,rfl,by kernel_rfl,rfl,rfl⟩
theorem UU{l:List I4}{v:aed}(h:CR m l v){i:Nat}{x:I4}(hx:l[i]?=some x):∃p,ak TE 55 v (.int .i64 i)=some p/\ah TE m 166 p=some (.agg x.c'.toArray):=by obtain⟨p,cs,e1,e2,F⟩:=h.index Ka (k:=.i64) hx;have F:cs=x.c':=F;subst F;exact⟨p,e1,e2⟩
theorem ON{b o:Nat}{k:IntKind}{i:Nat}(hi:i < 4):ak TE 166 (aeb b o) (.int k i)=some (aeb b (o+i)):=by rcases(show i=0\/i=1\/i=2\/i=3 by omega)with rfl |rfl |rfl |rfl <;>kernel_rfl
def mu(ms:List Mk)(x:Mk):List Mk:=(ms.filter λy=>decide (y.id < x.id))++x::(ms.filter λy=>decide (x.id < y.id))
def jv(ms:List Mk)(x:Mk):List Mk:=(ms.filter λy=>decide (y.id < x.id))++(if(ms.filter λy=>decide (x.id < y.id))=[]then []else x::(ms.filter λy=>decide (x.id < y.id)))
theorem Az{ms:List Mk}{x y:Mk}(a0:y.id≠x.id)(F:∀z∈ms,z.id < y.id):
  jv (ms++ [y]) x=if(ms.filter λz=>decide (x.id < z.id))=[]/\x.id < y.id then jv ms x++ [x]++ [y]else jv ms x++ [y]:=by
 unfold jv;rw[abY,abY];by_cases h:x.id < y.id
 ·have h2:¬y.id < x.id:=by omega
  simp only[abf,aaX h,aat h2,adF,abJ,abq,if_false,abk,h,and_true];by_cases he:(ms.filter λz=>decide (x.id < z.id))=[]
  ·rw[he];simp
  rw[aaa he,aaa (by simp),aaa he];simp
 have h2:y.id < x.id:=by omega
 have he:(ms.filter λz=>decide (x.id < z.id))=[]:=by rw[acr];intro z hz;have:=F z hz;simp;omega
 simp only[abf,aat h,aaX h2,adF,abJ,abq,if_false,h,and_false,he];simp
theorem CO(ms:List Mk)(x:Mk):(jv ms x).length<=ms.length+1:=by
 unfold jv
 have:(ms.filter λy=>decide (y.id < x.id)).length+(ms.filter λy=>decide (x.id < y.id)).length<=ms.length:=by
  induction ms with
  |nil=>simp
  |cons a r ih=>
   simp only[abf];by_cases h:a.id < x.id
   ·have:¬x.id < a.id:=by omega
    simp[h,this];omega
   by_cases F:x.id < a.id;·simp[h,F];omega
   simp[h,F];omega
 split;·rw[abk];omega
 rw[aam,aaJ];omega
theorem OD{ms:List Mk}{x:Mk}:mu ms x=if(ms.filter λy=>decide (x.id < y.id))=[]then jv ms x++ [x]else jv ms x:=by
 unfold mu jv;split;·rename_i h;rw[h];simp
 rfl
theorem wk(ms:List Mk)(x:Mk):(mu ms x).length<=ms.length+1:=by
 have:(ms.filter λy=>decide (y.id < x.id)).length+(ms.filter λy=>decide (x.id < y.id)).length<=ms.length:=by
  induction ms with
  |nil=>simp
  |cons a r ih=>
   simp only[abf];by_cases h:a.id < x.id
   ·have:¬x.id < a.id:=by omega
    simp[h,this];omega
   by_cases F:x.id < a.id;·simp[h,F];omega
   simp[h,F];omega
 unfold mu;rw[aam,aaJ];omega
theorem OC{us:List Un}{ms:List Mk}{x:Mk}(h:pF us ms)(hl:ms.length < 20)(hx:zP x=true)(hu:∃u∈us,u.id=x.un/\x.side < u.shape.length):pF us (mu ms x):=by
 have hm:∀y∈mu ms x,y=x\/y∈ms:=by
  intro y F;unfold mu at F;rw[aaR,aaS,abn,abn]at F;rcases F with h |h |h;·exact .inr h.1
  ·exact .inl h
  exact .inr h.1
 refine⟨by have:=wk ms x;omega,?_,λy F=>?_,λy F=>?_⟩
 ·unfold mu;rw[adb,acw];refine⟨h.IP.filter _,⟨λz hz=>by simpa using(abn.1 hz).2,h.IP.filter _⟩,λa ha b hb=>?_⟩;have ha:a.id < x.id:=by simpa using(abn.1 ha).2
  rcases aaS.1 hb with rfl |hb;·exact ha
  have hb:x.id < b.id:=by simpa using(abn.1 hb).2
  omega
 ·rcases hm y F with rfl |F;·exact hx
  exact h.ok y F
 rcases hm y F with rfl |F;·exact hu
 exact h.un y F
theorem KA{x:Mk}:aK TE m 58 1 [(0,x.v)]=some (.slice (some ⟨m.n,0,none⟩) 1 1,m.push (.cells x.c 89 none)):=by kernel_rfl
theorem push_mk{n1:Nat}{acc:List Mk}{r:aed}{x:Mk}(hw:Ow n1 m acc r)(hn:n1<=m.n)(d0:acc.length < 1000){P:M->aed->Prop}
  (hP:∀r' m2,Ow n1 m2 (acc++ [x]) r'->m.n<=m2.n->(∀c,c < n1->m2.get c=m.get c)->n1<=m2.low->P m2 r'):
  aT (aK TE m 58 1 [(0,x.v)]) λa m1=>aT (av TE (M.wl m1 (M.n m1)) .append [58,58] [r,a]) λr' m2=>P m2 r':=by
 rw[KA,aE];obtain⟨m1,F⟩:∃y,y=m.push (.cells x.c 89 none):=⟨_,rfl⟩
 rw[<-F];have a0:Ext m m1:=by rw[F];exact Ext.refl.push
 have e0:m1.n=m.n+1:=by rw[F];rfl
 have b0:m1.get m.n=.cells x.c 89 none:=by rw[F];exact M.bJ
 obtain⟨r',m2,e1,h1,h2,h3,h4⟩:=(hw.aD a0).append Aw (by simp[aP.fx]) (Dq b0 rfl) (by omega) (by simp;omega);rw[e1,aE];exact hP r' m2 h1 (by have:=h2.n;omega) (λc hc=>by rw[h2.get c hc,a0.get c (by omega)]) h3
theorem Nk(hX:cV X){ms:List Mk}{vm:aed}{x:Mk}(hm:Sl m ms vm)(I0:ms.Pairwise λa b=>a.id < b.id)(hl:ms.length<=20):
  ∃m' r b,C X (.func 96) [vm,x.v] m m.n (.tuple #[r,.bool b]) m'/\Ext m m'/\(b=true->Ow m.n m' (mu ms x) r):=by
 have key:=Cl.gen (E:=TE) (X:=X) (f:=96) (args:=[vm,x.v]) (m:=m) (R:=λv' m' b=>b=m.n/\Ext m m'/\∃r b,v'=.tuple #[r,.bool b]/\(b=true->Ow m.n m' (mu ms x) r)) (hX.no _ rfl) Vi rfl ?_
 ·obtain⟨v',m',b,hc,rfl,hx,r,b',rfl,h⟩:=key;exact⟨m',r,b',hc,hx,h⟩
 rw[F96];dsimp only[aI,δ,ε,ζ,η,κ,ν,ο,ς,φ,χ];refine au λm1 r1 Q0 S0=>?_;have g1:m1.get m.n=.cells x.c 89 none:=Q0;have C0:Ext m m1:=⟨by omega,S0⟩
 unfold ptrTo;refine Lp.intro (γ:=Nat) (λi=>ms.length-i) (λi vs mm lo=>∃r,vs=[aeg,aei,r,.bool (!decide (((ms.take i).filter λy=>decide (x.id < y.id))=[])),.int .i64 i]/\i<=ms.length/\m1.n<=mm.n/\(∀c,c < m1.n->mm.get c=m1.get c)/\m.n<=lo/\Ow m1.n mm (jv (ms.take i) x) r/\∀y∈ms.take i,y.id≠x.id) 0 ⟨_,rfl,aaQ _,Ξ _,λ_ _=>rfl,Ξ _,Ow.nil,λy hy=>(by simp at hy)⟩ ?_;rintro i vs mm lo ⟨r,rfl,hi,j0,h0,D0,k0,J0⟩;have E0:Sl mm ms vm:=(hm.aD C0).aD ⟨j0,h0⟩;have gx:mm.get m.n=.cells x.c 89 none:=by rw[h0 _ (by omega),g1]
 rw[aH,aH,aH,aH,aH,E0.len eU,aE,aX,ae,an];have K0:=CO (ms.take i) x;rw[aap]at K0;refine aq (λu0=>?_) (λT0=>?_)
 ·have u0:i < ms.length:=by simpa using u0
  obtain⟨y,r0⟩:∃a,ms[i]?=some a:=⟨_,Φ u0⟩
  obtain⟨b0,o0,bc,g0,cs,e0,L0,F0,_,U0⟩:=E0.lU eU (k:=.i64) r0;have F0:cs=y.c:=F0;subst F0
  have G0:∀z∈ms.take i,z.id < y.id:=by
   intro z hz;obtain⟨j,hj⟩:=aaN hz
   have M0:j < i:=by have:=(Ω.1 hj).1;rw[aap]at this;omega
   rw[aaI M0]at hj;have h1:=Ω.1 hj;have h2:=Ω.1 r0;have:=abH.1 I0 j i h1.1 u0 M0;rw[h1.2,h2.2]at this;exact this
  obtain⟨a0,V0,ly⟩:=E0.FY (k:=.i64) r0;obtain rfl:a0=aeb b0 o0:=Option.some.inj (V0.symm.trans e0);have hid:bc[o0+0]?=some (.int .i64 y.id):=by rw[U0 0 (by decide)];rfl
  have v0:ms.take (i+1)=ms.take i++ [y]:=by rw[abo,r0];rfl
  rw[e0,ae,cH,ae,show ah TE mm 3 (aeb b0 (o0+0))=some (.int .i64 y.id) by rw[cd,aF L0,hid],ae,cH,ae,(zO gx).1,ae,aY,ae,an];refine aq (λheq=>?_) (λheq=>?_);·exact .inl ⟨rfl,D0,rfl,.refl,_,_,rfl,λh=>by cases h⟩
  have heq:y.id≠x.id:=abv heq;have d0:=Az heq G0;rw[<-v0]at d0;refine cG (λvs m' X0=>vs=[.bool (decide (((ms.take i).filter λz=>decide (x.id < z.id))=[]/\x.id < y.id))]/\m'=mm/\m.n<=X0) (λR hR=>?_) ?_
  ·rw[bM,ae,an,ade];refine aq (λh=>?_) (λh=>?_)
   ·have h:=abe h
    rw[ae,cH,ae,show ah TE mm 3 (aeb b0 (o0+0))=some (.int .i64 y.id) by rw[cd,aF L0,hid],ae,ae,(zO gx).1,ae,dq,ae]
    refine hR _ _ _ ⟨?_,rfl,D0⟩
    congr 2
    rw[decide_eq_decide]
    exact⟨λq=>⟨h,q⟩,λq=>q.2⟩
   have h:=abv h;refine hR _ _ _ ⟨?_,rfl,D0⟩;rw[aat λq=>h q.1]
  rintro _ N0 p1 ⟨rfl,rfl,Y0⟩;rw[aH,an]
  have s0:∀F:M,(∀c,c < m1.n->F.get c=N0.get c)->m1.n<=F.n->ah TE F 89 (aeb b0 o0)=some y.v:=λF hk H0=>by have c1:Sl F ms vm:=(hm.aD C0).aD ⟨H0,λc hc=>by rw[hk c hc,h0 c hc]⟩;obtain⟨a1,e1,l1⟩:=c1.FY (k:=.i64) r0;obtain rfl:a1=aeb b0 o0:=Option.some.inj (e1.symm.trans e0);exact l1
  have B0:∀z∈ms.take (i+1),z.id≠x.id:=by
   intro z hz;rw[v0,aaR,abu]at hz;rcases hz with hz |rfl;·exact J0 z hz
   exact heq
  refine aq (λh=>?_) (λh=>?_)
  ·have h:=abe h;rw[aaf h]at d0;rw[(zO gx).2.2.2.2,ae];refine push_mk (x:=x) k0 j0 (by omega) λz0 A0 l0 O0 q0 P0=>?_;rw[ae,s0 A0 q0 (by omega),ae];refine push_mk (x:=y) l0 (by omega) (by rw[aam,List.length_singleton];omega) λd1 s1 i1 u1 j1 v1=>?_;rw[aQ,ae,wrap64 (by omega) (by omega)];refine⟨i+1,by omega,d1,?_,by omega,by omega,λc hc=>by rw[j1 c hc,q0 c hc,h0 c hc],by omega,?_,B0⟩;·rw[v0,abY,aat (by simp[h.2])];rfl
   rw[d0];exact i1
  have h:=abv h;rw[aaa h]at d0;rw[ae,s0 N0 (λ_ _=>rfl) j0,ae];refine push_mk (x:=y) k0 j0 (by omega) λz0 A0 l0 O0 q0 P0=>?_;rw[aQ,ae,wrap64 (by omega) (by omega)];refine⟨i+1,by omega,z0,?_,by omega,by omega,λc hc=>by rw[q0 c hc,h0 c hc],by omega,?_,B0⟩
  ·have e:decide (((ms.take (i+1)).filter λy=>decide (x.id < y.id))=[])=decide (((ms.take i).filter λy=>decide (x.id < y.id))=[]):=by rw[decide_eq_decide,v0,abY,adH];refine⟨λq=>q.1,λq=>⟨q,?_⟩⟩;have:¬x.id < y.id:=λq'=>h ⟨q,q'⟩;simp[this]
   rw[e];rfl
  rw[d0];exact l0
 have k1:i=ms.length:=by
  have:¬(i:Int)< (ms.length:Int):=by simpa using T0
  omega
 subst k1;rw[abB]at k0 J0⊢;rw[abB]at K0;have i0:= @OD ms x
 have fin:∀(F:M) (r':aed),Ow m1.n F (mu ms x) r'->m1.n<=F.n->(∀c,c < m1.n->F.get c=m1.get c)->bP (aO [r',aeh])=false/\Ext m F/\Ow m.n F (mu ms x) r':=λF r' hw H0 o1=>by
  refine⟨?_,C0.trans ⟨H0,o1⟩,hw.mono (by omega)⟩;rcases hw with⟨rfl,he⟩ |⟨b,cs,rfl,_⟩;·unfold mu at he;simp at he
  simp[aO,bP,gI,cy]
 rw[bM,ae,an,ade];refine aq (λh=>?_) (λh=>?_)
 ·have h:=abe h;rw[aaf h]at i0;rw[(zO gx).2.2.2.2,ae];refine push_mk (x:=x) k0 j0 (by omega) λz0 A0 l0 O0 q0 P0=>?_;rw[<-i0]at l0;obtain⟨f1,f2,f3⟩:=fin A0 z0 l0 (by omega) (λc hc=>by rw[q0 c hc,h0 c hc]);exact .inr ⟨.inl f1,by omega,f2,_,_,rfl,λ_=>f3⟩
 have h:=abv h;rw[aaa h]at i0;rw[<-i0]at k0;obtain⟨f1,f2,f3⟩:=fin mm r k0 j0 h0;exact .inr ⟨.inl f1,by omega,f2,_,_,rfl,λ_=>f3⟩
end
section
open Go Go.D Go.ChangeShapes Go.WideShapes Go.ChangeAt Go.RowKit
theorem NJ:Tryz.prog.underlying 55=some (.slice 166):=by kernel_rfl
theorem QG:Tryz.prog.underlying 166=some (.array 4 3):=by kernel_rfl
section
variable {H:Type} {enc:TypeId×aed->H} {W W':World} {sp:Nat->Bool} {held:Bool} {base:Nat}
theorem Pe:∀fuel cs x,DataW.trod enc Tryz.prog W 0 sp held fuel 166 cs=some x->∃y:I4,y.ok/\(∀m,aP.rep m y cs)/\∀u∈cs,cy u=true:=by
 intro fuel cs x h
 obtain⟨l,rfl,hl,F⟩:=zY QG (by kernel_rfl) h
 match l,hl,F with
 |[a,b,c,d],_,F=>refine⟨⟨a,b,c,d⟩,⟨F _ (by simp),F _ (by simp),F _ (by simp),F _ (by simp)⟩,λm=>rfl,λu hu=>?_⟩;obtain⟨z,_,rfl⟩:=aaU.1 hu;rfl
theorem DL{v:aed}{d:DataW H}{ps:List MemPlace}(i0:Value.okWide Tryz.prog W .any base 57 v)(h:DataW.Trod enc Tryz.prog W 0 sp held 57 v d ps):
  aS (uZ W) v v/\∃vb vk va,v=.agg #[vb,vk,va]/\(∃l:List I6,IE (fy W) l vb/\l.length < 9223372036854775808/\∀y∈l,y.ok)/\(∃l:List I4,IE (fy W) l vk/\l.length < 9223372036854775808/\∀y∈l,y.ok):=by
 have hu:=Tryz.underlying57
 have o0:Tryz.prog.cellTypes Tryz.prog.depth 57=some [22,55,22]:=by kernel_rfl
 have q0:Tryz.prog.cellsOf 57=3:=by kernel_rfl
 have c1:Tryz.prog.cellsOf 22=1:=by kernel_rfl
 have c2:Tryz.prog.cellsOf 55=1:=by kernel_rfl
 simp only[Value.okWide,hu]at i0
 obtain⟨cs,rfl,d0,ts,j0, -,F⟩:=i0
 rw[o0]at j0
 cases j0
 rw[q0]at d0
 obtain⟨cs⟩:=cs
 have d0:cs.length=3:=d0
 obtain⟨fuel,h⟩:=h
 obtain⟨xs,n,_,_,_,l0,g0⟩:=DataW.trod_struct hu h
 match cs,d0 with
 |[vb,vk,va],_=>
  have e0:=g0 0 _ rfl
  have e1:=g0 1 _ rfl
  have e2:=g0 2 _ rfl
  have l0:xs.length=3:=l0
  obtain⟨y0,r0⟩:∃y,xs[0]?=some y:=⟨_,Φ (by omega)⟩
  obtain⟨y1,s0⟩:∃y,xs[1]?=some y:=⟨_,Φ (by omega)⟩
  obtain⟨y2,u0⟩:∃y,xs[2]?=some y:=⟨_,Φ (by omega)⟩
  rw[r0]at e0
  rw[s0]at e1
  rw[u0]at e2
  replace e0:DataW.trod enc Tryz.prog W 0 sp held n 22 (([vb,vk,va].drop 0).take (Tryz.prog.cellsOf 22))=some y0:=e0
  rw[c1]at e0
  replace e0:DataW.trod enc Tryz.prog W 0 sp held n 22 [vb]=some y0:=e0
  replace e1:DataW.trod enc Tryz.prog W 0 sp held n 55 (([vb,vk,va].drop 1).take (Tryz.prog.cellsOf 55))=some y1:=e1
  rw[c2]at e1
  replace e1:DataW.trod enc Tryz.prog W 0 sp held n 55 [vk]=some y1:=e1
  replace e2:DataW.trod enc Tryz.prog W 0 sp held n 22 (([vb,vk,va].drop 2).take (Tryz.prog.cellsOf 22))=some y2:=e2
  rw[c1]at e2
  replace e2:DataW.trod enc Tryz.prog W 0 sp held n 22 [va]=some y2:=e2
  obtain⟨t0,h0,k0⟩:=F 0 vb rfl
  obtain⟨t1,h1,k1⟩:=F 1 vk rfl
  obtain⟨t2,h2,k2⟩:=F 2 va rfl
  cases h0;cases h1;cases h2
  obtain⟨a0,b0⟩:=Dr (α:=I6) (v:=vb) ET (by kernel_rfl) MH k0 e0
  obtain⟨a1,b1⟩:=Dr (α:=I4) (v:=vk) NJ (by kernel_rfl) Pe k1 e1
  obtain⟨a2,b2⟩:=Dr (α:=I6) (v:=va) ET (by kernel_rfl) MH k2 e2
  refine⟨.agg _ _ rfl λj x y hx hy=>?_,vb,vk,va,rfl,b0,b1⟩
  rw[hx]at hy
  cases hy
  match j,hx with
  |0,hx=>cases hx;exact a0
  |1,hx=>cases hx;exact a1
  |2,hx=>cases hx;exact a2
  |j+3,hx=>simp at hx
theorem NV{v:aed}{d:DataW H}{ps:List MemPlace}(hb:Below W.heap.size W W')(h:DataW.Trod enc Tryz.prog W 0 (λ_=>true) true 57 v d ps)(F:∀x∈ps,x.block < W.heap.size)(sp:Nat->Bool)(hs:∀x∈ps,sp x.block=true):DataW.Trod enc Tryz.prog W' 0 sp true 57 v d ps:=
 WideElems.Trod_stays laidOut (by kernel_rfl) (abe (by kernel_rfl)) h (λx hx=>hb.same (F x hx)) hs
end
end
section
open Go Go.D Go.ChangeShapes Go.WideShapes Go.ChangeAt Go.RowKit
section
variable {H:Type} {enc:TypeId×aed->H} {W W':World} {sp:Nat->Bool} {held:Bool} {base:Nat}
theorem QO{v:aed}{d:DataW H}{ps:List MemPlace}(a0:Value.okWide Tryz.prog W .any base 85 v)(h:DataW.Trod enc Tryz.prog W 0 sp held 85 v d ps):
  aS (uZ W) v v/\∃a b c d e f,v=.agg #[.int .i64 a,.int .i64 b,.int .i64 c,.int .i64 d,.int .i64 e,.int .i64 f]/\lu a/\lu b/\lu c/\lu d/\lu e/\lu f:=by
 simp only[Value.okWide,Jd]at a0
 obtain⟨cs,rfl,_⟩:=a0
 obtain⟨fuel,h⟩:=h
 obtain⟨l,hl,hn,F⟩:=zY Jd (by kernel_rfl) h
 obtain⟨cs⟩:=cs
 have b0:cs=l.map (.int .i64):=hl
 subst b0
 match l,hn,F with
 |[a,b,c,d,e,f],_,F=>exact⟨aS.jB rfl,a,b,c,d,e,f,rfl,F _ (by simp),F _ (by simp),F _ (by simp),F _ (by simp),F _ (by simp),F _ (by simp)⟩
theorem NU{v:aed}{d:DataW H}{ps:List MemPlace}(hb:Below W.heap.size W W')(h:DataW.Trod enc Tryz.prog W 0 (λ_=>true) true 85 v d ps)(F:∀x∈ps,x.block < W.heap.size)(sp:Nat->Bool)(hs:∀x∈ps,sp x.block=true):DataW.Trod enc Tryz.prog W' 0 sp true 85 v d ps:=
 WideElems.Trod_stays laidOut (by kernel_rfl) (abe (by kernel_rfl)) h (λx hx=>hb.same (F x hx)) hs
end
end
section
end
section
variable {X:aG} {m:M}
end
section
theorem cF.depth{us:List Un}(h:cF us){u:Un}(hu:u∈us):0<=u.back/\u.back < u.front/\u.front<=8:=by have:=h.val u hu;simp only[lq,eA,Ψ,aaC]at this;omega
end
section
def Pl.mv(F dy:Int)(p:Pl):Pl:=⟨p.x+F,p.y+dy⟩
def Un.mv(F dy:Int)(u:Un):Un:={u with shape:=u.shape.map (Pl.mv F dy)}
theorem zB{F dy:Int}(a b c:Pl):dL (a.mv F dy) (b.mv F dy) (c.mv F dy)=dL a b c:=by unfold dL Pl.mv;dsimp only;rw[show b.x+F-(a.x+F)=b.x-a.x by omega,show c.y+dy-(a.y+dy)=c.y-a.y by omega,show b.y+dy-(a.y+dy)=b.y-a.y by omega,show c.x+F-(a.x+F)=c.x-a.x by omega]
theorem QR{F dy:Int}{l:List Pl}{i:Nat}(hi:i < l.length):Dv (l.map (Pl.mv F dy)) i=Dv l i:=by
 have hm:(i+1)%l.length < l.length:=ab7 _ (by omega);have ha:l[i]?=some l[i]:=Φ hi;have hb:l[(i+1)%l.length]?=some l[(i+1)%l.length]:=Φ hm;rw[Bool.eq_iff_iff,mQ ha hb,mQ (l:=l.map (Pl.mv F dy)) (a:=Pl.mv F dy l[i]) (b:=Pl.mv F dy l[(i+1)%l.length]) (by rw[aaA,ha];rfl) (by rw[aaB,aaA,hb];rfl),aaB];constructor
 ·intro h k c hc;have:=h k (Pl.mv F dy c) (by rw[aaA,hc];rfl);rwa[zB]at this
 intro h k c hc;rw[aaA,aaj]at hc;obtain⟨c',a0,rfl⟩:=hc;rw[zB];exact h k c' a0
theorem IX{dx dy:Int}{l:List Pl}(h:bI l=true)(ho:(l.map (Pl.mv dx dy)).any Pl.off=false):bI (l.map (Pl.mv dx dy))=true:=by unfold bI at h⊢;simp only[Ψ,aaC]at h;obtain⟨⟨⟨h1,h2⟩,h3⟩,F⟩:=h;simp only[Ψ,aaC,aaB,ho];refine⟨⟨⟨h1,h2⟩,rfl⟩,?_⟩;unfold mF at F⊢;rw[aay]at F⊢;intro i hi;rw[aaB]at hi;rw[QR (ab3.1 hi)];exact F i hi
theorem QP{F dy:Int}{a b:List Pl}{i:Nat}:nO (a.map (Pl.mv F dy)) (b.map (Pl.mv F dy)) i=nO a b i:=by
 unfold nO
 rw[aaB,aaA,aaA]
 cases a[i]? with
 |none=>rfl
 |some p=>
  cases a[(i+1)%a.length]? with
  |none=>rfl
  |some q=>
   simp only[aag,List.any_map]
   congr 2
   funext c
   rw[Function.comp_apply,zB]
theorem zd{F dy:Int}{a b:List Pl}:dC (a.map (Pl.mv F dy)) (b.map (Pl.mv F dy))=dC a b:=by unfold dC;rw[aaB,show nO (a.map (Pl.mv F dy)) (b.map (Pl.mv F dy))=nO a b from funext λi=>QP]
theorem cF.mv{dx dy:Int}{us:List Un}(h:cF us)(ho:∀u∈us,(u.mv dx dy).shape.any Pl.off=false):cF (us.map (Un.mv dx dy)):=by
 have hv:∀u∈us,lq (u.mv dx dy)=true:=λu hu=>by have h1:=h.val u hu;have h2:=IX (dP h1) (ho u hu);unfold lq at h1⊢;simp only[Ψ]at h1⊢;exact⟨h1.1,h2⟩
 refine⟨by rw[aaB];exact h.len,λu hu=>?_,λi a b ha hb=>?_,λi k a b d0 ha hb=>?_⟩
 ·obtain⟨w,hw,rfl⟩:=aaU.1 hu;exact hv w hw
 ·rw[aaA,aaj]at ha hb;obtain⟨F,a0,rfl⟩:=ha;obtain⟨b',b0,rfl⟩:=hb;exact h.IP i F b' a0 b0
 rw[aaA,aaj]at ha hb;obtain⟨F,a0,rfl⟩:=ha;obtain⟨b',b0,rfl⟩:=hb;have h1:=h.apart i k F b' d0 a0 b0;have ma:=aac a0;have mb:=aac b0;unfold fE nF jb at h1⊢;rw[h.val F ma,h.val b' mb,dP (h.val F ma),dP (h.val b' mb)]at h1;rw[hv F ma,hv b' mb,dP (hv F ma),dP (hv b' mb),show(F.mv dx dy).shape=F.shape.map (Pl.mv dx dy)from rfl,show(b'.mv dx dy).shape=b'.shape.map (Pl.mv dx dy)from rfl,zd,zd];exact h1
end
section
variable {X:aG} {m:M}
theorem M7{a b c d:Int}{e:Bool}:aR TE 89 [(0,.int .i64 a),(1,.int .i64 b),(2,.int .i64 c),(3,.int .i64 d),(4,.bool e)]=some (Mk.mk a b c d e).v:=by kernel_rfl
theorem FG(mm:M):cJ mm [] aeg:=⟨.nil,λx F=>(by cases F),λx F=>(by cases F),.inl rfl⟩
theorem Mx{l:List UW}{n c:Nat}(h:cJ m l (.slice none n c)):l=[]/\n=0/\c=0:=by
 rcases h.sl with⟨h1,F⟩ |⟨b,o,c,bc,g,F,_⟩;·cases h1;exact⟨F,rfl,rfl⟩
 cases F
theorem Hy(hX:cV X){xs:List I6}{ks:List I4}{vb vk va:aed}(hv:CR m xs vb)(K1:∀x∈xs,x.ok)(hlen:xs.length < 9223372036854775808)(hk:CR m ks vk)(X0:∀x∈ks,x.ok)(L1:ks.length < 9223372036854775808):
  ∃l r ms vm m',C X (.func 34) [.agg #[vb,vk,va]] m m.n (.agg #[r,vm]) m'/\Ext m m'/\cJ m' l r/\cF (bR l)/\Sl m' ms vm/\pF (bR l) ms:=by
 have key:∃rv m' b,C X (.func 34) [.agg #[vb,vk,va]] m b rv m'/\b=m.n/\Ext m m'/\∃l r ms vm,rv=.agg #[r,vm]/\cJ m' l r/\cF (bR l)/\Sl m' ms vm/\pF (bR l) ms:=by
  refine Cl.gen (R:=λrv m' b=>b=m.n/\Ext m m'/\∃l r ms vm,rv=.agg #[r,vm]/\cJ m' l r/\cF (bR l)/\Sl m' ms vm/\pF (bR l) ms) (hX.no _ rfl) VB rfl ?_;rw[F34];dsimp only[aI,δ,ε,ζ,η,θ,ι,κ,ξ,ς,υ,φ,χ,ψ];refine au λm1 F2 N1 O1=>?_;refine au λm2 G2 P1 Y0=>?_;have O0:Ext m m2:=⟨by omega,λc hc=>by rw[Y0 c (by omega),O1 c hc]⟩
  have g1:m2.get m.n=.cells [vb,vk,va] 57 none:=by rw[Y0 _ (by omega)];exact N1
  unfold ptrTo;have Q1:∀F:M,F.get m.n=.cells [vb,vk,va] 57 none->ah TE F 22 (aeb m.n (0+0))=some vb:=λF hh=>by rw[Ou,aF hh];rfl
  have a1:∀F:M,F.get m.n=.cells [vb,vk,va] 57 none->ah TE F 55 (aeb m.n (0+1))=some vk:=λF hh=>by rw[Oq,aF hh];rfl
  rw[wC,ae,Q1 m2 g1,ae];obtain⟨l,r,m6,S1,c1,hF,hP⟩:=Hz (m:=m2) hX (hv.aD O0) K1 hlen;refine az S1 ?_;have H2:=c1.n;have v2:l.length<=12:=by have:=hP.len;rwa[dE]at this
  have or:one r=true:=hF.sl.one;have cr:=hF.sl.cells;rw[show aR TE 60 [(0,.agg #[r])]=some (.agg #[r,aeg]) by rw[EC rfl];rfl,ae];refine au λm9 I2 T1 U1=>?_;refine aC EU T1 rfl rfl (by show(one r && true)=true;rw[or];rfl) λd0 w2 s0 d1=>?_;have s0:d0.get m6.n=.cells [r,aeg] 60 none:=s0;have G0:Ext m6 d0:=⟨by omega,λc hc=>by rw[d1 c (by omega),U1 c hc]⟩
  have u0:Ext m2 d0:=c1.trans G0;have V1:d0.get m.n=.cells [vb,vk,va] 57 none:=u0.cells g1;have X1:d0.get m1.n=.cells [aeg,aeg] 60 none:=u0.cells P1;have j1:pF (bR l) []:=⟨by simp,.nil,λx hx=>(by cases hx),λx hx=>(by cases hx)⟩
  refine Lp.intro (γ:=Nat) (λi=>8-i) (λi vs F lo=>∃ms vm,vs=[.int .i64 i]/\i<=8/\d0.n<=F.n/\(∀c,c < d0.n->c≠m6.n->F.get c=d0.get c)/\m.n<=lo/\F.get m6.n=.cells [r,vm] 60 none/\Sl F ms vm/\pF (bR l) ms/\ms.length<=i/\(l=[]->ms=[]/\vm=aeg)) 0 ⟨[],_,rfl,by omega,Ξ _,λ_ _ _=>rfl,by omega,s0,Sl.nil,j1,aaQ _,λ_=>⟨rfl,rfl⟩⟩ ?_;rintro i vs F lo ⟨ms,vm,rfl,hi,J2,h0,K2,gS,B0,hM,L2,H0⟩;have gN:F.get m.n=.cells [vb,vk,va] 57 none:=by rw[h0 _ (by omega) (by omega),V1]
  have C0:cJ F l r:=hF.bH λc cs t g hb _=>by have:=M.aL hb;rw[h0 c (by omega) (by omega),G0.get c this,hb]
  have I0:CR F ks vk:=(hk.aD O0).aD ⟨by omega,λc hc=>by rw[h0 c (by omega) (by omega),u0.get c hc]⟩;have k1:∀(m':M) (w:aed),m'.get m6.n=.cells [r,w] 60 none->ah TE m' 29 (aeb m6.n (0+0+0))=some r:=λm' w hh=>by rw[eJ,aF hh];rfl
  rw[aH];refine cG (λvs m' Y1=>vs=[.bool (decide (i < ks.length) && decide (i < 8) && decide (0 < l.length))]/\F=m'/\lo=Y1) (λR hR=>?_) ?_
  ·rw[oz,ae,a1 F gN,ae,I0.len Ka,aE,aX,ae,an];refine aq (λh=>?_) (λh=>?_)
   ·have h:i < ks.length:=by simpa using h
    rw[aX,ae,an];refine aq (λh8=>?_) (λh8=>?_)
    ·have h8:i < 8:=by
      have:=abe h8
      omega
     rw[bK,ae,bu,ae,k1 F _ gS,ae,C0.sl.len eg,aE,dq,ae]
     refine hR _ _ _ ⟨?_,rfl,rfl⟩
     rw[aaX h,aaX h8,aav,aav]
     congr 2
     rw[decide_eq_decide];omega
    have h8:¬i < 8:=by have:=abv h8;omega
    exact hR _ _ _ ⟨by rw[aat h8,aaw];rfl,rfl,rfl⟩
   have h:¬i < ks.length:=by simpa using h
   exact hR _ _ _ ⟨by rw[aat h];rfl,rfl,rfl⟩
  rintro _ _ _ ⟨rfl,rfl,rfl⟩;rw[aH,an];refine aq (λh=>?_) (λh=>?_)
  ·simp only[Ψ,aaC]at h;obtain⟨⟨a2,M2⟩,o1⟩:=h;obtain⟨y,p1⟩:∃x,ks[i]?=some x:=⟨_,Φ a2⟩
   obtain⟨y0,y1,y2,y3⟩:=X0 y (aac p1);rw[oz,ae,a1 F gN,ae];obtain⟨p,e1,e2⟩:=UU I0 p1;rw[e1,ae,e2,ae];refine au λur z2 r1 s1=>?_;refine aC QM r1 rfl rfl rfl λr0 A2 u1 v1=>?_;have l0:Ext F r0:=⟨by omega,λb hb=>by rw[v1 b (by omega),s1 b hb]⟩
   have gy:r0.get F.n=.cells y.c' 166 none:=u1;have J0:=l0.cells gS;have v0:∀(m':M) (j:Nat) (z:Int),m'.get F.n=.cells y.c' 166 none->y.c'[j]?=some (.int .i64 z)->ah TE m' 3 (aeb F.n (0+j))=some (.int .i64 z):=λm' j z hh hj=>by rw[cd,aF hh,aaq,hj]
   have i0:ak TE 166 (aeb F.n 0) (.int .i64 0)=some (aeb F.n (0+0)):=ON (i:=0) (by decide);have i1:ak TE 166 (aeb F.n 0) (.int .i64 1)=some (aeb F.n (0+1)):=ON (i:=1) (by decide);have i2:ak TE 166 (aeb F.n 0) (.int .i64 2)=some (aeb F.n (0+2)):=ON (i:=2) (by decide);have i3:ak TE 166 (aeb F.n 0) (.int .i64 3)=some (aeb F.n (0+3)):=ON (i:=3) (by decide);have K0:=C0.aD l0;simp only[bK,bu,bX,i0,i1,i2,i3,ae];rw[k1 r0 _ J0,ae,v0 r0 1 y.b gy rfl,ae,ae,K0.sl.len eg,aE];have c2:=ml (c:=y.b) (show(0:Int)< (l.length:Int) by omega);refine az (cK hX y1 (show(0:Int)< (l.length:Int) by omega)) ⟨Ξ _,?_⟩;obtain⟨j,hj⟩:∃j:Nat,cU y.b (l.length:Int)=(j:Int):=⟨(cU y.b (l.length:Int)).toNat,by omega⟩
   rw[hj];rw[hj]at c2;obtain⟨u,hu⟩:∃x,l[j]?=some x:=⟨_,Φ (by omega)⟩
   have P0:=aac hu;obtain⟨q,q1,q2,ou⟩:=K0.sl.mI (k:=.i64) hu;rw[q1,ae,q2,ae];refine au λN2 B2 w1 z1=>?_;refine aC ep w1 rfl rfl (Un.eN ou) λe0 C2 A1 B1=>?_;have o0:Ext r0 e0:=⟨by omega,λb hb=>by rw[B1 b (by omega),z1 b hb]⟩
   have gu:e0.get r0.n=.cells (u.u.c u.w) 87 none:=A1;have q0:=o0.cells gy;have C1:=o0.cells J0;have L0:=hP.val u.u (by unfold bR;exact ab9 P0);have O2:=oO L0;have z0:=L0;unfold lq eA at z0;simp only[Ψ,aaC]at z0;have d2:=((C0.sh u P0).aD l0).aD o0;rw[v0 e0 0 y.a q0 rfl,ae];refine az (cK hX y0 (by decide)) ⟨Ξ _,?_⟩;rw[bE,ae,(pV gu).1,ae,v0 e0 2 y.c q0 rfl,ae,bA,ae,(pV gu).2.2.2.1,ae,d2.len dS,aE,aQ,ae,wrap64 (by omega) (by omega)];have pa:=ml (c:=y.a) (show(0:Int)< 12 by decide);have pc:=ml (c:=y.c) (show(0:Int)< (u.u.shape.length:Int)+2 by omega);have pd:=ml (c:=y.d) (show(0:Int)< 5 by decide);refine az (cK hX y2 (by omega)) ⟨Ξ _,?_⟩;rw[fB,ae,wrap64 (by omega) (by omega),v0 e0 3 y.d q0 rfl,ae];refine az (cK hX y3 (by decide)) ⟨Ξ _,?_⟩
   rw[aQ,ae,wrap64 (by omega) (by omega),v0 e0 3 y.d q0 rfl,ae];refine az (cK hX y3 (by decide)) ⟨Ξ _,?_⟩;rw[aY,ae,M7,ae];refine au λP2 D2 D1 E1=>?_;refine aC AR D1 rfl rfl rfl λD0 E2 F1 G1=>?_;have M0:Ext e0 D0:=⟨by omega,λb hb=>by rw[G1 b (by omega),E1 b hb]⟩
   obtain⟨x,hx⟩:∃x:Mk,x=⟨cU y.a 12,u.u.id,cU y.c ((u.u.shape.length:Int)+2)-2,1+cU y.d 5,decide (cU y.d 2=0)⟩:=⟨_,rfl⟩
   have gm:D0.get e0.n=.cells x.c 89 none:=by rw[hx];exact F1
   have H1:=M0.cells C1;have Q0:Ext F D0:=(l0.trans o0).trans M0;have S0:=B0.aD Q0;rw[show ah TE D0 58 (aeb m6.n (0+1))=some vm by rw[pj,aF H1];rfl,ae,(zO gm).2.2.2.2,ae];obtain⟨g2,r',b,hc,N0,hw⟩:=Nk (x:=x) hX S0 hM.IP (by have:=hM.len;omega);refine az hc ?_;rw[cp,cp];simp only[aad,aah,ae];rw[an];have Q2:=Q0.n;have j2:=N0.n;have a0:Ext F g2:=Q0.trans N0;refine aq (λhb=>?_) (λhb=>?_)
   ·have hw:=hw hb;refine bW JQ (a0.cells gS) (by rw[hw.sl.cells];rfl) (by rw[hw.sl.cells];simp) (by rw[hw.sl.cells];simp[hw.sl.one]) λI1 k2 b0 A0=>?_;rw[hw.sl.cells]at b0;have b0:I1.get m6.n=.cells [r,r'] 60 none:=b0;rw[aQ,ae,wrap64 (by omega) (by omega)]
    have o2:pF (bR l) (mu ms x):=by refine OC hM (by omega) ?_ ⟨u.u,by unfold bR;exact ab9 P0,by rw[hx],by rw[hx];show cU y.c ((u.u.shape.length:Int)+2)-2 < _;omega⟩;rw[hx];unfold zP eA;simp only[Ψ,aaC];omega
    refine⟨i+1,by omega,mu ms x,r',rfl,by omega,by omega,λc T0 E0=>by rw[A0 c E0,a0.get c (by omega),h0 c T0 E0],by omega,b0,?_,o2,by have:=wk ms x;omega,λe=>by rw[e]at o1;simp at o1⟩;refine hw.sl.bH λb c t g hb ht=>?_;have ht:t=89:=abu.1 ht;subst ht;rw[A0 b (λe=>by rw[e,a0.cells gS]at hb;cases hb),hb]
   rw[aQ,ae,wrap64 (by omega) (by omega)];exact⟨i+1,by omega,ms,vm,rfl,by omega,by omega,λc T0 E0=>by rw[a0.get c (by omega),h0 c T0 E0],by omega,a0.cells gS,B0.aD a0,hM,by omega,H0⟩
  ·rw[show ah TE F 60 (aeb m6.n 0)=some (.agg #[r,vm]) by rw[ph,aJ (n:=2) gS (by show 0+2<=2;decide)];rfl,ae]
   have U0:F.get m1.n=.cells [aeg,aeg] 60 none:=by rw[h0 _ (by omega) (by omega),X1]
   have s2:one vm=true:=B0.one
   refine aC EU U0 rfl rfl (by show(one r && (one vm && true))=true;rw[or,s2];rfl) λg0 u2 j0 k0=>?_
   have j0:g0.get m1.n=.cells [r,vm] 60 none:=j0
   rw[show ah TE g0 60 (aeb m1.n 0)=some (.agg #[r,vm]) by rw[ph,aJ (n:=2) j0 (by show 0+2<=2;decide)];rfl,ae]
   have J1:∀(α:Type) [aP α] (L:List α) (w:aed),(∀t∈aP.ty α::aP.fx α,t≠60)->Sl F L w->Sl g0 L w:=λα _ L w ht hs=>hs.bH λb c t g hb hm=>by rw[k0 b (λe=>by rw[e,U0]at hb;cases hb;exact ht _ hm rfl),hb]
   have V0:cJ g0 l r:=C0.bH λc cs t g hb ht=>by rw[k0 c (λe=>by subst e;rw[U0]at hb;cases hb;rcases ht with ht |ht <;>exact absurd ht (by decide)),hb]
   have F0:Sl g0 ms vm:=J1 Mk ms vm (by intro t ht;rw[abu.1 ht];decide) B0
   obtain⟨ra,rc,rfl⟩:=hF.sl.form
   cases ra with
   |none=>obtain⟨rfl, -,rfl⟩:=Mx hF;obtain⟨rfl,rfl⟩:=H0 rfl;exact .inl ⟨rfl,by omega,rfl,.refl,[],_,[],_,rfl,FG m,hP,Sl.nil,hM⟩
   |some ad=>
    refine .inr ⟨.inl ?_,by omega,⟨by have:=u0.n;omega,λc hc=>?_⟩,l,_,ms,vm,rfl,V0,hP,F0,hM⟩;·simp[aO,bP,gI,cy]
    rw[k0 c (by omega),h0 c (by omega) (by omega),u0.get c (by omega),O0.get c hc]
 obtain⟨rv,m',b,hc,rfl,h1,l,r,ms,vm,rfl,h2,h3,h4,h5⟩:=key;exact⟨l,r,ms,vm,m',hc,h1,h2,h3,h4,h5⟩
end
section
variable {X:aG} {m:M}
theorem Bd(hX:cV X){w h x y:Int}{l:List Int}{v:aed}(hl:Sl m l v)(hv:Ip w h l=true)(hx:0<=x/\x < w)(hy:0<=y/\y < h){i:Nat}{n:Int}(hi:(i:Int)=y*w+x)(hn:l[i]?=some n):
  C X (.func 44) [qO w h v,.int .i64 x,.int .i64 y] m m.n (.int .i64 n) m:=by
 refine Cl.flat (hX.no _ rfl) Vx rfl rfl ?_;rw[F44];dsimp only[aI,δ,ε,ζ,η,κ,ς,φ,χ]
 have hb:1<=w/\w<=40/\1<=h/\h<=40:=by simp only[Ip,eA,Ψ,aaC]at hv;omega
 have g0:=(Ω.1 hn).1;have h0: -(40*40)<=y*w/\y*w<=40*40:=pf (by omega) (by omega) (by omega) (by omega);refine au λm1 i0 F b0=>?_;simp only[bB]at F;have d0:Ext m m1:=⟨by omega,λb hb=>b0 b hb⟩
 have a0:=hl.aD d0;have d1:decide (x < 0)=false:=by simp;omega
 have d2:decide (w<=x)=false:=by simp;omega
 have d3:decide (y < 0)=false:=by simp;omega
 have d4:decide (h<=y)=false:=by simp;omega
 refine cG (λvs m2 lo=>vs=[aei]/\m1=m2/\m.n<=lo) (λR hR=>?_) ?_
 ·simp only[ae,aE,bY,an,bU,aM,dj,aX,cO,dq,aY,da,bM,ptrTo,bT,dF,aaq,Nat.reduceAdd,aad,aah,aa0,aaT,aa6,abi,aag,bB,ee,dJ,dw,ec,ed,dI,eG,fg,eF,vY,lK,cd,EV,aF F,d1,d2,d3,d4];rw[a0.len lC];simp only[ej,ae,aE];rw[wrap64 (by omega) (by omega)];simp only[aQ,ae];rw[wrap64 (by omega) (by omega)];simp only[cO,ae];refine hR _ _ _ ⟨?_,rfl,Ξ _⟩;have:decide ((l.length:Int)<=y*w+x)=false:=by simp;omega
  rw[this]
 rintro _ _ lo ⟨rfl,rfl,e0⟩;rw[aH];simp only[ae,aE,bY,an,bU,aM,dj,aX,cO,dq,aY,da,bM,ptrTo,bT,dF,aaq,Nat.reduceAdd,aad,aah,aa0,aaT,aa6,abi,aag,bB,ee,dJ,dw,ec,ed,dI,eG,fg,eF,vY,lK,cd,EV,aF F,ej];rw[wrap64 (by omega) (by omega)];simp only[aQ,ae];rw[wrap64 (by omega) (by omega),<-hi];obtain⟨a,e1,e2⟩:=a0.Au (k:=.i64) hn;rw[e1,ae,e2,ae];exact⟨rfl,e0⟩
end
section
variable {X:aG} {m:M}
theorem QW{p:Pl}:aK TE m 45 1 [(0,p.v)]=some (.slice (some ⟨m.n,0,none⟩) 1 1,m.push (.cells p.c 98 none)):=by kernel_rfl
theorem GR{p:Pl}{b:Nat}{g:Option Nat}(h:m.get b=.cells p.c 98 g):Sl m [p] (aec b 0 1 1):=
 .inr ⟨b,0,1,_,g,rfl,h,Ξ _,λi x hi=>by
  match i with
  |0=>cases hi;rfl
  |i+1=>cases hi⟩
theorem _root_.Go.D.Ow.TF{n1:Nat}{l:List Pl}{v:aed}{p:Pl}{P:aed->M->Prop}(h:Ow n1 m l v)(hn:n1<=m.n)(hs:l.length < 268435456)
  (hP:∀v1 m1,Ow n1 m1 (l++ [p]) v1->CX n1 m m1->n1<=m1.low->m.n<=m1.n->P v1 m1):
  aT (aK TE m 45 1 [(0,p.v)]) λa m1=>aT (av TE (m1.wl m1.n) .append [45,45] [v,a]) P:=by rw[QW,aE];have F:Ext m (m.push (.cells p.c 98 none)):=Ext.refl.push;have a0:(m.push (.cells p.c 98 none)).n=m.n+1:=rfl;obtain⟨v1,m1,e1,ho,hf,hl,_⟩:=(h.aD F).append xA (by simp[aP.fx]) (GR (m:=m.push (.cells p.c 98 none)) M.bJ) (by omega) (by simp;omega);rw[e1,aE];exact hP v1 m1 ho ((F.fr hn).trans hf) hl (by have:=hf.n;omega)
def eH(w:Nat)(l l':List Int):Nat->List Pl
 |0=> []
 |i+1=>eH w l l' i++(if l[i]?=l'[i]? then []else [⟨((i%w:Nat):Int),((i/w:Nat):Int)⟩])
theorem nj{w:Nat}{l l':List Int}:∀n,(eH w l l' n).length<=n
 |0=>Ξ _
 |n+1=>by
  have:=nj (w:=w) (l:=l) (l':=l') n
  unfold eH
  rw[aam]
  split <;>simp <;>omega
theorem NZ{t:TypeId}{a b:Nat}(hb:b≠0)(ha:a < 1000000):aw TE .quo t (.int .i64 a) (.int .i64 b)=some (.int .i64 ((a/b:Nat):Int)):=by have F:((a:Int).tdiv (b:Int))=((a/b:Nat):Int):=rfl;have hle:a/b<=a:=Nat.div_le_self _ _;rw[gZ (by omega),F];generalize a/b=q at hle⊢;rw[wrap64 (by omega) (by omega)]
theorem Ey(hX:cV X){w h:Nat}{l l':List Int}{v v':aed}(hl:Sl m l v)(s0:Sl m l' v')(hv:Ip w h l=true)(k0:Ip w h l'=true):
  ∃r m',C X (.func 21) [qO w h v,qO w h v'] m m.n (.tuple #[r,.int .i64 0]) m'/\Ext m m'/\Ow m.n m' (eH w l l' l.length) r:=by
 have hb:1<=w/\w<=40/\1<=h/\h<=40/\l.length=w*h/\l'.length=w*h:=by have k1:=hv;have k2:=k0;simp only[Ip,eA,Ψ,aaC]at k1 k2;obtain⟨⟨⟨⟨a1,a2⟩,a3,a4⟩,a5⟩,_⟩:=k1;obtain⟨⟨_,b5⟩,_⟩:=k2;rw[<-Int.natCast_mul]at a5 b5;exact⟨by omega,by omega,by omega,by omega,Int.ofNat.inj a5,Int.ofNat.inj b5⟩
 obtain⟨w1,w2,h1,h2,I0,E0⟩:=hb;have J0:w*h<=40*40:=adJ w2 h2;have key:=Cl.gen (E:=TE) (X:=X) (f:=21) (args:=[qO w h v,qO w h v']) (m:=m) (R:=λr m' bb=>bb=m.n/\Ext m m'/\∃v',r=.tuple #[v',.int .i64 0]/\Ow m.n m' (eH w l l' l.length) v') (hX.no _ rfl) VD rfl ?_
 ·obtain⟨r,m',bb,hc,rfl,hx,v',rfl,hr⟩:=key;exact⟨v',m',hc,hx,hr⟩
 rw[F21];dsimp only[aI,δ,ε,ζ,η,θ,κ,ν,ο,ς,φ,χ,ψ];refine au λm1 K0 u0 v0=>?_;refine au λm2 L0 b0 l0=>?_;have F:=(l0 m.n (by omega)).trans u0;simp only[bB]at F b0;have g0:Ext m m2:=⟨by omega,λb hb=>by rw[l0 b (by omega),v0 b hb]⟩
 have h0:=hl.aD g0;have d0:=s0.aD g0;simp only[ptrTo];have e1:ah TE m2 27 (aeb m.n 0)=some (qO w h v):=by rw[kh,aJ F (by simp)];rfl
 have e2:ah TE m2 27 (aeb m1.n 0)=some (qO w h v'):=by rw[kh,aJ b0 (by simp)];rfl
 refine cG (λvs m5 lo=>vs=[aei]/\m2=m5/\m.n<=lo/\lo<=m.n) (λR hR=>?_) ?_
 ·rw[e1,ae];refine az (wJ hX h0 (by omega)) ?_;rw[hv,bM,ae,an,aal,aM,e2,ae];refine az (wJ hX d0 (by omega)) ?_;rw[k0,bM,ae,an,aal,aM];simp only[eG,fg,ae,cd,aF F,aF b0,aaq,aad,aah,da,an,decide_true,aal,aM];exact hR _ _ _ ⟨rfl,rfl,by omega,by omega⟩
 rintro _ _ lo ⟨rfl,rfl,z0,F0⟩;rw[aH,an,aM];simp only[eF,ae,lK,aF F,aaq,aad,aah];rw[h0.len lC,aE];refine Lp.intro (γ:=Nat) (λi=>l.length-i) (λi vs m9 lo=>i<=l.length/\Ext m2 m9/\m.n<=lo/\∃vr,vs=[vr,.int .i64 i]/\Ow m2.n m9 (eH w l l' i) vr) 0 ⟨aaQ _,.refl,z0,_,rfl,Ow.nil⟩ ?_;rintro i vs m9 M0 ⟨hi,a0,e0,vr,rfl,ho⟩;have A0:=a0.n;simp only[aH,aX,ae,an];refine aq (λi0=>?_) (λB0=>?_)
 ·have i0:i < l.length:=by simpa using i0
  obtain⟨x,hx⟩:∃x,l[i]?=some x:=⟨_,Φ i0⟩
  obtain⟨y,hy⟩:∃y,l'[i]?=some y:=⟨_,Φ (by omega)⟩
  obtain⟨a,q1,q2⟩:=(h0.aD a0).Au (k:=.i64) hx;obtain⟨b,q3,q4⟩:=(d0.aD a0).Au (k:=.i64) hy;have gA:=a0.cells F;have gB:=a0.cells b0;rw[q1,ae,q2,ae];simp only[aF gB,aF gA,aad,aah,ae];rw[q3,ae,q4,ae];simp only[da,ae,an];refine aq (λj0=>?_) (λhe=>?_)
  ·have j0:¬x=y:=by simpa using j0
   simp only[eG,ae,cd,aF gA,aaq,aad];rw[rf (by omega),ae,NZ (by omega) (by omega),ae,eT rfl rfl,ae];refine ho.TF (p:=⟨((i%w:Nat):Int),((i/w:Nat):Int)⟩) A0 (by have:=nj (w:=w) (l:=l) (l':=l') i;omega) λv10 N0 o0 q0 G0 H0=>?_;rw[aQ,ae,wrap64 (by omega) (by omega)];refine⟨i+1,by omega,by omega,⟨by omega,λb hb=>by rw[q0.get b hb,a0.get b hb]⟩,by omega,v10,rfl,?_⟩;unfold eH;rw[hx,hy,aaa (by simpa using j0)];exact o0
  have he:x=y:=by simpa using he
  rw[aQ,ae,wrap64 (by omega) (by omega)];refine⟨i+1,by omega,by omega,a0,e0,vr,rfl,?_⟩;unfold eH;rw[hx,hy,he,aaf rfl,abk];exact ho
 ·have C0:i=l.length:=by
   have:¬(i:Int)< (l.length:Int):=by simpa using B0
   omega
  subst C0
  have r0:=g0.trans a0
  cases D0:bP (aO [vr,.int .i64 0])with
  |false=>exact .inr ⟨.inl rfl,by omega,r0,vr,rfl,ho.mono (by omega)⟩
  |true=>
   refine .inl ⟨rfl,e0,by first |rfl |trivial,.refl,vr,rfl,?_⟩;rcases ho with h |⟨b,cs,rfl,_⟩;·exact .inl h
   cases D0
end
section
theorem rU{w:Nat}{l l':List Int}:∀n,eH w l l' n=[]↔∀i,i < n->l[i]?=l'[i]?
 |0=>⟨λ_ i hi=>by omega,λ_=>rfl⟩
 |n+1=>by
  unfold eH
  rw[adH,rU n]
  by_cases h:l[n]?=l'[n]?
  ·rw[aaf h]
   constructor
   ·rintro⟨F,_⟩ i hi
    by_cases e:i < n
    ·exact F i e
    ·have:i=n:=by omega
     rw[this,h]
   ·exact λF=>⟨λi hi=>F i (by omega),rfl⟩
  ·rw[aaa h]
   constructor
   ·rintro⟨_,h2⟩;cases h2
   ·exact λF=>absurd (F n (by omega)) h
end
section
structure Ac where
 kind:Int
 un:Un
 id:Int
 i:Int
 k:Int
 jL:Mk
def gL(u:Un):Bool:=decide (u.kind=0) && decide (u.CV=0) && decide (u.shape=[]) && decide (u.back=0) && decide (u.front=0)
def Nd(k:Mk):Bool:=decide (k=⟨0,0,0,0,false⟩)
def dN(a:Ac):Bool:=decide (a.i=0) && decide (a.k=0) && gL a.un && decide (a.un.id=0)
def dU(a:Ac):Bool:=
 if a.kind=1 then lq a.un && decide (a.id=0) && decide (a.i=0) && decide (a.k=0)
 else if a.kind=2 then eA a.id 0 99 && dN a
 else if a.kind=3 then eA a.id 0 99 && eA a.un.id 0 99 && !decide (a.id=a.un.id) && gL a.un && eA a.i 0 7 && eA a.k 0 7 && !decide (a.i=a.k)
 else if a.kind=4 then eA a.id 0 99 && eA a.i (-40) 40 && eA a.k (-40) 40 && (!decide (a.i=0) || !decide (a.k=0)) && gL a.un && decide (a.un.id=0)
 else if a.kind=5 then zP a.jL && decide (a.id=0) && dN a
 else if a.kind=6\/a.kind=7 then eA a.id 0 99 && dN a
 else false
def dZ(a:Ac):Bool:=dU a && (decide (a.kind=5) ||Nd a.jL)
def fK(a:Ac):List Int:=
 if a.kind=1 then [a.un.id]else if a.kind=2 then [a.id]else if a.kind=3 then [min a.id a.un.id,max a.id a.un.id]else if a.kind=4 then [a.id]else if a.kind=5 then [a.jL.un]else []
def vQ(a:Ac):List Int:=if a.kind=5 then [a.jL.id]else if a.kind=6\/a.kind=7 then [a.id]else []
def jH(us:List Un)(id:Int):List Un:=us.filter λy=> !decide (y.id=id)
def mR(us:List Un)(u:Un):List Un:=(us.filter λy=>decide (y.id < u.id))++u::(us.filter λy=>decide (u.id < y.id))
def pE(us:List Un)(u:Un):Bool:=lq u && !decide (us.length=12) && us.all (λv=> !decide (v.id=u.id)) && us.all (λv=> !fE u v)
def iY(us:List Un)(u:Un):Option (List Un):=if pE us u=true then some (mR us u)else none
def jW(l:List Pl)(a b:Nat):List Pl:=if a<=b then(l.drop a).take (b+1-a)else l.drop a++l.take (b+1)
def sZ(l:List Pl)(i k:Int):Option (List Pl×List Pl):=
 if(bI l && decide (0<=min i k) && decide (max i k < (l.length:Nat)) && decide (3<=(jW l i.toNat k.toNat).length) && decide (3<=(jW l k.toNat i.toNat).length))=true then some (jW l i.toNat k.toNat,jW l k.toNat i.toNat)else none
def DO(u:Un)(F dy:Int):Option Un:=if(u.mv F dy).shape.any Pl.off=true then none else some (u.mv F dy)
def lY(ms:List Mk)(id:Int):List Mk:=ms.filter λy=> !decide (y.un=id)
def lx(ms:List Mk)(id:Int)(o:Bool):Option (List Mk):=
 match ms.findIdx? λy=>decide (y.id=id)with
 |some k=>match ms[k]? with
  |some y=>if y.Kw=o then none else some (ms.set k {y with Kw:=o})
  |none=>none
 |none=>none
def tD(us:List Un)(ms:List Mk)(a:Ac):Option (List Un×List Mk):=
 if a.kind=1 then(iY us a.un).map (·,ms)
 else if a.kind=2 then(if(cM us a.id).isSome=true then some (jH us a.id,lY ms a.id)else none)
 else if a.kind=3 then
  match cM us a.id with
  |none=>none
  |some u=>match sZ u.shape a.i a.k with
   |none=>none
   |some (p,q)=>match iY (jH us a.id) {u with shape:=p}with
    |none=>none
    |some F=>(iY F {u with shape:=q,id:=a.un.id}).map (·,lY ms a.id)
 else if a.kind=4 then
  match cM us a.id with
  |none=>none
  |some u=>match DO u a.i a.k with
   |none=>none
   |some v=>(iY (jH us a.id) v).map (·,ms)
 else if a.kind=5 then(if(ms.any λy=>decide (y.id=a.jL.id))=true then none else some (us,mu ms a.jL))
 else(lx ms a.id (decide (a.kind=7))).map (us,·)
open Classical in
def qp(us:List Un)(ms:List Mk):Bool:=decide (pF us ms)
def nv(us:List Un)(ms:List Mk)(a:Ac):Option (List Un×List Mk):=
 if dZ a=true then(match tD us ms a with
  |some (F,ns)=>if qp F ns=true then some (F,ns)else none
  |none=>none)else none
theorem cF.CJ{us:List Un}(h:cF us):us.Pairwise λa b=>a.id < b.id:=by rw[abH];intro i j hi hj F;exact h.Rd F (Φ hi) (Φ hj)
theorem FH{us:List Un}(h1:us.length<=12)(h2:∀u∈us,lq u=true)(h3:us.Pairwise λa b=>a.id < b.id)(h4:us.Pairwise λa b=>fE a b=false):cF us:=by
 rw[abH]at h3 h4;refine⟨h1,h2,λi a b F hb=>?_,λi k a b a0 F hb=>?_⟩
 ·obtain⟨hi,rfl⟩:=Ω.1 F;obtain⟨hj,rfl⟩:=Ω.1 hb;exact h3 i (i+1) hi hj (by omega)
 obtain⟨hi,rfl⟩:=Ω.1 F;obtain⟨hj,rfl⟩:=Ω.1 hb;exact h4 i k hi hj a0
theorem cF.EK{us:List Un}(h:cF us):us.Pairwise λa b=>fE a b=false:=by rw[abH];intro i j hi hj F;exact h.apart i j _ _ F (Φ hi) (Φ hj)
theorem cF.del{us:List Un}(h:cF us)(id:Int):cF (jH us id):=by unfold jH;exact FH (abD (acg _ _) h.len) (λu hu=>h.val u (abn.1 hu).1) (h.CJ.filter _) (h.EK.filter _)
theorem Kk{us:List Un}{u:Un}(h:∀v∈us,v.id≠u.id):(mR us u).length=us.length+1:=by
 unfold mR;rw[aam,aaJ]
 have:(us.filter λy=>decide (y.id < u.id)).length+(us.filter λy=>decide (u.id < y.id)).length=us.length:=by
  induction us with
  |nil=>rfl
  |cons a r F=>
   have h0:=h a aaP;have F:=F λv hv=>h v (aaZ _ hv);rw[abf,abf];by_cases e:a.id < u.id
   ·rw[aaf (by simpa using e),aaa (by simp;omega)];simp only[aaJ];omega
   rw[aaa (by simpa using e),aaf (by simp;omega)];simp only[aaJ];omega
 omega
theorem Kj{us:List Un}{u v:Un}(h:v∈mR us u):v=u\/v∈us:=by
 unfold mR at h;rw[aaR,aaS,abn,abn]at h;rcases h with h |h |h;·exact .inr h.1
 ·exact .inl h
 exact .inr h.1
theorem mK{us:List Un}{u:Un}:pE us u=true↔lq u=true/\us.length≠12/\(∀v∈us,v.id≠u.id)/\∀v∈us,fE u v=false:=by unfold pE;simp only[Ψ,aay,aba,aby,and_assoc];all_goals rfl
theorem cF.ins{us:List Un}(h:cF us){u:Un}(ha:pE us u=true):cF (mR us u):=by
 obtain⟨h1,h2,h3,h4⟩:=mK.1 ha;have hl:=h.len;refine FH (by rw[Kk h3];omega) (λv hv=>?_) ?_ ?_
 ·rcases Kj hv with rfl |hv;·exact h1
  exact h.val v hv
 ·unfold mR;rw[adb,acw];refine⟨h.CJ.filter _,⟨λz hz=>by simpa using(abn.1 hz).2,h.CJ.filter _⟩,λa ha b F=>?_⟩;have ha:a.id < u.id:=by simpa using(abn.1 ha).2
  rcases aaS.1 F with rfl |F;·exact ha
  have F:u.id < b.id:=by simpa using(abn.1 F).2
  omega
 unfold mR;rw[adb,acw];refine⟨h.EK.filter _,⟨λz hz=>h4 z (abn.1 hz).1,h.EK.filter _⟩,λa ha b F=>?_⟩;have a0:=(abn.1 ha).1;have ha:a.id < u.id:=by simpa using(abn.1 ha).2
 rcases aaS.1 F with rfl |F;·rw[qe];exact h4 a a0
 have b0:=(abn.1 F).1;have F:u.id < b.id:=by simpa using(abn.1 F).2
 obtain⟨i,hi⟩:=aaN a0;obtain⟨k,hk⟩:=aaN b0
 have d0:i < k:=by
  rcases abS i k with h |rfl |h';·exact h
  ·rw[hi]at hk;cases hk;omega
  have:=h.Rd h' hk hi;omega
 exact h.apart i k _ _ d0 hi hk
theorem jw{us vs:List Un}{u:Un}(h:cF us)(F:iY us u=some vs):cF vs/\vs=mR us u/\lq u=true:=by
 unfold iY at F;split at F
 ·rename_i hb;cases F;exact⟨h.ins hb,rfl,(mK.1 hb).1⟩
 cases F
theorem uC{us vs:List Un}{ms ns:List Mk}{a:Ac}(h:cF us)(F:tD us ms a=some (vs,ns)):cF vs:=by
 unfold tD at F;split at F
 ·cases h1:iY us a.un with
  |none=>rw[h1]at F;cases F
  |some l=>rw[h1]at F;cases F;exact(jw h h1).1
 split at F
 ·split at F;·cases F;exact h.del _
  cases F
 split at F
 ·split at F;·cases F
  rename_i u hu;split at F;·cases F
  rename_i p q hc;split at F;·cases F
  ·rename_i l hl
   cases h1:iY l {u with shape:=q,id:=a.un.id}with
   |none=>rw[h1]at F;cases F
   |some l'=>rw[h1]at F;cases F;exact(jw (jw (h.del _) hl).1 h1).1
 split at F
 ·split at F;·cases F
  rename_i u hu;split at F;·cases F
  ·rename_i v hv
   cases h1:iY (jH us a.id) v with
   |none=>rw[h1]at F;cases F
   |some l'=>rw[h1]at F;cases F;exact(jw (h.del _) h1).1
 split at F
 ·split at F;·cases F
  cases F;exact h
 ·cases h1:lx ms a.id (decide (a.kind=7))with
  |none=>rw[h1]at F;cases F
  |some l=>rw[h1]at F;cases F;exact h
def pJ(ids:List Int)(us:List Un):List Un:=us.filter λu=> !ids.contains u.id
theorem vj{us:List Un}{id:Int}{ids:List Int}(h:id∈ids):pJ ids (jH us id)=pJ ids us:=by
 unfold pJ jH
 rw[adZ]
 congr 1
 funext u
 by_cases e:u.id=id
 ·have:ids.contains u.id=true:=by rw[e];simpa using h
  rw[this];simp
 ·simp[e]
theorem Ag{us:List Un}{n:Int}{p:Un->Bool}(hp:∀u∈us,u.id=n->p u=false)(hs:us.Pairwise λa b=>a.id < b.id):
  (us.filter λy=>decide (y.id < n)).filter p++(us.filter λy=>decide (n < y.id)).filter p=us.filter p:=by
 induction us with
 |nil=>rfl
 |cons a r ih=>
  rw[acw]at hs
  have ih:=ih (λu hu=>hp u (aaZ _ hu)) hs.2
  cases F:p a with
  |true=>
   by_cases e:a.id < n
   ·have e2:¬n < a.id:=by omega
    simp only[abf,aaX e,aat e2,F,abq,abJ,if_false,acC,ih]
   have h0:(r.filter λy=>decide (y.id < n))=[]:=by rw[acr];intro z hz;have:=hs.1 z hz;simp;omega
   rw[h0]at ih;by_cases e2:n < a.id
   ·simp only[abf,aat e,aaX e2,F,h0,abq,abJ,if_false,adF,abz]at ih⊢;rw[ih]
   have ha:=hp a aaP (by omega);rw[ha]at F;cases F
  |false=>
   by_cases e:a.id < n
   ·have e2:¬n < a.id:=by omega
    simp only[abf,aaX e,aat e2,F,abq,abJ,if_false,ih]
   by_cases e2:n < a.id;·simp only[abf,aat e,aaX e2,F,abq,abJ,if_false,ih]
   simp only[abf,aat e,aat e2,F,abJ,if_false,ih]
theorem re{us:List Un}{u:Un}{ids:List Int}(h:u.id∈ids)(F:cF us):pJ ids (mR us u)=pJ ids us:=by unfold pJ mR;rw[abY,List.filter_cons_of_neg (by simpa using h)];exact Ag (λv _ e=>by rw[e];simpa using h) F.CJ
theorem Cy{us vs:List Un}{ms ns:List Mk}{a:Ac}(h:cF us)(F:tD us ms a=some (vs,ns)):pJ (fK a) us=pJ (fK a) vs/\(a.kind=5\/a.kind=6\/a.kind=7->vs=us):=by
 unfold tD at F
 unfold fK
 by_cases k1:a.kind=1
 ·rw[aaf k1]at F
  rw[aaf k1]
  refine⟨?_,λhk=>by omega⟩
  cases h1:iY us a.un with
  |none=>rw[h1]at F;cases F
  |some l=>rw[h1]at F;cases F;rw[(jw h h1).2.1];exact(re (by simp) h).symm
 rw[aaa k1]at F
 rw[aaa k1]
 by_cases k2:a.kind=2
 ·rw[aaf k2]at F;rw[aaf k2];refine⟨?_,λhk=>by omega⟩;split at F;·cases F;exact(vj (by simp)).symm
  cases F
 rw[aaa k2]at F
 rw[aaa k2]
 by_cases k3:a.kind=3
 ·rw[aaf k3]at F;rw[aaf k3];refine⟨?_,λhk=>by omega⟩;have m1:a.id∈ [min a.id a.un.id,max a.id a.un.id]:=by simp only[aaS,acp,or_false];omega
  have m2:a.un.id∈ [min a.id a.un.id,max a.id a.un.id]:=by simp only[aaS,acp,or_false];omega
  split at F;·cases F
  rename_i u hu;have hid:=(eW hu).2;split at F;·cases F
  rename_i p q hc;split at F;·cases F
  ·rename_i l hl
   obtain⟨hP,rfl, -⟩:=jw (h.del a.id) hl
   cases h1:iY (mR (jH us a.id) {u with shape:=p}) {u with shape:=q,id:=a.un.id}with
   |none=>rw[h1]at F;cases F
   |some l'=>rw[h1]at F;cases F;rw[(jw hP h1).2.1,re (by exact m2) hP,re (by show u.id∈_;rw[hid];exact m1) (h.del _),vj m1]
 rw[aaa k3]at F
 rw[aaa k3]
 by_cases k4:a.kind=4
 ·rw[aaf k4]at F;rw[aaf k4];refine⟨?_,λhk=>by omega⟩;split at F;·cases F
  rename_i u hu;have hid:=(eW hu).2;split at F;·cases F
  ·rename_i v hv
   have a0:v.id=a.id:=by
    unfold DO at hv;split at hv;·cases hv
    cases hv;exact hid
   cases h1:iY (jH us a.id) v with
   |none=>rw[h1]at F;cases F
   |some l'=>rw[h1]at F;cases F;rw[(jw (h.del _) h1).2.1,re (by rw[a0];simp) (h.del _),vj (by simp)]
 rw[aaa k4]at F
 rw[aaa k4]
 by_cases k5:a.kind=5
 ·rw[aaf k5]at F;split at F;·cases F
  cases F;exact⟨rfl,λ_=>rfl⟩
 rw[aaa k5]at F
 cases h1:lx ms a.id (decide (a.kind=7))with
 |none=>rw[h1]at F;cases F
 |some l=>rw[h1]at F;cases F;exact⟨rfl,λ_=>rfl⟩
def eh(us:List Un)(ids:List Int)(x y:Int):Bool:=ids.any λid=>match cM us id with |some u=>decide (0<=ka u.shape x y) |none=>false
theorem Cz{us:List Un}{ids:List Int}{x y:Int}(hP:cF us)(h:eh us ids x y=false):rT us ⟨x,y⟩=rT (pJ ids us) ⟨x,y⟩:=by
 unfold rT pJ;rw[adZ];apply adr;intro u hu;by_cases F:nE u ⟨x,y⟩=true
 ·rw[F,aav]
  symm
  rw[aba]
  cases hi:ids.contains u.id with
  |false=>rfl
  |true=>
   exfalso;have hm:u.id∈ids:=by simpa using hi
   unfold eh at h;rw[abF]at h;obtain⟨j,hj⟩:=aaN hu;have:=h u.id hm;rw[oy hP hj]at this;exact this (by simpa using Pp.1 F)
 rw[adx]at F;rw[F];rfl
theorem Dg{us vs:List Un}{ms ns:List Mk}{a:Ac}(h:cF us)(hd:tD us ms a=some (vs,ns)){behind:Bool}{x y:Int}
  (F:gP us behind x y≠gP vs behind x y):eh us (fK a) (if behind then 39-x else x) y=true\/eh vs (fK a) (if behind then 39-x else x) y=true:=by
 have hv:=uC h hd
 have hr:=(Cy h hd).1
 by_cases h1:eh us (fK a) (if behind then 39-x else x) y=true
 ·exact .inl h1
 by_cases h2:eh vs (fK a) (if behind then 39-x else x) y=true
 ·exact .inr h2
 rw[adx]at h1 h2
 have e:=(Cz h h1).trans ((congrArg (λl=>rT l _) hr).trans (Cz hv h2).symm)
 exfalso
 apply F
 unfold gP
 cases behind with
 |true=>simp only[abq]at e⊢;rw[e]
 |false=>simp only[abJ,if_false]at e⊢;rw[e]
end
section
section
variable {W:Words}{x0 x1 x2 x3 x4 x5 x6 x7:aed}{m:M}{R RP:aee->M->Nat->Prop}{CP:Fn->aee->M->(M->Nat->Prop)->Prop}
theorem YN:dm TE W Tryz.f242 [x0,x1] m R=ς W m x1 87 λa=>aj (cP x0) λb=>ε W 258 b 0 λb=>ε W 60 b 0 λb=>δ W a 31 b λb=>δ W a 87 (φ m) λc=>ψ W 317 [b,c] a λb c d=>(a.n<=d)/\(ξ W b 0 λa=>ξ W b 1 λb=>υ W c [aeg] 31 λf=>ι W f 31 (φ c) a λa f=>η W .eql 35 b (χ 0) λb=>ψ W 176 [b] a λ_ a b=>δ W a 31 (φ c) λc=>aj (cP x0) λg=>ε W 258 g 0 λg=>ε W 60 g 0 λg=>ι W a 31 g c λa c=>R [] a (min (min (min (min m.n d) f) b) c)):=by kernel_rfl
theorem YH:dm TE W Tryz.f252 [x0,x1] m R=aj (cP x0) λa=>ε W 258 a 0 λa=>ε W 60 a 0 λa=>δ W m 31 a λa=>ψ W 320 [a,x1] m λa b c=>ξ W a 0 λd=>ξ W a 1 λa=>υ W b [aeg] 31 λf=>ι W f 31 (φ b) d λd f=>η W .eql 35 a (χ 0) λa=>ψ W 176 [a] d λ_ a d=>δ W a 31 (φ b) λb=>aj (cP x0) λg=>ε W 258 g 0 λg=>ε W 60 g 0 λg=>ι W a 31 g b λa b=>R [] a (min (min (min (min m.n c) f) d) b):=by kernel_rfl
theorem YG:dm TE W Tryz.f253 [x0,x1] m R=ς W m x1 3 λa=>aj (cP x0) λb=>ε W 258 b 0 λb=>ε W 60 b 1 λb=>δ W a 58 b λb=>ψ W 321 [b,.func (.func 322) #[] #[φ m]] a λa b c=>aj (cP x0) λd=>ε W 258 d 0 λd=>ε W 60 d 1 λd=>ι W b 58 d a λa b=>R [] a (min (min m.n c) b):=by kernel_rfl
theorem YF:dm TE W Tryz.f257 [x0,x1] m R=υ W m [χ 0,χ 0,χ 0,aeg,χ 0,χ 0] 87 λa=>aj (cP x0) λb=>ε W 258 b 0 λb=>ε W 60 b 0 λb=>δ W a 31 b λb=>ψ W 98 [b,x1] a λa b c=>ξ W a 0 λd=>ξ W a 1 λa=>υ W b [χ 0,χ 0,χ 0,aeg,χ 0,χ 0] 87 λf=>ι W f 87 (φ b) d λd f=>ψ W 176 [a] d λ_ a d=>δ W a 87 (φ b) λb=>ι W a 87 (φ m) b λa b=>aj (ah TE a 87 (φ m)) λg=>R [g] a (min (min (min (min m.n c) f) d) b):=by kernel_rfl
theorem Yn:dm TE W Tryz.f283 [x0,x1,x2] m R=ς W m x1 3 λa=>aj (cP x0) λb=>ε W 258 b 0 λb=>ε W 60 b 1 λb=>δ W a 58 b λb=>ψ W 323 [b,.func (.func 329) #[] #[φ m]] a λa b c=>W.jn (λd=>η W .geq 3 a (χ 0) λf=>bD f (aj (cP x0) λf=>ε W 258 f 0 λf=>ε W 60 f 1 λf=>δ W b 58 f λf=>ζ W 58 f a λa=>ε W 89 a 4 λa=>δ W b 4 a λa=>η W .neq 4 a x2 λa=>ψ W 176 [a] b λ_ a b=>d [] a (min (min m.n c) b)) (ψ W 176 [aei] b λ_ a b=>d [] a (min (min m.n c) b))) (λ_ b c=>aj (cP x0) λd=>ε W 258 d 0 λd=>ε W 60 d 1 λd=>δ W b 58 d λd=>ζ W 58 d a λa=>ε W 89 a 4 λa=>ι W b 4 a x2 λa b=>R [] a (min c b)):=by kernel_rfl
theorem Yg:dm TE W Tryz.f322 [x0,x1] m R=ς W m x0 89 λa=>ε W 89 (φ m) 1 λb=>δ W a 3 b λb=>δ W a 3 x1 λc=>η W .eql 3 b c λb=>R [b] a m.n:=by kernel_rfl
theorem Yc:dm TE W Tryz.f329 [x0,x1] m R=ς W m x0 89 λa=>ε W 89 (φ m) 0 λb=>δ W a 3 b λb=>δ W a 3 x1 λc=>η W .eql 3 b c λb=>R [b] a m.n:=by kernel_rfl
theorem Yh:dm TE W Tryz.f321 [x0,x1] m R=ψ W 323 [x0,x1] m λa b c=>η W .eql 3 a (χ (-1)) λd=>bD d (R [x0] b (min m.n c)) (η W .add 3 a (χ 1) λd=>W.Lp (λa b c d=>W.un b λb f=>W.un f λf _=>κ W c .len [58] [x0] λg _=>η W .lss 3 f g λg=>bD g (ζ W 58 x0 f λg=>δ W c 89 g λg=>υ W c [χ 0,χ 0,χ 0,χ 0,aei] 89 λh=>ι W h 89 (φ c) g λg h=>δ W g 89 (φ c) λi=>jN x1 λj k l=>W.bt j (k.toList++([i]++l.toList)) g λg i j=>ο W .not g λg=>bD g (δ W i 89 (φ c) λc=>ζ W 58 x0 b λg=>ι W i 89 g c λc g=>η W .add 3 b (χ 1) λb=>η W .add 3 f (χ 1) λf=>a [b,f] c (min (min (min d h) j) g)) (η W .add 3 f (χ 1) λc=>a [b,c] i (min (min d h) j))) (W.aj (slice? TE c 58 x0 (some b) none none) λa=>κ W (M.wl c c.n) .clear [58] [a] λ_ a=>W.aj (slice? TE a 58 x0 none (some b) none) λb=>R [b] a (min d (M.low a)))) [a,d] b (min m.n c)):=by kernel_rfl
theorem Yb:dm TE W Tryz.f359 [x0,x1] m R=ψ W 138 [x0,x1] m λa b c=>η W .geq 3 a (χ 0) λa=>R [a] b (min m.n c):=by kernel_rfl
theorem Yj:dm TE W Tryz.f317 [x0,x1] m R=ς W m x0 31 λa=>ς W a x1 87 λb=>υ W b [aeg] 31 λc=>W.jn (λb=>δ W c 31 (φ m) λd=>ψ W 59 [d] c λc d f=>ο W .not c λc=>bD c (b [aeh] d (min m.n f)) (δ W d 87 (φ a) λa=>ψ W 120 [a] d λa c d=>ο W .not a λa=>bD a (b [aeh] c (min (min m.n f) d)) (ε W 31 (φ m) 0 λa=>δ W c 29 a λa=>κ W c .len [29] [a] λa _=>η W .eql 3 a (χ 12) λa=>b [a] c (min (min m.n f) d)))) (λc d f=>W.un c λc _=>bD c (θ W 31 [] λa=>ι W d 31 (φ b) a λa c=>aj (ah TE a 31 (φ b)) λb=>R [b,χ 120] a (min f c)) (ε W 31 (φ m) 0 λc=>δ W d 29 c λc=>ε W 87 (φ a) 0 λg=>δ W d 3 g λg=>ψ W 153 [c,g,.func (.func 154) #[] #[]] d λc d g=>ξ W c 0 λh=>ξ W c 1 λc=>W.jn (λb=>bD c (b [aeh] d (min f g)) (ε W 31 (φ m) 0 λc=>δ W d 29 c λc=>ψ W 359 [c,.func (.func 360) #[] #[φ a]] d λa c d=>b [a] c (min (min f g) d))) (λc d f=>W.un c λc _=>bD c (θ W 31 [] λa=>ι W d 31 (φ b) a λa c=>aj (ah TE a 31 (φ b)) λb=>R [b,χ 120] a (min f c)) (δ W d 31 (φ m) λc=>ψ W 361 [c] d λc d g=>υ W d [aeg] 31 λi=>ι W i 31 (φ d) c λc i=>ε W 87 (φ a) 3 λj=>δ W c 45 j λj=>ψ W 155 [j] c λc j k=>ε W 87 (φ a) 3 λl=>ι W j 45 l c λc j=>ε W 31 (φ d) 0 λl=>δ W c 29 l λl=>δ W c 87 (φ a) λa=>ν W c 29 1 [(0,a)] λa c=>ψ W 362 [l,h,a] c λa c h=>ε W 31 (φ d) 0 λl=>ι W c 29 l a λa c=>δ W a 31 (φ d) λd=>ι W a 31 (φ b) d λa d=>aj (ah TE a 31 (φ b)) λb=>R [b,χ 0] a (min (min (min (min (min (min (min f g) i) k) j) h) c) d))))):=by kernel_rfl
theorem Ya:dm TE W Tryz.f360 [x0,x1] m R=ς W m x0 87 λa=>δ W a 87 x1 λb=>δ W a 87 (φ m) λc=>ψ W 129 [b,c] a λa b c=>R [a] b (min m.n c):=by kernel_rfl
theorem Yi:dm TE W Tryz.f320 [x0,x1] m R=ς W m x0 31 λa=>υ W a [aeg] 31 λb=>δ W b 31 (φ m) λc=>ψ W 59 [c] b λb c d=>ο W .not b λb=>bD b (θ W 31 [] λb=>ι W c 31 (φ a) b λb c=>aj (ah TE b 31 (φ a)) λa=>R [a,χ 120] b (min (min m.n d) c)) (ε W 31 (φ m) 0 λb=>δ W c 29 b λb=>ψ W 153 [b,x1,.func (.func 154) #[] #[]] c λb c f=>ξ W b 0 λg=>ξ W b 1 λb=>ο W .not b λb=>bD b (θ W 31 [] λb=>ι W c 31 (φ a) b λb c=>aj (ah TE b 31 (φ a)) λa=>R [a,χ 120] b (min (min (min m.n d) f) c)) (δ W c 31 (φ m) λb=>ψ W 361 [b] c λb c h=>υ W c [aeg] 31 λi=>ι W i 31 (φ c) b λb i=>ε W 31 (φ c) 0 λj=>δ W b 29 j λj=>η W .add 3 g (χ 1) λk=>ψ W 364 [j,g,k] b λb g j=>ε W 31 (φ c) 0 λk=>ι W g 29 k b λb g=>δ W b 31 (φ c) λc=>ι W b 31 (φ a) c λb c=>aj (ah TE b 31 (φ a)) λa=>R [a,χ 0] b (min (min (min (min (min (min (min m.n d) f) h) i) j) g) c))):=by kernel_rfl
theorem XZ:dm TE W Tryz.f361 [x0] m R=ς W m x0 31 λa=>υ W a [aeg] 31 λb=>ε W 31 (φ m) 0 λc=>δ W b 29 c λc=>ψ W 379 [c] b λb c d=>θ W 31 [(0,b)] λb=>υ W c [aeg] 31 λf=>ι W f 31 (φ c) b λb f=>ε W 31 (φ c) 0 λg=>δ W b 29 g λg=>κ W b .len [29] [g] λg _=>W.Lp (λb d f h=>W.un d λd _=>η W .lss 3 d g λg=>bD g (ε W 31 (φ c) 0 λa=>δ W f 29 a λa=>ε W 31 (φ c) 0 λc=>δ W f 29 c λc=>ζ W 29 c d λc=>ε W 87 c 3 λc=>δ W f 45 c λc=>ψ W 155 [c] f λc g i=>(f.n<=i)/\(ζ W 29 a d λa=>ε W 87 a 3 λa=>ι W g 45 a c λa c=>η W .add 3 d (χ 1) λd=>b [d] a (min (min h i) c))) (δ W f 31 (φ c) λb=>ι W f 31 (φ a) b λb c=>aj (ah TE b 31 (φ a)) λa=>R [a] b (min h c))) [χ 0] b (min (min m.n d) f):=by kernel_rfl
theorem YA:dm TE W Tryz.f264 [x0,x1,x2] m R=ς W m x0 45 λa=>W.jn (λb=>δ W a 45 (φ m) λc=>ψ W 157 [c] a λa c d=>ο W .not a λa=>bD a (b [aeh] c (min m.n d)) (κ W c .min [3,3] [x1,x2] λa _=>η W .lss 3 a (χ 0) λa=>bD a (b [aeh] c (min m.n d)) (κ W c .max [3,3] [x1,x2] λa _=>δ W c 45 (φ m) λf=>κ W c .len [45] [f] λf _=>η W .geq 3 a f λa=>b [a] c (min m.n d)))) (λa b c=>W.un a λa _=>bD a (R [aeg,aeg,χ 70] b c) (ψ W 324 [x1,x2,φ m] b λa b d=>ψ W 324 [x2,x1,φ m] b λb f g=>κ W f .len [45] [a] λh _=>κ W f .len [45] [b] λi _=>κ W f .min [3,3] [h,i] λh _=>η W .lss 3 h (χ 3) λh=>bD h (R [aeg,aeg,χ 70] f (min (min c d) g)) (R [a,b,χ 0] f (min (min c d) g)))):=by kernel_rfl
theorem Yf:dm TE W Tryz.f324 [x0,x1,x2] m R=η W .leq 3 x0 x1 λa=>bD a (δ W m 45 x2 λa=>η W .add 3 x1 (χ 1) λb=>W.aj (slice? TE m 45 a (some x0) (some b) none) λa=>ψ W 155 [a] m λa b c=>R [a] b (min m.n c)) (δ W m 45 x2 λa=>W.aj (slice? TE m 45 a (some x0) none none) λa=>δ W m 45 x2 λb=>η W .add 3 x1 (χ 1) λc=>W.aj (slice? TE m 45 b none (some c) none) λb=>ν W m 386 2 [(0,a),(1,b)] λa b=>ψ W 325 [a] b λa b c=>R [a] b (min m.n c)):=by kernel_rfl
theorem Ye:dm TE W Tryz.f325 [x0] m R=κ W m .len [386] [x0] λa _=>W.Lp (λb c d f=>W.un c λc g=>W.un g λg _=>η W .lss 3 g a λa=>bD a (ζ W 386 x0 g λa=>δ W d 45 a λa=>κ W d .len [45] [a] λa _=>η W .add 3 c a λa=>η W .lss 3 a (χ 0) λc=>bD c False (η W .add 3 g (χ 1) λc=>b [a,c] d f)) (ψ W 365 [aeg,c] d λa b c=>κ W b .len [386] [x0] λd _=>W.Lp (λa b c f=>W.un b λb g=>W.un g λg _=>η W .lss 3 g d λd=>bD d (ζ W 386 x0 g λd=>δ W c 45 d λd=>κ W (M.wl c c.n) .append [45,45] [b,d] λb c=>η W .add 3 g (χ 1) λd=>a [b,d] c (min f (M.low c))) (R [b] c f)) [a,χ 0] b (min f c))) [χ 0,χ 0] m m.n:=by kernel_rfl
theorem F6:dm TE W Tryz.f6 [x0,x1] m R=ς W m x0 57 λa=>ς W a x1 85 λb=>ψ W 8 [] b λb c d=>ο W .not b λf=>bD f (R [aei] c (min m.n d)) (δ W c 57 (φ m) λf=>ψ W 34 [f] c λc f g=>υ W f [aeg,aeg] 60 λh=>ι W h 60 (φ f) c λc h=>δ W c 60 (φ f) λi=>δ W c 85 (φ a) λa=>ψ W 41 [i,a] c λa c i=>υ W c [χ 0,χ 0,χ 0,χ 0,aeg,χ 0,χ 0,χ 0,χ 0,χ 0,χ 0,χ 0,χ 0,χ 0,aei] 91 λj=>ι W j 91 (φ c) a λa j=>δ W a 60 (φ f) λk=>δ W a 91 (φ c) λl=>ψ W 42 [k,l] a λa k l=>ξ W a 0 λn=>ξ W a 1 λa=>υ W k [aeg,aeg] 60 λo=>ι W o 60 (φ k) n λn o=>η W .neq 35 a (χ 0) λa=>bD a (R [b] n (min (min (min (min (min (min (min m.n d) g) h) i) j) l) o)) (δ W n 91 (φ c) λa=>ψ W 43 [a] n λa n p=>ξ W a 0 λq=>ξ W a 1 λ_=>ν W n 96 2 [(0,aei),(1,aeh)] λa n=>κ W n .len [96] [a] λr _=>W.Lp (λd g h i=>W.un g λg j=>W.un j λj _=>η W .lss 3 j r λl=>bD l (ζ W 96 a j λa=>δ W h 4 a λa=>ε W 60 (φ f) 0 λb=>δ W h 31 b λb=>ψ W 11 [b,a] h λb h l=>ξ W b 0 λn=>ξ W b 1 λb=>υ W h [χ 0,χ 0,aeg] 27 λo=>ι W o 27 (φ h) n λn o=>ε W 60 (φ k) 0 λp=>δ W n 31 p λp=>ψ W 11 [p,a] n λn p r=>ξ W n 0 λs=>ξ W n 1 λn=>υ W p [χ 0,χ 0,aeg] 27 λt=>ι W t 27 (φ p) s λs t=>δ W s 27 (φ h) λu=>δ W s 27 (φ p) λv=>ψ W 21 [u,v] s λs u v=>ξ W s 0 λw=>ξ W s 1 λs=>W.jn (λa=>η W .neq 35 b (χ 0) λb=>bD b (a [aeh] u (min (min (min (min (min i l) o) r) t) v)) (η W .neq 35 n (χ 0) λb=>bD b (a [aeh] u (min (min (min (min (min i l) o) r) t) v)) (η W .neq 35 s (χ 0) λb=>bD b (a [aeh] u (min (min (min (min (min i l) o) r) t) v)) (κ W u .len [45] [w] λb _=>η W .gtr 3 b (χ 0) λb=>bD b (ε W 91 (φ c) 0 λb=>δ W u 3 b λb=>η W .eql 3 b (χ 5) λb=>bD b (a [aeh] u (min (min (min (min (min i l) o) r) t) v)) (ε W 91 (φ c) 0 λb=>δ W u 3 b λb=>η W .eql 3 b (χ 6) λb=>bD b (a [aeh] u (min (min (min (min (min i l) o) r) t) v)) (ε W 91 (φ c) 0 λb=>δ W u 3 b λb=>η W .eql 3 b (χ 7) λb=>a [b] u (min (min (min (min (min i l) o) r) t) v)))) (a [aei] u (min (min (min (min (min i l) o) r) t) v)))))) (λb c i=>W.un b λb _=>bD b (R [aei] c i) (W.Lp (λb c g i=>W.un c λc l=>W.un l λl _=>κ W g .len [45] [w] λn _=>η W .lss 3 l n λn=>bD n (ζ W 45 w l λd=>ε W 98 d 0 λd=>δ W g 3 d λd=>bD a (η W .sub 3 (χ 39) d λa=>W.jn (λb=>δ W g 27 (φ h) λc=>ζ W 45 w l λd=>ε W 98 d 0 λd=>δ W g 3 d λd=>ζ W 45 w l λh=>ε W 98 h 1 λh=>δ W g 3 h λh=>ψ W 44 [c,d,h] g λc d h=>(g.n<=h)/\(δ W d 27 (φ p) λg=>ζ W 45 w l λj=>ε W 98 j 0 λj=>δ W d 3 j λj=>ζ W 45 w l λn=>ε W 98 n 1 λn=>δ W d 3 n λn=>ψ W 44 [g,j,n] d λd g j=>η W .eql 3 c d λc=>bD c (b [aeh] g (min (min i h) j)) (ε W 60 (φ f) 0 λc=>δ W g 31 c λc=>ζ W 45 w l λd=>ε W 98 d 1 λd=>δ W g 3 d λd=>ψ W 45 [c,q,a,d] g λc d f=>ο W .not c λc=>bD c (ε W 60 (φ k) 0 λc=>δ W d 31 c λc=>ζ W 45 w l λg=>ε W 98 g 1 λg=>δ W d 3 g λg=>ψ W 45 [c,q,a,g] d λa c d=>ο W .not a λa=>b [a] c (min (min (min (min i h) j) f) d)) (b [aei] d (min (min (min i h) j) f))))) (λa d f=>W.un a λa _=>bD a (R [aei] d f) (η W .add 3 l (χ 1) λa=>b [c,a] d f))) (W.jn (λa=>δ W g 27 (φ h) λb=>ζ W 45 w l λc=>ε W 98 c 0 λc=>δ W g 3 c λc=>ζ W 45 w l λh=>ε W 98 h 1 λh=>δ W g 3 h λh=>ψ W 44 [b,c,h] g λb c h=>(g.n<=h)/\(δ W c 27 (φ p) λg=>ζ W 45 w l λj=>ε W 98 j 0 λj=>δ W c 3 j λj=>ζ W 45 w l λn=>ε W 98 n 1 λn=>δ W c 3 n λn=>ψ W 44 [g,j,n] c λc g j=>η W .eql 3 b c λb=>bD b (a [aeh] g (min (min i h) j)) (ε W 60 (φ f) 0 λb=>δ W g 31 b λb=>ζ W 45 w l λc=>ε W 98 c 1 λc=>δ W g 3 c λc=>ψ W 45 [b,q,d,c] g λb c f=>ο W .not b λb=>bD b (ε W 60 (φ k) 0 λb=>δ W c 31 b λb=>ζ W 45 w l λg=>ε W 98 g 1 λg=>δ W c 3 g λg=>ψ W 45 [b,q,d,g] c λb c d=>ο W .not b λb=>a [b] c (min (min (min (min i h) j) f) d)) (a [aei] c (min (min (min i h) j) f))))) (λa d f=>W.un a λa _=>bD a (R [aei] d f) (η W .add 3 l (χ 1) λa=>b [c,a] d f)))) (η W .add 3 j (χ 1) λa=>d [c,a] g i)) [g,χ 0] c i))) (R [b] h i)) [aei,χ 0] n (min (min (min (min (min (min (min (min m.n d) g) h) i) j) l) o) p))):=by kernel_rfl
theorem Zc:dm TE W Tryz.f176 [x0] m R=ο W .not x0 λa=>bD a (θ W 254 [] λ_=>False) (R [] m m.n):=by kernel_rfl
theorem XY:dm TE W Tryz.f362 [x0,x1,x2] m R=W.aj (slice? TE m 29 x0 (some x1) none none) λ_=>κ W m .len [29] [x2] λa _=>η W .eql 3 a (χ 0) λb=>bD b (R [x0] m m.n) (κ W m .len [29] [x0] λb _=>η W .eql 3 x1 b λc=>bD c (κ W (M.wl m m.n) .append [29,29] [x0,x2] λa b=>R [a] b (min m.n (M.low b))) (η W .add 3 b a λc=>κ W m .cap [29] [x0] λd _=>η W .gtr 3 c d λc=>bD c (W.aj (slice? TE m 29 x0 none (some x1) none) λc=>η W .add 3 b a λb=>η W .sub 3 b x1 λb=>κ W (M.wl m m.n) .append [29,3] [c,b] λb c=>W.aj (slice? TE c 29 b (some x1) none none) λd=>κ W (M.wl c c.n) .copy [29,29] [d,x2] λ_ d=>η W .add 3 x1 a λa=>W.aj (slice? TE d 29 b (some a) none none) λa=>W.aj (slice? TE d 29 x0 (some x1) none none) λf=>κ W (M.wl d d.n) .copy [29,29] [a,f] λ_ a=>R [b] a (min (min (min m.n (M.low c)) (M.low d)) (M.low a))) (η W .add 3 b a λc=>W.aj (slice? TE m 29 x0 none (some c) none) λc=>η W .add 3 x1 a λd=>W.aj (slice? TE m 29 c (some d) none none) λd=>ψ W 380 [x2,d] m λd f g=>ο W .not d λd=>bD d (η W .add 3 x1 a λa=>W.aj (slice? TE f 29 c (some a) none none) λa=>W.aj (slice? TE f 29 c (some x1) none none) λb=>κ W (M.wl f f.n) .copy [29,29] [a,b] λ_ a=>W.aj (slice? TE a 29 c (some x1) none none) λb=>κ W (M.wl a a.n) .copy [29,29] [b,x2] λ_ b=>R [c] b (min (min (min m.n g) (M.low a)) (M.low b))) (W.aj (slice? TE f 29 c (some b) none none) λb=>κ W (M.wl f f.n) .copy [29,29] [b,x2] λ_ b=>W.aj (slice? TE b 29 c (some x1) none none) λd=>ψ W 381 [d,a] b λ_ a d=>R [c] a (min (min (min m.n g) (M.low b)) d))))):=by kernel_rfl
theorem Yp:dm TE W Tryz.f280 [x0,x1,x2] m R=W.aj (slice? TE m 58 x0 (some x1) none none) λ_=>κ W m .len [58] [x2] λa _=>η W .eql 3 a (χ 0) λb=>bD b (R [x0] m m.n) (κ W m .len [58] [x0] λb _=>η W .eql 3 x1 b λc=>bD c (κ W (M.wl m m.n) .append [58,58] [x0,x2] λa b=>R [a] b (min m.n (M.low b))) (η W .add 3 b a λc=>κ W m .cap [58] [x0] λd _=>η W .gtr 3 c d λc=>bD c (W.aj (slice? TE m 58 x0 none (some x1) none) λc=>η W .add 3 b a λb=>η W .sub 3 b x1 λb=>κ W (M.wl m m.n) .append [58,3] [c,b] λb c=>W.aj (slice? TE c 58 b (some x1) none none) λd=>κ W (M.wl c c.n) .copy [58,58] [d,x2] λ_ d=>η W .add 3 x1 a λa=>W.aj (slice? TE d 58 b (some a) none none) λa=>W.aj (slice? TE d 58 x0 (some x1) none none) λf=>κ W (M.wl d d.n) .copy [58,58] [a,f] λ_ a=>R [b] a (min (min (min m.n (M.low c)) (M.low d)) (M.low a))) (η W .add 3 b a λc=>W.aj (slice? TE m 58 x0 none (some c) none) λc=>η W .add 3 x1 a λd=>W.aj (slice? TE m 58 c (some d) none none) λd=>ψ W 327 [x2,d] m λd f g=>ο W .not d λd=>bD d (η W .add 3 x1 a λa=>W.aj (slice? TE f 58 c (some a) none none) λa=>W.aj (slice? TE f 58 c (some x1) none none) λb=>κ W (M.wl f f.n) .copy [58,58] [a,b] λ_ a=>W.aj (slice? TE a 58 c (some x1) none none) λb=>κ W (M.wl a a.n) .copy [58,58] [b,x2] λ_ b=>R [c] b (min (min (min m.n g) (M.low a)) (M.low b))) (W.aj (slice? TE f 58 c (some b) none none) λb=>κ W (M.wl f f.n) .copy [58,58] [b,x2] λ_ b=>W.aj (slice? TE b 58 c (some x1) none none) λd=>ψ W 328 [d,a] b λ_ a d=>R [c] a (min (min (min m.n g) (M.low b)) d))))):=by kernel_rfl
end
end
end Go.Proofs.YtmdfgncoekfgdaaGreatDoor
