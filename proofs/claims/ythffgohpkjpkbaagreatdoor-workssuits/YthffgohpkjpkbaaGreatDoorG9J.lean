/- putlogref12.Contacts. -/
import Derived.Test.YthffgohpkjpkbaaGreatDoorG8J
set_option linter.defProp false
set_option maxRecDepth 100000
noncomputable section
namespace Go.Proofs.YthffgohpkjpkbaaGreatDoor
open Go Go.D Go.Proofs.Tryz
variable{us vs:List Un}{F H ms:List Mk}{a b:Int}{x:Mk}{mo r r2 rc st w w':Φ}{m' m'':M}{g:Option Nat}
variable{X:aF}{m:M}
def yC(us:List Un)(i:Nat):List Ct:=match us[i]? with
 |some u=>(fS u).toList++(us.drop (i+1)).filterMap (fH u)
 |none=> []
def mY(us:List Un)(i:Nat):List Ct:=(List.range i).flatMap (yC us)
def yB(us:List Un):List Ct:=if iV us=true then mY us us.length else []
def qB(us:List Un)(i:Nat):mY us (i+1)=mY us i++yC us i:=by unfold mY;rw[ZH,OQ];simp
def adR(us:List Un)(i:Nat):(yC us i).length<=us.length+1:=by unfold yC;grind
theorem rY(us:List Un):∀i,(mY us i).length<=i*(us.length+1)
 |0=>by simp[mY]
 |i+1=>by rw[qB,ZE,PE];have:=rY us i;have:=adR us i;omega
def Qh{α:Type}[aQ α]{l:List α}{r:Φ}{m':M}{lo:Nat}{Q:Prop}(hQ:Q)(h:Ow m.n m' l r)(F:m.n<=lo)(hx:Ext m m'):
  (aZ (aM [r])/\m.n<=lo/\(Q/\Ext m m/\Ow m.n m l r))\/((aZ (aM [r])=false\/lo<m.n)/\(min m.n lo=m.n/\Ext m m'/\Ow m.n m' l r)):=by by_cases H:l=[];subst H;rcases h with⟨rfl,_⟩|⟨b,cs,h1,h⟩;exact .inl ⟨rfl,F,hQ,.refl,Ow.nil⟩;grind;obtain⟨b,rfl,_⟩:=pZ h H;exact .inr ⟨.inl rfl,ac,hx,h⟩
theorem E4(hX:cy X){l:List UW}{v:Φ}(h:cC m l v)(hlen:l.length<1000000):
  ∃r m',C X (.func 45) [.agg #[v]] m m.n r m'/\Ext m m'/\Ow m.n m' (yB (bH l)) r:=by
 apply Cl.kI hX (Us func45);rw[F45];dsimp only[aG];refine ah λm1 e2 j0 k1=>?_;have j0:m1.get m.n=.cells [v] 29 none:=j0;have B0:Ext m m1:=⟨ac,k1⟩;have y0:=h.ak B0;unfold ptrTo;simp only[bk,ae];rw[show aC TE m1 29 (Ψ m.n 0)=some (.agg #[v]) by rw[cY,aI j0 co];rfl,ae];apply aw (nS hX y0 hlen);rw[bB,ae,ag];refine af (λc=>?_) (λc=>?_);rw[UC]at c;refine Qh (m':=m1) be ?_ ac B0;unfold yB;rw[MO be];exact Ow.nil;rw[UY]at c;have hP:=qi.1 c;have T1:l.length<=12:=(by have:=hP.len;rwa[cE]at this);have l1:(bH l).length=l.length:=cE;have O0:∀{m':M},m'.get m.n=.cells [v] 29 none->aC TE m' 27 (Ψ m.n (0+0))=some v:=λh=>(by rw[dX,aH h];rfl);refine Lp.intro (γ:=Nat) (λi=>l.length-i) (λi vs mm lo=>∃r,vs=[r,ν i]/\i<=l.length/\Ext m1 mm/\m.n<=lo/\Ow m1.n mm (mY (bH l) i) r) 0 ⟨_,rfl,ZX _,.refl,ac,Ow.nil⟩ ?_;rintro i vs mm lo ⟨r,rfl,hi,k0,g2,ho⟩;have nm:=k0.n;have hF:=y0.ak k0;rw[av,av,O0 (k0.cells j0),ae,hF.sl.len cM,an,aK,ae,ag];refine af (λP0=>?_) (λo1=>?_);have P0:i<l.length:=be;obtain⟨x,hx⟩:∃x,l[i]?=some x:=⟨_,Np P0⟩;have e0:=Jc hx;have u1:=kh hx;have h2:=rY (bH l) i;have Gi:i*((bH l).length+1)<=12*13:=M3 ac ac;have⟨q,q1,q2,ow⟩:=hF.sl.gh (k:=.i64) hx;rw[ae,q1,ae,q2,ae];apply aw (abu hX (hF.sh x e0) (hF.ln x e0));rw[aD,aD];simp only[LB,IM,ae];refine ah λi2 a2 Q0 b2=>?_;refine aj uC Q0 (by rw[bd];exact eR _) (by rw[bd];exact eR _) (by rw[bd];exact nn _) λa1 c2 h0 d2=>?_;rw[bd]at h0;have h0:a1.get mm.n=.cells (Dv (fS x.u)) 50 none:=h0;have A0:Ext mm a1:=⟨ac,be⟩;have b1:=ho.ak A0;have l0:=k0.trans A0;have c1:yC (bH l) i=(fS x.u).toList++((bH l).drop (i+1)).filterMap (fH x.u):=(by unfold yC;rw[u1]);rw[ag]
 (cases hs:fS x.u with|some t=>show lI true _ _;rw[hs]at h0;rw[bN,Fo h0,ae];refine jx (x:=t) JV rfl b1 ac ac I2 (λ_=>rfl) λr1 v1 w2 n2 k2 d1 l2=>?_;rw[aL,ae,wrap64];have e1:Ext m1 v1:=⟨ac,λc hc=>by rw[k2 c hc,l0.get c hc]⟩;refine Lp.intro (γ:=Nat) (λd=>l.length-d) (λd vs mm lo=>∃r,vs=[r,ν ((i+1+d:Nat):Int)]/\i+1+d<=l.length/\Ext m1 mm/\m.n<=lo/\Ow m1.n mm (mY (bH l) i++((fS x.u).toList++(((bH l).drop (i+1)).take d).filterMap (fH x.u))) r) 0 ⟨r1,rfl,ac,e1,ac,be⟩ ?_;rintro d vs n0 ja ⟨r,rfl,hd,F,o0,g0⟩;have w1:=F.n;have b0:=y0.ak F;rw[av,av,O0 (F.cells j0),ae,b0.sl.len cM,an,aK,ae,ag];refine af (λi0=>?_) (λp0=>?_);have i0:i+1+d<l.length:=be;obtain⟨y,hy⟩:∃y,l[i+1+d]?=some y:=⟨_,Np i0⟩;have q0:=Jc hy;have⟨p,p1,p2,pw⟩:=b0.sl.gh (k:=.i64) hx;have⟨z,z1,z2,zw⟩:=b0.sl.gh (k:=.i64) hy;have r0:((bH l).drop (i+1)).take (d+1)=((bH l).drop (i+1)).take d++ [y.u]:=(by rw[Tv,Ns,kh hy];rfl);have y1:=UF (fH x.u) (((bH l).drop (i+1)).take d);have A1:(((bH l).drop (i+1)).take d).length<=d:=be;have B1:(fS x.u).toList.length<=1:=be;rw[ae,p1,ae,p2,ae,ae,z1,ae,z2,ae];refine aw (tQ hX (b0.sh x e0) (b0.sh y q0) (b0.ln x e0) (b0.ln y q0)) ⟨Aj _,?_⟩;rw[aD,aD];simp only[LB,IM,ae];refine ah λG1 g1 s0 h1=>?_;refine aj uC s0 (by rw[bd];exact eR _) (by rw[bd];exact eR _) (by rw[bd];exact nn _) λu0 i1 H j1=>?_;rw[bd]at H;have H:u0.get n0.n=.cells (Dv (fH x.u y.u)) 50 none:=H;have d0:Ext n0 u0:=⟨ac,be⟩;rw[ag];(cases ht:fH x.u y.u with|none=>show lI false _ _;rw[aT,aL,ae,wrap64];refine⟨d+1,ac,r,rfl,ac,F.trans d0,ac,?_⟩;rw[r0,Vh,WT,ht,Pm,Vy];exact g0.ak d0|some t=>show lI true _ _;rw[ht]at H;rw[bN,Fo H,ae];refine jx (x:=t) JV rfl (g0.ak d0) ac be I2 (λ_=>rfl) λr' H1 w2 n2 k2 d1 l2=>?_;rw[aL,ae,wrap64];refine⟨d+1,ac,r',rfl,ac,⟨ac,λc hc=>by rw[k2 c hc,d0.get c ac,F.get c hc]⟩,ac,?_⟩;rw[r0,Vh,WT,ht,Pm];rw[<-ZA,<-ZA];rw[<-ZA]at w2;exact w2);have K1:i+1+d=l.length:=(by have:¬((i+1+d:Nat):Int)< (l.length:Int):=LL p0;omega);rw[ae];refine⟨i+1,ac,r,rfl,ac,F,o0,?_⟩;rw[qB,c1];rw[Vq be]at g0;exact g0|none=>show lI false _ _;rw[aT,aL,ae,wrap64];refine Lp.intro (γ:=Nat) (λd=>l.length-d) (λd vs mm lo=>∃r,vs=[r,ν ((i+1+d:Nat):Int)]/\i+1+d<=l.length/\Ext m1 mm/\m.n<=lo/\Ow m1.n mm (mY (bH l) i++((fS x.u).toList++(((bH l).drop (i+1)).take d).filterMap (fH x.u))) r) 0 ⟨r,rfl,ac,l0,ac,be⟩ ?_;rintro d vs n0 ja ⟨r,rfl,hd,F,o0,g0⟩;have w1:=F.n;have b0:=y0.ak F;rw[av,av,O0 (F.cells j0),ae,b0.sl.len cM,an,aK,ae,ag];refine af (λi0=>?_) (λp0=>?_);have i0:i+1+d<l.length:=be;obtain⟨y,hy⟩:∃y,l[i+1+d]?=some y:=⟨_,Np i0⟩;have q0:=Jc hy;have⟨p,p1,p2,pw⟩:=b0.sl.gh (k:=.i64) hx;have⟨z,z1,z2,zw⟩:=b0.sl.gh (k:=.i64) hy;have r0:((bH l).drop (i+1)).take (d+1)=((bH l).drop (i+1)).take d++ [y.u]:=(by rw[Tv,Ns,kh hy];rfl);have y1:=UF (fH x.u) (((bH l).drop (i+1)).take d);have A1:(((bH l).drop (i+1)).take d).length<=d:=be;have B1:(fS x.u).toList.length<=1:=be;rw[ae,p1,ae,p2,ae,ae,z1,ae,z2,ae];refine aw (tQ hX (b0.sh x e0) (b0.sh y q0) (b0.ln x e0) (b0.ln y q0)) ⟨Aj _,?_⟩;rw[aD,aD];simp only[LB,IM,ae];refine ah λG1 g1 s0 h1=>?_;refine aj uC s0 (by rw[bd];exact eR _) (by rw[bd];exact eR _) (by rw[bd];exact nn _) λu0 i1 H j1=>?_;rw[bd]at H;have H:u0.get n0.n=.cells (Dv (fH x.u y.u)) 50 none:=H;have d0:Ext n0 u0:=⟨ac,be⟩;rw[ag];(cases ht:fH x.u y.u with|none=>show lI false _ _;rw[aT,aL,ae,wrap64];refine⟨d+1,ac,r,rfl,ac,F.trans d0,ac,?_⟩;rw[r0,Vh,WT,ht,Pm,Vy];exact g0.ak d0|some t=>show lI true _ _;rw[ht]at H;rw[bN,Fo H,ae];refine jx (x:=t) JV rfl (g0.ak d0) ac be I2 (λ_=>rfl) λr' H1 w2 n2 k2 d1 l2=>?_;rw[aL,ae,wrap64];refine⟨d+1,ac,r',rfl,ac,⟨ac,λc hc=>by rw[k2 c hc,d0.get c ac,F.get c hc]⟩,ac,?_⟩;rw[r0,Vh,WT,ht,Pm];rw[<-ZA,<-ZA];rw[<-ZA]at w2;exact w2);have K1:i+1+d=l.length:=(by have:¬((i+1+d:Nat):Int)< (l.length:Int):=LL p0;omega);rw[ae];refine⟨i+1,ac,r,rfl,ac,F,o0,?_⟩;rw[qB,c1];rw[Vq be]at g0;exact g0)
 have O1:i=l.length:=(by have:¬(i:Int)< (l.length:Int):=LL o1;omega);subst O1;refine Qh (m':=mm) be ?_ ac (B0.trans k0);unfold yB;rw[QL c,l1];exact ho.mono ac
def jv{α:Type}(f:α->Int)(l:List α)(x:α):List α:=(l.filter λy=>decide (f y < f x))++x::(l.filter λy=>decide (f x < f y))
theorem uj{α:Type}(f:α->Int)(x:α):∀{l:List α},(∀y∈l,f y≠f x)->(jv f l x).Perm (x::l)
 |[],_=>List.Perm.refl _
 |a::r,h=>by have h0:=h a UA;have F:=uj f x (l:=r) λy H=>h y (De _ H);unfold jv at F⊢;rw[LP,LP];by_cases e:f a<f x;rw[QL be,MO be,UP];exact(F.cons a).trans (List.Perm.swap x a r);rw[MO be,QL be];have:=(List.perm_middle (a:=a) (l₁:=(r.filter λy=>decide (f y<f x))++ [x]) (l₂:=r.filter λy=>decide (f x<f y)));simp only[ZA,UP,List.nil_append]at this;exact this.trans ((F.cons a).trans (List.Perm.swap x a r))
def Rb{α:Type}{f:α->Int}{x:α}{l:List α}(h:l.Pairwise λa b=>f a<f b):(jv f l x).Pairwise λa b=>f a<f b:=by unfold jv;rw[OE,PU];refine⟨h.filter _,⟨be,h.filter _⟩,λa F b H=>?_⟩;grind
structure Tk where
 kind:Int
 un:Un
 id:Int
 other:Int
 side:Int
 cD:Int
structure Kp where
 un:Un
 ms:List Mk
structure Mo where
 a:Int
 b:Int
 cD:Int
structure Yd where
 us:List Un
 ms:List Mk
 st:List Kp
 rc:List Fc
 mo:List Mo
def dY(t:Tk):Bool:=
 if t.kind=1 then jD t.un && di t.un.kind 6 8 && decide (t.id=0) && decide (t.other=0) && decide (t.side=0) && decide (t.cD=0)
 else if t.kind=2\/t.kind=3\/t.kind=6\/t.kind=7 then eo t.un && decide (t.un.id=0) && di t.id 0 99 && decide (t.other=0) && decide (t.side=0) && decide (t.cD=0)
 else if t.kind=4 then eo t.un && decide (t.un.id=0) && di t.id 0 99 && decide (t.other=0) && decide (t.side=0) && di t.cD 0 7
 else if t.kind=5\/t.kind=8 then eo t.un && decide (t.un.id=0) && di t.id 0 99 && decide (t.other=0) && di t.side (-2) 7 && decide (t.cD=0)
 else if t.kind=9 then eo t.un && decide (t.un.id=0) && di t.id 0 99 && di t.other 0 99 && decide (t.side=0) && di t.cD 0 7 && decide (t.id < t.other)
 else false
def oh(a b:Fc):Prop:=a.un < b.un\/a.un=b.un/\a.side < b.side
def nB(a b:Mo):Prop:=a.a < b.a\/a.a=b.a/\a.b < b.b
instance (a b:Fc):Decidable (oh a b):=by unfold oh;infer_instance
instance (a b:Mo):Decidable (nB a b):=by unfold nB;infer_instance
def allM(ms:List Mk)(st:List Kp):List Mk:=ms++st.flatMap Kp.ms
structure rG(y:Yd):Prop where
 qj:cq y.us
 Db:fE y.us y.ms
 Tc:y.st.length<=12
 WY:y.rc.length<=60
 QD:y.mo.length<=20
 zg:y.st.Pairwise λa b=>a.un.id < b.un.id
 off:∀k∈y.st,∀u∈y.us,u.id≠k.un.id
 QZ:∀k∈y.st,cq [k.un]
 Hp:∀k∈y.st,fE [k.un] k.ms
 nod:((allM y.ms y.st).map Mk.id).Nodup
 Ma:(allM y.ms y.st).length<=20
 zZ:∀f∈y.rc,(0<=f.un/\f.un<=99)/\ -2<=f.side/\f.side<=7
 Bz:y.rc.Pairwise oh
 I7:∀x∈y.mo,0<=x.a/\x.a < x.b/\x.b<=99/\0<=x.cD/\x.cD<=7
 Ea:y.mo.Pairwise nB
def Ac.bare(k:Int):Ac:=⟨k,⟨0,0,0,[],0,0⟩,0,0,0,⟨0,0,0,0,false⟩⟩
def cQ(u:Un):Ac:={Ac.bare 1 with un:=u}
def gG(k id:Int):Ac:={Ac.bare k with id:=id}
def iM(x:Mk):Ac:={Ac.bare 5 with oG:=x}
def oo(us:List Un)(id side:Int):Bool:=match cp us id with
 |some u=>decide (side= -1) ||decide (side= -2) ||decide (0<=side) && decide (side < (u.shape.length:Int))
 |none=>false
def lM(t:Tk)(x:Mk):Bool:=decide (x.un=t.id) && decide (x.side=t.side) && x.Gh && (decide (x.kind=1) ||decide (x.kind=4) ||decide (x.kind=5))
def fN(touch:Un->Un->Bool)(suits softer:Int->Int->Bool)(y:Yd)(t:Tk):Option (List Ac):=
 if t.kind=1 then(if(y.st.any λk=>decide (k.un.id=t.un.id))=true then none else some [cQ t.un])
 else if t.kind=2 then(if((cp y.us t.id).isSome && decide (y.st.length < 12))=true then some [gG 2 t.id]else none)
 else if t.kind=3 then(y.st.find? λk=>decide (k.un.id=t.id)).map λk=>cQ k.un::k.ms.map iM
 else if t.kind=4 then(cp y.us t.id).bind λu=>if(y.us.all λv=> !touch u v ||suits t.cD v.cD)=true then some [gG 2 t.id,cQ {u with cD:=t.cD}]else none
 else if t.kind=5 then(if oo y.us t.id t.side=true then some ((y.ms.filter (lM t)).map λx=>gG 6 x.id)else none)
 else if t.kind=6 then some [gG 7 t.id]
 else if t.kind=7 then some [gG 6 t.id]
 else if t.kind=8 then(if(oo y.us t.id t.side && (decide (y.rc.length < 60) ||decide ((⟨t.id,t.side⟩:Fc)∈y.rc)))=true then some []else none)
 else(cp y.us t.id).bind λu=>(cp y.us t.other).bind λv=>if(touch u v && softer t.cD u.cD && softer t.cD v.cD && (decide (y.mo.length < 20) ||y.mo.any λx=>decide (x.a=t.id) && decide (x.b=t.other)))=true then some []else none
def eU:List Un->List Mk->List Ac->Option (List Un×List Mk)
 |us,ms,[]=>some (us,ms)
 |us,ms,a::r=>match qA us ms a with
  |some (F,H)=>eU F H r
  |none=>none
def As(y:Yd)(t:Tk):List Kp:=
 if t.kind=2 then(match cp y.us t.id with |some u=>jv (λk:Kp=>k.un.id) y.st ⟨u,y.ms.filter λx=>decide (x.un=t.id)⟩ |none=>y.st)
 else if t.kind=3 then y.st.filter λk=> !decide (k.un.id=t.id)else y.st
def Aa(y:Yd)(t:Tk):List Fc:=if t.kind=8/\(⟨t.id,t.side⟩:Fc)∉y.rc then(y.rc.filter λf=>decide (oh f ⟨t.id,t.side⟩))++⟨t.id,t.side⟩::(y.rc.filter λf=>decide (oh ⟨t.id,t.side⟩ f))else y.rc
def BU(y:Yd)(t:Tk):List Mo:=if t.kind=9 then(y.mo.filter λx=>decide (nB x ⟨t.id,t.other,t.cD⟩))++⟨t.id,t.other,t.cD⟩::(y.mo.filter λx=>decide (nB ⟨t.id,t.other,t.cD⟩ x))else y.mo
def pO(touch:Un->Un->Bool)(suits softer:Int->Int->Bool)(y:Yd)(t:Tk):Option Yd:=
 match fN touch suits softer y t with
 |none=>none
 |some l=>(eU y.us y.ms l).map λp=>⟨p.1,p.2,As y t,Aa y t,BU y t⟩
def ll{a:Ac}(h:qA us ms a=some (vs,H)):cq us/\fE us ms/\cJ a/\kY us ms a=some (vs,H)/\cq vs/\fE vs H:=by unfold qA kV at h;split at h;rename_i F;rw[IG]at F;split at h;rename_i hf;split at h;rename_i b0 d0 hd;split at h;rename_i hm;cases h;exact⟨qi.1 F.1,fq.1 F.2,hf,hd,AL (qi.1 F.1) hd,fq.1 hm⟩;cases h;cases h;cases h;cases h
def E2{l:List Ac}(H:cq us)(hm:fE us ms)(h:eU us ms l=some (vs,F)):cq vs/\fE vs F:=by induction l generalizing us ms with|nil=>cases h;exact⟨H,hm⟩|cons a r ih=>rw[eU]at h;split at h;rename_i b0 d0 hs;obtain⟨-, -, -, -,h1,h2⟩:=ll hs;grind;cases h
def xM{u:Un}(h:kY us ms (cQ u)=some (vs,F)):uA us u/\vs=jG us u/\F=ms:=by unfold kY at h;have H:(cQ u).kind=1:=rfl;rw[QL H]at h;have h:(pH us u).map (·,ms)=some (vs,F):=h;unfold pH at h;grind
def za{id:Int}(h:kY us ms (gG 2 id)=some (vs,F)):(cp us id).isSome/\vs=gd us id/\F=dI ms id:=by unfold kY at h;have H:(gG 2 id).kind=2:=rfl;rw[MO (by rw[H];decide),QL H]at h;split at h;rename_i ha;cases h;exact⟨ha,rfl,rfl⟩;cases h
def Vd(h:kY us ms (iM x)=some (vs,H)):(ms.any λy=>decide (y.id=x.id))=false/\vs=us/\H=nj ms x:=by unfold kY at h;have F:(iM x).kind=5:=rfl;rw[MO (by rw[F];decide),MO (by rw[F];decide),MO (by rw[F];decide),MO (by rw[F];decide),QL F]at h;split at h;cases h;rename_i ha;cases h;exact⟨Ny.2 ha,rfl,rfl⟩
def acV{id:Int}{o:Bool}(h:iP ms id o=some F):F.map Mk.id=ms.map Mk.id:=by unfold iP at h;split at h;rename_i k H;split at h;rename_i y hy;split at h;cases h;cases h;rw[List.map_set];apply Zk;grind;cases h;cases h
def FM{ns:List Mk}{k id:Int}(hk:k=6\/k=7)(h:kY us ms (gG k id)=some (vs,ns)):vs=us/\ns.map Mk.id=ms.map Mk.id:=by unfold kY at h;have F:(gG k id).kind=k:=rfl;rw[F,jq,jq,jq,jq,jq]at h;cases H:iP ms (gG k id).id (decide (k=7))with|none=>rw[H]at h;cases h|some l=>rw[H]at h;cases h;exact⟨rfl,acV H⟩
theorem DY{us:List Un}:∀{l:List Mk} {ms F:List Mk} {vs:List Un},eU us ms (l.map λx=>gG 6 x.id)=some (vs,F)->vs=us/\F.map Mk.id=ms.map Mk.id
 |[],ms,F,vs,h=>by cases h;exact⟨rfl,rfl⟩
 |x::r,ms,F,vs,h=>by rw[Cx,eU]at h;split at h;rename_i H b0 hs;obtain⟨-, -, -,hd, -, -⟩:=ll hs;obtain⟨rfl,e⟩:=FM (.inl rfl) hd;have⟨e1,e2⟩:=DY h;grind;cases h
def MZ(h:(ms.any λy=>decide (y.id=x.id))=false):(nj ms x).Perm (x::ms):=by refine uj Mk.id x λy F e=>?_;grind
theorem DZ{us:List Un}:∀{l:List Mk} {ms F:List Mk} {vs:List Un},eU us ms (l.map iM)=some (vs,F)->vs=us/\F.Perm (l++ms)
 |[],ms,F,vs,h=>by cases h;exact⟨rfl,List.Perm.refl _⟩
 |x::r,ms,F,vs,h=>by rw[Cx,eU]at h;split at h;rename_i H b0 hs;obtain⟨-, -, -,hd, -, -⟩:=ll hs;obtain⟨e0,rfl,rfl⟩:=Vd hd;have⟨e1,e2⟩:=DZ h;refine⟨e1,e2.trans (((MZ e0).append_left r).trans ?_)⟩;grind;cases h
def rG.next{y:Yd}(h:rG y){vs:List Un}{F:List Mk}{st:List Kp}{rc:List Fc}{mo:List Mo}(hf:cq vs)(hm:fE vs F)(s1:st.length<=12)(s2:st.Pairwise λa b=>a.un.id<b.un.id)(s3:∀k∈st,∀u∈vs,u.id≠k.un.id)
  (s4:∀k∈st,cq [k.un]/\fE [k.un] k.ms) (s5:∃w:List Int,w.Sublist ((allM y.ms y.st).map Mk.id)/\((allM F st).map Mk.id).Perm w)
  (r1:rc.length<=60) (r2:∀f∈rc,(0<=f.un/\f.un<=99)/\ -2<=f.side/\f.side<=7) (r3:rc.Pairwise oh) (q1:mo.length<=20) (q2:∀x∈mo,0<=x.a/\x.a<x.b/\x.b<=99/\0<=x.cD/\x.cD<=7) (q3:mo.Pairwise nB):rG ⟨vs,F,st,rc,mo⟩:=by have⟨w,h1,h2⟩:=s5;refine⟨hf,hm,s1,r1,q1,s2,s3,λk H=>(s4 k H).1,λk H=>(s4 k H).2,?_,?_,r2,r3,q2,q3⟩;exact h2.nodup_iff.2 (h1.nodup h.nod);have e1:=h2.length_eq;have e2:=h1.length_le;have e3:=h.Ma;grind
def aaG(ms:List Mk)(id:Int):(dI ms id++ms.filter λx=>decide (x.un=id)).Perm ms:=by unfold dI;exact List.perm_append_comm.trans (List.filter_append_perm (λx:Mk=>decide (x.un=id)) ms)
def Jj{l:List Fc}{x:Fc}(h:l.Pairwise oh):((l.filter λf=>decide (oh f x))++x::(l.filter λf=>decide (oh x f))).Pairwise oh:=by rw[OE,PU];refine⟨h.filter _,⟨λz hz=>by simpa using(IJ.1 hz).2,h.filter _⟩,λa H b F=>?_⟩;have H:oh a x:=(by simpa using(IJ.1 H).2);rcases OS.1 F with rfl|F;exact H;have F:oh x b:=(by simpa using(IJ.1 F).2);unfold oh at H F⊢;omega
def Ji{l:List Mo}{x:Mo}(h:l.Pairwise nB):((l.filter λf=>decide (nB f x))++x::(l.filter λf=>decide (nB x f))).Pairwise nB:=by rw[OE,PU];refine⟨h.filter _,⟨λz hz=>by simpa using(IJ.1 hz).2,h.filter _⟩,λa H b F=>?_⟩;have H:nB a x:=(by simpa using(IJ.1 H).2);rcases OS.1 F with rfl|F;exact H;have F:nB x b:=(by simpa using(IJ.1 F).2);unfold nB at H F⊢;omega
theorem vY{α:Type}{p q:α->Bool}(h:∀x,p x->q x->False):∀l:List α,(l.filter p).length+(l.filter q).length<=l.length
 |[]=>co
 |a::r=>by have F:=vY h r;grind
theorem vd{α:Type}{p q:α->Bool}(h:∀x,p x->q x->False){a:α}:∀{l:List α},a∈l->p a=false->q a=false->(l.filter p).length+(l.filter q).length+1<=l.length
 |[],hm,_,_=>by cases hm
 |b::r,hm,F,H=>by rw[LP,LP];rcases OS.1 hm with rfl|hm;have:=vY h r;grind;have ih:=vd h hm F H;grind
variable{touch:Un->Un->Bool}{suits softer:Int->Int->Bool}{y:Yd}{t:Tk}
def mc{n lo hi:Int}:di n lo hi↔lo<=n/\n<=hi:=by unfold di;simp
def vF(h:dY t):1<=t.kind/\t.kind<=9:=by unfold dY at h;grind
def aaT(h:dY t)(F:t.kind=8):(0<=t.id/\t.id<=99)/\ -2<=t.side/\t.side<=7:=by unfold dY at h;rw[jq,jq,jq,ifp]at h;simp only[IG,mc]at h;grind
def UX(h:dY t)(F:t.kind=9):0<=t.id/\t.id<t.other/\t.other<=99/\0<=t.cD/\t.cD<=7:=by unfold dY at h;rw[jq,jq,jq,jq,QL F]at h;simp only[IG,mc,Mj]at h;grind
def WZ(F:rG y)(hf:dY t){l:List Ac}(ha:fN touch suits softer y t=some l):(Aa y t).length<=60/\(∀f∈Aa y t,(0<=f.un/\f.un<=99)/\ -2<=f.side/\f.side<=7)/\(Aa y t).Pairwise oh:=by unfold Aa;by_cases e:t.kind=8/\(⟨t.id,t.side⟩:Fc)∉y.rc;rw[QL e];have hlen:y.rc.length<60:=(by unfold fN at ha;grind);have H:=vY (p:=λf:Fc=>decide (oh f ⟨t.id,t.side⟩)) (q:=λf:Fc=>decide (oh ⟨t.id,t.side⟩ f)) (λx h1 H=>by unfold oh at h1 H;grind) y.rc;refine⟨be,λf hm=>?_,Jj F.Bz⟩;rw[L3,OS,IJ,IJ]at hm;rcases hm with hm|rfl|hm;exact F.zZ f hm.1;exact aaT hf e.1;exact F.zZ f hm.1;rw[MO e];exact⟨F.WY,F.zZ,F.Bz⟩
def adC(H:rG y)(hf:dY t){l:List Ac}(F:fN touch suits softer y t=some l):(BU y t).length<=20/\(∀x∈BU y t,0<=x.a/\x.a<x.b/\x.b<=99/\0<=x.cD/\x.cD<=7)/\(BU y t).Pairwise nB:=by unfold BU;by_cases e:t.kind=9;rw[QL e];have hex:∀x:Mo,decide (nB x ⟨t.id,t.other,t.cD⟩)->decide (nB ⟨t.id,t.other,t.cD⟩ x)->False:=λx h1 h2=>(by unfold nB at h1 h2;grind);have hlen:(y.mo.filter λx=>decide (nB x ⟨t.id,t.other,t.cD⟩)).length+(y.mo.filter λx=>decide (nB ⟨t.id,t.other,t.cD⟩ x)).length+1<=20:=(by unfold fN at F;rw[jq,jq,jq,jq,jq,jq,jq,jq]at F;have⟨u,hu,F⟩:=UO.1 F;have⟨v,hv,F⟩:=UO.1 F;split at F;rename_i hc;simp only[IG,ZG,Mj]at hc;rcases hc.2 with h|h;have:=vY hex y.mo;omega;have⟨x,hx,b0⟩:=WC.1 h;rw[IG,Mj,Mj]at b0;have:=vd hex hx (by rw[T8];unfold nB;simp only[];omega) (by rw[T8];unfold nB;simp only[];omega);have:=H.QD;omega;cases F);refine⟨be,λf hm=>?_,Ji H.Ea⟩;rw[L3,OS,IJ,IJ]at hm;rcases hm with hm|rfl|hm;exact H.I7 f hm.1;exact UX hf e;exact H.I7 f hm.1;rw[MO e];exact⟨H.QD,H.I7,H.Ea⟩
def tP{a:Ac}(h:eU us ms [a]=some (vs,F)):kY us ms a=some (vs,F):=by rw[eU]at h;split at h;rename_i H;cases h;exact(ll H).2.2.2.1;cases h
def abV{u:Un}(h:jD u):cq [u]:=FI co be co co
structure ZZ(y:Yd)(vs:List Un)(ns:List Mk)(st:List Kp):Prop where
 s1:st.length<=12
 s2:st.Pairwise λa b=>a.un.id < b.un.id
 s3:∀k∈st,∀u∈vs,u.id≠k.un.id
 s4:∀k∈st,cq [k.un]/\fE [k.un] k.ms
 s5:∃w:List Int,w.Sublist ((allM y.ms y.st).map Mk.id)/\((allM ns st).map Mk.id).Perm w
def ZZ.same(F:rG y){vs:List Un}{H:List Mk}(h3:∀k∈y.st,∀u∈vs,u.id≠k.un.id)(h5:(H.map Mk.id).Sublist (y.ms.map Mk.id)):ZZ y vs H y.st:=by refine⟨F.Tc,F.zg,h3,λk hk=>⟨F.QZ k hk,F.Hp k hk⟩,_,?_,List.Perm.refl _⟩;unfold allM;grind
def Po(H:rG y)(hf:dY t){l:List Ac}(F:fN touch suits softer y t=some l){vs:List Un}{ns:List Mk}(hr:eU y.us y.ms l=some (vs,ns)):ZZ y vs ns (As y t):=by
 unfold fN at F;unfold As;by_cases k1:t.kind=1;rw[QL k1]at F;rw[jq,jq];split at F;(cases F;rename_i hn;(cases F;obtain⟨e1,rfl,rfl⟩:=xM (tP hr);refine .same H (λk hk u hu=>?_) (List.Sublist.refl _);rcases wC hu with rfl|hu);grind;exact H.off k hk u hu);rw[MO k1]at F;by_cases k2:t.kind=2;rw[QL k2]at F⊢;split at F;rename_i hc;(cases F;rw[IG,Mj]at hc;obtain⟨-,rfl,rfl⟩:=za (tP hr);have⟨u,hu⟩:=IY.1 hc.1;have⟨d0,hid⟩:=fx hu;rw[hu];have i0:∀k∈y.st,k.un.id≠(⟨u,y.ms.filter λx=>decide (x.un=t.id)⟩:Kp).un.id:=λk hk=>λe=>H.off k hk u d0 e.symm;have hp:=uj (λk:Kp=>k.un.id) ⟨u,y.ms.filter λx=>decide (x.un=t.id)⟩ i0;refine⟨?_,Rb H.zg,λk hk v hv=>?_,λk hk=>?_,_,List.Sublist.refl _,?_⟩;have:=hp.length_eq;grind;have hv:=IJ.1 hv;rcases OS.1 (hp.mem_iff.1 hk)with rfl|hk;grind;exact H.off k hk v hv.1;rcases OS.1 (hp.mem_iff.1 hk)with rfl|hk;refine⟨abV (H.qj.val u d0),?_⟩;have b0:(y.ms.filter λx=>decide (x.un=t.id)).Sublist y.ms:=Vi;refine⟨Zz b0.length_le H.Db.len,H.Db.zg.filter _,λx hx=>H.Db.ok x (b0.mem hx),λx hx=>?_⟩;have⟨v,hv,h1,h2⟩:=H.Db.un x (b0.mem hx);have⟨i,hi⟩:=RL hv;have o0:=om H.qj hi;grind;exact⟨H.QZ k hk,H.Hp k hk⟩;apply List.Perm.map _;unfold allM;have h1:((jv (λk:Kp=>k.un.id) y.st ⟨u,y.ms.filter λx=>decide (x.un=t.id)⟩).flatMap Kp.ms).Perm ((y.ms.filter λx=>decide (x.un=t.id))++y.st.flatMap Kp.ms):=(by grind);refine(h1.append_left _).trans ?_;rw[<-ZA];exact(aaG y.ms t.id).append_right _);cases F;rw[MO k2]at F⊢;by_cases k3:t.kind=3;rw[QL k3]at F⊢;obtain⟨k,j0,rfl⟩:=ZL.1 F;have k0:=Jf j0;rw[eU]at hr;split at hr;rename_i l0 n0 hs;obtain⟨e1,rfl,rfl⟩:=xM (ll hs).2.2.2.1;obtain⟨rfl,hp⟩:=DZ hr;obtain⟨p,q,g0⟩:=List.append_of_mem k0;have e0:=H.zg;rw[g0]at e0;rw[OE,PU]at e0;have h0:(y.st.filter λk=> !decide (k.un.id=t.id))=p++q:=(by rw[g0,OP,LP,MO be];rw[LM.2 λz hz=>?_,LM.2 λz hz=>?_];grind;grind);rw[h0];have b0:(p++q).Sublist y.st:=be;refine⟨Zz b0.length_le H.Tc,H.zg.sublist b0,λj hj v hv=>?_,λj hj=>⟨H.QZ j (b0.mem hj),H.Hp j (b0.mem hj)⟩,_,List.Sublist.refl _,?_⟩;rcases wC hv with rfl|hv;grind;exact H.off j (b0.mem hj) v hv;apply List.Perm.map _;unfold allM;grind;cases hr;rw[MO k3]at F⊢;by_cases k4:t.kind=4;rw[QL k4]at F;have⟨u,hu,F⟩:=UO.1 F;have⟨d0,hid⟩:=fx hu;split at F;(cases F;rw[eU]at hr;split at hr;rename_i l0 n0 hs;obtain⟨-,rfl,rfl⟩:=za (ll hs).2.2.2.1;obtain⟨-,rfl,rfl⟩:=xM (tP hr);refine .same H (λk hk v hv=>?_) (List.Sublist.map _ (by unfold dI;exact Vi));rcases wC hv with rfl|hv;exact H.off k hk u d0;exact H.off k hk v (IJ.1 hv).1;cases hr);cases F;rw[MO k4]at F;by_cases k5:t.kind=5;rw[QL k5]at F;split at F;cases F;obtain⟨rfl,e⟩:=DY hr;exact .same H H.off be;cases F;rw[MO k5]at F;by_cases k6:t.kind=6;rw[QL k6]at F;cases F;obtain⟨rfl,e⟩:=FM (.inr rfl) (tP hr);exact .same H H.off be;rw[MO k6]at F;by_cases k7:t.kind=7;rw[QL k7]at F;cases F;obtain⟨rfl,e⟩:=FM (.inl rfl) (tP hr);exact .same H H.off be;rw[MO k7]at F;have hl:l=[]:=(by by_cases k8:t.kind=8;grind;rw[MO k8]at F;have⟨u,hu,F⟩:=UO.1 F;have⟨v,hv,F⟩:=UO.1 F;grind);subst hl;cases hr
 exact .same H H.off (List.Sublist.refl _)
def GG(F:rG y)(H:dY t){y':Yd}(h:pO touch suits softer y t=some y'):rG y':=by unfold pO at h;split at h;cases h;rename_i l ha;obtain⟨⟨vs,ns⟩,hr,rfl⟩:=ZL.1 h;have⟨f,g⟩:=E2 F.qj F.Db hr;have s:=Po F H ha hr;have r:=WZ F H ha;have q:=adC F H ha;exact F.next f g s.s1 s.s2 s.s3 s.s4 s.s5 r.1 r.2.1 r.2.2 q.1 q.2.1 q.2.2
section
variable {X:aF} {m:M}
abbrev Tk.c(t:Tk)(w:Φ):Ω:=[.int .i64 t.kind,.int .i64 t.un.id,.int .i64 t.un.kind,.int .i64 t.un.cD,w,.int .i64 t.un.back,.int .i64 t.un.front,.int .i64 t.id,.int .i64 t.other,.int .i64 t.side,.int .i64 t.cD]
abbrev Tk.v(t:Tk)(w:Φ):Φ:=.agg (t.c w).toArray
def Tk.dt{t:Tk}(h:one w):(t.c w).all one:=by show(true && (true && (true && (true && (one w && true)))))=true;rw[h];rfl
structure TW where
 t:Tk
 w:Φ
abbrev TW.c(x:TW):Ω:=x.t.c x.w
abbrev TW.v(x:TW):Φ:=x.t.v x.w
instance:aQ TW where
 ty:=58
 sz:=11
 agg:=true
 dU:=[]
 rep _ x cs:=cs=x.c/\one x.w=true
 pos:=ce
 one:=be
 len:=dg
 iL:=by rintro _ x _ ⟨rfl,h⟩;exact Tk.dt h
 aY:=be
def ZS:vU TE 38 TW:=⟨ai.t38,ai.t58,bv,rfl,rfl,bv,ce,rfl⟩
structure KW where
 u:Un
 w:Φ
 ms:List Mk
 mv:Φ
abbrev KW.c(x:KW):Ω:=[.int .i64 x.u.id,.int .i64 x.u.kind,.int .i64 x.u.cD,x.w,.int .i64 x.u.back,.int .i64 x.u.front,x.mv]
abbrev KW.v(x:KW):Φ:=.agg (x.c).toArray
abbrev KW.k(x:KW):Kp:=⟨x.u,x.ms⟩
def KW.dt{x:KW}(F:one x.w)(H:one x.mv):(x.c).all one:=by show(true && (true && (true && (one x.w && (true && (true && (one x.mv && true)))))))=true;rw[F,H];rfl
instance:aQ KW where
 ty:=85
 sz:=7
 agg:=true
 dU:=[]
 rep _ x cs:=cs=x.c/\one x.w=true/\one x.mv=true
 pos:=ce
 one:=be
 len:=dg
 iL:=by rintro _ x _ ⟨rfl,h1,h2⟩;exact KW.dt h1 h2
 aY:=be
def fg:rp TE 33 85 KW:=⟨ai.t33,ai.t85,bv,⟨_,rfl⟩,rfl,bv,rfl,rfl⟩
def zj:vU TE 33 KW:=⟨ai.t33,ai.t85,bv,rfl,rfl,bv,ce,rfl⟩
abbrev Mo.c(x:Mo):Ω:=[.int .i64 x.a,.int .i64 x.b,.int .i64 x.cD]
abbrev Mo.v(x:Mo):Φ:=.agg (x.c).toArray
instance:aQ Mo where
 ty:=60
 sz:=3
 agg:=true
 dU:=[]
 rep _ x cs:=cs=x.c
 pos:=ce
 one:=be
 len:=be
 iL:=by rintro _ _ _ rfl;rfl
 aY:=be
def js:rp TE 35 60 Mo:=⟨ai.t35,ai.t60,bv,⟨_,rfl⟩,rfl,bv,rfl,rfl⟩
def JU:vU TE 35 Mo:=⟨ai.t35,ai.t60,bv,rfl,rfl,bv,ce,rfl⟩
def S5{α:Type}[aQ α](m:M)(l:List α)(v:Φ):Prop:=(l=[]/\v=.slice none 0 0)\/Z0 m l v
def S5.aY{α:Type}[aQ α]{l:List α}{v:Φ}{m':M}(h:S5 m l v)(F:∀b c t g,m.get b=.cells c t g->t∈aQ.ty α::aQ.dU α->m'.get b=.cells c t g):S5 m' l v:=by rcases h with h|⟨H,b,o,c,bc,g,h2,h3,h4,h5⟩;exact .inl h;exact .inr ⟨H.aY F,b,o,c,bc,g,h2,h3,F _ _ _ _ h4 UA,h5⟩
def S5.sl{α:Type}[aQ α]{l:List α}{v:Φ}(h:S5 m l v):Sl m l v:=by rcases h with h|h;exact .inl ⟨h.2,h.1⟩;exact h.1
theorem _root_.Go.D.Ow.sln{α:Type}[aQ α]{n1:Nat}{l:List α}{v:Φ}(h:Ow n1 m l v):S5 m l v:=by by_cases F:l=[];subst F;rcases h with⟨rfl,_⟩|⟨b,cs,_,h,_⟩;exact .inl ⟨rfl,rfl⟩;grind;exact .inr (h.slc F)
def S5.to{α:Type}[aQ α]{T t:TypeId}(F:rp TE T t α){l:List α}{v:Φ}(h:S5 m l v)(H:slice? TE m T LF none (some (ν (0:Nat))) none=some LF){i:Nat}(hi:i<=l.length):
  ∃v',slice? TE m T v none (some (ν i)) none=some v'/\Sl m (l.take i) v':=by rcases h with⟨rfl,rfl⟩|⟨h1,b,o,c,bc,g,rfl,h3,h4,h5⟩;obtain rfl:i=0:=be;exact⟨_,H,.nil⟩;have⟨ti,te,t1,⟨e,t2⟩,t3,_⟩:=F;refine⟨_,DU t1 t2 (by rw[t3];exact aQ.pos) h4 be h3 ac,?_⟩;have:=h1.part (i:=0) (k:=i) (c':=c) ac;rwa[NJ,So,MU]at this
def S5.from{α:Type}[aQ α]{T t:TypeId}(H:rp TE T t α){l:List α}{v:Φ}(h:S5 m l v)(h0:slice? TE m T LF (some (ν (0:Nat))) none none=some LF){i:Nat}(hi:i<=l.length):
  ∃v',slice? TE m T v (some (ν i)) none none=some v'/\(Sl m (l.drop i) v'\/(l.drop i=[]/\∃F c',v'=.slice (some F) 0 c')):=by rcases h with⟨rfl,rfl⟩|⟨h1,b,o,c,bc,g,rfl,h3,h4,h5⟩;obtain rfl:i=0:=be;exact⟨_,h0,.inl .nil⟩;have⟨ti,te,t1,⟨e,t2⟩,t3,_⟩:=H;obtain⟨F,e1,e2⟩:=oL (E:=TE) (T:=T) t1 t2 (by rw[t3];exact aQ.pos) h4 be h3 hi (o:=o);refine⟨_,e1,?_⟩;by_cases b0:i<l.length;rw[e2 ac,t3];have:=h1.part (i:=i) (k:=l.length-i) (c':=c-i) ac;rw[Vq be]at this;grind;grind
theorem _root_.Go.D.Ow.H0{α:Type}[aQ α]{T:TypeId}(hT:vU TE T α)(b0:aQ.dU α=[]){n1:Nat}{l ys:List α}{v y:Φ}(h:Ow n1 m l v)(F:l≠ [])(H:Sl m ys y\/(ys=[]/\∃a' c',y=.slice (some a') 0 c'))(hn:n1<=m.n)(hs:l.length+ys.length<=1000000):
  ∃v' m1,aR TE (m.wl m.n) .append [T,T] [v,y]=some (v',m1)/\Ow n1 m1 (l++ys) v'/\m.n<=m1.n/\n1<=m1.low/\(∀c,c<n1->m1.get c=m.get c)/\((∃a n k,v=.slice (some a) n k/\∀c,c<m.n->c≠a.block->m1.get c=m.get c)):=by obtain⟨b,rfl,_⟩:=pZ h F;rcases H with H|⟨rfl,a',c',rfl⟩;obtain⟨v',m1,e1,ho,hf,hl,_⟩:=h.append hT be H hn ac;obtain⟨ya,yc,rfl⟩:=H.form;exact⟨v',m1,e1,ho,hf.n,hl,λc hc=>hf.get c hc,_,_,_,rfl,λc hc F=>iy e1 hc λad n k e=>be⟩;refine⟨_,m.wl m.n,append_nil hT (Aj _) be (.inl ⟨_,_,rfl⟩),?_,Aj _,hn,λ_ _=>rfl,_,_,_,rfl,λ_ _ _=>rfl⟩;rw[Vy];exact h.ak Ext.refl.wl
structure Gl(m:M)(l:List KW)(v:Φ):Prop where
 sl:Sl m l v
 cap:S5 m l v
 sh:∀x∈l,Sl m x.u.shape x.w
 mv:∀x∈l,Sl m x.ms x.mv
 ln:∀x∈l,x.u.shape.length < 1000000
 lm:∀x∈l,x.ms.length < 1000000
def Gl.aY{l:List KW}{v:Φ}(h:Gl m l v)(hk:∀c cs t g,m.get c=.cells cs t g->(t=85\/t=46\/t=68)->m'.get c=.cells cs t g):Gl m' l v:=
 ⟨h.sl.aY λc cs t g F H=>hk c cs t g F (.inl (by simpa[aQ.ty,aQ.dU]using H)),h.cap.aY λc cs t g F H=>hk c cs t g F (.inl (by simpa[aQ.ty,aQ.dU]using H)),λx hx=>(h.sh x hx).aY λc cs t g F H=>hk c cs t g F (.inr (.inl (by simpa[aQ.ty,aQ.dU]using H))),λx hx=>(h.mv x hx).aY λc cs t g F H=>hk c cs t g F (.inr (.inr (by simpa[aQ.ty,aQ.dU]using H))),h.ln,h.lm⟩
def Gl.ak{l:List KW}{v:Φ}(h:Gl m l v)(F:Ext m m'):Gl m' l v:=h.aY λ_ _ _ _ H _=>F.cells H
def Gl.nil:Gl m [] LF:=⟨.nil,.inl ⟨rfl,rfl⟩,λx F=>(by cases F),λx F=>(by cases F),λx F=>(by cases F),λx F=>(by cases F)⟩
abbrev yf(l:List KW):List Kp:=l.map KW.k
def lZ{l:List KW}:(yf l).length=l.length:=MB _
structure tC(m:M)(y:Yd)(r r2 st rc mo:Φ):Prop where
 qj:∃l,bH l=y.us/\cC m l r
 ms:Sl m y.ms r2
 st:∃k,yf k=y.st/\Gl m k st
 rc:Sl m y.rc rc
 mo:Sl m y.mo mo
abbrev yc(r r2 st rc mo:Φ):Ω:=[r,r2,st,rc,mo]
abbrev yv(r r2 st rc mo:Φ):Φ:=.agg (yc r r2 st rc mo).toArray
def tC.aY{y:Yd}(h:tC m y r r2 st rc mo)(hk:∀c cs t g,m.get c=.cells cs t g->(t=43\/t=46\/t=68\/t=85\/t=103\/t=60)->m'.get c=.cells cs t g):tC m' y r r2 st rc mo:=by have⟨⟨l,h1,h2⟩,h3,⟨k,h4,h5⟩,h6,h7⟩:=h;refine⟨⟨l,h1,h2.aY λc cs t g F H=>hk c cs t g F be⟩,h3.aY λc cs t g F H=>hk c cs t g F ?_,⟨k,h4,h5.aY λc cs t g F H=>hk c cs t g F be⟩,h6.aY λc cs t g F H=>hk c cs t g F ?_,h7.aY λc cs t g F H=>hk c cs t g F ?_⟩ <;>(simp only[aQ.ty,aQ.dU,OS,Dy,or_false]at H;subst H;simp)
def tC.ak{y:Yd}(h:tC m y r r2 st rc mo)(F:Ext m m'):tC m' y r r2 st rc mo:=h.aY λ_ _ _ _ H _=>F.cells H
def tC.iL{y:Yd}(h:tC m y r r2 st rc mo):(yc r r2 st rc mo).all one:=by have⟨⟨l,_,F⟩,H,⟨k,_,h5⟩,h6,h7⟩:=h;show(one r && (one r2 && (one st && (one rc && (one mo && true)))))=true;rw[F.sl.one,H.one,h5.sl.one,h6.one,h7.one];rfl
variable{b:Nat}{t:Tk}{w:Φ}{g:Option Nat}
def rT(h:m.get b=.cells (t.c w) 58 g):aC TE m 43 (Ψ b (0+1))=some (t.un.v w):=by rw[qO,aI (n:=6) h dg];rfl
def mj(h:m.get b=.cells (t.c w) 58 g):aC TE m 58 (Ψ b 0)=some (t.v w):=by rw[Uq,aI (n:=11) h dg];rfl
def mU(h:m.get b=.cells (t.c w) 58 g):
  aC TE m 3 (Ψ b (0+0))=some (ν t.kind)/\aC TE m 3 (Ψ b (0+7))=some (ν t.id)/\aC TE m 3 (Ψ b (0+8))=some (ν t.other)/\
  aC TE m 3 (Ψ b (0+9))=some (ν t.side)/\aC TE m 3 (Ψ b (0+10))=some (ν t.cD):=by refine⟨?_,?_,?_,?_,?_⟩ <;>(rw[bR,aH h];rfl)
def we(h:m.get b=.cells (t.c w) 58 g):
  aC TE m 3 (Ψ b (0+1+0))=some (ν t.un.id)/\aC TE m 3 (Ψ b (0+1+1))=some (ν t.un.kind)/\aC TE m 3 (Ψ b (0+1+2))=some (ν t.un.cD)/\
  aC TE m 41 (Ψ b (0+1+3))=some w/\aC TE m 3 (Ψ b (0+1+4))=some (ν t.un.back)/\aC TE m 3 (Ψ b (0+1+5))=some (ν t.un.front):=by refine⟨?_,?_,?_,?_,?_,?_⟩;rw[bR,aH h];rfl;rw[bR,aH h];rfl;rw[bR,aH h];rfl;rw[qP,aH h];rfl;rw[bR,aH h];rfl;rw[bR,aH h];rfl
variable{r r2 st rc mo:Φ}
def ff(h:m.get b=.cells (yc r r2 st rc mo) 37 g):
  aC TE m 32 (Ψ b (0+0))=some (.agg #[r,r2])/\aC TE m 33 (Ψ b (0+2))=some st/\aC TE m 34 (Ψ b (0+3))=some rc/\
  aC TE m 35 (Ψ b (0+4))=some mo/\aC TE m 37 (Ψ b 0)=some (yv r r2 st rc mo):=by refine⟨?_,?_,?_,?_,?_⟩;rw[oQ,aI (n:=2) h be];rfl;rw[Uu,aH h];rfl;rw[Ft,aH h];rfl;rw[Ut,aH h];rfl;rw[aat,aI (n:=5) h be];rfl
def rN(h:m.get b=.cells (yc r r2 st rc mo) 37 g):
  aC TE m 29 (Ψ b (0+0+0))=some (.agg #[r])/\aC TE m 27 (Ψ b (0+0+0+0))=some r/\aC TE m 30 (Ψ b (0+0+1))=some r2:=by
 refine⟨?_,?_,?_⟩;rw[cY,aI (n:=1) h be];rfl;rw[dX,aH h];rfl;rw[kz,aH h];rfl
deriving instance DecidableEq for Un
def Mq(hX:cy X){a b:Un}{va vb:Φ}(ha:Sl m a.shape va)(hb:Sl m b.shape vb)(la:a.shape.length<4611686018427387904):
  C X (.func 15) [a.v va,b.v vb] m m.n (.bool (decide (a=b))) m:=by apply Cl.fl hX (Us func15);rw[F15];dsimp only[aG];refine ah λm1 q0 n0 r0=>?_;refine ah λm2 s0 i0 u0=>?_;simp only[bd]at n0 i0;have j0:Ext m m2:=⟨ac,be⟩;have g1:m2.get m.n=.cells (a.c va) 43 none:=be;have g2:m2.get m1.n=.cells (b.c vb) 43 none:=i0;have⟨a0,a1,a2,a3,a4,a5⟩:=ji g1;have⟨b0,b1,b2,b3,b4,b5⟩:=ji g2;have e0:=ha.ak j0;have k0:=hb.ak j0;unfold ptrTo;simp only[aW,cX,cj,bA,dp,dn,ae];have fin:∀{lo:Nat} {c:Bool},m.n<=lo->(c↔a=b)->aM [Value.bool c]=Value.bool (decide (a=b))/\m.n<=lo:=λ{lo c} H e=>⟨by have:c=decide (a=b):=be;rw[this];rfl,H⟩;refine aX (λvs mm lo=>m2=mm/\m.n<=lo/\∃bad:Bool,vs=[.bool bad]/\(bad->a≠b)/\(bad=false->a.id=b.id/\a.kind=b.kind/\a.cD=b.cD/\a.back=b.back/\a.front=b.front/\a.shape.length=b.shape.length)) (λR hR=>?_) ?_;have bad:∀(h:a≠b),∃bad:Bool,[Value.bool true]=[.bool bad]/\(bad->a≠b)/\(bad=false->a.id=b.id/\a.kind=b.kind/\a.cD=b.cD/\a.back=b.back/\a.front=b.front/\a.shape.length=b.shape.length):=λh=>⟨true,rfl,λ_=>h,λe=>by cases e⟩;rw[a0,ae,b0,ae,bZ,ae,ag];refine af (λc=>hR _ _ _ ⟨rfl,Aj _,bad λe=>?_⟩) (λc0=>?_);rw[e]at c;simp at c;rw[a1,ae,b1,ae,bZ,ae,ag];refine af (λc=>hR _ _ _ ⟨rfl,Aj _,bad λe=>?_⟩) (λc1=>?_);rw[e]at c;simp at c;rw[a2,ae,b2,ae,bZ,ae,ag];refine af (λc=>hR _ _ _ ⟨rfl,Aj _,bad λe=>?_⟩) (λc2=>?_);rw[e]at c;simp at c;rw[a4,ae,b4,ae,bZ,ae,ag];refine af (λc=>hR _ _ _ ⟨rfl,Aj _,bad λe=>?_⟩) (λc4=>?_);rw[e]at c;simp at c;rw[a5,ae,b5,ae,bZ,ae,ag];refine af (λc=>hR _ _ _ ⟨rfl,Aj _,bad λe=>?_⟩) (λc5=>?_);rw[e]at c;simp at c;rw[a3,ae,e0.len cR,an,b3,ae,k0.len cR,an,bZ,ae];refine hR _ _ _ ⟨rfl,Aj _,_,rfl,λc e=>?_,λc=>⟨be,be,be,be,be,?_⟩⟩;rw[e]at c;simp at c;have:(a.shape.length:Int)=(b.shape.length:Int):=be;omega;rintro _ _ lo ⟨rfl,H,bad,rfl,h1,h2⟩;rw[av,ag];refine af (λc=>fin H ⟨λe=>(by cases e),λe=>absurd e (h1 c)⟩) (λc=>?_);have⟨f0,f1,f2,f4,f5,hlen⟩:=h2 c;refine Lp.intro (γ:=Nat) (λi=>a.shape.length-i) (λi vs mm lo=>vs=[L4,ν i]/\i<=a.shape.length/\m2=mm/\m.n<=lo/\∀j x y,j<i->a.shape[j]?=some x->b.shape[j]?=some y->x=y) 0 ⟨rfl,ZX _,rfl,H,λj x y hj=>ac⟩ ?_;rintro i vs _ y0 ⟨rfl,hi,rfl,F,d0⟩;rw[av,av,a3,ae,e0.len cR,an,aK,ae,ag];refine af (λl0=>?_) (λA0=>?_);have l0:i<a.shape.length:=be;obtain⟨x,hx⟩:∃x,a.shape[i]?=some x:=⟨_,Np l0⟩;obtain⟨y,hy⟩:∃y,b.shape[i]?=some y:=⟨_,vW⟩;have⟨p,e1,e2⟩:=e0.fL (k:=.i64) hx;have⟨q,e3,e4⟩:=k0.fL (k:=.i64) hy;rw[ae,e1,ae,e2,ae,b3,ae,e3,ae,e4,ae,Qw,ae,ag];refine af (λo0=>fin F ⟨λe=>(by cases e),λe=>?_⟩) (λhe=>?_);rw[e,hy]at hx;cases hx;simp at o0;rw[aL,ae,wrap64];refine⟨i+1,ac,rfl,ac,rfl,F,λj x' y' hj g0 h0=>?_⟩;by_cases p0:j<i;exact d0 j x' y' p0 g0 h0;have:j=i:=ac;subst this;rw[hx]at g0;rw[hy]at h0;cases g0;cases h0;simpa using he;have B0:i=a.shape.length:=(by grind);have hs:a.shape=b.shape:=Jd hlen λj x y hj=>d0 j x y ac;refine fin F ⟨λ_=>?_,λ_=>rfl⟩;rcases a with⟨_,_,_,_,_,_⟩;rcases b with⟨_,_,_,_,_,_⟩;simp only[Un.mk.injEq];exact⟨f0,f1,f2,hs,f4,f5⟩
end
deriving instance DecidableEq for Tk
abbrev Un.z:Un:=⟨0,0,0,[],0,0⟩
def iY(t:Tk):List Int:=
 if t.kind=1 then [t.un.id,t.un.kind,t.un.cD,t.un.back,t.un.front]++t.un.shape.flatMap λp=> [p.x,p.y]
 else if t.kind=2\/t.kind=3\/t.kind=6\/t.kind=7 then [t.id]
 else if t.kind=4 then [t.id,t.cD]
 else if t.kind=5\/t.kind=8 then [t.id,t.side]
 else if t.kind=9 then [t.id,t.other,t.cD]
 else []
def jI:List Int->List Pl
 |x::y::r=>⟨x,y⟩::jI r
 |_=> []
theorem zA:∀l:List Pl,jI (l.flatMap λp=> [p.x,p.y])=l
 |[]=>rfl
 |p::r=>by show(⟨p.x,p.y⟩:Pl)::jI (r.flatMap λp=> [p.x,p.y])=p::r;rw[zA r]
theorem xF:∀l:List Pl,(l.flatMap λp=> [p.x,p.y]).length=2*l.length
 |[]=>rfl
 |p::r=>by show(r.flatMap λp=> [p.x,p.y]).length+1+1=2*(r.length+1);rw[xF r];omega
def BS(k:Int)(l:List Int):Option Tk:=
 if k=1 then(if 11<=l.length/\l.length<=21/\l.length%2=1 then some ⟨1,⟨l.getD 0 0,l.getD 1 0,l.getD 2 0,jI (l.drop 5),l.getD 3 0,l.getD 4 0⟩,0,0,0,0⟩else none)
 else if k=4 then(if l.length=2 then some ⟨k,.z,l.getD 0 0,0,0,l.getD 1 0⟩else none)
 else if k=5\/k=8 then(if l.length=2 then some ⟨k,.z,l.getD 0 0,0,l.getD 1 0,0⟩else none)
 else if k=9 then(if l.length=3 then some ⟨k,.z,l.getD 0 0,l.getD 1 0,0,l.getD 2 0⟩else none)
 else(if l.length=1 then some ⟨k,.z,l.getD 0 0,0,0,0⟩else none)
def xD(t:Tk):Bool:=di t.kind 1 9 && decide (t.un.shape.length<=8) && decide (BS t.kind (iY t)=some t) &&
 (if t.kind=1 then jD t.un && di t.un.kind 6 8 else di t.id 0 99 && di t.other 0 99 && di t.side (-2) 7 && di t.cD 0 7 && (!decide (t.kind=9) ||decide (t.id < t.other)))
def oW{u:Un}:(eo u && decide (u.id=0))=decide (u=.z):=by have⟨a,b,c,s,d,e⟩:=u;unfold eo;grind
def Ri(t:Tk):xD t=dY t:=by
 have⟨k,u,id,b0,side,cD⟩:=t;by_cases k1:k=1
 ·subst k1;unfold xD dY iY BS;simp only[Ag,UP,List.nil_append,List.getD_cons_zero,List.getD_cons_succ,SU,NJ,zA,Vz,xF];have⟨a,b,c,s,d,e⟩:=u;rw[OJ];by_cases F:jD ⟨a,b,c,s,d,e⟩=true;have H:=lS F;have d0:3<=s.length/\s.length<=8:=dH (oJ F);have H:s.length<=8:=H;have hs:(⟨a,b,c,s,d,e⟩:Un).shape.length=s.length:=rfl;rw[QL ⟨ac,ac,ac⟩];simp only[IG,Mj,RQ,Tk.mk.injEq,F,true_and,and_true,di];omega;grind
 all_goals
  by_cases k2:k=2\/k=3\/k=6\/k=7
  ·rcases k2 with rfl|rfl|rfl|rfl <;>
   ·unfold xD dY iY BS;simp only[oW];simp[di];grind
  by_cases k4:k=4
  ·subst k4;unfold xD dY iY BS;simp only[oW];simp[di];grind
  by_cases k5:k=5\/k=8
  ·rcases k5 with rfl|rfl <;>
   ·unfold xD dY iY BS;simp only[oW];simp[di];grind
  by_cases k9:k=9
  ·subst k9;unfold xD dY iY BS;simp only[oW];simp[di];grind
  unfold xD dY;have:di k 1 9=false:=by
   unfold di;grind
  grind
section
set_option maxRecDepth 100000
set_option maxHeartbeats 0
variable{W:Words}{x0 x1 x2:Φ}{m:M}{R:Ω->M->Nat->Prop}
def F165:=cN (P:=fP TE W f165 [x0,x1,x2] m R)
def F167:=cN (P:=fP TE W f167 [x0] m R)
def F166:=cN (P:=fP TE W f166 [x0,x1] m R)
def F168:=cN (P:=fP TE W f168 [x0,x1] m R)
def F121:=cN (P:=fP TE W f121 [x0] m R)
def F75:=cN (P:=fP TE W f75 [x0,x1] m R)
def F169:=cN (P:=fP TE W f169 [x0,x1] m R)
def F77:=cN (P:=fP TE W f77 [x0,x1] m R)
def F120:=cN (P:=fP TE W f120 [x0] m R)
def F213:=cN (P:=fP TE W f213 [x0] m R)
def F170:=cN (P:=fP TE W f170 [x0,x1] m R)
def F172:=cN (P:=fP TE W f172 [x0,x1] m R)
def F171:=cN (P:=fP TE W f171 [x0,x1,x2] m R)
def F76:=cN (P:=fP TE W f76 [x0,x1] m R)
end
section
variable {X:aF} {m:M}
section
variable {α:Type} [aQ α] {T:TypeId}
def Ap(n1:Nat)(m:M)(l:List α)(v:Φ):Prop:=Ow n1 m l v\/∃b cs F,v=.slice (some ⟨b,0,none⟩) l.length l.length/\m.get b=.cells cs F none/\Sl m l v
def Ap.sl{n1:Nat}{l:List α}{v:Φ}(h:Ap n1 m l v):Sl m l v:=by rcases h with h|⟨_,_,_,_,_,h⟩;exact h.sl;exact h
def Ap.ak{n1:Nat}{l:List α}{v:Φ}{m':M}(h:Ap n1 m l v)(F:Ext m m'):Ap n1 m' l v:=by rcases h with h|⟨b,cs,H,h1,h2,h3⟩;exact .inl (h.ak F);exact .inr ⟨b,cs,H,h1,F.cells h2,h3.ak F⟩
def Ap.append(hT:vU TE T α)(b0:aQ.dU α=[]){n1:Nat}{l ys:List α}{v y:Φ}(h:Ap n1 m l v)(hy:Sl m ys y)(F:ys≠ [])(hn:n1<=m.n)(hs:l.length+ys.length<=1000000):
  ∃v' m1,aR TE (m.wl m.n) .append [T,T] [v,y]=some (v',m1)/\Ow n1 m1 (l++ys) v'/\m.n<=m1.n/\n1<=m1.low/\∀c,c<n1->m1.get c=m.get c:=by have hlen:=SH.2 F;rcases h with h|⟨b,cs,te,rfl,h2,h3⟩;obtain⟨v',m1,H,ho,hf,hl,_⟩:=h.append hT be hy hn ac;exact⟨v',m1,H,ho,hf.n,hl,λc hc=>hf.get c hc⟩;obtain⟨v',m1,H,ho,hx,hl⟩:=adQ hT h2 (.inl rfl) h3 hy ac ac;exact⟨v',m1,H,ho.mono hn,hx.n,ac,λc hc=>hx.get c ac⟩
end
def tL{l:List Int}{b:Nat}(h:m.get b=.cells (l.map (.int .i64)) 3 g):Sl m l (RR b 0 l.length l.length):=
 .inr ⟨b,0,l.length,_,g,rfl,h,by rw[MB];show 0+l.length*1<=_;omega,λi x hi=>by show((l.map (Value.int .i64)).drop (0+i*1)).take 1=[ν x];have F:=(Vc.1 hi).1;rw[LU,HG,Tt be,FU,GI,List.getElem_map,(Vc.1 hi).2]⟩
def PC{α:Type}[aQ α]{l:List α}{a:Addr}{n k:Nat}{m':M}{lo:Nat}{P:Prop}(h:Sl m' l (.slice (some a) n k))(F:m.n<=lo)(H:Ext m m'):
  P\/((aZ (aM [Value.slice (some a) n k])=false\/lo<m.n)/\(min m.n lo=m.n/\Ext m m'/\Sl m' l (.slice (some a) n k))):=.inr ⟨.inl rfl,ac,H,h⟩
def kD(hX:cy X)(n lo hi:Int):C X (.func 165) [ν n,ν lo,ν hi] m m.n (.bool (di n lo hi)) m:=by apply Cl.fG hX (Us func165);rw[F165];dsimp only[aG];refine aX (λvs m2 F=>vs=[.bool (di n lo hi)]/\m.n<=F) (λR H=>?_) ?_;simp only[cO,cZ,ae,ag];refine af (λh=>H _ _ _ ⟨by simp[di,h],Aj _⟩) (λh=>H _ _ _ ⟨by simp[di,h],Aj _⟩);rintro _ m2 F ⟨rfl,hl⟩;rw[av];exact⟨rfl,hl⟩
def QQ:aO TE m 116 1 [(0,.int .i64 a)]=some (.slice (some ⟨m.n,0,none⟩) 1 1,m.push (.cells ([a].map (.int .i64)) 3 none)):=bv
def sF:aO TE m 116 2 [(0,.int .i64 a),(1,.int .i64 b)]=some (.slice (some ⟨m.n,0,none⟩) 2 2,m.push (.cells ([a,b].map (.int .i64)) 3 none)):=bv
def Hn{c:Int}:aO TE m 116 3 [(0,.int .i64 a),(1,.int .i64 b),(2,.int .i64 c)]=some (.slice (some ⟨m.n,0,none⟩) 3 3,m.push (.cells ([a,b,c].map (.int .i64)) 3 none)):=bv
def adv{c d e:Int}:aO TE m 116 5 [(0,.int .i64 a),(1,.int .i64 b),(2,.int .i64 c),(3,.int .i64 d),(4,.int .i64 e)]=some (.slice (some ⟨m.n,0,none⟩) 5 5,m.push (.cells ([a,b,c,d,e].map (.int .i64)) 3 none)):=bv
theorem Fe(hX:cy X){t:Tk}{w:Φ}(hw:Sl m t.un.shape w)(hl:t.un.shape.length<100000):
  ∃r m',C X (.func 167) [t.v w] m m.n r m'/\Ext m m'/\Sl m' (iY t) r:=by
 apply Cl.Ie hX (Us func167);rw[F167];dsimp only[aG];refine ah λm1 c1 B0 O0=>?_;have g1:m1.get m.n=.cells (t.c w) 58 none:=B0;have h0:Ext m m1:=⟨ac,O0⟩;have⟨tk,tid,Ma,p0,q0⟩:=mU g1;obtain⟨u0,u1,u2, -,u4,u5⟩:=we g1;unfold ptrTo;simp only[dP,eg,dm,cV,dD,cU,aW,cX,cj,bA,dp,dn,ae];simp only[tk,u0,u1,u2,u4,u5,ae,aJ,ag];refine af (λc=>?_) (λc=>?_)
 ·have k1:t.kind=1:=Ds c;rw[adv,an];have e0:iY t=[t.un.id,t.un.kind,t.un.cD,t.un.back,t.un.front]++t.un.shape.flatMap λp=> [p.x,p.y]:=(by unfold iY;rw[QL k1]);obtain⟨m2,H⟩:∃x,x=m1.push (.cells ([t.un.id,t.un.kind,t.un.cD,t.un.back,t.un.front].map (.int .i64)) 3 none):=⟨_,rfl⟩;rw[<-H];have d1:m2.n=m1.n+1:=(by rw[H];exact M.lC);have i0:m2.get m1.n=.cells ([t.un.id,t.un.kind,t.un.cD,t.un.back,t.un.front].map (.int .i64)) 3 none:=(by rw[H];exact M.aU);have P0:Ext m1 m2:=H ▸ Ext.refl.push;have h1:Ap m1.n m2 [t.un.id,t.un.kind,t.un.cD,t.un.back,t.un.front] (RR m1.n 0 5 5):=.inr ⟨m1.n,_,_,rfl,i0,tL i0⟩;clear H i0;refine Lp.intro (γ:=Nat) (λi=>t.un.shape.length-i) (λi vs F lo=>∃r,vs=[r,ν i]/\i<=t.un.shape.length/\Ext m1 F/\m.n<=lo/\Ap m1.n F ([t.un.id,t.un.kind,t.un.cD,t.un.back,t.un.front]++(t.un.shape.take i).flatMap λp=> [p.x,p.y]) r) 0 ⟨_,rfl,ZX _,P0,ac,be⟩ ?_;rintro i vs F lo ⟨r,rfl,hi,d0,j0,ho⟩;have nm:=d0.n;have r0:=(hw.ak h0).ak d0;obtain⟨-, -, -,v3, -, -⟩:=we (d0.cells g1);rw[av,av,v3,ae,r0.len cR,an,aK,ae,ag];refine af (λs0=>?_) (λQ0=>?_);have s0:i<t.un.shape.length:=be;obtain⟨p,hp⟩:∃p,t.un.shape[i]?=some p:=⟨_,Np s0⟩;have⟨b0,o0,bc,g0,cs,e1,y0,k0,_,A0⟩:=r0.jc cR (k:=.i64) hp;have k0:cs=p.c:=k0;subst k0;have fl:=xF (t.un.shape.take i);rw[PK]at fl;have lx:aC TE F 3 (Ψ b0 (o0+0))=some (ν p.x):=(by rw[bR,aH y0,A0 0 ce];rfl);have ly:aC TE F 3 (Ψ b0 (o0+1))=some (ν p.y):=(by rw[bR,aH y0,A0 1 ce];rfl);rw[ae,e1,ae,cW,ae,lx,ae,ae,e1,ae,eh,ae,ly,ae,sF,an];obtain⟨m3,l0⟩:∃x,x=F.push (.cells ([p.x,p.y].map (.int .i64)) 3 none):=⟨_,rfl⟩;rw[<-l0];have n0:Ext F m3:=l0 ▸ Ext.refl.push;have a1:m3.get F.n=.cells ([p.x,p.y].map (.int .i64)) 3 none:=(by rw[l0];exact M.aU);have n3:=n0.n;obtain⟨r',m5,q1,q2,q3,q4,q5⟩:=(ho.ak n0).append VC rfl (tL a1) co ac be;have q1:aR TE (M.wl m3 (M.n m3)) .append [116,116] [r,RR F.n 0 2 2]=some (r',m5):=q1;rw[q1,an,aL,ae,wrap64];refine⟨i+1,ac,r',rfl,ac,⟨ac,λc hc=>by rw[q5 c hc,n0.get c ac,d0.get c hc]⟩,ac,.inl ?_⟩;rw[Tv,hp,OQ,<-ZA];exact q2;have b1:i=t.un.shape.length:=(by have:¬(i:Int)< (t.un.shape.length:Int):=LL Q0;omega);subst b1;rw[Nl]at ho;have hs:=ho.sl;rw[<-e0]at hs;obtain⟨a,k,rfl⟩:=hs.form;cases a with|none=>(rcases hs with⟨h,_⟩|⟨b,o,c,bc,g,h,_⟩;rw[e0]at h;simp at h;cases h)|some a=>exact PC hs j0 (h0.trans d0)
 have k1:t.kind≠1:=LL c
 have fin:∀{l:List Int} {k:Nat},iY t=l->l.length=k->∀{m2:M},m2=m1.push (.cells (l.map (.int .i64)) 3 none)->∀{lo:Nat},m.n<=lo->∀{Q:Prop},Q->
   (aZ (aM [Value.slice (some ⟨m1.n,0,none⟩) k k])/\m.n<=lo/\(Q/\Ext m m/\Sl m (iY t) (RR m1.n 0 k k)))\/((aZ (aM [Value.slice (some ⟨m1.n,0,none⟩) k k])=false\/lo<m.n)/\(min m.n lo=m.n/\Ext m m2/\Sl m2 (iY t) (RR m1.n 0 k k))):=by
  rintro l k e rfl m2 rfl lo j0 Q -;rw[e];exact PC (tL M.aU) j0 (h0.trans Ext.refl.push)
 refine aX (λvs F lo=>vs=[.bool (decide (t.kind=2\/t.kind=3\/t.kind=6\/t.kind=7))]/\m1=F/\lo=m.n) (λQ hQ=>?_) ?_
 ·refine af (λc=>hQ _ _ _ ⟨be,rfl,rfl⟩) (λc2=>?_);refine af (λc=>hQ _ _ _ ⟨be,rfl,rfl⟩) (λc3=>?_);refine af (λc=>hQ _ _ _ ⟨be,rfl,rfl⟩) (λc6=>hQ _ _ _ ⟨?_,rfl,rfl⟩);have c2:=LL c2;have c3:=LL c3;have c6:=LL c6;congr 2;rw[ge];omega
 rintro _ _ _ ⟨rfl,rfl,rfl⟩;simp only[tid,Ma,p0,q0,ae];rw[av,ag];refine af (λc=>?_) (λc=>?_);·rw[QQ,an];exact fin (l:=[t.id]) (by unfold iY;rw[MO k1,QL (Ds c)]) rfl rfl (Aj _) be
 have c2:=LL c;refine af (λc=>?_) (λc=>?_);·rw[sF,an];exact fin (l:=[t.id,t.cD]) (by unfold iY;rw[MO k1,MO c2,QL (Ds c)]) rfl rfl (Aj _) be
 have c4:=LL c;refine aX (λvs F lo=>vs=[.bool (decide (t.kind=5\/t.kind=8))]/\m1=F/\lo=m.n) (λQ hQ=>?_) ?_
 ·refine af (λc=>hQ _ _ _ ⟨be,rfl,rfl⟩) (λc5=>hQ _ _ _ ⟨?_,rfl,rfl⟩);have c5:=LL c5;congr 2;rw[ge];omega
 rintro _ _ _ ⟨rfl,rfl,rfl⟩;simp only[tid,Ma,p0,q0,ae];rw[av,ag];refine af (λc=>?_) (λc=>?_);·rw[sF,an];exact fin (l:=[t.id,t.side]) (by unfold iY;rw[MO k1,MO c2,MO c4,QL (Ds c)]) rfl rfl (Aj _) be
 have c5:=LL c;refine af (λc=>?_) (λc=>?_);·rw[Hn,an];exact fin (l:=[t.id,t.other,t.cD]) (by unfold iY;rw[MO k1,MO c2,MO c4,MO c5,QL (Ds c)]) rfl rfl (Aj _) be
 have c9:=LL c;have e:iY t=[]:=(by unfold iY;rw[MO k1,MO c2,MO c4,MO c5,MO c9]);rw[e];exact .inl ⟨rfl,Aj _,be,.refl,.nil⟩
abbrev Tk.z:Tk:=⟨0,.z,0,0,0,0⟩
def JX(o:Option Tk)(m':M)(F:Φ):Prop:=match o with
 |some t=>∃w,F=.tuple #[t.v w,.bool true]/\Sl m' t.un.shape w
 |none=>F=.tuple #[Tk.z.v (.slice none 0 0),.bool false]
def aai{t:Tk}{b:Φ}(h:aZ (.tuple #[t.v w,b])):Go.D.bO w:=by have F:((true && (true && (true && (true && (Go.D.bO w && (true && (true && (true && (true && (true && (true && true))))))))))) && (eC b && true)):=h;grind
def JX.flat{o:Option Tk}{v b:Φ}(h:JX o m' (.tuple #[v,b]))(F:aZ (.tuple #[v,b]))(m:M):JX o m (.tuple #[v,b]):=by unfold JX at h⊢;split at h;have⟨w,e,H⟩:=h;cases e;exact⟨w,rfl,(nQ H (aai F) m).2⟩;exact h
def adW{k:Int}:bz TE 58 [(0,ν k)]=some (Tk.v ⟨k,.z,0,0,0,0⟩ LF):=vN rfl
def abG:bz TE 58 []=some (Tk.z.v LF):=aa2
variable{b:Nat}{t:Tk}{w:Φ}{g:Option Nat}{P:M->Nat->Prop}
def DS{j:Nat}{v:Int}(h:m.get b=.cells (t.c w) 58 g)(hj:7<=j)(F:j<=10)
  (H:∀m1,m1.n=m.n->m1.get b=.cells ((t.c w).set j (ν v)) 58 g->(∀c,c≠b->m1.get c=m.get c)->P m1 b):
  dh (bh TE m 3 (Ψ b (0+j)) (ν v)) P:=by refine bV zV h rfl (by show 0+j+1<=11;omega) rfl λm1 hn hg hk=>H m1 hn ?_ hk;rw[hg];congr 1;have:(cells (Value.int .i64 v))=[ν v]:=rfl;rw[this,LU];exact pS (by show j<11;omega)
def Pr{u:Un}(h:m.get b=.cells (t.c w) 58 g)(F:one w')
  (H:∀m1,m1.n=m.n->m1.get b=.cells (Tk.c {t with un:=u} w') 58 g->(∀c,c≠b->m1.get c=m.get c)->P m1 b):
  dh (bh TE m 43 (Ψ b (0+1)) (u.v w')) P:=
 bV dN h rfl (by show 0+1+6<=11;decide) (Un.dt F) λm1 hn hg hk=>H m1 hn hg hk
def Ps(h:m.get b=.cells (t.c w) 58 g)(h1:one w')(F:cells w'=[w'])
  (H:∀m1,m1.n=m.n->m1.get b=.cells (t.c w') 58 g->(∀c,c≠b->m1.get c=m.get c)->P m1 b):
  dh (bh TE m 41 (Ψ b (0+1+3)) w') P:=
 bV uD h (by rw[F];rfl) be be λm1 hn hg hk=>H m1 hn dg hk
theorem BK:∀(l:List Int) (k:Nat) (x y:Int),l[2*k]?=some x->l[2*k+1]?=some y->(jI l)[k]?=some ⟨x,y⟩
 |[],k,x,y,h,_=>by simp at h
 |[a],k,x,y,h,F=>by(cases k with|zero=>simp at F|succ k=>simp[show 2*(k+1)=2*k+1+1 by omega]at h)
 |a::b::r,0,x,y,h,F=>by cases h;cases F;rfl
 |a::b::r,k+1,x,y,h,F=>by rw[show 2*(k+1)=2*k+1+1 by omega]at h F;simp only[IM]at h F;show(jI r)[k]?=_;exact BK r k x y h F
theorem qF:∀(l:List Int),(jI l).length=l.length/2
 |[]=>rfl
 |[a]=>by simp[jI]
 |a::b::r=>by show(jI r).length+1=(r.length+1+1)/2;rw[qF r];omega
def Uf(hX:cy X){k:Int}{l:List Int}{v:Φ}(hv:Sl m l v)(hl:l.length<1000000):
  ∃rv m',C X (.func 166) [ν k,v] m m.n rv m'/\Ext m m'/\JX (BS k l) m' rv:=by
 apply Cl.Ie hX (Us func166);rw[F166];dsimp only[aG];refine ah λm1 v2 B1 G1=>?_;rw[adW,ae];refine ah λm3 y2 P0 H1=>?_;refine aj zp P0 rfl rfl rfl λm4 z2 Q0 K1=>?_;have gz:m4.get m.n=.cells (Tk.z.c LF) 58 none:=be;have ga:m4.get m1.n=.cells (Tk.c ⟨k,.z,0,0,0,0⟩ LF) 58 none:=Q0;have b0:Ext m m4:=⟨ac,be⟩;obtain⟨A,hA⟩:∃A,A=m1.n:=⟨_,rfl⟩;rw[<-hA]at ga⊢;have O1:m.n<A:=ac;have A2:A<m4.n:=ac;clear B1 G1 P0 H1 Q0 K1;unfold ptrTo;simp only[eg,dm,cV,dD,cU,bA,ae,aJ,ag]
 have fin:∀{mm:M} {t:Tk} {w:Φ} {lo:Nat} {Q:Prop},Q->mm.get A=.cells (t.c w) 58 none->mm.get m.n=.cells (Tk.z.c LF) 58 none->Sl mm t.un.shape w->BS k l=some t->m.n<=mm.n->(∀c,c<m.n->mm.get c=m.get c)->m.n<=lo->
   aS (aC TE mm 58 (Ψ A 0)) λv=>dh (bh TE mm 58 (Ψ m.n 0) v) λm' b=>aS (aC TE m' 58 (Ψ m.n 0)) λv'=>
    (aZ (aM [v',WB])/\m.n<=min lo b/\(Q/\Ext m m/\JX (BS k l) m (aM [v',WB])))\/((aZ (aM [v',WB])=false\/min lo b<m.n)/\(min m.n (min lo b)=m.n/\Ext m m'/\JX (BS k l) m' (aM [v',WB]))):=by
  intro mm t w lo Q hQ ga gz hs ho hn hk F;rw[mj ga,ae];refine aj zp gz rfl rfl (Tk.dt hs.one) λm' T1 d0 b1=>?_;have d0:m'.get m.n=.cells (t.c w) 58 none:=d0;rw[mj d0,ae];have b2:Sl m' t.un.shape w:=hs.aY λc cs ty g hc ht=>by rw[b1 c (λe=>by subst e;rw[gz]at hc;cases hc;simp[aQ.ty,aQ.dU]at ht),hc]
  have hr:JX (BS k l) m' (.tuple #[t.v w,WB]):=by unfold JX;rw[ho];exact⟨w,rfl,b2⟩
  show(aZ (.tuple #[t.v w,WB])/\_/\(Q/\Ext m m/\JX _ m (.tuple #[t.v w,WB])))\/((aZ (.tuple #[t.v w,WB])=false\/_)/\(_/\Ext m m'/\JX _ m' (.tuple #[t.v w,WB])));cases hf:aZ (.tuple #[t.v w,WB]);·exact .inr ⟨.inl rfl,ac,⟨ac,be⟩,hr⟩
  ·exact .inl ⟨rfl,ac,hQ,.refl,hr.flat hf m⟩
 have bad:∀{mm:M} {lo:Nat} {Q:Prop},Q->mm.get m.n=.cells (Tk.z.c LF) 58 none->BS k l=none->m.n<=lo->
   aS (bz TE 58 []) λv=>dh (bh TE mm 58 (Ψ m.n 0) v) λm' b=>aS (aC TE m' 58 (Ψ m.n 0)) λv'=>
    (aZ (aM [v',L4])/\m.n<=min lo b/\(Q/\Ext m m/\JX (BS k l) m (aM [v',L4])))\/((aZ (aM [v',L4])=false\/min lo b<m.n)/\(min m.n (min lo b)=m.n/\Ext m m'/\JX (BS k l) m' (aM [v',L4]))):=by
  intro mm lo Q hQ gz ho F;rw[abG,ae];refine aj zp gz rfl rfl rfl λm' T1 d0 b1=>?_;have d0:m'.get m.n=.cells (Tk.z.c LF) 58 none:=d0;rw[mj d0,ae];exact .inl ⟨rfl,ac,hQ,.refl,by unfold JX;rw[ho];rfl⟩
 have H:∀{mm:M} {i:Nat},Ext m mm->i<l.length->∃a,aE TE 116 v (ν i)=some a/\aC TE mm 3 a=some (ν (l.getD i 0)):=(by intro mm i hx hi;have:=(hv.ak hx).JR (k:=.i64) (show l[i]?=some (l.getD i 0) by grind);grind);refine af (λc=>?_) (λc=>?_)
 ·have k1:k=1:=Ds c;have ho:BS k l=if 11<=l.length/\l.length<=21/\l.length%2=1 then some ⟨1,⟨l.getD 0 0,l.getD 1 0,l.getD 2 0,jI (l.drop 5),l.getD 3 0,l.getD 4 0⟩,0,0,0,0⟩else none:=(by unfold BS;rw[QL k1]);refine aX (λvs mm lo=>vs=[.bool (!decide (11<=l.length/\l.length<=21/\l.length%2=1))]/\m4=mm/\m.n<=lo) (λQ hQ=>?_) ?_;rw[(hv.ak b0).len mX,an,aK,ae,ag];refine af (λc=>hQ _ _ _ ⟨?_,rfl,ac⟩) (λc1=>?_);have c:=Ds c;rw[CF];rfl;have c1:=LL c1;rw[an,cz,ae,ag];refine af (λc=>hQ _ _ _ ⟨?_,rfl,ac⟩) (λc2=>?_);have c:=Ds c;rw[CF];rfl;have c2:=LL c2;rw[an,xS ce,ae,aJ,ae];refine hQ _ _ _ ⟨?_,rfl,ac⟩;congr 2;rw[<-decide_not,ge];have:(l.length:Int).tmod 2=((l.length%2:Nat):Int):=be;rw[this];omega;rintro _ _ lo ⟨rfl,rfl,F⟩;rw[av,ag];refine af (λc=>?_) (λc=>?_);rw[UC]at c;rw[MO (LL c)]at ho;exact bad be gz ho F;rw[UY]at c;have hc:=Ds c;rw[QL hc]at ho;obtain⟨a0,p0,q0⟩:=H b0 (show 0<l.length by omega);obtain⟨a1,p1,q1⟩:=H b0 (show 1<l.length by omega);obtain⟨a2,p2,q2⟩:=H b0 (show 2<l.length by omega);obtain⟨a3,p3,q3⟩:=H b0 (show 3<l.length by omega);obtain⟨a4,p4,q4⟩:=H b0 (show 4<l.length by omega);have p0:aE TE 116 v (ν 0)=some a0:=p0;have p1:aE TE 116 v (ν 1)=some a1:=p1;have p2:aE TE 116 v (ν 2)=some a2:=p2;have p3:aE TE 116 v (ν 3)=some a3:=p3;have p4:aE TE 116 v (ν 4)=some a4:=p4;rw[p0,ae,q0,ae,p1,ae,q1,ae,p2,ae,q2,ae,p3,ae,q3,ae,p4,ae,q4,ae];rw[show bz TE 43 [(0,ν (l.getD 0 0)),(1,ν (l.getD 1 0)),(2,ν (l.getD 2 0)),(4,ν (l.getD 3 0)),(5,ν (l.getD 4 0))]=some (Un.v ⟨l.getD 0 0,l.getD 1 0,l.getD 2 0,[],l.getD 3 0,l.getD 4 0⟩ LF)from ab2 rfl rfl rfl rfl rfl,ae];refine Pr ga rfl λB2 j2 d1 g1=>?_;obtain⟨L,hL⟩:∃L,L=l.drop 5:=⟨_,rfl⟩;have G2:L.length=l.length-5:=be;refine Lp.intro (γ:=Nat) (λj=>L.length-j) (λj vs mm lo=>∃r,vs=[ν ((5+2*j:Nat):Int)]/\2*j<=L.length/\m4.n<=mm.n/\m.n<=lo/\(∀c,c<A->mm.get c=m4.get c)/\mm.get A=.cells (Tk.c ⟨k,⟨l.getD 0 0,l.getD 1 0,l.getD 2 0,[],l.getD 3 0,l.getD 4 0⟩,0,0,0,0⟩ r) 58 none/\Ow (A+1) mm ((jI L).take j) r) 0 ⟨_,rfl,ac,ac,ac,λc hc=>g1 c ac,d1,Ow.nil⟩ ?_;rintro j vs mm M2 ⟨r,rfl,hj,O2,h1,i1,j1,u0⟩;have n0:Ext m mm:=⟨ac,λc hc=>by rw[i1 c ac,b0.get c hc]⟩;rw[av,(hv.ak n0).len mX,an,aK,ae,ag];refine af (λl1=>?_) (λP2=>?_);have l1:5+2*j<l.length:=be;have⟨a,e1,e2⟩:=H n0 l1;obtain⟨a',e3,e4⟩:=H n0 (show 5+2*j+1<l.length by omega);have e3:aE TE 116 v (ν (((5+2*j:Nat):Int)+1))=some a':=e3;have hp:(jI L)[j]?=some ⟨l.getD (5+2*j) 0,l.getD (5+2*j+1) 0⟩:=(by refine BK _ _ _ _ ?_ ?_;grind;grind);have lr:aC TE mm 41 (Ψ A (0+1+3))=some r:=(we j1).2.2.2.1;rw[lr,ae,e1,ae,e2,ae,aL,ae,wrap64,e3,ae,e4,ae];rw[show bz TE 46 [(0,ν (l.getD (5+2*j) 0)),(1,ν (l.getD (5+2*j+1) 0))]=some (Pl.v ⟨l.getD (5+2*j) 0,l.getD (5+2*j+1) 0⟩)from qZ rfl rfl,ae];have Q2:((jI L).take j).length<=j:=be;have pp:=qF L;refine jx (T:=41) (x:=(⟨l.getD (5+2*j) 0,l.getD (5+2*j+1) 0⟩:Pl)) zi rfl u0 ac ac I1 (λ_=>rfl) λr' m2 w2 n2 k2 T2 l2=>?_;have o1:m2.get A=_:=(k2 A ac).trans j1;refine Ps o1 w2.sl.one w2.sl.cells λb3 o2 r1 u1=>?_;rw[aL,ae,wrap64];refine⟨j+1,ac,r',be,ac,ac,ac,be,r1,?_⟩;rw[Tv,hp];exact w2.zF rfl λc c3 d3=>u1 c ac;have g3:2*j=L.length:=(by grind);have pp:=qF L;rw[Vq ac]at u0;have v1:mm.get A=.cells (Tk.c ⟨1,⟨l.getD 0 0,l.getD 1 0,l.getD 2 0,jI (l.drop 5),l.getD 3 0,l.getD 4 0⟩,0,0,0,0⟩ r) 58 none:=be;exact fin be v1 ((i1 _ O1).trans gz) (hL ▸ u0.sl) ho ac (λc hc=>n0.get c hc) h1
 have k1:k≠1:=LL c;obtain⟨M,hM⟩:∃M:Nat,M=if k=4\/k=5\/k=8 then 2 else if k=9 then 3 else 1:=⟨_,rfl⟩;have ho:BS k l=if l.length=M then some (if k=9 then⟨k,.z,l.getD 0 0,l.getD 1 0,0,l.getD 2 0⟩else if k=5\/k=8 then⟨k,.z,l.getD 0 0,0,l.getD 1 0,0⟩else if k=4 then⟨k,.z,l.getD 0 0,0,0,l.getD 1 0⟩else⟨k,.z,l.getD 0 0,0,0,0⟩)else none:=(by unfold BS;grind);refine aX (λvs mm lo=>vs=[ν (if k=4\/k=5\/k=8 then 2 else 1)]/\m4=mm/\m.n<=lo) (λQ hQ=>?_) ?_
 ·refine aX (λvs mm lo=>vs=[.bool (decide (k=4\/k=5\/k=8))]/\m4=mm/\m.n<=lo) (λR hR=>?_) ?_;refine af (λc=>hR _ _ _ ⟨be,rfl,ac⟩) (λc4=>?_);refine af (λc=>hR _ _ _ ⟨be,rfl,ac⟩) (λc5=>hR _ _ _ ⟨?_,rfl,ac⟩);have c4:=LL c4;have c5:=LL c5;congr 2;rw[ge];omega;rintro _ _ lo ⟨rfl,rfl,F⟩;rw[av,ag];refine af (λc=>hQ _ _ _ ⟨be,rfl,F⟩) (λc=>hQ _ _ _ ⟨be,rfl,F⟩)
 rintro _ _ lo ⟨rfl,rfl,F⟩;rw[av];refine aX (λvs mm lo=>vs=[ν (M:Int)]/\m4=mm/\m.n<=lo) (λQ hQ=>?_) ?_
 ·refine af (λc=>hQ _ _ _ ⟨?_,rfl,F⟩) (λc=>hQ _ _ _ ⟨?_,rfl,F⟩);have c:=Ds c;subst c;rw[hM];rfl;have c:=LL c;rw[hM,MO c];split <;>rfl
 rintro _ _ lo ⟨rfl,rfl,F⟩;rw[av,(hv.ak b0).len mX,an,bZ,ae,ag];refine af (λc=>?_) (λc=>?_);·rw[UC]at c;have c:=LL c;rw[jq]at ho;exact bad be gz ho F
 rw[UY]at c;have c:=Ds c;have d2:l.length=M:=ac;rw[QL d2]at ho;have h3:1<=M:=be;obtain⟨a0,p0,q0⟩:=H b0 (show 0<l.length by omega);have p0:aE TE 116 v (ν 0)=some a0:=p0;rw[p0,ae,q0,ae];refine DS (j:=7) ga ac ac λw1 y1 h0 o0=>?_;have h0:w1.get A=.cells (Tk.c ⟨k,.z,l.getD 0 0,0,0,0⟩ LF) 58 none:=h0;refine aX (λvs mm lo=>vs=[]/\mm.n=m4.n/\(∀c,c≠A->mm.get c=m4.get c)/\m.n<=lo/\mm.get A=.cells (Tk.c (if k=4 then⟨k,.z,l.getD 0 0,0,0,l.getD 1 0⟩else⟨k,.z,l.getD 0 0,0,0,0⟩) LF) 58 none) (λQ hQ=>?_) ?_
 ·refine af (λc=>?_) (λc=>hQ _ _ _ ⟨rfl,y1,o0,ac,be⟩);have c:=Ds c;have g2:M=2:=be;obtain⟨a1,p1,q1⟩:=H (mm:=w1) ⟨ac,λc hc=>by rw[o0 c ac,b0.get c hc]⟩ (show 1<l.length by omega);have p1:aE TE 116 v (ν 1)=some a1:=p1;rw[p1,ae,q1,ae];refine DS (j:=10) h0 ac ac λmm hn hg hk=>hQ _ _ _ ⟨rfl,ac,be,ac,dg⟩
 rintro _ r0 lo ⟨rfl,y0,i0,F,j0⟩;refine aX (λvs mm lo=>vs=[]/\mm.n=m4.n/\(∀c,c≠A->mm.get c=m4.get c)/\m.n<=lo/\mm.get A=.cells (Tk.c (if k=5\/k=8 then⟨k,.z,l.getD 0 0,0,l.getD 1 0,0⟩else if k=4 then⟨k,.z,l.getD 0 0,0,0,l.getD 1 0⟩else⟨k,.z,l.getD 0 0,0,0,0⟩) LF) 58 none) (λQ hQ=>?_) ?_
 ·refine aX (λvs mm lo=>vs=[.bool (decide (k=5\/k=8))]/\r0=mm/\m.n<=lo) (λR hR=>?_) ?_;refine af (λc=>hR _ _ _ ⟨be,rfl,F⟩) (λc5=>hR _ _ _ ⟨?_,rfl,F⟩);have c5:=LL c5;congr 2;rw[ge];omega;rintro _ _ lo ⟨rfl,rfl,F⟩;rw[av,ag];refine af (λc=>?_) (λc=>hQ _ _ _ ⟨rfl,y0,i0,F,be⟩);have c:=Ds c;have g2:M=2:=be;rw[jq]at j0;obtain⟨a1,p1,q1⟩:=H (mm:=r0) ⟨ac,λc hc=>by rw[i0 c ac,b0.get c hc]⟩ (show 1<l.length by omega);have p1:aE TE 116 v (ν 1)=some a1:=p1;rw[p1,ae,q1,ae];refine DS (j:=9) j0 ac ac λmm hn hg hk=>hQ _ _ _ ⟨rfl,ac,be,ac,dg⟩
 rintro _ A1 lo ⟨rfl,A0,e0,F,k0⟩;refine aX (λvs mm lo=>vs=[]/\mm.n=m4.n/\(∀c,c≠A->mm.get c=m4.get c)/\m.n<=lo/\mm.get A=.cells (Tk.c (if k=9 then⟨k,.z,l.getD 0 0,l.getD 1 0,0,l.getD 2 0⟩else if k=5\/k=8 then⟨k,.z,l.getD 0 0,0,l.getD 1 0,0⟩else if k=4 then⟨k,.z,l.getD 0 0,0,0,l.getD 1 0⟩else⟨k,.z,l.getD 0 0,0,0,0⟩) LF) 58 none) (λQ hQ=>?_) ?_
 ·refine af (λc=>?_) (λc=>hQ _ _ _ ⟨rfl,A0,e0,F,be⟩);have c:=Ds c;have i3:M=3:=be;rw[jq,jq]at k0;obtain⟨a1,p1,q1⟩:=H (mm:=A1) ⟨ac,λc hc=>by rw[e0 c ac,b0.get c hc]⟩ (show 1<l.length by omega);have p1:aE TE 116 v (ν 1)=some a1:=p1;rw[p1,ae,q1,ae];refine DS (j:=8) k0 ac ac λs0 h2 g0 B0=>?_;have g0:s0.get A=.cells (Tk.c ⟨k,.z,l.getD 0 0,l.getD 1 0,0,0⟩ LF) 58 none:=g0;obtain⟨a2,p2,q2⟩:=H (mm:=s0) ⟨ac,λc hc=>by rw[B0 c ac,e0 c ac,b0.get c hc]⟩ (show 2<l.length by omega);have p2:aE TE 116 v (ν 2)=some a2:=p2;rw[p2,ae,q2,ae];refine DS (j:=10) g0 ac ac λmm hn hg hk=>hQ _ _ _ ⟨rfl,ac,be,ac,dg⟩
 rintro _ u2 lo ⟨rfl,i2,l0,F,O0⟩;refine fin be O0 ((l0 _ ac).trans gz) ?_ ho ac (λc hc=>by rw[l0 c ac,b0.get c hc]) F;split;·exact .nil
 split;·exact .nil
 split <;>exact .nil
def adI{k:Int}{l:List Int}{p:Tk}(h:BS k l=some p):p.un.shape.length<=l.length:=by unfold BS at h;split at h;split at h;cases h;show(jI (l.drop 5)).length<=_;rw[qF,L1];omega;cases h;(repeat' (split at h));all_goals first|(cases h;exact ZX _)|cases h
def Mp(hX:cy X){a b:Tk}{va vb:Φ}(ha:Sl m a.un.shape va)(hb:Sl m b.un.shape vb)(la:a.un.shape.length<4611686018427387904):
  C X (.func 168) [a.v va,b.v vb] m m.n (.bool (decide (a=b))) m:=by apply Cl.fG hX (Us func168);rw[F168];dsimp only[aG];refine ah λm1 l0 i0 n0=>?_;refine ah λm2 o0 j0 k0=>?_;have H:Ext m m2:=⟨ac,be⟩;have g1:m2.get m.n=.cells (a.c va) 58 none:=(by rw[k0 _ ac];exact i0);have g2:m2.get m1.n=.cells (b.c vb) 58 none:=j0;have⟨a0,a1,a2,a3,a4⟩:=mU g1;have⟨b0,b1,b2,b3,b4⟩:=mU g2;have au:=rT g1;have bu:=rT g2;unfold ptrTo;simp only[dP,eg,dm,cV,dD,cU,ae,a0,a1,a2,a3,a4,b0,b1,b2,b3,b4,au,bu,aJ,ag];have⟨k,u,id,ot,sd,ma⟩:=a;have⟨k',u',d0,e0,g0,h0⟩:=b;refine aX (λvs m' lo=>vs=[.bool (decide ((⟨k,u,id,ot,sd,ma⟩:Tk)=⟨k',u',d0,e0,g0,h0⟩))]/\m.n<=lo) (λR hR=>?_) ?_;have no:∀{mm:M} {lo:Nat},¬((⟨k,u,id,ot,sd,ma⟩:Tk)=⟨k',u',d0,e0,g0,h0⟩)->m.n<=lo->R [L4] mm lo:=λh F=>hR _ _ _ ⟨be,F⟩;refine af (λc0=>?_) (λc=>no (λe=>LL c be) ac);refine af (λc1=>?_) (λc=>no (λe=>LL c be) ac);refine af (λc2=>?_) (λc=>no (λe=>LL c be) ac);refine af (λc3=>?_) (λc=>no (λe=>LL c be) ac);refine af (λc4=>?_) (λc=>no (λe=>LL c be) ac);refine aw (Mq hX (ha.ak H) (hb.ak H) la) (hR _ _ _ ⟨?_,ac⟩);congr 2;rw[ge,Tk.mk.injEq];have:=Ds c0;have:=Ds c1;have:=Ds c2;have:=Ds c3;have:=Ds c4;simp_all;rintro _ _ lo ⟨rfl,F⟩;rw[av];exact⟨rfl,F⟩
theorem HD(hX:cy X){t:Tk}{w:Φ}(hw:Sl m t.un.shape w)(hl:t.un.shape.length<100000):
  C X (.func 121) [t.v w] m m.n (.bool (dY t)) m:=by
 rw[<-Ri];apply Cl.fG hX (Us func121);rw[F121];dsimp only[aG];refine ah λm1 l1 A0 B0=>?_;have g1:m1.get m.n=.cells (t.c w) 58 none:=A0;have O0:Ext m m1:=⟨ac,B0⟩;have j0:=hw.ak O0;obtain⟨k0, -, -, -, -⟩:=mU g1;obtain⟨-, -, -,v3, -, -⟩:=we g1;unfold ptrTo;simp only[dP,eg,dm,cV,dD,cU,cX,bA,ae];obtain⟨B,hB⟩:∃B,B=xD t:=⟨_,rfl⟩;rw[<-hB];unfold xD at hB;refine aX (λvs mm lo=>vs=[.bool (!(di t.kind 1 9 && decide (t.un.shape.length<=8)))]/\m1=mm/\m.n<=lo) (λQ F=>?_) ?_;rw[k0,ae];apply aw (kD hX _ _ _);rw[bB,ae,ag];refine af (λc=>F _ _ _ ⟨?_,rfl,ac⟩) (λc=>?_);rw[UC]at c;rw[c];rfl;rw[UY]at c;rw[v3,ae,j0.len cR,an,cz,ae];refine F _ _ _ ⟨?_,rfl,ac⟩;rw[c,Dn];congr 2;rw[<-decide_not,ge];omega;rintro _ _ lo ⟨rfl,rfl,P0⟩;rw[av,ag];refine af (λc=>?_) (λc=>?_);rw[UC]at c;rw[c]at hB;rw[hB];exact⟨rfl,P0⟩;rw[UY]at c;rw[c,Dn]at hB;rw[k0,ae,mj g1,ae];have⟨o1,m23,Q0,q0,a1⟩:=Fe (m:=m1) hX j0 hl;refine aw Q0 ⟨Aj _,?_⟩;have nl:(iY t).length<1000000:=(by unfold iY;split;rw[ZE,xF];simp only[Vz,Vt];omega;grind);have⟨rv,n0,b1,r0,d0⟩:=Uf (m:=m23) (k:=t.kind) hX a1 nl;refine aw b1 ⟨Aj _,?_⟩;have n23:=q0.n;have n26:=r0.n;obtain⟨p,wp,ok,rfl,sp,lp,e0⟩:∃(p:Tk) (wp:Φ) (ok:Bool),rv=.tuple #[p.v wp,.bool ok]/\Sl n0 p.un.shape wp/\p.un.shape.length<4611686018427387904/\decide (BS t.kind (iY t)=some t)=(ok && decide (p=t)):=(by unfold JX at d0;cases e:BS t.kind (iY t)with|none=>rw[e]at d0;exact⟨.z,_,false,d0,.nil,ce,co⟩|some p=>rw[e]at d0;have⟨wp,h1,h2⟩:=d0;have:=adI e;grind);rw[aD,aD];simp only[LB,IM,ae];refine ah λp1 e1 u0 i1=>?_;refine aj zp u0 rfl rfl (Tk.dt sp.one) λp0 j1 g0 k1=>?_;have g0:p0.get n0.n=.cells (p.c wp) 58 none:=g0;have l0:Ext n0 p0:=⟨ac,be⟩;have H:=(q0.trans r0).trans l0;have b0:=H.cells g1;refine aX (λvs mm lo=>vs=[.bool (!decide (BS t.kind (iY t)=some t))]/\p0=mm/\m.n<=lo) (λQ F=>?_) ?_;rw[bB,ae,ag];refine af (λc=>F _ _ _ ⟨?_,rfl,ac⟩) (λc=>?_);rw[UC]at c;rw[e0,c];rfl;rw[UY]at c;rw[mj g0,ae,mj b0,ae];apply aw (Mp hX (sp.ak l0) (j0.ak H) lp);rw[bB,ae];exact F _ _ _ ⟨be,rfl,ac⟩;rintro _ _ ja ⟨rfl,rfl,y0⟩;rw[av,ag];refine af (λc=>?_) (λc=>?_);rw[UC]at c;rw[c,F7]at hB;rw[hB];exact⟨rfl,y0⟩;rw[UY]at c;rw[c,Dn]at hB;have⟨k0,i0,o0,s0,a0⟩:=mU b0;obtain⟨-,ku, -, -, -, -⟩:=we b0;have uu:=rT b0;simp only[cX,ae,k0,i0,o0,s0,a0,ku,uu,aJ,bZ,aK,ag];refine af (λc1=>?_) (λc1=>?_);rw[QL (Ds c1)]at hB;refine aX (λvs mm lo=>vs=[.bool B]/\m.n<=lo) (λQ F=>?_) ?_;apply aw (lz hX (j0.ak H) ac);rw[ag];refine af (λc=>?_) (λc=>F _ _ _ ⟨be,ac⟩);rw[ku,ae];apply aw (kD hX _ _ _);exact F _ _ _ ⟨be,ac⟩;rintro _ _ d1 ⟨rfl,h0⟩;rw[av];exact⟨rfl,h0⟩;rw[MO (LL c1)]at hB;refine aX (λvs mm lo=>vs=[.bool B]/\m.n<=lo) (λQ F=>?_) ?_;apply aw (kD hX _ _ _);rw[ag];refine af (λc=>?_) (λc=>F _ _ _ ⟨be,ac⟩);rw[o0,ae];apply aw (kD hX _ _ _);rw[ag];refine af (λd=>?_) (λd=>F _ _ _ ⟨be,ac⟩);rw[s0,ae];apply aw (kD hX _ _ _);rw[ag];refine af (λe=>?_) (λe=>F _ _ _ ⟨be,ac⟩);rw[a0,ae];apply aw (kD hX _ _ _);rw[ag];refine af (λf=>?_) (λf=>F _ _ _ ⟨be,ac⟩);rw[k0,ae,bZ,ae,ag,i0,ae,o0,ae,aK,ae]
 refine af (λg=>F _ _ _ ⟨be,ac⟩) (λg=>F _ _ _ ⟨be,ac⟩);rintro _ _ d1 ⟨rfl,h0⟩;rw[av];exact⟨rfl,h0⟩
def Tp{u:Un}{w b:Φ}(h:aZ (.tuple #[u.v w,b])):Go.D.bO w:=by have F:((true && (true && (true && (Go.D.bO w && (true && (true && true)))))) && (eC b && true)):=h;grind
def iS.flat{id:Int}{v b:Φ}(h:iS us id m' (.tuple #[v,b]))(F:aZ (.tuple #[v,b]))(m:M):iS us id m (.tuple #[v,b]):=by unfold iS at h⊢;split at h;have⟨w,e,H⟩:=h;cases e;exact⟨w,rfl,(nQ H (Tp F) m).2⟩;exact h
def HI{id:Int}{v b:Φ}{lo:Nat}{Q:Prop}(H:Q)(h:iS us id m' (.tuple #[v,b]))(F:m.n<=lo)(hx:Ext m m'):
  (aZ (aM [v,b])/\m.n<=lo/\(Q/\Ext m m/\iS us id m (aM [v,b])))\/((aZ (aM [v,b])=false\/lo<m.n)/\(min m.n lo=m.n/\Ext m m'/\iS us id m' (aM [v,b]))):=by cases hf:aZ (aM [v,b]);exact .inr ⟨.inl rfl,ac,hx,h⟩;exact .inl ⟨rfl,F,H,.refl,h.flat hf m⟩
def qf(hX:cy X){l:List UW}{v vm:Φ}(h:cC m l v)(hl:l.length<1000000)(h1:one vm)(id:Int):
  ∃rv m',C X (.func 75) [.agg #[v,vm],ν id] m m.n rv m'/\Ext m m'/\iS (bH l) id m' rv:=by apply Cl.Ie hX (Us func75);rw[F75];dsimp only[aG];refine ah λm1 P0 i0 Q0=>?_;refine ah λm2 a1 j0 k0=>?_;have l0:Ext m m2:=⟨ac,be⟩;have g1:m2.get m.n=.cells [v,vm] 32 none:=(by rw[k0 _ ac];exact i0);have g2:m2.get m1.n=.cells Un.zc 43 none:=j0;have hF:=h.ak l0;obtain⟨-,n0, -, -⟩:=kc g1;unfold ptrTo;simp only[bP,bk,ae];refine Lp.intro (γ:=Nat) (λi=>l.length-i) (λi vs mm lo=>∃z,vs=[z,ν i]/\i<=l.length/\m2=mm/\m.n<=lo/\(bH (l.take i)).find? (λy=>decide (y.id=id))=none) 0 ⟨_,rfl,ZX _,rfl,ac,rfl⟩ ?_;rintro i vs mm lo ⟨z,rfl,hi,rfl,o0,b0⟩;rw[av,av,n0,ae,hF.sl.len cM,an,aK,ae,ag];refine af (λe0=>?_) (λb1=>?_);have e0:i<l.length:=be;obtain⟨x,hx⟩:∃x,l[i]?=some x:=⟨_,Np e0⟩;have⟨q,q0,f1,f2,f3⟩:=zm hF.sl hx;have⟨q',q1,q2,ow⟩:=hF.sl.gh (k:=.i64) hx;obtain rfl:q=q':=Option.some.inj (f1.symm.trans q1);have p0:=Jc hx;rw[ae,f1,ae,f2,ae,f3,ae,aJ,ae,ag];have r0:bH (l.take (i+1))=bH (l.take i)++ [x.u]:=(by unfold bH;rw[Tv,hx,Xj];rfl);refine af (λc=>?_) (λc=>?_);rw[ae,f1,ae,q2,ae];refine aj dN g2 rfl rfl (Un.dt ow) λg0 A0 F h0=>?_;have F:g0.get m1.n=.cells (x.u.c x.w) 43 none:=F;rw[bQ F,ae];have d0:cp (bH l) id=some x.u:=(by have e:bH l=bH (l.take (i+1))++bH (l.drop (i+1)):=(by unfold bH;rw[<-Xj,ZV]);unfold cp;grind);refine HI (m':=g0) be ?_ ac ⟨ac,be⟩;unfold iS;rw[d0];exact⟨x.w,rfl,(hF.sh x p0).aY λc cs t g hc ht=>by rw[h0 c (λe=>by subst e;rw[g2]at hc;cases hc;simp[aQ.ty,aQ.dU]at ht),hc]⟩;rw[aL,ae,wrap64 be ac];refine⟨i+1,ac,z,rfl,ac,rfl,o0,?_⟩;rw[r0,List.find?_append,b0];simp[c];have s0:i=l.length:=(by grind);subst s0;rw[Nl]at b0;have u0:bz TE 43 []=some (.agg Un.zc.toArray):=qo;rw[u0,ae];refine aj dN g2 rfl rfl rfl λy0 B0 H O0=>?_;have H:y0.get m1.n=.cells (Un.c ⟨0,0,0,[],0,0⟩ LF) 43 none:=H;rw[bQ H,ae];refine .inl ⟨rfl,ac,be,.refl,?_⟩;unfold iS cp;rw[b0];rfl
def Ec{l:List KW}(h:Sl m l st){i:Nat}{x:KW}(H:l[i]?=some x):∃b o,aE TE 33 st (ν i)=some (Ψ b o)/\aC TE m 3 (Ψ b (o+0+0))=some (ν x.u.id)/\aC TE m 85 (Ψ b o)=some x.v/\one x.w/\one x.mv:=by have⟨b,o,bc,g,cs,e1,hb,hr,hle,hj⟩:=h.jc fg (k:=.i64) H;obtain⟨rfl,h1,h2⟩:cs=x.c/\one x.w/\one x.mv:=hr;have hle:o+7<=bc.length:=hle;refine⟨b,o,e1,?_,?_,h1,h2⟩;rw[bR,aH hb];exact hj 0 (by show 0<7;decide);have⟨p,F,e2,e3,e4⟩:=h.index fg (k:=.i64) H;obtain rfl:p=Ψ b o:=Option.some.inj (e2.symm.trans e1);obtain⟨rfl,_⟩:F=x.c/\_:=e4;exact e3
def zt(hX:cy X){y:Yd}{r r2 st rc mo:Φ}{F:List KW}(hk:Sl m F st)(hl:F.length<1000000)(h1:(yc r r2 st rc mo).all one)(id:Int):
  C X (.func 169) [yv r r2 st rc mo,ν id] m m.n (ν (idx (λx:KW=>decide (x.u.id=id)) F)) m:=by apply Cl.fG hX (Us func169);rw[F169];dsimp only[aG];refine ah λm1 i0 g0 h0=>?_;have g1:m1.get m.n=.cells (yc r r2 st rc mo) 37 none:=g0;have H:=hk.ak (m':=m1) ⟨ac,h0⟩;obtain⟨-,l1, -, -, -⟩:=ff g1;unfold ptrTo;simp only[dQ,cf,aW,ae];refine Lp.intro (γ:=Nat) (λi=>F.length-i) (λi vs mm lo=>∃z,vs=[z,ν i]/\i<=F.length/\m1=mm/\m.n<=lo/\∀j x,j<i->F[j]?=some x->x.u.id≠id) 0 ⟨_,rfl,ZX _,rfl,ac,λj x hj=>ac⟩ ?_;rintro i vs mm lo ⟨z,rfl,hi,rfl,b0,d0⟩;rw[av,av,l1,ae,H.len fg,an,aK,ae,ag];refine af (λe0=>?_) (λj0=>?_);have e0:i<F.length:=be;obtain⟨x,hx⟩:∃x,F[i]?=some x:=⟨_,Np e0⟩;obtain⟨b,o,e1,e2, -⟩:=Ec H hx;rw[ae,e1,ae,cf,ae,aW,ae,e2,ae,aJ,ae,ag];refine af (λc=>⟨?_,b0⟩) (λc=>?_);rw[FA (i:=i) hx (by exact c) λj y hj hy=>be];rfl;rw[aL,ae,wrap64];refine⟨i+1,ac,z,rfl,ac,rfl,b0,λj y hj hy=>?_⟩;by_cases e:j=i;subst e;rw[hx]at hy;cases hy;exact LL c;exact d0 j y ac hy;have k0:i=F.length:=(by grind);refine⟨?_,b0⟩;rw[xB λy hy=>?_];rfl;have⟨j,hj⟩:=RL hy;simpa using d0 j y be hj
def zQ(hX:cy X)(a b:Fc):C X (.func 77) [a.v,b.v] m m.n (.bool (decide (oh a b))) m:=by apply Cl.fG hX (Us func77);rw[F77];dsimp only[aG];refine ah λm1 j0 F k0=>?_;refine ah λm2 l0 H b0=>?_;have g1:m2.get m.n=.cells a.c 103 none:=(by rw[b0 _ ac];exact F);have g2:m2.get m1.n=.cells b.c 103 none:=H;have d0:aC TE m2 3 (Ψ m.n (0+0))=some (ν a.un):=(by rw[bR,aH g1];rfl);have e0:aC TE m2 3 (Ψ m.n (0+1))=some (ν a.side):=(by rw[bR,aH g1];rfl);have g0:aC TE m2 3 (Ψ m1.n (0+0))=some (ν b.un):=(by rw[bR,aH g2];rfl);have h0:aC TE m2 3 (Ψ m1.n (0+1))=some (ν b.side):=(by rw[bR,aH g2];rfl);unfold ptrTo;refine aX (λvs mm lo=>vs=[.bool (decide (oh a b))]/\m.n<=lo) (λR hR=>?_) ?_;simp only[iE,jB,ae,d0,e0,g0,h0,aK,aJ,ag];refine af (λc=>hR _ _ _ ⟨by rw[L5 (show oh a b from .inl (Ds c))],ac⟩) (λc1=>?_);have c1:=LL c1;refine af (λc=>hR _ _ _ ⟨?_,ac⟩) (λc=>hR _ _ _ ⟨?_,ac⟩);have c:=Ds c;congr 2;rw[ge];unfold oh;omega;have c:=LL c;rw[Qr];unfold oh;omega;rintro _ _ lo ⟨rfl,i0⟩;rw[av];exact⟨rfl,i0⟩
def Em{l:List Fc}{v:Φ}(h:Sl m l v){i:Nat}{x:Fc}(F:l[i]?=some x):∃p,aE TE 34 v (ν i)=some p/\aC TE m 103 p=some x.v:=by have⟨p,cs,H,e2,e3⟩:=h.index lq (k:=.i64) F;obtain rfl:cs=x.c:=e3;exact⟨p,H,e2⟩
def Wc{a b:Fc}:bE TE .eql 103 a.v b.v=some (.bool (decide (a=b))):=by have h:bE TE .eql 103 a.v b.v=some (.bool ((a.un==b.un) && ((a.side==b.side) && true))):=bv;rw[h];have⟨F,a2⟩:=a;have⟨H,b2⟩:=b;congr 2;grind
def uI(hX:cy X){l:List Fc}{r r2 st rc mo:Φ}(hr:Sl m l rc)(hl:l.length<1000000)(f:Fc):
  C X (.func 76) [yv r r2 st rc mo,f.v] m m.n (.bool (decide (f∈l))) m:=by apply Cl.fG hX (Us func76);rw[F76];dsimp only[aG];refine ah λm1 j0 e0 k0=>?_;refine ah λm2 l0 g0 h0=>?_;have g1:m2.get m.n=.cells (yc r r2 st rc mo) 37 none:=(by rw[h0 _ ac];exact e0);have g2:m2.get m1.n=.cells f.c 103 none:=g0;have b0:=hr.ak (m':=m2) ⟨ac,be⟩;obtain⟨-, -,l2, -, -⟩:=ff g1;have lf:aC TE m2 103 (Ψ m1.n 0)=some f.v:=(by rw[B9,aI (n:=2) g2 be];rfl);unfold ptrTo;simp only[fD,ae];refine Lp.intro (γ:=Nat) (λi=>l.length-i) (λi vs mm lo=>∃z,vs=[z,ν i]/\i<=l.length/\m2=mm/\m.n<=lo/\f∉l.take i) 0 ⟨_,rfl,ZX _,rfl,ac,co⟩ ?_;rintro i vs mm lo ⟨z,rfl,hi,rfl,F,H⟩;rw[av,av,l2,ae,b0.len lq,an,aK,ae,ag];refine af (λd0=>?_) (λn0=>?_);have d0:i<l.length:=be;obtain⟨x,hx⟩:∃x,l[i]?=some x:=⟨_,Np d0⟩;have⟨p,e1,e2⟩:=Em b0 hx;rw[ae,e1,ae,e2,ae,lf,ae,Wc,ae,ag];refine af (λc=>⟨?_,F⟩) (λc=>?_);have c:=Ds c;subst c;rw[L5 (Jc hx)];rfl;rw[aL,ae,wrap64];refine⟨i+1,ac,z,rfl,ac,rfl,F,?_⟩;rw[Tv,hx];simp only[OR,L3,PY,not_or];exact⟨H,λe=>LL c e.symm⟩;have i0:i=l.length:=(by grind);subst i0;rw[Nl]at H;exact⟨by rw[Qr H];rfl,F⟩
theorem Eo(hX:cy X){l:List UW}{v vm:Φ}(h:cC m l v)(hl:l.length<1000000)(h1:one vm)(id side:Int):
  C X (.func 171) [.agg #[v,vm],ν id,ν side] m m.n (.bool (oo (bH l) id side)) m:=by apply Cl.fG hX (Us func171);rw[F171];dsimp only[aG];refine ah λm1 j0 b0 d0=>?_;have g1:m1.get m.n=.cells [v,vm] 32 none:=b0;have e0:Ext m m1:=⟨ac,d0⟩;unfold ptrTo;rw[(kc g1).2.2.2,ae];have⟨rv,m4,c4,x4,fr⟩:=qf (m:=m1) hX (h.ak e0) hl h1 id;apply aw c4;have n4:=x4.n;obtain⟨u,w,ok,rfl,hs,hB⟩:∃(u:Un) (w:Φ) (ok:Bool),rv=.tuple #[u.v w,.bool ok]/\Sl m4 u.shape w/\oo (bH l) id side=(ok && (decide (side= -1) ||decide (side= -2) ||decide (0<=side) && decide (side<(u.shape.length:Int)))):=(by unfold iS at fr;unfold oo;cases e:cp (bH l) id with|none=>rw[e]at fr;exact⟨.z,LF,false,fr,.nil,rfl⟩|some u=>rw[e]at fr;have⟨w,h1,h2⟩:=fr;exact⟨u,w,true,h1,h2,co⟩);rw[aD,aD];simp only[LB,IM,ae];refine ah λm8 k0 g0 l0=>?_;refine aj dN g0 rfl rfl (Un.dt hs.one) λm9 n0 F o0=>?_;have F:m9.get m4.n=.cells (u.c w) 43 none:=F;have h0:=hs.ak (m':=m9) ⟨ac,be⟩;obtain⟨-, -, -,l3, -, -⟩:=ji F;refine aX (λvs mm lo=>vs=[.bool (oo (bH l) id side)]/\m.n<=lo) (λR H=>?_) ?_;rw[ag];refine af (λc=>?_) (λc=>H _ _ _ ⟨be,ac⟩);rw[aJ,ae,ag];refine af (λc1=>H _ _ _ ⟨be,ac⟩) (λc1=>?_);rw[aJ,ae,ag];refine af (λc2=>H _ _ _ ⟨be,ac⟩) (λc2=>?_);rw[cZ,ae,ag];refine af (λc3=>?_) (λc3=>H _ _ _ ⟨be,ac⟩);rw[bA,ae,l3,ae,h0.len cR,an,aK,ae];exact H _ _ _ ⟨be,ac⟩;rintro _ _ lo ⟨rfl,i0⟩;rw[av];exact⟨rfl,i0⟩
structure Sf where
 de:Int
 gr:Int
 st:Int
 po:Int
 sa:Int
abbrev Sf.c(x:Sf):Ω:=[.int .i64 x.de,.int .i64 x.gr,.int .i64 x.st,.int .i64 x.po,.int .i64 x.sa]
abbrev Sf.v(x:Sf):Φ:=.agg (x.c).toArray
instance:aQ Sf where
 ty:=96
 sz:=5
 agg:=true
 dU:=[]
 rep _ x cs:=cs=x.c
 pos:=ce
 one:=be
 len:=dg
 iL:=by rintro _ _ _ rfl;rfl
 aY:=be
def WV:rp TE 340 96 Sf:=⟨ai.t340,ai.t96,bv,⟨_,rfl⟩,rfl,bv,rfl,rfl⟩
def nM:List Sf:=[⟨9,3,9,1,0⟩,⟨8,3,6,4,1⟩,⟨7,3,5,5,1⟩,⟨6,3,4,6,3⟩,⟨3,2,5,3,0⟩,⟨5,2,2,7,1⟩,⟨8,3,8,1,4⟩,⟨10,1,9,0,0⟩]
def im(a:Int):Option Sf:=if 0<=a/\a<=7 then nM[a.toNat]? else none
def bX(a b:Int):Bool:=match im a,im b with
 |some x,some y=>decide (x.st<=y.st+1) && decide (y.po<=x.po+1) && decide (x.sa<=y.sa+1)
 |_,_=>false
def bM(a b:Int):Bool:=match im a,im b with
 |some x,some y=>decide (x.st<=y.st) && decide (y.po<=x.po) && decide (x.sa<=y.sa+1)
 |_,_=>false
def iA(a:Int):Φ:=match im a with
 |some x=> .tuple #[x.v,.int .i64 0]
 |none=> .tuple #[Sf.v ⟨0,0,0,0,0⟩,.int .i64 80]
def Mc:∃m',aO TE m 340 8 [(0,Sf.v ⟨9,3,9,1,0⟩),(1,Sf.v ⟨8,3,6,4,1⟩),(2,Sf.v ⟨7,3,5,5,1⟩),(3,Sf.v ⟨6,3,4,6,3⟩),(4,Sf.v ⟨3,2,5,3,0⟩),(5,Sf.v ⟨5,2,2,7,1⟩),(6,Sf.v ⟨8,3,8,1,4⟩),(7,Sf.v ⟨10,1,9,0,0⟩)]=some (RR m.n 0 8 8,m')/\m'=m.push (.cells (nM.flatMap Sf.c) 96 none):=⟨_,bv,rfl⟩
def abM{b:Nat}{g:Option Nat}(h:m.get b=.cells (nM.flatMap Sf.c) 96 g):Sl m nM (RR b 0 8 8):=
 .inr ⟨b,0,8,_,g,rfl,h,ce,λi x hi=>by have:i<8:=(Vc.1 hi).1;match i,hi with|0,hi=>cases hi;rfl|1,hi=>cases hi;rfl|2,hi=>cases hi;rfl|3,hi=>cases hi;rfl|4,hi=>cases hi;rfl|5,hi=>cases hi;rfl|6,hi=>cases hi;rfl|7,hi=>cases hi;rfl|i+8,_=>omega⟩
def qy(hX:cy X)(a:Int):C X (.func 213) [ν a] m m.n (iA a) m:=by refine Cl.xG (hX.no _ rfl) (Us func213) rfl (by unfold iA;split <;>rfl) ?_;rw[F213];dsimp only[aG];refine ah λm1 o0 h0 p0=>?_;rw[show bz TE 96 [(0,ν 9),(1,ν 3),(2,ν 9),(3,ν 1)]=some (Sf.v ⟨9,3,9,1,0⟩) by kernel_rfl,ae];rw[show bz TE 96 [(0,ν 8),(1,ν 3),(2,ν 6),(3,ν 4),(4,ν 1)]=some (Sf.v ⟨8,3,6,4,1⟩) by kernel_rfl,ae];rw[show bz TE 96 [(0,ν 7),(1,ν 3),(2,ν 5),(3,ν 5),(4,ν 1)]=some (Sf.v ⟨7,3,5,5,1⟩) by kernel_rfl,ae];rw[show bz TE 96 [(0,ν 6),(1,ν 3),(2,ν 4),(3,ν 6),(4,ν 3)]=some (Sf.v ⟨6,3,4,6,3⟩) by kernel_rfl,ae];rw[show bz TE 96 [(0,ν 3),(1,ν 2),(2,ν 5),(3,ν 3)]=some (Sf.v ⟨3,2,5,3,0⟩) by kernel_rfl,ae];rw[show bz TE 96 [(0,ν 5),(1,ν 2),(2,ν 2),(3,ν 7),(4,ν 1)]=some (Sf.v ⟨5,2,2,7,1⟩) by kernel_rfl,ae];rw[show bz TE 96 [(0,ν 8),(1,ν 3),(2,ν 8),(3,ν 1),(4,ν 4)]=some (Sf.v ⟨8,3,8,1,4⟩) by kernel_rfl,ae];rw[show bz TE 96 [(0,ν 10),(1,ν 1),(2,ν 9)]=some (Sf.v ⟨10,1,9,0,0⟩) by kernel_rfl,ae];have⟨m11,H,F⟩:=Mc (m:=m1);rw[H,an];have b0:m11.get m1.n=.cells (nM.flatMap Sf.c) 96 none:=(by rw[F];exact M.aU);have i0:m11.n=m1.n+1:=(by rw[F];exact M.lC);have gz:m11.get m.n=.cells (Sf.c ⟨0,0,0,0,0⟩) 96 none:=(by rw[F,M.cI ac];exact h0);have hs:=abM b0;have d0:∀{mm:M} {x:Sf},mm.get m.n=.cells x.c 96 none->aC TE mm 96 (Ψ m.n 0)=some x.v:=λh=>(by rw[Fp,aI (n:=5) h be];rfl);clear F H;unfold ptrTo;refine aX (λvs mm lo=>vs=[.bool (!decide (0<=a/\a<=7))]/\m11=mm/\m.n<=lo) (λR hR=>?_) ?_;rw[aK,ae,ag];refine af (λc=>hR _ _ _ ⟨?_,rfl,ac⟩) (λc=>?_);have c:=Ds c;rw[CF];rfl;have c:=LL c;rw[cz,ae];refine hR _ _ _ ⟨?_,rfl,ac⟩;congr 2;rw[<-decide_not,ge];omega;rintro _ _ lo ⟨rfl,rfl,q0⟩;rw[av,ag];refine af (λc=>?_) (λc=>?_);rw[UC]at c;rw[show bz TE 96 []=some (Sf.v ⟨0,0,0,0,0⟩) by kernel_rfl,ae];refine aj kT gz rfl rfl rfl λm21 j0 e0 k0=>?_;rw[d0 (x:=⟨0,0,0,0,0⟩) e0,ae];refine⟨?_,ac⟩;unfold iA im;rw[MO (LL c)];rfl;rw[UY]at c;have c:=Ds c;obtain⟨x,hx⟩:∃x,nM[a.toNat]?=some x:=⟨_,Np (show a.toNat<8 by omega)⟩;have⟨p,cs,e1,e2,e3⟩:=hs.index WV (k:=.i64) hx;obtain rfl:cs=x.c:=e3;rw[show((a.toNat:Nat):Int)=a by omega]at e1;have e2:aC TE m11 96 p=some x.v:=e2;rw[e1,ae,e2,ae];refine aj kT gz rfl rfl rfl λr0 l0 g0 n0=>?_;rw[d0 (x:=x) g0,ae];refine⟨?_,ac⟩;unfold iA im;rw[QL c,hx];rfl
def ij(a:Int):∃(x:Sf) (e:Int),iA a=.tuple #[x.v,ν e]/\(decide (e=0)->im a=some x)/\(decide (e=0)=false->im a=none):=by unfold iA;cases im a with|none=>exact⟨_,_,rfl,be,λ_=>rfl⟩|some x=>exact⟨x,0,rfl,λ_=>rfl,be⟩
def mn{x:Sf}(h:im a=some x):(0<=x.st/\x.st<=10)/\(0<=x.po/\x.po<=10)/\(0<=x.sa/\x.sa<=10):=by unfold im at h;split at h;have hm:=Jc h;simp only[nM,OS,Dy,or_false]at hm;rcases hm with rfl|rfl|rfl|rfl|rfl|rfl|rfl|rfl <;>decide;cases h
def VW{b:Nat}{x:Sf}{g:Option Nat}(h:m.get b=.cells x.c 96 g):aC TE m 3 (Ψ b (0+2))=some (ν x.st)/\aC TE m 3 (Ψ b (0+3))=some (ν x.po)/\aC TE m 3 (Ψ b (0+4))=some (ν x.sa):=by refine⟨?_,?_,?_⟩ <;>(rw[bR,aH h];rfl)
def Iu(hX:cy X)(a b:Int):C X (.func 170) [ν a,ν b] m m.n (.bool (bX a b)) m:=by apply Cl.fG hX (Us func170);rw[F170];dsimp only[aG];have⟨x,e,h1,F,h0⟩:=ij a;have⟨y,f,h2,H,i0⟩:=ij b;apply aw (qy hX a);rw[h1,aD,aD];simp only[LB,IM,ae];refine ah λm6 p0 j0 q0=>?_;refine aj kT j0 rfl rfl rfl λm7 r0 k0 s0=>?_;apply aw (qy hX b);rw[h2,aD,aD];simp only[LB,IM,ae];refine ah λm14 n0 b0 d0=>?_;refine aj kT b0 rfl rfl rfl λm15 o0 e0 g0=>?_;have g1:m15.get m.n=.cells x.c 96 none:=(by rw[g0 _ ac,d0 _ ac];exact k0);have g2:m15.get m7.n=.cells y.c 96 none:=e0;have⟨x0,x1,x2⟩:=VW g1;have⟨y0,y1,y2⟩:=VW g2;unfold ptrTo;refine aX (λvs mm lo=>vs=[.bool (bX a b)]/\m.n<=lo) (λR hR=>?_) ?_;simp only[kJ,kH,kG,ae,x0,x1,x2,y0,y1,y2,aJ,cO,cZ,aL,ag];refine af (λc1=>?_) (λc1=>hR _ _ _ ⟨by unfold bX;rw[h0 c1],ac⟩);refine af (λc2=>?_) (λc2=>hR _ _ _ ⟨by unfold bX;rw[F c1,i0 c2],ac⟩);have⟨s1,s2,s3⟩:=mn (F c1);have⟨t1,t2,t3⟩:=mn (H c2);have hS:bX a b=(decide (x.st<=y.st+1) && decide (y.po<=x.po+1) && decide (x.sa<=y.sa+1)):=(by unfold bX;rw[F c1,H c2]);rw[wrap64 (x:=y.st+1) ac ac,wrap64 (x:=x.po+1) ac ac,wrap64 (x:=y.sa+1) ac ac];refine af (λc3=>?_) (λc3=>hR _ _ _ ⟨be,ac⟩);refine af (λc4=>?_) (λc4=>hR _ _ _ ⟨be,ac⟩);exact hR _ _ _ ⟨be,ac⟩;rintro _ _ lo ⟨rfl,l0⟩;rw[av];exact⟨rfl,l0⟩
def zv(hX:cy X)(a b:Int):C X (.func 172) [ν a,ν b] m m.n (.bool (bM a b)) m:=by apply Cl.fG hX (Us func172);rw[F172];dsimp only[aG];have⟨x,e,h1,F,h0⟩:=ij a;have⟨y,f,h2,H,i0⟩:=ij b;apply aw (qy hX a);rw[h1,aD,aD];simp only[LB,IM,ae];refine ah λm6 p0 j0 q0=>?_;refine aj kT j0 rfl rfl rfl λm7 r0 k0 s0=>?_;apply aw (qy hX b);rw[h2,aD,aD];simp only[LB,IM,ae];refine ah λm14 n0 b0 d0=>?_;refine aj kT b0 rfl rfl rfl λm15 o0 e0 g0=>?_;have g1:m15.get m.n=.cells x.c 96 none:=(by rw[g0 _ ac,d0 _ ac];exact k0);have g2:m15.get m7.n=.cells y.c 96 none:=e0;have⟨x0,x1,x2⟩:=VW g1;have⟨y0,y1,y2⟩:=VW g2;unfold ptrTo;refine aX (λvs mm lo=>vs=[.bool (bM a b)]/\m.n<=lo) (λR hR=>?_) ?_;simp only[kJ,kH,kG,ae,x0,x1,x2,y0,y1,y2,aJ,cO,cZ,aL,ag];refine af (λc1=>?_) (λc1=>hR _ _ _ ⟨by unfold bM;rw[h0 c1],ac⟩);refine af (λc2=>?_) (λc2=>hR _ _ _ ⟨by unfold bM;rw[F c1,i0 c2],ac⟩);have⟨s1,s2,s3⟩:=mn (F c1);have⟨t1,t2,t3⟩:=mn (H c2);have hS:bM a b=(decide (x.st<=y.st) && decide (y.po<=x.po) && decide (x.sa<=y.sa+1)):=(by unfold bM;rw[F c1,H c2]);rw[wrap64 (x:=y.sa+1) ac ac];refine af (λc3=>?_) (λc3=>hR _ _ _ ⟨be,ac⟩);refine af (λc4=>?_) (λc4=>hR _ _ _ ⟨be,ac⟩);exact hR _ _ _ ⟨be,ac⟩;rintro _ _ lo ⟨rfl,l0⟩;rw[av];exact⟨rfl,l0⟩
section
variable {α:Type} [aQ α] {T:TypeId}
def Ap.Lu(H:vU TE T α)(b0:aQ.dU α=[]){n1:Nat}{l ys:List α}{v y:Φ}(h:Ap n1 m l v)(hy:Sl m ys y)(hn:n1<=m.n)(hs:l.length+ys.length<=1000000):
  ∃v' m1,aR TE (m.wl m.n) .append [T,T] [v,y]=some (v',m1)/\Ap n1 m1 (l++ys) v'/\m.n<=m1.n/\n1<=m1.low/\∀c,c<n1->m1.get c=m.get c:=by by_cases F:ys=[];subst F;rcases h with h|⟨b,cs,te,rfl,h2,h3⟩;obtain⟨v',m1,e1,ho,hf,hl,_⟩:=h.append H be hy hn ac;exact⟨v',m1,e1,.inl ho,hf.n,hl,λc hc=>hf.get c hc⟩;refine⟨_,m.wl m.n,append_nil H (Aj _) be ?_,?_,Aj _,hn,λ_ _=>rfl⟩;rcases hy with⟨rfl,_⟩|⟨b',o,c,bc,g,rfl,_⟩;grind;grind;rw[Vy];exact .inr ⟨b,cs,te,rfl,h2,h3.ak Ext.refl.wl⟩;have⟨v',m1,e1,ho,h1,h2,h3⟩:=h.append H b0 hy F hn hs;exact⟨v',m1,e1,.inl ho,h1,h2,h3⟩
def Ap.lit0{n1 b:Nat}{g:Option Nat}(h:m.get b=.cells [] (aQ.ty α) none):Ap n1 m ([]:List α) (RR b 0 0 0):=
 .inr ⟨b,[],_,rfl,h,.inr ⟨b,0,0,[],none,rfl,h,co,be⟩⟩
end
def La{b:Nat}{x:UW}(h:m.get b=.cells x.c 43 none)(F:one x.w)(H:Sl m x.u.shape x.w)(hl:x.u.shape.length<1000000):cC m [x] (RR b 0 1 1):=
 ⟨lv h ⟨rfl,F⟩,be,be,.inr ⟨b,0,1,_,none,rfl,Aj _,h,.inl rfl⟩⟩
variable{x:KW}
def Dc(h:m.get b=.cells x.c 85 g):aC TE m 3 (Ψ b (0+0+0))=some (ν x.u.id)/\aC TE m 43 (Ψ b (0+0))=some (x.u.v x.w)/\aC TE m 30 (Ψ b (0+6))=some x.mv/\aC TE m 85 (Ψ b 0)=some x.v:=by refine⟨?_,?_,?_,?_⟩;rw[bR,aH h];rfl;rw[qO,aI (n:=6) h dg];rfl;rw[kz,aH h];rfl;rw[KI,aI (n:=7) h dg];rfl
def QG{l:List Mk}{v:Φ}(h:Sl m l v){i:Nat}{x:Mk}(F:l[i]?=some x):∃b o,aE TE 30 v (ν i)=some (Ψ b o)/\aC TE m 3 (Ψ b (o+0))=some (ν x.id):=by have⟨b,o,bc,g,cs,H,hb,hr,hle,hj⟩:=h.jc cS (k:=.i64) F;obtain rfl:cs=x.c:=hr;refine⟨b,o,H,?_⟩;rw[bR,aH hb];exact hj 0 (by show 0<5;decide)
def Gj{b:Nat}{x:Fc}{g:Option Nat}(h:m.get b=.cells x.c 103 g):aC TE m 3 (Ψ b (0+0))=some (ν x.un)/\aC TE m 3 (Ψ b (0+1))=some (ν x.side)/\aC TE m 103 (Ψ b 0)=some x.v:=by refine⟨?_,?_,?_⟩;rw[bR,aH h];rfl;rw[bR,aH h];rfl;rw[B9,aI (n:=2) h be];rfl
def I8{b:Nat}{x:Mo}{g:Option Nat}(h:m.get b=.cells x.c 60 g):aC TE m 3 (Ψ b (0+0))=some (ν x.a)/\aC TE m 3 (Ψ b (0+1))=some (ν x.b)/\aC TE m 3 (Ψ b (0+2))=some (ν x.cD)/\aC TE m 60 (Ψ b 0)=some x.v:=by refine⟨?_,?_,?_,?_⟩;rw[bR,aH h];rfl;rw[bR,aH h];rfl;rw[bR,aH h];rfl;rw[KJ,aI (n:=3) h be];rfl
def Hc{l:List Mo}{v:Φ}(h:Sl m l v){i:Nat}{x:Mo}(H:l[i]?=some x):∃b o,aE TE 35 v (ν i)=some (Ψ b o)/\aC TE m 60 (Ψ b o)=some x.v/\
  aC TE m 3 (Ψ b (o+0))=some (ν x.a)/\aC TE m 3 (Ψ b (o+1))=some (ν x.b):=by have⟨b,o,bc,g,cs,e1,hb,hr,hle,hj⟩:=h.jc js (k:=.i64) H;obtain rfl:cs=x.c:=hr;refine⟨b,o,e1,?_,?_,?_⟩;have⟨p,F,e2,e3,e4⟩:=h.index js (k:=.i64) H;obtain rfl:p=Ψ b o:=Option.some.inj (e2.symm.trans e1);obtain rfl:F=x.c:=e4;exact e3;rw[bR,aH hb];exact hj 0 (by show 0<3;decide);rw[bR,aH hb];exact hj 1 (by show 1<3;decide)
set_option maxHeartbeats 1000000 in
def Il(hX:cy X){y:Yd}{r r2 st rc mo:Φ}(hV:tC m y r r2 st rc mo)(hP:rG y):C X (.func 120) [yv r r2 st rc mo] m m.n WB m:=by
 have a7:=hV.iL;have⟨⟨l,G2,hF⟩,R4,⟨kl,W4,hK⟩,a5,c5⟩:=hV;have f6:l.length<=12:=(by have:=hP.qj.len;rwa[<-G2,cE]at this);have g6:kl.length<=12:=(by have:=hP.Tc;rwa[<-W4,lZ]at this);have d5:=hP.Ma;have h6:=hP.WY;have i6:=hP.QD;apply Cl.fG hX (Us func120);rw[F120];dsimp only[aG];refine ah λm1 b7 e5 f5=>?_;have g1:m1.get m.n=.cells (yc r r2 st rc mo) 37 none:=e5;have i1:Ext m m1:=⟨ac,f5⟩;have k3:=hF.ak i1;have j1:=R4.ak i1;have a2:=hK.ak i1;have i2:=a5.ak i1;have l2:=c5.ak i1;obtain⟨y0,y1,y2,y3, -⟩:=ff g1;unfold ptrTo;simp only[dq,dQ,fD,eM,bI,ae];have j6:y.ms.length<=20:=hP.Db.len;refine aX (λvs mm lo=>vs=[L4]/\m1=mm/\m.n<=lo) (λQ hQ=>?_) ?_
 ·rw[y0,ae];apply aw (nR hX k3 ac j1 ac);rw[G2,eQ hP.qj,fq.2 hP.Db,bB,ae,ag];show lI false _ _;rw[aT,y1,ae,a2.sl.len fg,an,cz,ae,ag,CF,aT,y2,ae,i2.len lq,an,cz,ae,ag,CF,aT,y3,ae,l2.len js,an,cz,ae,CF];exact hQ _ _ _ ⟨rfl,rfl,ac⟩
 rintro _ _ g5 ⟨rfl,rfl,k6⟩;rw[av,ag,aT,kM,an];obtain⟨m5,l1⟩:∃x,x=m1.push (.cells [] 68 none):=⟨_,rfl⟩;rw[<-l1];have c7:m5.n=m1.n+1:=(by rw[l1];exact M.lC);have h5:m5.get m1.n=.cells [] 68 none:=(by rw[l1];exact M.aU);have M2:Ext m1 m5:=l1 ▸ Ext.refl.push;clear l1;rw[(rN (M2.cells g1)).2.2,ae];obtain⟨v31,m32,q1,q2,q3,q4,q5⟩:=(Ap.lit0 (n1:=m1.n) (g:=none) h5).Lu tz rfl (j1.ak M2) ac be;rw[q1,an];rw[List.nil_append]at q2;have v2:m.n<=min g5 m32.low:=ac;have l3:Ext m1 m32:=⟨ac,λc hc=>by rw[q5 c hc,M2.get c hc]⟩;clear q1 q4 q5;refine Lp.intro (γ:=Nat) (λi=>kl.length-i) (λi vs mm lo=>∃z v,vs=[z,v,.int .i64 i]/\i<=kl.length/\Ext m1 mm/\m.n<=lo/\Ap m1.n mm (y.ms++(y.st.take i).flatMap Kp.ms) v) 0 ⟨_,_,rfl,ZX _,l3,v2,be⟩ ?_;rintro i vs mm lo ⟨z,v,rfl,hi,l0,H,O2⟩;have nm:=l0.n;obtain⟨z0,z1,z2,z3, -⟩:=ff (l0.cells g1);have m3:=a2.ak l0;rw[av,av,av,z1,ae,m3.sl.len fg,an,aK,ae,ag];refine af (λd0=>?_) (λP2=>?_)
 ·have d0:i < kl.length:=be;obtain⟨x,hx⟩:∃x,kl[i]?=some x:=⟨_,Np d0⟩;have c1:=Jc hx;have r1:y.st[i]?=some x.k:=be;have v1:=Jc r1;have⟨b,o,e1,e2,e3,o1,o2⟩:=Ec m3.sl hx;rw[ae,e1,ae,e3,ae];refine ah λd7 l6 n3 m6=>?_;refine aj Gw n3 rfl rfl (KW.dt o1 o2) λc2 n6 o3 o6=>?_;have d2:c2.get mm.n=.cells x.c 85 none:=o3;have g0:Ext mm c2:=⟨ac,be⟩;have e7:=g0.n;obtain⟨w0,w1,w2,w3, -⟩:=ff ((l0.trans g0).cells g1);obtain⟨k0,k1,k2, -⟩:=Dc d2;rw[w0,ae,cf,ae,aW,ae,k0,ae];have r3:cp (bH l) x.u.id=none:=(by rw[G2];exact vH λu hu=>hP.off _ v1 u hu);have A3:=k3.ak (l0.trans g0);obtain⟨rv,f7,i5,B3,f60⟩:=qf (m:=c2) hX A3 ac (j1.one) x.u.id;apply aw i5;unfold iS at f60;rw[r3]at f60;dsimp only at f60;subst f60;rw[aD,aD];simp only[LB,IM,ae];have g7:=B3.n;refine ah λm64 r6 G3 O3=>?_;refine aj dN G3 rfl rfl rfl λe0 s6 u6 c4=>?_;have h0:Ext c2 e0:=⟨ac,λc hc=>by rw[c4 c ac,O3 c ac,B3.get c hc]⟩;have n0:=l0.trans (g0.trans h0);obtain⟨k0,k1,k2, -⟩:=Dc (h0.cells d2);have A2:=a2.ak n0
  have r0:∀{R:Ω->M->Nat->Prop} {F:Nat},(∀d1 F,Ext e0 d1->m.n<=F->R [L4] d1 F)->m.n<=F->
    aS (aC TE e0 43 (.pointer (some ⟨mm.n,0+0,none⟩))) λj5=>(dh (aO TE e0 27 1 [(0,j5)]) λk5 A1=>(aS (bz TE 29 [(0,k5)]) λl5=>(aS (az TE 85 (.pointer (some ⟨mm.n,0,none⟩)) 1) λd4=>(aS (aC TE A1 30 d4) λe4=>(aS (bz TE 32 [(0,l5),(1,e4)]) λf4=>(lV TE X (.func 164) [f4] A1 λg4 h4 j4=>(aS (C9 .not g4) λk4=>(R [k4] h4 (min F j4))))))))):=by
   intro R F hR s0
   rw[k1,ae,show(x.u.v x.w)=UW.v ⟨x.u,x.w⟩from rfl,AB,an]
   obtain⟨A1,B1⟩:∃q,q=e0.push (.cells (UW.c ⟨x.u,x.w⟩) 43 none):=⟨_,rfl⟩
   rw[<-B1]
   have A0:Ext e0 A1:=B1 ▸ Ext.refl.push
   have l4:A1.get e0.n=.cells (UW.c ⟨x.u,x.w⟩) 43 none:=by rw[B1];exact M.aU
   have i0:=A2.ak A0
   obtain⟨-, -,j2, -⟩:=Dc ((h0.trans A0).cells d2)
   rw[vP rfl,ae,dO,ae,j2,ae]
   rw[show bz TE 32 [(0,.agg (cells (Value.slice (some ⟨e0.n,0,none⟩) 1 1)).toArray),(1,x.mv)]=some (.agg #[.slice (some ⟨e0.n,0,none⟩) 1 1,x.mv]) by rw[re rfl (by rw[(i0.mv x c1).cells];rfl),(i0.mv x c1).cells];rfl,ae]
   have m4:=La l4 o1 (i0.sh x c1) (i0.ln x c1)
   have n4:=hP.Hp _ v1
   have n5:x.ms.length<=20:=n4.len
   apply aw (nR hX m4 co (i0.mv x c1) ac)
   rw[show bH [(⟨x.u,x.w⟩:UW)]=[x.u]from rfl,eQ (hP.QZ _ v1),fq.2 n4,bB,ae]
   exact hR _ _ A0 (by have:=A0.n;omega)
  refine aX (λvs d1 F=>vs=[L4]/\Ext e0 d1/\m.n<=F) (λQ hQ=>?_) ?_
  ·rw[ag,aT,cz,ae,ag];simp only[cf,aW,ae];refine af (λc=>?_) (λc=>r0 (λd1 F h1 h2=>hQ _ _ _ ⟨rfl,h1,h2⟩) ac);obtain⟨j,rfl⟩:∃j,i=j+1:=⟨i-1,be⟩;obtain⟨x',p0⟩:∃x',kl[j]?=some x':=⟨_,vW⟩;obtain⟨b',o',q0,Q2, -⟩:=Ec A2.sl p0;obtain⟨u0,u1,u2,u3, -⟩:=ff (n0.cells g1);have v6:x'.u.id < x.u.id:=(by have hj:y.st[j]?=some x'.k:=be;have h1:=Vc.1 hj;have h2:=Vc.1 r1;have:=GU.1 hP.zg j (j+1) h1.1 h2.1 ac;rwa[h1.2,h2.2]at this);rw[k0,ae,u1,ae,eZ,ae,wrap64,show((j+1:Nat):Int)-1=(j:Int) by omega,q0,ae,cf,ae,aW,ae,Q2,ae,cO,ae,ag,CF,aT];exact r0 (λd1 F h1 h2=>hQ _ _ _ ⟨rfl,h1,h2⟩) ac
  rintro _ h7 w6 ⟨rfl,B0,o5⟩;have i7:=B0.n;rw[av,ag,aT,dO,ae];obtain⟨-, -,j2, -⟩:=Dc ((h0.trans B0).cells d2);rw[j2,ae];have G1:=n0.trans B0;have o4:=a2.ak G1;have r4:(y.ms++(y.st.take i).flatMap Kp.ms).length+x.ms.length<=20:=(by have e:allM y.ms y.st=(y.ms++(y.st.take i).flatMap Kp.ms)++(x.ms++(y.st.drop (i+1)).flatMap Kp.ms):=(by unfold allM;(conv=>lhs;rw[<-ZV i y.st]);rw[OQ,Tt (Vc.1 r1).1,List.flatMap_cons,(Vc.1 r1).2];simp);grind);obtain⟨u4,y6,p1,p2,p3,p4,p5⟩:=(O2.ak ((g0.trans h0).trans B0)).Lu tz rfl (o4.mv x c1) ac ac;rw[p1,an,aL,ae,wrap64];refine⟨i+1,ac,z,u4,rfl,ac,⟨ac,λc hc=>by rw[p5 c hc,G1.get c hc]⟩,ac,?_⟩;rw[Tv,r1,OQ,<-ZA];simpa using p2
 have r5:i=y.st.length:=(by grind);subst r5;rw[Nl]at O2;have g2:=O2.sl;obtain⟨A,hA⟩:∃A,A=y.ms++y.st.flatMap Kp.ms:=⟨_,rfl⟩;rw[<-hA]at g2;have r4:A.length<=20:=(by rw[hA];exact d5);have u5:∀{i j:Nat} {a b:Mk},j < i->A[i]?=some a->A[j]?=some b->a.id≠b.id:=(by intro i j a b v5 ha hb e;have h1:=Vc.1 ha;have h2:=Vc.1 hb;have hn:=hP.nod;unfold allM at hn;rw[<-hA,List.Nodup,JL]at hn;have:=GU.1 hn j i h2.1 h1.1 v5;grind);refine Lp.intro (γ:=Nat) (λi=>A.length-i) (λi vs m' lo=>∃z,vs=[z,.int .i64 i]/\i<=A.length/\mm=m'/\m.n<=lo) 0 ⟨_,rfl,ZX _,rfl,H⟩ ?_;rintro i _ _ lo ⟨z,rfl,hi,rfl,H⟩;rw[av,av,g2.len cS,an,aK,ae,ag];refine af (λd0=>?_) (λP2=>?_)
 ·have d0:i < A.length:=be;obtain⟨a,ha⟩:∃a,A[i]?=some a:=⟨_,Np d0⟩;have⟨b0,o0,ea,la⟩:=QG g2 ha;refine Lp.intro (γ:=Nat) (λk=>i-k) (λk vs m' lo=>∃z,vs=[z,.int .i64 k]/\k<=i/\mm=m'/\m.n<=lo) 0 ⟨_,rfl,ZX _,rfl,H⟩ ?_;rintro k _ _ lo ⟨z,rfl,hk,rfl,H⟩;rw[av,av,aK,ae,ag];refine af (λB2=>?_) (λz6=>?_);have B2:k < i:=be;obtain⟨c,hc⟩:∃c,A[k]?=some c:=⟨_,vW⟩;have⟨b1,o1,ec,lc⟩:=QG g2 hc;rw[ea,ae,bS,ae,la,ae,ec,ae,bS,ae,lc,ae,aJ,ae,ag,Qr (u5 B2 ha hc),aT,aL,ae,wrap64];exact⟨k+1,ac,z,be,ac,rfl,H⟩;rw[aL,ae,wrap64];exact⟨i+1,ac,z,be,ac,rfl,H⟩
 rw[an,cz,ae,ag,CF,aT];refine Lp.intro (γ:=Nat) (λi=>y.rc.length-i) (λi vs m' lo=>∃z,vs=[z,.int .i64 i]/\i<=y.rc.length/\Ext m1 m'/\m.n<=lo) 0 ⟨_,rfl,ZX _,l0,H⟩ ?_;rintro j _ w4 lo ⟨z,rfl,hj,j0,H⟩;have T2:=i2.ak j0;obtain⟨-, -,u2, -, -⟩:=ff (j0.cells g1);have j7:=j0.n;rw[av,av,u2,ae,T2.len lq,an,aK,ae,ag];refine af (λd0=>?_) (λP2=>?_)
 ·have d0:j < y.rc.length:=be;obtain⟨x,hx⟩:∃x,y.rc[j]?=some x:=⟨_,Np d0⟩;have⟨p,e1,e2⟩:=Em T2 hx;have⟨⟨b1,b2⟩,b3,b4⟩:=hP.zZ x (Jc hx);rw[ae,e1,ae,e2,ae];refine ah λA6 w5 c3 y5=>?_;refine aj Bh c3 rfl rfl rfl λH1 z5 d3 A5=>?_;have y4:H1.get w4.n=.cells x.c 103 none:=d3;have K1:Ext w4 H1:=⟨ac,be⟩;have⟨f0,f1,fv⟩:=Gj y4;have O0:=j0.trans K1;simp only[iE,jB,ae];refine aX (λvs m' F=>vs=[L4]/\H1=m'/\m.n<=F) (λQ hQ=>?_) ?_;rw[f0,ae];apply aw (kD hX _ _ _);rw[show di x.un 0 99=true by unfold di;simp;omega,bB,ae,ag];show lI false _ _;rw[aT,f1,ae];apply aw (kD hX _ _ _);rw[show di x.side (-2) 7=true by unfold di;simp;omega,bB,ae,ag];show lI false _ _;rw[aT,cz,ae,ag];refine af (λc=>?_) (λc=>hQ _ _ _ ⟨rfl,rfl,ac⟩);obtain⟨q,rfl⟩:∃q,j=q+1:=⟨j-1,be⟩;obtain⟨x',p0⟩:∃x',y.rc[q]?=some x':=⟨_,vW⟩;have g3:=T2.ak K1;have⟨p',q0,Q2⟩:=Em g3 p0;obtain⟨-, -,B5, -, -⟩:=ff (O0.cells g1);have O1:oh x' x:=(by have h1:=Vc.1 p0;have h2:=Vc.1 hx;have:=GU.1 hP.Bz q (q+1) h1.1 h2.1 ac;rwa[h1.2,h2.2]at this);rw[B5,ae,eZ,ae,wrap64,show((q+1:Nat):Int)-1=(q:Int) by omega,q0,ae,Q2,ae,fv,ae];apply aw (zQ hX _ _);rw[L5 O1,bB,ae];exact hQ _ _ _ ⟨rfl,rfl,ac⟩;rintro _ _ F ⟨rfl,rfl,s0⟩;rw[av,ag,aT,aL,ae,wrap64];exact⟨j+1,ac,z,be,ac,O0,s0⟩
 refine Lp.intro (γ:=Nat) (λi=>y.mo.length-i) (λi vs m' lo=>∃z,vs=[z,.int .i64 i]/\i<=y.mo.length/\Ext m1 m'/\m.n<=lo) 0 ⟨_,rfl,ZX _,j0,H⟩ ?_;rintro j _ A4 lo ⟨z,rfl,hj,P0,H⟩;have h3:=l2.ak P0;obtain⟨-, -, -,u3, -⟩:=ff (P0.cells g1);have k7:=P0.n;rw[av,av,u3,ae,h3.len js,an,aK,ae,ag];refine af (λd0=>?_) (λP2=>⟨rfl,H⟩);have d0:j < y.mo.length:=be;obtain⟨x,hx⟩:∃x,y.mo[j]?=some x:=⟨_,Np d0⟩;obtain⟨p,o,e1,e2, -, -⟩:=Hc h3 hx;have⟨b1,b2,b3,b4,b5⟩:=hP.I7 x (Jc hx);rw[ae,e1,ae,e2,ae];refine ah λB6 O5 i3 a6=>?_;refine aj J4 i3 rfl rfl rfl λQ0 b6 j3 c6=>?_;have B4:Q0.get A4.n=.cells x.c 60 none:=j3;have T1:Ext A4 Q0:=⟨ac,be⟩;obtain⟨f0,f1,f2, -⟩:=I8 B4;have a1:=P0.trans T1;obtain⟨-, -, -,d6, -⟩:=ff (a1.cells g1);simp only[eL,fA,sN,ae];refine aX (λvs m' F=>vs=[L4]/\Q0=m'/\m.n<=F) (λQ hQ=>?_) ?_
 ·rw[f0,ae];apply aw (kD hX _ _ _);rw[show di x.a 0 99=true by unfold di;simp;omega,bB,ae,ag];show lI false _ _;rw[aT,f1,ae];apply aw (kD hX _ _ _);rw[show di x.b 0 99=true by unfold di;simp;omega,bB,ae,ag];show lI false _ _;rw[aT,f0,ae,f1,ae,cZ,ae,ag,CF,aT,f2,ae];apply aw (kD hX _ _ _);rw[show di x.cD 0 7=true by unfold di;simp;omega,bB,ae];exact hQ _ _ _ ⟨rfl,rfl,ac⟩
 rintro _ _ l7 ⟨rfl,rfl,v2⟩;rw[av,ag,aT];refine aX (λvs m' F=>vs=[L4]/\Q0=m'/\m.n<=F) (λQ hQ=>?_) ?_
 ·rw[cz,ae,ag];refine af (λc=>?_) (λc=>hQ _ _ _ ⟨rfl,rfl,ac⟩);obtain⟨q,rfl⟩:∃q,j=q+1:=⟨j-1,be⟩;obtain⟨x',p0⟩:∃x',y.mo[q]?=some x':=⟨_,vW⟩;obtain⟨b',o',q0, -,O4,e6⟩:=Hc (h3.ak T1) p0;have O1:nB x' x:=(by have h1:=Vc.1 p0;have h2:=Vc.1 hx;have:=GU.1 hP.Ea q (q+1) h1.1 h2.1 ac;rwa[h1.2,h2.2]at this);unfold nB at O1;rw[f0,ae,d6,ae,eZ,ae,wrap64,show((q+1:Nat):Int)-1=(q:Int) by omega,q0,ae,eL,ae,O4,ae,aK,ae,ag,CF,aT];rw[ae,ae,ae,q0,ae,eL,ae,O4,ae,aJ,ae,ag];refine af (λc=>?_) (λc=>hQ _ _ _ ⟨rfl,rfl,ac⟩);have c:=Ds c;rw[f1,ae,ae,ae,q0,ae,fA,ae,e6,ae,cO,ae,CF];exact hQ _ _ _ ⟨rfl,rfl,ac⟩
 rintro _ _ F ⟨rfl,rfl,s0⟩;rw[av,ag,aT,aL,ae,wrap64];exact⟨j+1,ac,z,be,ac,a1,s0⟩
end
section
set_option maxRecDepth 100000
set_option maxHeartbeats 0
variable{W:Words}{x0 x1:Φ}{m:M}{R:Ω->M->Nat->Prop}
def F123:=cN (P:=fP TE W f123 [x0,x1] m R)
def F122:=cN (P:=fP TE W f122 [x0,x1] m R)
def F74:=cN (P:=fP TE W f74 [x0,x1] m R)
def F27:=cN (P:=fP TE W f27 [x0,x1] m R)
def F42:=cN (P:=fP TE W f42 [x0,x1] m R)
def F44:=cN (P:=fP TE W f44 [x0,x1] m R)
def F13:=cN (P:=fP TE W f13 [x0,x1] m R)
abbrev abo{W:Words}{x0 x1:Φ}{m:M}{R:Ω->M->Nat->Prop}:=cN (P:=fP TE W Tryz.f7 [x0,x1] m R)
end
section
variable {X:aF} {m:M}
structure AW where
 a:Ac
 w:Φ
abbrev AW.c(x:AW):Ω:=x.a.c x.w
abbrev AW.v(x:AW):Φ:=x.a.v x.w
def Ac.dt{a:Ac}(h:one w):(a.c w).all one:=by show(true && (true && (true && (true && (one w && true)))))=true;rw[h];rfl
instance:aQ AW where
 ty:=87
 sz:=15
 agg:=true
 dU:=[]
 rep _ x cs:=cs=x.c/\one x.w=true
 pos:=ce
 one:=be
 len:=dg
 iL:=by rintro _ x _ ⟨rfl,h⟩;exact Ac.dt h
 aY:=be
def EX:rp TE 78 87 AW:=⟨ai.t78,ai.t87,bv,⟨_,rfl⟩,rfl,bv,rfl,rfl⟩
def F4:vU TE 78 AW:=⟨ai.t78,ai.t87,bv,rfl,rfl,bv,ce,rfl⟩
def Wj{l:List AW}{v:Φ}(h:Sl m l v){i:Nat}{x:AW}(F:l[i]?=some x):∃p,aE TE 78 v (ν i)=some p/\aC TE m 87 p=some x.v:=by have⟨p,cs,H,e2,e3⟩:=h.index EX (k:=.i64) F;obtain⟨rfl, -⟩:cs=x.c/\_:=e3;exact⟨p,H,e2⟩
structure vV(m:M)(l:List AW)(v:Φ):Prop where
 sl:Sl m l v
 sh:∀x∈l,Sl m x.a.un.shape x.w
 ln:∀x∈l,x.a.un.shape.length < 1000000
 kd:∀x∈l,x.a.kind≠3/\x.a.kind≠4
def vV.aY{l:List AW}{v:Φ}(h:vV m l v)(hk:∀c cs t g,m.get c=.cells cs t g->(t=87\/t=46)->m'.get c=.cells cs t g):vV m' l v:=
 ⟨h.sl.aY λc cs t g F H=>hk c cs t g F (.inl (by simpa[aQ.ty,aQ.dU]using H)),λx hx=>(h.sh x hx).aY λc cs t g F H=>hk c cs t g F (.inr (by simpa[aQ.ty,aQ.dU]using H)),h.ln,h.kd⟩
def vV.ak{l:List AW}{v:Φ}(h:vV m l v)(F:Ext m m'):vV m' l v:=h.aY λ_ _ _ _ H _=>F.cells H
theorem yx{us:List Un}{ms:List Mk}{a:Ac}:∀{l:List Ac},eU us ms (l++ [a])=(eU us ms l).bind λp=>qA p.1 p.2 a
 |[]=>by simp only[List.nil_append,eU];grind
 |b::r=>by rw[UP,eU,eU];cases qA us ms b with|none=>rfl|some p=>exact yx
theorem yy{us:List Un}{ms:List Mk}{q:List Ac}:∀{l:List Ac},eU us ms l=none->eU us ms (l++q)=none
 |[],h=>by cases h
 |b::r,h=>by rw[UP,eU];rw[eU]at h;cases e:qA us ms b with|none=>rfl|some p=>rw[e]at h;exact yy h
def ic.eC(h:ic vs F m' (.agg #[r,r2]))(H:D.eC (.agg #[r,r2]))(m:M):ic vs F m (.agg #[r,r2]):=
 ic.flat (t:=WB) h (by show(D.eC (.agg #[r,r2]) && (true && true))=true;rw[H];rfl) m
def rq(D:Option (List Un×List Mk))(m':M)(F:Φ):Prop:=match D with
 |some (H,ns)=>∃r r2 n,F=.tuple #[.agg #[r,r2],.int .i64 n,.int .i64 0]/\ic H ns m' (.agg #[r,r2])
 |none=>∃n,F=.tuple #[.agg #[.slice none 0 0,.slice none 0 0],.int .i64 n,.int .i64 170]
def rq.flat{D:Option (List Un×List Mk)}{v t u:Φ}(h:rq D m' (.tuple #[v,t,u]))(H:aZ (.tuple #[v,t,u]))(m:M):rq D m (.tuple #[v,t,u]):=by unfold rq at h⊢;split at h;have⟨r,r2,n,e,hs⟩:=h;cases e;have F:(D.eC (.agg #[r,r2]) && (true && (true && true))):=H;rw[IG]at F;exact⟨r,r2,n,rfl,hs.eC F.1 m⟩;exact h
def Kf{D:Option (List Un×List Mk)}{v t u:Φ}{lo:Nat}{Q:Prop}(H:Q)(h:rq D m' (.tuple #[v,t,u]))(F:m.n<=lo)(hx:Ext m m'):
  (aZ (aM [v,t,u])/\m.n<=lo/\(Q/\Ext m m/\rq D m (aM [v,t,u])))\/((aZ (aM [v,t,u])=false\/lo<m.n)/\(min m.n lo=m.n/\Ext m m'/\rq D m' (aM [v,t,u]))):=by cases hf:aZ (aM [v,t,u]);exact .inr ⟨.inl rfl,ac,hx,h⟩;exact .inl ⟨rfl,F,H,.refl,h.flat hf m⟩
set_option maxHeartbeats 1000000 in
theorem aag(hX:cy X){l:List UW}{ms:List Mk}{v vm va:Φ}{F:List AW}(hF:cC m l v)(hP:cq (bH l))(hm:Sl m ms vm)(hM:fE (bH l) ms)(ha:vV m F va)(M2:F.length<=40):
  ∃rv m',C X (.func 123) [.agg #[v,vm],va] m m.n rv m'/\Ext m m'/\rq (eU (bH l) ms (F.map AW.a)) m' rv:=by
 have o2:l.length<=12:=(by have:=hP.len;rwa[cE]at this);have O2:=hM.len;apply Cl.Ie hX (Us func123);rw[F123];dsimp only[aG];refine ah λm1 P2 w1 Q2=>?_;refine ah λm2 T2 y1 A1=>?_;have i0:Ext m m2:=⟨ac,be⟩;have g1:m2.get m.n=.cells [v,vm] 32 none:=(by rw[A1 _ ac];exact w1);have gz:m2.get m1.n=.cells [LF,LF] 32 none:=y1;unfold ptrTo;rw[(kc g1).2.2.2,ae];apply aw (nR hX (hF.ak i0) ac (hm.ak i0) ac);rw[eQ hP,fq.2 hM,bB,ae,ag];show lI false _ _;rw[aT,(kc g1).2.2.2,ae];obtain⟨acc,q,q2,m14,B1,B0,G1,f14,O0⟩:=Es hX (hF.ak i0) ac (hm.ak i0) ac;apply aw B1;have b3:=B0.n;refine ah λm16 u2 P0 v2=>?_;refine aj eH P0 rfl rfl (by show(one q && (one q2 && true))=true;rw[f14.sl.one,O0.one];rfl) λm17 w2 H y2=>?_;have H:m17.get m14.n=.cells [q,q2] 32 none:=H;obtain⟨S,hS⟩:∃S,S=m14.n:=⟨_,rfl⟩;rw[<-hS]at H⊢;have l0:Ext m14 m17:=⟨ac,be⟩;have c3:m2.n<=S:=ac;have Q0:m.n<=min (min (min m.n m2.n) m2.n) m14.n:=ac;generalize min (min (min m.n m2.n) m2.n) m14.n=d3 at Q0;have a1:ic (bH l) ms m17 (.agg #[q,q2]):=⟨acc,q,q2,rfl,G1,f14.ak l0,O0.ak l0⟩;have H1:∀c,c < S->m17.get c=m14.get c:=λc hc=>l0.get c ac;refine Lp.intro (γ:=Nat) (λi=>F.length-i) (λi vs mm lo=>∃z1 z2 r r2 ws ns,vs=[z1,z2,.int .i64 i]/\i<=F.length/\(∀c,c < S->mm.get c=m14.get c)/\S < mm.n/\m.n<=lo/\mm.get S=.cells [r,r2] 32 none/\ic ws ns mm (.agg #[r,r2])/\eU (bH l) ms ((F.take i).map AW.a)=some (ws,ns)) 0 ⟨_,_,q,q2,_,_,rfl,ZX _,H1,ac,ac,H,a1,rfl⟩ ?_;rintro i vs mm lo ⟨z1,z2,r,r2,ws,ns,rfl,hi,hk,e3,Q0,gS,TX,b0⟩;have⟨K1,O1⟩:=E2 hP hM b0;have y0:Ext m2 mm:=⟨ac,λc hc=>by rw[hk c ac,B0.get c hc]⟩;have j0:=(ha.ak i0).ak y0;have b1:=y0.cells gz
 have bad:∀{A0:M} {n0:Nat} {n:Int} {Q:Prop},Q->A0.get m1.n=.cells [LF,LF] 32 none->m.n<=n0->eU (bH l) ms (F.map AW.a)=none->
   aS (bz TE 32 []) λv=>dh (bh TE A0 32 (.pointer (some ⟨m1.n,0,none⟩)) v) λm' b=>aS (aC TE m' 32 (.pointer (some ⟨m1.n,0,none⟩))) λv'=>
    (aZ (aM [v',.int .i64 n,.int .i64 170])=true/\m.n<=min n0 b/\(Q/\Ext m m/\rq (eU (bH l) ms (F.map AW.a)) m (aM [v',.int .i64 n,.int .i64 170])))\/((aZ (aM [v',.int .i64 n,.int .i64 170])=false\/min n0 b < m.n)/\(min m.n (min n0 b)=m.n/\Ext m m'/\rq (eU (bH l) ms (F.map AW.a)) m' (aM [v',.int .i64 n,.int .i64 170]))):=by
  intro A0 n0 n Q hQ g A2 e
  rw[ka,ae]
  refine aj eH g rfl rfl rfl λm' g3 T1 h3=>?_
  rw[(kc T1).2.2.2,ae]
  exact .inl ⟨rfl,ac,hQ,.refl,by unfold rq;rw[e];exact⟨n,rfl⟩⟩
 rw[av,av,av,j0.sl.len EX,an,aK,ae,ag];refine af (λc1=>?_) (λa2=>?_)
 ·have c1:i < F.length:=be;obtain⟨x,hx⟩:∃x,F[i]?=some x:=⟨_,Np c1⟩;have d0:=Jc hx;have⟨p,e1,e2⟩:=Wj j0.sl hx;have b2:(F.take (i+1)).map AW.a=(F.take i).map AW.a++ [x.a]:=(by rw[Tv,hx,Xj];rfl);have q0:eU (bH l) ms ((F.take (i+1)).map AW.a)=qA ws ns x.a:=(by rw[b2,yx,b0];rfl);have d1:F.map AW.a=(F.take (i+1)).map AW.a++(F.drop (i+1)).map AW.a:=(by rw[<-Xj,ZV]);rw[cZ,ae,ag,CF,aT,(kc gS).2.2.2,ae,e1,ae,e2,ae];have⟨i1,r',i3,er,eu,ef,es⟩:=TX;cases er;have j3:i1.length<=12:=(by have:=K1.len;rwa[<-eu,cE]at this);have k3:=O1.len;obtain⟨rv,c2,d2,r0,k0⟩:=Mg (m:=mm) (a:=x.a) hX ef ac es ac (j0.sh x d0) (j0.ln x d0) (j0.kd x d0).1 (j0.kd x d0).2;refine aw d2 ⟨Aj _,?_⟩;have l3:=r0.n;rw[eu]at k0;unfold rH at k0;cases j1:qA ws ns x.a with|none=>rw[j1]at k0 q0;subst k0;rw[aD,aD];simp only[LB,IM,ae];refine ah λg2 k1 o0 e0=>?_;refine aj eH o0 rfl rfl rfl λs0 l1 g0 h0=>?_;rw[bZ,ae,ag,Qr (show¬(170:Int)=0 by decide),F5,bN];refine bad be ?_ ac (by rw[d1];exact yy q0);rw[h0 _ ac,e0 _ ac,r0.get _ ac];exact b1|some d=>have⟨i2,j2⟩:=d;rw[j1]at k0 q0;obtain⟨t1,t2,rfl,st⟩:=k0;have o1:one t1=true/\one t2=true:=(by have⟨_,_,_,e,_,h1,h2⟩:=st;cases e;exact⟨h1.sl.one,h2.one⟩);rw[aD,aD];simp only[LB,IM,ae];refine ah λg2 k1 o0 e0=>?_;refine aj eH o0 rfl rfl (by show(one t1 && (one t2 && true))=true;rw[o1.1,o1.2];rfl) λs0 l1 g0 h0=>?_;have g0:s0.get c2.n=.cells [t1,t2] 32 none:=g0;rw[bZ,ae,ag,L5 (show(0:Int)=0 from rfl),T9,aT,(kc g0).2.2.2,ae];have p1:s0.get S=.cells [r,r2] 32 none:=(by rw[h0 _ ac,e0 _ ac,r0.get _ ac];exact gS);refine aj eH p1 rfl rfl be λm3 B2 r1 u0=>?_;rw[aL,ae,wrap64];refine⟨i+1,ac,z1,z2,t1,t2,i2,j2,be,ac,λc hc=>by rw[u0 c ac,h0 c ac,e0 c ac,r0.get c ac,hk c hc],ac,ac,r1,?_,q0⟩;refine st.aY λc cs t g hc ht=>?_;have n3:=M.aP hc;have k2:s0.get c=.cells cs t g:=be;rw[u0 c (λe=>be),k2]
 have l2:i=F.length:=(by have:¬(i:Int)< (F.length:Int):=LL a2;omega);subst l2;rw[Nl]at b0;rw[(kc gS).2.2.2,ae,an];have o1:one r=true/\one r2=true:=(by have⟨_,_,_,e,_,h1,h2⟩:=TX;cases e;exact⟨h1.sl.one,h2.one⟩);refine aj eH b1 rfl rfl (by show(one r && (one r2 && true))=true;rw[o1.1,o1.2];rfl) λu1 G2 p0 v1=>?_;have p0:u1.get m1.n=.cells [r,r2] 32 none:=p0;rw[(kc p0).2.2.2,ae];refine Kf (m':=u1) be ?_ ac ⟨ac,λc hc=>by rw[v1 c ac,y0.get c ac,i0.get c hc]⟩;unfold rq;rw[b0];exact⟨r,r2,_,rfl,TX.aY λc cs t g hc ht=>be⟩
def Aw(u v:Un):Bool:=(fH u v).isSome
def oH(D:Option (List Ac))(m':M)(F:Φ):Prop:=match D with
 |some L=>∃H v,F=.tuple #[v,.bool true]/\H.map AW.a=L/\vV m' H v
 |none=>∃v,F=.tuple #[v,.bool false]
def vV.nil{m:M}:vV m [] LF:=⟨.nil,λx F=>(by cases F),λx F=>(by cases F),λx F=>(by cases F)⟩
def oH.flat{D:Option (List Ac)}{v t:Φ}(h:oH D m' (.tuple #[v,t]))(H:aZ (.tuple #[v,t]))(m:M):oH D m (.tuple #[v,t]):=by unfold oH at h⊢;split at h;have⟨al,v',e,e1,hs⟩:=h;(cases e;have h1:=hs.sl;obtain⟨a,c,rfl⟩:=h1.form;cases a with|some a=>exact absurd (show(false && (true && true))=true from H) ce|none=>have hv:Go.D.bO (.slice none al.length c):=(by have b0:(Go.D.bO (.slice none al.length c) && (true && true)):=H;grind);have⟨e2,e3⟩:=nQ h1 hv m;subst e2;exact⟨[],_,rfl,e1,⟨e3,λx F=>(by cases F),λx F=>(by cases F),λx F=>(by cases F)⟩⟩);exact h
def BQ{x:AW}:aO TE m 78 1 [(0,x.v)]=some (.slice (some ⟨m.n,0,none⟩) 1 1,m.push (.cells x.c 87 none)):=bv
def Ph{x y:AW}:aO TE m 78 2 [(0,x.v),(1,y.v)]=some (.slice (some ⟨m.n,0,none⟩) 2 2,m.push (.cells (x.c++y.c) 87 none)):=bv
def PD{x y:AW}{b:Nat}(h:m.get b=.cells (x.c++y.c) 87 g)(F:one x.w)(H:one y.w):Sl m [x,y] (RR b 0 2 2):=
 .inr ⟨b,0,2,_,g,rfl,h,Aj _,λi z hi=>by match i with|0=>cases hi;exact⟨rfl,F⟩|1=>cases hi;exact⟨rfl,H⟩|i+2=>simp at hi⟩
def pz{x:AW}{P:Φ->M->Prop}(h1:one x.w)(hs:Sl m x.a.un.shape x.w)(hl:x.a.un.shape.length<1000000)(hk:x.a.kind≠3/\x.a.kind≠4)
  (hP:∀m1,Ext m m1->m1.n=m.n+1->m1.get m.n=.cells x.c 87 none->vV m1 [x] (RR m.n 0 1 1)->P (RR m.n 0 1 1) m1):
  dh (aO TE m 78 1 [(0,x.v)]) P:=by rw[BQ,an];have F:Ext m (m.push (.cells x.c 87 none)):=Ext.refl.push;have H:(m.push (.cells x.c 87 none)).get m.n=.cells x.c 87 none:=M.aU;exact hP _ F M.lC H ⟨lv H ⟨rfl,h1⟩,λy hy=>by rw[PY.1 hy];exact hs.ak F,be,be⟩
def pF{k id:Int}:bz TE 87 [(0,ν k),(2,ν id)]=some (AW.v ⟨gG k id,LF⟩):=FX rfl rfl
def ze{u:Un}:bz TE 87 [(0,ν 1),(1,u.v w)]=some (AW.v ⟨cQ u,w⟩):=FY rfl rfl
def SP:bz TE 87 [(0,ν 5),(5,x.v)]=some (AW.v ⟨iM x,LF⟩):=FW rfl rfl
def FZ:bz TE 103 [(0,ν a),(1,ν b)]=some (Fc.v ⟨a,b⟩):=acB rfl rfl
theorem xH{α:Type}{p:α->Bool}:∀{l:List α} {i:Nat} {x:α},l[i]?=some x->p x->(∀j y,j<i->l[j]?=some y->p y=false)->l.find? p=some x
 |[],i,x,h,_,_=>be
 |a::l,0,x,h,F,_=>be
 |a::l,i+1,x,h,F,H=>by rw[List.find?_cons,H 0 a ac rfl];exact xH (by simpa using h) F λj y hj hy=>H (j+1) y ac be
structure VJ(us:List Un)(id:Int)(m':M)(u:Un)(w:Φ)(b:Bool):Prop where
 sl:Sl m' u.shape w
 ln:u.shape.length < 1000000
 eq:cp us id=if b=true then some u else none
 z:b=false->u=.z
def iS.Xu{id:Int}{F:Φ}(h:iS us id m' F)(H:cq us):∃u w b,F=.tuple #[u.v w,.bool b]/\VJ us id m' u w b:=by unfold iS at h;cases e:cp us id with|none=>rw[e]at h;exact⟨.z,LF,false,h,.nil,ce,be,λ_=>rfl⟩|some u=>rw[e]at h;have⟨w,h1,h2⟩:=h;have:=lS (H.val u (fx e).1);exact⟨u,w,true,h1,h2,ac,be,λh=>by cases h⟩
def VJ.ak{id:Int}{u:Un}{b:Bool}(h:VJ us id m' u w b)(F:Ext m' m''):VJ us id m'' u w b:=⟨h.sl.ak F,h.ln,h.eq,h.z⟩
def Hr{u:Un}:(cQ u).kind≠3/\(cQ u).kind≠4:=⟨(by decide:(1:Int)≠3),(by decide:(1:Int)≠4)⟩
def kd_m:(iM x).kind≠3/\(iM x).kind≠4:=⟨(by decide:(5:Int)≠3),(by decide:(5:Int)≠4)⟩
def Dk{k id:Int}(h:k≠3/\k≠4):(gG k id).kind≠3/\(gG k id).kind≠4:=h
def Af:([]:List Pl).length<1000000:=ce
def QF{b:Nat}(h:m.get b=.cells x.c 68 g):aC TE m 4 (Ψ b (0+4))=some (.bool x.Gh):=by rw[sE,aH h];rfl
set_option maxHeartbeats 4000000 in
theorem NR(hX:cy X){y:Yd}{r r2 st rc mo:Φ}{t:Tk}{w:Φ}(hV:tC m y r r2 st rc mo)(hP:rG y)(hw:Sl m t.un.shape w)(a8:t.un.shape.length < 100000)(b8:1<=t.kind/\t.kind<=9):
  ∃rv m',C X (.func 122) [yv r r2 st rc mo,t.v w] m m.n rv m'/\Ext m m'/\oH (fN Aw bX bM y t) m' rv:=by
 apply Cl.Ie hX (Us func122);have o4:=hV.iL;have⟨⟨l,r0,hF⟩,y1,⟨kl,m3,hK⟩,r4,n5⟩:=hV;have u4:cq (bH l):=(by rw[r0];exact hP.qj);have h7:l.length<=12:=(by have:=hP.qj.len;rwa[<-r0,cE]at this);have i7:kl.length<=12:=(by have:=hP.Tc;rwa[<-m3,lZ]at this);have j7:=hP.WY;have l7:=hP.QD;have o5:=hP.Db.len
 have H:∀R:Ω->M->Nat->Prop,(∀(v:Φ) (b:Bool) (m':M) (lo:Nat),m.n<=lo->Ext m m'->oH (fN Aw bX bM y t) m' (.tuple #[v,.bool b])->R [v,.bool b] m' lo)->fP TE (aG TE X) f122 [yv r r2 st rc mo,t.v w] m R:=(by intro R hR;rw[F122];dsimp only[aG];refine ah λm1 d8 w4 r5=>?_;refine ah λm2 e8 y4 A4=>?_;have B4:Ext m m2:=⟨ac,be⟩;have g1:m2.get m.n=.cells (yc r r2 st rc mo) 37 none:=(by rw[A4 _ ac];exact w4);have g2:m2.get m1.n=.cells (t.c w) 58 none:=y4;clear w4 r5 y4 A4;unfold ptrTo;simp only[dq,dQ,fD,eM,bP,bI,bk,dP,eg,dm,cV,dD,cU,aW,ae];rw[(ff g1).1,ae,(mU g2).2.1,ae];obtain⟨rv,m8,c8,x8,f8⟩:=qf (m:=m2) hX (hF.ak B4) ac y1.one t.id;apply aw c8;obtain⟨u,wu,is,rfl,fu⟩:=f8.Xu u4;have n8:=x8.n;rw[aD,aD];simp only[LB,IM,ae];refine ah λm12 m7 P2 n3=>?_;refine aj dN P2 rfl rfl (Un.dt fu.sl.one) λm13 n7 Q2 O4=>?_;have gu:m13.get m8.n=.cells (u.c wu) 43 none:=Q2;have A1:Ext m8 m13:=⟨ac,be⟩;have A0:=x8.trans A1;have F:=B4.trans A0;have g1:=A0.cells g1;have g2:=A0.cells g2;have fu:=fu.ak A1;have g8:=A1.n;clear P2 n3 Q2 O4;have⟨tk,tid,Ma,u5,h8⟩:=mU g2;rw[r0]at fu;have o3:m.n<=min (min m.n m2.n) m8.n:=ac;generalize min (min m.n m2.n) m8.n=v5 at o3;obtain⟨D,hD⟩:∃D,D=fN Aw bX bM y t:=⟨_,rfl⟩;rw[<-hD]at hR;unfold fN at hD;have w5:(cp y.us t.id).isSome=is:=(by rw[fu.eq];cases is <;>rfl);rw[tk,ae,aJ,ae,ag];refine af (λk1=>?_) (λk1=>?_);rw[QL (Ds k1)]at hD;rw[rT g2,ae,ze,ae];refine pz (x:=⟨cQ t.un,w⟩) hw.one (hw.ak F) (by show t.un.shape.length < 1000000;omega) Hr λm22 j0 n22 _ a22=>?_;rw[(ff (j0.cells g1)).2.2.2.2,ae,(we (j0.cells g2)).1,ae];refine aw (zt (y:=y) hX (hK.ak (F.trans j0)).sl ac o4 _) ⟨Aj _,?_⟩;rw[aK,ae,K2];have e:(y.st.any λk=>decide (k.un.id=t.un.id))=kl.any λx=>decide (x.u.id=t.un.id):=(by rw[<-m3];unfold yf;rw[OC];rfl);rw[e]at hD;apply hR _ _ _ _ ac (F.trans j0);cases hc:kl.any λx=>decide (x.u.id=t.un.id);rw[MO be]at hD;rw[hD];exact⟨_,_,rfl,rfl,a22⟩;rw[QL hc]at hD;rw[hD];exact⟨_,rfl⟩;rw[MO (LL k1)]at hD;rw[aJ,ae,ag];refine af (λk2=>?_) (λk2=>?_);rw[QL (Ds k2),w5]at hD;refine aX (λvs mm lo=>∃v b,vs=[v,.bool b]/\m.n<=lo/\Ext m mm/\oH D mm (.tuple #[v,.bool b])) (λQ hQ=>?_) ?_;rw[tid,ae,pF,ae];refine pz (x:=⟨gG 2 t.id,LF⟩) rfl .nil Af (Dk ce) λm22 j0 n22 _ a22=>?_;rw[ag];refine af (λc=>?_) (λc=>hQ _ _ _ ⟨_,_,rfl,ac,F.trans j0,by rw[MO be]at hD;rw[hD];exact⟨_,rfl⟩⟩);rw[(ff (j0.cells g1)).2.1,ae,(hK.ak (F.trans j0)).sl.len fg,an,aK,ae];refine hQ _ _ _ ⟨_,_,rfl,ac,F.trans j0,?_⟩;rw[c,Dn]at hD;have e:y.st.length=kl.length:=be;by_cases k0:kl.length < 12;rw[QL be]at hD;rw[hD,L5 (show(kl.length:Int)< 12 by omega)];exact⟨_,_,rfl,rfl,a22⟩;rw[MO be]at hD;rw[hD,Qr (show¬(kl.length:Int)< 12 by omega)];exact⟨_,rfl⟩;rintro _ mm lo ⟨v,b,rfl,h1,h2,h3⟩;rw[av,av];grind;rw[MO (LL k2)]at hD;rw[aJ,ae,ag];refine af (λk3=>?_) (λk3=>?_);rw[QL (Ds k3)]at hD;rw[(ff g1).2.2.2.2,ae,tid,ae];have s0:=hK.ak F;apply aw (zt (y:=y) hX s0.sl ac o4 _);have e0:∀p:KW->Bool,(∀x,p x=decide (x.u.id=t.id))->(y.st.find? λk=>decide (k.un.id=t.id))=(kl.find? p).map KW.k:=λp hp=>(by rw[<-m3];unfold yf;rw[List.find?_map];congr 2;funext x;exact(hp x).symm);rcases iK (λx:KW=>decide (x.u.id=t.id)) kl with⟨e1,e2⟩ |⟨i,x,e1,e2,e3,e4⟩;rw[e1,aK,ae,ag,L5 ce,bN];have:kl.find? (λx:KW=>decide (x.u.id=t.id))=none:=Rw.2 λx hx=>be;rw[e0 _ λ_=>rfl,this]at hD;exact hR _ _ _ _ ac F (by rw[hD];exact⟨_,rfl⟩);rw[e0 _ λ_=>rfl,xH e2 e3 e4]at hD;have hD:D=some (cQ x.u::x.ms.map iM):=hD;have v1:=Jc e2;rw[e1,aK,ae,ag,CF,aT,(ff g1).2.1,ae];have⟨b0,o0,bc,g0,cs,q1,q2,q3,q4,q5⟩:=s0.sl.jc fg (k:=.i64) e2;obtain⟨rfl,o1,o2⟩:cs=x.c/\one x.w=true/\one x.mv=true:=q3;have i8:=M.aP q2;rw[q1,ae,cf,ae];have q4:o0+7<=bc.length:=q4;have lu:aC TE m13 43 (.pointer (some ⟨b0,o0+0,none⟩))=some (x.u.v x.w):=(by rw[qO,aI (n:=6) q2 ac];have:(bc.drop (o0+0)).take 6=x.u.c x.w:=(by apply Zk;intro j;rw[Qi];split;rename_i hj;rw[Ns,MU,q5 j (by show j < 7;omega)];(match j,hj with|0,_=>rfl|1,_=>rfl|2,_=>rfl|3,_=>rfl|4,_=>rfl|5,_=>rfl|j+6,hj=>omega);rename_i hj;exact(SI be).symm);rw[this];rfl);rw[lu,ae,ze,ae];refine pz (x:=⟨cQ x.u,x.w⟩) o1 (s0.sh x v1) (s0.ln x v1) Hr λm64 y5 j8 z5 A5=>?_;have o7:x.ms.length<=20:=(by have hm:x.k∈y.st:=be;exact(hP.Hp _ hm).len);refine Lp.intro (γ:=Nat) (λj=>x.ms.length-j) (λj vs mm lo=>∃v,vs=[v,.int .i64 j]/\j<=x.ms.length/\Ext m13 mm/\m.n<=lo/\Ap m13.n mm (⟨cQ x.u,x.w⟩::(x.ms.take j).map λk=>(⟨iM k,LF⟩:AW)) v) 0 ⟨_,rfl,ZX _,y5,ac,.inr ⟨_,_,_,rfl,z5,A5.sl⟩⟩ ?_;rintro j vs mm lo ⟨v,rfl,hj,d0,i0,r3⟩;have nm:=d0.n;have G2:=s0.ak d0;have lm:aC TE mm 30 (.pointer (some ⟨b0,o0+6,none⟩))=some x.mv:=(by rw[kz,aH (d0.cells q2)];exact q5 6 (by show 6 < 7;decide));rw[av,av,(ff (d0.cells g1)).2.1,ae,q1,ae,dO,ae,lm,ae,(G2.mv x v1).len cS,an,aK,ae,ag];refine af (λk0=>?_) (λB0=>?_);have k0:j < x.ms.length:=be;obtain⟨z,hz⟩:∃z,x.ms[j]?=some z:=⟨_,Np k0⟩;have⟨p,p1,p2⟩:=(G2.mv x v1).tx (k:=.i64) hz;rw[ae,q1,ae,dO,ae,lm,ae,p1,ae,p2,ae,SP,ae,BQ,an];obtain⟨R4,B1⟩:∃q,q=mm.push (.cells (AW.c ⟨iM z,LF⟩) 87 none):=⟨_,rfl⟩;rw[<-B1];have u1:Ext mm R4:=B1 ▸ Ext.refl.push;have W4:R4.get mm.n=.cells (AW.c ⟨iM z,LF⟩) 87 none:=(by rw[B1];exact M.aU);obtain⟨v',l8,s1,s2,s3,s4,s5⟩:=(r3.ak u1).append F4 rfl (lv (x:=(⟨iM z,LF⟩:AW)) W4 ⟨rfl,rfl⟩) co (by have:=u1.n;omega) be;rw[s1,an,aL,ae,wrap64];have:=u1.n;refine⟨j+1,ac,v',be,ac,⟨ac,λc hc=>by rw[s5 c hc,u1.get c ac,d0.get c hc]⟩,ac,.inl ?_⟩;rw[Tv,hz,Xj];exact s2;have O0:j=x.ms.length:=(by have:¬(j:Int)< (x.ms.length:Int):=LL B0;omega);subst O0;rw[Nl]at r3;apply hR _ _ _ _ i0 (F.trans d0);rw[hD];refine⟨_,_,rfl,dg,r3.sl,λa ha=>?_,λa ha=>?_,λa ha=>?_⟩;rcases OS.1 ha with rfl |ha;exact G2.sh x v1;obtain⟨k,_,rfl⟩:=NL.1 ha;exact .nil;rcases OS.1 ha with rfl |ha;exact G2.ln x v1;obtain⟨k,_,rfl⟩:=NL.1 ha;exact Af;rcases OS.1 ha with rfl |ha;exact Hr;obtain⟨k,_,rfl⟩:=NL.1 ha;exact kd_m;rw[MO (LL k3)]at hD;rw[aJ,ae,ag];refine af (λk4=>?_) (λk4=>?_);rw[QL (Ds k4),fu.eq]at hD;have a5:=hF.ak F;refine Lp.intro (γ:=Nat) (λj=>l.length-j) (λj vs mm lo=>∃z1 z2,vs=[z1,z2,.int .i64 j]/\j<=l.length/\Ext m13 mm/\m.n<=lo/\(is=true->((bH (l.take j)).all λv=> !Aw u v ||bX t.cD v.cD)=true)) 0 ⟨_,_,rfl,ZX _,.refl,ac,λ_=>rfl⟩ ?_;rintro j vs mm lo ⟨z1,z2,rfl,hj,d0,i0,p0⟩;have nm:=d0.n;have M2:=a5.ak d0;rw[av,av,av,(rN (d0.cells g1)).2.1,ae,M2.sl.len cM,an,aK,ae,ag];refine af (λk0=>?_) (λB0=>?_);have k0:j < l.length:=be;obtain⟨x,hx⟩:∃x,l[j]?=some x:=⟨_,Np k0⟩;have u3:=Jc hx;have⟨q,q1,q2,ow⟩:=M2.sl.gh (k:=.i64) hx;rw[ae,q1,ae,q2,ae];refine ah λp7 B5 w3 O5=>?_;refine aj dN w3 rfl rfl (Un.dt ow) λG1 a6 y3 b6=>?_;have T2:G1.get mm.n=.cells (x.u.c x.w) 43 none:=y3;have H1:Ext mm G1:=⟨ac,λc hc=>be⟩;have P0:=d0.trans H1;rw[bQ (P0.cells gu),ae,bQ T2,ae];apply aw (tQ hX (fu.ak P0).sl ((M2.sh x u3).ak H1) fu.ln (M2.ln x u3));rw[aD,aD];simp only[LB,IM,ae];refine ah λr7 d6 A3 e6=>?_;refine aj uC A3 (by rw[bd];exact eR _) (by rw[bd];exact eR _) (by rw[bd];exact nn _) λd3 f6 g6 h6=>?_;have K1:Ext G1 d3:=⟨ac,λc hc=>be⟩;have h0:=P0.trans K1;have i6:bH (l.take (j+1))=bH (l.take j)++ [x.u]:=(by unfold bH;rw[Tv,hx,Xj];rfl);refine aX (λvs m' w1=>vs=[.bool (is && (Aw u x.u && !bX t.cD x.u.cD))]/\d3=m'/\m.n<=w1) (λQ hQ=>?_) ?_;rw[ag];refine af (λc=>?_) (λc=>hQ _ _ _ ⟨be,rfl,ac⟩);rw[ag];refine af (λd=>?_) (λd=>hQ _ _ _ ⟨by unfold Aw;rw[d,F7,SJ],rfl,ac⟩);rw[(mU (h0.cells g2)).2.2.2.2,ae,cj,ae,(ji (K1.cells T2)).2.2.1,ae];apply aw (Iu hX _ _);rw[bB,ae];exact hQ _ _ _ ⟨by unfold Aw;rw[c,d];rfl,rfl,ac⟩;rintro _ _ ja ⟨rfl,rfl,q0⟩;rw[av,ag];refine af (λc=>?_) (λc=>?_);rw[IG,IG]at c;have⟨ci,ct,cs⟩:=c;rw[ci,QL rfl,F9,MO]at hD;exact hR _ _ _ _ q0 (F.trans h0) (by rw[hD];exact⟨_,rfl⟩);intro p0;rw[<-r0,RT]at p0;have:=p0 x.u (NL.2 ⟨x,u3,rfl⟩);rw[ct]at this;rw[UC]at cs;rw[cs]at this;(cases this;rw[aL,ae,wrap64];refine⟨j+1,ac,z1,z2,be,ac,h0,q0,λhi=>?_⟩;rw[i6,Nk,p0 hi,Dn];rw[hi,Dn]at c;simp only[Tx,List.all_nil,Mn];cases hr:Aw u x.u;rfl;rw[hr,Dn,UY]at c;rw[c];rfl;have O0:j=l.length:=(by have:¬(j:Int)< (l.length:Int):=LL B0;omega);subst O0;rw[Nl,r0]at p0;rw[(mU (d0.cells g2)).2.2.2.2,ae,cj,ae];have b5:=d0.cells gu;refine bV zV b5 rfl (by show 0+2+1<=6;decide) rfl λu0 j6 B3 Q0=>?_;have d5:u0.get m8.n=.cells (Un.c {u with cD:=t.cD} wu) 43 none:=B3;have e5:m1.n≠m8.n:=be;have f5:=(fu.ak d0).sl;have O2:Sl u0 u.shape wu:=f5.aY λc cs t g hc ht=>(by rw[Q0 c (λe=>by subst e;rw[b5]at hc;cases hc;simp[aQ.ty,aQ.dU]at ht),hc]);rw[(mU ((Q0 _ e5).trans (d0.cells g2))).2.1,ae,pF,ae,bQ d5,ae,ze,ae,Ph,an];obtain⟨g3,d1⟩:∃q,q=u0.push (.cells (AW.c ⟨gG 2 t.id,LF⟩++AW.c ⟨cQ {u with cD:=t.cD},wu⟩) 87 none):=⟨_,rfl⟩;rw[<-d1];have i1:Ext u0 g3:=d1 ▸ Ext.refl.push;have G3:g3.get u0.n=.cells (AW.c ⟨gG 2 t.id,LF⟩++AW.c ⟨cQ {u with cD:=t.cD},wu⟩) 87 none:=(by rw[d1];exact M.aU);have n155:=i1.n;apply hR _ _ _ _ ac ⟨ac,λc hc=>by rw[i1.get c ac,Q0 c ac,d0.get c ac,F.get c hc]⟩;cases hi:is with|false=>rw[hi]at hD;rw[hD];exact⟨_,rfl⟩|true=>rw[hi,QL rfl,F9,QL (p0 hi)]at hD;rw[hD];refine⟨_,_,rfl,rfl,PD G3 rfl f5.one,λa ha=>?_,λa ha=>?_,λa ha=>?_⟩;rcases OS.1 ha with rfl |ha;exact .nil;rw[PY.1 ha];exact O2.ak i1;rcases OS.1 ha with rfl |ha;exact Af;rw[PY.1 ha];exact fu.ln;rcases OS.1 ha with rfl |ha;exact Dk ce;rw[PY.1 ha];exact Hr);rw[MO (LL k4)]at hD;rw[aJ,ae,ag];refine af (λk5=>?_) (λk5=>?_);rw[QL (Ds k5)]at hD;have g5:=y1.ak F;refine Lp.intro (γ:=Nat) (λj=>y.ms.length-j) (λj vs mm lo=>∃v,vs=[v,.int .i64 j]/\j<=y.ms.length/\Ext m13 mm/\m.n<=lo/\Ow m13.n mm (((y.ms.take j).filter (lM t)).map λx=>(⟨gG 6 x.id,LF⟩:AW)) v) 0 ⟨_,rfl,ZX _,.refl,ac,Ow.nil⟩ ?_;rintro j vs mm lo ⟨v,rfl,hj,d0,i0,O3⟩;have nm:=d0.n;have h5:=g5.ak d0;rw[av,av,(rN (d0.cells g1)).2.2,ae,h5.len cS,an,aK,ae,ag];refine af (λk0=>?_) (λB0=>?_);have k0:j < y.ms.length:=be;obtain⟨x,hx⟩:∃x,y.ms[j]?=some x:=⟨_,Np k0⟩;have⟨p,p1,p2⟩:=h5.tx (k:=.i64) hx;refine aX (λvs m' w1=>∃v',vs=[v']/\Ext m13 m'/\m.n<=w1/\Ow m13.n m' (((y.ms.take (j+1)).filter (lM t)).map λx=>(⟨gG 6 x.id,LF⟩:AW)) v') (λQ hQ=>?_) ?_;rw[ae,p1,ae,p2,ae];refine ah λs7 l6 d4 m6=>?_;refine aj rA d4 rfl rfl rfl λO1 n6 f4 o6=>?_;have i3:O1.get mm.n=.cells x.c 68 none:=f4;have T1:Ext mm O1:=⟨ac,λc hc=>be⟩;have h0:=d0.trans T1;obtain⟨a0,a1,a2,a3, -⟩:=wP i3;have a4:=QF i3;obtain⟨-,b1, -,b3, -⟩:=mU (h0.cells g2);have j3:=O3.ak T1;refine aX (λvs m' w1=>vs=[.bool (lM t x)]/\O1=m'/\m.n<=w1) (λQ' j1=>?_) ?_;rw[dk,ae,a1,ae,b1,ae,aJ,ae,ag];unfold lM at j1;refine af (λc1=>?_) (λc1=>j1 _ _ _ ⟨be,rfl,ac⟩);rw[eK,ae,a2,ae,b3,ae,aJ,ae,ag];refine af (λc2=>?_) (λc2=>j1 _ _ _ ⟨be,rfl,ac⟩);rw[fy,ae,a4,ae,ag];refine af (λc3=>?_) (λc3=>j1 _ _ _ ⟨be,rfl,ac⟩);rw[kL,ae,a3,ae,aJ,ae,ag];refine af (λc4=>j1 _ _ _ ⟨be,rfl,ac⟩) (λc4=>?_);rw[ae,a3,ae,aJ,ae,ag];refine af (λc5=>j1 _ _ _ ⟨be,rfl,ac⟩) (λc5=>?_);rw[ae,a3,ae,aJ,ae];exact j1 _ _ _ ⟨be,rfl,ac⟩;rintro _ _ ja ⟨rfl,rfl,q0⟩;rw[av,ag];refine af (λc=>?_) (λc=>?_);rw[bS,ae,a0,ae,pF,ae];have o8:((y.ms.take j).filter (lM t)).length<=j:=(by have:=Nr (lM t) (y.ms.take j);rw[PK]at this;omega);refine jx (T:=78) (x:=(⟨gG 6 x.id,LF⟩:AW)) F4 rfl j3 ac be BQ (λ_=>⟨rfl,rfl⟩) λr' u7 w2 n2 k2 p8 l2=>?_;refine hQ _ _ _ ⟨r',rfl,⟨ac,λc hc=>by rw[k2 c hc,h0.get c hc]⟩,ac,?_⟩;rw[Tv,hx,OP,Xj];simp only[OR,LP,c,Ag,My,Cx,ND];exact w2;refine hQ _ _ _ ⟨v,rfl,h0,q0,?_⟩;rw[Tv,hx,OP,Xj];simp only[OR,LP,c,My,ND,Vy];simpa using j3;rintro _ m' w1 ⟨v',rfl,h1,h2,h3⟩;rw[av,aL,ae,wrap64];exact⟨j+1,ac,v',be,ac,h1,h2,h3⟩;have O0:j=y.ms.length:=(by have:¬(j:Int)< (y.ms.length:Int):=LL B0;omega);subst O0;rw[Nl]at O3;obtain⟨-,b1, -,b3, -⟩:=mU (d0.cells g2);rw[(ff (d0.cells g1)).1,ae,b1,ae,b3,ae];apply aw (Eo hX (hF.ak (F.trans d0)) ac y1.one _ _);rw[r0];apply hR _ _ _ _ ac (F.trans d0);cases hf:oo y.us t.id t.side;rw[MO be]at hD;rw[hD];exact⟨_,rfl⟩;rw[QL hf]at hD;rw[hD];refine⟨_,_,rfl,dg,O3.sl,λa ha=>?_,λa ha=>?_,λa ha=>?_⟩;obtain⟨k,_,rfl⟩:=NL.1 ha;exact .nil;obtain⟨k,_,rfl⟩:=NL.1 ha;exact Af;obtain⟨k,_,rfl⟩:=NL.1 ha;exact Dk ce;rw[MO (LL k5)]at hD;rw[aJ,ae,ag];refine af (λk6=>?_) (λk6=>?_);rw[QL (Ds k6)]at hD;rw[tid,ae,pF,ae];refine pz (x:=⟨gG 7 t.id,LF⟩) rfl .nil Af (Dk ce) λm22 j0 n22 _ a22=>?_;exact hR _ _ _ _ ac (F.trans j0) (by rw[hD];exact⟨_,_,rfl,rfl,a22⟩);rw[MO (LL k6)]at hD;rw[aJ,ae,ag];refine af (λk7=>?_) (λk7=>?_);rw[QL (Ds k7)]at hD;rw[tid,ae,pF,ae];refine pz (x:=⟨gG 6 t.id,LF⟩) rfl .nil Af (Dk ce) λm22 j0 n22 _ a22=>?_;exact hR _ _ _ _ ac (F.trans j0) (by rw[hD];exact⟨_,_,rfl,rfl,a22⟩);rw[MO (LL k7)]at hD;rw[aJ,ae,ag];refine af (λk8=>?_) (λk8=>?_);rw[QL (Ds k8)]at hD;rw[tid,ae,u5,ae,FZ,ae];refine ah λv7 r6 g4 s6=>?_;refine aj Bh g4 rfl rfl rfl λd2 u6 h4 v6=>?_;have i5:d2.get m13.n=.cells (Fc.c ⟨t.id,t.side⟩) 103 none:=h4;have n0:Ext m13 d2:=⟨ac,λc hc=>be⟩;have h0:=F.trans n0;obtain⟨-,b1, -,b3, -⟩:=mU (n0.cells g2);have w6:y.rc.length < 1000000:=ac;refine aX (λvs mm lo=>∃b,vs=[LF,.bool b]/\d2=mm/\m.n<=lo/\D=if b=true then some []else none) (λQ hQ=>?_) ?_;rw[(ff (n0.cells g1)).1,ae,b1,ae,b3,ae];apply aw (Eo hX (hF.ak h0) ac y1.one _ _);rw[r0,ag];refine af (λc=>?_) (λc=>hQ _ _ _ ⟨false,rfl,rfl,ac,be⟩);rw[c,Dn]at hD;rw[(ff (n0.cells g1)).2.2.1,ae,(r4.ak h0).len lq,an,aK,ae,ag];refine af (λd=>hQ _ _ _ ⟨true,rfl,rfl,ac,?_⟩) (λd=>?_);have d:=Ds d;rw[QL be]at hD;exact hD;have d:=LL d;rw[(ff (n0.cells g1)).2.2.2.2,ae,(Gj i5).2.2,ae];apply aw (uI hX (r4.ak h0) w6 _);refine hQ _ _ _ ⟨_,rfl,rfl,ac,?_⟩;rw[Qr (show¬y.rc.length < 60 by omega),U4]at hD;exact hD;rintro _ _ lo ⟨b,rfl,rfl,j5,j4⟩;rw[av,av];apply hR _ _ _ _ j5 h0;rw[j4];cases b;exact⟨_,rfl⟩;exact⟨[],_,rfl,rfl,.nil⟩;rw[MO (LL k8),fu.eq]at hD;rw[(ff g1).1,ae,Ma,ae];obtain⟨r8,i2,l5,l3,f280⟩:=qf (m:=m13) hX (hF.ak F) ac y1.one t.other;apply aw l5;obtain⟨u2,w2,s8,rfl,j2⟩:=f280.Xu u4;rw[r0]at j2;have n280:=l3.n;rw[aD,aD];simp only[LB,IM,ae];refine ah λw7 y6 l4 z6=>?_;refine aj dN l4 rfl rfl (Un.dt j2.sl.one) λy0 A6 m4 B6=>?_;have gv:y0.get i2.n=.cells (u2.c w2) 43 none:=m4;have v2:Ext i2 y0:=⟨ac,λc hc=>be⟩;have h0:=l3.trans v2;rw[bQ (h0.cells gu),ae,bQ gv,ae];apply aw (tQ hX (fu.ak h0).sl (j2.ak v2).sl fu.ln j2.ln);rw[aD,aD];simp only[LB,IM,ae];refine ah λy7 a7 n4 b7=>?_;refine aj uC n4 (by rw[bd];exact eR _) (by rw[bd];exact eR _) (by rw[bd];exact nn _) λy2 c7 d7 e7=>?_;have r1:Ext y0 y2:=⟨ac,λc hc=>be⟩;have A2:=h0.trans r1;have m5:=F.trans A2;have n295:=r1.n;have B2:=n5.ak m5;obtain⟨-,b1,b2, -,b4⟩:=mU (A2.cells g2);have z7:m.n<=min (min (min (min v5 m13.n) i2.n) y0.n) y0.n:=ac;refine Lp.intro (γ:=Nat) (λj=>y.mo.length-j) (λj vs mm lo=>vs=[.bool ((y.mo.take j).any λx=>decide (x.a=t.id) && decide (x.b=t.other)),.int .i64 j]/\j<=y.mo.length/\y2=mm/\m.n<=lo) 0 ⟨rfl,ZX _,rfl,ac⟩ ?_;rintro j vs mm lo ⟨rfl,hj,rfl,i0⟩;rw[av,av,(ff (A2.cells g1)).2.2.2.1,ae,B2.len js,an,aK,ae,ag];refine af (λk0=>?_) (λB0=>?_);have k0:j < y.mo.length:=be;obtain⟨x,hx⟩:∃x,y.mo[j]?=some x:=⟨_,Np k0⟩;obtain⟨b,o,e1, -,l0,l1⟩:=Hc B2 hx;have A7:((y.mo.take (j+1)).any λx=>decide (x.a=t.id) && decide (x.b=t.other))=(((y.mo.take j).any λx=>decide (x.a=t.id) && decide (x.b=t.other)) ||(decide (x.a=t.id) && decide (x.b=t.other))):=(by rw[Tv,hx,NC];simp);have ej:((j+1:Nat):Int)=(j:Int)+1:=ac;rw[ag];refine af (λc=>?_) (λc=>?_);rw[aL,ae,wrap64];exact⟨j+1,ac,be,ac,rfl,i0⟩;rw[ae,e1,ae,eL,ae,l0,ae,b1,ae,aJ,ae,ag];refine af (λc1=>?_) (λc1=>?_);rw[ae,e1,ae,fA,ae,l1,ae,b2,ae,aJ,ae,aL,ae,wrap64];exact⟨j+1,ac,be,ac,rfl,i0⟩;rw[aL,ae,wrap64];exact⟨j+1,ac,be,ac,rfl,i0⟩;have O0:j=y.mo.length:=(by have:¬(j:Int)< (y.mo.length:Int):=LL B0;omega);subst O0;rw[Nl];obtain⟨A,hA⟩:∃A,A=y.mo.any λx=>decide (x.a=t.id) && decide (x.b=t.other):=⟨_,rfl⟩;rw[<-hA]at hD⊢;have f7:=ji (A2.cells gu);have g7:=ji (r1.cells gv);refine aX (λvs mm lo=>∃b,vs=[LF,.bool b]/\y2=mm/\m.n<=lo/\D=if b=true then some []else none) (λQ hQ=>?_) ?_;rw[ag];refine af (λc=>?_) (λc=>hQ _ _ _ ⟨false,rfl,rfl,i0,be⟩);rw[c,QL rfl,F9,j2.eq]at hD;rw[ag];refine af (λc2=>?_) (λc2=>hQ _ _ _ ⟨false,rfl,rfl,i0,be⟩);rw[c2,QL rfl,F9]at hD;rw[ag];unfold Aw at hD;refine af (λc3=>?_) (λc3=>hQ _ _ _ ⟨false,rfl,rfl,i0,be⟩);rw[c3,Dn]at hD;rw[b4,ae,cj,ae,f7.2.2.1,ae];apply aw (zv hX _ _);rw[ag];refine af (λc4=>?_) (λc4=>hQ _ _ _ ⟨false,rfl,rfl,ac,be⟩);rw[c4,Dn]at hD;rw[b4,ae,cj,ae,g7.2.2.1,ae];apply aw (zv hX _ _);rw[ag];refine af (λc5=>?_) (λc5=>hQ _ _ _ ⟨false,rfl,rfl,ac,be⟩);rw[c5,Dn]at hD;rw[(ff (A2.cells g1)).2.2.2.1,ae,B2.len js,an,aK,ae,ag];refine af (λc6=>hQ _ _ _ ⟨true,rfl,rfl,ac,?_⟩) (λc6=>hQ _ _ _ ⟨A,rfl,rfl,ac,?_⟩);have c6:=Ds c6;rw[QL be]at hD;exact hD;have c6:=LL c6;rw[Qr (show¬y.mo.length < 20 by omega),U4]at hD;exact hD;rintro _ _ ja ⟨b,rfl,rfl,q0,j4⟩;rw[av,av];apply hR _ _ _ _ q0 m5;rw[j4];cases b;exact⟨_,rfl⟩;exact⟨[],_,rfl,rfl,.nil⟩)
 refine H _ λv b m' lo o3 hx hs=>?_;show(aZ (.tuple #[v,.bool b])=true/\m.n<=lo/\(m.n=m.n/\Ext m m/\oH _ m (.tuple #[v,.bool b])))\/((aZ (.tuple #[v,.bool b])=false\/lo < m.n)/\(min m.n lo=m.n/\Ext m m'/\oH _ m' (.tuple #[v,.bool b])));cases hf:aZ (.tuple #[v,.bool b]);exact .inr ⟨.inl rfl,ac,hx,hs⟩;exact .inl ⟨rfl,o3,rfl,.refl,hs.flat hf m⟩
def H7{touch:Un->Un->Bool}{suits softer:Int->Int->Bool}{y:Yd}{t:Tk}{L:List Ac}(F:rG y)(h:fN touch suits softer y t=some L):L.length<=40:=by have H:=F.Db.len;unfold fN at h;split at h;grind;split at h;grind;split at h;obtain⟨k,hk,rfl⟩:=ZL.1 h;have:=(F.Hp k (Jf hk)).len;grind;split at h;have⟨u,hu,h⟩:=UO.1 h;grind;split at h;grind;split at h;grind;split at h;grind;split at h;grind;have⟨u,hu,h⟩:=UO.1 h;have⟨v,hv,h⟩:=UO.1 h;grind
def eI(touch:Un->Un->Bool)(suits softer:Int->Int->Bool)(y:Yd)(t:Tk):Option (List Un×List Mk):=if dY t=true then(fN touch suits softer y t).bind λl=>eU y.us y.ms l else none
def An(D:Option (List Un×List Mk))(m':M)(F:Φ):Prop:=match D with
 |some (H,ns)=>∃v r r2,F=.tuple #[v,.agg #[r,r2],.bool true]/\ic H ns m' (.agg #[r,r2])
 |none=>∃v r r2,F=.tuple #[v,.agg #[r,r2],.bool false]/\one r=true/\one r2=true
def An.flat{D:Option (List Un×List Mk)}{v t u:Φ}(h:An D m' (.tuple #[v,t,u]))(H:aZ (.tuple #[v,t,u]))(m:M):An D m (.tuple #[v,t,u]):=by unfold An at h⊢;split at h;have⟨v',r,r2,e,hs⟩:=h;cases e;have F:(D.eC v && (D.eC (.agg #[r,r2]) && (true && true))):=H;rw[IG,IG]at F;exact⟨v,r,r2,rfl,hs.eC F.2.1 m⟩;exact h
set_option maxHeartbeats 1000000 in
theorem ado(hX:cy X){y:Yd}{r r2 st rc mo:Φ}{t:Tk}{w:Φ}(hV:tC m y r r2 st rc mo)(hP:rG y)(hw:Sl m t.un.shape w)(r0:t.un.shape.length < 100000):
  ∃rv m',C X (.func 74) [yv r r2 st rc mo,t.v w] m m.n rv m'/\Ext m m'/\An (eI Aw bX bM y t) m' rv:=by
 apply Cl.Ie hX (Us func74)
 have H:∀R:Ω->M->Nat->Prop,(∀(v t' u:Φ) (m':M) (lo:Nat),m.n<=lo->Ext m m'->An (eI Aw bX bM y t) m' (.tuple #[v,t',u])->R [v,t',u] m' lo)->fP TE (aG TE X) f74 [yv r r2 st rc mo,t.v w] m R:=by
  intro R hR
  rw[F74];dsimp only[aG]
  refine ah λm1 O1 s0 c1=>?_
  refine ah λm2 T1 u0 y0=>?_
  refine ah λm3 a2 A0 n0=>?_
  have e0:Ext m m3:=⟨ac,be⟩
  have g1:m3.get m.n=.cells (yc r r2 st rc mo) 37 none:=by rw[n0 _ ac,y0 _ ac];exact s0
  have g2:m3.get m1.n=.cells (t.c w) 58 none:=by rw[n0 _ ac];exact u0
  have gz:m3.get m2.n=.cells [LF,LF] 32 none:=A0
  clear s0 c1 u0 y0 A0 n0
  unfold ptrTo
  have o0:=hV.ak e0
  have B0:=hw.ak e0
  have bad:∀{mm:M} {lo:Nat} {v:Φ},mm.get m2.n=.cells [LF,LF] 32 none->m.n<=lo->(∀c,c < m.n->mm.get c=m.get c)->m.n<=mm.n->eI Aw bX bM y t=none->
    aS (bz TE 32 []) λv20=>dh (bh TE mm 32 (.pointer (some ⟨m2.n,0,none⟩)) v20) λm21 d1=>aS (aC TE m21 32 (.pointer (some ⟨m2.n,0,none⟩))) λe1=>R [v,e1,L4] m21 (min lo d1):=by
   intro mm lo v g j0 hk hn e
   rw[ka,ae]
   refine aj eH g rfl rfl rfl λm' b2 i1 c2=>?_
   rw[(kc i1).2.2.2,ae]
   apply hR _ _ _ _ _ ac ⟨ac,be⟩
   rw[e]
   exact⟨v,_,_,rfl,rfl,rfl⟩
  refine aX (λvs mm lo=>vs=[.bool (!dY t)]/\m3=mm/\m.n<=lo) (λQ hQ=>?_) ?_
  ·rw[(ff g1).2.2.2.2,ae];apply aw (Il hX o0 hP);rw[bB,ae,ag];show lI false _ _;rw[aT,mj g2,ae];apply aw (HD hX B0 r0);rw[bB,ae];exact hQ _ _ _ ⟨rfl,rfl,ac⟩
  rintro _ _ lo ⟨rfl,rfl,j0⟩
  rw[av,ag]
  refine af (λc=>?_) (λc=>?_)
  ·rw[UC]at c;exact bad gz j0 (λc hc=>e0.get c hc) ac (by unfold eI;rw[MO be])
  rw[UY]at c
  have hS:eI Aw bX bM y t=(fN Aw bX bM y t).bind λl=>eU y.us y.ms l:=by unfold eI;rw[QL c]
  rw[(ff g1).2.2.2.2,ae,mj g2,ae]
  have⟨rv,j1,k1,b0,g0⟩:=NR (m:=m3) hX o0 hP B0 r0 (vF c)
  apply aw k1
  have n27:=b0.n
  unfold oH at g0
  cases hA:fN Aw bX bM y t with
  |none=>rw[hA]at g0 hS;obtain⟨v,rfl⟩:=g0;rw[aD,aD];simp only[LB,IM,ae];rw[bB,ae,ag,F5,bN];exact bad (b0.cells gz) ac (λc hc=>by rw[b0.get c ac,e0.get c hc]) ac hS
  |some L=>
   rw[hA]at g0 hS
   obtain⟨al,v,rfl,hL,O0⟩:=g0
   have l1:al.length<=40:=by have:=H7 hP hA;rwa[<-hL,MB]at this
   rw[aD,aD]
   simp only[LB,IM,ae]
   rw[bB,ae,ag,T9,aT,dq,ae,(ff (b0.cells g1)).1,ae]
   obtain⟨⟨l,p0,hF⟩,p1, -⟩:=o0.ak b0
   obtain⟨r1,k0,u1,q0,d0⟩:=aag (m:=j1) hX hF (by rw[p0];exact hP.qj) p1 (by rw[p0];exact hP.Db) O0 l1
   apply aw u1
   rw[p0,hL]at d0
   have hS:eI Aw bX bM y t=eU y.us y.ms L:=hS
   have n39:=q0.n
   have P0:=(b0.trans q0).cells gz
   have y1:∀c,c < m.n->k0.get c=m.get c:=λc hc=>by rw[q0.get c ac,b0.get c ac,e0.get c hc]
   obtain⟨q,q2,n,e,rfl,o1,o2,F⟩:∃q q2 n e,r1=.tuple #[.agg #[q,q2],.int .i64 n,.int .i64 e]/\one q=true/\one q2=true/\(match eU y.us y.ms L with |some (vs,ns)=>e=0/\ic vs ns k0 (.agg #[q,q2]) |none=>e=170):=by
    unfold rq at d0
    cases hr:eU y.us y.ms L with
    |none=>rw[hr]at d0;obtain⟨n,rfl⟩:=d0;exact⟨_,_,n,170,rfl,rfl,rfl,rfl⟩
    |some d=>have⟨vs,ns⟩:=d;rw[hr]at d0;obtain⟨q,q2,n,rfl,hs⟩:=d0;have⟨_,_,_,e,_,h1,h2⟩:=id hs;cases e;exact⟨q,q2,n,0,rfl,h1.sl.one,h2.one,rfl,hs⟩
   rw[aD,aD,aD]
   simp only[LB,IM,ae]
   refine ah λd2 A1 Q0 B1=>?_
   refine aj eH Q0 rfl rfl (by show(one q && (one q2 && true))=true;rw[o1,o2];rfl) λa1 G1 h0 H1=>?_
   have h0:a1.get k0.n=.cells [q,q2] 32 none:=h0
   rw[(kc h0).2.2.2,ae,aJ,ae]
   have l0:Ext k0 a1:=⟨ac,be⟩
   refine aj eH (l0.cells P0) rfl rfl be λv1 K1 i0 b1=>?_
   have i0:v1.get m2.n=.cells [q,q2] 32 none:=i0
   rw[(kc i0).2.2.2,ae]
   apply hR _ _ _ _ _ ac ⟨ac,be⟩
   rw[hS]
   unfold An
   cases hr:eU y.us y.ms L with
   |none=>rw[hr]at F;have F:e=170:=F;subst F;exact⟨v,q,q2,rfl,o1,o2⟩
   |some d=>have⟨vs,ns⟩:=d;rw[hr]at F;obtain⟨rfl,hs⟩:=F;refine⟨v,q,q2,rfl,hs.aY λc cs t g hc ht=>?_⟩;have w1:=l0.cells hc;rw[b1 c be,w1]
 refine H _ λv t' u m' lo j0 hx hs=>?_;show(aZ (.tuple #[v,t',u])=true/\m.n<=lo/\(m.n=m.n/\Ext m m/\An _ m (.tuple #[v,t',u])))\/((aZ (.tuple #[v,t',u])=false\/lo < m.n)/\(min m.n lo=m.n/\Ext m m'/\An _ m' (.tuple #[v,t',u])));cases hf:aZ (.tuple #[v,t',u]);·exact .inr ⟨.inl rfl,ac,hx,hs⟩
 exact .inl ⟨rfl,j0,rfl,.refl,hs.flat hf m⟩
section
variable {α:Type} (R:α->α->Prop) [DecidableRel R]
def wY(l:List α)(x:α):List α:=(l.filter λy=>decide (R y x))++x::(l.filter λy=>decide (R x y))
def ry(l:List α)(x:α)(add:Bool)(i:Nat)(acc:List α):Prop:=if add=true then acc=l.take i/\∀y∈l.take i,R y x else acc=wY R (l.take i) x/\∃y∈l.take i,¬R y x
variable {R}
def filter_none{p:α->Bool}{l:List α}(h:∀y∈l,p y=false):l.filter p=[]:=JQ.2 λy F=>be
def ry.on(F:∀a b c,R a b->R b c->R a c)(H:∀a,¬R a a){l:List α}{x n:α}{i:Nat}{acc:List α}(h:ry R l x true i acc)(hn:l[i]?=some n)(b0:R n x):ry R l x true (i+1) (acc++ [n]):=by unfold ry at h⊢;rw[QL rfl]at h⊢;obtain⟨rfl,h2⟩:=h;rw[Tv,hn];grind
def ry.put(F:∀a b c,R a b->R b c->R a c)(H:∀a,¬R a a){l:List α}{x n:α}{i:Nat}{acc:List α}(h:ry R l x true i acc)(hn:l[i]?=some n)(b0:¬R n x):ry R l x false (i+1) (acc++ [x]++if R x n then [n]else []):=by unfold ry at h⊢;rw[QL rfl]at h;rw[MO ce];obtain⟨rfl,h2⟩:=h;rw[Tv,hn];refine⟨?_,n,co,b0⟩;unfold wY;rw[OP,OP,LM.2 λy hy=>L5 (h2 y hy),filter_none (l:=l.take i) (p:=λy=>decide (R x y)) λy hy=>Qr λhc=>H _ (F _ _ _ hc (h2 y hy))];grind
def ry.off(e0:∀a b c,R a b->R b c->R a c){l:List α}{x n:α}{i:Nat}{acc:List α}(hs:l.Pairwise R)(h:ry R l x false i acc)(hn:l[i]?=some n):¬R n x/\ry R l x false (i+1) (acc++if R x n then [n]else []):=by unfold ry at h⊢;rw[MO ce]at h⊢;obtain⟨rfl,y,hy,H⟩:=h;have b0:¬R n x:=(by intro hc;have⟨j,F⟩:=RL hy;rw[Qi]at F;split at F;rename_i d0;have h1:=Vc.1 F;have h2:=Vc.1 hn;have:=GU.1 hs j i h1.1 h2.1 d0;grind;cases F);refine⟨b0,?_,y,?_,H⟩;rw[Tv,hn];unfold wY;grind;grind
def ry.fin{l:List α}{x:α}{add:Bool}{acc:List α}(F:∀a,¬R a a)(H:∀a b c,R a b->R b c->R a c)(h:ry R l x add l.length acc):(acc++if add=true then [x]else [])=wY R l x:=by unfold ry at h;rw[Nl]at h;cases add with|false=>rw[MO ce]at h⊢;rw[h.1,Vy]|true=>rw[QL rfl]at h⊢;obtain⟨rfl,h2⟩:=h;unfold wY;rw[LM.2 λy hy=>L5 (h2 y hy),filter_none (p:=λy=>decide (R x y)) λy hy=>Qr λhc=>F _ (H _ _ _ hc (h2 y hy))]
def ry.nil{l:List α}{x:α}:ry R l x true 0 []:=by unfold ry;grind
end
def BZ(a b c:Fc):oh a b->oh b c->oh a c:=by unfold oh;omega
def Fl(a:Fc):¬oh a a:=by unfold oh;omega
def Fj(a b c:Mo):nB a b->nB b c->nB a c:=by unfold nB;omega
def Ja(a:Mo):¬nB a a:=by unfold nB;omega
def Up{a b:Fc}(h:a≠b):oh a b\/oh b a:=by unfold oh;have⟨F,a2⟩:=a;have⟨H,b2⟩:=b;grind
def UE{α:Type}{f:α->Int}{l:List α}{x:α}{k:Nat}(hs:l.Pairwise λa b=>f a<f b)(hk:k<=l.length)(h1:∀y∈l.take k,f y<f x)(h2:∀y,l[k]?=some y->f x<f y):jv f l x=l.take k++x::l.drop k:=by have h3:∀y∈l.drop k,f x<f y:=(by by_cases H:k<l.length;rw[Tt H];have e:=h2 _ (Np H);intro y F;rcases OS.1 F with rfl|F;exact e;have b0:=hs.sublist (List.drop_sublist k l);rw[Tt H,PU]at b0;grind;grind);unfold jv;(conv=>lhs;rw[<-ZV k l]);rw[OP,OP,LM.2 λy F=>L5 (h1 y F),filter_none (l:=l.take k) (p:=λy=>decide (f x<f y)) λy F=>Qr be,filter_none (l:=l.drop k) (p:=λy=>decide (f y<f x)) λy F=>Qr be,LM.2 λy F=>L5 (h3 y F)];simp
structure qp(O:Nat)(m:M)(r r2:Φ)(sl:List KW)(rl:List Fc)(ml:List Mo)(st rc mo:Φ):Prop where
 cell:m.get O=.cells (yc r r2 st rc mo) 37 none
 st:Ow (O+1) m sl st
 rc:Ow (O+1) m rl rc
 mo:Ow (O+1) m ml mo
 lt:O < m.n
def qp.ak{O:Nat}{sl:List KW}{rl:List Fc}{ml:List Mo}(h:qp O m r r2 sl rl ml st rc mo)(F:Ext m m'):qp O m' r r2 sl rl ml st rc mo:=
 ⟨F.cells h.cell,h.st.ak F,h.rc.ak F,h.mo.ak F,LA h.lt F.n⟩
def Qn{x:KW}:aO TE m 33 1 [(0,x.v)]=some (.slice (some ⟨m.n,0,none⟩) 1 1,m.push (.cells x.c 85 none)):=bv
def Uc{x:Fc}:aO TE m 34 1 [(0,x.v)]=some (.slice (some ⟨m.n,0,none⟩) 1 1,m.push (.cells x.c 103 none)):=bv
def W3{x:Mo}:aO TE m 35 1 [(0,x.v)]=some (.slice (some ⟨m.n,0,none⟩) 1 1,m.push (.cells x.c 60 none)):=bv
section
variable {O:Nat} {r r2:Φ} {sl:List KW} {rl:List Fc} {ml:List Mo} {st rc mo:Φ}
def qp.Kh(h:qp O m r r2 sl rl ml st rc mo){x:KW}(h1:one x.w/\one x.mv)(hl:sl.length<1000000):
  ∃a m1 r' m2 m3,aO TE m 33 1 [(0,x.v)]=some (a,m1)/\aR TE (M.wl m1 (M.n m1)) .append [33,33] [st,a]=some (r',m2)/\bh TE m2 33 (Ψ O (0+2)) r'=some (m3,O)/\O+1<=m2.low/\
   qp O m3 r r2 (sl++ [x]) rl ml r' rc mo/\m.n<=m3.n/\(∀c,c<O->m3.get c=m.get c)/\(∀c cs t g,m.get c=.cells cs t g->t≠85->t≠37->m3.get c=.cells cs t g)/\(∀c,c<m.n->c≠O->(∀a n k,st=.slice (some a) n k->c≠a.block)->m3.get c=m.get c)/\(∀a n k,r'=.slice (some a) n k->m.n<=a.block):=by obtain⟨m1,b0⟩:∃q,q=m.push (.cells x.c 85 none):=⟨_,rfl⟩;have H:Ext m m1:=b0 ▸ Ext.refl.push;have e0:m1.get m.n=.cells x.c 85 none:=(by rw[b0];exact M.aU);have i0:=h.lt;have j0:=H.n;obtain⟨r',m2,m3,⟨⟨_,pf⟩,pn⟩,p1,p2,p3,p4,p5,p6,p7,p8⟩:=BA (n1:=O+1) (o:=2) zj rfl J5 rfl h.cell (by rfl) ac ac h.st H (lv (x:=x) e0 ⟨rfl,h1⟩) hl;have p2:bh TE m2 33 (Ψ O (0+2)) r'=some (m3,O):=p2;have iJ:∀c cs t g,m.get c=.cells cs t g->t≠85->t≠37->m3.get c=.cells cs t g:=λc cs t g F g0 h0=>(by have k0:=M.aP F;have d0:=H.cells F;rw[p8 c ac (λe=>by subst e;rw[h.cell]at F;cases F;exact h0 rfl) λl0 g' e=>by rw[d0]at e;cases e;exact g0 rfl,d0]);refine⟨_,m1,r',m2,m3,b0 ▸ Qn,p1,p2,p3,⟨p4,p5,h.rc.aY λc cs t g F ht=>iJ c cs t g F ?_ ?_,h.mo.aY λc cs t g F ht=>iJ c cs t g F ?_ ?_,ac⟩,ac,λc F=>p7 c ac ac,iJ,λc F h1 h2=>by rw[pn c ac h1 h2,H.get c F],be⟩ <;>(simp only[aQ.ty,aQ.dU,OS,Dy,or_false]at ht;subst ht;decide)
def qp.wD(h:qp O m r r2 sl rl ml st rc mo){x:Fc}(hl:rl.length<1000000):
  ∃a m1 r' m2 m3,aO TE m 34 1 [(0,x.v)]=some (a,m1)/\aR TE (M.wl m1 (M.n m1)) .append [34,34] [rc,a]=some (r',m2)/\bh TE m2 34 (Ψ O (0+3)) r'=some (m3,O)/\O+1<=m2.low/\
   qp O m3 r r2 sl (rl++ [x]) ml st r' mo/\m.n<=m3.n/\(∀c,c<O->m3.get c=m.get c)/\(∀c cs t g,m.get c=.cells cs t g->t≠103->t≠37->m3.get c=.cells cs t g)/\(∀c,c<m.n->c≠O->(∀a n k,rc=.slice (some a) n k->c≠a.block)->m3.get c=m.get c)/\(∀a n k,r'=.slice (some a) n k->m.n<=a.block):=by obtain⟨m1,b0⟩:∃q,q=m.push (.cells x.c 103 none):=⟨_,rfl⟩;have H:Ext m m1:=b0 ▸ Ext.refl.push;have e0:m1.get m.n=.cells x.c 103 none:=(by rw[b0];exact M.aU);have i0:=h.lt;have j0:=H.n;obtain⟨r',m2,m3,⟨⟨_,pf⟩,pn⟩,p1,p2,p3,p4,p5,p6,p7,p8⟩:=BA (n1:=O+1) (o:=3) F2 rfl Pg rfl h.cell (by rfl) ac ac h.rc H (lv (x:=x) e0 rfl) hl;have p2:bh TE m2 34 (Ψ O (0+3)) r'=some (m3,O):=p2;have iJ:∀c cs t g,m.get c=.cells cs t g->t≠103->t≠37->m3.get c=.cells cs t g:=λc cs t g F g0 h0=>(by have k0:=M.aP F;have d0:=H.cells F;rw[p8 c ac (λe=>by subst e;rw[h.cell]at F;cases F;exact h0 rfl) λl0 g' e=>by rw[d0]at e;cases e;exact g0 rfl,d0]);refine⟨_,m1,r',m2,m3,b0 ▸ Uc,p1,p2,p3,⟨p4,h.st.aY λc cs t g F ht=>iJ c cs t g F ?_ ?_,p5,h.mo.aY λc cs t g F ht=>iJ c cs t g F ?_ ?_,ac⟩,ac,λc F=>p7 c ac ac,iJ,λc F h1 h2=>by rw[pn c ac h1 h2,H.get c F],be⟩ <;>(simp only[aQ.ty,aQ.dU,OS,Dy,or_false]at ht;subst ht;decide)
def qp.wE(h:qp O m r r2 sl rl ml st rc mo){x:Mo}(hl:ml.length<1000000):
  ∃a m1 r' m2 m3,aO TE m 35 1 [(0,x.v)]=some (a,m1)/\aR TE (M.wl m1 (M.n m1)) .append [35,35] [mo,a]=some (r',m2)/\bh TE m2 35 (Ψ O (0+4)) r'=some (m3,O)/\O+1<=m2.low/\
   qp O m3 r r2 sl rl (ml++ [x]) st rc r'/\m.n<=m3.n/\(∀c,c<O->m3.get c=m.get c)/\(∀c cs t g,m.get c=.cells cs t g->t≠60->t≠37->m3.get c=.cells cs t g)/\(∀c,c<m.n->c≠O->(∀a n k,mo=.slice (some a) n k->c≠a.block)->m3.get c=m.get c)/\(∀a n k,r'=.slice (some a) n k->m.n<=a.block):=by obtain⟨m1,b0⟩:∃q,q=m.push (.cells x.c 60 none):=⟨_,rfl⟩;have H:Ext m m1:=b0 ▸ Ext.refl.push;have e0:m1.get m.n=.cells x.c 60 none:=(by rw[b0];exact M.aU);have i0:=h.lt;have j0:=H.n;obtain⟨r',m2,m3,⟨⟨_,pf⟩,pn⟩,p1,p2,p3,p4,p5,p6,p7,p8⟩:=BA (n1:=O+1) (o:=4) JU rfl VR rfl h.cell (by rfl) ac ac h.mo H (lv (x:=x) e0 rfl) hl;have p2:bh TE m2 35 (Ψ O (0+4)) r'=some (m3,O):=p2;have iJ:∀c cs t g,m.get c=.cells cs t g->t≠60->t≠37->m3.get c=.cells cs t g:=λc cs t g F g0 h0=>(by have k0:=M.aP F;have d0:=H.cells F;rw[p8 c ac (λe=>by subst e;rw[h.cell]at F;cases F;exact h0 rfl) λl0 g' e=>by rw[d0]at e;cases e;exact g0 rfl,d0]);refine⟨_,m1,r',m2,m3,b0 ▸ W3,p1,p2,p3,⟨p4,h.st.aY λc cs t g F ht=>iJ c cs t g F ?_ ?_,h.rc.aY λc cs t g F ht=>iJ c cs t g F ?_ ?_,p5,ac⟩,ac,λc F=>p7 c ac ac,iJ,λc F h1 h2=>by rw[pn c ac h1 h2,H.get c F],be⟩ <;>(simp only[aQ.ty,aQ.dU,OS,Dy,or_false]at ht;subst ht;decide)
def qp.SZ(h:qp O m r r2 sl rl ml st rc mo){a v':Φ}{m2:M}{e0:List KW}(e:aR TE (m.wl m.n) .append [33,33] [st,a]=some (v',m2))(ho:Ow (O+1) m2 e0 v')(hn:m.n<=m2.n)(k0:O+1<=m2.low)(hk:∀c,c<O+1->m2.get c=m.get c):
  ∃m3,bh TE m2 33 (Ψ O (0+2)) v'=some (m3,O)/\qp O m3 r r2 e0 rl ml v' rc mo/\m.n<=m3.n/\(∀c,c<O->m3.get c=m.get c)/\(∀c cs t g,m.get c=.cells cs t g->t≠85->t≠37->m3.get c=.cells cs t g)/\(∀c,c<m.n->c≠O->(∀a n k,st=.slice (some a) n k->c≠a.block)->m3.get c=m.get c):=by have g2:m2.get O=.cells (yc r r2 st rc mo) 37 none:=(by rw[hk O ac];exact h.cell);have d0:=wh (E:=TE) (o:=0+2) (x:=v') J5 g2 (by rw[ho.sl.cells];rfl) (by rw[ho.sl.cells];show 0+2+1<=5;decide) (by rw[ho.sl.cells];simp[ho.sl.one]);obtain⟨m3,H⟩:∃q,q=m2.set O (.cells (yc r r2 v' rc mo) 37 none):=⟨_,rfl⟩;have d0:bh TE m2 33 (Ψ O (0+2)) v'=some (m3,O):=(by rw[d0,H,ho.sl.cells];rfl);have l0:m3.n=m2.n:=(by rw[H];rfl);have h0:m3.get O=.cells (yc r r2 v' rc mo) 37 none:=(by rw[H];exact M.get_set_same (M.aP g2));have g0:∀c,c≠O->m3.get c=m2.get c:=λc F=>(by rw[H];exact M.ee F);have b0:∀c,c<m.n->c≠O->(∀a n k,st=.slice (some a) n k->c≠a.block)->m3.get c=m.get c:=λc F h1 h2=>(by rw[g0 c h1,iy e F h2]);have iJ:∀c cs t g,m.get c=.cells cs t g->t≠85->t≠37->m3.get c=.cells cs t g:=λc cs t g F i0 n0=>(by have j0:=M.aP F;rw[b0 c j0 be λad n k es e=>?_,F];have:=h.st.sl;rw[es]at this;rcases this with⟨h1,_⟩|⟨b,o,cc,bc,g',h1,h2,_⟩;cases h1;cases h1;rw[e,h2]at F;cases F;exact i0 rfl);refine⟨m3,d0,⟨h0,?_,h.rc.aY λc cs t g F ht=>iJ c cs t g F ?_ ?_,h.mo.aY λc cs t g F ht=>iJ c cs t g F ?_ ?_,?_⟩,ac,be,iJ,b0⟩;exact ho.zF rfl λc h1 _=>g0 c ac;(any_goals (simp only[aQ.ty,aQ.dU,OS,Dy,or_false]at ht;subst ht;decide));have:=h.lt;omega
end
structure mT(m0:M)(O:Nat)(m:M)(r r2:Φ)(k:List Kp)(rl:List Fc)(ml:List Mo)(rc mo:Φ):Prop where
 ex:∃sl st,yf sl=k/\qp O m r r2 sl rl ml st rc mo/\∀x∈sl,Sl m x.u.shape x.w/\Sl m x.ms x.mv/\x.u.shape.length < 1000000/\x.ms.length < 1000000
 x:Ext m0 m
 o:m0.n=O
section
variable {m0:M} {O:Nat} {r r2:Φ} {k:List Kp} {rl:List Fc} {ml:List Mo} {rc mo:Φ}
def mT.ak(h:mT m0 O m r r2 k rl ml rc mo)(F:Ext m m'):mT m0 O m' r r2 k rl ml rc mo:=by have⟨⟨sl,st,h1,h2,H⟩,h4,h5⟩:=h;exact⟨⟨sl,st,h1,h2.ak F,λx hm=>⟨(H x hm).1.ak F,(H x hm).2.1.ak F,(H x hm).2.2⟩⟩,h4.trans F,h5⟩
def mT.Xh(h:mT m0 O m r r2 k rl ml rc mo):aC TE m 34 (Ψ O (0+3))=some rc:=by have⟨⟨sl,st,H,F,h3⟩,h4,h5⟩:=h;exact(ff F.cell).2.2.1
def mT.ldm(h:mT m0 O m r r2 k rl ml rc mo):aC TE m 35 (Ψ O (0+4))=some mo:=by have⟨⟨sl,st,H,F,h3⟩,h4,h5⟩:=h;exact(ff F.cell).2.2.2.1
def mT.lt(h:mT m0 O m r r2 k rl ml rc mo):O<m.n:=by have⟨⟨sl,st,H,F,h3⟩,h4,h5⟩:=h;exact F.lt
def KR{sl:List KW}(F:∀x∈sl,Sl m x.u.shape x.w/\Sl m x.ms x.mv/\x.u.shape.length<1000000/\x.ms.length<1000000)(hk:∀c cs t g,m.get c=.cells cs t g->(t=46\/t=68)->m'.get c=.cells cs t g):
  ∀x∈sl,Sl m' x.u.shape x.w/\Sl m' x.ms x.mv/\x.u.shape.length<1000000/\x.ms.length<1000000:=λx H=>
 ⟨(F x H).1.aY λc cs t g hc ht=>hk c cs t g hc (.inl (by simpa[aQ.ty,aQ.dU]using ht)),(F x H).2.1.aY λc cs t g hc ht=>hk c cs t g hc (.inr (by simpa[aQ.ty,aQ.dU]using ht)),(F x H).2.2⟩
def mT.wD(h:mT m0 O m r r2 k rl ml rc mo){x:Fc}(hl:rl.length<1000000):
  ∃a m1 F m2 m3,aO TE m 34 1 [(0,x.v)]=some (a,m1)/\aR TE (M.wl m1 (M.n m1)) .append [34,34] [rc,a]=some (F,m2)/\bh TE m2 34 (Ψ O (0+3)) F=some (m3,O)/\O+1<=m2.low/\
   mT m0 O m3 r r2 k (rl++ [x]) ml F mo/\m.n<=m3.n/\(∀c,c<m.n->c≠O->(∀a n k,rc=.slice (some a) n k->c≠a.block)->m3.get c=m.get c)/\(∀a n k,F=.slice (some a) n k->m.n<=a.block):=by have⟨⟨sl,st,h1,h2,h3⟩,h4,h5⟩:=h;have b0:=h4.n;have⟨a,m1,F,m2,m3,e1,e2,e3,e4,k1,k2,k3,k4,k5,k6⟩:=h2.wD (x:=x) hl;exact⟨a,m1,F,m2,m3,e1,e2,e3,e4,⟨⟨sl,st,h1,k1,KR h3 λc cs t g H ht=>k4 c cs t g H be be⟩,⟨ac,λc H=>by rw[k3 c ac,h4.get c H]⟩,h5⟩,k2,k5,k6⟩
def mT.wE(h:mT m0 O m r r2 k rl ml rc mo){x:Mo}(hl:ml.length<1000000):
  ∃a m1 F m2 m3,aO TE m 35 1 [(0,x.v)]=some (a,m1)/\aR TE (M.wl m1 (M.n m1)) .append [35,35] [mo,a]=some (F,m2)/\bh TE m2 35 (Ψ O (0+4)) F=some (m3,O)/\O+1<=m2.low/\
   mT m0 O m3 r r2 k rl (ml++ [x]) rc F/\m.n<=m3.n/\(∀c,c<m.n->c≠O->(∀a n k,mo=.slice (some a) n k->c≠a.block)->m3.get c=m.get c)/\(∀a n k,F=.slice (some a) n k->m.n<=a.block):=by have⟨⟨sl,st,h1,h2,h3⟩,h4,h5⟩:=h;have b0:=h4.n;have⟨a,m1,F,m2,m3,e1,e2,e3,e4,k1,k2,k3,k4,k5,k6⟩:=h2.wE (x:=x) hl;exact⟨a,m1,F,m2,m3,e1,e2,e3,e4,⟨⟨sl,st,h1,k1,KR h3 λc cs t g H ht=>k4 c cs t g H be be⟩,⟨ac,λc H=>by rw[k3 c ac,h4.get c H]⟩,h5⟩,k2,k5,k6⟩
end
def ES(y:Yd)(t:Tk):Option Yd:=if dY t=true then pO Aw bX bM y t else none
def ER{y:Yd}{t:Tk}:ES y t=(eI Aw bX bM y t).map λp=>⟨p.1,p.2,As y t,Aa y t,BU y t⟩:=by unfold ES eI pO;grind
abbrev nilY:Φ:=yv (.slice none 0 0) (.slice none 0 0) (.slice none 0 0) (.slice none 0 0) (.slice none 0 0)
def lP(D:Option Yd)(m':M)(F:Φ):Prop:=match D with
 |some z=>∃r r2 st rc mo,F=.tuple #[yv r r2 st rc mo,.int .i64 0]/\tC m' z r r2 st rc mo
 |none=>F=.tuple #[nilY,.int .i64 270]
def pQ{α:Type}[aQ α]{m':M}{l:List α}{v:Φ}(h:Sl m' l v)(F:D.bO v):l=[]/\v=LF:=by rcases h with⟨H,h2⟩|⟨b,o,c,bc,g,H,_⟩;grind;rw[H]at F;simp[D.bO]at F
def tC.flat{z:Yd}(h:tC m' z r r2 st rc mo)(H:D.bO r/\D.bO r2/\D.bO st/\D.bO rc/\D.bO mo)(m:M):tC m z r r2 st rc mo:=by have⟨⟨l,h1,h2⟩,h3,⟨k,h4,h5⟩,h6,h7⟩:=h;have⟨f1,f2,f3,f4,f5⟩:=H;obtain⟨e1,rfl⟩:=pQ h2.sl f1;obtain⟨e2,rfl⟩:=pQ h3 f2;obtain⟨e3,rfl⟩:=pQ h5.sl f3;obtain⟨e4,rfl⟩:=pQ h6 f4;obtain⟨e5,rfl⟩:=pQ h7 f5;subst e1 e3;exact⟨⟨[],h1,⟨.nil,λx F=>(by cases F),λx F=>(by cases F),.inl rfl⟩⟩,e2 ▸ .nil,⟨[],h4,Gl.nil⟩,e4 ▸ .nil,e5 ▸ .nil⟩
def lP.flat{D:Option Yd}{t:Φ}(h:lP D m' (.tuple #[yv r r2 st rc mo,t]))(H:aZ (.tuple #[yv r r2 st rc mo,t]))(m:M):lP D m (.tuple #[yv r r2 st rc mo,t]):=by unfold lP at h⊢;split at h;have⟨_,_,_,_,_,e,hs⟩:=h;cases e;have F:((D.bO r && (D.bO r2 && (D.bO st && (D.bO rc && (D.bO mo && true))))) && (true && true)):=H;simp only[IG]at F;exact⟨_,_,_,_,_,rfl,hs.flat ⟨F.1.1,F.1.2.1,F.1.2.2.1,F.1.2.2.2.1,F.1.2.2.2.2.1⟩ m⟩;exact h
def SQ{u:Un}:bz TE 85 [(0,u.v w)]=some (KW.v ⟨u,w,[],LF⟩):=JI rfl
def SO:bz TE 37 [(0,.agg #[r,r2])]=some (yv r r2 LF LF LF):=JJ rfl
def JM{c:Int}:bz TE 60 [(0,ν a),(1,ν b),(2,ν c)]=some (Mo.v ⟨a,b,c⟩):=CO rfl rfl rfl
def ab5:bz TE 37 []=some nilY:=adY
def mH{α:Type}(R:α->α->Prop)[DecidableRel R](D:Prop)[Decidable D](l:List α)(x:α)(add:Bool)(i:Nat)(acc:List α):Prop:=if D then ry R l x add i acc else add=false/\acc=l.take i
section
variable {α:Type} {R:α->α->Prop} [DecidableRel R] {D:Prop} [Decidable D] {l:List α} {x n:α} {i:Nat} {acc:List α} {add:Bool}
def mH.init:mH R D l x (decide D) 0 []:=by unfold mH;split;rename_i h;rw[L5 h];exact .nil;grind
def mH.put(F:∀a b c,R a b->R b c->R a c)(H:∀a,¬R a a)(h:mH R D l x true i acc)(hn:l[i]?=some n)(b0:¬R n x):mH R D l x false (i+1) (acc++ [x]++if(D->R x n\/R n x)then [n]else []):=by unfold mH at h⊢;by_cases hD:D;rw[QL hD]at h⊢;have:=h.put F H hn b0;grind;grind
def mH.on(H:∀a b c,R a b->R b c->R a c)(b0:∀a,¬R a a)(h:mH R D l x true i acc)(hn:l[i]?=some n)(F:R n x):mH R D l x true (i+1) (acc++if(D->R x n\/R n x)then [n]else []):=by unfold mH at h⊢;rw[QL λ_=> .inr F];by_cases hD:D;rw[QL hD]at h⊢;exact h.on H b0 hn F;grind
def mH.off(F:∀a b c,R a b->R b c->R a c)(hs:l.Pairwise R)(h:mH R D l x false i acc)(hn:l[i]?=some n):mH R D l x false (i+1) (acc++if(D->R x n\/R n x)then [n]else []):=by unfold mH at h⊢;by_cases H:D;rw[QL H]at h⊢;have⟨h1,h2⟩:=h.off F hs hn;grind;rw[MO H]at h⊢;rw[QL λhc=>(H hc).elim,Tv,hn,h.2];grind
def mH.fin(F:∀a,¬R a a)(H:∀a b c,R a b->R b c->R a c)(h:mH R D l x add l.length acc):(acc++if add=true then [x]else [])=if D then wY R l x else l:=by unfold mH at h;by_cases hD:D;rw[QL hD]at h⊢;exact h.fin F H;grind
end
theorem W0{y:Yd}{t:Tk}:Aa y t=if t.kind=8/\(⟨t.id,t.side⟩:Fc)∉y.rc then wY oh y.rc ⟨t.id,t.side⟩else y.rc:=rfl
theorem Xa{y:Yd}{t:Tk}:BU y t=if t.kind=9 then wY nB y.mo ⟨t.id,t.other,t.cD⟩else y.mo:=rfl
def TU{y:Yd}{t:Tk}{p:List Un×List Mk}(h:eI Aw bX bM y t=some p)(k:t.kind=2):(cp y.us t.id).isSome:=by unfold eI at h;split at h;obtain⟨l,F, -⟩:=UO.1 h;unfold fN at F;grind;cases h
def ic.keep3{v:Φ}(h:ic vs H m' v)(hk:∀c cs t g,m'.get c=.cells cs t g->(t=43\/t=46\/t=68)->m''.get c=.cells cs t g):ic vs H m'' v:=by have⟨acc,r,r2,e,h1,h2,h3⟩:=h;exact⟨acc,r,r2,e,h1,h2.aY λc cs t g F ht=>hk c cs t g F be,h3.aY λc cs t g F ht=>hk c cs t g F (by have:t=68:=(by simpa[aQ.ty,aQ.dU]using ht);grind)⟩
def V1{l:List Mk}{v:Φ}(h:Sl m l v){i:Nat}{x:Mk}(H:l[i]?=some x):∃b o,aE TE 30 v (ν i)=some (Ψ b o)/\aC TE m 3 (Ψ b (o+1))=some (ν x.un)/\aC TE m 68 (Ψ b o)=some x.v:=by have⟨b,o,bc,g,cs,e1,hb,hr,hle,hj⟩:=h.jc cS (k:=.i64) H;obtain rfl:cs=x.c:=hr;refine⟨b,o,e1,?_,?_⟩;rw[bR,aH hb];exact hj 1 (by show 1<5;decide);have⟨p,F,e2,e3,e4⟩:=h.index cS (k:=.i64) H;obtain rfl:p=Ψ b o:=Option.some.inj (e2.symm.trans e1);obtain rfl:F=x.c:=e4;exact e3
def Ua:aO TE m 30 1 [(0,x.v)]=some (.slice (some ⟨m.n,0,none⟩) 1 1,m.push (.cells x.c 68 none)):=bv
def VB:vU TE 30 Mk:=⟨ai.t30,ai.t68,bv,rfl,rfl,bv,ce,rfl⟩
def KS{b:Nat}{u:Un}{mv:Φ}{l l':List Mk}(g:m.get b=.cells (KW.c ⟨u,w,l',mv⟩) 85 none)(ho:Ow (b+1) m l mv){x:Mk}(hl:l.length<1000000):
  ∃a m1 H m2 m3,aO TE m 30 1 [(0,x.v)]=some (a,m1)/\aR TE (M.wl m1 (M.n m1)) .append [30,30] [mv,a]=some (H,m2)/\bh TE m2 30 (Ψ b (0+6)) H=some (m3,b)/\b+1<=m2.low/\
   m3.get b=.cells (KW.c ⟨u,w,l',H⟩) 85 none/\Ow (b+1) m3 (l++ [x]) H/\m.n<=m3.n/\(∀c,c<b->m3.get c=m.get c):=by
 obtain⟨m1,F⟩:∃q,q=m.push (.cells x.c 68 none):=⟨_,rfl⟩;have b0:Ext m m1:=F ▸ Ext.refl.push;have d0:m1.get m.n=.cells x.c 68 none:=(by rw[F];exact M.aU);have e0:=M.aP g;have g0:=b0.n;obtain⟨H,m2,m3,p1,p2,p3,p4,p5,p6,p7,p8⟩:=PZ (n1:=b+1) (o:=6) VB rfl DO rfl g (by rfl) ac ac ho b0 (lv (x:=x) d0 rfl) hl;exact⟨_,m1,H,m2,m3,F ▸ Ua,p1,p2,p3,p4,p5,ac,λc hc=>p7 c ac ac⟩
