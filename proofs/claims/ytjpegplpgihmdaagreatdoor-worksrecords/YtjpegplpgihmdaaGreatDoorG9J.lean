/- putlogref12.Contacts. -/
import Derived.Test.YtjpegplpgihmdaaGreatDoorG8J
set_option linter.defProp false
set_option maxRecDepth 100000
noncomputable section
namespace Go.Proofs.YtjpegplpgihmdaaGreatDoor
open Go Go.D Go.Proofs.Tryz
variable{us vs:List Un}{F H ms:List Mk}{a b:Int}{x:Mk}{mo r r2 rc st w w':Φ}{m' m'':M}{g:Option Nat}
variable{X:aF}{m:M}
def ye(us:List Un)(i:Nat):List Ct:=match us[i]? with
 |some u=>(fS u).toList++(us.drop (i+1)).filterMap (fD u)
 |none=> []
def mQ(us:List Un)(i:Nat):List Ct:=(List.range i).flatMap (ye us)
def yd(us:List Un):List Ct:=if iS us=true then mQ us us.length else []
def qe(us:List Un)(i:Nat):mQ us (i+1)=mQ us i++ye us i:=by unfold mQ;rw[Zq,Mz];simp
def afr(us:List Un)(i:Nat):(ye us i).length<=us.length+1:=by unfold ye;grind
theorem rI(us:List Un):∀i,(mQ us i).length<=i*(us.length+1)
 |0=>by simp[mQ]
 |i+1=>by rw[qe,N7,Sv];have:=rI us i;have:=afr us i;omega
def PR{α:Type}[aQ α]{l:List α}{r:Φ}{m':M}{lo:Nat}{Q:Prop}(hQ:Q)(h:Ow m.n m' l r)(F:m.n<=lo)(hx:Ext m m'):
  (aZ (aM [r])/\m.n<=lo/\(Q/\Ext m m/\Ow m.n m l r))\/((aZ (aM [r])=false\/lo<m.n)/\(min m.n lo=m.n/\Ext m m'/\Ow m.n m' l r)):=by by_cases H:l=[];subst H;rcases h with⟨rfl,_⟩|⟨b,cs,h1,h⟩;exact .inl ⟨rfl,F,hQ,.refl,Ow.nil⟩;grind;obtain⟨b,rfl,_⟩:=pI h H;exact .inr ⟨.inl rfl,ac,hx,h⟩
theorem EN(hX:cp X){l:List UW}{v:Φ}(h:cC m l v)(hlen:l.length<1000000):
  ∃r m',C X (.func 25) [.agg #[v]] m m.n r m'/\Ext m m'/\Ow m.n m' (yd (bI l)) r:=by
 apply Cl.kI hX (MZ func25);rw[F25];dsimp only[aG];refine ah λm1 e2 j0 k1=>?_;have j0:m1.get m.n=.cells [v] 30 none:=j0;have B0:Ext m m1:=⟨ac,k1⟩;have y0:=h.an B0;unfold ptrTo;simp only[bh,ae];rw[show aC TE m1 30 (Ψ m.n 0)=some (.agg #[v]) by rw[cV,aI j0 co];rfl,ae];apply aw (nI hX y0 hlen);rw[bC,ae,ag];refine af (λc=>?_) (λc=>?_);rw[MK]at c;refine PR (m':=m1) be ?_ ac B0;unfold yd;rw[Od be];exact Ow.nil;rw[MI]at c;have hP:=pQ.1 c;have T1:l.length<=12:=(by have:=hP.len;rwa[cD]at this);have l1:(bI l).length=l.length:=cD;have O0:∀{m':M},m'.get m.n=.cells [v] 30 none->aC TE m' 28 (Ψ m.n (0+0))=some v:=λh=>(by rw[dU,aH h];rfl);refine Lp.intro (γ:=Nat) (λi=>l.length-i) (λi vs mm lo=>∃r,vs=[r,Ω i]/\i<=l.length/\Ext m1 mm/\m.n<=lo/\Ow m1.n mm (mQ (bI l) i) r) 0 ⟨_,rfl,PS _,.refl,ac,Ow.nil⟩ ?_;rintro i vs mm lo ⟨r,rfl,hi,k0,g2,ho⟩;have nm:=k0.n;have hF:=y0.an k0;rw[av,av,O0 (k0.cells j0),ae,hF.sl.len cX,ak,aK,ae,ag];refine af (λP0=>?_) (λo1=>?_);have P0:i<l.length:=be;obtain⟨x,hx⟩:∃x,l[i]?=some x:=⟨_,Iy P0⟩;have e0:=Vb hx;have u1:=kb hx;have h2:=rI (bI l) i;have He:i*((bI l).length+1)<=12*13:=Lg ac ac;have⟨q,q1,q2,ow⟩:=hF.sl.iz (k:=.i64) hx;rw[ae,q1,ae,q2,ae];apply aw (Iu hX (hF.sh x e0) (hF.ln x e0));rw[aD,aD];simp only[Lf,S5,ae];refine ah λi2 a2 Q0 b2=>?_;refine aj vD Q0 (by rw[bd];exact fF _) (by rw[bd];exact fF _) (by rw[bd];exact oK _) λa1 c2 h0 d2=>?_;rw[bd]at h0;have h0:a1.get mm.n=.cells (Hz (fS x.u)) 89 none:=h0;have A0:Ext mm a1:=⟨ac,be⟩;have b1:=ho.an A0;have l0:=k0.trans A0;have c1:ye (bI l) i=(fS x.u).toList++((bI l).drop (i+1)).filterMap (fD x.u):=(by unfold ye;rw[u1]);rw[ag]
 (cases hs:fS x.u with|some t=>show lR true _ _;rw[hs]at h0;rw[bM,E5 h0,ae];refine jt (x:=t) JC rfl b1 ac ac IK (λ_=>rfl) λr1 v1 w2 n2 k2 d1 l2=>?_;rw[aL,ae,wrap64];have e1:Ext m1 v1:=⟨ac,λc hc=>by rw[k2 c hc,l0.get c hc]⟩;refine Lp.intro (γ:=Nat) (λd=>l.length-d) (λd vs mm lo=>∃r,vs=[r,Ω ((i+1+d:Nat):Int)]/\i+1+d<=l.length/\Ext m1 mm/\m.n<=lo/\Ow m1.n mm (mQ (bI l) i++((fS x.u).toList++(((bI l).drop (i+1)).take d).filterMap (fD x.u))) r) 0 ⟨r1,rfl,ac,e1,ac,be⟩ ?_;rintro d vs n0 iT ⟨r,rfl,hd,F,o0,g0⟩;have w1:=F.n;have b0:=y0.an F;rw[av,av,O0 (F.cells j0),ae,b0.sl.len cX,ak,aK,ae,ag];refine af (λi0=>?_) (λp0=>?_);have i0:i+1+d<l.length:=be;obtain⟨y,hy⟩:∃y,l[i+1+d]?=some y:=⟨_,Iy i0⟩;have q0:=Vb hy;have⟨p,p1,p2,pw⟩:=b0.sl.iz (k:=.i64) hx;have⟨z,z1,z2,zw⟩:=b0.sl.iz (k:=.i64) hy;have r0:((bI l).drop (i+1)).take (d+1)=((bI l).drop (i+1)).take d++ [y.u]:=(by rw[QM,PG,kb hy];rfl);have y1:=UC (fD x.u) (((bI l).drop (i+1)).take d);have A1:(((bI l).drop (i+1)).take d).length<=d:=be;have B1:(fS x.u).toList.length<=1:=be;rw[ae,p1,ae,p2,ae,ae,z1,ae,z2,ae];refine aw (tz hX (b0.sh x e0) (b0.sh y q0) (b0.ln x e0) (b0.ln y q0)) ⟨ID _,?_⟩;rw[aD,aD];simp only[Lf,S5,ae];refine ah λG1 g1 s0 h1=>?_;refine aj vD s0 (by rw[bd];exact fF _) (by rw[bd];exact fF _) (by rw[bd];exact oK _) λu0 i1 H j1=>?_;rw[bd]at H;have H:u0.get n0.n=.cells (Hz (fD x.u y.u)) 89 none:=H;have d0:Ext n0 u0:=⟨ac,be⟩;rw[ag];(cases ht:fD x.u y.u with|none=>show lR false _ _;rw[aT,aL,ae,wrap64];refine⟨d+1,ac,r,rfl,ac,F.trans d0,ac,?_⟩;rw[r0,Om,Y2,ht,R9,Y4];exact g0.an d0|some t=>show lR true _ _;rw[ht]at H;rw[bM,E5 H,ae];refine jt (x:=t) JC rfl (g0.an d0) ac be IK (λ_=>rfl) λr' H1 w2 n2 k2 d1 l2=>?_;rw[aL,ae,wrap64];refine⟨d+1,ac,r',rfl,ac,⟨ac,λc hc=>by rw[k2 c hc,d0.get c ac,F.get c hc]⟩,ac,?_⟩;rw[r0,Om,Y2,ht,R9];rw[<-UO,<-UO];rw[<-UO]at w2;exact w2);have K1:i+1+d=l.length:=(by have:¬((i+1+d:Nat):Int)< (l.length:Int):=QB p0;omega);rw[ae];refine⟨i+1,ac,r,rfl,ac,F,o0,?_⟩;rw[qe,c1];rw[OO be]at g0;exact g0|none=>show lR false _ _;rw[aT,aL,ae,wrap64];refine Lp.intro (γ:=Nat) (λd=>l.length-d) (λd vs mm lo=>∃r,vs=[r,Ω ((i+1+d:Nat):Int)]/\i+1+d<=l.length/\Ext m1 mm/\m.n<=lo/\Ow m1.n mm (mQ (bI l) i++((fS x.u).toList++(((bI l).drop (i+1)).take d).filterMap (fD x.u))) r) 0 ⟨r,rfl,ac,l0,ac,be⟩ ?_;rintro d vs n0 iT ⟨r,rfl,hd,F,o0,g0⟩;have w1:=F.n;have b0:=y0.an F;rw[av,av,O0 (F.cells j0),ae,b0.sl.len cX,ak,aK,ae,ag];refine af (λi0=>?_) (λp0=>?_);have i0:i+1+d<l.length:=be;obtain⟨y,hy⟩:∃y,l[i+1+d]?=some y:=⟨_,Iy i0⟩;have q0:=Vb hy;have⟨p,p1,p2,pw⟩:=b0.sl.iz (k:=.i64) hx;have⟨z,z1,z2,zw⟩:=b0.sl.iz (k:=.i64) hy;have r0:((bI l).drop (i+1)).take (d+1)=((bI l).drop (i+1)).take d++ [y.u]:=(by rw[QM,PG,kb hy];rfl);have y1:=UC (fD x.u) (((bI l).drop (i+1)).take d);have A1:(((bI l).drop (i+1)).take d).length<=d:=be;have B1:(fS x.u).toList.length<=1:=be;rw[ae,p1,ae,p2,ae,ae,z1,ae,z2,ae];refine aw (tz hX (b0.sh x e0) (b0.sh y q0) (b0.ln x e0) (b0.ln y q0)) ⟨ID _,?_⟩;rw[aD,aD];simp only[Lf,S5,ae];refine ah λG1 g1 s0 h1=>?_;refine aj vD s0 (by rw[bd];exact fF _) (by rw[bd];exact fF _) (by rw[bd];exact oK _) λu0 i1 H j1=>?_;rw[bd]at H;have H:u0.get n0.n=.cells (Hz (fD x.u y.u)) 89 none:=H;have d0:Ext n0 u0:=⟨ac,be⟩;rw[ag];(cases ht:fD x.u y.u with|none=>show lR false _ _;rw[aT,aL,ae,wrap64];refine⟨d+1,ac,r,rfl,ac,F.trans d0,ac,?_⟩;rw[r0,Om,Y2,ht,R9,Y4];exact g0.an d0|some t=>show lR true _ _;rw[ht]at H;rw[bM,E5 H,ae];refine jt (x:=t) JC rfl (g0.an d0) ac be IK (λ_=>rfl) λr' H1 w2 n2 k2 d1 l2=>?_;rw[aL,ae,wrap64];refine⟨d+1,ac,r',rfl,ac,⟨ac,λc hc=>by rw[k2 c hc,d0.get c ac,F.get c hc]⟩,ac,?_⟩;rw[r0,Om,Y2,ht,R9];rw[<-UO,<-UO];rw[<-UO]at w2;exact w2);have K1:i+1+d=l.length:=(by have:¬((i+1+d:Nat):Int)< (l.length:Int):=QB p0;omega);rw[ae];refine⟨i+1,ac,r,rfl,ac,F,o0,?_⟩;rw[qe,c1];rw[OO be]at g0;exact g0)
 have O1:i=l.length:=(by have:¬(i:Int)< (l.length:Int):=QB o1;omega);subst O1;refine PR (m':=mm) be ?_ ac (B0.trans k0);unfold yd;rw[F6 c,l1];exact ho.mono ac
def jq{α:Type}(f:α->Int)(l:List α)(x:α):List α:=(l.filter λy=>decide (f y < f x))++x::(l.filter λy=>decide (f x < f y))
theorem yx{α:Type}(f:α->Int)(x:α):∀{l:List α},(∀y∈l,f y≠f x)->(jq f l x).Perm (x::l)
 |[],_=>List.Perm.refl _
 |a::r,h=>by have h0:=h a F3;have F:=yx f x (l:=r) λy H=>h y (Wm _ H);unfold jq at F⊢;rw[Oh,Oh];by_cases e:f a<f x;rw[F6 be,Od be,GC];exact(F.cons a).trans (List.Perm.swap x a r);rw[Od be,F6 be];have:=(List.perm_middle (a:=a) (l₁:=(r.filter λy=>decide (f y<f x))++ [x]) (l₂:=r.filter λy=>decide (f x<f y)));simp only[UO,GC,List.nil_append]at this;exact this.trans ((F.cons a).trans (List.Perm.swap x a r))
def ad5{α:Type}{f:α->Int}{x:α}{l:List α}(h:l.Pairwise λa b=>f a<f b):(jq f l x).Pairwise λa b=>f a<f b:=by unfold jq;rw[UE,T0];refine⟨h.filter _,⟨be,h.filter _⟩,λa F b H=>?_⟩;grind
structure Tk where
 kind:Int
 un:Un
 id:Int
 other:Int
 side:Int
 dE:Int
structure Kp where
 un:Un
 ms:List Mk
structure Mo where
 a:Int
 b:Int
 dE:Int
structure Yd where
 us:List Un
 ms:List Mk
 st:List Kp
 rc:List Fc
 mo:List Mo
def eA(t:Tk):Bool:=
 if t.kind=1 then kO t.un && dt t.un.kind 6 8 && decide (t.id=0) && decide (t.other=0) && decide (t.side=0) && decide (t.dE=0)
 else if t.kind=2\/t.kind=3\/t.kind=6\/t.kind=7 then ez t.un && decide (t.un.id=0) && dt t.id 0 99 && decide (t.other=0) && decide (t.side=0) && decide (t.dE=0)
 else if t.kind=4 then ez t.un && decide (t.un.id=0) && dt t.id 0 99 && decide (t.other=0) && decide (t.side=0) && dt t.dE 0 7
 else if t.kind=5\/t.kind=8 then ez t.un && decide (t.un.id=0) && dt t.id 0 99 && decide (t.other=0) && dt t.side (-2) 7 && decide (t.dE=0)
 else if t.kind=9 then ez t.un && decide (t.un.id=0) && dt t.id 0 99 && dt t.other 0 99 && decide (t.side=0) && dt t.dE 0 7 && decide (t.id < t.other)
 else false
def jW(a b:Fc):Prop:=a.un < b.un\/a.un=b.un/\a.side < b.side
def nh(a b:Mo):Prop:=a.a < b.a\/a.a=b.a/\a.b < b.b
instance (a b:Fc):Decidable (jW a b):=by unfold jW;infer_instance
instance (a b:Mo):Decidable (nh a b):=by unfold nh;infer_instance
def allM(ms:List Mk)(st:List Kp):List Mk:=ms++st.flatMap Kp.ms
structure sU(y:Yd):Prop where
 xK:cq y.us
 C2:gR y.us y.ms
 SH:y.st.length<=12
 Wp:y.rc.length<=60
 TN:y.mo.length<=20
 zA:y.st.Pairwise λa b=>a.un.id < b.un.id
 off:∀k∈y.st,∀u∈y.us,u.id≠k.un.id
 QA:∀k∈y.st,cq [k.un]
 G9:∀k∈y.st,gR [k.un] k.ms
 nod:((allM y.ms y.st).map Mk.id).Nodup
 LM:(allM y.ms y.st).length<=20
 zK:∀f∈y.rc,(0<=f.un/\f.un<=99)/\ -2<=f.side/\f.side<=7
 zf:y.rc.Pairwise jW
 IN:∀x∈y.mo,0<=x.a/\x.a < x.b/\x.b<=99/\0<=x.dE/\x.dE<=7
 DS:y.mo.Pairwise nh
def Ac.bare(k:Int):Ac:=⟨k,⟨0,0,0,[],0,0⟩,0,0,0,⟨0,0,0,0,false⟩⟩
def eD(u:Un):Ac:={Ac.bare 1 with un:=u}
def jX(k id:Int):Ac:={Ac.bare k with id:=id}
def iI(x:Mk):Ac:={Ac.bare 5 with oB:=x}
def mh(us:List Un)(id side:Int):Bool:=match cy us id with
 |some u=>decide (side= -1) ||decide (side= -2) ||decide (0<=side) && decide (side < (u.shape.length:Int))
 |none=>false
def lF(t:Tk)(x:Mk):Bool:=decide (x.un=t.id) && decide (x.side=t.side) && x.FY && (decide (x.kind=1) ||decide (x.kind=4) ||decide (x.kind=5))
def fK(im:Un->Un->Bool)(suits softer:Int->Int->Bool)(y:Yd)(t:Tk):Option (List Ac):=
 if t.kind=1 then(if(y.st.any λk=>decide (k.un.id=t.un.id))=true then none else some [eD t.un])
 else if t.kind=2 then(if((cy y.us t.id).isSome && decide (y.st.length < 12))=true then some [jX 2 t.id]else none)
 else if t.kind=3 then(y.st.find? λk=>decide (k.un.id=t.id)).map λk=>eD k.un::k.ms.map iI
 else if t.kind=4 then(cy y.us t.id).bind λu=>if(y.us.all λv=> !im u v ||suits t.dE v.dE)=true then some [jX 2 t.id,eD {u with dE:=t.dE}]else none
 else if t.kind=5 then(if mh y.us t.id t.side=true then some ((y.ms.filter (lF t)).map λx=>jX 6 x.id)else none)
 else if t.kind=6 then some [jX 7 t.id]
 else if t.kind=7 then some [jX 6 t.id]
 else if t.kind=8 then(if(mh y.us t.id t.side && (decide (y.rc.length < 60) ||decide ((⟨t.id,t.side⟩:Fc)∈y.rc)))=true then some []else none)
 else(cy y.us t.id).bind λu=>(cy y.us t.other).bind λv=>if(im u v && softer t.dE u.dE && softer t.dE v.dE && (decide (y.mo.length < 20) ||y.mo.any λx=>decide (x.a=t.id) && decide (x.b=t.other)))=true then some []else none
def fL:List Un->List Mk->List Ac->Option (List Un×List Mk)
 |us,ms,[]=>some (us,ms)
 |us,ms,a::r=>match tX us ms a with
  |some (F,H)=>fL F H r
  |none=>none
def CV(y:Yd)(t:Tk):List Kp:=
 if t.kind=2 then(match cy y.us t.id with |some u=>jq (λk:Kp=>k.un.id) y.st ⟨u,y.ms.filter λx=>decide (x.un=t.id)⟩ |none=>y.st)
 else if t.kind=3 then y.st.filter λk=> !decide (k.un.id=t.id)else y.st
def vz(y:Yd)(t:Tk):List Fc:=if t.kind=8/\(⟨t.id,t.side⟩:Fc)∉y.rc then(y.rc.filter λf=>decide (jW f ⟨t.id,t.side⟩))++⟨t.id,t.side⟩::(y.rc.filter λf=>decide (jW ⟨t.id,t.side⟩ f))else y.rc
def C1(y:Yd)(t:Tk):List Mo:=if t.kind=9 then(y.mo.filter λx=>decide (nh x ⟨t.id,t.other,t.dE⟩))++⟨t.id,t.other,t.dE⟩::(y.mo.filter λx=>decide (nh ⟨t.id,t.other,t.dE⟩ x))else y.mo
def AT(im:Un->Un->Bool)(suits softer:Int->Int->Bool)(y:Yd)(t:Tk):Option Yd:=
 match fK im suits softer y t with
 |none=>none
 |some l=>(fL y.us y.ms l).map λp=>⟨p.1,p.2,CV y t,vz y t,C1 y t⟩
def mY{a:Ac}(h:tX us ms a=some (vs,H)):cq us/\gR us ms/\cP a/\mI us ms a=some (vs,H)/\cq vs/\gR vs H:=by unfold tX kS at h;split at h;rename_i F;rw[De]at F;split at h;rename_i hf;split at h;rename_i b0 d0 hd;split at h;rename_i hm;cases h;exact⟨pQ.1 F.1,ib.1 F.2,hf,hd,At (pQ.1 F.1) hd,ib.1 hm⟩;cases h;cases h;cases h;cases h
def EL{l:List Ac}(H:cq us)(hm:gR us ms)(h:fL us ms l=some (vs,F)):cq vs/\gR vs F:=by induction l generalizing us ms with|nil=>cases h;exact⟨H,hm⟩|cons a r ih=>rw[fL]at h;split at h;rename_i b0 d0 hs;obtain⟨-, -, -, -,h1,h2⟩:=mY hs;grind;cases h
def Cn{u:Un}(h:mI us ms (eD u)=some (vs,F)):vr us u/\vs=qf us u/\F=ms:=by unfold mI at h;have H:(eD u).kind=1:=rfl;rw[F6 H]at h;have h:(pV us u).map (·,ms)=some (vs,F):=h;unfold pV at h;grind
def Ea{id:Int}(h:mI us ms (jX 2 id)=some (vs,F)):(cy us id).isSome/\vs=oU us id/\F=eL ms id:=by unfold mI at h;have H:(jX 2 id).kind=2:=rfl;rw[Od (by rw[H];decide),F6 H]at h;split at h;rename_i ha;cases h;exact⟨ha,rfl,rfl⟩;cases h
def UI(h:mI us ms (iI x)=some (vs,H)):(ms.any λy=>decide (y.id=x.id))=false/\vs=us/\H=mV ms x:=by unfold mI at h;have F:(iI x).kind=5:=rfl;rw[Od (by rw[F];decide),Od (by rw[F];decide),Od (by rw[F];decide),Od (by rw[F];decide),F6 F]at h;split at h;cases h;rename_i ha;cases h;exact⟨ML.2 ha,rfl,rfl⟩
def LL{id:Int}{o:Bool}(h:iL ms id o=some F):F.map Mk.id=ms.map Mk.id:=by unfold iL at h;split at h;rename_i k H;split at h;rename_i y hy;split at h;cases h;cases h;rw[List.map_set];apply Mh;grind;cases h;cases h
def Fx{ns:List Mk}{k id:Int}(hk:k=6\/k=7)(h:mI us ms (jX k id)=some (vs,ns)):vs=us/\ns.map Mk.id=ms.map Mk.id:=by unfold mI at h;have F:(jX k id).kind=k:=rfl;rw[F,me,me,me,me,me]at h;cases H:iL ms (jX k id).id (decide (k=7))with|none=>rw[H]at h;cases h|some l=>rw[H]at h;cases h;exact⟨rfl,LL H⟩
theorem DH{us:List Un}:∀{l:List Mk} {ms F:List Mk} {vs:List Un},fL us ms (l.map λx=>jX 6 x.id)=some (vs,F)->vs=us/\F.map Mk.id=ms.map Mk.id
 |[],ms,F,vs,h=>by cases h;exact⟨rfl,rfl⟩
 |x::r,ms,F,vs,h=>by rw[Tz,fL]at h;split at h;rename_i H b0 hs;obtain⟨-, -, -,hd, -, -⟩:=mY hs;obtain⟨rfl,e⟩:=Fx (.inl rfl) hd;have⟨e1,e2⟩:=DH h;grind;cases h
def adt(h:(ms.any λy=>decide (y.id=x.id))=false):(mV ms x).Perm (x::ms):=by refine yx Mk.id x λy F e=>?_;grind
theorem DI{us:List Un}:∀{l:List Mk} {ms F:List Mk} {vs:List Un},fL us ms (l.map iI)=some (vs,F)->vs=us/\F.Perm (l++ms)
 |[],ms,F,vs,h=>by cases h;exact⟨rfl,List.Perm.refl _⟩
 |x::r,ms,F,vs,h=>by rw[Tz,fL]at h;split at h;rename_i H b0 hs;obtain⟨-, -, -,hd, -, -⟩:=mY hs;obtain⟨e0,rfl,rfl⟩:=UI hd;have⟨e1,e2⟩:=DI h;refine⟨e1,e2.trans (((adt e0).append_left r).trans ?_)⟩;grind;cases h
def sU.next{y:Yd}(h:sU y){vs:List Un}{F:List Mk}{st:List Kp}{rc:List Fc}{mo:List Mo}(hf:cq vs)(hm:gR vs F)(s1:st.length<=12)(s2:st.Pairwise λa b=>a.un.id<b.un.id)(s3:∀k∈st,∀u∈vs,u.id≠k.un.id)
  (s4:∀k∈st,cq [k.un]/\gR [k.un] k.ms) (s5:∃w:List Int,w.Sublist ((allM y.ms y.st).map Mk.id)/\((allM F st).map Mk.id).Perm w)
  (r1:rc.length<=60) (r2:∀f∈rc,(0<=f.un/\f.un<=99)/\ -2<=f.side/\f.side<=7) (r3:rc.Pairwise jW) (q1:mo.length<=20) (q2:∀x∈mo,0<=x.a/\x.a<x.b/\x.b<=99/\0<=x.dE/\x.dE<=7) (q3:mo.Pairwise nh):sU ⟨vs,F,st,rc,mo⟩:=by have⟨w,h1,h2⟩:=s5;refine⟨hf,hm,s1,r1,q1,s2,s3,λk H=>(s4 k H).1,λk H=>(s4 k H).2,?_,?_,r2,r3,q2,q3⟩;exact h2.nodup_iff.2 (h1.nodup h.nod);have e1:=h2.length_eq;have e2:=h1.length_le;have e3:=h.LM;grind
def adf(ms:List Mk)(id:Int):(eL ms id++ms.filter λx=>decide (x.un=id)).Perm ms:=by unfold eL;exact List.perm_append_comm.trans (List.filter_append_perm (λx:Mk=>decide (x.un=id)) ms)
def adW{l:List Fc}{x:Fc}(h:l.Pairwise jW):((l.filter λf=>decide (jW f x))++x::(l.filter λf=>decide (jW x f))).Pairwise jW:=by rw[UE,T0];refine⟨h.filter _,⟨λz hz=>by simpa using(S7.1 hz).2,h.filter _⟩,λa H b F=>?_⟩;have H:jW a x:=(by simpa using(S7.1 H).2);rcases Qk.1 F with rfl|F;exact H;have F:jW x b:=(by simpa using(S7.1 F).2);unfold jW at H F⊢;omega
def I0{l:List Mo}{x:Mo}(h:l.Pairwise nh):((l.filter λf=>decide (nh f x))++x::(l.filter λf=>decide (nh x f))).Pairwise nh:=by rw[UE,T0];refine⟨h.filter _,⟨λz hz=>by simpa using(S7.1 hz).2,h.filter _⟩,λa H b F=>?_⟩;have H:nh a x:=(by simpa using(S7.1 H).2);rcases Qk.1 F with rfl|F;exact H;have F:nh x b:=(by simpa using(S7.1 F).2);unfold nh at H F⊢;omega
theorem vF{α:Type}{p q:α->Bool}(h:∀x,p x->q x->False):∀l:List α,(l.filter p).length+(l.filter q).length<=l.length
 |[]=>co
 |a::r=>by have F:=vF h r;grind
theorem AQ{α:Type}{p q:α->Bool}(h:∀x,p x->q x->False){a:α}:∀{l:List α},a∈l->p a=false->q a=false->(l.filter p).length+(l.filter q).length+1<=l.length
 |[],hm,_,_=>by cases hm
 |b::r,hm,F,H=>by rw[Oh,Oh];rcases Qk.1 hm with rfl|hm;have:=vF h r;grind;have ih:=AQ h hm F H;grind
variable{im:Un->Un->Bool}{suits softer:Int->Int->Bool}{y:Yd}{t:Tk}
def tP{n lo hi:Int}:dt n lo hi↔lo<=n/\n<=hi:=by unfold dt;simp
def uY(h:eA t):1<=t.kind/\t.kind<=9:=by unfold eA at h;grind
def Ut(h:eA t)(F:t.kind=8):(0<=t.id/\t.id<=99)/\ -2<=t.side/\t.side<=7:=by unfold eA at h;rw[me,me,me,ifp]at h;simp only[De,tP]at h;grind
def Us(h:eA t)(F:t.kind=9):0<=t.id/\t.id<t.other/\t.other<=99/\0<=t.dE/\t.dE<=7:=by unfold eA at h;rw[me,me,me,me,F6 F]at h;simp only[De,tP,FG]at h;grind
def Wq(F:sU y)(hf:eA t){l:List Ac}(ha:fK im suits softer y t=some l):(vz y t).length<=60/\(∀f∈vz y t,(0<=f.un/\f.un<=99)/\ -2<=f.side/\f.side<=7)/\(vz y t).Pairwise jW:=by unfold vz;by_cases e:t.kind=8/\(⟨t.id,t.side⟩:Fc)∉y.rc;rw[F6 e];have hlen:y.rc.length<60:=(by unfold fK at ha;grind);have H:=vF (p:=λf:Fc=>decide (jW f ⟨t.id,t.side⟩)) (q:=λf:Fc=>decide (jW ⟨t.id,t.side⟩ f)) (λx h1 H=>by unfold jW at h1 H;grind) y.rc;refine⟨be,λf hm=>?_,adW F.zf⟩;rw[HN,Qk,S7,S7]at hm;rcases hm with hm|rfl|hm;exact F.zK f hm.1;exact Ut hf e.1;exact F.zK f hm.1;rw[Od e];exact⟨F.Wp,F.zK,F.zf⟩
def WB(H:sU y)(hf:eA t){l:List Ac}(F:fK im suits softer y t=some l):(C1 y t).length<=20/\(∀x∈C1 y t,0<=x.a/\x.a<x.b/\x.b<=99/\0<=x.dE/\x.dE<=7)/\(C1 y t).Pairwise nh:=by unfold C1;by_cases e:t.kind=9;rw[F6 e];have hex:∀x:Mo,decide (nh x ⟨t.id,t.other,t.dE⟩)->decide (nh ⟨t.id,t.other,t.dE⟩ x)->False:=λx h1 h2=>(by unfold nh at h1 h2;grind);have hlen:(y.mo.filter λx=>decide (nh x ⟨t.id,t.other,t.dE⟩)).length+(y.mo.filter λx=>decide (nh ⟨t.id,t.other,t.dE⟩ x)).length+1<=20:=(by unfold fK at F;rw[me,me,me,me,me,me,me,me]at F;have⟨u,hu,F⟩:=YZ.1 F;have⟨v,hv,F⟩:=YZ.1 F;split at F;rename_i hc;simp only[De,Q9,FG]at hc;rcases hc.2 with h|h;have:=vF hex y.mo;omega;have⟨x,hx,b0⟩:=Zj.1 h;rw[De,FG,FG]at b0;have:=AQ hex hx (by rw[QG];unfold nh;simp only[];omega) (by rw[QG];unfold nh;simp only[];omega);have:=H.TN;omega;cases F);refine⟨be,λf hm=>?_,I0 H.DS⟩;rw[HN,Qk,S7,S7]at hm;rcases hm with hm|rfl|hm;exact H.IN f hm.1;exact Us hf e;exact H.IN f hm.1;rw[Od e];exact⟨H.TN,H.IN,H.DS⟩
def vR{a:Ac}(h:fL us ms [a]=some (vs,F)):mI us ms a=some (vs,F):=by rw[fL]at h;split at h;rename_i H;cases h;exact(mY H).2.2.2.1;cases h
def afg{u:Un}(h:kO u):cq [u]:=Ft co be co co
structure Zx(y:Yd)(vs:List Un)(ns:List Mk)(st:List Kp):Prop where
 s1:st.length<=12
 s2:st.Pairwise λa b=>a.un.id < b.un.id
 s3:∀k∈st,∀u∈vs,u.id≠k.un.id
 s4:∀k∈st,cq [k.un]/\gR [k.un] k.ms
 s5:∃w:List Int,w.Sublist ((allM y.ms y.st).map Mk.id)/\((allM ns st).map Mk.id).Perm w
def Zx.same(F:sU y){vs:List Un}{H:List Mk}(h3:∀k∈y.st,∀u∈vs,u.id≠k.un.id)(h5:(H.map Mk.id).Sublist (y.ms.map Mk.id)):Zx y vs H y.st:=by refine⟨F.SH,F.zA,h3,λk hk=>⟨F.QA k hk,F.G9 k hk⟩,_,?_,List.Perm.refl _⟩;unfold allM;grind
def OQ(H:sU y)(hf:eA t){l:List Ac}(F:fK im suits softer y t=some l){vs:List Un}{ns:List Mk}(hr:fL y.us y.ms l=some (vs,ns)):Zx y vs ns (CV y t):=by
 unfold fK at F;unfold CV;by_cases k1:t.kind=1;rw[F6 k1]at F;rw[me,me];split at F;(cases F;rename_i hn;(cases F;obtain⟨e1,rfl,rfl⟩:=Cn (vR hr);refine .same H (λk hk u hu=>?_) (List.Sublist.refl _);rcases vV hu with rfl|hu);grind;exact H.off k hk u hu);rw[Od k1]at F;by_cases k2:t.kind=2;rw[F6 k2]at F⊢;split at F;rename_i hc;(cases F;rw[De,FG]at hc;obtain⟨-,rfl,rfl⟩:=Ea (vR hr);have⟨u,hu⟩:=OS.1 hc.1;have⟨d0,hid⟩:=fq hu;rw[hu];have i0:∀k∈y.st,k.un.id≠(⟨u,y.ms.filter λx=>decide (x.un=t.id)⟩:Kp).un.id:=λk hk=>λe=>H.off k hk u d0 e.symm;have hp:=yx (λk:Kp=>k.un.id) ⟨u,y.ms.filter λx=>decide (x.un=t.id)⟩ i0;refine⟨?_,ad5 H.zA,λk hk v hv=>?_,λk hk=>?_,_,List.Sublist.refl _,?_⟩;have:=hp.length_eq;grind;have hv:=S7.1 hv;rcases Qk.1 (hp.mem_iff.1 hk)with rfl|hk;grind;exact H.off k hk v hv.1;rcases Qk.1 (hp.mem_iff.1 hk)with rfl|hk;refine⟨afg (H.xK.val u d0),?_⟩;have b0:(y.ms.filter λx=>decide (x.un=t.id)).Sublist y.ms:=LF;refine⟨WA b0.length_le H.C2.len,H.C2.zA.filter _,λx hx=>H.C2.ok x (b0.mem hx),λx hx=>?_⟩;have⟨v,hv,h1,h2⟩:=H.C2.un x (b0.mem hx);have⟨i,hi⟩:=Mf hv;have o0:=pM H.xK hi;grind;exact⟨H.QA k hk,H.G9 k hk⟩;apply List.Perm.map _;unfold allM;have h1:((jq (λk:Kp=>k.un.id) y.st ⟨u,y.ms.filter λx=>decide (x.un=t.id)⟩).flatMap Kp.ms).Perm ((y.ms.filter λx=>decide (x.un=t.id))++y.st.flatMap Kp.ms):=(by grind);refine(h1.append_left _).trans ?_;rw[<-UO];exact(adf y.ms t.id).append_right _);cases F;rw[Od k2]at F⊢;by_cases k3:t.kind=3;rw[F6 k3]at F⊢;obtain⟨k,j0,rfl⟩:=Qp.1 F;have k0:=Zi j0;rw[fL]at hr;split at hr;rename_i l0 n0 hs;obtain⟨e1,rfl,rfl⟩:=Cn (mY hs).2.2.2.1;obtain⟨rfl,hp⟩:=DI hr;obtain⟨p,q,g0⟩:=List.append_of_mem k0;have e0:=H.zA;rw[g0]at e0;rw[UE,T0]at e0;have h0:(y.st.filter λk=> !decide (k.un.id=t.id))=p++q:=(by rw[g0,NO,Oh,Od be];rw[Lw.2 λz hz=>?_,Lw.2 λz hz=>?_];grind;grind);rw[h0];have b0:(p++q).Sublist y.st:=be;refine⟨WA b0.length_le H.SH,H.zA.sublist b0,λj hj v hv=>?_,λj hj=>⟨H.QA j (b0.mem hj),H.G9 j (b0.mem hj)⟩,_,List.Sublist.refl _,?_⟩;rcases vV hv with rfl|hv;grind;exact H.off j (b0.mem hj) v hv;apply List.Perm.map _;unfold allM;grind;cases hr;rw[Od k3]at F⊢;by_cases k4:t.kind=4;rw[F6 k4]at F;have⟨u,hu,F⟩:=YZ.1 F;have⟨d0,hid⟩:=fq hu;split at F;(cases F;rw[fL]at hr;split at hr;rename_i l0 n0 hs;obtain⟨-,rfl,rfl⟩:=Ea (mY hs).2.2.2.1;obtain⟨-,rfl,rfl⟩:=Cn (vR hr);refine .same H (λk hk v hv=>?_) (List.Sublist.map _ (by unfold eL;exact LF));rcases vV hv with rfl|hv;exact H.off k hk u d0;exact H.off k hk v (S7.1 hv).1;cases hr);cases F;rw[Od k4]at F;by_cases k5:t.kind=5;rw[F6 k5]at F;split at F;cases F;obtain⟨rfl,e⟩:=DH hr;exact .same H H.off be;cases F;rw[Od k5]at F;by_cases k6:t.kind=6;rw[F6 k6]at F;cases F;obtain⟨rfl,e⟩:=Fx (.inr rfl) (vR hr);exact .same H H.off be;rw[Od k6]at F;by_cases k7:t.kind=7;rw[F6 k7]at F;cases F;obtain⟨rfl,e⟩:=Fx (.inl rfl) (vR hr);exact .same H H.off be;rw[Od k7]at F;have hl:l=[]:=(by by_cases k8:t.kind=8;grind;rw[Od k8]at F;have⟨u,hu,F⟩:=YZ.1 F;have⟨v,hv,F⟩:=YZ.1 F;grind);subst hl;cases hr
 exact .same H H.off (List.Sublist.refl _)
def aeh(F:sU y)(H:eA t){y':Yd}(h:AT im suits softer y t=some y'):sU y':=by unfold AT at h;split at h;cases h;rename_i l ha;obtain⟨⟨vs,ns⟩,hr,rfl⟩:=Qp.1 h;have⟨f,g⟩:=EL F.xK F.C2 hr;have s:=OQ F H ha hr;have r:=Wq F H ha;have q:=WB F H ha;exact F.next f g s.s1 s.s2 s.s3 s.s4 s.s5 r.1 r.2.1 r.2.2 q.1 q.2.1 q.2.2
section
variable {X:aF} {m:M}
abbrev Tk.c(t:Tk)(w:Φ):ν:=[.int .i64 t.kind,.int .i64 t.un.id,.int .i64 t.un.kind,.int .i64 t.un.dE,w,.int .i64 t.un.back,.int .i64 t.un.front,.int .i64 t.id,.int .i64 t.other,.int .i64 t.side,.int .i64 t.dE]
abbrev Tk.v(t:Tk)(w:Φ):Φ:=.agg (t.c w).toArray
def Tk.dz{t:Tk}(h:one w):(t.c w).all one:=by show(true && (true && (true && (true && (one w && true)))))=true;rw[h];rfl
structure TW where
 t:Tk
 w:Φ
abbrev TW.c(x:TW):ν:=x.t.c x.w
abbrev TW.v(x:TW):Φ:=x.t.v x.w
instance:aQ TW where
 ty:=46
 sz:=11
 agg:=true
 dQ:=[]
 rep _ x cs:=cs=x.c/\one x.w=true
 pos:=ce
 one:=be
 len:=dg
 iH:=by rintro _ x _ ⟨rfl,h⟩;exact Tk.dz h
 aY:=be
def ad2:vu TE 39 TW:=⟨ai.t39,ai.t46,bv,rfl,rfl,bv,ce,rfl⟩
structure KW where
 u:Un
 w:Φ
 ms:List Mk
 mv:Φ
abbrev KW.c(x:KW):ν:=[.int .i64 x.u.id,.int .i64 x.u.kind,.int .i64 x.u.dE,x.w,.int .i64 x.u.back,.int .i64 x.u.front,x.mv]
abbrev KW.v(x:KW):Φ:=.agg (x.c).toArray
abbrev KW.k(x:KW):Kp:=⟨x.u,x.ms⟩
def KW.dz{x:KW}(F:one x.w)(H:one x.mv):(x.c).all one:=by show(true && (true && (true && (one x.w && (true && (true && (one x.mv && true)))))))=true;rw[F,H];rfl
instance:aQ KW where
 ty:=69
 sz:=7
 agg:=true
 dQ:=[]
 rep _ x cs:=cs=x.c/\one x.w=true/\one x.mv=true
 pos:=ce
 one:=be
 len:=dg
 iH:=by rintro _ x _ ⟨rfl,h1,h2⟩;exact KW.dz h1 h2
 aY:=be
def ff:qQ TE 34 69 KW:=⟨ai.t34,ai.t69,bv,⟨_,rfl⟩,rfl,bv,rfl,rfl⟩
def yP:vu TE 34 KW:=⟨ai.t34,ai.t69,bv,rfl,rfl,bv,ce,rfl⟩
abbrev Mo.c(x:Mo):ν:=[.int .i64 x.a,.int .i64 x.b,.int .i64 x.dE]
abbrev Mo.v(x:Mo):Φ:=.agg (x.c).toArray
instance:aQ Mo where
 ty:=95
 sz:=3
 agg:=true
 dQ:=[]
 rep _ x cs:=cs=x.c
 pos:=ce
 one:=be
 len:=be
 iH:=by rintro _ _ _ rfl;rfl
 aY:=be
def kf:qQ TE 36 95 Mo:=⟨ai.t36,ai.t95,bv,⟨_,rfl⟩,rfl,bv,rfl,rfl⟩
def JB:vu TE 36 Mo:=⟨ai.t36,ai.t95,bv,rfl,rfl,bv,ce,rfl⟩
def SA{α:Type}[aQ α](m:M)(l:List α)(v:Φ):Prop:=(l=[]/\v=.slice none 0 0)\/Zy m l v
def SA.aY{α:Type}[aQ α]{l:List α}{v:Φ}{m':M}(h:SA m l v)(F:∀b c t g,m.get b=.cells c t g->t∈aQ.ty α::aQ.dQ α->m'.get b=.cells c t g):SA m' l v:=by rcases h with h|⟨H,b,o,c,bc,g,h2,h3,h4,h5⟩;exact .inl h;exact .inr ⟨H.aY F,b,o,c,bc,g,h2,h3,F _ _ _ _ h4 F3,h5⟩
def SA.sl{α:Type}[aQ α]{l:List α}{v:Φ}(h:SA m l v):Sl m l v:=by rcases h with h|h;exact .inl ⟨h.2,h.1⟩;exact h.1
theorem _root_.Go.D.Ow.sln{α:Type}[aQ α]{n1:Nat}{l:List α}{v:Φ}(h:Ow n1 m l v):SA m l v:=by by_cases F:l=[];subst F;rcases h with⟨rfl,_⟩|⟨b,cs,_,h,_⟩;exact .inl ⟨rfl,rfl⟩;grind;exact .inr (h.slc F)
def SA.to{α:Type}[aQ α]{T t:TypeId}(F:qQ TE T t α){l:List α}{v:Φ}(h:SA m l v)(H:slice? TE m T U7 none (some (Ω (0:Nat))) none=some U7){i:Nat}(hi:i<=l.length):
  ∃v',slice? TE m T v none (some (Ω i)) none=some v'/\Sl m (l.take i) v':=by rcases h with⟨rfl,rfl⟩|⟨h1,b,o,c,bc,g,rfl,h3,h4,h5⟩;obtain rfl:i=0:=be;exact⟨_,H,.nil⟩;have⟨ti,te,t1,⟨e,t2⟩,t3,_⟩:=F;refine⟨_,DD t1 t2 (by rw[t3];exact aQ.pos) h4 be h3 ac,?_⟩;have:=h1.part (i:=0) (k:=i) (c':=c) ac;rwa[MP,Qt,Nb]at this
def SA.from{α:Type}[aQ α]{T t:TypeId}(H:qQ TE T t α){l:List α}{v:Φ}(h:SA m l v)(h0:slice? TE m T U7 (some (Ω (0:Nat))) none none=some U7){i:Nat}(hi:i<=l.length):
  ∃v',slice? TE m T v (some (Ω i)) none none=some v'/\(Sl m (l.drop i) v'\/(l.drop i=[]/\∃F c',v'=.slice (some F) 0 c')):=by rcases h with⟨rfl,rfl⟩|⟨h1,b,o,c,bc,g,rfl,h3,h4,h5⟩;obtain rfl:i=0:=be;exact⟨_,h0,.inl .nil⟩;have⟨ti,te,t1,⟨e,t2⟩,t3,_⟩:=H;obtain⟨F,e1,e2⟩:=oo (E:=TE) (T:=T) t1 t2 (by rw[t3];exact aQ.pos) h4 be h3 hi (o:=o);refine⟨_,e1,?_⟩;by_cases b0:i<l.length;rw[e2 ac,t3];have:=h1.part (i:=i) (k:=l.length-i) (c':=c-i) ac;rw[OO be]at this;grind;grind
theorem _root_.Go.D.Ow.HO{α:Type}[aQ α]{T:TypeId}(hT:vu TE T α)(b0:aQ.dQ α=[]){n1:Nat}{l ys:List α}{v y:Φ}(h:Ow n1 m l v)(F:l≠ [])(H:Sl m ys y\/(ys=[]/\∃a' c',y=.slice (some a') 0 c'))(hn:n1<=m.n)(hs:l.length+ys.length<=1000000):
  ∃v' m1,aR TE (m.wl m.n) .append [T,T] [v,y]=some (v',m1)/\Ow n1 m1 (l++ys) v'/\m.n<=m1.n/\n1<=m1.low/\(∀c,c<n1->m1.get c=m.get c)/\((∃a n k,v=.slice (some a) n k/\∀c,c<m.n->c≠a.block->m1.get c=m.get c)):=by obtain⟨b,rfl,_⟩:=pI h F;rcases H with H|⟨rfl,a',c',rfl⟩;obtain⟨v',m1,e1,ho,hf,hl,_⟩:=h.append hT be H hn ac;obtain⟨ya,yc,rfl⟩:=H.form;exact⟨v',m1,e1,ho,hf.n,hl,λc hc=>hf.get c hc,_,_,_,rfl,λc hc F=>ik e1 hc λad n k e=>be⟩;refine⟨_,m.wl m.n,append_nil hT (ID _) be (.inl ⟨_,_,rfl⟩),?_,ID _,hn,λ_ _=>rfl,_,_,_,rfl,λ_ _ _=>rfl⟩;rw[Y4];exact h.an Ext.refl.wl
structure F1(m:M)(l:List KW)(v:Φ):Prop where
 sl:Sl m l v
 cap:SA m l v
 sh:∀x∈l,Sl m x.u.shape x.w
 mv:∀x∈l,Sl m x.ms x.mv
 ln:∀x∈l,x.u.shape.length < 1000000
 lm:∀x∈l,x.ms.length < 1000000
def F1.aY{l:List KW}{v:Φ}(h:F1 m l v)(hk:∀c cs t g,m.get c=.cells cs t g->(t=69\/t=85\/t=71)->m'.get c=.cells cs t g):F1 m' l v:=
 ⟨h.sl.aY λc cs t g F H=>hk c cs t g F (.inl (by simpa[aQ.ty,aQ.dQ]using H)),h.cap.aY λc cs t g F H=>hk c cs t g F (.inl (by simpa[aQ.ty,aQ.dQ]using H)),λx hx=>(h.sh x hx).aY λc cs t g F H=>hk c cs t g F (.inr (.inl (by simpa[aQ.ty,aQ.dQ]using H))),λx hx=>(h.mv x hx).aY λc cs t g F H=>hk c cs t g F (.inr (.inr (by simpa[aQ.ty,aQ.dQ]using H))),h.ln,h.lm⟩
def F1.an{l:List KW}{v:Φ}(h:F1 m l v)(F:Ext m m'):F1 m' l v:=h.aY λ_ _ _ _ H _=>F.cells H
def F1.nil:F1 m [] U7:=⟨.nil,.inl ⟨rfl,rfl⟩,λx F=>(by cases F),λx F=>(by cases F),λx F=>(by cases F),λx F=>(by cases F)⟩
abbrev xJ(l:List KW):List Kp:=l.map KW.k
def lQ{l:List KW}:(xJ l).length=l.length:=OG _
structure sS(m:M)(y:Yd)(r r2 st rc mo:Φ):Prop where
 xK:∃l,bI l=y.us/\cC m l r
 ms:Sl m y.ms r2
 st:∃k,xJ k=y.st/\F1 m k st
 rc:Sl m y.rc rc
 mo:Sl m y.mo mo
abbrev yc(r r2 st rc mo:Φ):ν:=[r,r2,st,rc,mo]
abbrev yv(r r2 st rc mo:Φ):Φ:=.agg (yc r r2 st rc mo).toArray
def sS.aY{y:Yd}(h:sS m y r r2 st rc mo)(hk:∀c cs t g,m.get c=.cells cs t g->(t=44\/t=85\/t=71\/t=69\/t=52\/t=95)->m'.get c=.cells cs t g):sS m' y r r2 st rc mo:=by have⟨⟨l,h1,h2⟩,h3,⟨k,h4,h5⟩,h6,h7⟩:=h;refine⟨⟨l,h1,h2.aY λc cs t g F H=>hk c cs t g F be⟩,h3.aY λc cs t g F H=>hk c cs t g F ?_,⟨k,h4,h5.aY λc cs t g F H=>hk c cs t g F be⟩,h6.aY λc cs t g F H=>hk c cs t g F ?_,h7.aY λc cs t g F H=>hk c cs t g F ?_⟩ <;>(simp only[aQ.ty,aQ.dQ,Qk,Uf,or_false]at H;subst H;simp)
def sS.an{y:Yd}(h:sS m y r r2 st rc mo)(F:Ext m m'):sS m' y r r2 st rc mo:=h.aY λ_ _ _ _ H _=>F.cells H
def sS.iH{y:Yd}(h:sS m y r r2 st rc mo):(yc r r2 st rc mo).all one:=by have⟨⟨l,_,F⟩,H,⟨k,_,h5⟩,h6,h7⟩:=h;show(one r && (one r2 && (one st && (one rc && (one mo && true)))))=true;rw[F.sl.one,H.one,h5.sl.one,h6.one,h7.one];rfl
variable{b:Nat}{t:Tk}{w:Φ}{g:Option Nat}
def rD(h:m.get b=.cells (t.c w) 46 g):aC TE m 44 (Ψ b (0+1))=some (t.un.v w):=by rw[qw,aI (n:=6) h dg];rfl
def kQ(h:m.get b=.cells (t.c w) 46 g):aC TE m 46 (Ψ b 0)=some (t.v w):=by rw[adb,aI (n:=11) h dg];rfl
def kR(h:m.get b=.cells (t.c w) 46 g):
  aC TE m 3 (Ψ b (0+0))=some (Ω t.kind)/\aC TE m 3 (Ψ b (0+7))=some (Ω t.id)/\aC TE m 3 (Ψ b (0+8))=some (Ω t.other)/\
  aC TE m 3 (Ψ b (0+9))=some (Ω t.side)/\aC TE m 3 (Ψ b (0+10))=some (Ω t.dE):=by refine⟨?_,?_,?_,?_,?_⟩ <;>(rw[bS,aH h];rfl)
def vI(h:m.get b=.cells (t.c w) 46 g):
  aC TE m 3 (Ψ b (0+1+0))=some (Ω t.un.id)/\aC TE m 3 (Ψ b (0+1+1))=some (Ω t.un.kind)/\aC TE m 3 (Ψ b (0+1+2))=some (Ω t.un.dE)/\
  aC TE m 42 (Ψ b (0+1+3))=some w/\aC TE m 3 (Ψ b (0+1+4))=some (Ω t.un.back)/\aC TE m 3 (Ψ b (0+1+5))=some (Ω t.un.front):=by refine⟨?_,?_,?_,?_,?_,?_⟩;rw[bS,aH h];rfl;rw[bS,aH h];rfl;rw[bS,aH h];rfl;rw[qy,aH h];rfl;rw[bS,aH h];rfl;rw[bS,aH h];rfl
variable{r r2 st rc mo:Φ}
def eS(h:m.get b=.cells (yc r r2 st rc mo) 38 g):
  aC TE m 33 (Ψ b (0+0))=some (.agg #[r,r2])/\aC TE m 34 (Ψ b (0+2))=some st/\aC TE m 35 (Ψ b (0+3))=some rc/\
  aC TE m 36 (Ψ b (0+4))=some mo/\aC TE m 38 (Ψ b 0)=some (yv r r2 st rc mo):=by refine⟨?_,?_,?_,?_,?_⟩;rw[oC,aI (n:=2) h be];rfl;rw[TZ,aH h];rfl;rw[E9,aH h];rfl;rw[ad8,aH h];rfl;rw[TX,aI (n:=5) h be];rfl
def yR(h:m.get b=.cells (yc r r2 st rc mo) 38 g):
  aC TE m 30 (Ψ b (0+0+0))=some (.agg #[r])/\aC TE m 28 (Ψ b (0+0+0+0))=some r/\aC TE m 31 (Ψ b (0+0+1))=some r2:=by
 refine⟨?_,?_,?_⟩;rw[cV,aI (n:=1) h be];rfl;rw[dU,aH h];rfl;rw[kn,aH h];rfl
deriving instance DecidableEq for Un
def L1(hX:cp X){a b:Un}{va vb:Φ}(ha:Sl m a.shape va)(hb:Sl m b.shape vb)(la:a.shape.length<4611686018427387904):
  C X (.func 51) [a.v va,b.v vb] m m.n (.bool (decide (a=b))) m:=by apply Cl.fl hX (MZ func51);rw[F51];dsimp only[aG];refine ah λm1 q0 n0 r0=>?_;refine ah λm2 s0 i0 u0=>?_;simp only[bd]at n0 i0;have j0:Ext m m2:=⟨ac,be⟩;have g1:m2.get m.n=.cells (a.c va) 44 none:=be;have g2:m2.get m1.n=.cells (b.c vb) 44 none:=i0;have⟨a0,a1,a2,a3,a4,a5⟩:=kN g1;have⟨b0,b1,b2,b3,b4,b5⟩:=kN g2;have e0:=ha.an j0;have k0:=hb.an j0;unfold ptrTo;simp only[aW,dk,cz,bA,dj,di,ae];have fin:∀{lo:Nat} {c:Bool},m.n<=lo->(c↔a=b)->aM [Value.bool c]=Value.bool (decide (a=b))/\m.n<=lo:=λ{lo c} H e=>⟨by have:c=decide (a=b):=be;rw[this];rfl,H⟩;refine aX (λvs mm lo=>m2=mm/\m.n<=lo/\∃bad:Bool,vs=[.bool bad]/\(bad->a≠b)/\(bad=false->a.id=b.id/\a.kind=b.kind/\a.dE=b.dE/\a.back=b.back/\a.front=b.front/\a.shape.length=b.shape.length)) (λR hR=>?_) ?_;have bad:∀(h:a≠b),∃bad:Bool,[Value.bool true]=[.bool bad]/\(bad->a≠b)/\(bad=false->a.id=b.id/\a.kind=b.kind/\a.dE=b.dE/\a.back=b.back/\a.front=b.front/\a.shape.length=b.shape.length):=λh=>⟨true,rfl,λ_=>h,λe=>by cases e⟩;rw[a0,ae,b0,ae,bY,ae,ag];refine af (λc=>hR _ _ _ ⟨rfl,ID _,bad λe=>?_⟩) (λc0=>?_);rw[e]at c;simp at c;rw[a1,ae,b1,ae,bY,ae,ag];refine af (λc=>hR _ _ _ ⟨rfl,ID _,bad λe=>?_⟩) (λc1=>?_);rw[e]at c;simp at c;rw[a2,ae,b2,ae,bY,ae,ag];refine af (λc=>hR _ _ _ ⟨rfl,ID _,bad λe=>?_⟩) (λc2=>?_);rw[e]at c;simp at c;rw[a4,ae,b4,ae,bY,ae,ag];refine af (λc=>hR _ _ _ ⟨rfl,ID _,bad λe=>?_⟩) (λc4=>?_);rw[e]at c;simp at c;rw[a5,ae,b5,ae,bY,ae,ag];refine af (λc=>hR _ _ _ ⟨rfl,ID _,bad λe=>?_⟩) (λc5=>?_);rw[e]at c;simp at c;rw[a3,ae,e0.len cN,ak,b3,ae,k0.len cN,ak,bY,ae];refine hR _ _ _ ⟨rfl,ID _,_,rfl,λc e=>?_,λc=>⟨be,be,be,be,be,?_⟩⟩;rw[e]at c;simp at c;have:(a.shape.length:Int)=(b.shape.length:Int):=be;omega;rintro _ _ lo ⟨rfl,H,bad,rfl,h1,h2⟩;rw[av,ag];refine af (λc=>fin H ⟨λe=>(by cases e),λe=>absurd e (h1 c)⟩) (λc=>?_);have⟨f0,f1,f2,f4,f5,hlen⟩:=h2 c;refine Lp.intro (γ:=Nat) (λi=>a.shape.length-i) (λi vs mm lo=>vs=[IA,Ω i]/\i<=a.shape.length/\m2=mm/\m.n<=lo/\∀j x y,j<i->a.shape[j]?=some x->b.shape[j]?=some y->x=y) 0 ⟨rfl,PS _,rfl,H,λj x y hj=>ac⟩ ?_;rintro i vs _ y0 ⟨rfl,hi,rfl,F,d0⟩;rw[av,av,a3,ae,e0.len cN,ak,aK,ae,ag];refine af (λl0=>?_) (λA0=>?_);have l0:i<a.shape.length:=be;obtain⟨x,hx⟩:∃x,a.shape[i]?=some x:=⟨_,Iy l0⟩;obtain⟨y,hy⟩:∃y,b.shape[i]?=some y:=⟨_,vA⟩;have⟨p,e1,e2⟩:=e0.fJ (k:=.i64) hx;have⟨q,e3,e4⟩:=k0.fJ (k:=.i64) hy;rw[ae,e1,ae,e2,ae,b3,ae,e3,ae,e4,ae,P6,ae,ag];refine af (λo0=>fin F ⟨λe=>(by cases e),λe=>?_⟩) (λhe=>?_);rw[e,hy]at hx;cases hx;simp at o0;rw[aL,ae,wrap64];refine⟨i+1,ac,rfl,ac,rfl,F,λj x' y' hj g0 h0=>?_⟩;by_cases p0:j<i;exact d0 j x' y' p0 g0 h0;have:j=i:=ac;subst this;rw[hx]at g0;rw[hy]at h0;cases g0;cases h0;simpa using he;have B0:i=a.shape.length:=(by grind);have hs:a.shape=b.shape:=IW hlen λj x y hj=>d0 j x y ac;refine fin F ⟨λ_=>?_,λ_=>rfl⟩;rcases a with⟨_,_,_,_,_,_⟩;rcases b with⟨_,_,_,_,_,_⟩;simp only[Un.mk.injEq];exact⟨f0,f1,f2,hs,f4,f5⟩
end
deriving instance DecidableEq for Tk
abbrev Un.z:Un:=⟨0,0,0,[],0,0⟩
def iW(t:Tk):List Int:=
 if t.kind=1 then [t.un.id,t.un.kind,t.un.dE,t.un.back,t.un.front]++t.un.shape.flatMap λp=> [p.x,p.y]
 else if t.kind=2\/t.kind=3\/t.kind=6\/t.kind=7 then [t.id]
 else if t.kind=4 then [t.id,t.dE]
 else if t.kind=5\/t.kind=8 then [t.id,t.side]
 else if t.kind=9 then [t.id,t.other,t.dE]
 else []
def jE:List Int->List Pl
 |x::y::r=>⟨x,y⟩::jE r
 |_=> []
theorem zh:∀l:List Pl,jE (l.flatMap λp=> [p.x,p.y])=l
 |[]=>rfl
 |p::r=>by show(⟨p.x,p.y⟩:Pl)::jE (r.flatMap λp=> [p.x,p.y])=p::r;rw[zh r]
theorem wP:∀l:List Pl,(l.flatMap λp=> [p.x,p.y]).length=2*l.length
 |[]=>rfl
 |p::r=>by show(r.flatMap λp=> [p.x,p.y]).length+1+1=2*(r.length+1);rw[wP r];omega
def BC(k:Int)(l:List Int):Option Tk:=
 if k=1 then(if 11<=l.length/\l.length<=21/\l.length%2=1 then some ⟨1,⟨l.getD 0 0,l.getD 1 0,l.getD 2 0,jE (l.drop 5),l.getD 3 0,l.getD 4 0⟩,0,0,0,0⟩else none)
 else if k=4 then(if l.length=2 then some ⟨k,.z,l.getD 0 0,0,0,l.getD 1 0⟩else none)
 else if k=5\/k=8 then(if l.length=2 then some ⟨k,.z,l.getD 0 0,0,l.getD 1 0,0⟩else none)
 else if k=9 then(if l.length=3 then some ⟨k,.z,l.getD 0 0,l.getD 1 0,0,l.getD 2 0⟩else none)
 else(if l.length=1 then some ⟨k,.z,l.getD 0 0,0,0,0⟩else none)
def wN(t:Tk):Bool:=dt t.kind 1 9 && decide (t.un.shape.length<=8) && decide (BC t.kind (iW t)=some t) &&
 (if t.kind=1 then kO t.un && dt t.un.kind 6 8 else dt t.id 0 99 && dt t.other 0 99 && dt t.side (-2) 7 && dt t.dE 0 7 && (!decide (t.kind=9) ||decide (t.id < t.other)))
def oJ{u:Un}:(ez u && decide (u.id=0))=decide (u=.z):=by have⟨a,b,c,s,d,e⟩:=u;unfold ez;grind
def QO(t:Tk):wN t=eA t:=by
 have⟨k,u,id,b0,side,dE⟩:=t;by_cases k1:k=1
 ·subst k1;unfold wN eA iW BC;simp only[Ot,GC,List.nil_append,List.getD_cons_zero,List.getD_cons_succ,Hn,MP,zh,S6,wP];have⟨a,b,c,s,d,e⟩:=u;rw[Po];by_cases F:kO ⟨a,b,c,s,d,e⟩=true;have H:=kc F;have d0:3<=s.length/\s.length<=8:=dL (oh F);have H:s.length<=8:=H;have hs:(⟨a,b,c,s,d,e⟩:Un).shape.length=s.length:=rfl;rw[F6 ⟨ac,ac,ac⟩];simp only[De,FG,T7,Tk.mk.injEq,F,true_and,and_true,dt];omega;grind
 all_goals
  by_cases k2:k=2\/k=3\/k=6\/k=7
  ·rcases k2 with rfl|rfl|rfl|rfl <;>
   ·unfold wN eA iW BC;simp only[oJ];simp[dt];grind
  by_cases k4:k=4
  ·subst k4;unfold wN eA iW BC;simp only[oJ];simp[dt];grind
  by_cases k5:k=5\/k=8
  ·rcases k5 with rfl|rfl <;>
   ·unfold wN eA iW BC;simp only[oJ];simp[dt];grind
  by_cases k9:k=9
  ·subst k9;unfold wN eA iW BC;simp only[oJ];simp[dt];grind
  unfold wN eA;have:dt k 1 9=false:=by
   unfold dt;grind
  grind
section
set_option maxRecDepth 100000
set_option maxHeartbeats 0
variable{W:Words}{x0 x1 x2:Φ}{m:M}{R:ν->M->Nat->Prop}
def F151:=cL (P:=fP TE W f151 [x0,x1,x2] m R)
def F153:=cL (P:=fP TE W f153 [x0] m R)
def F152:=cL (P:=fP TE W f152 [x0,x1] m R)
def F154:=cL (P:=fP TE W f154 [x0,x1] m R)
def F111:=cL (P:=fP TE W f111 [x0] m R)
def F69:=cL (P:=fP TE W f69 [x0,x1] m R)
def F155:=cL (P:=fP TE W f155 [x0,x1] m R)
def F71:=cL (P:=fP TE W f71 [x0,x1] m R)
def F110:=cL (P:=fP TE W f110 [x0] m R)
def F198:=cL (P:=fP TE W f198 [x0] m R)
def F156:=cL (P:=fP TE W f156 [x0,x1] m R)
def F158:=cL (P:=fP TE W f158 [x0,x1] m R)
def F157:=cL (P:=fP TE W f157 [x0,x1,x2] m R)
def F70:=cL (P:=fP TE W f70 [x0,x1] m R)
end
section
variable {X:aF} {m:M}
section
variable {α:Type} [aQ α] {T:TypeId}
def Ap(n1:Nat)(m:M)(l:List α)(v:Φ):Prop:=Ow n1 m l v\/∃b cs F,v=.slice (some ⟨b,0,none⟩) l.length l.length/\m.get b=.cells cs F none/\Sl m l v
def Ap.sl{n1:Nat}{l:List α}{v:Φ}(h:Ap n1 m l v):Sl m l v:=by rcases h with h|⟨_,_,_,_,_,h⟩;exact h.sl;exact h
def Ap.an{n1:Nat}{l:List α}{v:Φ}{m':M}(h:Ap n1 m l v)(F:Ext m m'):Ap n1 m' l v:=by rcases h with h|⟨b,cs,H,h1,h2,h3⟩;exact .inl (h.an F);exact .inr ⟨b,cs,H,h1,F.cells h2,h3.an F⟩
def Ap.append(hT:vu TE T α)(b0:aQ.dQ α=[]){n1:Nat}{l ys:List α}{v y:Φ}(h:Ap n1 m l v)(hy:Sl m ys y)(F:ys≠ [])(hn:n1<=m.n)(hs:l.length+ys.length<=1000000):
  ∃v' m1,aR TE (m.wl m.n) .append [T,T] [v,y]=some (v',m1)/\Ow n1 m1 (l++ys) v'/\m.n<=m1.n/\n1<=m1.low/\∀c,c<n1->m1.get c=m.get c:=by have hlen:=Lj.2 F;rcases h with h|⟨b,cs,te,rfl,h2,h3⟩;obtain⟨v',m1,H,ho,hf,hl,_⟩:=h.append hT be hy hn ac;exact⟨v',m1,H,ho,hf.n,hl,λc hc=>hf.get c hc⟩;obtain⟨v',m1,H,ho,hx,hl⟩:=HP hT h2 (.inl rfl) h3 hy ac ac;exact⟨v',m1,H,ho.mono hn,hx.n,ac,λc hc=>hx.get c ac⟩
end
def tn{l:List Int}{b:Nat}(h:m.get b=.cells (l.map (.int .i64)) 3 g):Sl m l (RZ b 0 l.length l.length):=
 .inr ⟨b,0,l.length,_,g,rfl,h,by rw[OG];show 0+l.length*1<=_;omega,λi x hi=>by show((l.map (Value.int .i64)).drop (0+i*1)).take 1=[Ω x];have F:=(Zv.1 hi).1;rw[Zp,Lq,QJ be,Dh,T9,List.getElem_map,(Zv.1 hi).2]⟩
def O9{α:Type}[aQ α]{l:List α}{a:Addr}{n k:Nat}{m':M}{lo:Nat}{P:Prop}(h:Sl m' l (.slice (some a) n k))(F:m.n<=lo)(H:Ext m m'):
  P\/((aZ (aM [Value.slice (some a) n k])=false\/lo<m.n)/\(min m.n lo=m.n/\Ext m m'/\Sl m' l (.slice (some a) n k))):=.inr ⟨.inl rfl,ac,H,h⟩
def kB(hX:cp X)(n lo hi:Int):C X (.func 151) [Ω n,Ω lo,Ω hi] m m.n (.bool (dt n lo hi)) m:=by apply Cl.fG hX (MZ func151);rw[F151];dsimp only[aG];refine aX (λvs m2 F=>vs=[.bool (dt n lo hi)]/\m.n<=F) (λR H=>?_) ?_;simp only[cK,cW,ae,ag];refine af (λh=>H _ _ _ ⟨by simp[dt,h],ID _⟩) (λh=>H _ _ _ ⟨by simp[dt,h],ID _⟩);rintro _ m2 F ⟨rfl,hl⟩;rw[av];exact⟨rfl,hl⟩
def Qq:aO TE m 81 1 [(0,.int .i64 a)]=some (.slice (some ⟨m.n,0,none⟩) 1 1,m.push (.cells ([a].map (.int .i64)) 3 none)):=bv
def rZ:aO TE m 81 2 [(0,.int .i64 a),(1,.int .i64 b)]=some (.slice (some ⟨m.n,0,none⟩) 2 2,m.push (.cells ([a,b].map (.int .i64)) 3 none)):=bv
def G7{c:Int}:aO TE m 81 3 [(0,.int .i64 a),(1,.int .i64 b),(2,.int .i64 c)]=some (.slice (some ⟨m.n,0,none⟩) 3 3,m.push (.cells ([a,b,c].map (.int .i64)) 3 none)):=bv
def abU{c d e:Int}:aO TE m 81 5 [(0,.int .i64 a),(1,.int .i64 b),(2,.int .i64 c),(3,.int .i64 d),(4,.int .i64 e)]=some (.slice (some ⟨m.n,0,none⟩) 5 5,m.push (.cells ([a,b,c,d,e].map (.int .i64)) 3 none)):=bv
theorem EW(hX:cp X){t:Tk}{w:Φ}(hw:Sl m t.un.shape w)(hl:t.un.shape.length<100000):
  ∃r m',C X (.func 153) [t.v w] m m.n r m'/\Ext m m'/\Sl m' (iW t) r:=by
 apply Cl.H0 hX (MZ func153);rw[F153];dsimp only[aG];refine ah λm1 c1 B0 O0=>?_;have g1:m1.get m.n=.cells (t.c w) 46 none:=B0;have h0:Ext m m1:=⟨ac,O0⟩;have⟨tk,tid,LM,p0,q0⟩:=kR g1;obtain⟨u0,u1,u2, -,u4,u5⟩:=vI g1;unfold ptrTo;simp only[dC,ed,cU,cT,dh,cS,aW,dk,cz,bA,dj,di,ae];simp only[tk,u0,u1,u2,u4,u5,ae,aJ,ag];refine af (λc=>?_) (λc=>?_)
 ·have k1:t.kind=1:=R7 c;rw[abU,ak];have e0:iW t=[t.un.id,t.un.kind,t.un.dE,t.un.back,t.un.front]++t.un.shape.flatMap λp=> [p.x,p.y]:=(by unfold iW;rw[F6 k1]);obtain⟨m2,H⟩:∃x,x=m1.push (.cells ([t.un.id,t.un.kind,t.un.dE,t.un.back,t.un.front].map (.int .i64)) 3 none):=⟨_,rfl⟩;rw[<-H];have d1:m2.n=m1.n+1:=(by rw[H];exact M.lg);have i0:m2.get m1.n=.cells ([t.un.id,t.un.kind,t.un.dE,t.un.back,t.un.front].map (.int .i64)) 3 none:=(by rw[H];exact M.aU);have P0:Ext m1 m2:=H ▸ Ext.refl.push;have h1:Ap m1.n m2 [t.un.id,t.un.kind,t.un.dE,t.un.back,t.un.front] (RZ m1.n 0 5 5):=.inr ⟨m1.n,_,_,rfl,i0,tn i0⟩;clear H i0;refine Lp.intro (γ:=Nat) (λi=>t.un.shape.length-i) (λi vs F lo=>∃r,vs=[r,Ω i]/\i<=t.un.shape.length/\Ext m1 F/\m.n<=lo/\Ap m1.n F ([t.un.id,t.un.kind,t.un.dE,t.un.back,t.un.front]++(t.un.shape.take i).flatMap λp=> [p.x,p.y]) r) 0 ⟨_,rfl,PS _,P0,ac,be⟩ ?_;rintro i vs F lo ⟨r,rfl,hi,d0,j0,ho⟩;have nm:=d0.n;have r0:=(hw.an h0).an d0;obtain⟨-, -, -,v3, -, -⟩:=vI (d0.cells g1);rw[av,av,v3,ae,r0.len cN,ak,aK,ae,ag];refine af (λs0=>?_) (λQ0=>?_);have s0:i<t.un.shape.length:=be;obtain⟨p,hp⟩:∃p,t.un.shape[i]?=some p:=⟨_,Iy s0⟩;have⟨b0,o0,bc,g0,cs,e1,y0,k0,_,A0⟩:=r0.jr cN (k:=.i64) hp;have k0:cs=p.c:=k0;subst k0;have fl:=wP (t.un.shape.take i);rw[Zu]at fl;have lx:aC TE F 3 (Ψ b0 (o0+0))=some (Ω p.x):=(by rw[bS,aH y0,A0 0 ce];rfl);have ly:aC TE F 3 (Ψ b0 (o0+1))=some (Ω p.y):=(by rw[bS,aH y0,A0 1 ce];rfl);rw[ae,e1,ae,cR,ae,lx,ae,ae,e1,ae,dZ,ae,ly,ae,rZ,ak];obtain⟨m3,l0⟩:∃x,x=F.push (.cells ([p.x,p.y].map (.int .i64)) 3 none):=⟨_,rfl⟩;rw[<-l0];have n0:Ext F m3:=l0 ▸ Ext.refl.push;have a1:m3.get F.n=.cells ([p.x,p.y].map (.int .i64)) 3 none:=(by rw[l0];exact M.aU);have n3:=n0.n;obtain⟨r',m5,q1,q2,q3,q4,q5⟩:=(ho.an n0).append U8 rfl (tn a1) co ac be;have q1:aR TE (M.wl m3 (M.n m3)) .append [81,81] [r,RZ F.n 0 2 2]=some (r',m5):=q1;rw[q1,ak,aL,ae,wrap64];refine⟨i+1,ac,r',rfl,ac,⟨ac,λc hc=>by rw[q5 c hc,n0.get c ac,d0.get c hc]⟩,ac,.inl ?_⟩;rw[QM,hp,Mz,<-UO];exact q2;have b1:i=t.un.shape.length:=(by have:¬(i:Int)< (t.un.shape.length:Int):=QB Q0;omega);subst b1;rw[Jg]at ho;have hs:=ho.sl;rw[<-e0]at hs;obtain⟨a,k,rfl⟩:=hs.form;cases a with|none=>(rcases hs with⟨h,_⟩|⟨b,o,c,bc,g,h,_⟩;rw[e0]at h;simp at h;cases h)|some a=>exact O9 hs j0 (h0.trans d0)
 have k1:t.kind≠1:=QB c
 have fin:∀{l:List Int} {k:Nat},iW t=l->l.length=k->∀{m2:M},m2=m1.push (.cells (l.map (.int .i64)) 3 none)->∀{lo:Nat},m.n<=lo->∀{Q:Prop},Q->
   (aZ (aM [Value.slice (some ⟨m1.n,0,none⟩) k k])/\m.n<=lo/\(Q/\Ext m m/\Sl m (iW t) (RZ m1.n 0 k k)))\/((aZ (aM [Value.slice (some ⟨m1.n,0,none⟩) k k])=false\/lo<m.n)/\(min m.n lo=m.n/\Ext m m2/\Sl m2 (iW t) (RZ m1.n 0 k k))):=by
  rintro l k e rfl m2 rfl lo j0 Q -;rw[e];exact O9 (tn M.aU) j0 (h0.trans Ext.refl.push)
 refine aX (λvs F lo=>vs=[.bool (decide (t.kind=2\/t.kind=3\/t.kind=6\/t.kind=7))]/\m1=F/\lo=m.n) (λQ hQ=>?_) ?_
 ·refine af (λc=>hQ _ _ _ ⟨be,rfl,rfl⟩) (λc2=>?_);refine af (λc=>hQ _ _ _ ⟨be,rfl,rfl⟩) (λc3=>?_);refine af (λc=>hQ _ _ _ ⟨be,rfl,rfl⟩) (λc6=>hQ _ _ _ ⟨?_,rfl,rfl⟩);have c2:=QB c2;have c3:=QB c3;have c6:=QB c6;congr 2;rw[ge];omega
 rintro _ _ _ ⟨rfl,rfl,rfl⟩;simp only[tid,LM,p0,q0,ae];rw[av,ag];refine af (λc=>?_) (λc=>?_);·rw[Qq,ak];exact fin (l:=[t.id]) (by unfold iW;rw[Od k1,F6 (R7 c)]) rfl rfl (ID _) be
 have c2:=QB c;refine af (λc=>?_) (λc=>?_);·rw[rZ,ak];exact fin (l:=[t.id,t.dE]) (by unfold iW;rw[Od k1,Od c2,F6 (R7 c)]) rfl rfl (ID _) be
 have c4:=QB c;refine aX (λvs F lo=>vs=[.bool (decide (t.kind=5\/t.kind=8))]/\m1=F/\lo=m.n) (λQ hQ=>?_) ?_
 ·refine af (λc=>hQ _ _ _ ⟨be,rfl,rfl⟩) (λc5=>hQ _ _ _ ⟨?_,rfl,rfl⟩);have c5:=QB c5;congr 2;rw[ge];omega
 rintro _ _ _ ⟨rfl,rfl,rfl⟩;simp only[tid,LM,p0,q0,ae];rw[av,ag];refine af (λc=>?_) (λc=>?_);·rw[rZ,ak];exact fin (l:=[t.id,t.side]) (by unfold iW;rw[Od k1,Od c2,Od c4,F6 (R7 c)]) rfl rfl (ID _) be
 have c5:=QB c;refine af (λc=>?_) (λc=>?_);·rw[G7,ak];exact fin (l:=[t.id,t.other,t.dE]) (by unfold iW;rw[Od k1,Od c2,Od c4,Od c5,F6 (R7 c)]) rfl rfl (ID _) be
 have c9:=QB c;have e:iW t=[]:=(by unfold iW;rw[Od k1,Od c2,Od c4,Od c5,Od c9]);rw[e];exact .inl ⟨rfl,ID _,be,.refl,.nil⟩
abbrev Tk.z:Tk:=⟨0,.z,0,0,0,0⟩
def JE(o:Option Tk)(m':M)(F:Φ):Prop:=match o with
 |some t=>∃w,F=.tuple #[t.v w,.bool true]/\Sl m' t.un.shape w
 |none=>F=.tuple #[Tk.z.v (.slice none 0 0),.bool false]
def ael{t:Tk}{b:Φ}(h:aZ (.tuple #[t.v w,b])):Go.D.bN w:=by have F:((true && (true && (true && (true && (Go.D.bN w && (true && (true && (true && (true && (true && (true && true))))))))))) && (eo b && true)):=h;grind
def JE.flat{o:Option Tk}{v b:Φ}(h:JE o m' (.tuple #[v,b]))(F:aZ (.tuple #[v,b]))(m:M):JE o m (.tuple #[v,b]):=by unfold JE at h⊢;split at h;have⟨w,e,H⟩:=h;cases e;exact⟨w,rfl,(nG H (ael F) m).2⟩;exact h
def aen{k:Int}:bz TE 46 [(0,Ω k)]=some (Tk.v ⟨k,.z,0,0,0,0⟩ U7):=vi rfl
def aer:bz TE 46 []=some (Tk.z.v U7):=Nj
variable{b:Nat}{t:Tk}{w:Φ}{g:Option Nat}{P:M->Nat->Prop}
def DB{j:Nat}{v:Int}(h:m.get b=.cells (t.c w) 46 g)(hj:7<=j)(F:j<=10)
  (H:∀m1,m1.n=m.n->m1.get b=.cells ((t.c w).set j (Ω v)) 46 g->(∀c,c≠b->m1.get c=m.get c)->P m1 b):
  dn (bw TE m 3 (Ψ b (0+j)) (Ω v)) P:=by refine bW zG h rfl (by show 0+j+1<=11;omega) rfl λm1 hn hg hk=>H m1 hn ?_ hk;rw[hg];congr 1;have:(cells (Value.int .i64 v))=[Ω v]:=rfl;rw[this,Zp];exact pz (by show j<11;omega)
def OU{u:Un}(h:m.get b=.cells (t.c w) 46 g)(F:one w')
  (H:∀m1,m1.n=m.n->m1.get b=.cells (Tk.c {t with un:=u} w') 46 g->(∀c,c≠b->m1.get c=m.get c)->P m1 b):
  dn (bw TE m 44 (Ψ b (0+1)) (u.v w')) P:=
 bW dV h rfl (by show 0+1+6<=11;decide) (Un.dz F) λm1 hn hg hk=>H m1 hn hg hk
def OV(h:m.get b=.cells (t.c w) 46 g)(h1:one w')(F:cells w'=[w'])
  (H:∀m1,m1.n=m.n->m1.get b=.cells (t.c w') 46 g->(∀c,c≠b->m1.get c=m.get c)->P m1 b):
  dn (bw TE m 42 (Ψ b (0+1+3)) w') P:=
 bW ua h (by rw[F];rfl) be be λm1 hn hg hk=>H m1 hn dg hk
theorem Bu:∀(l:List Int) (k:Nat) (x y:Int),l[2*k]?=some x->l[2*k+1]?=some y->(jE l)[k]?=some ⟨x,y⟩
 |[],k,x,y,h,_=>by simp at h
 |[a],k,x,y,h,F=>by(cases k with|zero=>simp at F|succ k=>simp[show 2*(k+1)=2*k+1+1 by omega]at h)
 |a::b::r,0,x,y,h,F=>by cases h;cases F;rfl
 |a::b::r,k+1,x,y,h,F=>by rw[show 2*(k+1)=2*k+1+1 by omega]at h F;simp only[S5]at h F;show(jE r)[k]?=_;exact Bu r k x y h F
theorem qk:∀(l:List Int),(jE l).length=l.length/2
 |[]=>rfl
 |[a]=>by simp[jE]
 |a::b::r=>by show(jE r).length+1=(r.length+1+1)/2;rw[qk r];omega
def aeI(hX:cp X){k:Int}{l:List Int}{v:Φ}(hv:Sl m l v)(hl:l.length<1000000):
  ∃rv m',C X (.func 152) [Ω k,v] m m.n rv m'/\Ext m m'/\JE (BC k l) m' rv:=by
 apply Cl.H0 hX (MZ func152);rw[F152];dsimp only[aG];refine ah λm1 v2 B1 G1=>?_;rw[aen,ae];refine ah λm3 y2 P0 H1=>?_;refine aj vE P0 rfl rfl rfl λm4 z2 Q0 K1=>?_;have gz:m4.get m.n=.cells (Tk.z.c U7) 46 none:=be;have ga:m4.get m1.n=.cells (Tk.c ⟨k,.z,0,0,0,0⟩ U7) 46 none:=Q0;have b0:Ext m m4:=⟨ac,be⟩;obtain⟨A,hA⟩:∃A,A=m1.n:=⟨_,rfl⟩;rw[<-hA]at ga⊢;have O1:m.n<A:=ac;have A2:A<m4.n:=ac;clear B1 G1 P0 H1 Q0 K1;unfold ptrTo;simp only[ed,cU,cT,dh,cS,bA,ae,aJ,ag]
 have fin:∀{mm:M} {t:Tk} {w:Φ} {lo:Nat} {Q:Prop},Q->mm.get A=.cells (t.c w) 46 none->mm.get m.n=.cells (Tk.z.c U7) 46 none->Sl mm t.un.shape w->BC k l=some t->m.n<=mm.n->(∀c,c<m.n->mm.get c=m.get c)->m.n<=lo->
   aS (aC TE mm 46 (Ψ A 0)) λv=>dn (bw TE mm 46 (Ψ m.n 0) v) λm' b=>aS (aC TE m' 46 (Ψ m.n 0)) λv'=>
    (aZ (aM [v',HT])/\m.n<=min lo b/\(Q/\Ext m m/\JE (BC k l) m (aM [v',HT])))\/((aZ (aM [v',HT])=false\/min lo b<m.n)/\(min m.n (min lo b)=m.n/\Ext m m'/\JE (BC k l) m' (aM [v',HT]))):=by
  intro mm t w lo Q hQ ga gz hs ho hn hk F;rw[kQ ga,ae];refine aj vE gz rfl rfl (Tk.dz hs.one) λm' T1 d0 b1=>?_;have d0:m'.get m.n=.cells (t.c w) 46 none:=d0;rw[kQ d0,ae];have b2:Sl m' t.un.shape w:=hs.aY λc cs ty g hc ht=>by rw[b1 c (λe=>by subst e;rw[gz]at hc;cases hc;simp[aQ.ty,aQ.dQ]at ht),hc]
  have hr:JE (BC k l) m' (.tuple #[t.v w,HT]):=by unfold JE;rw[ho];exact⟨w,rfl,b2⟩
  show(aZ (.tuple #[t.v w,HT])/\_/\(Q/\Ext m m/\JE _ m (.tuple #[t.v w,HT])))\/((aZ (.tuple #[t.v w,HT])=false\/_)/\(_/\Ext m m'/\JE _ m' (.tuple #[t.v w,HT])));cases hf:aZ (.tuple #[t.v w,HT]);·exact .inr ⟨.inl rfl,ac,⟨ac,be⟩,hr⟩
  ·exact .inl ⟨rfl,ac,hQ,.refl,hr.flat hf m⟩
 have bad:∀{mm:M} {lo:Nat} {Q:Prop},Q->mm.get m.n=.cells (Tk.z.c U7) 46 none->BC k l=none->m.n<=lo->
   aS (bz TE 46 []) λv=>dn (bw TE mm 46 (Ψ m.n 0) v) λm' b=>aS (aC TE m' 46 (Ψ m.n 0)) λv'=>
    (aZ (aM [v',IA])/\m.n<=min lo b/\(Q/\Ext m m/\JE (BC k l) m (aM [v',IA])))\/((aZ (aM [v',IA])=false\/min lo b<m.n)/\(min m.n (min lo b)=m.n/\Ext m m'/\JE (BC k l) m' (aM [v',IA]))):=by
  intro mm lo Q hQ gz ho F;rw[aer,ae];refine aj vE gz rfl rfl rfl λm' T1 d0 b1=>?_;have d0:m'.get m.n=.cells (Tk.z.c U7) 46 none:=d0;rw[kQ d0,ae];exact .inl ⟨rfl,ac,hQ,.refl,by unfold JE;rw[ho];rfl⟩
 have H:∀{mm:M} {i:Nat},Ext m mm->i<l.length->∃a,aE TE 81 v (Ω i)=some a/\aC TE mm 3 a=some (Ω (l.getD i 0)):=(by intro mm i hx hi;have:=(hv.an hx).Jy (k:=.i64) (show l[i]?=some (l.getD i 0) by grind);grind);refine af (λc=>?_) (λc=>?_)
 ·have k1:k=1:=R7 c;have ho:BC k l=if 11<=l.length/\l.length<=21/\l.length%2=1 then some ⟨1,⟨l.getD 0 0,l.getD 1 0,l.getD 2 0,jE (l.drop 5),l.getD 3 0,l.getD 4 0⟩,0,0,0,0⟩else none:=(by unfold BC;rw[F6 k1]);refine aX (λvs mm lo=>vs=[.bool (!decide (11<=l.length/\l.length<=21/\l.length%2=1))]/\m4=mm/\m.n<=lo) (λQ hQ=>?_) ?_;rw[(hv.an b0).len mP,ak,aK,ae,ag];refine af (λc=>hQ _ _ _ ⟨?_,rfl,ac⟩) (λc1=>?_);have c:=R7 c;rw[Co];rfl;have c1:=QB c1;rw[ak,cx,ae,ag];refine af (λc=>hQ _ _ _ ⟨?_,rfl,ac⟩) (λc2=>?_);have c:=R7 c;rw[Co];rfl;have c2:=QB c2;rw[ak,xB ce,ae,aJ,ae];refine hQ _ _ _ ⟨?_,rfl,ac⟩;congr 2;rw[<-decide_not,ge];have:(l.length:Int).tmod 2=((l.length%2:Nat):Int):=be;rw[this];omega;rintro _ _ lo ⟨rfl,rfl,F⟩;rw[av,ag];refine af (λc=>?_) (λc=>?_);rw[MK]at c;rw[Od (QB c)]at ho;exact bad be gz ho F;rw[MI]at c;have hc:=R7 c;rw[F6 hc]at ho;obtain⟨a0,p0,q0⟩:=H b0 (show 0<l.length by omega);obtain⟨a1,p1,q1⟩:=H b0 (show 1<l.length by omega);obtain⟨a2,p2,q2⟩:=H b0 (show 2<l.length by omega);obtain⟨a3,p3,q3⟩:=H b0 (show 3<l.length by omega);obtain⟨a4,p4,q4⟩:=H b0 (show 4<l.length by omega);have p0:aE TE 81 v (Ω 0)=some a0:=p0;have p1:aE TE 81 v (Ω 1)=some a1:=p1;have p2:aE TE 81 v (Ω 2)=some a2:=p2;have p3:aE TE 81 v (Ω 3)=some a3:=p3;have p4:aE TE 81 v (Ω 4)=some a4:=p4;rw[p0,ae,q0,ae,p1,ae,q1,ae,p2,ae,q2,ae,p3,ae,q3,ae,p4,ae,q4,ae];rw[show bz TE 44 [(0,Ω (l.getD 0 0)),(1,Ω (l.getD 1 0)),(2,Ω (l.getD 2 0)),(4,Ω (l.getD 3 0)),(5,Ω (l.getD 4 0))]=some (Un.v ⟨l.getD 0 0,l.getD 1 0,l.getD 2 0,[],l.getD 3 0,l.getD 4 0⟩ U7)from vj rfl rfl rfl rfl rfl,ae];refine OU ga rfl λB2 j2 d1 g1=>?_;obtain⟨L,hL⟩:∃L,L=l.drop 5:=⟨_,rfl⟩;have G2:L.length=l.length-5:=be;refine Lp.intro (γ:=Nat) (λj=>L.length-j) (λj vs mm lo=>∃r,vs=[Ω ((5+2*j:Nat):Int)]/\2*j<=L.length/\m4.n<=mm.n/\m.n<=lo/\(∀c,c<A->mm.get c=m4.get c)/\mm.get A=.cells (Tk.c ⟨k,⟨l.getD 0 0,l.getD 1 0,l.getD 2 0,[],l.getD 3 0,l.getD 4 0⟩,0,0,0,0⟩ r) 46 none/\Ow (A+1) mm ((jE L).take j) r) 0 ⟨_,rfl,ac,ac,ac,λc hc=>g1 c ac,d1,Ow.nil⟩ ?_;rintro j vs mm M2 ⟨r,rfl,hj,O2,h1,i1,j1,u0⟩;have n0:Ext m mm:=⟨ac,λc hc=>by rw[i1 c ac,b0.get c hc]⟩;rw[av,(hv.an n0).len mP,ak,aK,ae,ag];refine af (λl1=>?_) (λP2=>?_);have l1:5+2*j<l.length:=be;have⟨a,e1,e2⟩:=H n0 l1;obtain⟨a',e3,e4⟩:=H n0 (show 5+2*j+1<l.length by omega);have e3:aE TE 81 v (Ω (((5+2*j:Nat):Int)+1))=some a':=e3;have hp:(jE L)[j]?=some ⟨l.getD (5+2*j) 0,l.getD (5+2*j+1) 0⟩:=(by refine Bu _ _ _ _ ?_ ?_;grind;grind);have lr:aC TE mm 42 (Ψ A (0+1+3))=some r:=(vI j1).2.2.2.1;rw[lr,ae,e1,ae,e2,ae,aL,ae,wrap64,e3,ae,e4,ae];rw[show bz TE 85 [(0,Ω (l.getD (5+2*j) 0)),(1,Ω (l.getD (5+2*j+1) 0))]=some (Pl.v ⟨l.getD (5+2*j) 0,l.getD (5+2*j+1) 0⟩)from qI rfl rfl,ae];have Q2:((jE L).take j).length<=j:=be;have pp:=qk L;refine jt (T:=42) (x:=(⟨l.getD (5+2*j) 0,l.getD (5+2*j+1) 0⟩:Pl)) yO rfl u0 ac ac IJ (λ_=>rfl) λr' m2 w2 n2 k2 T2 l2=>?_;have o1:m2.get A=_:=(k2 A ac).trans j1;refine OV o1 w2.sl.one w2.sl.cells λb3 o2 r1 u1=>?_;rw[aL,ae,wrap64];refine⟨j+1,ac,r',be,ac,ac,ac,be,r1,?_⟩;rw[QM,hp];exact w2.zm rfl λc c3 d3=>u1 c ac;have g3:2*j=L.length:=(by grind);have pp:=qk L;rw[OO ac]at u0;have v1:mm.get A=.cells (Tk.c ⟨1,⟨l.getD 0 0,l.getD 1 0,l.getD 2 0,jE (l.drop 5),l.getD 3 0,l.getD 4 0⟩,0,0,0,0⟩ r) 46 none:=be;exact fin be v1 ((i1 _ O1).trans gz) (hL ▸ u0.sl) ho ac (λc hc=>n0.get c hc) h1
 have k1:k≠1:=QB c;obtain⟨M,hM⟩:∃M:Nat,M=if k=4\/k=5\/k=8 then 2 else if k=9 then 3 else 1:=⟨_,rfl⟩;have ho:BC k l=if l.length=M then some (if k=9 then⟨k,.z,l.getD 0 0,l.getD 1 0,0,l.getD 2 0⟩else if k=5\/k=8 then⟨k,.z,l.getD 0 0,0,l.getD 1 0,0⟩else if k=4 then⟨k,.z,l.getD 0 0,0,0,l.getD 1 0⟩else⟨k,.z,l.getD 0 0,0,0,0⟩)else none:=(by unfold BC;grind);refine aX (λvs mm lo=>vs=[Ω (if k=4\/k=5\/k=8 then 2 else 1)]/\m4=mm/\m.n<=lo) (λQ hQ=>?_) ?_
 ·refine aX (λvs mm lo=>vs=[.bool (decide (k=4\/k=5\/k=8))]/\m4=mm/\m.n<=lo) (λR hR=>?_) ?_;refine af (λc=>hR _ _ _ ⟨be,rfl,ac⟩) (λc4=>?_);refine af (λc=>hR _ _ _ ⟨be,rfl,ac⟩) (λc5=>hR _ _ _ ⟨?_,rfl,ac⟩);have c4:=QB c4;have c5:=QB c5;congr 2;rw[ge];omega;rintro _ _ lo ⟨rfl,rfl,F⟩;rw[av,ag];refine af (λc=>hQ _ _ _ ⟨be,rfl,F⟩) (λc=>hQ _ _ _ ⟨be,rfl,F⟩)
 rintro _ _ lo ⟨rfl,rfl,F⟩;rw[av];refine aX (λvs mm lo=>vs=[Ω (M:Int)]/\m4=mm/\m.n<=lo) (λQ hQ=>?_) ?_
 ·refine af (λc=>hQ _ _ _ ⟨?_,rfl,F⟩) (λc=>hQ _ _ _ ⟨?_,rfl,F⟩);have c:=R7 c;subst c;rw[hM];rfl;have c:=QB c;rw[hM,Od c];split <;>rfl
 rintro _ _ lo ⟨rfl,rfl,F⟩;rw[av,(hv.an b0).len mP,ak,bY,ae,ag];refine af (λc=>?_) (λc=>?_);·rw[MK]at c;have c:=QB c;rw[me]at ho;exact bad be gz ho F
 rw[MI]at c;have c:=R7 c;have d2:l.length=M:=ac;rw[F6 d2]at ho;have h3:1<=M:=be;obtain⟨a0,p0,q0⟩:=H b0 (show 0<l.length by omega);have p0:aE TE 81 v (Ω 0)=some a0:=p0;rw[p0,ae,q0,ae];refine DB (j:=7) ga ac ac λw1 y1 h0 o0=>?_;have h0:w1.get A=.cells (Tk.c ⟨k,.z,l.getD 0 0,0,0,0⟩ U7) 46 none:=h0;refine aX (λvs mm lo=>vs=[]/\mm.n=m4.n/\(∀c,c≠A->mm.get c=m4.get c)/\m.n<=lo/\mm.get A=.cells (Tk.c (if k=4 then⟨k,.z,l.getD 0 0,0,0,l.getD 1 0⟩else⟨k,.z,l.getD 0 0,0,0,0⟩) U7) 46 none) (λQ hQ=>?_) ?_
 ·refine af (λc=>?_) (λc=>hQ _ _ _ ⟨rfl,y1,o0,ac,be⟩);have c:=R7 c;have g2:M=2:=be;obtain⟨a1,p1,q1⟩:=H (mm:=w1) ⟨ac,λc hc=>by rw[o0 c ac,b0.get c hc]⟩ (show 1<l.length by omega);have p1:aE TE 81 v (Ω 1)=some a1:=p1;rw[p1,ae,q1,ae];refine DB (j:=10) h0 ac ac λmm hn hg hk=>hQ _ _ _ ⟨rfl,ac,be,ac,dg⟩
 rintro _ r0 lo ⟨rfl,y0,i0,F,j0⟩;refine aX (λvs mm lo=>vs=[]/\mm.n=m4.n/\(∀c,c≠A->mm.get c=m4.get c)/\m.n<=lo/\mm.get A=.cells (Tk.c (if k=5\/k=8 then⟨k,.z,l.getD 0 0,0,l.getD 1 0,0⟩else if k=4 then⟨k,.z,l.getD 0 0,0,0,l.getD 1 0⟩else⟨k,.z,l.getD 0 0,0,0,0⟩) U7) 46 none) (λQ hQ=>?_) ?_
 ·refine aX (λvs mm lo=>vs=[.bool (decide (k=5\/k=8))]/\r0=mm/\m.n<=lo) (λR hR=>?_) ?_;refine af (λc=>hR _ _ _ ⟨be,rfl,F⟩) (λc5=>hR _ _ _ ⟨?_,rfl,F⟩);have c5:=QB c5;congr 2;rw[ge];omega;rintro _ _ lo ⟨rfl,rfl,F⟩;rw[av,ag];refine af (λc=>?_) (λc=>hQ _ _ _ ⟨rfl,y0,i0,F,be⟩);have c:=R7 c;have g2:M=2:=be;rw[me]at j0;obtain⟨a1,p1,q1⟩:=H (mm:=r0) ⟨ac,λc hc=>by rw[i0 c ac,b0.get c hc]⟩ (show 1<l.length by omega);have p1:aE TE 81 v (Ω 1)=some a1:=p1;rw[p1,ae,q1,ae];refine DB (j:=9) j0 ac ac λmm hn hg hk=>hQ _ _ _ ⟨rfl,ac,be,ac,dg⟩
 rintro _ A1 lo ⟨rfl,A0,e0,F,k0⟩;refine aX (λvs mm lo=>vs=[]/\mm.n=m4.n/\(∀c,c≠A->mm.get c=m4.get c)/\m.n<=lo/\mm.get A=.cells (Tk.c (if k=9 then⟨k,.z,l.getD 0 0,l.getD 1 0,0,l.getD 2 0⟩else if k=5\/k=8 then⟨k,.z,l.getD 0 0,0,l.getD 1 0,0⟩else if k=4 then⟨k,.z,l.getD 0 0,0,0,l.getD 1 0⟩else⟨k,.z,l.getD 0 0,0,0,0⟩) U7) 46 none) (λQ hQ=>?_) ?_
 ·refine af (λc=>?_) (λc=>hQ _ _ _ ⟨rfl,A0,e0,F,be⟩);have c:=R7 c;have i3:M=3:=be;rw[me,me]at k0;obtain⟨a1,p1,q1⟩:=H (mm:=A1) ⟨ac,λc hc=>by rw[e0 c ac,b0.get c hc]⟩ (show 1<l.length by omega);have p1:aE TE 81 v (Ω 1)=some a1:=p1;rw[p1,ae,q1,ae];refine DB (j:=8) k0 ac ac λs0 h2 g0 B0=>?_;have g0:s0.get A=.cells (Tk.c ⟨k,.z,l.getD 0 0,l.getD 1 0,0,0⟩ U7) 46 none:=g0;obtain⟨a2,p2,q2⟩:=H (mm:=s0) ⟨ac,λc hc=>by rw[B0 c ac,e0 c ac,b0.get c hc]⟩ (show 2<l.length by omega);have p2:aE TE 81 v (Ω 2)=some a2:=p2;rw[p2,ae,q2,ae];refine DB (j:=10) g0 ac ac λmm hn hg hk=>hQ _ _ _ ⟨rfl,ac,be,ac,dg⟩
 rintro _ u2 lo ⟨rfl,i2,l0,F,O0⟩;refine fin be O0 ((l0 _ ac).trans gz) ?_ ho ac (λc hc=>by rw[l0 c ac,b0.get c hc]) F;split;·exact .nil
 split;·exact .nil
 split <;>exact .nil
def TH{k:Int}{l:List Int}{p:Tk}(h:BC k l=some p):p.un.shape.length<=l.length:=by unfold BC at h;split at h;split at h;cases h;show(jE (l.drop 5)).length<=_;rw[qk,LB];omega;cases h;(repeat' (split at h));all_goals first|(cases h;exact PS _)|cases h
def L0(hX:cp X){a b:Tk}{va vb:Φ}(ha:Sl m a.un.shape va)(hb:Sl m b.un.shape vb)(la:a.un.shape.length<4611686018427387904):
  C X (.func 154) [a.v va,b.v vb] m m.n (.bool (decide (a=b))) m:=by apply Cl.fG hX (MZ func154);rw[F154];dsimp only[aG];refine ah λm1 l0 i0 n0=>?_;refine ah λm2 o0 j0 k0=>?_;have H:Ext m m2:=⟨ac,be⟩;have g1:m2.get m.n=.cells (a.c va) 46 none:=(by rw[k0 _ ac];exact i0);have g2:m2.get m1.n=.cells (b.c vb) 46 none:=j0;have⟨a0,a1,a2,a3,a4⟩:=kR g1;have⟨b0,b1,b2,b3,b4⟩:=kR g2;have au:=rD g1;have bu:=rD g2;unfold ptrTo;simp only[dC,ed,cU,cT,dh,cS,ae,a0,a1,a2,a3,a4,b0,b1,b2,b3,b4,au,bu,aJ,ag];have⟨k,u,id,ot,sd,ma⟩:=a;have⟨k',u',d0,e0,g0,h0⟩:=b;refine aX (λvs m' lo=>vs=[.bool (decide ((⟨k,u,id,ot,sd,ma⟩:Tk)=⟨k',u',d0,e0,g0,h0⟩))]/\m.n<=lo) (λR hR=>?_) ?_;have no:∀{mm:M} {lo:Nat},¬((⟨k,u,id,ot,sd,ma⟩:Tk)=⟨k',u',d0,e0,g0,h0⟩)->m.n<=lo->R [IA] mm lo:=λh F=>hR _ _ _ ⟨be,F⟩;refine af (λc0=>?_) (λc=>no (λe=>QB c be) ac);refine af (λc1=>?_) (λc=>no (λe=>QB c be) ac);refine af (λc2=>?_) (λc=>no (λe=>QB c be) ac);refine af (λc3=>?_) (λc=>no (λe=>QB c be) ac);refine af (λc4=>?_) (λc=>no (λe=>QB c be) ac);refine aw (L1 hX (ha.an H) (hb.an H) la) (hR _ _ _ ⟨?_,ac⟩);congr 2;rw[ge,Tk.mk.injEq];have:=R7 c0;have:=R7 c1;have:=R7 c2;have:=R7 c3;have:=R7 c4;simp_all;rintro _ _ lo ⟨rfl,F⟩;rw[av];exact⟨rfl,F⟩
theorem adD(hX:cp X){t:Tk}{w:Φ}(hw:Sl m t.un.shape w)(hl:t.un.shape.length<100000):
  C X (.func 111) [t.v w] m m.n (.bool (eA t)) m:=by
 rw[<-QO];apply Cl.fG hX (MZ func111);rw[F111];dsimp only[aG];refine ah λm1 l1 A0 B0=>?_;have g1:m1.get m.n=.cells (t.c w) 46 none:=A0;have O0:Ext m m1:=⟨ac,B0⟩;have j0:=hw.an O0;obtain⟨k0, -, -, -, -⟩:=kR g1;obtain⟨-, -, -,v3, -, -⟩:=vI g1;unfold ptrTo;simp only[dC,ed,cU,cT,dh,cS,dk,bA,ae];obtain⟨B,hB⟩:∃B,B=wN t:=⟨_,rfl⟩;rw[<-hB];unfold wN at hB;refine aX (λvs mm lo=>vs=[.bool (!(dt t.kind 1 9 && decide (t.un.shape.length<=8)))]/\m1=mm/\m.n<=lo) (λQ F=>?_) ?_;rw[k0,ae];apply aw (kB hX _ _ _);rw[bC,ae,ag];refine af (λc=>F _ _ _ ⟨?_,rfl,ac⟩) (λc=>?_);rw[MK]at c;rw[c];rfl;rw[MI]at c;rw[v3,ae,j0.len cN,ak,cx,ae];refine F _ _ _ ⟨?_,rfl,ac⟩;rw[c,Rl];congr 2;rw[<-decide_not,ge];omega;rintro _ _ lo ⟨rfl,rfl,P0⟩;rw[av,ag];refine af (λc=>?_) (λc=>?_);rw[MK]at c;rw[c]at hB;rw[hB];exact⟨rfl,P0⟩;rw[MI]at c;rw[c,Rl]at hB;rw[k0,ae,kQ g1,ae];have⟨o1,m23,Q0,q0,a1⟩:=EW (m:=m1) hX j0 hl;refine aw Q0 ⟨ID _,?_⟩;have nl:(iW t).length<1000000:=(by unfold iW;split;rw[N7,wP];simp only[S6,H8];omega;grind);have⟨rv,n0,b1,r0,d0⟩:=aeI (m:=m23) (k:=t.kind) hX a1 nl;refine aw b1 ⟨ID _,?_⟩;have n23:=q0.n;have n26:=r0.n;obtain⟨p,wp,ok,rfl,sp,lp,e0⟩:∃(p:Tk) (wp:Φ) (ok:Bool),rv=.tuple #[p.v wp,.bool ok]/\Sl n0 p.un.shape wp/\p.un.shape.length<4611686018427387904/\decide (BC t.kind (iW t)=some t)=(ok && decide (p=t)):=(by unfold JE at d0;cases e:BC t.kind (iW t)with|none=>rw[e]at d0;exact⟨.z,_,false,d0,.nil,ce,co⟩|some p=>rw[e]at d0;have⟨wp,h1,h2⟩:=d0;have:=TH e;grind);rw[aD,aD];simp only[Lf,S5,ae];refine ah λp1 e1 u0 i1=>?_;refine aj vE u0 rfl rfl (Tk.dz sp.one) λp0 j1 g0 k1=>?_;have g0:p0.get n0.n=.cells (p.c wp) 46 none:=g0;have l0:Ext n0 p0:=⟨ac,be⟩;have H:=(q0.trans r0).trans l0;have b0:=H.cells g1;refine aX (λvs mm lo=>vs=[.bool (!decide (BC t.kind (iW t)=some t))]/\p0=mm/\m.n<=lo) (λQ F=>?_) ?_;rw[bC,ae,ag];refine af (λc=>F _ _ _ ⟨?_,rfl,ac⟩) (λc=>?_);rw[MK]at c;rw[e0,c];rfl;rw[MI]at c;rw[kQ g0,ae,kQ b0,ae];apply aw (L0 hX (sp.an l0) (j0.an H) lp);rw[bC,ae];exact F _ _ _ ⟨be,rfl,ac⟩;rintro _ _ iT ⟨rfl,rfl,y0⟩;rw[av,ag];refine af (λc=>?_) (λc=>?_);rw[MK]at c;rw[c,SL]at hB;rw[hB];exact⟨rfl,y0⟩;rw[MI]at c;rw[c,Rl]at hB;have⟨k0,i0,o0,s0,a0⟩:=kR b0;obtain⟨-,ku, -, -, -, -⟩:=vI b0;have uu:=rD b0;simp only[dk,ae,k0,i0,o0,s0,a0,ku,uu,aJ,bY,aK,ag];refine af (λc1=>?_) (λc1=>?_);rw[F6 (R7 c1)]at hB;refine aX (λvs mm lo=>vs=[.bool B]/\m.n<=lo) (λQ F=>?_) ?_;apply aw (kZ hX (j0.an H) ac);rw[ag];refine af (λc=>?_) (λc=>F _ _ _ ⟨be,ac⟩);rw[ku,ae];apply aw (kB hX _ _ _);exact F _ _ _ ⟨be,ac⟩;rintro _ _ d1 ⟨rfl,h0⟩;rw[av];exact⟨rfl,h0⟩;rw[Od (QB c1)]at hB;refine aX (λvs mm lo=>vs=[.bool B]/\m.n<=lo) (λQ F=>?_) ?_;apply aw (kB hX _ _ _);rw[ag];refine af (λc=>?_) (λc=>F _ _ _ ⟨be,ac⟩);rw[o0,ae];apply aw (kB hX _ _ _);rw[ag];refine af (λd=>?_) (λd=>F _ _ _ ⟨be,ac⟩);rw[s0,ae];apply aw (kB hX _ _ _);rw[ag];refine af (λe=>?_) (λe=>F _ _ _ ⟨be,ac⟩);rw[a0,ae];apply aw (kB hX _ _ _);rw[ag];refine af (λf=>?_) (λf=>F _ _ _ ⟨be,ac⟩);rw[k0,ae,bY,ae,ag,i0,ae,o0,ae,aK,ae]
 refine af (λg=>F _ _ _ ⟨be,ac⟩) (λg=>F _ _ _ ⟨be,ac⟩);rintro _ _ d1 ⟨rfl,h0⟩;rw[av];exact⟨rfl,h0⟩
def SU{u:Un}{w b:Φ}(h:aZ (.tuple #[u.v w,b])):Go.D.bN w:=by have F:((true && (true && (true && (Go.D.bN w && (true && (true && true)))))) && (eo b && true)):=h;grind
def iP.flat{id:Int}{v b:Φ}(h:iP us id m' (.tuple #[v,b]))(F:aZ (.tuple #[v,b]))(m:M):iP us id m (.tuple #[v,b]):=by unfold iP at h⊢;split at h;have⟨w,e,H⟩:=h;cases e;exact⟨w,rfl,(nG H (SU F) m).2⟩;exact h
def Hs{id:Int}{v b:Φ}{lo:Nat}{Q:Prop}(H:Q)(h:iP us id m' (.tuple #[v,b]))(F:m.n<=lo)(hx:Ext m m'):
  (aZ (aM [v,b])/\m.n<=lo/\(Q/\Ext m m/\iP us id m (aM [v,b])))\/((aZ (aM [v,b])=false\/lo<m.n)/\(min m.n lo=m.n/\Ext m m'/\iP us id m' (aM [v,b]))):=by cases hf:aZ (aM [v,b]);exact .inr ⟨.inl rfl,ac,hx,h⟩;exact .inl ⟨rfl,F,H,.refl,h.flat hf m⟩
def pO(hX:cp X){l:List UW}{v vm:Φ}(h:cC m l v)(hl:l.length<1000000)(h1:one vm)(id:Int):
  ∃rv m',C X (.func 69) [.agg #[v,vm],Ω id] m m.n rv m'/\Ext m m'/\iP (bI l) id m' rv:=by apply Cl.H0 hX (MZ func69);rw[F69];dsimp only[aG];refine ah λm1 P0 i0 Q0=>?_;refine ah λm2 a1 j0 k0=>?_;have l0:Ext m m2:=⟨ac,be⟩;have g1:m2.get m.n=.cells [v,vm] 33 none:=(by rw[k0 _ ac];exact i0);have g2:m2.get m1.n=.cells Un.zc 44 none:=j0;have hF:=h.an l0;obtain⟨-,n0, -, -⟩:=jY g1;unfold ptrTo;simp only[bO,bh,ae];refine Lp.intro (γ:=Nat) (λi=>l.length-i) (λi vs mm lo=>∃z,vs=[z,Ω i]/\i<=l.length/\m2=mm/\m.n<=lo/\(bI (l.take i)).find? (λy=>decide (y.id=id))=none) 0 ⟨_,rfl,PS _,rfl,ac,rfl⟩ ?_;rintro i vs mm lo ⟨z,rfl,hi,rfl,o0,b0⟩;rw[av,av,n0,ae,hF.sl.len cX,ak,aK,ae,ag];refine af (λe0=>?_) (λb1=>?_);have e0:i<l.length:=be;obtain⟨x,hx⟩:∃x,l[i]?=some x:=⟨_,Iy e0⟩;have⟨q,q0,f1,f2,f3⟩:=yT hF.sl hx;have⟨q',q1,q2,ow⟩:=hF.sl.iz (k:=.i64) hx;obtain rfl:q=q':=Option.some.inj (f1.symm.trans q1);have p0:=Vb hx;rw[ae,f1,ae,f2,ae,f3,ae,aJ,ae,ag];have r0:bI (l.take (i+1))=bI (l.take i)++ [x.u]:=(by unfold bI;rw[QM,hx,R6];rfl);refine af (λc=>?_) (λc=>?_);rw[ae,f1,ae,q2,ae];refine aj dV g2 rfl rfl (Un.dz ow) λg0 A0 F h0=>?_;have F:g0.get m1.n=.cells (x.u.c x.w) 44 none:=F;rw[bR F,ae];have d0:cy (bI l) id=some x.u:=(by have e:bI l=bI (l.take (i+1))++bI (l.drop (i+1)):=(by unfold bI;rw[<-R6,Zd]);unfold cy;grind);refine Hs (m':=g0) be ?_ ac ⟨ac,be⟩;unfold iP;rw[d0];exact⟨x.w,rfl,(hF.sh x p0).aY λc cs t g hc ht=>by rw[h0 c (λe=>by subst e;rw[g2]at hc;cases hc;simp[aQ.ty,aQ.dQ]at ht),hc]⟩;rw[aL,ae,wrap64 be ac];refine⟨i+1,ac,z,rfl,ac,rfl,o0,?_⟩;rw[r0,List.find?_append,b0];simp[c];have s0:i=l.length:=(by grind);subst s0;rw[Jg]at b0;have u0:bz TE 44 []=some (.agg Un.zc.toArray):=pU;rw[u0,ae];refine aj dV g2 rfl rfl rfl λy0 B0 H O0=>?_;have H:y0.get m1.n=.cells (Un.c ⟨0,0,0,[],0,0⟩ U7) 44 none:=H;rw[bR H,ae];refine .inl ⟨rfl,ac,be,.refl,?_⟩;unfold iP cy;rw[b0];rfl
def DU{l:List KW}(h:Sl m l st){i:Nat}{x:KW}(H:l[i]?=some x):∃b o,aE TE 34 st (Ω i)=some (Ψ b o)/\aC TE m 3 (Ψ b (o+0+0))=some (Ω x.u.id)/\aC TE m 69 (Ψ b o)=some x.v/\one x.w/\one x.mv:=by have⟨b,o,bc,g,cs,e1,hb,hr,hle,hj⟩:=h.jr ff (k:=.i64) H;obtain⟨rfl,h1,h2⟩:cs=x.c/\one x.w/\one x.mv:=hr;have hle:o+7<=bc.length:=hle;refine⟨b,o,e1,?_,?_,h1,h2⟩;rw[bS,aH hb];exact hj 0 (by show 0<7;decide);have⟨p,F,e2,e3,e4⟩:=h.index ff (k:=.i64) H;obtain rfl:p=Ψ b o:=Option.some.inj (e2.symm.trans e1);obtain⟨rfl,_⟩:F=x.c/\_:=e4;exact e3
def yZ(hX:cp X){y:Yd}{r r2 st rc mo:Φ}{F:List KW}(hk:Sl m F st)(hl:F.length<1000000)(h1:(yc r r2 st rc mo).all one)(id:Int):
  C X (.func 155) [yv r r2 st rc mo,Ω id] m m.n (Ω (idx (λx:KW=>decide (x.u.id=id)) F)) m:=by apply Cl.fG hX (MZ func155);rw[F155];dsimp only[aG];refine ah λm1 i0 g0 h0=>?_;have g1:m1.get m.n=.cells (yc r r2 st rc mo) 38 none:=g0;have H:=hk.an (m':=m1) ⟨ac,h0⟩;obtain⟨-,l1, -, -, -⟩:=eS g1;unfold ptrTo;simp only[dN,cf,aW,ae];refine Lp.intro (γ:=Nat) (λi=>F.length-i) (λi vs mm lo=>∃z,vs=[z,Ω i]/\i<=F.length/\m1=mm/\m.n<=lo/\∀j x,j<i->F[j]?=some x->x.u.id≠id) 0 ⟨_,rfl,PS _,rfl,ac,λj x hj=>ac⟩ ?_;rintro i vs mm lo ⟨z,rfl,hi,rfl,b0,d0⟩;rw[av,av,l1,ae,H.len ff,ak,aK,ae,ag];refine af (λe0=>?_) (λj0=>?_);have e0:i<F.length:=be;obtain⟨x,hx⟩:∃x,F[i]?=some x:=⟨_,Iy e0⟩;obtain⟨b,o,e1,e2, -⟩:=DU H hx;rw[ae,e1,ae,cf,ae,aW,ae,e2,ae,aJ,ae,ag];refine af (λc=>⟨?_,b0⟩) (λc=>?_);rw[Fj (i:=i) hx (by exact c) λj y hj hy=>be];rfl;rw[aL,ae,wrap64];refine⟨i+1,ac,z,rfl,ac,rfl,b0,λj y hj hy=>?_⟩;by_cases e:j=i;subst e;rw[hx]at hy;cases hy;exact QB c;exact d0 j y ac hy;have k0:i=F.length:=(by grind);refine⟨?_,b0⟩;rw[wL λy hy=>?_];rfl;have⟨j,hj⟩:=Mf hy;simpa using d0 j y be hj
def zy(hX:cp X)(a b:Fc):C X (.func 71) [a.v,b.v] m m.n (.bool (decide (jW a b))) m:=by apply Cl.fG hX (MZ func71);rw[F71];dsimp only[aG];refine ah λm1 j0 F k0=>?_;refine ah λm2 l0 H b0=>?_;have g1:m2.get m.n=.cells a.c 52 none:=(by rw[b0 _ ac];exact F);have g2:m2.get m1.n=.cells b.c 52 none:=H;have d0:aC TE m2 3 (Ψ m.n (0+0))=some (Ω a.un):=(by rw[bS,aH g1];rfl);have e0:aC TE m2 3 (Ψ m.n (0+1))=some (Ω a.side):=(by rw[bS,aH g1];rfl);have g0:aC TE m2 3 (Ψ m1.n (0+0))=some (Ω b.un):=(by rw[bS,aH g2];rfl);have h0:aC TE m2 3 (Ψ m1.n (0+1))=some (Ω b.side):=(by rw[bS,aH g2];rfl);unfold ptrTo;refine aX (λvs mm lo=>vs=[.bool (decide (jW a b))]/\m.n<=lo) (λR hR=>?_) ?_;simp only[iZ,kF,ae,d0,e0,g0,h0,aK,aJ,ag];refine af (λc=>hR _ _ _ ⟨by rw[Dk (show jW a b from .inl (R7 c))],ac⟩) (λc1=>?_);have c1:=QB c1;refine af (λc=>hR _ _ _ ⟨?_,ac⟩) (λc=>hR _ _ _ ⟨?_,ac⟩);have c:=R7 c;congr 2;rw[ge];unfold jW;omega;have c:=QB c;rw[QY];unfold jW;omega;rintro _ _ lo ⟨rfl,i0⟩;rw[av];exact⟨rfl,i0⟩
def D4{l:List Fc}{v:Φ}(h:Sl m l v){i:Nat}{x:Fc}(F:l[i]?=some x):∃p,aE TE 35 v (Ω i)=some p/\aC TE m 52 p=some x.v:=by have⟨p,cs,H,e2,e3⟩:=h.index eV (k:=.i64) F;obtain rfl:cs=x.c:=e3;exact⟨p,H,e2⟩
def Hv{a b:Fc}:bE TE .eql 52 a.v b.v=some (.bool (decide (a=b))):=by have h:bE TE .eql 52 a.v b.v=some (.bool ((a.un==b.un) && ((a.side==b.side) && true))):=bv;rw[h];have⟨F,a2⟩:=a;have⟨H,b2⟩:=b;congr 2;grind
def ug(hX:cp X){l:List Fc}{r r2 st rc mo:Φ}(hr:Sl m l rc)(hl:l.length<1000000)(f:Fc):
  C X (.func 70) [yv r r2 st rc mo,f.v] m m.n (.bool (decide (f∈l))) m:=by apply Cl.fG hX (MZ func70);rw[F70];dsimp only[aG];refine ah λm1 j0 e0 k0=>?_;refine ah λm2 l0 g0 h0=>?_;have g1:m2.get m.n=.cells (yc r r2 st rc mo) 38 none:=(by rw[h0 _ ac];exact e0);have g2:m2.get m1.n=.cells f.c 52 none:=g0;have b0:=hr.an (m':=m2) ⟨ac,be⟩;obtain⟨-, -,l2, -, -⟩:=eS g1;have lf:aC TE m2 52 (Ψ m1.n 0)=some f.v:=(by rw[E8,aI (n:=2) g2 be];rfl);unfold ptrTo;simp only[eK,ae];refine Lp.intro (γ:=Nat) (λi=>l.length-i) (λi vs mm lo=>∃z,vs=[z,Ω i]/\i<=l.length/\m2=mm/\m.n<=lo/\f∉l.take i) 0 ⟨_,rfl,PS _,rfl,ac,co⟩ ?_;rintro i vs mm lo ⟨z,rfl,hi,rfl,F,H⟩;rw[av,av,l2,ae,b0.len eV,ak,aK,ae,ag];refine af (λd0=>?_) (λn0=>?_);have d0:i<l.length:=be;obtain⟨x,hx⟩:∃x,l[i]?=some x:=⟨_,Iy d0⟩;have⟨p,e1,e2⟩:=D4 b0 hx;rw[ae,e1,ae,e2,ae,lf,ae,Hv,ae,ag];refine af (λc=>⟨?_,F⟩) (λc=>?_);have c:=R7 c;subst c;rw[Dk (Vb hx)];rfl;rw[aL,ae,wrap64];refine⟨i+1,ac,z,rfl,ac,rfl,F,?_⟩;rw[QM,hx];simp only[UJ,HN,MV,not_or];exact⟨H,λe=>QB c e.symm⟩;have i0:i=l.length:=(by grind);subst i0;rw[Jg]at H;exact⟨by rw[QY H];rfl,F⟩
theorem D7(hX:cp X){l:List UW}{v vm:Φ}(h:cC m l v)(hl:l.length<1000000)(h1:one vm)(id side:Int):
  C X (.func 157) [.agg #[v,vm],Ω id,Ω side] m m.n (.bool (mh (bI l) id side)) m:=by apply Cl.fG hX (MZ func157);rw[F157];dsimp only[aG];refine ah λm1 j0 b0 d0=>?_;have g1:m1.get m.n=.cells [v,vm] 33 none:=b0;have e0:Ext m m1:=⟨ac,d0⟩;unfold ptrTo;rw[(jY g1).2.2.2,ae];have⟨rv,m4,c4,x4,fr⟩:=pO (m:=m1) hX (h.an e0) hl h1 id;apply aw c4;have n4:=x4.n;obtain⟨u,w,ok,rfl,hs,hB⟩:∃(u:Un) (w:Φ) (ok:Bool),rv=.tuple #[u.v w,.bool ok]/\Sl m4 u.shape w/\mh (bI l) id side=(ok && (decide (side= -1) ||decide (side= -2) ||decide (0<=side) && decide (side<(u.shape.length:Int)))):=(by unfold iP at fr;unfold mh;cases e:cy (bI l) id with|none=>rw[e]at fr;exact⟨.z,U7,false,fr,.nil,rfl⟩|some u=>rw[e]at fr;have⟨w,h1,h2⟩:=fr;exact⟨u,w,true,h1,h2,co⟩);rw[aD,aD];simp only[Lf,S5,ae];refine ah λm8 k0 g0 l0=>?_;refine aj dV g0 rfl rfl (Un.dz hs.one) λm9 n0 F o0=>?_;have F:m9.get m4.n=.cells (u.c w) 44 none:=F;have h0:=hs.an (m':=m9) ⟨ac,be⟩;obtain⟨-, -, -,l3, -, -⟩:=kN F;refine aX (λvs mm lo=>vs=[.bool (mh (bI l) id side)]/\m.n<=lo) (λR H=>?_) ?_;rw[ag];refine af (λc=>?_) (λc=>H _ _ _ ⟨be,ac⟩);rw[aJ,ae,ag];refine af (λc1=>H _ _ _ ⟨be,ac⟩) (λc1=>?_);rw[aJ,ae,ag];refine af (λc2=>H _ _ _ ⟨be,ac⟩) (λc2=>?_);rw[cW,ae,ag];refine af (λc3=>?_) (λc3=>H _ _ _ ⟨be,ac⟩);rw[bA,ae,l3,ae,h0.len cN,ak,aK,ae];exact H _ _ _ ⟨be,ac⟩;rintro _ _ lo ⟨rfl,i0⟩;rw[av];exact⟨rfl,i0⟩
structure Sf where
 de:Int
 gr:Int
 st:Int
 po:Int
 sa:Int
abbrev Sf.c(x:Sf):ν:=[.int .i64 x.de,.int .i64 x.gr,.int .i64 x.st,.int .i64 x.po,.int .i64 x.sa]
abbrev Sf.v(x:Sf):Φ:=.agg (x.c).toArray
instance:aQ Sf where
 ty:=131
 sz:=5
 agg:=true
 dQ:=[]
 rep _ x cs:=cs=x.c
 pos:=ce
 one:=be
 len:=dg
 iH:=by rintro _ _ _ rfl;rfl
 aY:=be
def aeE:qQ TE 317 131 Sf:=⟨ai.t317,ai.t131,bv,⟨_,rfl⟩,rfl,bv,rfl,rfl⟩
def nB:List Sf:=[⟨9,3,9,1,0⟩,⟨8,3,6,4,1⟩,⟨7,3,5,5,1⟩,⟨6,3,4,6,3⟩,⟨3,2,5,3,0⟩,⟨5,2,2,7,1⟩,⟨8,3,8,1,4⟩,⟨10,1,9,0,0⟩]
def ia(a:Int):Option Sf:=if 0<=a/\a<=7 then nB[a.toNat]? else none
def cg(a b:Int):Bool:=match ia a,ia b with
 |some x,some y=>decide (x.st<=y.st+1) && decide (y.po<=x.po+1) && decide (x.sa<=y.sa+1)
 |_,_=>false
def bQ(a b:Int):Bool:=match ia a,ia b with
 |some x,some y=>decide (x.st<=y.st) && decide (y.po<=x.po) && decide (x.sa<=y.sa+1)
 |_,_=>false
def iq(a:Int):Φ:=match ia a with
 |some x=> .tuple #[x.v,.int .i64 0]
 |none=> .tuple #[Sf.v ⟨0,0,0,0,0⟩,.int .i64 80]
def aeR:∃m',aO TE m 317 8 [(0,Sf.v ⟨9,3,9,1,0⟩),(1,Sf.v ⟨8,3,6,4,1⟩),(2,Sf.v ⟨7,3,5,5,1⟩),(3,Sf.v ⟨6,3,4,6,3⟩),(4,Sf.v ⟨3,2,5,3,0⟩),(5,Sf.v ⟨5,2,2,7,1⟩),(6,Sf.v ⟨8,3,8,1,4⟩),(7,Sf.v ⟨10,1,9,0,0⟩)]=some (RZ m.n 0 8 8,m')/\m'=m.push (.cells (nB.flatMap Sf.c) 131 none):=⟨_,bv,rfl⟩
def abY{b:Nat}{g:Option Nat}(h:m.get b=.cells (nB.flatMap Sf.c) 131 g):Sl m nB (RZ b 0 8 8):=
 .inr ⟨b,0,8,_,g,rfl,h,ce,λi x hi=>by have:i<8:=(Zv.1 hi).1;match i,hi with|0,hi=>cases hi;rfl|1,hi=>cases hi;rfl|2,hi=>cases hi;rfl|3,hi=>cases hi;rfl|4,hi=>cases hi;rfl|5,hi=>cases hi;rfl|6,hi=>cases hi;rfl|7,hi=>cases hi;rfl|i+8,_=>omega⟩
def qc(hX:cp X)(a:Int):C X (.func 198) [Ω a] m m.n (iq a) m:=by refine Cl.wQ (hX.no _ rfl) (MZ func198) rfl (by unfold iq;split <;>rfl) ?_;rw[F198];dsimp only[aG];refine ah λm1 o0 h0 p0=>?_;rw[show bz TE 131 [(0,Ω 9),(1,Ω 3),(2,Ω 9),(3,Ω 1)]=some (Sf.v ⟨9,3,9,1,0⟩) by kernel_rfl,ae];rw[show bz TE 131 [(0,Ω 8),(1,Ω 3),(2,Ω 6),(3,Ω 4),(4,Ω 1)]=some (Sf.v ⟨8,3,6,4,1⟩) by kernel_rfl,ae];rw[show bz TE 131 [(0,Ω 7),(1,Ω 3),(2,Ω 5),(3,Ω 5),(4,Ω 1)]=some (Sf.v ⟨7,3,5,5,1⟩) by kernel_rfl,ae];rw[show bz TE 131 [(0,Ω 6),(1,Ω 3),(2,Ω 4),(3,Ω 6),(4,Ω 3)]=some (Sf.v ⟨6,3,4,6,3⟩) by kernel_rfl,ae];rw[show bz TE 131 [(0,Ω 3),(1,Ω 2),(2,Ω 5),(3,Ω 3)]=some (Sf.v ⟨3,2,5,3,0⟩) by kernel_rfl,ae];rw[show bz TE 131 [(0,Ω 5),(1,Ω 2),(2,Ω 2),(3,Ω 7),(4,Ω 1)]=some (Sf.v ⟨5,2,2,7,1⟩) by kernel_rfl,ae];rw[show bz TE 131 [(0,Ω 8),(1,Ω 3),(2,Ω 8),(3,Ω 1),(4,Ω 4)]=some (Sf.v ⟨8,3,8,1,4⟩) by kernel_rfl,ae];rw[show bz TE 131 [(0,Ω 10),(1,Ω 1),(2,Ω 9)]=some (Sf.v ⟨10,1,9,0,0⟩) by kernel_rfl,ae];have⟨m11,H,F⟩:=aeR (m:=m1);rw[H,ak];have b0:m11.get m1.n=.cells (nB.flatMap Sf.c) 131 none:=(by rw[F];exact M.aU);have i0:m11.n=m1.n+1:=(by rw[F];exact M.lg);have gz:m11.get m.n=.cells (Sf.c ⟨0,0,0,0,0⟩) 131 none:=(by rw[F,M.cH ac];exact h0);have hs:=abY b0;have d0:∀{mm:M} {x:Sf},mm.get m.n=.cells x.c 131 none->aC TE mm 131 (Ψ m.n 0)=some x.v:=λh=>(by rw[BL,aI (n:=5) h be];rfl);clear F H;unfold ptrTo;refine aX (λvs mm lo=>vs=[.bool (!decide (0<=a/\a<=7))]/\m11=mm/\m.n<=lo) (λR hR=>?_) ?_;rw[aK,ae,ag];refine af (λc=>hR _ _ _ ⟨?_,rfl,ac⟩) (λc=>?_);have c:=R7 c;rw[Co];rfl;have c:=QB c;rw[cx,ae];refine hR _ _ _ ⟨?_,rfl,ac⟩;congr 2;rw[<-decide_not,ge];omega;rintro _ _ lo ⟨rfl,rfl,q0⟩;rw[av,ag];refine af (λc=>?_) (λc=>?_);rw[MK]at c;rw[show bz TE 131 []=some (Sf.v ⟨0,0,0,0,0⟩) by kernel_rfl,ae];refine aj iG gz rfl rfl rfl λm21 j0 e0 k0=>?_;rw[d0 (x:=⟨0,0,0,0,0⟩) e0,ae];refine⟨?_,ac⟩;unfold iq ia;rw[Od (QB c)];rfl;rw[MI]at c;have c:=R7 c;obtain⟨x,hx⟩:∃x,nB[a.toNat]?=some x:=⟨_,Iy (show a.toNat<8 by omega)⟩;have⟨p,cs,e1,e2,e3⟩:=hs.index aeE (k:=.i64) hx;obtain rfl:cs=x.c:=e3;rw[show((a.toNat:Nat):Int)=a by omega]at e1;have e2:aC TE m11 131 p=some x.v:=e2;rw[e1,ae,e2,ae];refine aj iG gz rfl rfl rfl λr0 l0 g0 n0=>?_;rw[d0 (x:=x) g0,ae];refine⟨?_,ac⟩;unfold iq ia;rw[F6 c,hx];rfl
def gX(a:Int):∃(x:Sf) (e:Int),iq a=.tuple #[x.v,Ω e]/\(decide (e=0)->ia a=some x)/\(decide (e=0)=false->ia a=none):=by unfold iq;cases ia a with|none=>exact⟨_,_,rfl,be,λ_=>rfl⟩|some x=>exact⟨x,0,rfl,λ_=>rfl,be⟩
def lW{x:Sf}(h:ia a=some x):(0<=x.st/\x.st<=10)/\(0<=x.po/\x.po<=10)/\(0<=x.sa/\x.sa<=10):=by unfold ia at h;split at h;have hm:=Vb h;simp only[nB,Qk,Uf,or_false]at hm;rcases hm with rfl|rfl|rfl|rfl|rfl|rfl|rfl|rfl <;>decide;cases h
def Vs{b:Nat}{x:Sf}{g:Option Nat}(h:m.get b=.cells x.c 131 g):aC TE m 3 (Ψ b (0+2))=some (Ω x.st)/\aC TE m 3 (Ψ b (0+3))=some (Ω x.po)/\aC TE m 3 (Ψ b (0+4))=some (Ω x.sa):=by refine⟨?_,?_,?_⟩ <;>(rw[bS,aH h];rfl)
def Ie(hX:cp X)(a b:Int):C X (.func 156) [Ω a,Ω b] m m.n (.bool (cg a b)) m:=by apply Cl.fG hX (MZ func156);rw[F156];dsimp only[aG];have⟨x,e,h1,F,h0⟩:=gX a;have⟨y,f,h2,H,i0⟩:=gX b;apply aw (qc hX a);rw[h1,aD,aD];simp only[Lf,S5,ae];refine ah λm6 p0 j0 q0=>?_;refine aj iG j0 rfl rfl rfl λm7 r0 k0 s0=>?_;apply aw (qc hX b);rw[h2,aD,aD];simp only[Lf,S5,ae];refine ah λm14 n0 b0 d0=>?_;refine aj iG b0 rfl rfl rfl λm15 o0 e0 g0=>?_;have g1:m15.get m.n=.cells x.c 131 none:=(by rw[g0 _ ac,d0 _ ac];exact k0);have g2:m15.get m7.n=.cells y.c 131 none:=e0;have⟨x0,x1,x2⟩:=Vs g1;have⟨y0,y1,y2⟩:=Vs g2;unfold ptrTo;refine aX (λvs mm lo=>vs=[.bool (cg a b)]/\m.n<=lo) (λR hR=>?_) ?_;simp only[jz,jy,jx,ae,x0,x1,x2,y0,y1,y2,aJ,cK,cW,aL,ag];refine af (λc1=>?_) (λc1=>hR _ _ _ ⟨by unfold cg;rw[h0 c1],ac⟩);refine af (λc2=>?_) (λc2=>hR _ _ _ ⟨by unfold cg;rw[F c1,i0 c2],ac⟩);have⟨s1,s2,s3⟩:=lW (F c1);have⟨t1,t2,t3⟩:=lW (H c2);have hS:cg a b=(decide (x.st<=y.st+1) && decide (y.po<=x.po+1) && decide (x.sa<=y.sa+1)):=(by unfold cg;rw[F c1,H c2]);rw[wrap64 (x:=y.st+1) ac ac,wrap64 (x:=x.po+1) ac ac,wrap64 (x:=y.sa+1) ac ac];refine af (λc3=>?_) (λc3=>hR _ _ _ ⟨be,ac⟩);refine af (λc4=>?_) (λc4=>hR _ _ _ ⟨be,ac⟩);exact hR _ _ _ ⟨be,ac⟩;rintro _ _ lo ⟨rfl,l0⟩;rw[av];exact⟨rfl,l0⟩
def zb(hX:cp X)(a b:Int):C X (.func 158) [Ω a,Ω b] m m.n (.bool (bQ a b)) m:=by apply Cl.fG hX (MZ func158);rw[F158];dsimp only[aG];have⟨x,e,h1,F,h0⟩:=gX a;have⟨y,f,h2,H,i0⟩:=gX b;apply aw (qc hX a);rw[h1,aD,aD];simp only[Lf,S5,ae];refine ah λm6 p0 j0 q0=>?_;refine aj iG j0 rfl rfl rfl λm7 r0 k0 s0=>?_;apply aw (qc hX b);rw[h2,aD,aD];simp only[Lf,S5,ae];refine ah λm14 n0 b0 d0=>?_;refine aj iG b0 rfl rfl rfl λm15 o0 e0 g0=>?_;have g1:m15.get m.n=.cells x.c 131 none:=(by rw[g0 _ ac,d0 _ ac];exact k0);have g2:m15.get m7.n=.cells y.c 131 none:=e0;have⟨x0,x1,x2⟩:=Vs g1;have⟨y0,y1,y2⟩:=Vs g2;unfold ptrTo;refine aX (λvs mm lo=>vs=[.bool (bQ a b)]/\m.n<=lo) (λR hR=>?_) ?_;simp only[jz,jy,jx,ae,x0,x1,x2,y0,y1,y2,aJ,cK,cW,aL,ag];refine af (λc1=>?_) (λc1=>hR _ _ _ ⟨by unfold bQ;rw[h0 c1],ac⟩);refine af (λc2=>?_) (λc2=>hR _ _ _ ⟨by unfold bQ;rw[F c1,i0 c2],ac⟩);have⟨s1,s2,s3⟩:=lW (F c1);have⟨t1,t2,t3⟩:=lW (H c2);have hS:bQ a b=(decide (x.st<=y.st) && decide (y.po<=x.po) && decide (x.sa<=y.sa+1)):=(by unfold bQ;rw[F c1,H c2]);rw[wrap64 (x:=y.sa+1) ac ac];refine af (λc3=>?_) (λc3=>hR _ _ _ ⟨be,ac⟩);refine af (λc4=>?_) (λc4=>hR _ _ _ ⟨be,ac⟩);exact hR _ _ _ ⟨be,ac⟩;rintro _ _ lo ⟨rfl,l0⟩;rw[av];exact⟨rfl,l0⟩
section
variable {α:Type} [aQ α] {T:TypeId}
def Ap.K4(H:vu TE T α)(b0:aQ.dQ α=[]){n1:Nat}{l ys:List α}{v y:Φ}(h:Ap n1 m l v)(hy:Sl m ys y)(hn:n1<=m.n)(hs:l.length+ys.length<=1000000):
  ∃v' m1,aR TE (m.wl m.n) .append [T,T] [v,y]=some (v',m1)/\Ap n1 m1 (l++ys) v'/\m.n<=m1.n/\n1<=m1.low/\∀c,c<n1->m1.get c=m.get c:=by by_cases F:ys=[];subst F;rcases h with h|⟨b,cs,te,rfl,h2,h3⟩;obtain⟨v',m1,e1,ho,hf,hl,_⟩:=h.append H be hy hn ac;exact⟨v',m1,e1,.inl ho,hf.n,hl,λc hc=>hf.get c hc⟩;refine⟨_,m.wl m.n,append_nil H (ID _) be ?_,?_,ID _,hn,λ_ _=>rfl⟩;rcases hy with⟨rfl,_⟩|⟨b',o,c,bc,g,rfl,_⟩;grind;grind;rw[Y4];exact .inr ⟨b,cs,te,rfl,h2,h3.an Ext.refl.wl⟩;have⟨v',m1,e1,ho,h1,h2,h3⟩:=h.append H b0 hy F hn hs;exact⟨v',m1,e1,.inl ho,h1,h2,h3⟩
def Ap.lit0{n1 b:Nat}{g:Option Nat}(h:m.get b=.cells [] (aQ.ty α) none):Ap n1 m ([]:List α) (RZ b 0 0 0):=
 .inr ⟨b,[],_,rfl,h,.inr ⟨b,0,0,[],none,rfl,h,co,be⟩⟩
end
def KJ{b:Nat}{x:UW}(h:m.get b=.cells x.c 44 none)(F:one x.w)(H:Sl m x.u.shape x.w)(hl:x.u.shape.length<1000000):cC m [x] (RZ b 0 1 1):=
 ⟨kY h ⟨rfl,F⟩,be,be,.inr ⟨b,0,1,_,none,rfl,ID _,h,.inl rfl⟩⟩
variable{x:KW}
def CW(h:m.get b=.cells x.c 69 g):aC TE m 3 (Ψ b (0+0+0))=some (Ω x.u.id)/\aC TE m 44 (Ψ b (0+0))=some (x.u.v x.w)/\aC TE m 31 (Ψ b (0+6))=some x.mv/\aC TE m 69 (Ψ b 0)=some x.v:=by refine⟨?_,?_,?_,?_⟩;rw[bS,aH h];rfl;rw[qw,aI (n:=6) h dg];rfl;rw[kn,aH h];rfl;rw[Kl,aI (n:=7) h dg];rfl
def Qg{l:List Mk}{v:Φ}(h:Sl m l v){i:Nat}{x:Mk}(F:l[i]?=some x):∃b o,aE TE 31 v (Ω i)=some (Ψ b o)/\aC TE m 3 (Ψ b (o+0))=some (Ω x.id):=by have⟨b,o,bc,g,cs,H,hb,hr,hle,hj⟩:=h.jr cO (k:=.i64) F;obtain rfl:cs=x.c:=hr;refine⟨b,o,H,?_⟩;rw[bS,aH hb];exact hj 0 (by show 0<5;decide)
def FZ{b:Nat}{x:Fc}{g:Option Nat}(h:m.get b=.cells x.c 52 g):aC TE m 3 (Ψ b (0+0))=some (Ω x.un)/\aC TE m 3 (Ψ b (0+1))=some (Ω x.side)/\aC TE m 52 (Ψ b 0)=some x.v:=by refine⟨?_,?_,?_⟩;rw[bS,aH h];rfl;rw[bS,aH h];rfl;rw[E8,aI (n:=2) h be];rfl
def IQ{b:Nat}{x:Mo}{g:Option Nat}(h:m.get b=.cells x.c 95 g):aC TE m 3 (Ψ b (0+0))=some (Ω x.a)/\aC TE m 3 (Ψ b (0+1))=some (Ω x.b)/\aC TE m 3 (Ψ b (0+2))=some (Ω x.dE)/\aC TE m 95 (Ψ b 0)=some x.v:=by refine⟨?_,?_,?_,?_⟩;rw[bS,aH h];rfl;rw[bS,aH h];rfl;rw[bS,aH h];rfl;rw[Kj,aI (n:=3) h be];rfl
def J9{l:List Mo}{v:Φ}(h:Sl m l v){i:Nat}{x:Mo}(H:l[i]?=some x):∃b o,aE TE 36 v (Ω i)=some (Ψ b o)/\aC TE m 95 (Ψ b o)=some x.v/\
  aC TE m 3 (Ψ b (o+0))=some (Ω x.a)/\aC TE m 3 (Ψ b (o+1))=some (Ω x.b):=by have⟨b,o,bc,g,cs,e1,hb,hr,hle,hj⟩:=h.jr kf (k:=.i64) H;obtain rfl:cs=x.c:=hr;refine⟨b,o,e1,?_,?_,?_⟩;have⟨p,F,e2,e3,e4⟩:=h.index kf (k:=.i64) H;obtain rfl:p=Ψ b o:=Option.some.inj (e2.symm.trans e1);obtain rfl:F=x.c:=e4;exact e3;rw[bS,aH hb];exact hj 0 (by show 0<3;decide);rw[bS,aH hb];exact hj 1 (by show 1<3;decide)
set_option maxHeartbeats 1000000 in
def ae4(hX:cp X){y:Yd}{r r2 st rc mo:Φ}(hV:sS m y r r2 st rc mo)(hP:sU y):C X (.func 110) [yv r r2 st rc mo] m m.n HT m:=by
 have a7:=hV.iH;have⟨⟨l,G2,hF⟩,R4,⟨kl,W4,hK⟩,a5,c5⟩:=hV;have f6:l.length<=12:=(by have:=hP.xK.len;rwa[<-G2,cD]at this);have g6:kl.length<=12:=(by have:=hP.SH;rwa[<-W4,lQ]at this);have d5:=hP.LM;have h6:=hP.Wp;have i6:=hP.TN;apply Cl.fG hX (MZ func110);rw[F110];dsimp only[aG];refine ah λm1 b7 e5 f5=>?_;have g1:m1.get m.n=.cells (yc r r2 st rc mo) 38 none:=e5;have i1:Ext m m1:=⟨ac,f5⟩;have k3:=hF.an i1;have j1:=R4.an i1;have a2:=hK.an i1;have i2:=a5.an i1;have l2:=c5.an i1;obtain⟨y0,y1,y2,y3, -⟩:=eS g1;unfold ptrTo;simp only[dm,dN,eK,fy,bJ,ae];have j6:y.ms.length<=20:=hP.C2.len;refine aX (λvs mm lo=>vs=[IA]/\m1=mm/\m.n<=lo) (λQ hQ=>?_) ?_
 ·rw[y0,ae];apply aw (nH hX k3 ac j1 ac);rw[G2,fb hP.xK,ib.2 hP.C2,bC,ae,ag];show lR false _ _;rw[aT,y1,ae,a2.sl.len ff,ak,cx,ae,ag,Co,aT,y2,ae,i2.len eV,ak,cx,ae,ag,Co,aT,y3,ae,l2.len kf,ak,cx,ae,Co];exact hQ _ _ _ ⟨rfl,rfl,ac⟩
 rintro _ _ g5 ⟨rfl,rfl,k6⟩;rw[av,ag,aT,kG,ak];obtain⟨m5,l1⟩:∃x,x=m1.push (.cells [] 71 none):=⟨_,rfl⟩;rw[<-l1];have c7:m5.n=m1.n+1:=(by rw[l1];exact M.lg);have h5:m5.get m1.n=.cells [] 71 none:=(by rw[l1];exact M.aU);have M2:Ext m1 m5:=l1 ▸ Ext.refl.push;clear l1;rw[(yR (M2.cells g1)).2.2,ae];obtain⟨v31,m32,q1,q2,q3,q4,q5⟩:=(Ap.lit0 (n1:=m1.n) (g:=none) h5).K4 sN rfl (j1.an M2) ac be;rw[q1,ak];rw[List.nil_append]at q2;have v2:m.n<=min g5 m32.low:=ac;have l3:Ext m1 m32:=⟨ac,λc hc=>by rw[q5 c hc,M2.get c hc]⟩;clear q1 q4 q5;refine Lp.intro (γ:=Nat) (λi=>kl.length-i) (λi vs mm lo=>∃z v,vs=[z,v,.int .i64 i]/\i<=kl.length/\Ext m1 mm/\m.n<=lo/\Ap m1.n mm (y.ms++(y.st.take i).flatMap Kp.ms) v) 0 ⟨_,_,rfl,PS _,l3,v2,be⟩ ?_;rintro i vs mm lo ⟨z,v,rfl,hi,l0,H,O2⟩;have nm:=l0.n;obtain⟨z0,z1,z2,z3, -⟩:=eS (l0.cells g1);have m3:=a2.an l0;rw[av,av,av,z1,ae,m3.sl.len ff,ak,aK,ae,ag];refine af (λd0=>?_) (λP2=>?_)
 ·have d0:i < kl.length:=be;obtain⟨x,hx⟩:∃x,kl[i]?=some x:=⟨_,Iy d0⟩;have c1:=Vb hx;have r1:y.st[i]?=some x.k:=be;have v1:=Vb r1;have⟨b,o,e1,e2,e3,o1,o2⟩:=DU m3.sl hx;rw[ae,e1,ae,e3,ae];refine ah λd7 l6 n3 m6=>?_;refine aj Gg n3 rfl rfl (KW.dz o1 o2) λc2 n6 o3 o6=>?_;have d2:c2.get mm.n=.cells x.c 69 none:=o3;have g0:Ext mm c2:=⟨ac,be⟩;have e7:=g0.n;obtain⟨w0,w1,w2,w3, -⟩:=eS ((l0.trans g0).cells g1);obtain⟨k0,k1,k2, -⟩:=CW d2;rw[w0,ae,cf,ae,aW,ae,k0,ae];have r3:cy (bI l) x.u.id=none:=(by rw[G2];exact uZ λu hu=>hP.off _ v1 u hu);have A3:=k3.an (l0.trans g0);obtain⟨rv,f7,i5,B3,f60⟩:=pO (m:=c2) hX A3 ac (j1.one) x.u.id;apply aw i5;unfold iP at f60;rw[r3]at f60;dsimp only at f60;subst f60;rw[aD,aD];simp only[Lf,S5,ae];have g7:=B3.n;refine ah λm64 r6 G3 O3=>?_;refine aj dV G3 rfl rfl rfl λe0 s6 u6 c4=>?_;have h0:Ext c2 e0:=⟨ac,λc hc=>by rw[c4 c ac,O3 c ac,B3.get c hc]⟩;have n0:=l0.trans (g0.trans h0);obtain⟨k0,k1,k2, -⟩:=CW (h0.cells d2);have A2:=a2.an n0
  have r0:∀{R:ν->M->Nat->Prop} {F:Nat},(∀d1 F,Ext e0 d1->m.n<=F->R [IA] d1 F)->m.n<=F->
    aS (aC TE e0 44 (.pointer (some ⟨mm.n,0+0,none⟩))) λj5=>(dn (aO TE e0 28 1 [(0,j5)]) λk5 A1=>(aS (bz TE 30 [(0,k5)]) λl5=>(aS (az TE 69 (.pointer (some ⟨mm.n,0,none⟩)) 1) λd4=>(aS (aC TE A1 31 d4) λe4=>(aS (bz TE 33 [(0,l5),(1,e4)]) λf4=>(lM TE X (.func 150) [f4] A1 λg4 h4 j4=>(aS (CT .not g4) λk4=>(R [k4] h4 (min F j4))))))))):=by
   intro R F hR s0
   rw[k1,ae,show(x.u.v x.w)=UW.v ⟨x.u,x.w⟩from rfl,Aj,ak]
   obtain⟨A1,B1⟩:∃q,q=e0.push (.cells (UW.c ⟨x.u,x.w⟩) 44 none):=⟨_,rfl⟩
   rw[<-B1]
   have A0:Ext e0 A1:=B1 ▸ Ext.refl.push
   have l4:A1.get e0.n=.cells (UW.c ⟨x.u,x.w⟩) 44 none:=by rw[B1];exact M.aU
   have i0:=A2.an A0
   obtain⟨-, -,j2, -⟩:=CW ((h0.trans A0).cells d2)
   rw[vn rfl,ae,dM,ae,j2,ae]
   rw[show bz TE 33 [(0,.agg (cells (Value.slice (some ⟨e0.n,0,none⟩) 1 1)).toArray),(1,x.mv)]=some (.agg #[.slice (some ⟨e0.n,0,none⟩) 1 1,x.mv]) by rw[qJ rfl (by rw[(i0.mv x c1).cells];rfl),(i0.mv x c1).cells];rfl,ae]
   have m4:=KJ l4 o1 (i0.sh x c1) (i0.ln x c1)
   have n4:=hP.G9 _ v1
   have n5:x.ms.length<=20:=n4.len
   apply aw (nH hX m4 co (i0.mv x c1) ac)
   rw[show bI [(⟨x.u,x.w⟩:UW)]=[x.u]from rfl,fb (hP.QA _ v1),ib.2 n4,bC,ae]
   exact hR _ _ A0 (by have:=A0.n;omega)
  refine aX (λvs d1 F=>vs=[IA]/\Ext e0 d1/\m.n<=F) (λQ hQ=>?_) ?_
  ·rw[ag,aT,cx,ae,ag];simp only[cf,aW,ae];refine af (λc=>?_) (λc=>r0 (λd1 F h1 h2=>hQ _ _ _ ⟨rfl,h1,h2⟩) ac);obtain⟨j,rfl⟩:∃j,i=j+1:=⟨i-1,be⟩;obtain⟨x',p0⟩:∃x',kl[j]?=some x':=⟨_,vA⟩;obtain⟨b',o',q0,Q2, -⟩:=DU A2.sl p0;obtain⟨u0,u1,u2,u3, -⟩:=eS (n0.cells g1);have v6:x'.u.id < x.u.id:=(by have hj:y.st[j]?=some x'.k:=be;have h1:=Zv.1 hj;have h2:=Zv.1 r1;have:=TF.1 hP.zA j (j+1) h1.1 h2.1 ac;rwa[h1.2,h2.2]at this);rw[k0,ae,u1,ae,eY,ae,wrap64,show((j+1:Nat):Int)-1=(j:Int) by omega,q0,ae,cf,ae,aW,ae,Q2,ae,cK,ae,ag,Co,aT];exact r0 (λd1 F h1 h2=>hQ _ _ _ ⟨rfl,h1,h2⟩) ac
  rintro _ h7 w6 ⟨rfl,B0,o5⟩;have i7:=B0.n;rw[av,ag,aT,dM,ae];obtain⟨-, -,j2, -⟩:=CW ((h0.trans B0).cells d2);rw[j2,ae];have G1:=n0.trans B0;have o4:=a2.an G1;have r4:(y.ms++(y.st.take i).flatMap Kp.ms).length+x.ms.length<=20:=(by have e:allM y.ms y.st=(y.ms++(y.st.take i).flatMap Kp.ms)++(x.ms++(y.st.drop (i+1)).flatMap Kp.ms):=(by unfold allM;(conv=>lhs;rw[<-Zd i y.st]);rw[Mz,QJ (Zv.1 r1).1,List.flatMap_cons,(Zv.1 r1).2];simp);grind);obtain⟨u4,y6,p1,p2,p3,p4,p5⟩:=(O2.an ((g0.trans h0).trans B0)).K4 sN rfl (o4.mv x c1) ac ac;rw[p1,ak,aL,ae,wrap64];refine⟨i+1,ac,z,u4,rfl,ac,⟨ac,λc hc=>by rw[p5 c hc,G1.get c hc]⟩,ac,?_⟩;rw[QM,r1,Mz,<-UO];simpa using p2
 have r5:i=y.st.length:=(by grind);subst r5;rw[Jg]at O2;have g2:=O2.sl;obtain⟨A,hA⟩:∃A,A=y.ms++y.st.flatMap Kp.ms:=⟨_,rfl⟩;rw[<-hA]at g2;have r4:A.length<=20:=(by rw[hA];exact d5);have u5:∀{i j:Nat} {a b:Mk},j < i->A[i]?=some a->A[j]?=some b->a.id≠b.id:=(by intro i j a b v5 ha hb e;have h1:=Zv.1 ha;have h2:=Zv.1 hb;have hn:=hP.nod;unfold allM at hn;rw[<-hA,List.Nodup,UR]at hn;have:=TF.1 hn j i h2.1 h1.1 v5;grind);refine Lp.intro (γ:=Nat) (λi=>A.length-i) (λi vs m' lo=>∃z,vs=[z,.int .i64 i]/\i<=A.length/\mm=m'/\m.n<=lo) 0 ⟨_,rfl,PS _,rfl,H⟩ ?_;rintro i _ _ lo ⟨z,rfl,hi,rfl,H⟩;rw[av,av,g2.len cO,ak,aK,ae,ag];refine af (λd0=>?_) (λP2=>?_)
 ·have d0:i < A.length:=be;obtain⟨a,ha⟩:∃a,A[i]?=some a:=⟨_,Iy d0⟩;have⟨b0,o0,ea,la⟩:=Qg g2 ha;refine Lp.intro (γ:=Nat) (λk=>i-k) (λk vs m' lo=>∃z,vs=[z,.int .i64 k]/\k<=i/\mm=m'/\m.n<=lo) 0 ⟨_,rfl,PS _,rfl,H⟩ ?_;rintro k _ _ lo ⟨z,rfl,hk,rfl,H⟩;rw[av,av,aK,ae,ag];refine af (λB2=>?_) (λz6=>?_);have B2:k < i:=be;obtain⟨c,hc⟩:∃c,A[k]?=some c:=⟨_,vA⟩;have⟨b1,o1,ec,lc⟩:=Qg g2 hc;rw[ea,ae,bT,ae,la,ae,ec,ae,bT,ae,lc,ae,aJ,ae,ag,QY (u5 B2 ha hc),aT,aL,ae,wrap64];exact⟨k+1,ac,z,be,ac,rfl,H⟩;rw[aL,ae,wrap64];exact⟨i+1,ac,z,be,ac,rfl,H⟩
 rw[ak,cx,ae,ag,Co,aT];refine Lp.intro (γ:=Nat) (λi=>y.rc.length-i) (λi vs m' lo=>∃z,vs=[z,.int .i64 i]/\i<=y.rc.length/\Ext m1 m'/\m.n<=lo) 0 ⟨_,rfl,PS _,l0,H⟩ ?_;rintro j _ w4 lo ⟨z,rfl,hj,j0,H⟩;have T2:=i2.an j0;obtain⟨-, -,u2, -, -⟩:=eS (j0.cells g1);have j7:=j0.n;rw[av,av,u2,ae,T2.len eV,ak,aK,ae,ag];refine af (λd0=>?_) (λP2=>?_)
 ·have d0:j < y.rc.length:=be;obtain⟨x,hx⟩:∃x,y.rc[j]?=some x:=⟨_,Iy d0⟩;have⟨p,e1,e2⟩:=D4 T2 hx;have⟨⟨b1,b2⟩,b3,b4⟩:=hP.zK x (Vb hx);rw[ae,e1,ae,e2,ae];refine ah λA6 w5 c3 y5=>?_;refine aj Gh c3 rfl rfl rfl λH1 z5 d3 A5=>?_;have y4:H1.get w4.n=.cells x.c 52 none:=d3;have K1:Ext w4 H1:=⟨ac,be⟩;have⟨f0,f1,fv⟩:=FZ y4;have O0:=j0.trans K1;simp only[iZ,kF,ae];refine aX (λvs m' F=>vs=[IA]/\H1=m'/\m.n<=F) (λQ hQ=>?_) ?_;rw[f0,ae];apply aw (kB hX _ _ _);rw[show dt x.un 0 99=true by unfold dt;simp;omega,bC,ae,ag];show lR false _ _;rw[aT,f1,ae];apply aw (kB hX _ _ _);rw[show dt x.side (-2) 7=true by unfold dt;simp;omega,bC,ae,ag];show lR false _ _;rw[aT,cx,ae,ag];refine af (λc=>?_) (λc=>hQ _ _ _ ⟨rfl,rfl,ac⟩);obtain⟨q,rfl⟩:∃q,j=q+1:=⟨j-1,be⟩;obtain⟨x',p0⟩:∃x',y.rc[q]?=some x':=⟨_,vA⟩;have g3:=T2.an K1;have⟨p',q0,Q2⟩:=D4 g3 p0;obtain⟨-, -,B5, -, -⟩:=eS (O0.cells g1);have O1:jW x' x:=(by have h1:=Zv.1 p0;have h2:=Zv.1 hx;have:=TF.1 hP.zf q (q+1) h1.1 h2.1 ac;rwa[h1.2,h2.2]at this);rw[B5,ae,eY,ae,wrap64,show((q+1:Nat):Int)-1=(q:Int) by omega,q0,ae,Q2,ae,fv,ae];apply aw (zy hX _ _);rw[Dk O1,bC,ae];exact hQ _ _ _ ⟨rfl,rfl,ac⟩;rintro _ _ F ⟨rfl,rfl,s0⟩;rw[av,ag,aT,aL,ae,wrap64];exact⟨j+1,ac,z,be,ac,O0,s0⟩
 refine Lp.intro (γ:=Nat) (λi=>y.mo.length-i) (λi vs m' lo=>∃z,vs=[z,.int .i64 i]/\i<=y.mo.length/\Ext m1 m'/\m.n<=lo) 0 ⟨_,rfl,PS _,j0,H⟩ ?_;rintro j _ A4 lo ⟨z,rfl,hj,P0,H⟩;have h3:=l2.an P0;obtain⟨-, -, -,u3, -⟩:=eS (P0.cells g1);have k7:=P0.n;rw[av,av,u3,ae,h3.len kf,ak,aK,ae,ag];refine af (λd0=>?_) (λP2=>⟨rfl,H⟩);have d0:j < y.mo.length:=be;obtain⟨x,hx⟩:∃x,y.mo[j]?=some x:=⟨_,Iy d0⟩;obtain⟨p,o,e1,e2, -, -⟩:=J9 h3 hx;have⟨b1,b2,b3,b4,b5⟩:=hP.IN x (Vb hx);rw[ae,e1,ae,e2,ae];refine ah λB6 O5 i3 a6=>?_;refine aj JL i3 rfl rfl rfl λQ0 b6 j3 c6=>?_;have B4:Q0.get A4.n=.cells x.c 95 none:=j3;have T1:Ext A4 Q0:=⟨ac,be⟩;obtain⟨f0,f1,f2, -⟩:=IQ B4;have a1:=P0.trans T1;obtain⟨-, -, -,d6, -⟩:=eS (a1.cells g1);simp only[eH,fw,su,ae];refine aX (λvs m' F=>vs=[IA]/\Q0=m'/\m.n<=F) (λQ hQ=>?_) ?_
 ·rw[f0,ae];apply aw (kB hX _ _ _);rw[show dt x.a 0 99=true by unfold dt;simp;omega,bC,ae,ag];show lR false _ _;rw[aT,f1,ae];apply aw (kB hX _ _ _);rw[show dt x.b 0 99=true by unfold dt;simp;omega,bC,ae,ag];show lR false _ _;rw[aT,f0,ae,f1,ae,cW,ae,ag,Co,aT,f2,ae];apply aw (kB hX _ _ _);rw[show dt x.dE 0 7=true by unfold dt;simp;omega,bC,ae];exact hQ _ _ _ ⟨rfl,rfl,ac⟩
 rintro _ _ l7 ⟨rfl,rfl,v2⟩;rw[av,ag,aT];refine aX (λvs m' F=>vs=[IA]/\Q0=m'/\m.n<=F) (λQ hQ=>?_) ?_
 ·rw[cx,ae,ag];refine af (λc=>?_) (λc=>hQ _ _ _ ⟨rfl,rfl,ac⟩);obtain⟨q,rfl⟩:∃q,j=q+1:=⟨j-1,be⟩;obtain⟨x',p0⟩:∃x',y.mo[q]?=some x':=⟨_,vA⟩;obtain⟨b',o',q0, -,O4,e6⟩:=J9 (h3.an T1) p0;have O1:nh x' x:=(by have h1:=Zv.1 p0;have h2:=Zv.1 hx;have:=TF.1 hP.DS q (q+1) h1.1 h2.1 ac;rwa[h1.2,h2.2]at this);unfold nh at O1;rw[f0,ae,d6,ae,eY,ae,wrap64,show((q+1:Nat):Int)-1=(q:Int) by omega,q0,ae,eH,ae,O4,ae,aK,ae,ag,Co,aT];rw[ae,ae,ae,q0,ae,eH,ae,O4,ae,aJ,ae,ag];refine af (λc=>?_) (λc=>hQ _ _ _ ⟨rfl,rfl,ac⟩);have c:=R7 c;rw[f1,ae,ae,ae,q0,ae,fw,ae,e6,ae,cK,ae,Co];exact hQ _ _ _ ⟨rfl,rfl,ac⟩
 rintro _ _ F ⟨rfl,rfl,s0⟩;rw[av,ag,aT,aL,ae,wrap64];exact⟨j+1,ac,z,be,ac,a1,s0⟩
end
section
set_option maxRecDepth 100000
set_option maxHeartbeats 0
variable{W:Words}{x0 x1:Φ}{m:M}{R:ν->M->Nat->Prop}
def F113:=cL (P:=fP TE W f113 [x0,x1] m R)
def F112:=cL (P:=fP TE W f112 [x0,x1] m R)
def F68:=cL (P:=fP TE W f68 [x0,x1] m R)
def F21:=cL (P:=fP TE W f21 [x0,x1] m R)
def F22:=cL (P:=fP TE W f22 [x0,x1] m R)
def F24:=cL (P:=fP TE W f24 [x0,x1] m R)
abbrev abO{W:Words}{x0 x1:Φ}{m:M}{R:ν->M->Nat->Prop}:=cL (P:=fP TE W Tryz.f6 [x0,x1] m R)
abbrev F5{W:Words}{x0 x1:Φ}{m:M}{R:ν->M->Nat->Prop}:=cL (P:=fP TE W Tryz.f5 [x0,x1] m R)
end
section
variable {X:aF} {m:M}
structure AW where
 a:Ac
 w:Φ
abbrev AW.c(x:AW):ν:=x.a.c x.w
abbrev AW.v(x:AW):Φ:=x.a.v x.w
def Ac.dz{a:Ac}(h:one w):(a.c w).all one:=by show(true && (true && (true && (true && (one w && true)))))=true;rw[h];rfl
instance:aQ AW where
 ty:=73
 sz:=15
 agg:=true
 dQ:=[]
 rep _ x cs:=cs=x.c/\one x.w=true
 pos:=ce
 one:=be
 len:=dg
 iH:=by rintro _ x _ ⟨rfl,h⟩;exact Ac.dz h
 aY:=be
def EG:qQ TE 60 73 AW:=⟨ai.t60,ai.t73,bv,⟨_,rfl⟩,rfl,bv,rfl,rfl⟩
def FN:vu TE 60 AW:=⟨ai.t60,ai.t73,bv,rfl,rfl,bv,ce,rfl⟩
def VO{l:List AW}{v:Φ}(h:Sl m l v){i:Nat}{x:AW}(F:l[i]?=some x):∃p,aE TE 60 v (Ω i)=some p/\aC TE m 73 p=some x.v:=by have⟨p,cs,H,e2,e3⟩:=h.index EG (k:=.i64) F;obtain⟨rfl, -⟩:cs=x.c/\_:=e3;exact⟨p,H,e2⟩
structure vv(m:M)(l:List AW)(v:Φ):Prop where
 sl:Sl m l v
 sh:∀x∈l,Sl m x.a.un.shape x.w
 ln:∀x∈l,x.a.un.shape.length < 1000000
 kd:∀x∈l,x.a.kind≠3/\x.a.kind≠4
def vv.aY{l:List AW}{v:Φ}(h:vv m l v)(hk:∀c cs t g,m.get c=.cells cs t g->(t=73\/t=85)->m'.get c=.cells cs t g):vv m' l v:=
 ⟨h.sl.aY λc cs t g F H=>hk c cs t g F (.inl (by simpa[aQ.ty,aQ.dQ]using H)),λx hx=>(h.sh x hx).aY λc cs t g F H=>hk c cs t g F (.inr (by simpa[aQ.ty,aQ.dQ]using H)),h.ln,h.kd⟩
def vv.an{l:List AW}{v:Φ}(h:vv m l v)(F:Ext m m'):vv m' l v:=h.aY λ_ _ _ _ H _=>F.cells H
theorem xV{us:List Un}{ms:List Mk}{a:Ac}:∀{l:List Ac},fL us ms (l++ [a])=(fL us ms l).bind λp=>tX p.1 p.2 a
 |[]=>by simp only[List.nil_append,fL];grind
 |b::r=>by rw[GC,fL,fL];cases tX us ms b with|none=>rfl|some p=>exact xV
theorem xW{us:List Un}{ms:List Mk}{q:List Ac}:∀{l:List Ac},fL us ms l=none->fL us ms (l++q)=none
 |[],h=>by cases h
 |b::r,h=>by rw[GC,fL];rw[fL]at h;cases e:tX us ms b with|none=>rfl|some p=>rw[e]at h;exact xW h
def gV.eo(h:gV vs F m' (.agg #[r,r2]))(H:D.eo (.agg #[r,r2]))(m:M):gV vs F m (.agg #[r,r2]):=
 gV.flat (t:=HT) h (by show(D.eo (.agg #[r,r2]) && (true && true))=true;rw[H];rfl) m
def qR(D:Option (List Un×List Mk))(m':M)(F:Φ):Prop:=match D with
 |some (H,ns)=>∃r r2 n,F=.tuple #[.agg #[r,r2],.int .i64 n,.int .i64 0]/\gV H ns m' (.agg #[r,r2])
 |none=>∃n,F=.tuple #[.agg #[.slice none 0 0,.slice none 0 0],.int .i64 n,.int .i64 170]
def qR.flat{D:Option (List Un×List Mk)}{v t u:Φ}(h:qR D m' (.tuple #[v,t,u]))(H:aZ (.tuple #[v,t,u]))(m:M):qR D m (.tuple #[v,t,u]):=by unfold qR at h⊢;split at h;have⟨r,r2,n,e,hs⟩:=h;cases e;have F:(D.eo (.agg #[r,r2]) && (true && (true && true))):=H;rw[De]at F;exact⟨r,r2,n,rfl,hs.eo F.1 m⟩;exact h
def JS{D:Option (List Un×List Mk)}{v t u:Φ}{lo:Nat}{Q:Prop}(H:Q)(h:qR D m' (.tuple #[v,t,u]))(F:m.n<=lo)(hx:Ext m m'):
  (aZ (aM [v,t,u])/\m.n<=lo/\(Q/\Ext m m/\qR D m (aM [v,t,u])))\/((aZ (aM [v,t,u])=false\/lo<m.n)/\(min m.n lo=m.n/\Ext m m'/\qR D m' (aM [v,t,u]))):=by cases hf:aZ (aM [v,t,u]);exact .inr ⟨.inl rfl,ac,hx,h⟩;exact .inl ⟨rfl,F,H,.refl,h.flat hf m⟩
set_option maxHeartbeats 1000000 in
theorem acM(hX:cp X){l:List UW}{ms:List Mk}{v vm va:Φ}{F:List AW}(hF:cC m l v)(hP:cq (bI l))(hm:Sl m ms vm)(hM:gR (bI l) ms)(ha:vv m F va)(M2:F.length<=40):
  ∃rv m',C X (.func 113) [.agg #[v,vm],va] m m.n rv m'/\Ext m m'/\qR (fL (bI l) ms (F.map AW.a)) m' rv:=by
 have o2:l.length<=12:=(by have:=hP.len;rwa[cD]at this);have O2:=hM.len;apply Cl.H0 hX (MZ func113);rw[F113];dsimp only[aG];refine ah λm1 P2 w1 Q2=>?_;refine ah λm2 T2 y1 A1=>?_;have i0:Ext m m2:=⟨ac,be⟩;have g1:m2.get m.n=.cells [v,vm] 33 none:=(by rw[A1 _ ac];exact w1);have gz:m2.get m1.n=.cells [U7,U7] 33 none:=y1;unfold ptrTo;rw[(jY g1).2.2.2,ae];apply aw (nH hX (hF.an i0) ac (hm.an i0) ac);rw[fb hP,ib.2 hM,bC,ae,ag];show lR false _ _;rw[aT,(jY g1).2.2.2,ae];obtain⟨acc,q,q2,m14,B1,B0,G1,f14,O0⟩:=Eb hX (hF.an i0) ac (hm.an i0) ac;apply aw B1;have b3:=B0.n;refine ah λm16 u2 P0 v2=>?_;refine aj eE P0 rfl rfl (by show(one q && (one q2 && true))=true;rw[f14.sl.one,O0.one];rfl) λm17 w2 H y2=>?_;have H:m17.get m14.n=.cells [q,q2] 33 none:=H;obtain⟨S,hS⟩:∃S,S=m14.n:=⟨_,rfl⟩;rw[<-hS]at H⊢;have l0:Ext m14 m17:=⟨ac,be⟩;have c3:m2.n<=S:=ac;have Q0:m.n<=min (min (min m.n m2.n) m2.n) m14.n:=ac;generalize min (min (min m.n m2.n) m2.n) m14.n=d3 at Q0;have a1:gV (bI l) ms m17 (.agg #[q,q2]):=⟨acc,q,q2,rfl,G1,f14.an l0,O0.an l0⟩;have H1:∀c,c < S->m17.get c=m14.get c:=λc hc=>l0.get c ac;refine Lp.intro (γ:=Nat) (λi=>F.length-i) (λi vs mm lo=>∃z1 z2 r r2 ws ns,vs=[z1,z2,.int .i64 i]/\i<=F.length/\(∀c,c < S->mm.get c=m14.get c)/\S < mm.n/\m.n<=lo/\mm.get S=.cells [r,r2] 33 none/\gV ws ns mm (.agg #[r,r2])/\fL (bI l) ms ((F.take i).map AW.a)=some (ws,ns)) 0 ⟨_,_,q,q2,_,_,rfl,PS _,H1,ac,ac,H,a1,rfl⟩ ?_;rintro i vs mm lo ⟨z1,z2,r,r2,ws,ns,rfl,hi,hk,e3,Q0,gS,Tp,b0⟩;have⟨K1,O1⟩:=EL hP hM b0;have y0:Ext m2 mm:=⟨ac,λc hc=>by rw[hk c ac,B0.get c hc]⟩;have j0:=(ha.an i0).an y0;have b1:=y0.cells gz
 have bad:∀{A0:M} {n0:Nat} {n:Int} {Q:Prop},Q->A0.get m1.n=.cells [U7,U7] 33 none->m.n<=n0->fL (bI l) ms (F.map AW.a)=none->
   aS (bz TE 33 []) λv=>dn (bw TE A0 33 (.pointer (some ⟨m1.n,0,none⟩)) v) λm' b=>aS (aC TE m' 33 (.pointer (some ⟨m1.n,0,none⟩))) λv'=>
    (aZ (aM [v',.int .i64 n,.int .i64 170])=true/\m.n<=min n0 b/\(Q/\Ext m m/\qR (fL (bI l) ms (F.map AW.a)) m (aM [v',.int .i64 n,.int .i64 170])))\/((aZ (aM [v',.int .i64 n,.int .i64 170])=false\/min n0 b < m.n)/\(min m.n (min n0 b)=m.n/\Ext m m'/\qR (fL (bI l) ms (F.map AW.a)) m' (aM [v',.int .i64 n,.int .i64 170]))):=by
  intro A0 n0 n Q hQ g A2 e
  rw[jU,ae]
  refine aj eE g rfl rfl rfl λm' g3 T1 h3=>?_
  rw[(jY T1).2.2.2,ae]
  exact .inl ⟨rfl,ac,hQ,.refl,by unfold qR;rw[e];exact⟨n,rfl⟩⟩
 rw[av,av,av,j0.sl.len EG,ak,aK,ae,ag];refine af (λc1=>?_) (λa2=>?_)
 ·have c1:i < F.length:=be;obtain⟨x,hx⟩:∃x,F[i]?=some x:=⟨_,Iy c1⟩;have d0:=Vb hx;have⟨p,e1,e2⟩:=VO j0.sl hx;have b2:(F.take (i+1)).map AW.a=(F.take i).map AW.a++ [x.a]:=(by rw[QM,hx,R6];rfl);have q0:fL (bI l) ms ((F.take (i+1)).map AW.a)=tX ws ns x.a:=(by rw[b2,xV,b0];rfl);have d1:F.map AW.a=(F.take (i+1)).map AW.a++(F.drop (i+1)).map AW.a:=(by rw[<-R6,Zd]);rw[cW,ae,ag,Co,aT,(jY gS).2.2.2,ae,e1,ae,e2,ae];have⟨i1,r',i3,er,eu,ef,es⟩:=Tp;cases er;have j3:i1.length<=12:=(by have:=K1.len;rwa[<-eu,cD]at this);have k3:=O1.len;obtain⟨rv,c2,d2,r0,k0⟩:=LR (m:=mm) (a:=x.a) hX ef ac es ac (j0.sh x d0) (j0.ln x d0) (j0.kd x d0).1 (j0.kd x d0).2;refine aw d2 ⟨ID _,?_⟩;have l3:=r0.n;rw[eu]at k0;unfold rh at k0;cases j1:tX ws ns x.a with|none=>rw[j1]at k0 q0;subst k0;rw[aD,aD];simp only[Lf,S5,ae];refine ah λg2 k1 o0 e0=>?_;refine aj eE o0 rfl rfl rfl λs0 l1 g0 h0=>?_;rw[bY,ae,ag,QY (show¬(170:Int)=0 by decide),Gp,bM];refine bad be ?_ ac (by rw[d1];exact xW q0);rw[h0 _ ac,e0 _ ac,r0.get _ ac];exact b1|some d=>have⟨i2,j2⟩:=d;rw[j1]at k0 q0;obtain⟨t1,t2,rfl,st⟩:=k0;have o1:one t1=true/\one t2=true:=(by have⟨_,_,_,e,_,h1,h2⟩:=st;cases e;exact⟨h1.sl.one,h2.one⟩);rw[aD,aD];simp only[Lf,S5,ae];refine ah λg2 k1 o0 e0=>?_;refine aj eE o0 rfl rfl (by show(one t1 && (one t2 && true))=true;rw[o1.1,o1.2];rfl) λs0 l1 g0 h0=>?_;have g0:s0.get c2.n=.cells [t1,t2] 33 none:=g0;rw[bY,ae,ag,Dk (show(0:Int)=0 from rfl),Pq,aT,(jY g0).2.2.2,ae];have p1:s0.get S=.cells [r,r2] 33 none:=(by rw[h0 _ ac,e0 _ ac,r0.get _ ac];exact gS);refine aj eE p1 rfl rfl be λm3 B2 r1 u0=>?_;rw[aL,ae,wrap64];refine⟨i+1,ac,z1,z2,t1,t2,i2,j2,be,ac,λc hc=>by rw[u0 c ac,h0 c ac,e0 c ac,r0.get c ac,hk c hc],ac,ac,r1,?_,q0⟩;refine st.aY λc cs t g hc ht=>?_;have n3:=M.aP hc;have k2:s0.get c=.cells cs t g:=be;rw[u0 c (λe=>be),k2]
 have l2:i=F.length:=(by have:¬(i:Int)< (F.length:Int):=QB a2;omega);subst l2;rw[Jg]at b0;rw[(jY gS).2.2.2,ae,ak];have o1:one r=true/\one r2=true:=(by have⟨_,_,_,e,_,h1,h2⟩:=Tp;cases e;exact⟨h1.sl.one,h2.one⟩);refine aj eE b1 rfl rfl (by show(one r && (one r2 && true))=true;rw[o1.1,o1.2];rfl) λu1 G2 p0 v1=>?_;have p0:u1.get m1.n=.cells [r,r2] 33 none:=p0;rw[(jY p0).2.2.2,ae];refine JS (m':=u1) be ?_ ac ⟨ac,λc hc=>by rw[v1 c ac,y0.get c ac,i0.get c hc]⟩;unfold qR;rw[b0];exact⟨r,r2,_,rfl,Tp.aY λc cs t g hc ht=>be⟩
def Ae(u v:Un):Bool:=(fD u v).isSome
def oe(D:Option (List Ac))(m':M)(F:Φ):Prop:=match D with
 |some L=>∃H v,F=.tuple #[v,.bool true]/\H.map AW.a=L/\vv m' H v
 |none=>∃v,F=.tuple #[v,.bool false]
def vv.nil{m:M}:vv m [] U7:=⟨.nil,λx F=>(by cases F),λx F=>(by cases F),λx F=>(by cases F)⟩
def oe.flat{D:Option (List Ac)}{v t:Φ}(h:oe D m' (.tuple #[v,t]))(H:aZ (.tuple #[v,t]))(m:M):oe D m (.tuple #[v,t]):=by unfold oe at h⊢;split at h;have⟨al,v',e,e1,hs⟩:=h;(cases e;have h1:=hs.sl;obtain⟨a,c,rfl⟩:=h1.form;cases a with|some a=>exact absurd (show(false && (true && true))=true from H) ce|none=>have hv:Go.D.bN (.slice none al.length c):=(by have b0:(Go.D.bN (.slice none al.length c) && (true && true)):=H;grind);have⟨e2,e3⟩:=nG h1 hv m;subst e2;exact⟨[],_,rfl,e1,⟨e3,λx F=>(by cases F),λx F=>(by cases F),λx F=>(by cases F)⟩⟩);exact h
def BA{x:AW}:aO TE m 60 1 [(0,x.v)]=some (.slice (some ⟨m.n,0,none⟩) 1 1,m.push (.cells x.c 73 none)):=bv
def OL{x y:AW}:aO TE m 60 2 [(0,x.v),(1,y.v)]=some (.slice (some ⟨m.n,0,none⟩) 2 2,m.push (.cells (x.c++y.c) 73 none)):=bv
def Pb{x y:AW}{b:Nat}(h:m.get b=.cells (x.c++y.c) 73 g)(F:one x.w)(H:one y.w):Sl m [x,y] (RZ b 0 2 2):=
 .inr ⟨b,0,2,_,g,rfl,h,ID _,λi z hi=>by match i with|0=>cases hi;exact⟨rfl,F⟩|1=>cases hi;exact⟨rfl,H⟩|i+2=>simp at hi⟩
def oR{x:AW}{P:Φ->M->Prop}(h1:one x.w)(hs:Sl m x.a.un.shape x.w)(hl:x.a.un.shape.length<1000000)(hk:x.a.kind≠3/\x.a.kind≠4)
  (hP:∀m1,Ext m m1->m1.n=m.n+1->m1.get m.n=.cells x.c 73 none->vv m1 [x] (RZ m.n 0 1 1)->P (RZ m.n 0 1 1) m1):
  dn (aO TE m 60 1 [(0,x.v)]) P:=by rw[BA,ak];have F:Ext m (m.push (.cells x.c 73 none)):=Ext.refl.push;have H:(m.push (.cells x.c 73 none)).get m.n=.cells x.c 73 none:=M.aU;exact hP _ F M.lg H ⟨kY H ⟨rfl,h1⟩,λy hy=>by rw[MV.1 hy];exact hs.an F,be,be⟩
def oX{k id:Int}:bz TE 73 [(0,Ω k),(2,Ω id)]=some (AW.v ⟨jX k id,U7⟩):=FH rfl rfl
def yK{u:Un}:bz TE 73 [(0,Ω 1),(1,u.v w)]=some (AW.v ⟨eD u,w⟩):=FI rfl rfl
def Sk:bz TE 73 [(0,Ω 5),(5,x.v)]=some (AW.v ⟨iI x,U7⟩):=acd rfl rfl
def yL:bz TE 52 [(0,Ω a),(1,Ω b)]=some (Fc.v ⟨a,b⟩):=adu rfl rfl
theorem wR{α:Type}{p:α->Bool}:∀{l:List α} {i:Nat} {x:α},l[i]?=some x->p x->(∀j y,j<i->l[j]?=some y->p y=false)->l.find? p=some x
 |[],i,x,h,_,_=>be
 |a::l,0,x,h,F,_=>be
 |a::l,i+1,x,h,F,H=>by rw[List.find?_cons,H 0 a ac rfl];exact wR (by simpa using h) F λj y hj hy=>H (j+1) y ac be
structure Vf(us:List Un)(id:Int)(m':M)(u:Un)(w:Φ)(b:Bool):Prop where
 sl:Sl m' u.shape w
 ln:u.shape.length < 1000000
 eq:cy us id=if b=true then some u else none
 z:b=false->u=.z
def iP.WY{id:Int}{F:Φ}(h:iP us id m' F)(H:cq us):∃u w b,F=.tuple #[u.v w,.bool b]/\Vf us id m' u w b:=by unfold iP at h;cases e:cy us id with|none=>rw[e]at h;exact⟨.z,U7,false,h,.nil,ce,be,λ_=>rfl⟩|some u=>rw[e]at h;have⟨w,h1,h2⟩:=h;have:=kc (H.val u (fq e).1);exact⟨u,w,true,h1,h2,ac,be,λh=>by cases h⟩
def Vf.an{id:Int}{u:Un}{b:Bool}(h:Vf us id m' u w b)(F:Ext m' m''):Vf us id m'' u w b:=⟨h.sl.an F,h.ln,h.eq,h.z⟩
def Hb{u:Un}:(eD u).kind≠3/\(eD u).kind≠4:=⟨(by decide:(1:Int)≠3),(by decide:(1:Int)≠4)⟩
def Tv:(iI x).kind≠3/\(iI x).kind≠4:=⟨(by decide:(5:Int)≠3),(by decide:(5:Int)≠4)⟩
def C5{k id:Int}(h:k≠3/\k≠4):(jX k id).kind≠3/\(jX k id).kind≠4:=h
def zO:([]:List Pl).length<1000000:=ce
def Qf{b:Nat}(h:m.get b=.cells x.c 71 g):aC TE m 4 (Ψ b (0+4))=some (.bool x.FY):=by rw[rY,aH h];rfl
set_option maxHeartbeats 4000000 in
theorem adL(hX:cp X){y:Yd}{r r2 st rc mo:Φ}{t:Tk}{w:Φ}(hV:sS m y r r2 st rc mo)(hP:sU y)(hw:Sl m t.un.shape w)(a8:t.un.shape.length < 100000)(b8:1<=t.kind/\t.kind<=9):
  ∃rv m',C X (.func 112) [yv r r2 st rc mo,t.v w] m m.n rv m'/\Ext m m'/\oe (fK Ae cg bQ y t) m' rv:=by
 apply Cl.H0 hX (MZ func112);have o4:=hV.iH;have⟨⟨l,r0,hF⟩,y1,⟨kl,m3,hK⟩,r4,n5⟩:=hV;have u4:cq (bI l):=(by rw[r0];exact hP.xK);have h7:l.length<=12:=(by have:=hP.xK.len;rwa[<-r0,cD]at this);have i7:kl.length<=12:=(by have:=hP.SH;rwa[<-m3,lQ]at this);have j7:=hP.Wp;have l7:=hP.TN;have o5:=hP.C2.len
 have H:∀R:ν->M->Nat->Prop,(∀(v:Φ) (b:Bool) (m':M) (lo:Nat),m.n<=lo->Ext m m'->oe (fK Ae cg bQ y t) m' (.tuple #[v,.bool b])->R [v,.bool b] m' lo)->fP TE (aG TE X) f112 [yv r r2 st rc mo,t.v w] m R:=(by intro R hR;rw[F112];dsimp only[aG];refine ah λm1 d8 w4 r5=>?_;refine ah λm2 e8 y4 A4=>?_;have B4:Ext m m2:=⟨ac,be⟩;have g1:m2.get m.n=.cells (yc r r2 st rc mo) 38 none:=(by rw[A4 _ ac];exact w4);have g2:m2.get m1.n=.cells (t.c w) 46 none:=y4;clear w4 r5 y4 A4;unfold ptrTo;simp only[dm,dN,eK,fy,bO,bJ,bh,dC,ed,cU,cT,dh,cS,aW,ae];rw[(eS g1).1,ae,(kR g2).2.1,ae];obtain⟨rv,m8,c8,x8,f8⟩:=pO (m:=m2) hX (hF.an B4) ac y1.one t.id;apply aw c8;obtain⟨u,wu,is,rfl,fu⟩:=f8.WY u4;have n8:=x8.n;rw[aD,aD];simp only[Lf,S5,ae];refine ah λm12 m7 P2 n3=>?_;refine aj dV P2 rfl rfl (Un.dz fu.sl.one) λm13 n7 Q2 O4=>?_;have gu:m13.get m8.n=.cells (u.c wu) 44 none:=Q2;have A1:Ext m8 m13:=⟨ac,be⟩;have A0:=x8.trans A1;have F:=B4.trans A0;have g1:=A0.cells g1;have g2:=A0.cells g2;have fu:=fu.an A1;have g8:=A1.n;clear P2 n3 Q2 O4;have⟨tk,tid,LM,u5,h8⟩:=kR g2;rw[r0]at fu;have o3:m.n<=min (min m.n m2.n) m8.n:=ac;generalize min (min m.n m2.n) m8.n=v5 at o3;obtain⟨D,hD⟩:∃D,D=fK Ae cg bQ y t:=⟨_,rfl⟩;rw[<-hD]at hR;unfold fK at hD;have w5:(cy y.us t.id).isSome=is:=(by rw[fu.eq];cases is <;>rfl);rw[tk,ae,aJ,ae,ag];refine af (λk1=>?_) (λk1=>?_);rw[F6 (R7 k1)]at hD;rw[rD g2,ae,yK,ae];refine oR (x:=⟨eD t.un,w⟩) hw.one (hw.an F) (by show t.un.shape.length < 1000000;omega) Hb λm22 j0 n22 _ a22=>?_;rw[(eS (j0.cells g1)).2.2.2.2,ae,(vI (j0.cells g2)).1,ae];refine aw (yZ (y:=y) hX (hK.an (F.trans j0)).sl ac o4 _) ⟨ID _,?_⟩;rw[aK,ae,KB];have e:(y.st.any λk=>decide (k.un.id=t.un.id))=kl.any λx=>decide (x.u.id=t.un.id):=(by rw[<-m3];unfold xJ;rw[BG];rfl);rw[e]at hD;apply hR _ _ _ _ ac (F.trans j0);cases hc:kl.any λx=>decide (x.u.id=t.un.id);rw[Od be]at hD;rw[hD];exact⟨_,_,rfl,rfl,a22⟩;rw[F6 hc]at hD;rw[hD];exact⟨_,rfl⟩;rw[Od (QB k1)]at hD;rw[aJ,ae,ag];refine af (λk2=>?_) (λk2=>?_);rw[F6 (R7 k2),w5]at hD;refine aX (λvs mm lo=>∃v b,vs=[v,.bool b]/\m.n<=lo/\Ext m mm/\oe D mm (.tuple #[v,.bool b])) (λQ hQ=>?_) ?_;rw[tid,ae,oX,ae];refine oR (x:=⟨jX 2 t.id,U7⟩) rfl .nil zO (C5 ce) λm22 j0 n22 _ a22=>?_;rw[ag];refine af (λc=>?_) (λc=>hQ _ _ _ ⟨_,_,rfl,ac,F.trans j0,by rw[Od be]at hD;rw[hD];exact⟨_,rfl⟩⟩);rw[(eS (j0.cells g1)).2.1,ae,(hK.an (F.trans j0)).sl.len ff,ak,aK,ae];refine hQ _ _ _ ⟨_,_,rfl,ac,F.trans j0,?_⟩;rw[c,Rl]at hD;have e:y.st.length=kl.length:=be;by_cases k0:kl.length < 12;rw[F6 be]at hD;rw[hD,Dk (show(kl.length:Int)< 12 by omega)];exact⟨_,_,rfl,rfl,a22⟩;rw[Od be]at hD;rw[hD,QY (show¬(kl.length:Int)< 12 by omega)];exact⟨_,rfl⟩;rintro _ mm lo ⟨v,b,rfl,h1,h2,h3⟩;rw[av,av];grind;rw[Od (QB k2)]at hD;rw[aJ,ae,ag];refine af (λk3=>?_) (λk3=>?_);rw[F6 (R7 k3)]at hD;rw[(eS g1).2.2.2.2,ae,tid,ae];have s0:=hK.an F;apply aw (yZ (y:=y) hX s0.sl ac o4 _);have e0:∀p:KW->Bool,(∀x,p x=decide (x.u.id=t.id))->(y.st.find? λk=>decide (k.un.id=t.id))=(kl.find? p).map KW.k:=λp hp=>(by rw[<-m3];unfold xJ;rw[List.find?_map];congr 2;funext x;exact(hp x).symm);rcases iF (λx:KW=>decide (x.u.id=t.id)) kl with⟨e1,e2⟩ |⟨i,x,e1,e2,e3,e4⟩;rw[e1,aK,ae,ag,Dk ce,bM];have:kl.find? (λx:KW=>decide (x.u.id=t.id))=none:=Ld.2 λx hx=>be;rw[e0 _ λ_=>rfl,this]at hD;exact hR _ _ _ _ ac F (by rw[hD];exact⟨_,rfl⟩);rw[e0 _ λ_=>rfl,wR e2 e3 e4]at hD;have hD:D=some (eD x.u::x.ms.map iI):=hD;have v1:=Vb e2;rw[e1,aK,ae,ag,Co,aT,(eS g1).2.1,ae];have⟨b0,o0,bc,g0,cs,q1,q2,q3,q4,q5⟩:=s0.sl.jr ff (k:=.i64) e2;obtain⟨rfl,o1,o2⟩:cs=x.c/\one x.w=true/\one x.mv=true:=q3;have i8:=M.aP q2;rw[q1,ae,cf,ae];have q4:o0+7<=bc.length:=q4;have lu:aC TE m13 44 (.pointer (some ⟨b0,o0+0,none⟩))=some (x.u.v x.w):=(by rw[qw,aI (n:=6) q2 ac];have:(bc.drop (o0+0)).take 6=x.u.c x.w:=(by apply Mh;intro j;rw[Hq];split;rename_i hj;rw[PG,Nb,q5 j (by show j < 7;omega)];(match j,hj with|0,_=>rfl|1,_=>rfl|2,_=>rfl|3,_=>rfl|4,_=>rfl|5,_=>rfl|j+6,hj=>omega);rename_i hj;exact(L5 be).symm);rw[this];rfl);rw[lu,ae,yK,ae];refine oR (x:=⟨eD x.u,x.w⟩) o1 (s0.sh x v1) (s0.ln x v1) Hb λm64 y5 j8 z5 A5=>?_;have o7:x.ms.length<=20:=(by have hm:x.k∈y.st:=be;exact(hP.G9 _ hm).len);refine Lp.intro (γ:=Nat) (λj=>x.ms.length-j) (λj vs mm lo=>∃v,vs=[v,.int .i64 j]/\j<=x.ms.length/\Ext m13 mm/\m.n<=lo/\Ap m13.n mm (⟨eD x.u,x.w⟩::(x.ms.take j).map λk=>(⟨iI k,U7⟩:AW)) v) 0 ⟨_,rfl,PS _,y5,ac,.inr ⟨_,_,_,rfl,z5,A5.sl⟩⟩ ?_;rintro j vs mm lo ⟨v,rfl,hj,d0,i0,r3⟩;have nm:=d0.n;have G2:=s0.an d0;have lm:aC TE mm 31 (.pointer (some ⟨b0,o0+6,none⟩))=some x.mv:=(by rw[kn,aH (d0.cells q2)];exact q5 6 (by show 6 < 7;decide));rw[av,av,(eS (d0.cells g1)).2.1,ae,q1,ae,dM,ae,lm,ae,(G2.mv x v1).len cO,ak,aK,ae,ag];refine af (λk0=>?_) (λB0=>?_);have k0:j < x.ms.length:=be;obtain⟨z,hz⟩:∃z,x.ms[j]?=some z:=⟨_,Iy k0⟩;have⟨p,p1,p2⟩:=(G2.mv x v1).sL (k:=.i64) hz;rw[ae,q1,ae,dM,ae,lm,ae,p1,ae,p2,ae,Sk,ae,BA,ak];obtain⟨R4,B1⟩:∃q,q=mm.push (.cells (AW.c ⟨iI z,U7⟩) 73 none):=⟨_,rfl⟩;rw[<-B1];have u1:Ext mm R4:=B1 ▸ Ext.refl.push;have W4:R4.get mm.n=.cells (AW.c ⟨iI z,U7⟩) 73 none:=(by rw[B1];exact M.aU);obtain⟨v',l8,s1,s2,s3,s4,s5⟩:=(r3.an u1).append FN rfl (kY (x:=(⟨iI z,U7⟩:AW)) W4 ⟨rfl,rfl⟩) co (by have:=u1.n;omega) be;rw[s1,ak,aL,ae,wrap64];have:=u1.n;refine⟨j+1,ac,v',be,ac,⟨ac,λc hc=>by rw[s5 c hc,u1.get c ac,d0.get c hc]⟩,ac,.inl ?_⟩;rw[QM,hz,R6];exact s2;have O0:j=x.ms.length:=(by have:¬(j:Int)< (x.ms.length:Int):=QB B0;omega);subst O0;rw[Jg]at r3;apply hR _ _ _ _ i0 (F.trans d0);rw[hD];refine⟨_,_,rfl,dg,r3.sl,λa ha=>?_,λa ha=>?_,λa ha=>?_⟩;rcases Qk.1 ha with rfl |ha;exact G2.sh x v1;obtain⟨k,_,rfl⟩:=Dc.1 ha;exact .nil;rcases Qk.1 ha with rfl |ha;exact G2.ln x v1;obtain⟨k,_,rfl⟩:=Dc.1 ha;exact zO;rcases Qk.1 ha with rfl |ha;exact Hb;obtain⟨k,_,rfl⟩:=Dc.1 ha;exact Tv;rw[Od (QB k3)]at hD;rw[aJ,ae,ag];refine af (λk4=>?_) (λk4=>?_);rw[F6 (R7 k4),fu.eq]at hD;have a5:=hF.an F;refine Lp.intro (γ:=Nat) (λj=>l.length-j) (λj vs mm lo=>∃z1 z2,vs=[z1,z2,.int .i64 j]/\j<=l.length/\Ext m13 mm/\m.n<=lo/\(is=true->((bI (l.take j)).all λv=> !Ae u v ||cg t.dE v.dE)=true)) 0 ⟨_,_,rfl,PS _,.refl,ac,λ_=>rfl⟩ ?_;rintro j vs mm lo ⟨z1,z2,rfl,hj,d0,i0,p0⟩;have nm:=d0.n;have M2:=a5.an d0;rw[av,av,av,(yR (d0.cells g1)).2.1,ae,M2.sl.len cX,ak,aK,ae,ag];refine af (λk0=>?_) (λB0=>?_);have k0:j < l.length:=be;obtain⟨x,hx⟩:∃x,l[j]?=some x:=⟨_,Iy k0⟩;have u3:=Vb hx;have⟨q,q1,q2,ow⟩:=M2.sl.iz (k:=.i64) hx;rw[ae,q1,ae,q2,ae];refine ah λp7 B5 w3 O5=>?_;refine aj dV w3 rfl rfl (Un.dz ow) λG1 a6 y3 b6=>?_;have T2:G1.get mm.n=.cells (x.u.c x.w) 44 none:=y3;have H1:Ext mm G1:=⟨ac,λc hc=>be⟩;have P0:=d0.trans H1;rw[bR (P0.cells gu),ae,bR T2,ae];apply aw (tz hX (fu.an P0).sl ((M2.sh x u3).an H1) fu.ln (M2.ln x u3));rw[aD,aD];simp only[Lf,S5,ae];refine ah λr7 d6 A3 e6=>?_;refine aj vD A3 (by rw[bd];exact fF _) (by rw[bd];exact fF _) (by rw[bd];exact oK _) λd3 f6 g6 h6=>?_;have K1:Ext G1 d3:=⟨ac,λc hc=>be⟩;have h0:=P0.trans K1;have i6:bI (l.take (j+1))=bI (l.take j)++ [x.u]:=(by unfold bI;rw[QM,hx,R6];rfl);refine aX (λvs m' w1=>vs=[.bool (is && (Ae u x.u && !cg t.dE x.u.dE))]/\d3=m'/\m.n<=w1) (λQ hQ=>?_) ?_;rw[ag];refine af (λc=>?_) (λc=>hQ _ _ _ ⟨be,rfl,ac⟩);rw[ag];refine af (λd=>?_) (λd=>hQ _ _ _ ⟨by unfold Ae;rw[d,SL,Wh],rfl,ac⟩);rw[(kR (h0.cells g2)).2.2.2.2,ae,cz,ae,(kN (K1.cells T2)).2.2.1,ae];apply aw (Ie hX _ _);rw[bC,ae];exact hQ _ _ _ ⟨by unfold Ae;rw[c,d];rfl,rfl,ac⟩;rintro _ _ iT ⟨rfl,rfl,q0⟩;rw[av,ag];refine af (λc=>?_) (λc=>?_);rw[De,De]at c;have⟨ci,ct,cs⟩:=c;rw[ci,F6 rfl,Ls,Od]at hD;exact hR _ _ _ _ q0 (F.trans h0) (by rw[hD];exact⟨_,rfl⟩);intro p0;rw[<-r0,Jo]at p0;have:=p0 x.u (Dc.2 ⟨x,u3,rfl⟩);rw[ct]at this;rw[MK]at cs;rw[cs]at this;(cases this;rw[aL,ae,wrap64];refine⟨j+1,ac,z1,z2,be,ac,h0,q0,λhi=>?_⟩;rw[i6,YW,p0 hi,Rl];rw[hi,Rl]at c;simp only[H7,List.all_nil,VZ];cases hr:Ae u x.u;rfl;rw[hr,Rl,MI]at c;rw[c];rfl;have O0:j=l.length:=(by have:¬(j:Int)< (l.length:Int):=QB B0;omega);subst O0;rw[Jg,r0]at p0;rw[(kR (d0.cells g2)).2.2.2.2,ae,cz,ae];have b5:=d0.cells gu;refine bW zG b5 rfl (by show 0+2+1<=6;decide) rfl λu0 j6 B3 Q0=>?_;have d5:u0.get m8.n=.cells (Un.c {u with dE:=t.dE} wu) 44 none:=B3;have e5:m1.n≠m8.n:=be;have f5:=(fu.an d0).sl;have O2:Sl u0 u.shape wu:=f5.aY λc cs t g hc ht=>(by rw[Q0 c (λe=>by subst e;rw[b5]at hc;cases hc;simp[aQ.ty,aQ.dQ]at ht),hc]);rw[(kR ((Q0 _ e5).trans (d0.cells g2))).2.1,ae,oX,ae,bR d5,ae,yK,ae,OL,ak];obtain⟨g3,d1⟩:∃q,q=u0.push (.cells (AW.c ⟨jX 2 t.id,U7⟩++AW.c ⟨eD {u with dE:=t.dE},wu⟩) 73 none):=⟨_,rfl⟩;rw[<-d1];have i1:Ext u0 g3:=d1 ▸ Ext.refl.push;have G3:g3.get u0.n=.cells (AW.c ⟨jX 2 t.id,U7⟩++AW.c ⟨eD {u with dE:=t.dE},wu⟩) 73 none:=(by rw[d1];exact M.aU);have n155:=i1.n;apply hR _ _ _ _ ac ⟨ac,λc hc=>by rw[i1.get c ac,Q0 c ac,d0.get c ac,F.get c hc]⟩;cases hi:is with|false=>rw[hi]at hD;rw[hD];exact⟨_,rfl⟩|true=>rw[hi,F6 rfl,Ls,F6 (p0 hi)]at hD;rw[hD];refine⟨_,_,rfl,rfl,Pb G3 rfl f5.one,λa ha=>?_,λa ha=>?_,λa ha=>?_⟩;rcases Qk.1 ha with rfl |ha;exact .nil;rw[MV.1 ha];exact O2.an i1;rcases Qk.1 ha with rfl |ha;exact zO;rw[MV.1 ha];exact fu.ln;rcases Qk.1 ha with rfl |ha;exact C5 ce;rw[MV.1 ha];exact Hb);rw[Od (QB k4)]at hD;rw[aJ,ae,ag];refine af (λk5=>?_) (λk5=>?_);rw[F6 (R7 k5)]at hD;have g5:=y1.an F;refine Lp.intro (γ:=Nat) (λj=>y.ms.length-j) (λj vs mm lo=>∃v,vs=[v,.int .i64 j]/\j<=y.ms.length/\Ext m13 mm/\m.n<=lo/\Ow m13.n mm (((y.ms.take j).filter (lF t)).map λx=>(⟨jX 6 x.id,U7⟩:AW)) v) 0 ⟨_,rfl,PS _,.refl,ac,Ow.nil⟩ ?_;rintro j vs mm lo ⟨v,rfl,hj,d0,i0,O3⟩;have nm:=d0.n;have h5:=g5.an d0;rw[av,av,(yR (d0.cells g1)).2.2,ae,h5.len cO,ak,aK,ae,ag];refine af (λk0=>?_) (λB0=>?_);have k0:j < y.ms.length:=be;obtain⟨x,hx⟩:∃x,y.ms[j]?=some x:=⟨_,Iy k0⟩;have⟨p,p1,p2⟩:=h5.sL (k:=.i64) hx;refine aX (λvs m' w1=>∃v',vs=[v']/\Ext m13 m'/\m.n<=w1/\Ow m13.n m' (((y.ms.take (j+1)).filter (lF t)).map λx=>(⟨jX 6 x.id,U7⟩:AW)) v') (λQ hQ=>?_) ?_;rw[ae,p1,ae,p2,ae];refine ah λs7 l6 d4 m6=>?_;refine aj qV d4 rfl rfl rfl λO1 n6 f4 o6=>?_;have i3:O1.get mm.n=.cells x.c 71 none:=f4;have T1:Ext mm O1:=⟨ac,λc hc=>be⟩;have h0:=d0.trans T1;obtain⟨a0,a1,a2,a3, -⟩:=wz i3;have a4:=Qf i3;obtain⟨-,b1, -,b3, -⟩:=kR (h0.cells g2);have j3:=O3.an T1;refine aX (λvs m' w1=>vs=[.bool (lF t x)]/\O1=m'/\m.n<=w1) (λQ' j1=>?_) ?_;rw[cZ,ae,a1,ae,b1,ae,aJ,ae,ag];unfold lF at j1;refine af (λc1=>?_) (λc1=>j1 _ _ _ ⟨be,rfl,ac⟩);rw[eJ,ae,a2,ae,b3,ae,aJ,ae,ag];refine af (λc2=>?_) (λc2=>j1 _ _ _ ⟨be,rfl,ac⟩);rw[fx,ae,a4,ae,ag];refine af (λc3=>?_) (λc3=>j1 _ _ _ ⟨be,rfl,ac⟩);rw[kE,ae,a3,ae,aJ,ae,ag];refine af (λc4=>j1 _ _ _ ⟨be,rfl,ac⟩) (λc4=>?_);rw[ae,a3,ae,aJ,ae,ag];refine af (λc5=>j1 _ _ _ ⟨be,rfl,ac⟩) (λc5=>?_);rw[ae,a3,ae,aJ,ae];exact j1 _ _ _ ⟨be,rfl,ac⟩;rintro _ _ iT ⟨rfl,rfl,q0⟩;rw[av,ag];refine af (λc=>?_) (λc=>?_);rw[bT,ae,a0,ae,oX,ae];have o8:((y.ms.take j).filter (lF t)).length<=j:=(by have:=Wf (lF t) (y.ms.take j);rw[Zu]at this;omega);refine jt (T:=60) (x:=(⟨jX 6 x.id,U7⟩:AW)) FN rfl j3 ac be BA (λ_=>⟨rfl,rfl⟩) λr' u7 w2 n2 k2 p8 l2=>?_;refine hQ _ _ _ ⟨r',rfl,⟨ac,λc hc=>by rw[k2 c hc,h0.get c hc]⟩,ac,?_⟩;rw[QM,hx,NO,R6];simp only[UJ,Oh,c,Ot,QS,Tz,LG];exact w2;refine hQ _ _ _ ⟨v,rfl,h0,q0,?_⟩;rw[QM,hx,NO,R6];simp only[UJ,Oh,c,QS,LG,Y4];simpa using j3;rintro _ m' w1 ⟨v',rfl,h1,h2,h3⟩;rw[av,aL,ae,wrap64];exact⟨j+1,ac,v',be,ac,h1,h2,h3⟩;have O0:j=y.ms.length:=(by have:¬(j:Int)< (y.ms.length:Int):=QB B0;omega);subst O0;rw[Jg]at O3;obtain⟨-,b1, -,b3, -⟩:=kR (d0.cells g2);rw[(eS (d0.cells g1)).1,ae,b1,ae,b3,ae];apply aw (D7 hX (hF.an (F.trans d0)) ac y1.one _ _);rw[r0];apply hR _ _ _ _ ac (F.trans d0);cases hf:mh y.us t.id t.side;rw[Od be]at hD;rw[hD];exact⟨_,rfl⟩;rw[F6 hf]at hD;rw[hD];refine⟨_,_,rfl,dg,O3.sl,λa ha=>?_,λa ha=>?_,λa ha=>?_⟩;obtain⟨k,_,rfl⟩:=Dc.1 ha;exact .nil;obtain⟨k,_,rfl⟩:=Dc.1 ha;exact zO;obtain⟨k,_,rfl⟩:=Dc.1 ha;exact C5 ce;rw[Od (QB k5)]at hD;rw[aJ,ae,ag];refine af (λk6=>?_) (λk6=>?_);rw[F6 (R7 k6)]at hD;rw[tid,ae,oX,ae];refine oR (x:=⟨jX 7 t.id,U7⟩) rfl .nil zO (C5 ce) λm22 j0 n22 _ a22=>?_;exact hR _ _ _ _ ac (F.trans j0) (by rw[hD];exact⟨_,_,rfl,rfl,a22⟩);rw[Od (QB k6)]at hD;rw[aJ,ae,ag];refine af (λk7=>?_) (λk7=>?_);rw[F6 (R7 k7)]at hD;rw[tid,ae,oX,ae];refine oR (x:=⟨jX 6 t.id,U7⟩) rfl .nil zO (C5 ce) λm22 j0 n22 _ a22=>?_;exact hR _ _ _ _ ac (F.trans j0) (by rw[hD];exact⟨_,_,rfl,rfl,a22⟩);rw[Od (QB k7)]at hD;rw[aJ,ae,ag];refine af (λk8=>?_) (λk8=>?_);rw[F6 (R7 k8)]at hD;rw[tid,ae,u5,ae,yL,ae];refine ah λv7 r6 g4 s6=>?_;refine aj Gh g4 rfl rfl rfl λd2 u6 h4 v6=>?_;have i5:d2.get m13.n=.cells (Fc.c ⟨t.id,t.side⟩) 52 none:=h4;have n0:Ext m13 d2:=⟨ac,λc hc=>be⟩;have h0:=F.trans n0;obtain⟨-,b1, -,b3, -⟩:=kR (n0.cells g2);have w6:y.rc.length < 1000000:=ac;refine aX (λvs mm lo=>∃b,vs=[U7,.bool b]/\d2=mm/\m.n<=lo/\D=if b=true then some []else none) (λQ hQ=>?_) ?_;rw[(eS (n0.cells g1)).1,ae,b1,ae,b3,ae];apply aw (D7 hX (hF.an h0) ac y1.one _ _);rw[r0,ag];refine af (λc=>?_) (λc=>hQ _ _ _ ⟨false,rfl,rfl,ac,be⟩);rw[c,Rl]at hD;rw[(eS (n0.cells g1)).2.2.1,ae,(r4.an h0).len eV,ak,aK,ae,ag];refine af (λd=>hQ _ _ _ ⟨true,rfl,rfl,ac,?_⟩) (λd=>?_);have d:=R7 d;rw[F6 be]at hD;exact hD;have d:=QB d;rw[(eS (n0.cells g1)).2.2.2.2,ae,(FZ i5).2.2,ae];apply aw (ug hX (r4.an h0) w6 _);refine hQ _ _ _ ⟨_,rfl,rfl,ac,?_⟩;rw[QY (show¬y.rc.length < 60 by omega),Wv]at hD;exact hD;rintro _ _ lo ⟨b,rfl,rfl,j5,j4⟩;rw[av,av];apply hR _ _ _ _ j5 h0;rw[j4];cases b;exact⟨_,rfl⟩;exact⟨[],_,rfl,rfl,.nil⟩;rw[Od (QB k8),fu.eq]at hD;rw[(eS g1).1,ae,LM,ae];obtain⟨r8,i2,l5,l3,f280⟩:=pO (m:=m13) hX (hF.an F) ac y1.one t.other;apply aw l5;obtain⟨u2,w2,s8,rfl,j2⟩:=f280.WY u4;rw[r0]at j2;have n280:=l3.n;rw[aD,aD];simp only[Lf,S5,ae];refine ah λw7 y6 l4 z6=>?_;refine aj dV l4 rfl rfl (Un.dz j2.sl.one) λy0 A6 m4 B6=>?_;have gv:y0.get i2.n=.cells (u2.c w2) 44 none:=m4;have v2:Ext i2 y0:=⟨ac,λc hc=>be⟩;have h0:=l3.trans v2;rw[bR (h0.cells gu),ae,bR gv,ae];apply aw (tz hX (fu.an h0).sl (j2.an v2).sl fu.ln j2.ln);rw[aD,aD];simp only[Lf,S5,ae];refine ah λy7 a7 n4 b7=>?_;refine aj vD n4 (by rw[bd];exact fF _) (by rw[bd];exact fF _) (by rw[bd];exact oK _) λy2 c7 d7 e7=>?_;have r1:Ext y0 y2:=⟨ac,λc hc=>be⟩;have A2:=h0.trans r1;have m5:=F.trans A2;have n295:=r1.n;have B2:=n5.an m5;obtain⟨-,b1,b2, -,b4⟩:=kR (A2.cells g2);have z7:m.n<=min (min (min (min v5 m13.n) i2.n) y0.n) y0.n:=ac;refine Lp.intro (γ:=Nat) (λj=>y.mo.length-j) (λj vs mm lo=>vs=[.bool ((y.mo.take j).any λx=>decide (x.a=t.id) && decide (x.b=t.other)),.int .i64 j]/\j<=y.mo.length/\y2=mm/\m.n<=lo) 0 ⟨rfl,PS _,rfl,ac⟩ ?_;rintro j vs mm lo ⟨rfl,hj,rfl,i0⟩;rw[av,av,(eS (A2.cells g1)).2.2.2.1,ae,B2.len kf,ak,aK,ae,ag];refine af (λk0=>?_) (λB0=>?_);have k0:j < y.mo.length:=be;obtain⟨x,hx⟩:∃x,y.mo[j]?=some x:=⟨_,Iy k0⟩;obtain⟨b,o,e1, -,l0,l1⟩:=J9 B2 hx;have A7:((y.mo.take (j+1)).any λx=>decide (x.a=t.id) && decide (x.b=t.other))=(((y.mo.take j).any λx=>decide (x.a=t.id) && decide (x.b=t.other)) ||(decide (x.a=t.id) && decide (x.b=t.other))):=(by rw[QM,hx,List.any_append];simp);have ej:((j+1:Nat):Int)=(j:Int)+1:=ac;rw[ag];refine af (λc=>?_) (λc=>?_);rw[aL,ae,wrap64];exact⟨j+1,ac,be,ac,rfl,i0⟩;rw[ae,e1,ae,eH,ae,l0,ae,b1,ae,aJ,ae,ag];refine af (λc1=>?_) (λc1=>?_);rw[ae,e1,ae,fw,ae,l1,ae,b2,ae,aJ,ae,aL,ae,wrap64];exact⟨j+1,ac,be,ac,rfl,i0⟩;rw[aL,ae,wrap64];exact⟨j+1,ac,be,ac,rfl,i0⟩;have O0:j=y.mo.length:=(by have:¬(j:Int)< (y.mo.length:Int):=QB B0;omega);subst O0;rw[Jg];obtain⟨A,hA⟩:∃A,A=y.mo.any λx=>decide (x.a=t.id) && decide (x.b=t.other):=⟨_,rfl⟩;rw[<-hA]at hD⊢;have f7:=kN (A2.cells gu);have g7:=kN (r1.cells gv);refine aX (λvs mm lo=>∃b,vs=[U7,.bool b]/\y2=mm/\m.n<=lo/\D=if b=true then some []else none) (λQ hQ=>?_) ?_;rw[ag];refine af (λc=>?_) (λc=>hQ _ _ _ ⟨false,rfl,rfl,i0,be⟩);rw[c,F6 rfl,Ls,j2.eq]at hD;rw[ag];refine af (λc2=>?_) (λc2=>hQ _ _ _ ⟨false,rfl,rfl,i0,be⟩);rw[c2,F6 rfl,Ls]at hD;rw[ag];unfold Ae at hD;refine af (λc3=>?_) (λc3=>hQ _ _ _ ⟨false,rfl,rfl,i0,be⟩);rw[c3,Rl]at hD;rw[b4,ae,cz,ae,f7.2.2.1,ae];apply aw (zb hX _ _);rw[ag];refine af (λc4=>?_) (λc4=>hQ _ _ _ ⟨false,rfl,rfl,ac,be⟩);rw[c4,Rl]at hD;rw[b4,ae,cz,ae,g7.2.2.1,ae];apply aw (zb hX _ _);rw[ag];refine af (λc5=>?_) (λc5=>hQ _ _ _ ⟨false,rfl,rfl,ac,be⟩);rw[c5,Rl]at hD;rw[(eS (A2.cells g1)).2.2.2.1,ae,B2.len kf,ak,aK,ae,ag];refine af (λc6=>hQ _ _ _ ⟨true,rfl,rfl,ac,?_⟩) (λc6=>hQ _ _ _ ⟨A,rfl,rfl,ac,?_⟩);have c6:=R7 c6;rw[F6 be]at hD;exact hD;have c6:=QB c6;rw[QY (show¬y.mo.length < 20 by omega),Wv]at hD;exact hD;rintro _ _ iT ⟨b,rfl,rfl,q0,j4⟩;rw[av,av];apply hR _ _ _ _ q0 m5;rw[j4];cases b;exact⟨_,rfl⟩;exact⟨[],_,rfl,rfl,.nil⟩)
 refine H _ λv b m' lo o3 hx hs=>?_;show(aZ (.tuple #[v,.bool b])=true/\m.n<=lo/\(m.n=m.n/\Ext m m/\oe _ m (.tuple #[v,.bool b])))\/((aZ (.tuple #[v,.bool b])=false\/lo < m.n)/\(min m.n lo=m.n/\Ext m m'/\oe _ m' (.tuple #[v,.bool b])));cases hf:aZ (.tuple #[v,.bool b]);exact .inr ⟨.inl rfl,ac,hx,hs⟩;exact .inl ⟨rfl,o3,rfl,.refl,hs.flat hf m⟩
def HU{im:Un->Un->Bool}{suits softer:Int->Int->Bool}{y:Yd}{t:Tk}{L:List Ac}(F:sU y)(h:fK im suits softer y t=some L):L.length<=40:=by have H:=F.C2.len;unfold fK at h;split at h;grind;split at h;grind;split at h;obtain⟨k,hk,rfl⟩:=Qp.1 h;have:=(F.G9 k (Zi hk)).len;grind;split at h;have⟨u,hu,h⟩:=YZ.1 h;grind;split at h;grind;split at h;grind;split at h;grind;split at h;grind;have⟨u,hu,h⟩:=YZ.1 h;have⟨v,hv,h⟩:=YZ.1 h;grind
def eF(im:Un->Un->Bool)(suits softer:Int->Int->Bool)(y:Yd)(t:Tk):Option (List Un×List Mk):=if eA t=true then(fK im suits softer y t).bind λl=>fL y.us y.ms l else none
def zW(D:Option (List Un×List Mk))(m':M)(F:Φ):Prop:=match D with
 |some (H,ns)=>∃v r r2,F=.tuple #[v,.agg #[r,r2],.bool true]/\gV H ns m' (.agg #[r,r2])
 |none=>∃v r r2,F=.tuple #[v,.agg #[r,r2],.bool false]/\one r=true/\one r2=true
def zW.flat{D:Option (List Un×List Mk)}{v t u:Φ}(h:zW D m' (.tuple #[v,t,u]))(H:aZ (.tuple #[v,t,u]))(m:M):zW D m (.tuple #[v,t,u]):=by unfold zW at h⊢;split at h;have⟨v',r,r2,e,hs⟩:=h;cases e;have F:(D.eo v && (D.eo (.agg #[r,r2]) && (true && true))):=H;rw[De,De]at F;exact⟨v,r,r2,rfl,hs.eo F.2.1 m⟩;exact h
set_option maxHeartbeats 1000000 in
theorem JD(hX:cp X){y:Yd}{r r2 st rc mo:Φ}{t:Tk}{w:Φ}(hV:sS m y r r2 st rc mo)(hP:sU y)(hw:Sl m t.un.shape w)(r0:t.un.shape.length < 100000):
  ∃rv m',C X (.func 68) [yv r r2 st rc mo,t.v w] m m.n rv m'/\Ext m m'/\zW (eF Ae cg bQ y t) m' rv:=by
 apply Cl.H0 hX (MZ func68)
 have H:∀R:ν->M->Nat->Prop,(∀(v t' u:Φ) (m':M) (lo:Nat),m.n<=lo->Ext m m'->zW (eF Ae cg bQ y t) m' (.tuple #[v,t',u])->R [v,t',u] m' lo)->fP TE (aG TE X) f68 [yv r r2 st rc mo,t.v w] m R:=by
  intro R hR
  rw[F68];dsimp only[aG]
  refine ah λm1 O1 s0 c1=>?_
  refine ah λm2 T1 u0 y0=>?_
  refine ah λm3 a2 A0 n0=>?_
  have e0:Ext m m3:=⟨ac,be⟩
  have g1:m3.get m.n=.cells (yc r r2 st rc mo) 38 none:=by rw[n0 _ ac,y0 _ ac];exact s0
  have g2:m3.get m1.n=.cells (t.c w) 46 none:=by rw[n0 _ ac];exact u0
  have gz:m3.get m2.n=.cells [U7,U7] 33 none:=A0
  clear s0 c1 u0 y0 A0 n0
  unfold ptrTo
  have o0:=hV.an e0
  have B0:=hw.an e0
  have bad:∀{mm:M} {lo:Nat} {v:Φ},mm.get m2.n=.cells [U7,U7] 33 none->m.n<=lo->(∀c,c < m.n->mm.get c=m.get c)->m.n<=mm.n->eF Ae cg bQ y t=none->
    aS (bz TE 33 []) λv20=>dn (bw TE mm 33 (.pointer (some ⟨m2.n,0,none⟩)) v20) λm21 d1=>aS (aC TE m21 33 (.pointer (some ⟨m2.n,0,none⟩))) λe1=>R [v,e1,IA] m21 (min lo d1):=by
   intro mm lo v g j0 hk hn e
   rw[jU,ae]
   refine aj eE g rfl rfl rfl λm' b2 i1 c2=>?_
   rw[(jY i1).2.2.2,ae]
   apply hR _ _ _ _ _ ac ⟨ac,be⟩
   rw[e]
   exact⟨v,_,_,rfl,rfl,rfl⟩
  refine aX (λvs mm lo=>vs=[.bool (!eA t)]/\m3=mm/\m.n<=lo) (λQ hQ=>?_) ?_
  ·rw[(eS g1).2.2.2.2,ae];apply aw (ae4 hX o0 hP);rw[bC,ae,ag];show lR false _ _;rw[aT,kQ g2,ae];apply aw (adD hX B0 r0);rw[bC,ae];exact hQ _ _ _ ⟨rfl,rfl,ac⟩
  rintro _ _ lo ⟨rfl,rfl,j0⟩
  rw[av,ag]
  refine af (λc=>?_) (λc=>?_)
  ·rw[MK]at c;exact bad gz j0 (λc hc=>e0.get c hc) ac (by unfold eF;rw[Od be])
  rw[MI]at c
  have hS:eF Ae cg bQ y t=(fK Ae cg bQ y t).bind λl=>fL y.us y.ms l:=by unfold eF;rw[F6 c]
  rw[(eS g1).2.2.2.2,ae,kQ g2,ae]
  have⟨rv,j1,k1,b0,g0⟩:=adL (m:=m3) hX o0 hP B0 r0 (uY c)
  apply aw k1
  have n27:=b0.n
  unfold oe at g0
  cases hA:fK Ae cg bQ y t with
  |none=>rw[hA]at g0 hS;obtain⟨v,rfl⟩:=g0;rw[aD,aD];simp only[Lf,S5,ae];rw[bC,ae,ag,Gp,bM];exact bad (b0.cells gz) ac (λc hc=>by rw[b0.get c ac,e0.get c hc]) ac hS
  |some L=>
   rw[hA]at g0 hS
   obtain⟨al,v,rfl,hL,O0⟩:=g0
   have l1:al.length<=40:=by have:=HU hP hA;rwa[<-hL,OG]at this
   rw[aD,aD]
   simp only[Lf,S5,ae]
   rw[bC,ae,ag,Pq,aT,dm,ae,(eS (b0.cells g1)).1,ae]
   obtain⟨⟨l,p0,hF⟩,p1, -⟩:=o0.an b0
   obtain⟨r1,k0,u1,q0,d0⟩:=acM (m:=j1) hX hF (by rw[p0];exact hP.xK) p1 (by rw[p0];exact hP.C2) O0 l1
   apply aw u1
   rw[p0,hL]at d0
   have hS:eF Ae cg bQ y t=fL y.us y.ms L:=hS
   have n39:=q0.n
   have P0:=(b0.trans q0).cells gz
   have y1:∀c,c < m.n->k0.get c=m.get c:=λc hc=>by rw[q0.get c ac,b0.get c ac,e0.get c hc]
   obtain⟨q,q2,n,e,rfl,o1,o2,F⟩:∃q q2 n e,r1=.tuple #[.agg #[q,q2],.int .i64 n,.int .i64 e]/\one q=true/\one q2=true/\(match fL y.us y.ms L with |some (vs,ns)=>e=0/\gV vs ns k0 (.agg #[q,q2]) |none=>e=170):=by
    unfold qR at d0
    cases hr:fL y.us y.ms L with
    |none=>rw[hr]at d0;obtain⟨n,rfl⟩:=d0;exact⟨_,_,n,170,rfl,rfl,rfl,rfl⟩
    |some d=>have⟨vs,ns⟩:=d;rw[hr]at d0;obtain⟨q,q2,n,rfl,hs⟩:=d0;have⟨_,_,_,e,_,h1,h2⟩:=id hs;cases e;exact⟨q,q2,n,0,rfl,h1.sl.one,h2.one,rfl,hs⟩
   rw[aD,aD,aD]
   simp only[Lf,S5,ae]
   refine ah λd2 A1 Q0 B1=>?_
   refine aj eE Q0 rfl rfl (by show(one q && (one q2 && true))=true;rw[o1,o2];rfl) λa1 G1 h0 H1=>?_
   have h0:a1.get k0.n=.cells [q,q2] 33 none:=h0
   rw[(jY h0).2.2.2,ae,aJ,ae]
   have l0:Ext k0 a1:=⟨ac,be⟩
   refine aj eE (l0.cells P0) rfl rfl be λv1 K1 i0 b1=>?_
   have i0:v1.get m2.n=.cells [q,q2] 33 none:=i0
   rw[(jY i0).2.2.2,ae]
   apply hR _ _ _ _ _ ac ⟨ac,be⟩
   rw[hS]
   unfold zW
   cases hr:fL y.us y.ms L with
   |none=>rw[hr]at F;have F:e=170:=F;subst F;exact⟨v,q,q2,rfl,o1,o2⟩
   |some d=>have⟨vs,ns⟩:=d;rw[hr]at F;obtain⟨rfl,hs⟩:=F;refine⟨v,q,q2,rfl,hs.aY λc cs t g hc ht=>?_⟩;have w1:=l0.cells hc;rw[b1 c be,w1]
 refine H _ λv t' u m' lo j0 hx hs=>?_;show(aZ (.tuple #[v,t',u])=true/\m.n<=lo/\(m.n=m.n/\Ext m m/\zW _ m (.tuple #[v,t',u])))\/((aZ (.tuple #[v,t',u])=false\/lo < m.n)/\(min m.n lo=m.n/\Ext m m'/\zW _ m' (.tuple #[v,t',u])));cases hf:aZ (.tuple #[v,t',u]);·exact .inr ⟨.inl rfl,ac,hx,hs⟩
 exact .inl ⟨rfl,j0,rfl,.refl,hs.flat hf m⟩
section
variable {α:Type} (R:α->α->Prop) [DecidableRel R]
def wI(l:List α)(x:α):List α:=(l.filter λy=>decide (R y x))++x::(l.filter λy=>decide (R x y))
def qT(l:List α)(x:α)(add:Bool)(i:Nat)(acc:List α):Prop:=if add=true then acc=l.take i/\∀y∈l.take i,R y x else acc=wI R (l.take i) x/\∃y∈l.take i,¬R y x
variable {R}
def filter_none{p:α->Bool}{l:List α}(h:∀y∈l,p y=false):l.filter p=[]:=TU.2 λy F=>be
def qT.on(F:∀a b c,R a b->R b c->R a c)(H:∀a,¬R a a){l:List α}{x n:α}{i:Nat}{acc:List α}(h:qT R l x true i acc)(hn:l[i]?=some n)(b0:R n x):qT R l x true (i+1) (acc++ [n]):=by unfold qT at h⊢;rw[F6 rfl]at h⊢;obtain⟨rfl,h2⟩:=h;rw[QM,hn];grind
def qT.put(F:∀a b c,R a b->R b c->R a c)(H:∀a,¬R a a){l:List α}{x n:α}{i:Nat}{acc:List α}(h:qT R l x true i acc)(hn:l[i]?=some n)(b0:¬R n x):qT R l x false (i+1) (acc++ [x]++if R x n then [n]else []):=by unfold qT at h⊢;rw[F6 rfl]at h;rw[Od ce];obtain⟨rfl,h2⟩:=h;rw[QM,hn];refine⟨?_,n,co,b0⟩;unfold wI;rw[NO,NO,Lw.2 λy hy=>Dk (h2 y hy),filter_none (l:=l.take i) (p:=λy=>decide (R x y)) λy hy=>QY λhc=>H _ (F _ _ _ hc (h2 y hy))];grind
def qT.off(e0:∀a b c,R a b->R b c->R a c){l:List α}{x n:α}{i:Nat}{acc:List α}(hs:l.Pairwise R)(h:qT R l x false i acc)(hn:l[i]?=some n):¬R n x/\qT R l x false (i+1) (acc++if R x n then [n]else []):=by unfold qT at h⊢;rw[Od ce]at h⊢;obtain⟨rfl,y,hy,H⟩:=h;have b0:¬R n x:=(by intro hc;have⟨j,F⟩:=Mf hy;rw[Hq]at F;split at F;rename_i d0;have h1:=Zv.1 F;have h2:=Zv.1 hn;have:=TF.1 hs j i h1.1 h2.1 d0;grind;cases F);refine⟨b0,?_,y,?_,H⟩;rw[QM,hn];unfold wI;grind;grind
def qT.fin{l:List α}{x:α}{add:Bool}{acc:List α}(F:∀a,¬R a a)(H:∀a b c,R a b->R b c->R a c)(h:qT R l x add l.length acc):(acc++if add=true then [x]else [])=wI R l x:=by unfold qT at h;rw[Jg]at h;cases add with|false=>rw[Od ce]at h⊢;rw[h.1,Y4]|true=>rw[F6 rfl]at h⊢;obtain⟨rfl,h2⟩:=h;unfold wI;rw[Lw.2 λy hy=>Dk (h2 y hy),filter_none (p:=λy=>decide (R x y)) λy hy=>QY λhc=>F _ (H _ _ _ hc (h2 y hy))]
def qT.nil{l:List α}{x:α}:qT R l x true 0 []:=by unfold qT;grind
end
def BH(a b c:Fc):jW a b->jW b c->jW a c:=by unfold jW;omega
def E3(a:Fc):¬jW a a:=by unfold jW;omega
def E1(a b c:Mo):nh a b->nh b c->nh a c:=by unfold nh;omega
def IT(a:Mo):¬nh a a:=by unfold nh;omega
def TS{a b:Fc}(h:a≠b):jW a b\/jW b a:=by unfold jW;have⟨F,a2⟩:=a;have⟨H,b2⟩:=b;grind
def Ub{α:Type}{f:α->Int}{l:List α}{x:α}{k:Nat}(hs:l.Pairwise λa b=>f a<f b)(hk:k<=l.length)(h1:∀y∈l.take k,f y<f x)(h2:∀y,l[k]?=some y->f x<f y):jq f l x=l.take k++x::l.drop k:=by have h3:∀y∈l.drop k,f x<f y:=(by by_cases H:k<l.length;rw[QJ H];have e:=h2 _ (Iy H);intro y F;rcases Qk.1 F with rfl|F;exact e;have b0:=hs.sublist (List.drop_sublist k l);rw[QJ H,T0]at b0;grind;grind);unfold jq;(conv=>lhs;rw[<-Zd k l]);rw[NO,NO,Lw.2 λy F=>Dk (h1 y F),filter_none (l:=l.take k) (p:=λy=>decide (f x<f y)) λy F=>QY be,filter_none (l:=l.drop k) (p:=λy=>decide (f y<f x)) λy F=>QY be,Lw.2 λy F=>Dk (h3 y F)];simp
structure pW(O:Nat)(m:M)(r r2:Φ)(sl:List KW)(rl:List Fc)(ml:List Mo)(st rc mo:Φ):Prop where
 cell:m.get O=.cells (yc r r2 st rc mo) 38 none
 st:Ow (O+1) m sl st
 rc:Ow (O+1) m rl rc
 mo:Ow (O+1) m ml mo
 lt:O < m.n
def pW.an{O:Nat}{sl:List KW}{rl:List Fc}{ml:List Mo}(h:pW O m r r2 sl rl ml st rc mo)(F:Ext m m'):pW O m' r r2 sl rl ml st rc mo:=
 ⟨F.cells h.cell,h.st.an F,h.rc.an F,h.mo.an F,F7 h.lt F.n⟩
def PX{x:KW}:aO TE m 34 1 [(0,x.v)]=some (.slice (some ⟨m.n,0,none⟩) 1 1,m.push (.cells x.c 69 none)):=bv
def aco{x:Fc}:aO TE m 35 1 [(0,x.v)]=some (.slice (some ⟨m.n,0,none⟩) 1 1,m.push (.cells x.c 52 none)):=bv
def acE{x:Mo}:aO TE m 36 1 [(0,x.v)]=some (.slice (some ⟨m.n,0,none⟩) 1 1,m.push (.cells x.c 95 none)):=bv
section
variable {O:Nat} {r r2:Φ} {sl:List KW} {rl:List Fc} {ml:List Mo} {st rc mo:Φ}
def pW.JT(h:pW O m r r2 sl rl ml st rc mo){x:KW}(h1:one x.w/\one x.mv)(hl:sl.length<1000000):
  ∃a m1 r' m2 m3,aO TE m 34 1 [(0,x.v)]=some (a,m1)/\aR TE (M.wl m1 (M.n m1)) .append [34,34] [st,a]=some (r',m2)/\bw TE m2 34 (Ψ O (0+2)) r'=some (m3,O)/\O+1<=m2.low/\
   pW O m3 r r2 (sl++ [x]) rl ml r' rc mo/\m.n<=m3.n/\(∀c,c<O->m3.get c=m.get c)/\(∀c cs t g,m.get c=.cells cs t g->t≠69->t≠38->m3.get c=.cells cs t g)/\(∀c,c<m.n->c≠O->(∀a n k,st=.slice (some a) n k->c≠a.block)->m3.get c=m.get c)/\(∀a n k,r'=.slice (some a) n k->m.n<=a.block):=by obtain⟨m1,b0⟩:∃q,q=m.push (.cells x.c 69 none):=⟨_,rfl⟩;have H:Ext m m1:=b0 ▸ Ext.refl.push;have e0:m1.get m.n=.cells x.c 69 none:=(by rw[b0];exact M.aU);have i0:=h.lt;have j0:=H.n;obtain⟨r',m2,m3,⟨⟨_,pf⟩,pn⟩,p1,p2,p3,p4,p5,p6,p7,p8⟩:=Bl (n1:=O+1) (o:=2) yP rfl JM rfl h.cell (by rfl) ac ac h.st H (kY (x:=x) e0 ⟨rfl,h1⟩) hl;have p2:bw TE m2 34 (Ψ O (0+2)) r'=some (m3,O):=p2;have iE:∀c cs t g,m.get c=.cells cs t g->t≠69->t≠38->m3.get c=.cells cs t g:=λc cs t g F g0 h0=>(by have k0:=M.aP F;have d0:=H.cells F;rw[p8 c ac (λe=>by subst e;rw[h.cell]at F;cases F;exact h0 rfl) λl0 g' e=>by rw[d0]at e;cases e;exact g0 rfl,d0]);refine⟨_,m1,r',m2,m3,b0 ▸ PX,p1,p2,p3,⟨p4,p5,h.rc.aY λc cs t g F ht=>iE c cs t g F ?_ ?_,h.mo.aY λc cs t g F ht=>iE c cs t g F ?_ ?_,ac⟩,ac,λc F=>p7 c ac ac,iE,λc F h1 h2=>by rw[pn c ac h1 h2,H.get c F],be⟩ <;>(simp only[aQ.ty,aQ.dQ,Qk,Uf,or_false]at ht;subst ht;decide)
def pW.vW(h:pW O m r r2 sl rl ml st rc mo){x:Fc}(hl:rl.length<1000000):
  ∃a m1 r' m2 m3,aO TE m 35 1 [(0,x.v)]=some (a,m1)/\aR TE (M.wl m1 (M.n m1)) .append [35,35] [rc,a]=some (r',m2)/\bw TE m2 35 (Ψ O (0+3)) r'=some (m3,O)/\O+1<=m2.low/\
   pW O m3 r r2 sl (rl++ [x]) ml st r' mo/\m.n<=m3.n/\(∀c,c<O->m3.get c=m.get c)/\(∀c cs t g,m.get c=.cells cs t g->t≠52->t≠38->m3.get c=.cells cs t g)/\(∀c,c<m.n->c≠O->(∀a n k,rc=.slice (some a) n k->c≠a.block)->m3.get c=m.get c)/\(∀a n k,r'=.slice (some a) n k->m.n<=a.block):=by obtain⟨m1,b0⟩:∃q,q=m.push (.cells x.c 52 none):=⟨_,rfl⟩;have H:Ext m m1:=b0 ▸ Ext.refl.push;have e0:m1.get m.n=.cells x.c 52 none:=(by rw[b0];exact M.aU);have i0:=h.lt;have j0:=H.n;obtain⟨r',m2,m3,⟨⟨_,pf⟩,pn⟩,p1,p2,p3,p4,p5,p6,p7,p8⟩:=Bl (n1:=O+1) (o:=3) FM rfl OJ rfl h.cell (by rfl) ac ac h.rc H (kY (x:=x) e0 rfl) hl;have p2:bw TE m2 35 (Ψ O (0+3)) r'=some (m3,O):=p2;have iE:∀c cs t g,m.get c=.cells cs t g->t≠52->t≠38->m3.get c=.cells cs t g:=λc cs t g F g0 h0=>(by have k0:=M.aP F;have d0:=H.cells F;rw[p8 c ac (λe=>by subst e;rw[h.cell]at F;cases F;exact h0 rfl) λl0 g' e=>by rw[d0]at e;cases e;exact g0 rfl,d0]);refine⟨_,m1,r',m2,m3,b0 ▸ aco,p1,p2,p3,⟨p4,h.st.aY λc cs t g F ht=>iE c cs t g F ?_ ?_,p5,h.mo.aY λc cs t g F ht=>iE c cs t g F ?_ ?_,ac⟩,ac,λc F=>p7 c ac ac,iE,λc F h1 h2=>by rw[pn c ac h1 h2,H.get c F],be⟩ <;>(simp only[aQ.ty,aQ.dQ,Qk,Uf,or_false]at ht;subst ht;decide)
def pW.vX(h:pW O m r r2 sl rl ml st rc mo){x:Mo}(hl:ml.length<1000000):
  ∃a m1 r' m2 m3,aO TE m 36 1 [(0,x.v)]=some (a,m1)/\aR TE (M.wl m1 (M.n m1)) .append [36,36] [mo,a]=some (r',m2)/\bw TE m2 36 (Ψ O (0+4)) r'=some (m3,O)/\O+1<=m2.low/\
   pW O m3 r r2 sl rl (ml++ [x]) st rc r'/\m.n<=m3.n/\(∀c,c<O->m3.get c=m.get c)/\(∀c cs t g,m.get c=.cells cs t g->t≠95->t≠38->m3.get c=.cells cs t g)/\(∀c,c<m.n->c≠O->(∀a n k,mo=.slice (some a) n k->c≠a.block)->m3.get c=m.get c)/\(∀a n k,r'=.slice (some a) n k->m.n<=a.block):=by obtain⟨m1,b0⟩:∃q,q=m.push (.cells x.c 95 none):=⟨_,rfl⟩;have H:Ext m m1:=b0 ▸ Ext.refl.push;have e0:m1.get m.n=.cells x.c 95 none:=(by rw[b0];exact M.aU);have i0:=h.lt;have j0:=H.n;obtain⟨r',m2,m3,⟨⟨_,pf⟩,pn⟩,p1,p2,p3,p4,p5,p6,p7,p8⟩:=Bl (n1:=O+1) (o:=4) JB rfl Vn rfl h.cell (by rfl) ac ac h.mo H (kY (x:=x) e0 rfl) hl;have p2:bw TE m2 36 (Ψ O (0+4)) r'=some (m3,O):=p2;have iE:∀c cs t g,m.get c=.cells cs t g->t≠95->t≠38->m3.get c=.cells cs t g:=λc cs t g F g0 h0=>(by have k0:=M.aP F;have d0:=H.cells F;rw[p8 c ac (λe=>by subst e;rw[h.cell]at F;cases F;exact h0 rfl) λl0 g' e=>by rw[d0]at e;cases e;exact g0 rfl,d0]);refine⟨_,m1,r',m2,m3,b0 ▸ acE,p1,p2,p3,⟨p4,h.st.aY λc cs t g F ht=>iE c cs t g F ?_ ?_,h.rc.aY λc cs t g F ht=>iE c cs t g F ?_ ?_,p5,ac⟩,ac,λc F=>p7 c ac ac,iE,λc F h1 h2=>by rw[pn c ac h1 h2,H.get c F],be⟩ <;>(simp only[aQ.ty,aQ.dQ,Qk,Uf,or_false]at ht;subst ht;decide)
def pW.Su(h:pW O m r r2 sl rl ml st rc mo){a v':Φ}{m2:M}{e0:List KW}(e:aR TE (m.wl m.n) .append [34,34] [st,a]=some (v',m2))(ho:Ow (O+1) m2 e0 v')(hn:m.n<=m2.n)(k0:O+1<=m2.low)(hk:∀c,c<O+1->m2.get c=m.get c):
  ∃m3,bw TE m2 34 (Ψ O (0+2)) v'=some (m3,O)/\pW O m3 r r2 e0 rl ml v' rc mo/\m.n<=m3.n/\(∀c,c<O->m3.get c=m.get c)/\(∀c cs t g,m.get c=.cells cs t g->t≠69->t≠38->m3.get c=.cells cs t g)/\(∀c,c<m.n->c≠O->(∀a n k,st=.slice (some a) n k->c≠a.block)->m3.get c=m.get c):=by have g2:m2.get O=.cells (yc r r2 st rc mo) 38 none:=(by rw[hk O ac];exact h.cell);have d0:=vK (E:=TE) (o:=0+2) (x:=v') JM g2 (by rw[ho.sl.cells];rfl) (by rw[ho.sl.cells];show 0+2+1<=5;decide) (by rw[ho.sl.cells];simp[ho.sl.one]);obtain⟨m3,H⟩:∃q,q=m2.set O (.cells (yc r r2 v' rc mo) 38 none):=⟨_,rfl⟩;have d0:bw TE m2 34 (Ψ O (0+2)) v'=some (m3,O):=(by rw[d0,H,ho.sl.cells];rfl);have l0:m3.n=m2.n:=(by rw[H];rfl);have h0:m3.get O=.cells (yc r r2 v' rc mo) 38 none:=(by rw[H];exact M.get_set_same (M.aP g2));have g0:∀c,c≠O->m3.get c=m2.get c:=λc F=>(by rw[H];exact M.dY F);have b0:∀c,c<m.n->c≠O->(∀a n k,st=.slice (some a) n k->c≠a.block)->m3.get c=m.get c:=λc F h1 h2=>(by rw[g0 c h1,ik e F h2]);have iE:∀c cs t g,m.get c=.cells cs t g->t≠69->t≠38->m3.get c=.cells cs t g:=λc cs t g F i0 n0=>(by have j0:=M.aP F;rw[b0 c j0 be λad n k es e=>?_,F];have:=h.st.sl;rw[es]at this;rcases this with⟨h1,_⟩|⟨b,o,cc,bc,g',h1,h2,_⟩;cases h1;cases h1;rw[e,h2]at F;cases F;exact i0 rfl);refine⟨m3,d0,⟨h0,?_,h.rc.aY λc cs t g F ht=>iE c cs t g F ?_ ?_,h.mo.aY λc cs t g F ht=>iE c cs t g F ?_ ?_,?_⟩,ac,be,iE,b0⟩;exact ho.zm rfl λc h1 _=>g0 c ac;(any_goals (simp only[aQ.ty,aQ.dQ,Qk,Uf,or_false]at ht;subst ht;decide));have:=h.lt;omega
end
structure mM(m0:M)(O:Nat)(m:M)(r r2:Φ)(k:List Kp)(rl:List Fc)(ml:List Mo)(rc mo:Φ):Prop where
 ex:∃sl st,xJ sl=k/\pW O m r r2 sl rl ml st rc mo/\∀x∈sl,Sl m x.u.shape x.w/\Sl m x.ms x.mv/\x.u.shape.length < 1000000/\x.ms.length < 1000000
 x:Ext m0 m
 o:m0.n=O
section
variable {m0:M} {O:Nat} {r r2:Φ} {k:List Kp} {rl:List Fc} {ml:List Mo} {rc mo:Φ}
def mM.an(h:mM m0 O m r r2 k rl ml rc mo)(F:Ext m m'):mM m0 O m' r r2 k rl ml rc mo:=by have⟨⟨sl,st,h1,h2,H⟩,h4,h5⟩:=h;exact⟨⟨sl,st,h1,h2.an F,λx hm=>⟨(H x hm).1.an F,(H x hm).2.1.an F,(H x hm).2.2⟩⟩,h4.trans F,h5⟩
def mM.WK(h:mM m0 O m r r2 k rl ml rc mo):aC TE m 35 (Ψ O (0+3))=some rc:=by have⟨⟨sl,st,H,F,h3⟩,h4,h5⟩:=h;exact(eS F.cell).2.2.1
def mM.ldm(h:mM m0 O m r r2 k rl ml rc mo):aC TE m 36 (Ψ O (0+4))=some mo:=by have⟨⟨sl,st,H,F,h3⟩,h4,h5⟩:=h;exact(eS F.cell).2.2.2.1
def mM.lt(h:mM m0 O m r r2 k rl ml rc mo):O<m.n:=by have⟨⟨sl,st,H,F,h3⟩,h4,h5⟩:=h;exact F.lt
def Ku{sl:List KW}(F:∀x∈sl,Sl m x.u.shape x.w/\Sl m x.ms x.mv/\x.u.shape.length<1000000/\x.ms.length<1000000)(hk:∀c cs t g,m.get c=.cells cs t g->(t=85\/t=71)->m'.get c=.cells cs t g):
  ∀x∈sl,Sl m' x.u.shape x.w/\Sl m' x.ms x.mv/\x.u.shape.length<1000000/\x.ms.length<1000000:=λx H=>
 ⟨(F x H).1.aY λc cs t g hc ht=>hk c cs t g hc (.inl (by simpa[aQ.ty,aQ.dQ]using ht)),(F x H).2.1.aY λc cs t g hc ht=>hk c cs t g hc (.inr (by simpa[aQ.ty,aQ.dQ]using ht)),(F x H).2.2⟩
def mM.vW(h:mM m0 O m r r2 k rl ml rc mo){x:Fc}(hl:rl.length<1000000):
  ∃a m1 F m2 m3,aO TE m 35 1 [(0,x.v)]=some (a,m1)/\aR TE (M.wl m1 (M.n m1)) .append [35,35] [rc,a]=some (F,m2)/\bw TE m2 35 (Ψ O (0+3)) F=some (m3,O)/\O+1<=m2.low/\
   mM m0 O m3 r r2 k (rl++ [x]) ml F mo/\m.n<=m3.n/\(∀c,c<m.n->c≠O->(∀a n k,rc=.slice (some a) n k->c≠a.block)->m3.get c=m.get c)/\(∀a n k,F=.slice (some a) n k->m.n<=a.block):=by have⟨⟨sl,st,h1,h2,h3⟩,h4,h5⟩:=h;have b0:=h4.n;have⟨a,m1,F,m2,m3,e1,e2,e3,e4,k1,k2,k3,k4,k5,k6⟩:=h2.vW (x:=x) hl;exact⟨a,m1,F,m2,m3,e1,e2,e3,e4,⟨⟨sl,st,h1,k1,Ku h3 λc cs t g H ht=>k4 c cs t g H be be⟩,⟨ac,λc H=>by rw[k3 c ac,h4.get c H]⟩,h5⟩,k2,k5,k6⟩
def mM.vX(h:mM m0 O m r r2 k rl ml rc mo){x:Mo}(hl:ml.length<1000000):
  ∃a m1 F m2 m3,aO TE m 36 1 [(0,x.v)]=some (a,m1)/\aR TE (M.wl m1 (M.n m1)) .append [36,36] [mo,a]=some (F,m2)/\bw TE m2 36 (Ψ O (0+4)) F=some (m3,O)/\O+1<=m2.low/\
   mM m0 O m3 r r2 k rl (ml++ [x]) rc F/\m.n<=m3.n/\(∀c,c<m.n->c≠O->(∀a n k,mo=.slice (some a) n k->c≠a.block)->m3.get c=m.get c)/\(∀a n k,F=.slice (some a) n k->m.n<=a.block):=by have⟨⟨sl,st,h1,h2,h3⟩,h4,h5⟩:=h;have b0:=h4.n;have⟨a,m1,F,m2,m3,e1,e2,e3,e4,k1,k2,k3,k4,k5,k6⟩:=h2.vX (x:=x) hl;exact⟨a,m1,F,m2,m3,e1,e2,e3,e4,⟨⟨sl,st,h1,k1,Ku h3 λc cs t g H ht=>k4 c cs t g H be be⟩,⟨ac,λc H=>by rw[k3 c ac,h4.get c H]⟩,h5⟩,k2,k5,k6⟩
end
def EB(y:Yd)(t:Tk):Option Yd:=if eA t=true then AT Ae cg bQ y t else none
def EA{y:Yd}{t:Tk}:EB y t=(eF Ae cg bQ y t).map λp=>⟨p.1,p.2,CV y t,vz y t,C1 y t⟩:=by unfold EB eF AT;grind
abbrev Z6:Φ:=yv (.slice none 0 0) (.slice none 0 0) (.slice none 0 0) (.slice none 0 0) (.slice none 0 0)
def lI(D:Option Yd)(m':M)(F:Φ):Prop:=match D with
 |some z=>∃r r2 st rc mo,F=.tuple #[yv r r2 st rc mo,.int .i64 0]/\sS m' z r r2 st rc mo
 |none=>F=.tuple #[Z6,.int .i64 270]
def pj{α:Type}[aQ α]{m':M}{l:List α}{v:Φ}(h:Sl m' l v)(F:D.bN v):l=[]/\v=U7:=by rcases h with⟨H,h2⟩|⟨b,o,c,bc,g,H,_⟩;grind;rw[H]at F;simp[D.bN]at F
def sS.flat{z:Yd}(h:sS m' z r r2 st rc mo)(H:D.bN r/\D.bN r2/\D.bN st/\D.bN rc/\D.bN mo)(m:M):sS m z r r2 st rc mo:=by have⟨⟨l,h1,h2⟩,h3,⟨k,h4,h5⟩,h6,h7⟩:=h;have⟨f1,f2,f3,f4,f5⟩:=H;obtain⟨e1,rfl⟩:=pj h2.sl f1;obtain⟨e2,rfl⟩:=pj h3 f2;obtain⟨e3,rfl⟩:=pj h5.sl f3;obtain⟨e4,rfl⟩:=pj h6 f4;obtain⟨e5,rfl⟩:=pj h7 f5;subst e1 e3;exact⟨⟨[],h1,⟨.nil,λx F=>(by cases F),λx F=>(by cases F),.inl rfl⟩⟩,e2 ▸ .nil,⟨[],h4,F1.nil⟩,e4 ▸ .nil,e5 ▸ .nil⟩
def lI.flat{D:Option Yd}{t:Φ}(h:lI D m' (.tuple #[yv r r2 st rc mo,t]))(H:aZ (.tuple #[yv r r2 st rc mo,t]))(m:M):lI D m (.tuple #[yv r r2 st rc mo,t]):=by unfold lI at h⊢;split at h;have⟨_,_,_,_,_,e,hs⟩:=h;cases e;have F:((D.bN r && (D.bN r2 && (D.bN st && (D.bN rc && (D.bN mo && true))))) && (true && true)):=H;simp only[De]at F;exact⟨_,_,_,_,_,rfl,hs.flat ⟨F.1.1,F.1.2.1,F.1.2.2.1,F.1.2.2.2.1,F.1.2.2.2.2.1⟩ m⟩;exact h
def Sm{u:Un}:bz TE 69 [(0,u.v w)]=some (KW.v ⟨u,w,[],U7⟩):=Jq rfl
def Si:bz TE 38 [(0,.agg #[r,r2])]=some (yv r r2 U7 U7 U7):=Jr rfl
def Sj{c:Int}:bz TE 95 [(0,Ω a),(1,Ω b),(2,Ω c)]=some (Mo.v ⟨a,b,c⟩):=Cz rfl rfl rfl
def U1:bz TE 38 []=some Z6:=afc
def mw{α:Type}(R:α->α->Prop)[DecidableRel R](D:Prop)[Decidable D](l:List α)(x:α)(add:Bool)(i:Nat)(acc:List α):Prop:=if D then qT R l x add i acc else add=false/\acc=l.take i
section
variable {α:Type} {R:α->α->Prop} [DecidableRel R] {D:Prop} [Decidable D] {l:List α} {x n:α} {i:Nat} {acc:List α} {add:Bool}
def mw.init:mw R D l x (decide D) 0 []:=by unfold mw;split;rename_i h;rw[Dk h];exact .nil;grind
def mw.put(F:∀a b c,R a b->R b c->R a c)(H:∀a,¬R a a)(h:mw R D l x true i acc)(hn:l[i]?=some n)(b0:¬R n x):mw R D l x false (i+1) (acc++ [x]++if(D->R x n\/R n x)then [n]else []):=by unfold mw at h⊢;by_cases hD:D;rw[F6 hD]at h⊢;have:=h.put F H hn b0;grind;grind
def mw.on(H:∀a b c,R a b->R b c->R a c)(b0:∀a,¬R a a)(h:mw R D l x true i acc)(hn:l[i]?=some n)(F:R n x):mw R D l x true (i+1) (acc++if(D->R x n\/R n x)then [n]else []):=by unfold mw at h⊢;rw[F6 λ_=> .inr F];by_cases hD:D;rw[F6 hD]at h⊢;exact h.on H b0 hn F;grind
def mw.off(F:∀a b c,R a b->R b c->R a c)(hs:l.Pairwise R)(h:mw R D l x false i acc)(hn:l[i]?=some n):mw R D l x false (i+1) (acc++if(D->R x n\/R n x)then [n]else []):=by unfold mw at h⊢;by_cases H:D;rw[F6 H]at h⊢;have⟨h1,h2⟩:=h.off F hs hn;grind;rw[Od H]at h⊢;rw[F6 λhc=>(H hc).elim,QM,hn,h.2];grind
def mw.fin(F:∀a,¬R a a)(H:∀a b c,R a b->R b c->R a c)(h:mw R D l x add l.length acc):(acc++if add=true then [x]else [])=if D then wI R l x else l:=by unfold mw at h;by_cases hD:D;rw[F6 hD]at h⊢;exact h.fin F H;grind
end
theorem Ws{y:Yd}{t:Tk}:vz y t=if t.kind=8/\(⟨t.id,t.side⟩:Fc)∉y.rc then wI jW y.rc ⟨t.id,t.side⟩else y.rc:=rfl
theorem WC{y:Yd}{t:Tk}:C1 y t=if t.kind=9 then wI nh y.mo ⟨t.id,t.other,t.dE⟩else y.mo:=rfl
def To{y:Yd}{t:Tk}{p:List Un×List Mk}(h:eF Ae cg bQ y t=some p)(k:t.kind=2):(cy y.us t.id).isSome:=by unfold eF at h;split at h;obtain⟨l,F, -⟩:=YZ.1 h;unfold fK at F;grind;cases h
def gV.aae{v:Φ}(h:gV vs H m' v)(hk:∀c cs t g,m'.get c=.cells cs t g->(t=44\/t=85\/t=71)->m''.get c=.cells cs t g):gV vs H m'' v:=by have⟨acc,r,r2,e,h1,h2,h3⟩:=h;exact⟨acc,r,r2,e,h1,h2.aY λc cs t g F ht=>hk c cs t g F be,h3.aY λc cs t g F ht=>hk c cs t g F (by have:t=71:=(by simpa[aQ.ty,aQ.dQ]using ht);grind)⟩
def Vx{l:List Mk}{v:Φ}(h:Sl m l v){i:Nat}{x:Mk}(H:l[i]?=some x):∃b o,aE TE 31 v (Ω i)=some (Ψ b o)/\aC TE m 3 (Ψ b (o+1))=some (Ω x.un)/\aC TE m 71 (Ψ b o)=some x.v:=by have⟨b,o,bc,g,cs,e1,hb,hr,hle,hj⟩:=h.jr cO (k:=.i64) H;obtain rfl:cs=x.c:=hr;refine⟨b,o,e1,?_,?_⟩;rw[bS,aH hb];exact hj 1 (by show 1<5;decide);have⟨p,F,e2,e3,e4⟩:=h.index cO (k:=.i64) H;obtain rfl:p=Ψ b o:=Option.some.inj (e2.symm.trans e1);obtain rfl:F=x.c:=e4;exact e3
def TB:aO TE m 31 1 [(0,x.v)]=some (.slice (some ⟨m.n,0,none⟩) 1 1,m.push (.cells x.c 71 none)):=bv
def afp:vu TE 31 Mk:=⟨ai.t31,ai.t71,bv,rfl,rfl,bv,ce,rfl⟩
def Kv{b:Nat}{u:Un}{mv:Φ}{l l':List Mk}(g:m.get b=.cells (KW.c ⟨u,w,l',mv⟩) 69 none)(ho:Ow (b+1) m l mv){x:Mk}(hl:l.length<1000000):
  ∃a m1 H m2 m3,aO TE m 31 1 [(0,x.v)]=some (a,m1)/\aR TE (M.wl m1 (M.n m1)) .append [31,31] [mv,a]=some (H,m2)/\bw TE m2 31 (Ψ b (0+6)) H=some (m3,b)/\b+1<=m2.low/\
   m3.get b=.cells (KW.c ⟨u,w,l',H⟩) 69 none/\Ow (b+1) m3 (l++ [x]) H/\m.n<=m3.n/\(∀c,c<b->m3.get c=m.get c):=by
 obtain⟨m1,F⟩:∃q,q=m.push (.cells x.c 71 none):=⟨_,rfl⟩;have b0:Ext m m1:=F ▸ Ext.refl.push;have d0:m1.get m.n=.cells x.c 71 none:=(by rw[F];exact M.aU);have e0:=M.aP g;have g0:=b0.n;obtain⟨H,m2,m3,p1,p2,p3,p4,p5,p6,p7,p8⟩:=PB (n1:=b+1) (o:=6) afp rfl Dx rfl g (by rfl) ac ac ho b0 (kY (x:=x) d0 rfl) hl;exact⟨_,m1,H,m2,m3,F ▸ TB,p1,p2,p3,p4,p5,ac,λc hc=>p7 c ac ac⟩
