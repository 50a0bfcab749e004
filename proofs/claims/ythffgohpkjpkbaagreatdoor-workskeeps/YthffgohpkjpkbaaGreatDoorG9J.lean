/- putlogref12.Contacts. -/
import Derived.Test.YthffgohpkjpkbaaGreatDoorG8J
set_option maxHeartbeats 1000000
set_option linter.defProp false
set_option maxRecDepth 100000
noncomputable section
namespace Go.Proofs.YthffgohpkjpkbaaGreatDoor
open Go Go.D Go.Proofs.Tryz
variable{us vs:List Un}{F H ms:List Mk}{a b:Int}{x:Mk}{mo r r2 rc st w w':O}{m' m'':M}{g:Option Nat}
variable{X:aF}{m:M}
def yQ(us:List Un)(i:Nat):List Ct:=match us[i]? with
 |some u=>(fT u).toList++(us.drop (i+1)).filterMap (fH u)
 |none=> []
def mY(us:List Un)(i:Nat):List Ct:=(List.range i).flatMap (yQ us)
def yP(us:List Un):List Ct:=if iT us=true then mY us us.length else []
def qE(us:List Un)(i:Nat):mY us (i+1)=mY us i++yQ us i:=by unfold mY;rw[Oz,TA];simp
def Jb(us:List Un)(i:Nat):(yQ us i).length<=us.length+1:=by unfold yQ;grind
theorem sw(us:List Un):∀i,(mY us i).length<=i*(us.length+1)
 |0=>by simp[mY]
 |i+1=>by rw[qE,I8,PC];have:=sw us i;have:=Jb us i;omega
def QB{α:Type}[aL α]{l:List α}{r:O}{m':M}{lo:Nat}{Q:Prop}(hQ:Q)(h:Ow m.n m' l r)(F:m.n<=lo)(hx:Ext m m'):
  (aZ (aP [r])/\m.n<=lo/\(Q/\Ext m m/\Ow m.n m l r))\/((aZ (aP [r])=false\/lo<m.n)/\(min m.n lo=m.n/\Ext m m'/\Ow m.n m' l r)):=by by_cases H:l=[];subst H;rcases h with⟨rfl,_⟩|⟨b,cs,h1,h⟩;exact .inl ⟨rfl,F,hQ,.refl,Ow.nil⟩;grind;obtain⟨b,rfl,_⟩:=pY h H;exact .inr ⟨.inl rfl,Z,hx,h⟩
theorem Fs(hX:cp X){l:List UW}{v:O}(h:cD m l v)(hlen:l.length<1000000):
  ∃r m',xw X 45 [.agg #[v]] m r m'/\Ext m m'/\Ow m.n m' (yP (bH l)) r:=by
 apply Cl.kI hX (U5 func45);rw[F45];dsimp only[aH];refine ah λm1 c2 j0 k1=>?_;have j0:m1.get m.n=.cells [v] 29 none:=j0;have B0:Ext m m1:=⟨Z,k1⟩;have y0:=h.ak B0;unfold ptrTo;simp only[bk,Y];rw[show aC TE m1 29 (Ω m.n 0)=some (.agg #[v]) by rw[cW,aI j0 co];rfl,Y];apply aw (nS hX y0 hlen);rw[bB,Y,ag];refine af (λc=>?_) (λc=>?_);rw[yC]at c;refine QB (m':=m1) J ?_ Z B0;unfold yP;rw[ND J];exact Ow.nil;rw[HO]at c;have hP:=qj.1 c;have O1:l.length<=12:=(by have:=hP.len;rwa[cx]at this);have l1:(bH l).length=l.length:=cx;have O0:∀{m':M},m'.get m.n=.cells [v] 29 none->aC TE m' 27 (Ω m.n (0+0))=some v:=λh=>(by rw[dV,aG h];rfl);refine Lp.intro (γ:=Nat) (λi=>l.length-i) (λi vs mm lo=>∃r,vs=[r,I i]/\i<=l.length/\Ext m1 mm/\m.n<=lo/\Ow m1.n mm (mY (bH l) i) r) 0 ⟨_,rfl,Vw _,.refl,Z,Ow.nil⟩ ?_;rintro i vs mm lo ⟨r,rfl,hi,k0,d2,ho⟩;have nm:=k0.n;have hF:=y0.ak k0;rw[av,av,O0 (k0.cells j0),Y,hF.sl.len cY,an,aK,Y,ag];refine af (λP0=>?_) (λo1=>?_);have P0:i<l.length:=J;obtain⟨x,hx⟩:∃x,l[i]?=some x:=⟨_,QC P0⟩;have e0:=QP hx;have u1:=kg hx;have e2:=sw (bH l) i;have HM:i*((bH l).length+1)<=12*13:=UQ Z Z;have⟨q,q1,q2,ow⟩:=hF.sl.gR (k:=.i64) hx;rw[Y,q1,Y,q2,Y];apply aw (I3 hX (hF.sh x e0) (hF.ln x e0));rw[aE,aE];simp only[XW,Q7,Y];refine ah λg2 Q1 Q0 T1=>?_;refine aj wB Q0 (by rw[bd];exact fK _) (by rw[bd];exact fK _) (by rw[bd];exact oX _) λa1 a2 h0 b2=>?_;rw[bd]at h0;have h0:a1.get mm.n=.cells (H5 (fT x.u)) 50 none:=h0;have A0:Ext mm a1:=⟨Z,J⟩;have b1:=ho.ak A0;have l0:=k0.trans A0;have c1:yQ (bH l) i=(fT x.u).toList++((bH l).drop (i+1)).filterMap (fH x.u):=(by unfold yQ;rw[u1]);rw[ag]
 (cases hs:fT x.u with|some t=>show lY true _ _;rw[hs]at h0;rw[bN,FJ h0,Y];refine jy (x:=t) J8 rfl b1 Z Z Jl (λ_=>rfl) λr1 v1 w2 n2 k2 d1 l2=>?_;rw[aO,Y,wrap64];have e1:Ext m1 v1:=⟨Z,λc hc=>by rw[k2 c hc,l0.get c hc]⟩;refine Lp.intro (γ:=Nat) (λd=>l.length-d) (λd vs mm lo=>∃r,vs=[r,I ((i+1+d:Nat):Int)]/\i+1+d<=l.length/\Ext m1 mm/\m.n<=lo/\Ow m1.n mm (mY (bH l) i++((fT x.u).toList++(((bH l).drop (i+1)).take d).filterMap (fH x.u))) r) 0 ⟨r1,rfl,Z,e1,Z,J⟩ ?_;rintro d vs n0 iH ⟨r,rfl,hd,F,o0,g0⟩;have w1:=F.n;have b0:=y0.ak F;rw[av,av,O0 (F.cells j0),Y,b0.sl.len cY,an,aK,Y,ag];refine af (λi0=>?_) (λp0=>?_);have i0:i+1+d<l.length:=J;obtain⟨y,hy⟩:∃y,l[i+1+d]?=some y:=⟨_,QC i0⟩;have q0:=QP hy;have⟨p,p1,p2,pw⟩:=b0.sl.gR (k:=.i64) hx;have⟨z,z1,z2,zw⟩:=b0.sl.gR (k:=.i64) hy;have r0:((bH l).drop (i+1)).take (d+1)=((bH l).drop (i+1)).take d++ [y.u]:=(by rw[Z8,Sa,kg hy];rfl);have y1:=SH (fH x.u) (((bH l).drop (i+1)).take d);have A1:(((bH l).drop (i+1)).take d).length<=d:=J;have B1:(fT x.u).toList.length<=1:=J;rw[Y,p1,Y,p2,Y,Y,z1,Y,z2,Y];refine aw (tX hX (b0.sh x e0) (b0.sh y q0) (b0.ln x e0) (b0.ln y q0)) ⟨R8 _,?_⟩;rw[aE,aE];simp only[XW,Q7,Y];refine ah λG1 g1 s0 h1=>?_;refine aj wB s0 (by rw[bd];exact fK _) (by rw[bd];exact fK _) (by rw[bd];exact oX _) λu0 i1 H j1=>?_;rw[bd]at H;have H:u0.get n0.n=.cells (H5 (fH x.u y.u)) 50 none:=H;have d0:Ext n0 u0:=⟨Z,J⟩;rw[ag];(cases ht:fH x.u y.u with|none=>show lY false _ _;rw[aT,aO,Y,wrap64];refine⟨d+1,Z,r,rfl,Z,F.trans d0,Z,?_⟩;rw[r0,Ip,Ha,ht,Vd,NC];exact g0.ak d0|some t=>show lY true _ _;rw[ht]at H;rw[bN,FJ H,Y];refine jy (x:=t) J8 rfl (g0.ak d0) Z J Jl (λ_=>rfl) λr' H1 w2 n2 k2 d1 l2=>?_;rw[aO,Y,wrap64];refine⟨d+1,Z,r',rfl,Z,⟨Z,λc hc=>by rw[k2 c hc,d0.get c Z,F.get c hc]⟩,Z,?_⟩;rw[r0,Ip,Ha,ht,Vd];rw[<-NZ,<-NZ];rw[<-NZ]at w2;exact w2);have K1:i+1+d=l.length:=(by have:¬((i+1+d:Nat):Int)< (l.length:Int):=Z0 p0;omega);rw[Y];refine⟨i+1,Z,r,rfl,Z,F,o0,?_⟩;rw[qE,c1];rw[MM J]at g0;exact g0|none=>show lY false _ _;rw[aT,aO,Y,wrap64];refine Lp.intro (γ:=Nat) (λd=>l.length-d) (λd vs mm lo=>∃r,vs=[r,I ((i+1+d:Nat):Int)]/\i+1+d<=l.length/\Ext m1 mm/\m.n<=lo/\Ow m1.n mm (mY (bH l) i++((fT x.u).toList++(((bH l).drop (i+1)).take d).filterMap (fH x.u))) r) 0 ⟨r,rfl,Z,l0,Z,J⟩ ?_;rintro d vs n0 iH ⟨r,rfl,hd,F,o0,g0⟩;have w1:=F.n;have b0:=y0.ak F;rw[av,av,O0 (F.cells j0),Y,b0.sl.len cY,an,aK,Y,ag];refine af (λi0=>?_) (λp0=>?_);have i0:i+1+d<l.length:=J;obtain⟨y,hy⟩:∃y,l[i+1+d]?=some y:=⟨_,QC i0⟩;have q0:=QP hy;have⟨p,p1,p2,pw⟩:=b0.sl.gR (k:=.i64) hx;have⟨z,z1,z2,zw⟩:=b0.sl.gR (k:=.i64) hy;have r0:((bH l).drop (i+1)).take (d+1)=((bH l).drop (i+1)).take d++ [y.u]:=(by rw[Z8,Sa,kg hy];rfl);have y1:=SH (fH x.u) (((bH l).drop (i+1)).take d);have A1:(((bH l).drop (i+1)).take d).length<=d:=J;have B1:(fT x.u).toList.length<=1:=J;rw[Y,p1,Y,p2,Y,Y,z1,Y,z2,Y];refine aw (tX hX (b0.sh x e0) (b0.sh y q0) (b0.ln x e0) (b0.ln y q0)) ⟨R8 _,?_⟩;rw[aE,aE];simp only[XW,Q7,Y];refine ah λG1 g1 s0 h1=>?_;refine aj wB s0 (by rw[bd];exact fK _) (by rw[bd];exact fK _) (by rw[bd];exact oX _) λu0 i1 H j1=>?_;rw[bd]at H;have H:u0.get n0.n=.cells (H5 (fH x.u y.u)) 50 none:=H;have d0:Ext n0 u0:=⟨Z,J⟩;rw[ag];(cases ht:fH x.u y.u with|none=>show lY false _ _;rw[aT,aO,Y,wrap64];refine⟨d+1,Z,r,rfl,Z,F.trans d0,Z,?_⟩;rw[r0,Ip,Ha,ht,Vd,NC];exact g0.ak d0|some t=>show lY true _ _;rw[ht]at H;rw[bN,FJ H,Y];refine jy (x:=t) J8 rfl (g0.ak d0) Z J Jl (λ_=>rfl) λr' H1 w2 n2 k2 d1 l2=>?_;rw[aO,Y,wrap64];refine⟨d+1,Z,r',rfl,Z,⟨Z,λc hc=>by rw[k2 c hc,d0.get c Z,F.get c hc]⟩,Z,?_⟩;rw[r0,Ip,Ha,ht,Vd];rw[<-NZ,<-NZ];rw[<-NZ]at w2;exact w2);have K1:i+1+d=l.length:=(by have:¬((i+1+d:Nat):Int)< (l.length:Int):=Z0 p0;omega);rw[Y];refine⟨i+1,Z,r,rfl,Z,F,o0,?_⟩;rw[qE,c1];rw[MM J]at g0;exact g0)
 have L1:i=l.length:=(by have:¬(i:Int)< (l.length:Int):=Z0 o1;omega);subst L1;refine QB (m':=mm) J ?_ Z (B0.trans k0);unfold yP;rw[UG c,l1];exact ho.mono Z
def iZ{α:Type}(f:α->Int)(l:List α)(x:α):List α:=(l.filter λy=>decide (f y < f x))++x::(l.filter λy=>decide (f x < f y))
theorem qc{α:Type}(f:α->Int)(x:α):∀{l:List α},(∀y∈l,f y≠f x)->(iZ f l x).Perm (x::l)
 |[],_=>List.Perm.refl _
 |a::r,h=>by have h0:=h a Mq;have F:=qc f x (l:=r) λy H=>h y (DJ _ H);unfold iZ at F⊢;rw[SV,SV];by_cases e:f a<f x;rw[UG J,ND J,Nw];exact(F.cons a).trans (List.Perm.swap x a r);rw[ND J,UG J];have:=(Qh (a:=a) (l₁:=(r.filter λy=>decide (f y<f x))++ [x]) (l₂:=r.filter λy=>decide (f x<f y)));simp only[NZ,Nw,List.nil_append]at this;exact this.trans ((F.cons a).trans (List.Perm.swap x a r))
def Rv{α:Type}{f:α->Int}{x:α}{l:List α}(h:l.Pairwise λa b=>f a<f b):(iZ f l x).Pairwise λa b=>f a<f b:=by unfold iZ;rw[Gv,ZV];refine⟨h.filter _,⟨J,h.filter _⟩,λa F b H=>?_⟩;grind
structure Tk where
 kind:Int
 un:Un
 id:Int
 other:Int
 side:Int
 du:Int
structure Kp where
 un:Un
 ms:List Mk
structure Mo where
 a:Int
 b:Int
 du:Int
structure Yd where
 us:List Un
 ms:List Mk
 st:List Kp
 rc:List Fc
 mo:List Mo
def eB(t:Tk):Bool:=
 if t.kind=1 then kR t.un && dv t.un.kind 6 8 && decide (t.id=0) && decide (t.other=0) && decide (t.side=0) && decide (t.du=0)
 else if t.kind=2\/t.kind=3\/t.kind=6\/t.kind=7 then eA t.un && decide (t.un.id=0) && dv t.id 0 99 && decide (t.other=0) && decide (t.side=0) && decide (t.du=0)
 else if t.kind=4 then eA t.un && decide (t.un.id=0) && dv t.id 0 99 && decide (t.other=0) && decide (t.side=0) && dv t.du 0 7
 else if t.kind=5\/t.kind=8 then eA t.un && decide (t.un.id=0) && dv t.id 0 99 && decide (t.other=0) && dv t.side (-2) 7 && decide (t.du=0)
 else if t.kind=9 then eA t.un && decide (t.un.id=0) && dv t.id 0 99 && dv t.other 0 99 && decide (t.side=0) && dv t.du 0 7 && decide (t.id < t.other)
 else false
def og(a b:Fc):Prop:=a.un < b.un\/a.un=b.un/\a.side < b.side
def nz(a b:Mo):Prop:=a.a < b.a\/a.a=b.a/\a.b < b.b
instance (a b:Fc):Decidable (og a b):=by unfold og;infer_instance
instance (a b:Mo):Decidable (nz a b):=by unfold nz;infer_instance
def allM(ms:List Mk)(st:List Kp):List Mk:=ms++st.flatMap Kp.ms
structure mS(y:Yd):Prop where
 xU:cq y.us
 Du:gh y.us y.ms
 PH:y.st.length<=12
 Xn:y.rc.length<=60
 UE:y.mo.length<=20
 ym:y.st.Pairwise λa b=>a.un.id < b.un.id
 off:∀k∈y.st,∀u∈y.us,u.id≠k.un.id
 Nb:∀k∈y.st,cq [k.un]
 DF:∀k∈y.st,gh [k.un] k.ms
 nod:((allM y.ms y.st).map Mk.id).Nodup
 Kl:(allM y.ms y.st).length<=20
 Am:∀f∈y.rc,(0<=f.un/\f.un<=99)/\ -2<=f.side/\f.side<=7
 BS:y.rc.Pairwise og
 Jo:∀x∈y.mo,0<=x.a/\x.a < x.b/\x.b<=99/\0<=x.du/\x.du<=7
 Es:y.mo.Pairwise nz
def Ac.bare(k:Int):Ac:=⟨k,⟨0,0,0,[],0,0⟩,0,0,0,⟨0,0,0,0,false⟩⟩
def eE(u:Un):Ac:={Ac.bare 1 with un:=u}
def jv(k id:Int):Ac:={Ac.bare k with id:=id}
def iK(x:Mk):Ac:={Ac.bare 5 with oN:=x}
def oj(us:List Un)(id side:Int):Bool:=match cz us id with
 |some u=>decide (side= -1) ||decide (side= -2) ||decide (0<=side) && decide (side < (u.shape.length:Int))
 |none=>false
def lL(t:Tk)(x:Mk):Bool:=decide (x.un=t.id) && decide (x.side=t.side) && x.DB && (decide (x.kind=1) ||decide (x.kind=4) ||decide (x.kind=5))
def fO(fj:Un->Un->Bool)(suits softer:Int->Int->Bool)(y:Yd)(t:Tk):Option (List Ac):=
 if t.kind=1 then(if(y.st.any λk=>decide (k.un.id=t.un.id))=true then none else some [eE t.un])
 else if t.kind=2 then(if((cz y.us t.id).isSome && decide (y.st.length < 12))=true then some [jv 2 t.id]else none)
 else if t.kind=3 then(y.st.find? λk=>decide (k.un.id=t.id)).map λk=>eE k.un::k.ms.map iK
 else if t.kind=4 then(cz y.us t.id).bind λu=>if(y.us.all λv=> !fj u v ||suits t.du v.du)=true then some [jv 2 t.id,eE {u with du:=t.du}]else none
 else if t.kind=5 then(if oj y.us t.id t.side=true then some ((y.ms.filter (lL t)).map λx=>jv 6 x.id)else none)
 else if t.kind=6 then some [jv 7 t.id]
 else if t.kind=7 then some [jv 6 t.id]
 else if t.kind=8 then(if(oj y.us t.id t.side && (decide (y.rc.length < 60) ||decide ((⟨t.id,t.side⟩:Fc)∈y.rc)))=true then some []else none)
 else(cz y.us t.id).bind λu=>(cz y.us t.other).bind λv=>if(fj u v && softer t.du u.du && softer t.du v.du && (decide (y.mo.length < 20) ||y.mo.any λx=>decide (x.a=t.id) && decide (x.b=t.other)))=true then some []else none
def eX:List Un->List Mk->List Ac->Option (List Un×List Mk)
 |us,ms,[]=>some (us,ms)
 |us,ms,a::r=>match uK us ms a with
  |some (F,H)=>eX F H r
  |none=>none
def rD(y:Yd)(t:Tk):List Kp:=
 if t.kind=2 then(match cz y.us t.id with |some u=>iZ (λk:Kp=>k.un.id) y.st ⟨u,y.ms.filter λx=>decide (x.un=t.id)⟩ |none=>y.st)
 else if t.kind=3 then y.st.filter λk=> !decide (k.un.id=t.id)else y.st
def An(y:Yd)(t:Tk):List Fc:=if t.kind=8/\(⟨t.id,t.side⟩:Fc)∉y.rc then(y.rc.filter λf=>decide (og f ⟨t.id,t.side⟩))++⟨t.id,t.side⟩::(y.rc.filter λf=>decide (og ⟨t.id,t.side⟩ f))else y.rc
def DC(y:Yd)(t:Tk):List Mo:=if t.kind=9 then(y.mo.filter λx=>decide (nz x ⟨t.id,t.other,t.du⟩))++⟨t.id,t.other,t.du⟩::(y.mo.filter λx=>decide (nz ⟨t.id,t.other,t.du⟩ x))else y.mo
def mU(fj:Un->Un->Bool)(suits softer:Int->Int->Bool)(y:Yd)(t:Tk):Option Yd:=
 match fO fj suits softer y t with
 |none=>none
 |some l=>(eX y.us y.ms l).map λp=>⟨p.1,p.2,rD y t,An y t,DC y t⟩
def jk{a:Ac}(h:uK us ms a=some (vs,H)):cq us/\gh us ms/\cQ a/\mB us ms a=some (vs,H)/\cq vs/\gh vs H:=by unfold uK kY at h;split at h;rename_i F;rw[G4]at F;split at h;rename_i hf;split at h;rename_i b0 d0 hd;split at h;rename_i hm;cases h;exact⟨qj.1 F.1,ig.1 F.2,hf,hd,Ba (qj.1 F.1) hd,ig.1 hm⟩;cases h;cases h;cases h;cases h
def Fo{l:List Ac}(H:cq us)(hm:gh us ms)(h:eX us ms l=some (vs,F)):cq vs/\gh vs F:=by induction l generalizing us ms with|nil=>cases h;exact⟨H,hm⟩|cons a r ih=>rw[eX]at h;split at h;rename_i b0 d0 hs;obtain⟨-, -, -, -,h1,h2⟩:=jk hs;grind;cases h
def ql{u:Un}(h:mB us ms (eE u)=some (vs,F)):wi us u/\vs=mi us u/\F=ms:=by unfold mB at h;have H:(eE u).kind=1:=rfl;rw[UG H]at h;have h:(qq us u).map (·,ms)=some (vs,F):=h;unfold qq at h;grind
def uH{id:Int}(h:mB us ms (jv 2 id)=some (vs,F)):(cz us id).isSome/\vs=ju us id/\F=ed ms id:=by unfold mB at h;have H:(jv 2 id).kind=2:=rfl;rw[ND (by rw[H];decide),UG H]at h;split at h;rename_i ha;cases h;exact⟨ha,rfl,rfl⟩;cases h
def VC(h:mB us ms (iK x)=some (vs,H)):(ms.any λy=>decide (y.id=x.id))=false/\vs=us/\H=ng ms x:=by unfold mB at h;have F:(iK x).kind=5:=rfl;rw[ND (by rw[F];decide),ND (by rw[F];decide),ND (by rw[F];decide),ND (by rw[F];decide),UG F]at h;split at h;cases h;rename_i ha;cases h;exact⟨Rs.2 ha,rfl,rfl⟩
def adD{id:Int}{o:Bool}(h:gZ ms id o=some F):F.map Mk.id=ms.map Mk.id:=by unfold gZ at h;split at h;rename_i k H;split at h;rename_i y hy;split at h;cases h;cases h;rw[Xz];apply Xx;grind;cases h;cases h
def Ga{ns:List Mk}{k id:Int}(hk:k=6\/k=7)(h:mB us ms (jv k id)=some (vs,ns)):vs=us/\ns.map Mk.id=ms.map Mk.id:=by unfold mB at h;have F:(jv k id).kind=k:=rfl;rw[F,iJ,iJ,iJ,iJ,iJ]at h;cases H:gZ ms (jv k id).id (decide (k=7))with|none=>rw[H]at h;cases h|some l=>rw[H]at h;cases h;exact⟨rfl,adD H⟩
theorem Eh{us:List Un}:∀{l:List Mk} {ms F:List Mk} {vs:List Un},eX us ms (l.map λx=>jv 6 x.id)=some (vs,F)->vs=us/\F.map Mk.id=ms.map Mk.id
 |[],ms,F,vs,h=>by cases h;exact⟨rfl,rfl⟩
 |x::r,ms,F,vs,h=>by rw[UM,eX]at h;split at h;rename_i H b0 hs;obtain⟨-, -, -,hd, -, -⟩:=jk hs;obtain⟨rfl,e⟩:=Ga (.inl rfl) hd;have⟨e1,e2⟩:=Eh h;grind;cases h
def Ni(h:(ms.any λy=>decide (y.id=x.id))=false):(ng ms x).Perm (x::ms):=by refine qc Mk.id x λy F e=>?_;grind
theorem yK{us:List Un}:∀{l:List Mk} {ms F:List Mk} {vs:List Un},eX us ms (l.map iK)=some (vs,F)->vs=us/\F.Perm (l++ms)
 |[],ms,F,vs,h=>by cases h;exact⟨rfl,List.Perm.refl _⟩
 |x::r,ms,F,vs,h=>by rw[UM,eX]at h;split at h;rename_i H b0 hs;obtain⟨-, -, -,hd, -, -⟩:=jk hs;obtain⟨e0,rfl,rfl⟩:=VC hd;have⟨e1,e2⟩:=yK h;refine⟨e1,e2.trans (((Ni e0).append_left r).trans ?_)⟩;grind;cases h
def mS.next{y:Yd}(h:mS y){vs:List Un}{F:List Mk}{st:List Kp}{rc:List Fc}{mo:List Mo}(hf:cq vs)(hm:gh vs F)(s1:st.length<=12)(s2:st.Pairwise λa b=>a.un.id<b.un.id)(s3:∀k∈st,∀u∈vs,u.id≠k.un.id)
  (s4:∀k∈st,cq [k.un]/\gh [k.un] k.ms) (s5:∃w:List Int,w.Sublist ((allM y.ms y.st).map Mk.id)/\((allM F st).map Mk.id).Perm w)
  (r1:rc.length<=60) (r2:∀f∈rc,(0<=f.un/\f.un<=99)/\ -2<=f.side/\f.side<=7) (r3:rc.Pairwise og) (q1:mo.length<=20) (q2:∀x∈mo,0<=x.a/\x.a<x.b/\x.b<=99/\0<=x.du/\x.du<=7) (q3:mo.Pairwise nz):mS ⟨vs,F,st,rc,mo⟩:=by have⟨w,h1,h2⟩:=s5;refine⟨hf,hm,s1,r1,q1,s2,s3,λk H=>(s4 k H).1,λk H=>(s4 k H).2,?_,?_,r2,r3,q2,q3⟩;exact h2.nodup_iff.2 (h1.nodup h.nod);have e1:=h2.length_eq;have e2:=h1.length_le;have e3:=h.Kl;grind
def C3(ms:List Mk)(id:Int):(ed ms id++ms.filter λx=>decide (x.un=id)).Perm ms:=by unfold ed;exact List.perm_append_comm.trans (List.filter_append_perm (λx:Mk=>decide (x.un=id)) ms)
def Jz{l:List Fc}{x:Fc}(h:l.Pairwise og):((l.filter λf=>decide (og f x))++x::(l.filter λf=>decide (og x f))).Pairwise og:=by rw[Gv,ZV];refine⟨h.filter _,⟨λz hz=>by simpa using(Uk.1 hz).2,h.filter _⟩,λa H b F=>?_⟩;have H:og a x:=(by simpa using(Uk.1 H).2);rcases VM.1 F with rfl|F;exact H;have F:og x b:=(by simpa using(Uk.1 F).2);unfold og at H F⊢;omega
def abS{l:List Mo}{x:Mo}(h:l.Pairwise nz):((l.filter λf=>decide (nz f x))++x::(l.filter λf=>decide (nz x f))).Pairwise nz:=by rw[Gv,ZV];refine⟨h.filter _,⟨λz hz=>by simpa using(Uk.1 hz).2,h.filter _⟩,λa H b F=>?_⟩;have H:nz a x:=(by simpa using(Uk.1 H).2);rcases VM.1 F with rfl|F;exact H;have F:nz x b:=(by simpa using(Uk.1 F).2);unfold nz at H F⊢;omega
theorem wC{α:Type}{p q:α->Bool}(h:∀x,p x->q x->False):∀l:List α,(l.filter p).length+(l.filter q).length<=l.length
 |[]=>co
 |a::r=>by have F:=wC h r;grind
theorem Bx{α:Type}{p q:α->Bool}(h:∀x,p x->q x->False){a:α}:∀{l:List α},a∈l->p a=false->q a=false->(l.filter p).length+(l.filter q).length+1<=l.length
 |[],hm,_,_=>by cases hm
 |b::r,hm,F,H=>by rw[SV,SV];rcases VM.1 hm with rfl|hm;have:=wC h r;grind;have ih:=Bx h hm F H;grind
variable{fj:Un->Un->Bool}{suits softer:Int->Int->Bool}{y:Yd}{t:Tk}
def nh{n lo hi:Int}:dv n lo hi↔lo<=n/\n<=hi:=by unfold dv;simp
def qV(h:eB t):1<=t.kind/\t.kind<=9:=by unfold eB at h;grind
def Vn(h:eB t)(F:t.kind=8):(0<=t.id/\t.id<=99)/\ -2<=t.side/\t.side<=7:=by unfold eB at h;rw[iJ,iJ,iJ,ifp]at h;simp only[G4,nh]at h;grind
def Vm(h:eB t)(F:t.kind=9):0<=t.id/\t.id<t.other/\t.other<=99/\0<=t.du/\t.du<=7:=by unfold eB at h;rw[iJ,iJ,iJ,iJ,UG F]at h;simp only[G4,nh,Xo]at h;grind
def abp(F:mS y)(hf:eB t){l:List Ac}(ha:fO fj suits softer y t=some l):(An y t).length<=60/\(∀f∈An y t,(0<=f.un/\f.un<=99)/\ -2<=f.side/\f.side<=7)/\(An y t).Pairwise og:=by unfold An;by_cases e:t.kind=8/\(⟨t.id,t.side⟩:Fc)∉y.rc;rw[UG e];have hlen:y.rc.length<60:=(by unfold fO at ha;grind);have H:=wC (p:=λf:Fc=>decide (og f ⟨t.id,t.side⟩)) (q:=λf:Fc=>decide (og ⟨t.id,t.side⟩ f)) (λx h1 H=>by unfold og at h1 H;grind) y.rc;refine⟨J,λf hm=>?_,Jz F.BS⟩;rw[IF,VM,Uk,Uk]at hm;rcases hm with hm|rfl|hm;exact F.Am f hm.1;exact Vn hf e.1;exact F.Am f hm.1;rw[ND e];exact⟨F.Xn,F.Am,F.BS⟩
def Xy(H:mS y)(hf:eB t){l:List Ac}(F:fO fj suits softer y t=some l):(DC y t).length<=20/\(∀x∈DC y t,0<=x.a/\x.a<x.b/\x.b<=99/\0<=x.du/\x.du<=7)/\(DC y t).Pairwise nz:=by unfold DC;by_cases e:t.kind=9;rw[UG e];have hex:∀x:Mo,decide (nz x ⟨t.id,t.other,t.du⟩)->decide (nz ⟨t.id,t.other,t.du⟩ x)->False:=λx h1 h2=>(by unfold nz at h1 h2;grind);have hlen:(y.mo.filter λx=>decide (nz x ⟨t.id,t.other,t.du⟩)).length+(y.mo.filter λx=>decide (nz ⟨t.id,t.other,t.du⟩ x)).length+1<=20:=(by unfold fO at F;rw[iJ,iJ,iJ,iJ,iJ,iJ,iJ,iJ]at F;have⟨u,hu,F⟩:=W9.1 F;have⟨v,hv,F⟩:=W9.1 F;split at F;rename_i hc;simp only[G4,QA,Xo]at hc;rcases hc.2 with h|h;have:=wC hex y.mo;omega;have⟨x,hx,b0⟩:=U7.1 h;rw[G4,Xo,Xo]at b0;have:=Bx hex hx (by rw[SU];unfold nz;simp only[];omega) (by rw[SU];unfold nz;simp only[];omega);have:=H.UE;omega;cases F);refine⟨J,λf hm=>?_,abS H.Es⟩;rw[IF,VM,Uk,Uk]at hm;rcases hm with hm|rfl|hm;exact H.Jo f hm.1;exact Vm hf e;exact H.Jo f hm.1;rw[ND e];exact⟨H.UE,H.Jo,H.Es⟩
def lS{a:Ac}(h:eX us ms [a]=some (vs,F)):mB us ms a=some (vs,F):=by rw[eX]at h;split at h;rename_i H;cases h;exact(jk H).2.2.2.1;cases h
def Sz{u:Un}(h:kR u):cq [u]:=F3 co J co co
structure StOk(y:Yd)(vs:List Un)(ns:List Mk)(st:List Kp):Prop where
 s1:st.length<=12
 s2:st.Pairwise λa b=>a.un.id < b.un.id
 s3:∀k∈st,∀u∈vs,u.id≠k.un.id
 s4:∀k∈st,cq [k.un]/\gh [k.un] k.ms
 s5:∃w:List Int,w.Sublist ((allM y.ms y.st).map Mk.id)/\((allM ns st).map Mk.id).Perm w
def StOk.same(F:mS y){vs:List Un}{H:List Mk}(h3:∀k∈y.st,∀u∈vs,u.id≠k.un.id)(h5:(H.map Mk.id).Sublist (y.ms.map Mk.id)):StOk y vs H y.st:=by refine⟨F.PH,F.ym,h3,λk hk=>⟨F.Nb k hk,F.DF k hk⟩,_,?_,List.Perm.refl _⟩;unfold allM;grind
def PG(H:mS y)(hf:eB t){l:List Ac}(F:fO fj suits softer y t=some l){vs:List Un}{ns:List Mk}(hr:eX y.us y.ms l=some (vs,ns)):StOk y vs ns (rD y t):=by
 unfold fO at F;unfold rD;by_cases k1:t.kind=1;rw[UG k1]at F;rw[iJ,iJ];split at F;(cases F;rename_i hn;(cases F;obtain⟨e1,rfl,rfl⟩:=ql (lS hr);refine .same H (λk hk u hu=>?_) (List.Sublist.refl _);rcases wO hu with rfl|hu);grind;exact H.off k hk u hu);rw[ND k1]at F;by_cases k2:t.kind=2;rw[UG k2]at F⊢;split at F;rename_i hc;(cases F;rw[G4,Xo]at hc;obtain⟨-,rfl,rfl⟩:=uH (lS hr);have⟨u,hu⟩:=XV.1 hc.1;have⟨d0,hid⟩:=eT hu;rw[hu];have i0:∀k∈y.st,k.un.id≠(⟨u,y.ms.filter λx=>decide (x.un=t.id)⟩:Kp).un.id:=λk hk=>λe=>H.off k hk u d0 e.symm;have hp:=qc (λk:Kp=>k.un.id) ⟨u,y.ms.filter λx=>decide (x.un=t.id)⟩ i0;refine⟨?_,Rv H.ym,λk hk v hv=>?_,λk hk=>?_,_,List.Sublist.refl _,?_⟩;have:=hp.length_eq;grind;have hv:=Uk.1 hv;rcases VM.1 (hp.mem_iff.1 hk)with rfl|hk;grind;exact H.off k hk v hv.1;rcases VM.1 (hp.mem_iff.1 hk)with rfl|hk;refine⟨Sz (H.xU.val u d0),?_⟩;have b0:(y.ms.filter λx=>decide (x.un=t.id)).Sublist y.ms:=Pq;refine⟨Xp b0.length_le H.Du.len,H.Du.ym.filter _,λx hx=>H.Du.ok x (b0.mem hx),λx hx=>?_⟩;have⟨v,hv,h1,h2⟩:=H.Du.un x (b0.mem hx);have⟨i,hi⟩:=MI hv;have o0:=qe H.xU hi;grind;exact⟨H.Nb k hk,H.DF k hk⟩;apply List.Perm.map _;unfold allM;have h1:((iZ (λk:Kp=>k.un.id) y.st ⟨u,y.ms.filter λx=>decide (x.un=t.id)⟩).flatMap Kp.ms).Perm ((y.ms.filter λx=>decide (x.un=t.id))++y.st.flatMap Kp.ms):=(by grind);refine(h1.append_left _).trans ?_;rw[<-NZ];exact(C3 y.ms t.id).append_right _);cases F;rw[ND k2]at F⊢;by_cases k3:t.kind=3;rw[UG k3]at F⊢;obtain⟨k,j0,rfl⟩:=R7.1 F;have k0:=Se j0;rw[eX]at hr;split at hr;rename_i l0 n0 hs;obtain⟨e1,rfl,rfl⟩:=ql (jk hs).2.2.2.1;obtain⟨rfl,hp⟩:=yK hr;have⟨p,q,g0⟩:=QR k0;have e0:=H.ym;rw[g0]at e0;rw[Gv,ZV]at e0;have h0:(y.st.filter λk=> !decide (k.un.id=t.id))=p++q:=(by rw[g0,IT,SV,ND J];rw[Uc.2 λz hz=>?_,Uc.2 λz hz=>?_];grind;grind);rw[h0];have b0:(p++q).Sublist y.st:=J;refine⟨Xp b0.length_le H.PH,H.ym.sublist b0,λj hj v hv=>?_,λj hj=>⟨H.Nb j (b0.mem hj),H.DF j (b0.mem hj)⟩,_,List.Sublist.refl _,?_⟩;rcases wO hv with rfl|hv;grind;exact H.off j (b0.mem hj) v hv;apply List.Perm.map _;unfold allM;grind;cases hr;rw[ND k3]at F⊢;by_cases k4:t.kind=4;rw[UG k4]at F;have⟨u,hu,F⟩:=W9.1 F;have⟨d0,hid⟩:=eT hu;split at F;(cases F;rw[eX]at hr;split at hr;rename_i l0 n0 hs;obtain⟨-,rfl,rfl⟩:=uH (jk hs).2.2.2.1;obtain⟨-,rfl,rfl⟩:=ql (lS hr);refine .same H (λk hk v hv=>?_) (List.Sublist.map _ (by unfold ed;exact Pq));rcases wO hv with rfl|hv;exact H.off k hk u d0;exact H.off k hk v (Uk.1 hv).1;cases hr);cases F;rw[ND k4]at F;by_cases k5:t.kind=5;rw[UG k5]at F;split at F;cases F;obtain⟨rfl,e⟩:=Eh hr;exact .same H H.off J;cases F;rw[ND k5]at F;by_cases k6:t.kind=6;rw[UG k6]at F;cases F;obtain⟨rfl,e⟩:=Ga (.inr rfl) (lS hr);exact .same H H.off J;rw[ND k6]at F;by_cases k7:t.kind=7;rw[UG k7]at F;cases F;obtain⟨rfl,e⟩:=Ga (.inl rfl) (lS hr);exact .same H H.off J;rw[ND k7]at F;have hl:l=[]:=(by by_cases k8:t.kind=8;grind;rw[ND k8]at F;have⟨u,hu,F⟩:=W9.1 F;have⟨v,hv,F⟩:=W9.1 F;grind);subst hl;cases hr;exact .same H H.off (List.Sublist.refl _)
def BA(F:mS y)(H:eB t){y':Yd}(h:mU fj suits softer y t=some y'):mS y':=by unfold mU at h;split at h;cases h;rename_i l ha;obtain⟨⟨vs,ns⟩,hr,rfl⟩:=R7.1 h;have⟨f,g⟩:=Fo F.xU F.Du hr;have s:=PG F H ha hr;have r:=abp F H ha;have q:=Xy F H ha;exact F.next f g s.s1 s.s2 s.s3 s.s4 s.s5 r.1 r.2.1 r.2.2 q.1 q.2.1 q.2.2
section
variable {X:aF} {m:M}
abbrev Tk.c(t:Tk)(w:O):ν:=[.int .i64 t.kind,.int .i64 t.un.id,.int .i64 t.un.kind,.int .i64 t.un.du,w,.int .i64 t.un.back,.int .i64 t.un.front,.int .i64 t.id,.int .i64 t.other,.int .i64 t.side,.int .i64 t.du]
abbrev Tk.v(t:Tk)(w:O):O:=.agg (t.c w).toArray
def Tk.dp{t:Tk}(h:one w):(t.c w).all one:=by show(true && (true && (true && (true && (one w && true)))))=true;rw[h];rfl
structure TW where
 t:Tk
 w:O
abbrev TW.c(x:TW):ν:=x.t.c x.w
abbrev TW.v(x:TW):O:=x.t.v x.w
instance:aL TW where
 ty:=58
 sz:=11
 agg:=true
 dN:=[]
 rep _ x cs:=cs=x.c/\one x.w=true
 pos:=ce
 one:=J
 len:=dg
 iy:=by rintro _ x _ ⟨rfl,h⟩;exact Tk.dp h
 aX:=J
def aak:vp TE 38 TW:=⟨ai.t38,ai.t58,bv,rfl,rfl,bv,ce,rfl⟩
structure KW where
 u:Un
 w:O
 ms:List Mk
 mv:O
abbrev KW.c(x:KW):ν:=[.int .i64 x.u.id,.int .i64 x.u.kind,.int .i64 x.u.du,x.w,.int .i64 x.u.back,.int .i64 x.u.front,x.mv]
abbrev KW.v(x:KW):O:=.agg (x.c).toArray
abbrev KW.k(x:KW):Kp:=⟨x.u,x.ms⟩
def KW.dp{x:KW}(F:one x.w)(H:one x.mv):(x.c).all one:=by show(true && (true && (true && (one x.w && (true && (true && (one x.mv && true)))))))=true;rw[F,H];rfl
instance:aL KW where
 ty:=85
 sz:=7
 agg:=true
 dN:=[]
 rep _ x cs:=cs=x.c/\one x.w=true/\one x.mv=true
 pos:=ce
 one:=J
 len:=dg
 iy:=by rintro _ x _ ⟨rfl,h1,h2⟩;exact KW.dp h1 h2
 aX:=J
def eR:qs TE 33 85 KW:=⟨ai.t33,ai.t85,bv,⟨_,rfl⟩,rfl,bv,rfl,rfl⟩
def zv:vp TE 33 KW:=⟨ai.t33,ai.t85,bv,rfl,rfl,bv,ce,rfl⟩
abbrev Mo.c(x:Mo):ν:=[.int .i64 x.a,.int .i64 x.b,.int .i64 x.du]
abbrev Mo.v(x:Mo):O:=.agg (x.c).toArray
instance:aL Mo where
 ty:=60
 sz:=3
 agg:=true
 dN:=[]
 rep _ x cs:=cs=x.c
 pos:=ce
 one:=J
 len:=J
 iy:=by rintro _ _ _ rfl;rfl
 aX:=J
def kj:qs TE 35 60 Mo:=⟨ai.t35,ai.t60,bv,⟨_,rfl⟩,rfl,bv,rfl,rfl⟩
def J7:vp TE 35 Mo:=⟨ai.t35,ai.t60,bv,rfl,rfl,bv,ce,rfl⟩
def Tn{α:Type}[aL α](m:M)(l:List α)(v:O):Prop:=(l=[]/\v=.slice none 0 0)\/SlC m l v
def Tn.aX{α:Type}[aL α]{l:List α}{v:O}{m':M}(h:Tn m l v)(F:∀b c t g,m.get b=.cells c t g->t∈aL.ty α::aL.dN α->m'.get b=.cells c t g):Tn m' l v:=by rcases h with h|⟨H,b,o,c,bc,g,h2,h3,h4,h5⟩;exact .inl h;exact .inr ⟨H.aX F,b,o,c,bc,g,h2,h3,F _ _ _ _ h4 Mq,h5⟩
def Tn.sl{α:Type}[aL α]{l:List α}{v:O}(h:Tn m l v):Sl m l v:=by rcases h with h|h;exact .inl ⟨h.2,h.1⟩;exact h.1
theorem _root_.Go.D.Ow.sln{α:Type}[aL α]{n1:Nat}{l:List α}{v:O}(h:Ow n1 m l v):Tn m l v:=by by_cases F:l=[];subst F;rcases h with⟨rfl,_⟩|⟨b,cs,_,h,_⟩;exact .inl ⟨rfl,rfl⟩;grind;exact .inr (h.slc F)
def Tn.to{α:Type}[aL α]{T t:TypeId}(F:qs TE T t α){l:List α}{v:O}(h:Tn m l v)(H:slice? TE m T Z9 none (some (I (0:Nat))) none=some Z9){i:Nat}(hi:i<=l.length):
  ∃v',slice? TE m T v none (some (I i)) none=some v'/\Sl m (l.take i) v':=by rcases h with⟨rfl,rfl⟩|⟨h1,b,o,c,bc,g,rfl,h3,h4,h5⟩;obtain rfl:i=0:=J;exact⟨_,H,.nil⟩;have⟨ti,te,t1,⟨e,t2⟩,t3,_⟩:=F;refine⟨_,Ed t1 t2 (by rw[t3];exact aL.pos) h4 J h3 Z,?_⟩;have:=h1.part (i:=0) (k:=i) (c':=c) Z;rwa[Mf,Vk,OX]at this
def Tn.from{α:Type}[aL α]{T t:TypeId}(H:qs TE T t α){l:List α}{v:O}(h:Tn m l v)(h0:slice? TE m T Z9 (some (I (0:Nat))) none none=some Z9){i:Nat}(hi:i<=l.length):
  ∃v',slice? TE m T v (some (I i)) none none=some v'/\(Sl m (l.drop i) v'\/(l.drop i=[]/\∃F c',v'=.slice (some F) 0 c')):=by rcases h with⟨rfl,rfl⟩|⟨h1,b,o,c,bc,g,rfl,h3,h4,h5⟩;obtain rfl:i=0:=J;exact⟨_,h0,.inl .nil⟩;have⟨ti,te,t1,⟨e,t2⟩,t3,_⟩:=H;obtain⟨F,e1,e2⟩:=oJ (E:=TE) (T:=T) t1 t2 (by rw[t3];exact aL.pos) h4 J h3 hi (o:=o);refine⟨_,e1,?_⟩;by_cases b0:i<l.length;rw[e2 Z,t3];have:=h1.part (i:=i) (k:=l.length-i) (c':=c-i) Z;rw[MM J]at this;grind;grind
theorem _root_.Go.D.Ow.Im{α:Type}[aL α]{T:TypeId}(hT:vp TE T α)(b0:aL.dN α=[]){n1:Nat}{l ys:List α}{v y:O}(h:Ow n1 m l v)(F:l≠ [])(H:Sl m ys y\/(ys=[]/\∃a' c',y=.slice (some a') 0 c'))(hn:n1<=m.n)(hs:l.length+ys.length<=1000000):
  ∃v' m1,aR TE (m.wl m.n) .append [T,T] [v,y]=some (v',m1)/\Ow n1 m1 (l++ys) v'/\m.n<=m1.n/\n1<=m1.low/\(∀c,c<n1->m1.get c=m.get c)/\((∃a n k,v=.slice (some a) n k/\∀c,c<m.n->c≠a.block->m1.get c=m.get c)):=by obtain⟨b,rfl,_⟩:=pY h F;rcases H with H|⟨rfl,a',c',rfl⟩;obtain⟨v',m1,e1,ho,hf,hl,_⟩:=h.append hT J H hn Z;obtain⟨ya,yc,rfl⟩:=H.form;exact⟨v',m1,e1,ho,hf.n,hl,λc hc=>hf.get c hc,_,_,_,rfl,λc hc F=>il e1 hc λad n k e=>J⟩;refine⟨_,m.wl m.n,append_nil hT (R8 _) J (.inl ⟨_,_,rfl⟩),?_,R8 _,hn,λ_ _=>rfl,_,_,_,rfl,λ_ _ _=>rfl⟩;rw[NC];exact h.ak Ext.refl.wl
structure GD(m:M)(l:List KW)(v:O):Prop where
 sl:Sl m l v
 cap:Tn m l v
 sh:∀x∈l,Sl m x.u.shape x.w
 mv:∀x∈l,Sl m x.ms x.mv
 ln:∀x∈l,x.u.shape.length < 1000000
 lm:∀x∈l,x.ms.length < 1000000
def GD.aX{l:List KW}{v:O}(h:GD m l v)(hk:∀c cs t g,m.get c=.cells cs t g->(t=85\/t=46\/t=68)->m'.get c=.cells cs t g):GD m' l v:=
 ⟨h.sl.aX λc cs t g F H=>hk c cs t g F (.inl (by simpa[aL.ty,aL.dN]using H)),h.cap.aX λc cs t g F H=>hk c cs t g F (.inl (by simpa[aL.ty,aL.dN]using H)),λx hx=>(h.sh x hx).aX λc cs t g F H=>hk c cs t g F (.inr (.inl (by simpa[aL.ty,aL.dN]using H))),λx hx=>(h.mv x hx).aX λc cs t g F H=>hk c cs t g F (.inr (.inr (by simpa[aL.ty,aL.dN]using H))),h.ln,h.lm⟩
def GD.ak{l:List KW}{v:O}(h:GD m l v)(F:Ext m m'):GD m' l v:=h.aX λ_ _ _ _ H _=>F.cells H
def GD.nil:GD m [] Z9:=⟨.nil,.inl ⟨rfl,rfl⟩,λx F=>(by cases F),λx F=>(by cases F),λx F=>(by cases F),λx F=>(by cases F)⟩
abbrev vP(l:List KW):List Kp:=l.map KW.k
def kE{l:List KW}:(vP l).length=l.length:=Xh _
structure rR(m:M)(y:Yd)(r r2 st rc mo:O):Prop where
 xU:∃l,bH l=y.us/\cD m l r
 ms:Sl m y.ms r2
 st:∃k,vP k=y.st/\GD m k st
 rc:Sl m y.rc rc
 mo:Sl m y.mo mo
abbrev yc(r r2 st rc mo:O):ν:=[r,r2,st,rc,mo]
abbrev yv(r r2 st rc mo:O):O:=.agg (yc r r2 st rc mo).toArray
def rR.aX{y:Yd}(h:rR m y r r2 st rc mo)(hk:∀c cs t g,m.get c=.cells cs t g->(t=43\/t=46\/t=68\/t=85\/t=103\/t=60)->m'.get c=.cells cs t g):rR m' y r r2 st rc mo:=by have⟨⟨l,h1,h2⟩,h3,⟨k,h4,h5⟩,h6,h7⟩:=h;refine⟨⟨l,h1,h2.aX λc cs t g F H=>hk c cs t g F J⟩,h3.aX λc cs t g F H=>hk c cs t g F ?_,⟨k,h4,h5.aX λc cs t g F H=>hk c cs t g F J⟩,h6.aX λc cs t g F H=>hk c cs t g F ?_,h7.aX λc cs t g F H=>hk c cs t g F ?_⟩ <;>(simp only[aL.ty,aL.dN,VM,DA,or_false]at H;subst H;simp)
def rR.ak{y:Yd}(h:rR m y r r2 st rc mo)(F:Ext m m'):rR m' y r r2 st rc mo:=h.aX λ_ _ _ _ H _=>F.cells H
def rR.iy{y:Yd}(h:rR m y r r2 st rc mo):(yc r r2 st rc mo).all one:=by have⟨⟨l,_,F⟩,H,⟨k,_,h5⟩,h6,h7⟩:=h;show(one r && (one r2 && (one st && (one rc && (one mo && true)))))=true;rw[F.sl.one,H.one,h5.sl.one,h6.one,h7.one];rfl
variable{b:Nat}{t:Tk}{w:O}{g:Option Nat}
def qA(h:m.get b=.cells (t.c w) 58 g):aC TE m 43 (Ω b (0+1))=some (t.un.v w):=by rw[oO,aI (n:=6) h dg];rfl
def kW(h:m.get b=.cells (t.c w) 58 g):aC TE m 58 (Ω b 0)=some (t.v w):=by rw[aeq,aI (n:=11) h dg];rfl
def kX(h:m.get b=.cells (t.c w) 58 g):
  aC TE m 3 (Ω b (0+0))=some (I t.kind)/\aC TE m 3 (Ω b (0+7))=some (I t.id)/\aC TE m 3 (Ω b (0+8))=some (I t.other)/\
  aC TE m 3 (Ω b (0+9))=some (I t.side)/\aC TE m 3 (Ω b (0+10))=some (I t.du):=by refine⟨?_,?_,?_,?_,?_⟩ <;>(rw[bP,aG h];rfl)
def uO(h:m.get b=.cells (t.c w) 58 g):
  aC TE m 3 (Ω b (0+1+0))=some (I t.un.id)/\aC TE m 3 (Ω b (0+1+1))=some (I t.un.kind)/\aC TE m 3 (Ω b (0+1+2))=some (I t.un.du)/\
  aC TE m 41 (Ω b (0+1+3))=some w/\aC TE m 3 (Ω b (0+1+4))=some (I t.un.back)/\aC TE m 3 (Ω b (0+1+5))=some (I t.un.front):=by refine⟨?_,?_,?_,?_,?_,?_⟩;rw[bP,aG h];rfl;rw[bP,aG h];rfl;rw[bP,aG h];rfl;rw[oP,aG h];rfl;rw[bP,aG h];rfl;rw[bP,aG h];rfl
variable{r r2 st rc mo:O}
def eU(h:m.get b=.cells (yc r r2 st rc mo) 37 g):
  aC TE m 32 (Ω b (0+0))=some (.agg #[r,r2])/\aC TE m 33 (Ω b (0+2))=some st/\aC TE m 34 (Ω b (0+3))=some rc/\
  aC TE m 35 (Ω b (0+4))=some mo/\aC TE m 37 (Ω b 0)=some (yv r r2 st rc mo):=by refine⟨?_,?_,?_,?_,?_⟩;rw[oQ,aI (n:=2) h J];rfl;rw[ace,aG h];rfl;rw[FM,aG h];rfl;rw[UO,aG h];rfl;rw[UN,aI (n:=5) h J];rfl
def uM(h:m.get b=.cells (yc r r2 st rc mo) 37 g):
  aC TE m 29 (Ω b (0+0+0))=some (.agg #[r])/\aC TE m 27 (Ω b (0+0+0+0))=some r/\aC TE m 30 (Ω b (0+0+1))=some r2:=by
 refine⟨?_,?_,?_⟩;rw[cW,aI (n:=1) h J];rfl;rw[dV,aG h];rfl;rw[jC,aG h];rfl
deriving instance DecidableEq for Un
def yJ(hX:cp X){a b:Un}{va vb:O}(ha:Sl m a.shape va)(hb:Sl m b.shape vb)(la:a.shape.length<4611686018427387904):
  xw X 15 [a.v va,b.v vb] m (.bool (decide (a=b))) m:=by apply Cl.fl hX (U5 func15);rw[F15];dsimp only[aH];refine ah λm1 q0 n0 r0=>?_;refine ah λm2 s0 i0 u0=>?_;simp only[bd]at n0 i0;have j0:Ext m m2:=⟨Z,J⟩;have g1:m2.get m.n=.cells (a.c va) 43 none:=J;have g2:m2.get m1.n=.cells (b.c vb) 43 none:=i0;have⟨a0,a1,a2,a3,a4,a5⟩:=kS g1;have⟨b0,b1,b2,b3,b4,b5⟩:=kS g2;have e0:=ha.ak j0;have k0:=hb.ak j0;unfold ptrTo;simp only[aW,dm,ck,bA,dk,dj,Y];have fin:∀{lo:Nat} {c:Bool},m.n<=lo->(c↔a=b)->aP [Value.bool c]=Value.bool (decide (a=b))/\m.n<=lo:=λ{lo c} H e=>⟨by have:c=decide (a=b):=J;rw[this];rfl,H⟩;refine xr (λvs mm lo=>m2=mm/\m.n<=lo/\∃bad:Bool,vs=[.bool bad]/\(bad->a≠b)/\(bad=false->a.id=b.id/\a.kind=b.kind/\a.du=b.du/\a.back=b.back/\a.front=b.front/\a.shape.length=b.shape.length)) (λR hR=>?_) ?_;have bad:∀(h:a≠b),∃bad:Bool,[Value.bool true]=[.bool bad]/\(bad->a≠b)/\(bad=false->a.id=b.id/\a.kind=b.kind/\a.du=b.du/\a.back=b.back/\a.front=b.front/\a.shape.length=b.shape.length):=λh=>⟨true,rfl,λ_=>h,λe=>by cases e⟩;rw[a0,Y,b0,Y,bZ,Y,ag];refine af (λc=>hR ⟨rfl,R8 _,bad λe=>?_⟩) (λc0=>?_);rw[e]at c;simp at c;rw[a1,Y,b1,Y,bZ,Y,ag];refine af (λc=>hR ⟨rfl,R8 _,bad λe=>?_⟩) (λc1=>?_);rw[e]at c;simp at c;rw[a2,Y,b2,Y,bZ,Y,ag];refine af (λc=>hR ⟨rfl,R8 _,bad λe=>?_⟩) (λc2=>?_);rw[e]at c;simp at c;rw[a4,Y,b4,Y,bZ,Y,ag];refine af (λc=>hR ⟨rfl,R8 _,bad λe=>?_⟩) (λc4=>?_);rw[e]at c;simp at c;rw[a5,Y,b5,Y,bZ,Y,ag];refine af (λc=>hR ⟨rfl,R8 _,bad λe=>?_⟩) (λc5=>?_);rw[e]at c;simp at c;rw[a3,Y,e0.len cO,an,b3,Y,k0.len cO,an,bZ,Y];refine hR ⟨rfl,R8 _,_,rfl,λc e=>?_,λc=>⟨J,J,J,J,J,?_⟩⟩;rw[e]at c;simp at c;have:(a.shape.length:Int)=(b.shape.length:Int):=J;omega;rintro _ _ lo ⟨rfl,H,bad,rfl,h1,h2⟩;rw[av,ag];refine af (λc=>fin H ⟨λe=>(by cases e),λe=>absurd e (h1 c)⟩) (λc=>?_);have⟨f0,f1,f2,f4,f5,hlen⟩:=h2 c;refine Lp.intro (γ:=Nat) (λi=>a.shape.length-i) (λi vs mm lo=>vs=[P6,I i]/\i<=a.shape.length/\m2=mm/\m.n<=lo/\∀j x y,j<i->a.shape[j]?=some x->b.shape[j]?=some y->x=y) 0 ⟨rfl,Vw _,rfl,H,λj x y hj=>Z⟩ ?_;rintro i vs _ y0 ⟨rfl,hi,rfl,F,d0⟩;rw[av,av,a3,Y,e0.len cO,an,aK,Y,ag];refine af (λl0=>?_) (λA0=>?_);have l0:i<a.shape.length:=J;obtain⟨x,hx⟩:∃x,a.shape[i]?=some x:=⟨_,QC l0⟩;obtain⟨y,hy⟩:∃y,b.shape[i]?=some y:=⟨_,wo⟩;have⟨p,e1,e2⟩:=e0.fN (k:=.i64) hx;have⟨q,e3,e4⟩:=k0.fN (k:=.i64) hy;rw[Y,e1,Y,e2,Y,b3,Y,e3,Y,e4,Y,QO,Y,ag];refine af (λo0=>fin F ⟨λe=>(by cases e),λe=>?_⟩) (λhe=>?_);rw[e,hy]at hx;cases hx;simp at o0;rw[aO,Y,wrap64];refine⟨i+1,Z,rfl,Z,rfl,F,λj x' y' hj g0 h0=>?_⟩;by_cases p0:j<i;exact d0 j x' y' p0 g0 h0;have:j=i:=Z;subst this;rw[hx]at g0;rw[hy]at h0;cases g0;cases h0;simpa using he;have B0:i=a.shape.length:=(by grind);have hs:a.shape=b.shape:=aav hlen λj x y hj=>d0 j x y Z;refine fin F ⟨λ_=>?_,λ_=>rfl⟩;rcases a with⟨_,_,_,_,_,_⟩;rcases b with⟨_,_,_,_,_,_⟩;simp only[Un.mk.injEq];exact⟨f0,f1,f2,hs,f4,f5⟩
def eq_mk{y:Mk}:eq? TE 68 x.v y.v=some (decide (x=y)):=by have e:eq? TE 68 x.v y.v=some ((x.id==y.id) && ((x.un==y.un) && ((x.side==y.side) && ((x.kind==y.kind) && ((x.DB==y.DB) && true))))):=bv;rw[e];congr 1;rw[Qi,decide_eq_true_iff];rcases x with⟨_,_,_,_,_⟩;rcases y with⟨_,_,_,_,_⟩;grind
def abZ{y:Mk}:bE TE .neq 68 x.v y.v=some (.bool (!(decide (x=y)))):=by have e:bE TE .neq 68 x.v y.v=(eq? TE 68 x.v y.v).map (λb=> .bool (!b)):=bv;rw[e,eq_mk];rfl
end
deriving instance DecidableEq for Tk
abbrev Un.z:Un:=⟨0,0,0,[],0,0⟩
def iW(t:Tk):List Int:=
 if t.kind=1 then [t.un.id,t.un.kind,t.un.du,t.un.back,t.un.front]++t.un.shape.flatMap λp=> [p.x,p.y]
 else if t.kind=2\/t.kind=3\/t.kind=6\/t.kind=7 then [t.id]
 else if t.kind=4 then [t.id,t.du]
 else if t.kind=5\/t.kind=8 then [t.id,t.side]
 else if t.kind=9 then [t.id,t.other,t.du]
 else []
def jJ:List Int->List Pl
 |x::y::r=>⟨x,y⟩::jJ r
 |_=> []
theorem zM:∀l:List Pl,jJ (l.flatMap λp=> [p.x,p.y])=l
 |[]=>rfl
 |p::r=>by show(⟨p.x,p.y⟩:Pl)::jJ (r.flatMap λp=> [p.x,p.y])=p::r;rw[zM r]
theorem xR:∀l:List Pl,(l.flatMap λp=> [p.x,p.y]).length=2*l.length
 |[]=>rfl
 |p::r=>by show(r.flatMap λp=> [p.x,p.y]).length+1+1=2*(r.length+1);rw[xR r];omega
def Ci(k:Int)(l:List Int):Option Tk:=
 if k=1 then(if 11<=l.length/\l.length<=21/\l.length%2=1 then some ⟨1,⟨l.getD 0 0,l.getD 1 0,l.getD 2 0,jJ (l.drop 5),l.getD 3 0,l.getD 4 0⟩,0,0,0,0⟩else none)
 else if k=4 then(if l.length=2 then some ⟨k,.z,l.getD 0 0,0,0,l.getD 1 0⟩else none)
 else if k=5\/k=8 then(if l.length=2 then some ⟨k,.z,l.getD 0 0,0,l.getD 1 0,0⟩else none)
 else if k=9 then(if l.length=3 then some ⟨k,.z,l.getD 0 0,l.getD 1 0,0,l.getD 2 0⟩else none)
 else(if l.length=1 then some ⟨k,.z,l.getD 0 0,0,0,0⟩else none)
def xP(t:Tk):Bool:=dv t.kind 1 9 && decide (t.un.shape.length<=8) && decide (Ci t.kind (iW t)=some t) &&
 (if t.kind=1 then kR t.un && dv t.un.kind 6 8 else dv t.id 0 99 && dv t.other 0 99 && dv t.side (-2) 7 && dv t.du 0 7 && (!decide (t.kind=9) ||decide (t.id < t.other)))
def oW{u:Un}:(eA u && decide (u.id=0))=decide (u=.z):=by have⟨a,b,c,s,d,e⟩:=u;unfold eA;grind
def acZ(t:Tk):xP t=eB t:=by
 have⟨k,u,id,b0,side,du⟩:=t;by_cases k1:k=1
 ·subst k1;unfold xP eB iW Ci;simp only[R3,Nw,List.nil_append,List.getD_cons_zero,List.getD_cons_succ,UZ,Mf,zM,Rq,xR];have⟨a,b,c,s,d,e⟩:=u;rw[Qi];by_cases F:kR ⟨a,b,c,s,d,e⟩=true;have H:=lQ F;have d0:3<=s.length/\s.length<=8:=dM (oG F);have H:s.length<=8:=H;have hs:(⟨a,b,c,s,d,e⟩:Un).shape.length=s.length:=rfl;rw[UG ⟨Z,Z,Z⟩];simp only[G4,Xo,DS,Tk.mk.injEq,F,true_and,and_true,dv];omega;grind
 all_goals
  by_cases k2:k=2\/k=3\/k=6\/k=7
  ·rcases k2 with rfl|rfl|rfl|rfl <;>
   ·unfold xP eB iW Ci;simp only[oW];simp[dv];grind
  by_cases k4:k=4
  ·subst k4;unfold xP eB iW Ci;simp only[oW];simp[dv];grind
  by_cases k5:k=5\/k=8
  ·rcases k5 with rfl|rfl <;>
   ·unfold xP eB iW Ci;simp only[oW];simp[dv];grind
  by_cases k9:k=9
  ·subst k9;unfold xP eB iW Ci;simp only[oW];simp[dv];grind
  unfold xP eB;have:dv k 1 9=false:=by
   unfold dv;grind
  grind
section
set_option maxRecDepth 100000
set_option maxHeartbeats 0
variable{W:Words}{x0 x1 x2:O}{m:M}{R:ν->M->Nat->Prop}
def F165:=cN (P:=fQ TE W f165 [x0,x1,x2] m R)
def F167:=cN (P:=fQ TE W f167 [x0] m R)
def F166:=cN (P:=fQ TE W f166 [x0,x1] m R)
def F168:=cN (P:=fQ TE W f168 [x0,x1] m R)
def F121:=cN (P:=fQ TE W f121 [x0] m R)
def F75:=cN (P:=fQ TE W f75 [x0,x1] m R)
def F169:=cN (P:=fQ TE W f169 [x0,x1] m R)
def F77:=cN (P:=fQ TE W f77 [x0,x1] m R)
def F120:=cN (P:=fQ TE W f120 [x0] m R)
def F213:=cN (P:=fQ TE W f213 [x0] m R)
def F170:=cN (P:=fQ TE W f170 [x0,x1] m R)
def F172:=cN (P:=fQ TE W f172 [x0,x1] m R)
def F171:=cN (P:=fQ TE W f171 [x0,x1,x2] m R)
def F76:=cN (P:=fQ TE W f76 [x0,x1] m R)
end
section
variable {X:aF} {m:M}
section
variable {α:Type} [aL α] {T:TypeId}
def Ap(n1:Nat)(m:M)(l:List α)(v:O):Prop:=Ow n1 m l v\/∃b cs F,v=.slice (some ⟨b,0,none⟩) l.length l.length/\m.get b=.cells cs F none/\Sl m l v
def Ap.sl{n1:Nat}{l:List α}{v:O}(h:Ap n1 m l v):Sl m l v:=by rcases h with h|⟨_,_,_,_,_,h⟩;exact h.sl;exact h
def Ap.ak{n1:Nat}{l:List α}{v:O}{m':M}(h:Ap n1 m l v)(F:Ext m m'):Ap n1 m' l v:=by rcases h with h|⟨b,cs,H,h1,h2,h3⟩;exact .inl (h.ak F);exact .inr ⟨b,cs,H,h1,F.cells h2,h3.ak F⟩
def Ap.append(hT:vp TE T α)(b0:aL.dN α=[]){n1:Nat}{l ys:List α}{v y:O}(h:Ap n1 m l v)(hy:Sl m ys y)(F:ys≠ [])(hn:n1<=m.n)(hs:l.length+ys.length<=1000000):
  ∃v' m1,aR TE (m.wl m.n) .append [T,T] [v,y]=some (v',m1)/\Ow n1 m1 (l++ys) v'/\m.n<=m1.n/\n1<=m1.low/\∀c,c<n1->m1.get c=m.get c:=by have hlen:=FE.2 F;rcases h with h|⟨b,cs,te,rfl,h2,h3⟩;obtain⟨v',m1,H,ho,hf,hl,_⟩:=h.append hT J hy hn Z;exact⟨v',m1,H,ho,hf.n,hl,λc hc=>hf.get c hc⟩;obtain⟨v',m1,H,ho,hx,hl⟩:=adv hT h2 (.inl rfl) h3 hy Z Z;exact⟨v',m1,H,ho.mono hn,hx.n,Z,λc hc=>hx.get c Z⟩
end
def tU{l:List Int}{b:Nat}(h:m.get b=.cells (l.map (.int .i64)) 3 g):Sl m l (Hr b 0 l.length l.length):=
 .inr ⟨b,0,l.length,_,g,rfl,h,by rw[Xh];show 0+l.length*1<=_;omega,λi x hi=>by show((l.map (Value.int .i64)).drop (0+i*1)).take 1=[I x];have F:=(Nr.1 hi).1;rw[Jf,Pc,Mr J,SF,N2,List.getElem_map,(Nr.1 hi).2]⟩
def PW{α:Type}[aL α]{l:List α}{a:Addr}{n k:Nat}{m':M}{lo:Nat}{P:Prop}(h:Sl m' l (.slice (some a) n k))(F:m.n<=lo)(H:Ext m m'):
  P\/((aZ (aP [Value.slice (some a) n k])=false\/lo<m.n)/\(min m.n lo=m.n/\Ext m m'/\Sl m' l (.slice (some a) n k))):=.inr ⟨.inl rfl,Z,H,h⟩
def kF(hX:cp X)(n lo hi:Int):xw X 165 [I n,I lo,I hi] m (.bool (dv n lo hi)) m:=by apply Cl.fG hX (U5 func165);rw[F165];dsimp only[aH];refine xr (λvs m2 F=>vs=[.bool (dv n lo hi)]/\m.n<=F) (λR H=>?_) ?_;simp only[cI,cZ,Y,ag];refine af (λh=>H ⟨by simp[dv,h],R8 _⟩) (λh=>H ⟨by simp[dv,h],R8 _⟩);rintro _ m2 F ⟨rfl,hl⟩;rw[av];exact⟨rfl,hl⟩
def Rb:aQ TE m 116 1 [(0,.int .i64 a)]=some (.slice (some ⟨m.n,0,none⟩) 1 1,m.push (.cells ([a].map (.int .i64)) 3 none)):=bv
def sS:aQ TE m 116 2 [(0,.int .i64 a),(1,.int .i64 b)]=some (.slice (some ⟨m.n,0,none⟩) 2 2,m.push (.cells ([a,b].map (.int .i64)) 3 none)):=bv
def HG{c:Int}:aQ TE m 116 3 [(0,.int .i64 a),(1,.int .i64 b),(2,.int .i64 c)]=some (.slice (some ⟨m.n,0,none⟩) 3 3,m.push (.cells ([a,b,c].map (.int .i64)) 3 none)):=bv
def Ra{c d e:Int}:aQ TE m 116 5 [(0,.int .i64 a),(1,.int .i64 b),(2,.int .i64 c),(3,.int .i64 d),(4,.int .i64 e)]=some (.slice (some ⟨m.n,0,none⟩) 5 5,m.push (.cells ([a,b,c,d,e].map (.int .i64)) 3 none)):=bv
theorem FA(hX:cp X){t:Tk}{w:O}(hw:Sl m t.un.shape w)(hl:t.un.shape.length<100000):
  ∃r m',xw X 167 [t.v w] m r m'/\Ext m m'/\Sl m' (iW t) r:=by
 apply Cl.Iz hX (U5 func167);rw[F167];dsimp only[aH];refine ah λm1 c1 B0 O0=>?_;have g1:m1.get m.n=.cells (t.c w) 58 none:=B0;have h0:Ext m m1:=⟨Z,O0⟩;have⟨tk,tid,Kl,p0,q0⟩:=kX g1;obtain⟨u0,u1,u2, -,u4,u5⟩:=uO g1;unfold ptrTo;simp only[dE,dP,cU,cT,dD,cL,aW,dm,ck,bA,dk,dj,Y];simp only[tk,u0,u1,u2,u4,u5,Y,aJ,ag];refine af (λc=>?_) (λc=>?_)
 ·have k1:t.kind=1:=Mv c;rw[Ra,an];have e0:iW t=[t.un.id,t.un.kind,t.un.du,t.un.back,t.un.front]++t.un.shape.flatMap λp=> [p.x,p.y]:=(by unfold iW;rw[UG k1]);obtain⟨m2,H⟩:∃x,x=m1.push (.cells ([t.un.id,t.un.kind,t.un.du,t.un.back,t.un.front].map (.int .i64)) 3 none):=⟨_,rfl⟩;rw[<-H];have d1:m2.n=m1.n+1:=(by rw[H];exact M.jr);have i0:m2.get m1.n=.cells ([t.un.id,t.un.kind,t.un.du,t.un.back,t.un.front].map (.int .i64)) 3 none:=(by rw[H];exact M.aU);have P0:Ext m1 m2:=H ▸ Ext.refl.push;have h1:Ap m1.n m2 [t.un.id,t.un.kind,t.un.du,t.un.back,t.un.front] (Hr m1.n 0 5 5):=.inr ⟨m1.n,_,_,rfl,i0,tU i0⟩;clear H i0;refine Lp.intro (γ:=Nat) (λi=>t.un.shape.length-i) (λi vs F lo=>∃r,vs=[r,I i]/\i<=t.un.shape.length/\Ext m1 F/\m.n<=lo/\Ap m1.n F ([t.un.id,t.un.kind,t.un.du,t.un.back,t.un.front]++(t.un.shape.take i).flatMap λp=> [p.x,p.y]) r) 0 ⟨_,rfl,Vw _,P0,Z,J⟩ ?_;rintro i vs F lo ⟨r,rfl,hi,d0,j0,ho⟩;have nm:=d0.n;have r0:=(hw.ak h0).ak d0;obtain⟨-, -, -,v3, -, -⟩:=uO (d0.cells g1);rw[av,av,v3,Y,r0.len cO,an,aK,Y,ag];refine af (λs0=>?_) (λQ0=>?_);have s0:i<t.un.shape.length:=J;obtain⟨p,hp⟩:∃p,t.un.shape[i]?=some p:=⟨_,QC s0⟩;have⟨b0,o0,bc,g0,cs,e1,y0,k0,_,A0⟩:=r0.iI cO (k:=.i64) hp;have k0:cs=p.c:=k0;subst k0;have fl:=xR (t.un.shape.take i);rw[ZO]at fl;have lx:aC TE F 3 (Ω b0 (o0+0))=some (I p.x):=(by rw[bP,aG y0,A0 0 ce];rfl);have ly:aC TE F 3 (Ω b0 (o0+1))=some (I p.y):=(by rw[bP,aG y0,A0 1 ce];rfl);rw[Y,e1,Y,cV,Y,lx,Y,Y,e1,Y,dZ,Y,ly,Y,sS,an];obtain⟨m3,l0⟩:∃x,x=F.push (.cells ([p.x,p.y].map (.int .i64)) 3 none):=⟨_,rfl⟩;rw[<-l0];have n0:Ext F m3:=l0 ▸ Ext.refl.push;have a1:m3.get F.n=.cells ([p.x,p.y].map (.int .i64)) 3 none:=(by rw[l0];exact M.aU);have n3:=n0.n;obtain⟨r',m5,q1,q2,q3,q4,q5⟩:=(ho.ak n0).append V0 rfl (tU a1) co Z J;have q1:aR TE (M.wl m3 (M.n m3)) .append [116,116] [r,Hr F.n 0 2 2]=some (r',m5):=q1;rw[q1,an,aO,Y,wrap64];refine⟨i+1,Z,r',rfl,Z,⟨Z,λc hc=>by rw[q5 c hc,n0.get c Z,d0.get c hc]⟩,Z,.inl ?_⟩;rw[Z8,hp,TA,<-NZ];exact q2;have b1:i=t.un.shape.length:=(by have:¬(i:Int)< (t.un.shape.length:Int):=Z0 Q0;omega);subst b1;rw[W8]at ho;have hs:=ho.sl;rw[<-e0]at hs;obtain⟨a,k,rfl⟩:=hs.form;cases a with|none=>(rcases hs with⟨h,_⟩|⟨b,o,c,bc,g,h,_⟩;rw[e0]at h;simp at h;cases h)|some a=>exact PW hs j0 (h0.trans d0)
 have k1:t.kind≠1:=Z0 c
 have fin:∀{l:List Int} {k:Nat},iW t=l->l.length=k->∀{m2:M},m2=m1.push (.cells (l.map (.int .i64)) 3 none)->∀{lo:Nat},m.n<=lo->∀{Q:Prop},Q->
   (aZ (aP [Value.slice (some ⟨m1.n,0,none⟩) k k])/\m.n<=lo/\(Q/\Ext m m/\Sl m (iW t) (Hr m1.n 0 k k)))\/((aZ (aP [Value.slice (some ⟨m1.n,0,none⟩) k k])=false\/lo<m.n)/\(min m.n lo=m.n/\Ext m m2/\Sl m2 (iW t) (Hr m1.n 0 k k))):=by
  rintro l k e rfl m2 rfl lo j0 Q -;rw[e];exact PW (tU M.aU) j0 (h0.trans Ext.refl.push)
 refine xr (λvs F lo=>vs=[.bool (decide (t.kind=2\/t.kind=3\/t.kind=6\/t.kind=7))]/\m1=F/\lo=m.n) (λQ hQ=>?_) ?_
 ·refine af (λc=>hQ ⟨J,rfl,rfl⟩) (λc2=>?_);refine af (λc=>hQ ⟨J,rfl,rfl⟩) (λc3=>?_);refine af (λc=>hQ ⟨J,rfl,rfl⟩) (λc6=>hQ ⟨?_,rfl,rfl⟩);have c2:=Z0 c2;have c3:=Z0 c3;have c6:=Z0 c6;congr 2;rw[ge];omega
 rintro _ _ _ ⟨rfl,rfl,rfl⟩;simp only[tid,Kl,p0,q0,Y];rw[av,ag];refine af (λc=>?_) (λc=>?_);·rw[Rb,an];exact fin (l:=[t.id]) (by unfold iW;rw[ND k1,UG (Mv c)]) rfl rfl (R8 _) J
 have c2:=Z0 c;refine af (λc=>?_) (λc=>?_);·rw[sS,an];exact fin (l:=[t.id,t.du]) (by unfold iW;rw[ND k1,ND c2,UG (Mv c)]) rfl rfl (R8 _) J
 have c4:=Z0 c;refine xr (λvs F lo=>vs=[.bool (decide (t.kind=5\/t.kind=8))]/\m1=F/\lo=m.n) (λQ hQ=>?_) ?_
 ·refine af (λc=>hQ ⟨J,rfl,rfl⟩) (λc5=>hQ ⟨?_,rfl,rfl⟩);have c5:=Z0 c5;congr 2;rw[ge];omega
 rintro _ _ _ ⟨rfl,rfl,rfl⟩;simp only[tid,Kl,p0,q0,Y];rw[av,ag];refine af (λc=>?_) (λc=>?_);·rw[sS,an];exact fin (l:=[t.id,t.side]) (by unfold iW;rw[ND k1,ND c2,ND c4,UG (Mv c)]) rfl rfl (R8 _) J
 have c5:=Z0 c;refine af (λc=>?_) (λc=>?_);·rw[HG,an];exact fin (l:=[t.id,t.other,t.du]) (by unfold iW;rw[ND k1,ND c2,ND c4,ND c5,UG (Mv c)]) rfl rfl (R8 _) J
 have c9:=Z0 c;have e:iW t=[]:=(by unfold iW;rw[ND k1,ND c2,ND c4,ND c5,ND c9]);rw[e];exact .inl ⟨rfl,R8 _,J,.refl,.nil⟩
abbrev Tk.z:Tk:=⟨0,.z,0,0,0,0⟩
def Ka(o:Option Tk)(m':M)(F:O):Prop:=match o with
 |some t=>∃w,F=.tuple #[t.v w,.bool true]/\Sl m' t.un.shape w
 |none=>F=.tuple #[Tk.z.v (.slice none 0 0),.bool false]
def ac0{t:Tk}{b:O}(h:aZ (.tuple #[t.v w,b])):Go.D.bL w:=by have F:((true && (true && (true && (true && (Go.D.bL w && (true && (true && (true && (true && (true && (true && true))))))))))) && (ep b && true)):=h;grind
def Ka.flat{o:Option Tk}{v b:O}(h:Ka o m' (.tuple #[v,b]))(F:aZ (.tuple #[v,b]))(m:M):Ka o m (.tuple #[v,b]):=by unfold Ka at h⊢;split at h;have⟨w,e,H⟩:=h;cases e;exact⟨w,rfl,(nQ H (ac0 F) m).2⟩;exact h
def SZ{k:Int}:bz TE 58 [(0,I k)]=some (Tk.v ⟨k,.z,0,0,0,0⟩ Z9):=vX rfl
def NX:bz TE 58 []=some (Tk.z.v Z9):=abw
variable{b:Nat}{t:Tk}{w:O}{g:Option Nat}{P:M->Nat->Prop}
def Eb{j:Nat}{v:Int}(h:m.get b=.cells (t.c w) 58 g)(hj:7<=j)(F:j<=10)
  (H:∀m1,m1.n=m.n->m1.get b=.cells ((t.c w).set j (I v)) 58 g->(∀c,c≠b->m1.get c=m.get c)->P m1 b):
  dh (bh TE m 3 (Ω b (0+j)) (I v)) P:=by refine bS yy h rfl (by show 0+j+1<=11;omega) rfl λm1 hn hg hk=>H m1 hn ?_ hk;rw[hg];congr 1;have:(cells (Value.int .i64 v))=[I v]:=rfl;rw[this,Jf];exact np (by show j<11;omega)
def PK{u:Un}(h:m.get b=.cells (t.c w) 58 g)(F:one w')
  (H:∀m1,m1.n=m.n->m1.get b=.cells (Tk.c {t with un:=u} w') 58 g->(∀c,c≠b->m1.get c=m.get c)->P m1 b):
  dh (bh TE m 43 (Ω b (0+1)) (u.v w')) P:=
 bS dO h rfl (by show 0+1+6<=11;decide) (Un.dp F) λm1 hn hg hk=>H m1 hn hg hk
def PL(h:m.get b=.cells (t.c w) 58 g)(h1:one w')(F:cells w'=[w'])
  (H:∀m1,m1.n=m.n->m1.get b=.cells (t.c w') 58 g->(∀c,c≠b->m1.get c=m.get c)->P m1 b):
  dh (bh TE m 41 (Ω b (0+1+3)) w') P:=
 bS uN h (by rw[F];rfl) J J λm1 hn hg hk=>H m1 hn dg hk
theorem Ca:∀(l:List Int) (k:Nat) (x y:Int),l[2*k]?=some x->l[2*k+1]?=some y->(jJ l)[k]?=some ⟨x,y⟩
 |[],k,x,y,h,_=>by simp at h
 |[a],k,x,y,h,F=>by(cases k with|zero=>simp at F|succ k=>simp[show 2*(k+1)=2*k+1+1 by omega]at h)
 |a::b::r,0,x,y,h,F=>by cases h;cases F;rfl
 |a::b::r,k+1,x,y,h,F=>by rw[show 2*(k+1)=2*k+1+1 by omega]at h F;simp only[Q7]at h F;show(jJ r)[k]?=_;exact Ca r k x y h F
theorem qI:∀(l:List Int),(jJ l).length=l.length/2
 |[]=>rfl
 |[a]=>by simp[jJ]
 |a::b::r=>by show(jJ r).length+1=(r.length+1+1)/2;rw[qI r];omega
def aaD(hX:cp X){k:Int}{l:List Int}{v:O}(hv:Sl m l v)(hl:l.length<1000000):
  ∃rv m',xw X 166 [I k,v] m rv m'/\Ext m m'/\Ka (Ci k l) m' rv:=by
 apply Cl.Iz hX (U5 func166);rw[F166];dsimp only[aH];refine ah λm1 o2 B1 G1=>?_;rw[SZ,Y];refine ah λm3 u2 P0 H1=>?_;refine aj wA P0 rfl rfl rfl λm4 v2 Q0 K1=>?_;have gz:m4.get m.n=.cells (Tk.z.c Z9) 58 none:=J;have ga:m4.get m1.n=.cells (Tk.c ⟨k,.z,0,0,0,0⟩ Z9) 58 none:=Q0;have b0:Ext m m4:=⟨Z,J⟩;obtain⟨A,hA⟩:∃A,A=m1.n:=⟨_,rfl⟩;rw[<-hA]at ga⊢;have L1:m.n<A:=Z;have y2:A<m4.n:=Z;clear B1 G1 P0 H1 Q0 K1;unfold ptrTo;simp only[dP,cU,cT,dD,cL,bA,Y,aJ,ag]
 have fin:∀{mm:M} {t:Tk} {w:O} {lo:Nat} {Q:Prop},Q->mm.get A=.cells (t.c w) 58 none->mm.get m.n=.cells (Tk.z.c Z9) 58 none->Sl mm t.un.shape w->Ci k l=some t->m.n<=mm.n->(∀c,c<m.n->mm.get c=m.get c)->m.n<=lo->
   aS (aC TE mm 58 (Ω A 0)) λv=>dh (bh TE mm 58 (Ω m.n 0) v) λm' b=>aS (aC TE m' 58 (Ω m.n 0)) λv'=>
    (aZ (aP [v',VT])/\m.n<=min lo b/\(Q/\Ext m m/\Ka (Ci k l) m (aP [v',VT])))\/((aZ (aP [v',VT])=false\/min lo b<m.n)/\(min m.n (min lo b)=m.n/\Ext m m'/\Ka (Ci k l) m' (aP [v',VT]))):=by
  intro mm t w lo Q hQ ga gz hs ho hn hk F;rw[kW ga,Y];refine aj wA gz rfl rfl (Tk.dp hs.one) λm' O1 d0 b1=>?_;have d0:m'.get m.n=.cells (t.c w) 58 none:=d0;rw[kW d0,Y];have Q1:Sl m' t.un.shape w:=hs.aX λc cs ty g hc ht=>by rw[b1 c (λe=>by subst e;rw[gz]at hc;cases hc;simp[aL.ty,aL.dN]at ht),hc]
  have hr:Ka (Ci k l) m' (.tuple #[t.v w,VT]):=by unfold Ka;rw[ho];exact⟨w,rfl,Q1⟩
  show(aZ (.tuple #[t.v w,VT])/\_/\(Q/\Ext m m/\Ka _ m (.tuple #[t.v w,VT])))\/((aZ (.tuple #[t.v w,VT])=false\/_)/\(_/\Ext m m'/\Ka _ m' (.tuple #[t.v w,VT])));cases hf:aZ (.tuple #[t.v w,VT]);·exact .inr ⟨.inl rfl,Z,⟨Z,J⟩,hr⟩
  ·exact .inl ⟨rfl,Z,hQ,.refl,hr.flat hf m⟩
 have bad:∀{mm:M} {lo:Nat} {Q:Prop},Q->mm.get m.n=.cells (Tk.z.c Z9) 58 none->Ci k l=none->m.n<=lo->
   aS (bz TE 58 []) λv=>dh (bh TE mm 58 (Ω m.n 0) v) λm' b=>aS (aC TE m' 58 (Ω m.n 0)) λv'=>
    (aZ (aP [v',P6])/\m.n<=min lo b/\(Q/\Ext m m/\Ka (Ci k l) m (aP [v',P6])))\/((aZ (aP [v',P6])=false\/min lo b<m.n)/\(min m.n (min lo b)=m.n/\Ext m m'/\Ka (Ci k l) m' (aP [v',P6]))):=by
  intro mm lo Q hQ gz ho F;rw[NX,Y];refine aj wA gz rfl rfl rfl λm' O1 d0 b1=>?_;have d0:m'.get m.n=.cells (Tk.z.c Z9) 58 none:=d0;rw[kW d0,Y];exact .inl ⟨rfl,Z,hQ,.refl,by unfold Ka;rw[ho];rfl⟩
 have H:∀{mm:M} {i:Nat},Ext m mm->i<l.length->∃a,aD TE 116 v (I i)=some a/\aC TE mm 3 a=some (I (l.getD i 0)):=(by intro mm i hx hi;have:=(hv.ak hx).J4 (k:=.i64) (show l[i]?=some (l.getD i 0) by grind);grind);refine af (λc=>?_) (λc=>?_)
 ·have k1:k=1:=Mv c;have ho:Ci k l=if 11<=l.length/\l.length<=21/\l.length%2=1 then some ⟨1,⟨l.getD 0 0,l.getD 1 0,l.getD 2 0,jJ (l.drop 5),l.getD 3 0,l.getD 4 0⟩,0,0,0,0⟩else none:=(by unfold Ci;rw[UG k1]);refine aY (λvs mm lo=>vs=[.bool (!decide (11<=l.length/\l.length<=21/\l.length%2=1))]/\m4=mm/\m.n<=lo) (λQ hQ=>?_) ?_;rw[(hv.ak b0).len mX,an,aK,Y,ag];refine af (λc=>hQ _ _ _ ⟨?_,rfl,Z⟩) (λc1=>?_);have c:=Mv c;rw[CX];rfl;have c1:=Z0 c1;rw[an,cC,Y,ag];refine af (λc=>hQ _ _ _ ⟨?_,rfl,Z⟩) (λc2=>?_);have c:=Mv c;rw[CX];rfl;have c2:=Z0 c2;rw[an,yi ce,Y,aJ,Y];refine hQ _ _ _ ⟨?_,rfl,Z⟩;congr 2;rw[<-decide_not,ge];have:(l.length:Int).tmod 2=((l.length%2:Nat):Int):=J;rw[this];omega;rintro _ _ lo ⟨rfl,rfl,F⟩;rw[av,ag];refine af (λc=>?_) (λc=>?_);rw[yC]at c;rw[ND (Z0 c)]at ho;exact bad J gz ho F;rw[HO]at c;have hc:=Mv c;rw[UG hc]at ho;obtain⟨a0,p0,q0⟩:=H b0 (show 0<l.length by omega);obtain⟨a1,p1,q1⟩:=H b0 (show 1<l.length by omega);obtain⟨a2,p2,q2⟩:=H b0 (show 2<l.length by omega);obtain⟨a3,p3,q3⟩:=H b0 (show 3<l.length by omega);obtain⟨a4,p4,q4⟩:=H b0 (show 4<l.length by omega);have p0:aD TE 116 v (I 0)=some a0:=p0;have p1:aD TE 116 v (I 1)=some a1:=p1;have p2:aD TE 116 v (I 2)=some a2:=p2;have p3:aD TE 116 v (I 3)=some a3:=p3;have p4:aD TE 116 v (I 4)=some a4:=p4;rw[p0,Y,q0,Y,p1,Y,q1,Y,p2,Y,q2,Y,p3,Y,q3,Y,p4,Y,q4,Y];rw[show bz TE 43 [(0,I (l.getD 0 0)),(1,I (l.getD 1 0)),(2,I (l.getD 2 0)),(4,I (l.getD 3 0)),(5,I (l.getD 4 0))]=some (Un.v ⟨l.getD 0 0,l.getD 1 0,l.getD 2 0,[],l.getD 3 0,l.getD 4 0⟩ Z9)from vY rfl rfl rfl rfl rfl,Y];refine PK ga rfl λz2 h2 d1 g1=>?_;obtain⟨L,hL⟩:∃L,L=l.drop 5:=⟨_,rfl⟩;have A2:L.length=l.length-5:=J;refine Lp.intro (γ:=Nat) (λj=>L.length-j) (λj vs mm lo=>∃r,vs=[I ((5+2*j:Nat):Int)]/\2*j<=L.length/\m4.n<=mm.n/\m.n<=lo/\(∀c,c<A->mm.get c=m4.get c)/\mm.get A=.cells (Tk.c ⟨k,⟨l.getD 0 0,l.getD 1 0,l.getD 2 0,[],l.getD 3 0,l.getD 4 0⟩,0,0,0,0⟩ r) 58 none/\Ow (A+1) mm ((jJ L).take j) r) 0 ⟨_,rfl,Z,Z,Z,λc hc=>g1 c Z,d1,Ow.nil⟩ ?_;rintro j vs mm B2 ⟨r,rfl,hj,G2,h1,i1,j1,u0⟩;have n0:Ext m mm:=⟨Z,λc hc=>by rw[i1 c Z,b0.get c hc]⟩;rw[av,(hv.ak n0).len mX,an,aK,Y,ag];refine af (λl1=>?_) (λL2=>?_);have l1:5+2*j<l.length:=J;have⟨a,e1,e2⟩:=H n0 l1;obtain⟨a',e3,e4⟩:=H n0 (show 5+2*j+1<l.length by omega);have e3:aD TE 116 v (I (((5+2*j:Nat):Int)+1))=some a':=e3;have hp:(jJ L)[j]?=some ⟨l.getD (5+2*j) 0,l.getD (5+2*j+1) 0⟩:=(by refine Ca _ _ _ _ ?_ ?_;grind;grind);have lr:aC TE mm 41 (Ω A (0+1+3))=some r:=(uO j1).2.2.2.1;rw[lr,Y,e1,Y,e2,Y,aO,Y,wrap64,e3,Y,e4,Y];rw[show bz TE 46 [(0,I (l.getD (5+2*j) 0)),(1,I (l.getD (5+2*j+1) 0))]=some (Pl.v ⟨l.getD (5+2*j) 0,l.getD (5+2*j+1) 0⟩)from ri rfl rfl,Y];have M2:((jJ L).take j).length<=j:=J;have pp:=qI L;refine jy (T:=41) (x:=(⟨l.getD (5+2*j) 0,l.getD (5+2*j+1) 0⟩:Pl)) zu rfl u0 Z Z Jk (λ_=>rfl) λr' m2 w2 n2 k2 O2 l2=>?_;have o1:m2.get A=_:=(k2 A Z).trans j1;refine PL o1 w2.sl.one w2.sl.cells λP2 i2 r1 u1=>?_;rw[aO,Y,wrap64];refine⟨j+1,Z,r',J,Z,Z,Z,J,r1,?_⟩;rw[Z8,hp];exact w2.xI rfl λc Q2 T2=>u1 c Z;have U2:2*j=L.length:=(by grind);have pp:=qI L;rw[MM Z]at u0;have v1:mm.get A=.cells (Tk.c ⟨1,⟨l.getD 0 0,l.getD 1 0,l.getD 2 0,jJ (l.drop 5),l.getD 3 0,l.getD 4 0⟩,0,0,0,0⟩ r) 58 none:=J;exact fin J v1 ((i1 _ L1).trans gz) (hL ▸ u0.sl) ho Z (λc hc=>n0.get c hc) h1
 have k1:k≠1:=Z0 c;obtain⟨M,hM⟩:∃M:Nat,M=if k=4\/k=5\/k=8 then 2 else if k=9 then 3 else 1:=⟨_,rfl⟩;have ho:Ci k l=if l.length=M then some (if k=9 then⟨k,.z,l.getD 0 0,l.getD 1 0,0,l.getD 2 0⟩else if k=5\/k=8 then⟨k,.z,l.getD 0 0,0,l.getD 1 0,0⟩else if k=4 then⟨k,.z,l.getD 0 0,0,0,l.getD 1 0⟩else⟨k,.z,l.getD 0 0,0,0,0⟩)else none:=(by unfold Ci;grind);refine aY (λvs mm lo=>vs=[I (if k=4\/k=5\/k=8 then 2 else 1)]/\m4=mm/\m.n<=lo) (λQ hQ=>?_) ?_
 ·refine aY (λvs mm lo=>vs=[.bool (decide (k=4\/k=5\/k=8))]/\m4=mm/\m.n<=lo) (λR hR=>?_) ?_;refine af (λc=>hR _ _ _ ⟨J,rfl,Z⟩) (λc4=>?_);refine af (λc=>hR _ _ _ ⟨J,rfl,Z⟩) (λc5=>hR _ _ _ ⟨?_,rfl,Z⟩);have c4:=Z0 c4;have c5:=Z0 c5;congr 2;rw[ge];omega;rintro _ _ lo ⟨rfl,rfl,F⟩;rw[av,ag];refine af (λc=>hQ _ _ _ ⟨J,rfl,F⟩) (λc=>hQ _ _ _ ⟨J,rfl,F⟩)
 rintro _ _ lo ⟨rfl,rfl,F⟩;rw[av];refine aY (λvs mm lo=>vs=[I (M:Int)]/\m4=mm/\m.n<=lo) (λQ hQ=>?_) ?_
 ·refine af (λc=>hQ _ _ _ ⟨?_,rfl,F⟩) (λc=>hQ _ _ _ ⟨?_,rfl,F⟩);have c:=Mv c;subst c;rw[hM];rfl;have c:=Z0 c;rw[hM,ND c];split <;>rfl
 rintro _ _ lo ⟨rfl,rfl,F⟩;rw[av,(hv.ak b0).len mX,an,bZ,Y,ag];refine af (λc=>?_) (λc=>?_);·rw[yC]at c;have c:=Z0 c;rw[iJ]at ho;exact bad J gz ho F
 rw[HO]at c;have c:=Mv c;have T1:l.length=M:=Z;rw[UG T1]at ho;have b3:1<=M:=J;obtain⟨a0,p0,q0⟩:=H b0 (show 0<l.length by omega);have p0:aD TE 116 v (I 0)=some a0:=p0;rw[p0,Y,q0,Y];refine Eb (j:=7) ga Z Z λw1 y1 h0 o0=>?_;have h0:w1.get A=.cells (Tk.c ⟨k,.z,l.getD 0 0,0,0,0⟩ Z9) 58 none:=h0;refine aY (λvs mm lo=>vs=[]/\mm.n=m4.n/\(∀c,c≠A->mm.get c=m4.get c)/\m.n<=lo/\mm.get A=.cells (Tk.c (if k=4 then⟨k,.z,l.getD 0 0,0,0,l.getD 1 0⟩else⟨k,.z,l.getD 0 0,0,0,0⟩) Z9) 58 none) (λQ hQ=>?_) ?_
 ·refine af (λc=>?_) (λc=>hQ _ _ _ ⟨rfl,y1,o0,Z,J⟩);have c:=Mv c;have b2:M=2:=J;obtain⟨a1,p1,q1⟩:=H (mm:=w1) ⟨Z,λc hc=>by rw[o0 c Z,b0.get c hc]⟩ (show 1<l.length by omega);have p1:aD TE 116 v (I 1)=some a1:=p1;rw[p1,Y,q1,Y];refine Eb (j:=10) h0 Z Z λmm hn hg hk=>hQ _ _ _ ⟨rfl,Z,J,Z,dg⟩
 rintro _ r0 lo ⟨rfl,y0,i0,F,j0⟩;refine aY (λvs mm lo=>vs=[]/\mm.n=m4.n/\(∀c,c≠A->mm.get c=m4.get c)/\m.n<=lo/\mm.get A=.cells (Tk.c (if k=5\/k=8 then⟨k,.z,l.getD 0 0,0,l.getD 1 0,0⟩else if k=4 then⟨k,.z,l.getD 0 0,0,0,l.getD 1 0⟩else⟨k,.z,l.getD 0 0,0,0,0⟩) Z9) 58 none) (λQ hQ=>?_) ?_
 ·refine aY (λvs mm lo=>vs=[.bool (decide (k=5\/k=8))]/\r0=mm/\m.n<=lo) (λR hR=>?_) ?_;refine af (λc=>hR _ _ _ ⟨J,rfl,F⟩) (λc5=>hR _ _ _ ⟨?_,rfl,F⟩);have c5:=Z0 c5;congr 2;rw[ge];omega;rintro _ _ lo ⟨rfl,rfl,F⟩;rw[av,ag];refine af (λc=>?_) (λc=>hQ _ _ _ ⟨rfl,y0,i0,F,J⟩);have c:=Mv c;have b2:M=2:=J;rw[iJ]at j0;obtain⟨a1,p1,q1⟩:=H (mm:=r0) ⟨Z,λc hc=>by rw[i0 c Z,b0.get c hc]⟩ (show 1<l.length by omega);have p1:aD TE 116 v (I 1)=some a1:=p1;rw[p1,Y,q1,Y];refine Eb (j:=9) j0 Z Z λmm hn hg hk=>hQ _ _ _ ⟨rfl,Z,J,Z,dg⟩
 rintro _ A1 lo ⟨rfl,A0,e0,F,k0⟩;refine aY (λvs mm lo=>vs=[]/\mm.n=m4.n/\(∀c,c≠A->mm.get c=m4.get c)/\m.n<=lo/\mm.get A=.cells (Tk.c (if k=9 then⟨k,.z,l.getD 0 0,l.getD 1 0,0,l.getD 2 0⟩else if k=5\/k=8 then⟨k,.z,l.getD 0 0,0,l.getD 1 0,0⟩else if k=4 then⟨k,.z,l.getD 0 0,0,0,l.getD 1 0⟩else⟨k,.z,l.getD 0 0,0,0,0⟩) Z9) 58 none) (λQ hQ=>?_) ?_
 ·refine af (λc=>?_) (λc=>hQ _ _ _ ⟨rfl,A0,e0,F,J⟩);have c:=Mv c;have c3:M=3:=J;rw[iJ,iJ]at k0;obtain⟨a1,p1,q1⟩:=H (mm:=A1) ⟨Z,λc hc=>by rw[e0 c Z,b0.get c hc]⟩ (show 1<l.length by omega);have p1:aD TE 116 v (I 1)=some a1:=p1;rw[p1,Y,q1,Y];refine Eb (j:=8) k0 Z Z λs0 d2 g0 B0=>?_;have g0:s0.get A=.cells (Tk.c ⟨k,.z,l.getD 0 0,l.getD 1 0,0,0⟩ Z9) 58 none:=g0;obtain⟨a2,p2,q2⟩:=H (mm:=s0) ⟨Z,λc hc=>by rw[B0 c Z,e0 c Z,b0.get c hc]⟩ (show 2<l.length by omega);have p2:aD TE 116 v (I 2)=some a2:=p2;rw[p2,Y,q2,Y];refine Eb (j:=10) g0 Z Z λmm hn hg hk=>hQ _ _ _ ⟨rfl,Z,J,Z,dg⟩
 rintro _ j2 lo ⟨rfl,g2,l0,F,O0⟩;refine fin J O0 ((l0 _ Z).trans gz) ?_ ho Z (λc hc=>by rw[l0 c Z,b0.get c hc]) F;split;·exact .nil
 split;·exact .nil
 split <;>exact .nil
def Uy{k:Int}{l:List Int}{p:Tk}(h:Ci k l=some p):p.un.shape.length<=l.length:=by unfold Ci at h;split at h;split at h;cases h;show(jJ (l.drop 5)).length<=_;rw[qI,Va];omega;cases h;(repeat' (split at h));all_goals first|(cases h;exact Vw _)|cases h
def MF(hX:cp X){a b:Tk}{va vb:O}(ha:Sl m a.un.shape va)(hb:Sl m b.un.shape vb)(la:a.un.shape.length<4611686018427387904):
  xw X 168 [a.v va,b.v vb] m (.bool (decide (a=b))) m:=by apply Cl.fG hX (U5 func168);rw[F168];dsimp only[aH];refine ah λm1 l0 i0 n0=>?_;refine ah λm2 o0 j0 k0=>?_;have H:Ext m m2:=⟨Z,J⟩;have g1:m2.get m.n=.cells (a.c va) 58 none:=(by rw[k0 _ Z];exact i0);have g2:m2.get m1.n=.cells (b.c vb) 58 none:=j0;have⟨a0,a1,a2,a3,a4⟩:=kX g1;have⟨b0,b1,b2,b3,b4⟩:=kX g2;have au:=qA g1;have bu:=qA g2;unfold ptrTo;simp only[dE,dP,cU,cT,dD,cL,Y,a0,a1,a2,a3,a4,b0,b1,b2,b3,b4,au,bu,aJ,ag];have⟨k,u,id,ot,sd,ma⟩:=a;have⟨k',u',d0,e0,g0,h0⟩:=b;refine xr (λvs m' lo=>vs=[.bool (decide ((⟨k,u,id,ot,sd,ma⟩:Tk)=⟨k',u',d0,e0,g0,h0⟩))]/\m.n<=lo) (λR hR=>?_) ?_;have no:∀{mm:M} {lo:Nat},¬((⟨k,u,id,ot,sd,ma⟩:Tk)=⟨k',u',d0,e0,g0,h0⟩)->m.n<=lo->R [P6] mm lo:=λh F=>hR ⟨J,F⟩;refine af (λc0=>?_) (λc=>no (λe=>Z0 c J) Z);refine af (λc1=>?_) (λc=>no (λe=>Z0 c J) Z);refine af (λc2=>?_) (λc=>no (λe=>Z0 c J) Z);refine af (λc3=>?_) (λc=>no (λe=>Z0 c J) Z);refine af (λc4=>?_) (λc=>no (λe=>Z0 c J) Z);refine aw (yJ hX (ha.ak H) (hb.ak H) la) (hR ⟨?_,Z⟩);congr 2;rw[ge,Tk.mk.injEq];have:=Mv c0;have:=Mv c1;have:=Mv c2;have:=Mv c3;have:=Mv c4;simp_all;rintro _ _ lo ⟨rfl,F⟩;rw[av];exact⟨rfl,F⟩
theorem HV(hX:cp X){t:Tk}{w:O}(hw:Sl m t.un.shape w)(hl:t.un.shape.length<100000):
  xw X 121 [t.v w] m (.bool (eB t)) m:=by
 rw[<-acZ];apply Cl.fG hX (U5 func121);rw[F121];dsimp only[aH];refine ah λm1 l1 A0 B0=>?_;have g1:m1.get m.n=.cells (t.c w) 58 none:=A0;have O0:Ext m m1:=⟨Z,B0⟩;have j0:=hw.ak O0;obtain⟨k0, -, -, -, -⟩:=kX g1;obtain⟨-, -, -,v3, -, -⟩:=uO g1;unfold ptrTo;simp only[dE,dP,cU,cT,dD,cL,dm,bA,Y];obtain⟨B,hB⟩:∃B,B=xP t:=⟨_,rfl⟩;rw[<-hB];unfold xP at hB;refine xr (λvs mm lo=>vs=[.bool (!(dv t.kind 1 9 && decide (t.un.shape.length<=8)))]/\m1=mm/\m.n<=lo) (λQ F=>?_) ?_;rw[k0,Y];apply aw (kF hX _ _ _);rw[bB,Y,ag];refine af (λc=>F ⟨?_,rfl,Z⟩) (λc=>?_);rw[yC]at c;rw[c];rfl;rw[HO]at c;rw[v3,Y,j0.len cO,an,cC,Y];refine F ⟨?_,rfl,Z⟩;rw[c,DO];congr 2;rw[<-decide_not,ge];omega;rintro _ _ lo ⟨rfl,rfl,P0⟩;rw[av,ag];refine af (λc=>?_) (λc=>?_);rw[yC]at c;rw[c]at hB;rw[hB];exact⟨rfl,P0⟩;rw[HO]at c;rw[c,DO]at hB;rw[k0,Y,kW g1,Y];have⟨o1,m23,Q0,q0,a1⟩:=FA (m:=m1) hX j0 hl;refine aw Q0 ⟨R8 _,?_⟩;have nl:(iW t).length<1000000:=(by unfold iW;split;rw[I8,xR];simp only[Rq,JW];omega;grind);have⟨rv,n0,b1,r0,d0⟩:=aaD (m:=m23) (k:=t.kind) hX a1 nl;refine aw b1 ⟨R8 _,?_⟩;have n23:=q0.n;have n26:=r0.n;obtain⟨p,wp,ok,rfl,sp,lp,e0⟩:∃(p:Tk) (wp:O) (ok:Bool),rv=.tuple #[p.v wp,.bool ok]/\Sl n0 p.un.shape wp/\p.un.shape.length<4611686018427387904/\decide (Ci t.kind (iW t)=some t)=(ok && decide (p=t)):=(by unfold Ka at d0;cases e:Ci t.kind (iW t)with|none=>rw[e]at d0;exact⟨.z,_,false,d0,.nil,ce,co⟩|some p=>rw[e]at d0;have⟨wp,h1,h2⟩:=d0;have:=Uy e;grind);rw[aE,aE];simp only[XW,Q7,Y];refine ah λp1 e1 u0 i1=>?_;refine aj wA u0 rfl rfl (Tk.dp sp.one) λp0 j1 g0 k1=>?_;have g0:p0.get n0.n=.cells (p.c wp) 58 none:=g0;have l0:Ext n0 p0:=⟨Z,J⟩;have H:=(q0.trans r0).trans l0;have b0:=H.cells g1;refine xr (λvs mm lo=>vs=[.bool (!decide (Ci t.kind (iW t)=some t))]/\p0=mm/\m.n<=lo) (λQ F=>?_) ?_;rw[bB,Y,ag];refine af (λc=>F ⟨?_,rfl,Z⟩) (λc=>?_);rw[yC]at c;rw[e0,c];rfl;rw[HO]at c;rw[kW g0,Y,kW b0,Y];apply aw (MF hX (sp.ak l0) (j0.ak H) lp);rw[bB,Y];exact F ⟨J,rfl,Z⟩;rintro _ _ iH ⟨rfl,rfl,y0⟩;rw[av,ag];refine af (λc=>?_) (λc=>?_);rw[yC]at c;rw[c,Ns]at hB;rw[hB];exact⟨rfl,y0⟩;rw[HO]at c;rw[c,DO]at hB;have⟨k0,i0,o0,s0,a0⟩:=kX b0;obtain⟨-,ku, -, -, -, -⟩:=uO b0;have uu:=qA b0;simp only[dm,Y,k0,i0,o0,s0,a0,ku,uu,aJ,bZ,aK,ag];refine af (λc1=>?_) (λc1=>?_);rw[UG (Mv c1)]at hB;refine xr (λvs mm lo=>vs=[.bool B]/\m.n<=lo) (λQ F=>?_) ?_;apply aw (lC hX (j0.ak H) Z);rw[ag];refine af (λc=>?_) (λc=>F ⟨J,Z⟩);rw[ku,Y];apply aw (kF hX _ _ _);exact F ⟨J,Z⟩;rintro _ _ d1 ⟨rfl,h0⟩;rw[av];exact⟨rfl,h0⟩;rw[ND (Z0 c1)]at hB;refine xr (λvs mm lo=>vs=[.bool B]/\m.n<=lo) (λQ F=>?_) ?_;apply aw (kF hX _ _ _);rw[ag];refine af (λc=>?_) (λc=>F ⟨J,Z⟩);rw[o0,Y];apply aw (kF hX _ _ _);rw[ag];refine af (λd=>?_) (λd=>F ⟨J,Z⟩);rw[s0,Y];apply aw (kF hX _ _ _);rw[ag];refine af (λe=>?_) (λe=>F ⟨J,Z⟩);rw[a0,Y];apply aw (kF hX _ _ _);rw[ag];refine af (λf=>?_) (λf=>F ⟨J,Z⟩);rw[k0,Y,bZ,Y,ag,i0,Y,o0,Y,aK,Y]
 refine af (λg=>F ⟨J,Z⟩) (λg=>F ⟨J,Z⟩);rintro _ _ d1 ⟨rfl,h0⟩;rw[av];exact⟨rfl,h0⟩
def ach{u:Un}{w b:O}(h:aZ (.tuple #[u.v w,b])):Go.D.bL w:=by have F:((true && (true && (true && (Go.D.bL w && (true && (true && true)))))) && (ep b && true)):=h;grind
def iQ.flat{id:Int}{v b:O}(h:iQ us id m' (.tuple #[v,b]))(F:aZ (.tuple #[v,b]))(m:M):iQ us id m (.tuple #[v,b]):=by unfold iQ at h⊢;split at h;have⟨w,e,H⟩:=h;cases e;exact⟨w,rfl,(nQ H (ach F) m).2⟩;exact h
def H0{id:Int}{v b:O}{lo:Nat}{Q:Prop}(H:Q)(h:iQ us id m' (.tuple #[v,b]))(F:m.n<=lo)(hx:Ext m m'):
  (aZ (aP [v,b])/\m.n<=lo/\(Q/\Ext m m/\iQ us id m (aP [v,b])))\/((aZ (aP [v,b])=false\/lo<m.n)/\(min m.n lo=m.n/\Ext m m'/\iQ us id m' (aP [v,b]))):=by cases hf:aZ (aP [v,b]);exact .inr ⟨.inl rfl,Z,hx,h⟩;exact .inl ⟨rfl,F,H,.refl,h.flat hf m⟩
def qh(hX:cp X){l:List UW}{v vm:O}(h:cD m l v)(hl:l.length<1000000)(h1:one vm)(id:Int):
  ∃rv m',xw X 75 [.agg #[v,vm],I id] m rv m'/\Ext m m'/\iQ (bH l) id m' rv:=by apply Cl.Iz hX (U5 func75);rw[F75];dsimp only[aH];refine ah λm1 P0 i0 Q0=>?_;refine ah λm2 a1 j0 k0=>?_;have l0:Ext m m2:=⟨Z,J⟩;have g1:m2.get m.n=.cells [v,vm] 32 none:=(by rw[k0 _ Z];exact i0);have g2:m2.get m1.n=.cells Un.zc 43 none:=j0;have hF:=h.ak l0;obtain⟨-,n0, -, -⟩:=kb g1;unfold ptrTo;simp only[bM,bk,Y];refine Lp.intro (γ:=Nat) (λi=>l.length-i) (λi vs mm lo=>∃z,vs=[z,I i]/\i<=l.length/\m2=mm/\m.n<=lo/\(bH (l.take i)).find? (λy=>decide (y.id=id))=none) 0 ⟨_,rfl,Vw _,rfl,Z,rfl⟩ ?_;rintro i vs mm lo ⟨z,rfl,hi,rfl,o0,b0⟩;rw[av,av,n0,Y,hF.sl.len cY,an,aK,Y,ag];refine af (λe0=>?_) (λb1=>?_);have e0:i<l.length:=J;obtain⟨x,hx⟩:∃x,l[i]?=some x:=⟨_,QC e0⟩;have⟨q,q0,f1,f2,f3⟩:=zA hF.sl hx;have⟨q',q1,q2,ow⟩:=hF.sl.gR (k:=.i64) hx;obtain rfl:q=q':=Option.some.inj (f1.symm.trans q1);have p0:=QP hx;rw[Y,f1,Y,f2,Y,f3,Y,aJ,Y,ag];have r0:bH (l.take (i+1))=bH (l.take i)++ [x.u]:=(by unfold bH;rw[Z8,hx,MN];rfl);refine af (λc=>?_) (λc=>?_);rw[Y,f1,Y,q2,Y];refine aj dO g2 rfl rfl (Un.dp ow) λg0 A0 F h0=>?_;have F:g0.get m1.n=.cells (x.u.c x.w) 43 none:=F;rw[bQ F,Y];have d0:cz (bH l) id=some x.u:=(by have e:bH l=bH (l.take (i+1))++bH (l.drop (i+1)):=(by unfold bH;rw[<-MN,Jy]);unfold cz;grind);refine H0 (m':=g0) J ?_ Z ⟨Z,J⟩;unfold iQ;rw[d0];exact⟨x.w,rfl,(hF.sh x p0).aX λc cs t g hc ht=>by rw[h0 c (λe=>by subst e;rw[g2]at hc;cases hc;simp[aL.ty,aL.dN]at ht),hc]⟩;rw[aO,Y,wrap64 J Z];refine⟨i+1,Z,z,rfl,Z,rfl,o0,?_⟩;rw[r0,List.find?_append,b0];simp[c];have s0:i=l.length:=(by grind);subst s0;rw[W8]at b0;have u0:bz TE 43 []=some (.agg Un.zc.toArray):=qo;rw[u0,Y];refine aj dO g2 rfl rfl rfl λy0 B0 H O0=>?_;have H:y0.get m1.n=.cells (Un.c ⟨0,0,0,[],0,0⟩ Z9) 43 none:=H;rw[bQ H,Y];refine .inl ⟨rfl,Z,J,.refl,?_⟩;unfold iQ cz;rw[b0];rfl
def Eu{l:List KW}(h:Sl m l st){i:Nat}{x:KW}(H:l[i]?=some x):∃b o,aD TE 33 st (I i)=some (Ω b o)/\aC TE m 3 (Ω b (o+0+0))=some (I x.u.id)/\aC TE m 85 (Ω b o)=some x.v/\one x.w/\one x.mv:=by have⟨b,o,bc,g,cs,e1,hb,hr,hle,hj⟩:=h.iI eR (k:=.i64) H;obtain⟨rfl,h1,h2⟩:cs=x.c/\one x.w/\one x.mv:=hr;have hle:o+7<=bc.length:=hle;refine⟨b,o,e1,?_,?_,h1,h2⟩;rw[bP,aG hb];exact hj 0 (by show 0<7;decide);have⟨p,F,e2,e3,e4⟩:=h.index eR (k:=.i64) H;obtain rfl:p=Ω b o:=Option.some.inj (e2.symm.trans e1);obtain⟨rfl,_⟩:F=x.c/\_:=e4;exact e3
def zG(hX:cp X){y:Yd}{r r2 st rc mo:O}{F:List KW}(hk:Sl m F st)(hl:F.length<1000000)(h1:(yc r r2 st rc mo).all one)(id:Int):
  xw X 169 [yv r r2 st rc mo,I id] m (I (idx (λx:KW=>decide (x.u.id=id)) F)) m:=by apply Cl.fG hX (U5 func169);rw[F169];dsimp only[aH];refine ah λm1 i0 g0 h0=>?_;have g1:m1.get m.n=.cells (yc r r2 st rc mo) 37 none:=g0;have H:=hk.ak (m':=m1) ⟨Z,h0⟩;obtain⟨-,l1, -, -, -⟩:=eU g1;unfold ptrTo;simp only[dF,bW,aW,Y];refine Lp.intro (γ:=Nat) (λi=>F.length-i) (λi vs mm lo=>∃z,vs=[z,I i]/\i<=F.length/\m1=mm/\m.n<=lo/\∀j x,j<i->F[j]?=some x->x.u.id≠id) 0 ⟨_,rfl,Vw _,rfl,Z,λj x hj=>Z⟩ ?_;rintro i vs mm lo ⟨z,rfl,hi,rfl,b0,d0⟩;rw[av,av,l1,Y,H.len eR,an,aK,Y,ag];refine af (λe0=>?_) (λj0=>?_);have e0:i<F.length:=J;obtain⟨x,hx⟩:∃x,F[i]?=some x:=⟨_,QC e0⟩;obtain⟨b,o,e1,e2, -⟩:=Eu H hx;rw[Y,e1,Y,bW,Y,aW,Y,e2,Y,aJ,Y,ag];refine af (λc=>⟨?_,b0⟩) (λc=>?_);rw[FV (i:=i) hx (by exact c) λj y hj hy=>J];rfl;rw[aO,Y,wrap64];refine⟨i+1,Z,z,rfl,Z,rfl,b0,λj y hj hy=>?_⟩;by_cases e:j=i;subst e;rw[hx]at hy;cases hy;exact Z0 c;exact d0 j y Z hy;have k0:i=F.length:=(by grind);refine⟨?_,b0⟩;rw[xN λy hy=>?_];rfl;have⟨j,hj⟩:=MI hy;simpa using d0 j y J hj
def Ab(hX:cp X)(a b:Fc):xw X 77 [a.v,b.v] m (.bool (decide (og a b))) m:=by apply Cl.fG hX (U5 func77);rw[F77];dsimp only[aH];refine ah λm1 j0 F k0=>?_;refine ah λm2 l0 H b0=>?_;have g1:m2.get m.n=.cells a.c 103 none:=(by rw[b0 _ Z];exact F);have g2:m2.get m1.n=.cells b.c 103 none:=H;have d0:aC TE m2 3 (Ω m.n (0+0))=some (I a.un):=(by rw[bP,aG g1];rfl);have e0:aC TE m2 3 (Ω m.n (0+1))=some (I a.side):=(by rw[bP,aG g1];rfl);have g0:aC TE m2 3 (Ω m1.n (0+0))=some (I b.un):=(by rw[bP,aG g2];rfl);have h0:aC TE m2 3 (Ω m1.n (0+1))=some (I b.side):=(by rw[bP,aG g2];rfl);unfold ptrTo;refine xr (λvs mm lo=>vs=[.bool (decide (og a b))]/\m.n<=lo) (λR hR=>?_) ?_;simp only[iA,jE,Y,d0,e0,g0,h0,aK,aJ,ag];refine af (λc=>hR ⟨by rw[RO (show og a b from .inl (Mv c))],Z⟩) (λc1=>?_);have c1:=Z0 c1;refine af (λc=>hR ⟨?_,Z⟩) (λc=>hR ⟨?_,Z⟩);have c:=Mv c;congr 2;rw[ge];unfold og;omega;have c:=Z0 c;rw[C8];unfold og;omega;rintro _ _ lo ⟨rfl,i0⟩;rw[av];exact⟨rfl,i0⟩
def EG{l:List Fc}{v:O}(h:Sl m l v){i:Nat}{x:Fc}(F:l[i]?=some x):∃p,aD TE 34 v (I i)=some p/\aC TE m 103 p=some x.v:=by have⟨p,cs,H,e2,e3⟩:=h.index lv (k:=.i64) F;obtain rfl:cs=x.c:=e3;exact⟨p,H,e2⟩
def WC{a b:Fc}:bE TE .eql 103 a.v b.v=some (.bool (decide (a=b))):=by have h:bE TE .eql 103 a.v b.v=some (.bool ((a.un==b.un) && ((a.side==b.side) && true))):=bv;rw[h];have⟨F,a2⟩:=a;have⟨H,b2⟩:=b;congr 2;grind
def uS(hX:cp X){l:List Fc}{r r2 st rc mo:O}(hr:Sl m l rc)(hl:l.length<1000000)(f:Fc):
  xw X 76 [yv r r2 st rc mo,f.v] m (.bool (decide (f∈l))) m:=by apply Cl.fG hX (U5 func76);rw[F76];dsimp only[aH];refine ah λm1 j0 e0 k0=>?_;refine ah λm2 l0 g0 h0=>?_;have g1:m2.get m.n=.cells (yc r r2 st rc mo) 37 none:=(by rw[h0 _ Z];exact e0);have g2:m2.get m1.n=.cells f.c 103 none:=g0;have b0:=hr.ak (m':=m2) ⟨Z,J⟩;obtain⟨-, -,l2, -, -⟩:=eU g1;have lf:aC TE m2 103 (Ω m1.n 0)=some f.v:=(by rw[Cs,aI (n:=2) g2 J];rfl);unfold ptrTo;simp only[fE,Y];refine Lp.intro (γ:=Nat) (λi=>l.length-i) (λi vs mm lo=>∃z,vs=[z,I i]/\i<=l.length/\m2=mm/\m.n<=lo/\f∉l.take i) 0 ⟨_,rfl,Vw _,rfl,Z,co⟩ ?_;rintro i vs mm lo ⟨z,rfl,hi,rfl,F,H⟩;rw[av,av,l2,Y,b0.len lv,an,aK,Y,ag];refine af (λd0=>?_) (λn0=>?_);have d0:i<l.length:=J;obtain⟨x,hx⟩:∃x,l[i]?=some x:=⟨_,QC d0⟩;have⟨p,e1,e2⟩:=EG b0 hx;rw[Y,e1,Y,e2,Y,lf,Y,WC,Y,ag];refine af (λc=>⟨?_,F⟩) (λc=>?_);have c:=Mv c;subst c;rw[RO (QP hx)];rfl;rw[aO,Y,wrap64];refine⟨i+1,Z,z,rfl,Z,rfl,F,?_⟩;rw[Z8,hx];simp only[My,IF,RV,not_or];exact⟨H,λe=>Z0 c e.symm⟩;have i0:i=l.length:=(by grind);subst i0;rw[W8]at H;exact⟨by rw[C8 H];rfl,F⟩
theorem EI(hX:cp X){l:List UW}{v vm:O}(h:cD m l v)(hl:l.length<1000000)(h1:one vm)(id side:Int):
  xw X 171 [.agg #[v,vm],I id,I side] m (.bool (oj (bH l) id side)) m:=by apply Cl.fG hX (U5 func171);rw[F171];dsimp only[aH];refine ah λm1 j0 b0 d0=>?_;have g1:m1.get m.n=.cells [v,vm] 32 none:=b0;have e0:Ext m m1:=⟨Z,d0⟩;unfold ptrTo;rw[(kb g1).2.2.2,Y];have⟨rv,m4,c4,x4,fr⟩:=qh (m:=m1) hX (h.ak e0) hl h1 id;apply aw c4;have n4:=x4.n;obtain⟨u,w,ok,rfl,hs,hB⟩:∃(u:Un) (w:O) (ok:Bool),rv=.tuple #[u.v w,.bool ok]/\Sl m4 u.shape w/\oj (bH l) id side=(ok && (decide (side= -1) ||decide (side= -2) ||decide (0<=side) && decide (side<(u.shape.length:Int)))):=(by unfold iQ at fr;unfold oj;cases e:cz (bH l) id with|none=>rw[e]at fr;exact⟨.z,Z9,false,fr,.nil,rfl⟩|some u=>rw[e]at fr;have⟨w,h1,h2⟩:=fr;exact⟨u,w,true,h1,h2,co⟩);rw[aE,aE];simp only[XW,Q7,Y];refine ah λm8 k0 g0 l0=>?_;refine aj dO g0 rfl rfl (Un.dp hs.one) λm9 n0 F o0=>?_;have F:m9.get m4.n=.cells (u.c w) 43 none:=F;have h0:=hs.ak (m':=m9) ⟨Z,J⟩;obtain⟨-, -, -,l3, -, -⟩:=kS F;refine xr (λvs mm lo=>vs=[.bool (oj (bH l) id side)]/\m.n<=lo) (λR H=>?_) ?_;rw[ag];refine af (λc=>?_) (λc=>H ⟨J,Z⟩);rw[aJ,Y,ag];refine af (λc1=>H ⟨J,Z⟩) (λc1=>?_);rw[aJ,Y,ag];refine af (λc2=>H ⟨J,Z⟩) (λc2=>?_);rw[cZ,Y,ag];refine af (λc3=>?_) (λc3=>H ⟨J,Z⟩);rw[bA,Y,l3,Y,h0.len cO,an,aK,Y];exact H ⟨J,Z⟩;rintro _ _ lo ⟨rfl,i0⟩;rw[av];exact⟨rfl,i0⟩
structure Sf where
 de:Int
 gr:Int
 st:Int
 po:Int
 sa:Int
abbrev Sf.c(x:Sf):ν:=[.int .i64 x.de,.int .i64 x.gr,.int .i64 x.st,.int .i64 x.po,.int .i64 x.sa]
abbrev Sf.v(x:Sf):O:=.agg (x.c).toArray
instance:aL Sf where
 ty:=96
 sz:=5
 agg:=true
 dN:=[]
 rep _ x cs:=cs=x.c
 pos:=ce
 one:=J
 len:=dg
 iy:=by rintro _ _ _ rfl;rfl
 aX:=J
def Xj:qs TE 340 96 Sf:=⟨ai.t340,ai.t96,bv,⟨_,rfl⟩,rfl,bv,rfl,rfl⟩
def nM:List Sf:=[⟨9,3,9,1,0⟩,⟨8,3,6,4,1⟩,⟨7,3,5,5,1⟩,⟨6,3,4,6,3⟩,⟨3,2,5,3,0⟩,⟨5,2,2,7,1⟩,⟨8,3,8,1,4⟩,⟨10,1,9,0,0⟩]
def ic(a:Int):Option Sf:=if 0<=a/\a<=7 then nM[a.toNat]? else none
def cg(a b:Int):Bool:=match ic a,ic b with
 |some x,some y=>decide (x.st<=y.st+1) && decide (y.po<=x.po+1) && decide (x.sa<=y.sa+1)
 |_,_=>false
def bU(a b:Int):Bool:=match ic a,ic b with
 |some x,some y=>decide (x.st<=y.st) && decide (y.po<=x.po) && decide (x.sa<=y.sa+1)
 |_,_=>false
def iq(a:Int):O:=match ic a with
 |some x=> .tuple #[x.v,.int .i64 0]
 |none=> .tuple #[Sf.v ⟨0,0,0,0,0⟩,.int .i64 80]
def Mu:∃m',aQ TE m 340 8 [(0,Sf.v ⟨9,3,9,1,0⟩),(1,Sf.v ⟨8,3,6,4,1⟩),(2,Sf.v ⟨7,3,5,5,1⟩),(3,Sf.v ⟨6,3,4,6,3⟩),(4,Sf.v ⟨3,2,5,3,0⟩),(5,Sf.v ⟨5,2,2,7,1⟩),(6,Sf.v ⟨8,3,8,1,4⟩),(7,Sf.v ⟨10,1,9,0,0⟩)]=some (Hr m.n 0 8 8,m')/\m'=m.push (.cells (nM.flatMap Sf.c) 96 none):=⟨_,bv,rfl⟩
def PS{b:Nat}{g:Option Nat}(h:m.get b=.cells (nM.flatMap Sf.c) 96 g):Sl m nM (Hr b 0 8 8):=
 .inr ⟨b,0,8,_,g,rfl,h,ce,λi x hi=>by have:i<8:=(Nr.1 hi).1;match i,hi with|0,hi=>cases hi;rfl|1,hi=>cases hi;rfl|2,hi=>cases hi;rfl|3,hi=>cases hi;rfl|4,hi=>cases hi;rfl|5,hi=>cases hi;rfl|6,hi=>cases hi;rfl|7,hi=>cases hi;rfl|i+8,_=>omega⟩
def qC(hX:cp X)(a:Int):xw X 213 [I a] m (iq a) m:=by refine Cl.xS (hX.no _ rfl) (U5 func213) rfl (by unfold iq;split <;>rfl) ?_;rw[F213];dsimp only[aH];refine ah λm1 o0 h0 p0=>?_;rw[show bz TE 96 [(0,I 9),(1,I 3),(2,I 9),(3,I 1)]=some (Sf.v ⟨9,3,9,1,0⟩) by kernel_rfl,Y];rw[show bz TE 96 [(0,I 8),(1,I 3),(2,I 6),(3,I 4),(4,I 1)]=some (Sf.v ⟨8,3,6,4,1⟩) by kernel_rfl,Y];rw[show bz TE 96 [(0,I 7),(1,I 3),(2,I 5),(3,I 5),(4,I 1)]=some (Sf.v ⟨7,3,5,5,1⟩) by kernel_rfl,Y];rw[show bz TE 96 [(0,I 6),(1,I 3),(2,I 4),(3,I 6),(4,I 3)]=some (Sf.v ⟨6,3,4,6,3⟩) by kernel_rfl,Y];rw[show bz TE 96 [(0,I 3),(1,I 2),(2,I 5),(3,I 3)]=some (Sf.v ⟨3,2,5,3,0⟩) by kernel_rfl,Y];rw[show bz TE 96 [(0,I 5),(1,I 2),(2,I 2),(3,I 7),(4,I 1)]=some (Sf.v ⟨5,2,2,7,1⟩) by kernel_rfl,Y];rw[show bz TE 96 [(0,I 8),(1,I 3),(2,I 8),(3,I 1),(4,I 4)]=some (Sf.v ⟨8,3,8,1,4⟩) by kernel_rfl,Y];rw[show bz TE 96 [(0,I 10),(1,I 1),(2,I 9)]=some (Sf.v ⟨10,1,9,0,0⟩) by kernel_rfl,Y];have⟨m11,H,F⟩:=Mu (m:=m1);rw[H,an];have b0:m11.get m1.n=.cells (nM.flatMap Sf.c) 96 none:=(by rw[F];exact M.aU);have i0:m11.n=m1.n+1:=(by rw[F];exact M.jr);have gz:m11.get m.n=.cells (Sf.c ⟨0,0,0,0,0⟩) 96 none:=(by rw[F,M.cH Z];exact h0);have hs:=PS b0;have d0:∀{mm:M} {x:Sf},mm.get m.n=.cells x.c 96 none->aC TE mm 96 (Ω m.n 0)=some x.v:=λh=>(by rw[FK,aI (n:=5) h J];rfl);clear F H;unfold ptrTo;refine xr (λvs mm lo=>vs=[.bool (!decide (0<=a/\a<=7))]/\m11=mm/\m.n<=lo) (λR hR=>?_) ?_;rw[aK,Y,ag];refine af (λc=>hR ⟨?_,rfl,Z⟩) (λc=>?_);have c:=Mv c;rw[CX];rfl;have c:=Z0 c;rw[cC,Y];refine hR ⟨?_,rfl,Z⟩;congr 2;rw[<-decide_not,ge];omega;rintro _ _ lo ⟨rfl,rfl,q0⟩;rw[av,ag];refine af (λc=>?_) (λc=>?_);rw[yC]at c;rw[show bz TE 96 []=some (Sf.v ⟨0,0,0,0,0⟩) by kernel_rfl,Y];refine aj kV gz rfl rfl rfl λm21 j0 e0 k0=>?_;rw[d0 (x:=⟨0,0,0,0,0⟩) e0,Y];refine⟨?_,Z⟩;unfold iq ic;rw[ND (Z0 c)];rfl;rw[HO]at c;have c:=Mv c;obtain⟨x,hx⟩:∃x,nM[a.toNat]?=some x:=⟨_,QC (show a.toNat<8 by omega)⟩;have⟨p,cs,e1,e2,e3⟩:=hs.index Xj (k:=.i64) hx;obtain rfl:cs=x.c:=e3;rw[show((a.toNat:Nat):Int)=a by omega]at e1;have e2:aC TE m11 96 p=some x.v:=e2;rw[e1,Y,e2,Y];refine aj kV gz rfl rfl rfl λr0 l0 g0 n0=>?_;rw[d0 (x:=x) g0,Y];refine⟨?_,Z⟩;unfold iq ic;rw[UG c,hx];rfl
def hH(a:Int):∃(x:Sf) (e:Int),iq a=.tuple #[x.v,I e]/\(decide (e=0)->ic a=some x)/\(decide (e=0)=false->ic a=none):=by unfold iq;cases ic a with|none=>exact⟨_,_,rfl,J,λ_=>rfl⟩|some x=>exact⟨x,0,rfl,λ_=>rfl,J⟩
def mh{x:Sf}(h:ic a=some x):(0<=x.st/\x.st<=10)/\(0<=x.po/\x.po<=10)/\(0<=x.sa/\x.sa<=10):=by unfold ic at h;split at h;have hm:=QP h;simp only[nM,VM,DA,or_false]at hm;rcases hm with rfl|rfl|rfl|rfl|rfl|rfl|rfl|rfl <;>decide;cases h
def Wl{b:Nat}{x:Sf}{g:Option Nat}(h:m.get b=.cells x.c 96 g):aC TE m 3 (Ω b (0+2))=some (I x.st)/\aC TE m 3 (Ω b (0+3))=some (I x.po)/\aC TE m 3 (Ω b (0+4))=some (I x.sa):=by refine⟨?_,?_,?_⟩ <;>(rw[bP,aG h];rfl)
def abV(hX:cp X)(a b:Int):xw X 170 [I a,I b] m (.bool (cg a b)) m:=by apply Cl.fG hX (U5 func170);rw[F170];dsimp only[aH];have⟨x,e,h1,F,h0⟩:=hH a;have⟨y,f,h2,H,i0⟩:=hH b;apply aw (qC hX a);rw[h1,aE,aE];simp only[XW,Q7,Y];refine ah λm6 p0 j0 q0=>?_;refine aj kV j0 rfl rfl rfl λm7 r0 k0 s0=>?_;apply aw (qC hX b);rw[h2,aE,aE];simp only[XW,Q7,Y];refine ah λm14 n0 b0 d0=>?_;refine aj kV b0 rfl rfl rfl λm15 o0 e0 g0=>?_;have g1:m15.get m.n=.cells x.c 96 none:=(by rw[g0 _ Z,d0 _ Z];exact k0);have g2:m15.get m7.n=.cells y.c 96 none:=e0;have⟨x0,x1,x2⟩:=Wl g1;have⟨y0,y1,y2⟩:=Wl g2;unfold ptrTo;refine xr (λvs mm lo=>vs=[.bool (cg a b)]/\m.n<=lo) (λR hR=>?_) ?_;simp only[kM,kL,kJ,Y,x0,x1,x2,y0,y1,y2,aJ,cI,cZ,aO,ag];refine af (λc1=>?_) (λc1=>hR ⟨by unfold cg;rw[h0 c1],Z⟩);refine af (λc2=>?_) (λc2=>hR ⟨by unfold cg;rw[F c1,i0 c2],Z⟩);have⟨s1,s2,s3⟩:=mh (F c1);have⟨t1,t2,t3⟩:=mh (H c2);have hS:cg a b=(decide (x.st<=y.st+1) && decide (y.po<=x.po+1) && decide (x.sa<=y.sa+1)):=(by unfold cg;rw[F c1,H c2]);rw[wrap64 (x:=y.st+1) Z Z,wrap64 (x:=x.po+1) Z Z,wrap64 (x:=y.sa+1) Z Z];refine af (λc3=>?_) (λc3=>hR ⟨J,Z⟩);refine af (λc4=>?_) (λc4=>hR ⟨J,Z⟩);exact hR ⟨J,Z⟩;rintro _ _ lo ⟨rfl,l0⟩;rw[av];exact⟨rfl,l0⟩
def zI(hX:cp X)(a b:Int):xw X 172 [I a,I b] m (.bool (bU a b)) m:=by apply Cl.fG hX (U5 func172);rw[F172];dsimp only[aH];have⟨x,e,h1,F,h0⟩:=hH a;have⟨y,f,h2,H,i0⟩:=hH b;apply aw (qC hX a);rw[h1,aE,aE];simp only[XW,Q7,Y];refine ah λm6 p0 j0 q0=>?_;refine aj kV j0 rfl rfl rfl λm7 r0 k0 s0=>?_;apply aw (qC hX b);rw[h2,aE,aE];simp only[XW,Q7,Y];refine ah λm14 n0 b0 d0=>?_;refine aj kV b0 rfl rfl rfl λm15 o0 e0 g0=>?_;have g1:m15.get m.n=.cells x.c 96 none:=(by rw[g0 _ Z,d0 _ Z];exact k0);have g2:m15.get m7.n=.cells y.c 96 none:=e0;have⟨x0,x1,x2⟩:=Wl g1;have⟨y0,y1,y2⟩:=Wl g2;unfold ptrTo;refine xr (λvs mm lo=>vs=[.bool (bU a b)]/\m.n<=lo) (λR hR=>?_) ?_;simp only[kM,kL,kJ,Y,x0,x1,x2,y0,y1,y2,aJ,cI,cZ,aO,ag];refine af (λc1=>?_) (λc1=>hR ⟨by unfold bU;rw[h0 c1],Z⟩);refine af (λc2=>?_) (λc2=>hR ⟨by unfold bU;rw[F c1,i0 c2],Z⟩);have⟨s1,s2,s3⟩:=mh (F c1);have⟨t1,t2,t3⟩:=mh (H c2);have hS:bU a b=(decide (x.st<=y.st) && decide (y.po<=x.po) && decide (x.sa<=y.sa+1)):=(by unfold bU;rw[F c1,H c2]);rw[wrap64 (x:=y.sa+1) Z Z];refine af (λc3=>?_) (λc3=>hR ⟨J,Z⟩);refine af (λc4=>?_) (λc4=>hR ⟨J,Z⟩);exact hR ⟨J,Z⟩;rintro _ _ lo ⟨rfl,l0⟩;rw[av];exact⟨rfl,l0⟩
section
variable {α:Type} [aL α] {T:TypeId}
def Ap.LJ(H:vp TE T α)(b0:aL.dN α=[]){n1:Nat}{l ys:List α}{v y:O}(h:Ap n1 m l v)(hy:Sl m ys y)(hn:n1<=m.n)(hs:l.length+ys.length<=1000000):
  ∃v' m1,aR TE (m.wl m.n) .append [T,T] [v,y]=some (v',m1)/\Ap n1 m1 (l++ys) v'/\m.n<=m1.n/\n1<=m1.low/\∀c,c<n1->m1.get c=m.get c:=by by_cases F:ys=[];subst F;rcases h with h|⟨b,cs,te,rfl,h2,h3⟩;obtain⟨v',m1,e1,ho,hf,hl,_⟩:=h.append H J hy hn Z;exact⟨v',m1,e1,.inl ho,hf.n,hl,λc hc=>hf.get c hc⟩;refine⟨_,m.wl m.n,append_nil H (R8 _) J ?_,?_,R8 _,hn,λ_ _=>rfl⟩;rcases hy with⟨rfl,_⟩|⟨b',o,c,bc,g,rfl,_⟩;grind;grind;rw[NC];exact .inr ⟨b,cs,te,rfl,h2,h3.ak Ext.refl.wl⟩;have⟨v',m1,e1,ho,h1,h2,h3⟩:=h.append H b0 hy F hn hs;exact⟨v',m1,e1,.inl ho,h1,h2,h3⟩
def Ap.lit0{n1 b:Nat}{g:Option Nat}(h:m.get b=.cells [] (aL.ty α) none):Ap n1 m ([]:List α) (Hr b 0 0 0):=
 .inr ⟨b,[],_,rfl,h,.inr ⟨b,0,0,[],none,rfl,h,co,J⟩⟩
end
def Lq{b:Nat}{x:UW}(h:m.get b=.cells x.c 43 none)(F:one x.w)(H:Sl m x.u.shape x.w)(hl:x.u.shape.length<1000000):cD m [x] (Hr b 0 1 1):=
 ⟨lz h ⟨rfl,F⟩,J,J,.inr ⟨b,0,1,_,none,rfl,R8 _,h,.inl rfl⟩⟩
variable{x:KW}
def Dv(h:m.get b=.cells x.c 85 g):aC TE m 3 (Ω b (0+0+0))=some (I x.u.id)/\aC TE m 43 (Ω b (0+0))=some (x.u.v x.w)/\aC TE m 30 (Ω b (0+6))=some x.mv/\aC TE m 85 (Ω b 0)=some x.v:=by refine⟨?_,?_,?_,?_⟩;rw[bP,aG h];rfl;rw[oO,aI (n:=6) h dg];rfl;rw[jC,aG h];rfl;rw[KZ,aI (n:=7) h dg];rfl
def QX{l:List Mk}{v:O}(h:Sl m l v){i:Nat}{x:Mk}(F:l[i]?=some x):∃b o,aD TE 30 v (I i)=some (Ω b o)/\aC TE m 3 (Ω b (o+0))=some (I x.id):=by have⟨b,o,bc,g,cs,H,hb,hr,hle,hj⟩:=h.iI cJ (k:=.i64) F;obtain rfl:cs=x.c:=hr;refine⟨b,o,H,?_⟩;rw[bP,aG hb];exact hj 0 (by show 0<5;decide)
def GB{b:Nat}{x:Fc}{g:Option Nat}(h:m.get b=.cells x.c 103 g):aC TE m 3 (Ω b (0+0))=some (I x.un)/\aC TE m 3 (Ω b (0+1))=some (I x.side)/\aC TE m 103 (Ω b 0)=some x.v:=by refine⟨?_,?_,?_⟩;rw[bP,aG h];rfl;rw[bP,aG h];rfl;rw[Cs,aI (n:=2) h J];rfl
def Jp{b:Nat}{x:Mo}{g:Option Nat}(h:m.get b=.cells x.c 60 g):aC TE m 3 (Ω b (0+0))=some (I x.a)/\aC TE m 3 (Ω b (0+1))=some (I x.b)/\aC TE m 3 (Ω b (0+2))=some (I x.du)/\aC TE m 60 (Ω b 0)=some x.v:=by refine⟨?_,?_,?_,?_⟩;rw[bP,aG h];rfl;rw[bP,aG h];rfl;rw[bP,aG h];rfl;rw[K0,aI (n:=3) h J];rfl
def KM{l:List Mo}{v:O}(h:Sl m l v){i:Nat}{x:Mo}(H:l[i]?=some x):∃b o,aD TE 35 v (I i)=some (Ω b o)/\aC TE m 60 (Ω b o)=some x.v/\
  aC TE m 3 (Ω b (o+0))=some (I x.a)/\aC TE m 3 (Ω b (o+1))=some (I x.b):=by have⟨b,o,bc,g,cs,e1,hb,hr,hle,hj⟩:=h.iI kj (k:=.i64) H;obtain rfl:cs=x.c:=hr;refine⟨b,o,e1,?_,?_,?_⟩;have⟨p,F,e2,e3,e4⟩:=h.index kj (k:=.i64) H;obtain rfl:p=Ω b o:=Option.some.inj (e2.symm.trans e1);obtain rfl:F=x.c:=e4;exact e3;rw[bP,aG hb];exact hj 0 (by show 0<3;decide);rw[bP,aG hb];exact hj 1 (by show 1<3;decide)
set_option maxHeartbeats 1000000 in
def abk(hX:cp X){y:Yd}{r r2 st rc mo:O}(hV:rR m y r r2 st rc mo)(hP:mS y):xw X 120 [yv r r2 st rc mo] m VT m:=by
 have y6:=hV.iy;have⟨⟨l,A2,hF⟩,y4,⟨kl,A4,hK⟩,B4,O4⟩:=hV;have b6:l.length<=12:=(by have:=hP.xU.len;rwa[<-A2,cx]at this);have c6:kl.length<=12:=(by have:=hP.PH;rwa[<-A4,kE]at this);have R4:=hP.Kl;have d6:=hP.Xn;have e6:=hP.UE;apply Cl.fG hX (U5 func120);rw[F120];dsimp only[aH];refine ah λm1 z6 W4 a5=>?_;have g1:m1.get m.n=.cells (yc r r2 st rc mo) 37 none:=W4;have i1:Ext m m1:=⟨Z,a5⟩;have g3:=hF.ak i1;have j1:=y4.ak i1;have Q1:=hK.ak i1;have d2:=B4.ak i1;have g2:=O4.ak i1;obtain⟨y0,y1,y2,y3, -⟩:=eU g1;unfold ptrTo;simp only[dn,dF,fE,fD,bI,Y];have f6:y.ms.length<=20:=hP.Du.len;refine xr (λvs mm lo=>vs=[P6]/\m1=mm/\m.n<=lo) (λQ hQ=>?_) ?_
 ·rw[y0,Y];apply aw (nR hX g3 Z j1 Z);rw[A2,fg hP.xU,ig.2 hP.Du,bB,Y,ag];show lY false _ _;rw[aT,y1,Y,Q1.sl.len eR,an,cC,Y,ag,CX,aT,y2,Y,d2.len lv,an,cC,Y,ag,CX,aT,y3,Y,g2.len kj,an,cC,Y,CX];exact hQ ⟨rfl,rfl,Z⟩
 rintro _ _ c5 ⟨rfl,rfl,g6⟩;rw[av,ag,aT,jg,an];obtain⟨m5,l1⟩:∃x,x=m1.push (.cells [] 68 none):=⟨_,rfl⟩;rw[<-l1];have A6:m5.n=m1.n+1:=(by rw[l1];exact M.jr);have d5:m5.get m1.n=.cells [] 68 none:=(by rw[l1];exact M.aU);have B2:Ext m1 m5:=l1 ▸ Ext.refl.push;clear l1;rw[(uM (B2.cells g1)).2.2,Y];obtain⟨v31,m32,q1,q2,q3,q4,q5⟩:=(Ap.lit0 (n1:=m1.n) (g:=none) d5).LJ pH rfl (j1.ak B2) Z J;rw[q1,an];rw[List.nil_append]at q2;have i2:m.n<=min c5 m32.low:=Z;have h3:Ext m1 m32:=⟨Z,λc hc=>by rw[q5 c hc,B2.get c hc]⟩;clear q1 q4 q5;refine Lp.intro (γ:=Nat) (λi=>kl.length-i) (λi vs mm lo=>∃z v,vs=[z,v,.int .i64 i]/\i<=kl.length/\Ext m1 mm/\m.n<=lo/\Ap m1.n mm (y.ms++(y.st.take i).flatMap Kp.ms) v) 0 ⟨_,_,rfl,Vw _,h3,i2,J⟩ ?_;rintro i vs mm lo ⟨z,v,rfl,hi,l0,H,G2⟩;have nm:=l0.n;obtain⟨z0,z1,z2,z3, -⟩:=eU (l0.cells g1);have i3:=Q1.ak l0;rw[av,av,av,z1,Y,i3.sl.len eR,an,aK,Y,ag];refine af (λd0=>?_) (λL2=>?_)
 ·have d0:i < kl.length:=J;obtain⟨x,hx⟩:∃x,kl[i]?=some x:=⟨_,QC d0⟩;have c1:=QP hx;have r1:y.st[i]?=some x.k:=J;have v1:=QP r1;have⟨b,o,e1,e2,e3,o1,o2⟩:=Eu i3.sl hx;rw[Y,e1,Y,e3,Y];refine ah λB6 h6 j3 i6=>?_;refine aj GO j3 rfl rfl (KW.dp o1 o2) λT1 j6 k3 k6=>?_;have a2:T1.get mm.n=.cells x.c 85 none:=k3;have g0:Ext mm T1:=⟨Z,J⟩;have a7:=g0.n;obtain⟨w0,w1,w2,w3, -⟩:=eU ((l0.trans g0).cells g1);obtain⟨k0,k1,k2, -⟩:=Dv a2;rw[w0,Y,bW,Y,aW,Y,k0,Y];have l3:cz (bH l) x.u.id=none:=(by rw[A2];exact vS λu hu=>hP.off _ v1 u hu);have m3:=g3.ak (l0.trans g0);obtain⟨rv,b7,e5,n3,f60⟩:=qh (m:=T1) hX m3 Z (j1.one) x.u.id;apply aw e5;unfold iQ at f60;rw[l3]at f60;dsimp only at f60;subst f60;rw[aE,aE];simp only[XW,Q7,Y];have c7:=n3.n;refine ah λm64 l6 o3 r3=>?_;refine aj dO o3 rfl rfl rfl λe0 m6 n6 A3=>?_;have h0:Ext T1 e0:=⟨Z,λc hc=>by rw[A3 c Z,r3 c Z,n3.get c hc]⟩;have n0:=l0.trans (g0.trans h0);obtain⟨k0,k1,k2, -⟩:=Dv (h0.cells a2);have l2:=Q1.ak n0
  have r0:∀{R:ν->M->Nat->Prop} {F:Nat},(∀d1 F,Ext e0 d1->m.n<=F->R [P6] d1 F)->m.n<=F->
    aS (aC TE e0 43 (.pointer (some ⟨mm.n,0+0,none⟩))) λf5=>(dh (aQ TE e0 27 1 [(0,f5)]) λg5 A1=>(aS (bz TE 29 [(0,g5)]) λh5=>(aS (az TE 85 (.pointer (some ⟨mm.n,0,none⟩)) 1) λB3=>(aS (aC TE A1 30 B3) λG3=>(aS (bz TE 32 [(0,h5),(1,G3)]) λO3=>(lU TE X (.func 164) [O3] A1 λc4 d4 e4=>(aS (Dr .not c4) λf4=>(R [f4] d4 (min F e4))))))))):=by
   intro R F hR s0
   rw[k1,Y,show(x.u.v x.w)=UW.v ⟨x.u,x.w⟩from rfl,AP,an]
   obtain⟨A1,B1⟩:∃q,q=e0.push (.cells (UW.c ⟨x.u,x.w⟩) 43 none):=⟨_,rfl⟩
   rw[<-B1]
   have A0:Ext e0 A1:=B1 ▸ Ext.refl.push
   have g4:A1.get e0.n=.cells (UW.c ⟨x.u,x.w⟩) 43 none:=by rw[B1];exact M.aU
   have i0:=l2.ak A0
   obtain⟨-, -,j2, -⟩:=Dv ((h0.trans A0).cells a2)
   rw[vZ rfl,Y,dC,Y,j2,Y]
   rw[show bz TE 32 [(0,.agg (cells (Value.slice (some ⟨e0.n,0,none⟩) 1 1)).toArray),(1,x.mv)]=some (.agg #[.slice (some ⟨e0.n,0,none⟩) 1 1,x.mv]) by rw[rj rfl (by rw[(i0.mv x c1).cells];rfl),(i0.mv x c1).cells];rfl,Y]
   have h4:=Lq g4 o1 (i0.sh x c1) (i0.ln x c1)
   have j4:=hP.DF _ v1
   have i5:x.ms.length<=20:=j4.len
   apply aw (nR hX h4 co (i0.mv x c1) Z)
   rw[show bH [(⟨x.u,x.w⟩:UW)]=[x.u]from rfl,fg (hP.Nb _ v1),ig.2 j4,bB,Y]
   exact hR _ _ A0 (by have:=A0.n;omega)
  refine xr (λvs d1 F=>vs=[P6]/\Ext e0 d1/\m.n<=F) (λQ hQ=>?_) ?_
  ·rw[ag,aT,cC,Y,ag];simp only[bW,aW,Y];refine af (λc=>?_) (λc=>r0 (λd1 F h1 h2=>hQ ⟨rfl,h1,h2⟩) Z);obtain⟨j,rfl⟩:∃j,i=j+1:=⟨i-1,J⟩;obtain⟨x',p0⟩:∃x',kl[j]?=some x':=⟨_,wo⟩;obtain⟨b',o',q0,M2, -⟩:=Eu l2.sl p0;obtain⟨u0,u1,u2,u3, -⟩:=eU (n0.cells g1);have o6:x'.u.id < x.u.id:=(by have hj:y.st[j]?=some x'.k:=J;have h1:=Nr.1 hj;have h2:=Nr.1 r1;have:=Vr.1 hP.ym j (j+1) h1.1 h2.1 Z;rwa[h1.2,h2.2]at this);rw[k0,Y,u1,Y,fa,Y,wrap64,show((j+1:Nat):Int)-1=(j:Int) by omega,q0,Y,bW,Y,aW,Y,M2,Y,cI,Y,ag,CX,aT];exact r0 (λd1 F h1 h2=>hQ ⟨rfl,h1,h2⟩) Z
  rintro _ d7 r6 ⟨rfl,B0,j5⟩;have e7:=B0.n;rw[av,ag,aT,dC,Y];obtain⟨-, -,j2, -⟩:=Dv ((h0.trans B0).cells a2);rw[j2,Y];have G1:=n0.trans B0;have k4:=Q1.ak G1;have l4:(y.ms++(y.st.take i).flatMap Kp.ms).length+x.ms.length<=20:=(by have e:allM y.ms y.st=(y.ms++(y.st.take i).flatMap Kp.ms)++(x.ms++(y.st.drop (i+1)).flatMap Kp.ms):=(by unfold allM;(conv=>lhs;rw[<-Jy i y.st]);rw[TA,Mr (Nr.1 r1).1,WZ,(Nr.1 r1).2];simp);grind);obtain⟨m4,s6,p1,p2,p3,p4,p5⟩:=(G2.ak ((g0.trans h0).trans B0)).LJ pH rfl (k4.mv x c1) Z Z;rw[p1,an,aO,Y,wrap64];refine⟨i+1,Z,z,m4,rfl,Z,⟨Z,λc hc=>by rw[p5 c hc,G1.get c hc]⟩,Z,?_⟩;rw[Z8,r1,TA,<-NZ];simpa using p2
 have k5:i=y.st.length:=(by grind);subst k5;rw[W8]at G2;have c2:=G2.sl;obtain⟨A,hA⟩:∃A,A=y.ms++y.st.flatMap Kp.ms:=⟨_,rfl⟩;rw[<-hA]at c2;have l4:A.length<=20:=(by rw[hA];exact R4);have l5:∀{i j:Nat} {a b:Mk},j < i->A[i]?=some a->A[j]?=some b->a.id≠b.id:=(by intro i j a b n5 ha hb e;have h1:=Nr.1 ha;have h2:=Nr.1 hb;have hn:=hP.nod;unfold allM at hn;rw[<-hA,List.Nodup,Nx]at hn;have:=Vr.1 hn j i h2.1 h1.1 n5;grind);refine Lp.intro (γ:=Nat) (λi=>A.length-i) (λi vs m' lo=>∃z,vs=[z,.int .i64 i]/\i<=A.length/\mm=m'/\m.n<=lo) 0 ⟨_,rfl,Vw _,rfl,H⟩ ?_;rintro i _ _ lo ⟨z,rfl,hi,rfl,H⟩;rw[av,av,c2.len cJ,an,aK,Y,ag];refine af (λd0=>?_) (λL2=>?_)
 ·have d0:i < A.length:=J;obtain⟨a,ha⟩:∃a,A[i]?=some a:=⟨_,QC d0⟩;have⟨b0,o0,ea,la⟩:=QX c2 ha;refine Lp.intro (γ:=Nat) (λk=>i-k) (λk vs m' lo=>∃z,vs=[z,.int .i64 k]/\k<=i/\mm=m'/\m.n<=lo) 0 ⟨_,rfl,Vw _,rfl,H⟩ ?_;rintro k _ _ lo ⟨z,rfl,hk,rfl,H⟩;rw[av,av,aK,Y,ag];refine af (λv2=>?_) (λu6=>?_);have v2:k < i:=J;obtain⟨c,hc⟩:∃c,A[k]?=some c:=⟨_,wo⟩;have⟨b1,o1,ec,lc⟩:=QX c2 hc;rw[ea,Y,bR,Y,la,Y,ec,Y,bR,Y,lc,Y,aJ,Y,ag,C8 (l5 v2 ha hc),aT,aO,Y,wrap64];exact⟨k+1,Z,z,J,Z,rfl,H⟩;rw[aO,Y,wrap64];exact⟨i+1,Z,z,J,Z,rfl,H⟩
 rw[an,cC,Y,ag,CX,aT];refine Lp.intro (γ:=Nat) (λi=>y.rc.length-i) (λi vs m' lo=>∃z,vs=[z,.int .i64 i]/\i<=y.rc.length/\Ext m1 m'/\m.n<=lo) 0 ⟨_,rfl,Vw _,l0,H⟩ ?_;rintro j _ n4 lo ⟨z,rfl,hj,j0,H⟩;have O2:=d2.ak j0;obtain⟨-, -,u2, -, -⟩:=eU (j0.cells g1);have f7:=j0.n;rw[av,av,u2,Y,O2.len lv,an,aK,Y,ag];refine af (λd0=>?_) (λL2=>?_)
 ·have d0:j < y.rc.length:=J;obtain⟨x,hx⟩:∃x,y.rc[j]?=some x:=⟨_,QC d0⟩;have⟨p,e1,e2⟩:=EG O2 hx;have⟨⟨b1,b2⟩,b3,b4⟩:=hP.Am x (QP hx);rw[Y,e1,Y,e2,Y];refine ah λv6 o5 P2 r5=>?_;refine aj Bw P2 rfl rfl rfl λH1 u5 Q2 v5=>?_;have o4:H1.get n4.n=.cells x.c 103 none:=Q2;have K1:Ext n4 H1:=⟨Z,J⟩;have⟨f0,f1,fv⟩:=GB o4;have O0:=j0.trans K1;simp only[iA,jE,Y];refine xr (λvs m' F=>vs=[P6]/\H1=m'/\m.n<=F) (λQ hQ=>?_) ?_;rw[f0,Y];apply aw (kF hX _ _ _);rw[show dv x.un 0 99=true by unfold dv;simp;omega,bB,Y,ag];show lY false _ _;rw[aT,f1,Y];apply aw (kF hX _ _ _);rw[show dv x.side (-2) 7=true by unfold dv;simp;omega,bB,Y,ag];show lY false _ _;rw[aT,cC,Y,ag];refine af (λc=>?_) (λc=>hQ ⟨rfl,rfl,Z⟩);obtain⟨q,rfl⟩:∃q,j=q+1:=⟨j-1,J⟩;obtain⟨x',p0⟩:∃x',y.rc[q]?=some x':=⟨_,wo⟩;have T2:=O2.ak K1;have⟨p',q0,M2⟩:=EG T2 p0;obtain⟨-, -,w5, -, -⟩:=eU (O0.cells g1);have L1:og x' x:=(by have h1:=Nr.1 p0;have h2:=Nr.1 hx;have:=Vr.1 hP.BS q (q+1) h1.1 h2.1 Z;rwa[h1.2,h2.2]at this);rw[w5,Y,fa,Y,wrap64,show((q+1:Nat):Int)-1=(q:Int) by omega,q0,Y,M2,Y,fv,Y];apply aw (Ab hX _ _);rw[RO L1,bB,Y];exact hQ ⟨rfl,rfl,Z⟩;rintro _ _ F ⟨rfl,rfl,s0⟩;rw[av,ag,aT,aO,Y,wrap64];exact⟨j+1,Z,z,J,Z,O0,s0⟩
 refine Lp.intro (γ:=Nat) (λi=>y.mo.length-i) (λi vs m' lo=>∃z,vs=[z,.int .i64 i]/\i<=y.mo.length/\Ext m1 m'/\m.n<=lo) 0 ⟨_,rfl,Vw _,j0,H⟩ ?_;rintro j _ r4 lo ⟨z,rfl,hj,P0,H⟩;have U2:=g2.ak P0;obtain⟨-, -, -,u3, -⟩:=eU (P0.cells g1);have g7:=P0.n;rw[av,av,u3,Y,U2.len kj,an,aK,Y,ag];refine af (λd0=>?_) (λL2=>⟨rfl,H⟩);have d0:j < y.mo.length:=J;obtain⟨x,hx⟩:∃x,y.mo[j]?=some x:=⟨_,QC d0⟩;obtain⟨p,o,e1,e2, -, -⟩:=KM U2 hx;have⟨b1,b2,b3,b4,b5⟩:=hP.Jo x (QP hx);rw[Y,e1,Y,e2,Y];refine ah λw6 y5 c3 z5=>?_;refine aj Ki c3 rfl rfl rfl λQ0 A5 d3 B5=>?_;have u4:Q0.get r4.n=.cells x.c 60 none:=d3;have O1:Ext r4 Q0:=⟨Z,J⟩;obtain⟨f0,f1,f2, -⟩:=Jp u4;have a1:=P0.trans O1;obtain⟨-, -, -,O5, -⟩:=eU (a1.cells g1);simp only[eL,fA,th,Y];refine xr (λvs m' F=>vs=[P6]/\Q0=m'/\m.n<=F) (λQ hQ=>?_) ?_
 ·rw[f0,Y];apply aw (kF hX _ _ _);rw[show dv x.a 0 99=true by unfold dv;simp;omega,bB,Y,ag];show lY false _ _;rw[aT,f1,Y];apply aw (kF hX _ _ _);rw[show dv x.b 0 99=true by unfold dv;simp;omega,bB,Y,ag];show lY false _ _;rw[aT,f0,Y,f1,Y,cZ,Y,ag,CX,aT,f2,Y];apply aw (kF hX _ _ _);rw[show dv x.du 0 7=true by unfold dv;simp;omega,bB,Y];exact hQ ⟨rfl,rfl,Z⟩
 rintro _ _ h7 ⟨rfl,rfl,i2⟩;rw[av,ag,aT];refine xr (λvs m' F=>vs=[P6]/\Q0=m'/\m.n<=F) (λQ hQ=>?_) ?_
 ·rw[cC,Y,ag];refine af (λc=>?_) (λc=>hQ ⟨rfl,rfl,Z⟩);obtain⟨q,rfl⟩:∃q,j=q+1:=⟨j-1,J⟩;obtain⟨x',p0⟩:∃x',y.mo[q]?=some x':=⟨_,wo⟩;obtain⟨b',o',q0, -,w4,a6⟩:=KM (U2.ak O1) p0;have L1:nz x' x:=(by have h1:=Nr.1 p0;have h2:=Nr.1 hx;have:=Vr.1 hP.Es q (q+1) h1.1 h2.1 Z;rwa[h1.2,h2.2]at this);unfold nz at L1;rw[f0,Y,O5,Y,fa,Y,wrap64,show((q+1:Nat):Int)-1=(q:Int) by omega,q0,Y,eL,Y,w4,Y,aK,Y,ag,CX,aT];rw[Y,Y,Y,q0,Y,eL,Y,w4,Y,aJ,Y,ag];refine af (λc=>?_) (λc=>hQ ⟨rfl,rfl,Z⟩);have c:=Mv c;rw[f1,Y,Y,Y,q0,Y,fA,Y,a6,Y,cI,Y,CX];exact hQ ⟨rfl,rfl,Z⟩
 rintro _ _ F ⟨rfl,rfl,s0⟩;rw[av,ag,aT,aO,Y,wrap64];exact⟨j+1,Z,z,J,Z,a1,s0⟩
end
section
set_option maxRecDepth 100000
set_option maxHeartbeats 0
variable{W:Words}{x0 x1:O}{m:M}{R:ν->M->Nat->Prop}
def F123:=cN (P:=fQ TE W f123 [x0,x1] m R)
def F122:=cN (P:=fQ TE W f122 [x0,x1] m R)
def F74:=cN (P:=fQ TE W f74 [x0,x1] m R)
def F27:=cN (P:=fQ TE W f27 [x0,x1] m R)
def F42:=cN (P:=fQ TE W f42 [x0,x1] m R)
def F44:=cN (P:=fQ TE W f44 [x0,x1] m R)
def F13:=cN (P:=fQ TE W f13 [x0,x1] m R)
def F7:=cN (P:=fQ TE W Tryz.f7 [x0,x1] m R)
end
section
variable {X:aF} {m:M}
structure AW where
 a:Ac
 w:O
abbrev AW.c(x:AW):ν:=x.a.c x.w
abbrev AW.v(x:AW):O:=x.a.v x.w
def Ac.dp{a:Ac}(h:one w):(a.c w).all one:=by show(true && (true && (true && (true && (one w && true)))))=true;rw[h];rfl
instance:aL AW where
 ty:=87
 sz:=15
 agg:=true
 dN:=[]
 rep _ x cs:=cs=x.c/\one x.w=true
 pos:=ce
 one:=J
 len:=dg
 iy:=by rintro _ x _ ⟨rfl,h⟩;exact Ac.dp h
 aX:=J
def Fi:qs TE 78 87 AW:=⟨ai.t78,ai.t87,bv,⟨_,rfl⟩,rfl,bv,rfl,rfl⟩
def Gr:vp TE 78 AW:=⟨ai.t78,ai.t87,bv,rfl,rfl,bv,ce,rfl⟩
def WK{l:List AW}{v:O}(h:Sl m l v){i:Nat}{x:AW}(F:l[i]?=some x):∃p,aD TE 78 v (I i)=some p/\aC TE m 87 p=some x.v:=by have⟨p,cs,H,e2,e3⟩:=h.index Fi (k:=.i64) F;obtain⟨rfl, -⟩:cs=x.c/\_:=e3;exact⟨p,H,e2⟩
structure wk(m:M)(l:List AW)(v:O):Prop where
 sl:Sl m l v
 sh:∀x∈l,Sl m x.a.un.shape x.w
 ln:∀x∈l,x.a.un.shape.length < 1000000
 kd:∀x∈l,x.a.kind≠3/\x.a.kind≠4
def wk.aX{l:List AW}{v:O}(h:wk m l v)(hk:∀c cs t g,m.get c=.cells cs t g->(t=87\/t=46)->m'.get c=.cells cs t g):wk m' l v:=
 ⟨h.sl.aX λc cs t g F H=>hk c cs t g F (.inl (by simpa[aL.ty,aL.dN]using H)),λx hx=>(h.sh x hx).aX λc cs t g F H=>hk c cs t g F (.inr (by simpa[aL.ty,aL.dN]using H)),h.ln,h.kd⟩
def wk.ak{l:List AW}{v:O}(h:wk m l v)(F:Ext m m'):wk m' l v:=h.aX λ_ _ _ _ H _=>F.cells H
theorem yL{us:List Un}{ms:List Mk}{a:Ac}:∀{l:List Ac},eX us ms (l++ [a])=(eX us ms l).bind λp=>uK p.1 p.2 a
 |[]=>by simp only[List.nil_append,eX];grind
 |b::r=>by rw[Nw,eX,eX];cases uK us ms b with|none=>rfl|some p=>exact yL
theorem yM{us:List Un}{ms:List Mk}{q:List Ac}:∀{l:List Ac},eX us ms l=none->eX us ms (l++q)=none
 |[],h=>by cases h
 |b::r,h=>by rw[Nw,eX];rw[eX]at h;cases e:uK us ms b with|none=>rfl|some p=>rw[e]at h;exact yM h
def gW.ep(h:gW vs F m' (.agg #[r,r2]))(H:D.ep (.agg #[r,r2]))(m:M):gW vs F m (.agg #[r,r2]):=
 gW.flat (t:=VT) h (by show(D.ep (.agg #[r,r2]) && (true && true))=true;rw[H];rfl) m
def rz(D:Option (List Un×List Mk))(m':M)(F:O):Prop:=match D with
 |some (H,ns)=>∃r r2 n,F=.tuple #[.agg #[r,r2],.int .i64 n,.int .i64 0]/\gW H ns m' (.agg #[r,r2])
 |none=>∃n,F=.tuple #[.agg #[.slice none 0 0,.slice none 0 0],.int .i64 n,.int .i64 170]
def rz.flat{D:Option (List Un×List Mk)}{v t u:O}(h:rz D m' (.tuple #[v,t,u]))(H:aZ (.tuple #[v,t,u]))(m:M):rz D m (.tuple #[v,t,u]):=by unfold rz at h⊢;split at h;have⟨r,r2,n,e,hs⟩:=h;cases e;have F:(D.ep (.agg #[r,r2]) && (true && (true && true))):=H;rw[G4]at F;exact⟨r,r2,n,rfl,hs.ep F.1 m⟩;exact h
def Ks{D:Option (List Un×List Mk)}{v t u:O}{lo:Nat}{Q:Prop}(H:Q)(h:rz D m' (.tuple #[v,t,u]))(F:m.n<=lo)(hx:Ext m m'):
  (aZ (aP [v,t,u])/\m.n<=lo/\(Q/\Ext m m/\rz D m (aP [v,t,u])))\/((aZ (aP [v,t,u])=false\/lo<m.n)/\(min m.n lo=m.n/\Ext m m'/\rz D m' (aP [v,t,u]))):=by cases hf:aZ (aP [v,t,u]);exact .inr ⟨.inl rfl,Z,hx,h⟩;exact .inl ⟨rfl,F,H,.refl,h.flat hf m⟩
set_option maxHeartbeats 1000000 in
theorem P5(hX:cp X){l:List UW}{ms:List Mk}{v vm va:O}{F:List AW}(hF:cD m l v)(hP:cq (bH l))(hm:Sl m ms vm)(hM:gh (bH l) ms)(ha:wk m F va)(B2:F.length<=40):
  ∃rv m',xw X 123 [.agg #[v,vm],va] m rv m'/\Ext m m'/\rz (eX (bH l) ms (F.map AW.a)) m' rv:=by
 have k2:l.length<=12:=(by have:=hP.len;rwa[cx]at this);have G2:=hM.len;apply Cl.Iz hX (U5 func123);rw[F123];dsimp only[aH];refine ah λm1 L2 w1 M2=>?_;refine ah λm2 O2 y1 A1=>?_;have i0:Ext m m2:=⟨Z,J⟩;have g1:m2.get m.n=.cells [v,vm] 32 none:=(by rw[A1 _ Z];exact w1);have gz:m2.get m1.n=.cells [Z9,Z9] 32 none:=y1;unfold ptrTo;rw[(kb g1).2.2.2,Y];apply aw (nR hX (hF.ak i0) Z (hm.ak i0) Z);rw[fg hP,ig.2 hM,bB,Y,ag];show lY false _ _;rw[aT,(kb g1).2.2.2,Y];obtain⟨acc,q,q2,m14,B1,B0,G1,f14,O0⟩:=EL hX (hF.ak i0) Z (hm.ak i0) Z;apply aw B1;have P2:=B0.n;refine ah λm16 l2 P0 o2=>?_;refine aj eF P0 rfl rfl (by show(one q && (one q2 && true))=true;rw[f14.sl.one,O0.one];rfl) λm17 u2 H v2=>?_;have H:m17.get m14.n=.cells [q,q2] 32 none:=H;obtain⟨S,hS⟩:∃S,S=m14.n:=⟨_,rfl⟩;rw[<-hS]at H⊢;have l0:Ext m14 m17:=⟨Z,J⟩;have Q2:m2.n<=S:=Z;have Q0:m.n<=min (min (min m.n m2.n) m2.n) m14.n:=Z;generalize min (min (min m.n m2.n) m2.n) m14.n=T2 at Q0;have a1:gW (bH l) ms m17 (.agg #[q,q2]):=⟨acc,q,q2,rfl,G1,f14.ak l0,O0.ak l0⟩;have H1:∀c,c < S->m17.get c=m14.get c:=λc hc=>l0.get c Z;refine Lp.intro (γ:=Nat) (λi=>F.length-i) (λi vs mm lo=>∃z1 z2 r r2 ws ns,vs=[z1,z2,.int .i64 i]/\i<=F.length/\(∀c,c < S->mm.get c=m14.get c)/\S < mm.n/\m.n<=lo/\mm.get S=.cells [r,r2] 32 none/\gW ws ns mm (.agg #[r,r2])/\eX (bH l) ms ((F.take i).map AW.a)=some (ws,ns)) 0 ⟨_,_,q,q2,_,_,rfl,Vw _,H1,Z,Z,H,a1,rfl⟩ ?_;rintro i vs mm lo ⟨z1,z2,r,r2,ws,ns,rfl,hi,hk,U2,Q0,gS,Ui,b0⟩;have⟨K1,L1⟩:=Fo hP hM b0;have y0:Ext m2 mm:=⟨Z,λc hc=>by rw[hk c Z,B0.get c hc]⟩;have j0:=(ha.ak i0).ak y0;have b1:=y0.cells gz
 have bad:∀{A0:M} {n0:Nat} {n:Int} {Q:Prop},Q->A0.get m1.n=.cells [Z9,Z9] 32 none->m.n<=n0->eX (bH l) ms (F.map AW.a)=none->
   aS (bz TE 32 []) λv=>dh (bh TE A0 32 (.pointer (some ⟨m1.n,0,none⟩)) v) λm' b=>aS (aC TE m' 32 (.pointer (some ⟨m1.n,0,none⟩))) λv'=>
    (aZ (aP [v',.int .i64 n,.int .i64 170])=true/\m.n<=min n0 b/\(Q/\Ext m m/\rz (eX (bH l) ms (F.map AW.a)) m (aP [v',.int .i64 n,.int .i64 170])))\/((aZ (aP [v',.int .i64 n,.int .i64 170])=false\/min n0 b < m.n)/\(min m.n (min n0 b)=m.n/\Ext m m'/\rz (eX (bH l) ms (F.map AW.a)) m' (aP [v',.int .i64 n,.int .i64 170]))):=by
  intro A0 n0 n Q hQ g w2 e
  rw[jZ,Y]
  refine aj eF g rfl rfl rfl λm' b3 O1 c3=>?_
  rw[(kb O1).2.2.2,Y]
  exact .inl ⟨rfl,Z,hQ,.refl,by unfold rz;rw[e];exact⟨n,rfl⟩⟩
 rw[av,av,av,j0.sl.len Fi,an,aK,Y,ag];refine af (λc1=>?_) (λQ1=>?_)
 ·have c1:i < F.length:=J;obtain⟨x,hx⟩:∃x,F[i]?=some x:=⟨_,QC c1⟩;have d0:=QP hx;have⟨p,e1,e2⟩:=WK j0.sl hx;have T1:(F.take (i+1)).map AW.a=(F.take i).map AW.a++ [x.a]:=(by rw[Z8,hx,MN];rfl);have q0:eX (bH l) ms ((F.take (i+1)).map AW.a)=uK ws ns x.a:=(by rw[T1,yL,b0];rfl);have d1:F.map AW.a=(F.take (i+1)).map AW.a++(F.drop (i+1)).map AW.a:=(by rw[<-MN,Jy]);rw[cZ,Y,ag,CX,aT,(kb gS).2.2.2,Y,e1,Y,e2,Y];have⟨i1,r',d3,er,eu,ef,es⟩:=Ui;cases er;have e3:i1.length<=12:=(by have:=K1.len;rwa[<-eu,cx]at this);have g3:=L1.len;obtain⟨rv,a2,b2,r0,k0⟩:=abQ (m:=mm) (a:=x.a) hX ef Z es Z (j0.sh x d0) (j0.ln x d0) (j0.kd x d0).1 (j0.kd x d0).2;refine aw b2 ⟨R8 _,?_⟩;have h3:=r0.n;rw[eu]at k0;unfold rK at k0;cases j1:uK ws ns x.a with|none=>rw[j1]at k0 q0;subst k0;rw[aE,aE];simp only[XW,Q7,Y];refine ah λc2 k1 o0 e0=>?_;refine aj eF o0 rfl rfl rfl λs0 l1 g0 h0=>?_;rw[bZ,Y,ag,C8 (show¬(170:Int)=0 by decide),ME,bN];refine bad J ?_ Z (by rw[d1];exact yM q0);rw[h0 _ Z,e0 _ Z,r0.get _ Z];exact b1|some d=>have⟨d2,g2⟩:=d;rw[j1]at k0 q0;obtain⟨t1,t2,rfl,st⟩:=k0;have o1:one t1=true/\one t2=true:=(by have⟨_,_,_,e,_,h1,h2⟩:=st;cases e;exact⟨h1.sl.one,h2.one⟩);rw[aE,aE];simp only[XW,Q7,Y];refine ah λc2 k1 o0 e0=>?_;refine aj eF o0 rfl rfl (by show(one t1 && (one t2 && true))=true;rw[o1.1,o1.2];rfl) λs0 l1 g0 h0=>?_;have g0:s0.get a2.n=.cells [t1,t2] 32 none:=g0;rw[bZ,Y,ag,RO (show(0:Int)=0 from rfl),No,aT,(kb g0).2.2.2,Y];have p1:s0.get S=.cells [r,r2] 32 none:=(by rw[h0 _ Z,e0 _ Z,r0.get _ Z];exact gS);refine aj eF p1 rfl rfl J λi3 y2 r1 u0=>?_;rw[aO,Y,wrap64];refine⟨i+1,Z,z1,z2,t1,t2,d2,g2,J,Z,λc hc=>by rw[u0 c Z,h0 c Z,e0 c Z,r0.get c Z,hk c hc],Z,Z,r1,?_,q0⟩;refine st.aX λc cs t g hc ht=>?_;have j3:=M.aM hc;have i2:s0.get c=.cells cs t g:=J;rw[u0 c (λe=>J),i2]
 have j2:i=F.length:=(by have:¬(i:Int)< (F.length:Int):=Z0 Q1;omega);subst j2;rw[W8]at b0;rw[(kb gS).2.2.2,Y,an];have o1:one r=true/\one r2=true:=(by have⟨_,_,_,e,_,h1,h2⟩:=Ui;cases e;exact⟨h1.sl.one,h2.one⟩);refine aj eF b1 rfl rfl (by show(one r && (one r2 && true))=true;rw[o1.1,o1.2];rfl) λu1 A2 p0 v1=>?_;have p0:u1.get m1.n=.cells [r,r2] 32 none:=p0;rw[(kb p0).2.2.2,Y];refine Ks (m':=u1) J ?_ Z ⟨Z,λc hc=>by rw[v1 c Z,y0.get c Z,i0.get c hc]⟩;unfold rz;rw[b0];exact⟨r,r2,_,rfl,Ui.aX λc cs t g hc ht=>J⟩
def AI(u v:Un):Bool:=(fH u v).isSome
def oD(D:Option (List Ac))(m':M)(F:O):Prop:=match D with
 |some L=>∃H v,F=.tuple #[v,.bool true]/\H.map AW.a=L/\wk m' H v
 |none=>∃v,F=.tuple #[v,.bool false]
def wk.nil{m:M}:wk m [] Z9:=⟨.nil,λx F=>(by cases F),λx F=>(by cases F),λx F=>(by cases F)⟩
def oD.flat{D:Option (List Ac)}{v t:O}(h:oD D m' (.tuple #[v,t]))(H:aZ (.tuple #[v,t]))(m:M):oD D m (.tuple #[v,t]):=by unfold oD at h⊢;split at h;have⟨al,v',e,e1,hs⟩:=h;(cases e;have h1:=hs.sl;obtain⟨a,c,rfl⟩:=h1.form;cases a with|some a=>exact absurd (show(false && (true && true))=true from H) ce|none=>have hv:Go.D.bL (.slice none al.length c):=(by have b0:(Go.D.bL (.slice none al.length c) && (true && true)):=H;grind);have⟨e2,e3⟩:=nQ h1 hv m;subst e2;exact⟨[],_,rfl,e1,⟨e3,λx F=>(by cases F),λx F=>(by cases F),λx F=>(by cases F)⟩⟩);exact h
def Cg{x:AW}:aQ TE m 78 1 [(0,x.v)]=some (.slice (some ⟨m.n,0,none⟩) 1 1,m.push (.cells x.c 87 none)):=bv
def PB{x y:AW}:aQ TE m 78 2 [(0,x.v),(1,y.v)]=some (.slice (some ⟨m.n,0,none⟩) 2 2,m.push (.cells (x.c++y.c) 87 none)):=bv
def PX{x y:AW}{b:Nat}(h:m.get b=.cells (x.c++y.c) 87 g)(F:one x.w)(H:one y.w):Sl m [x,y] (Hr b 0 2 2):=
 .inr ⟨b,0,2,_,g,rfl,h,R8 _,λi z hi=>by match i with|0=>cases hi;exact⟨rfl,F⟩|1=>cases hi;exact⟨rfl,H⟩|i+2=>simp at hi⟩
def pz{x:AW}{P:O->M->Prop}(h1:one x.w)(hs:Sl m x.a.un.shape x.w)(hl:x.a.un.shape.length<1000000)(hk:x.a.kind≠3/\x.a.kind≠4)
  (hP:∀m1,Ext m m1->m1.n=m.n+1->m1.get m.n=.cells x.c 87 none->wk m1 [x] (Hr m.n 0 1 1)->P (Hr m.n 0 1 1) m1):
  dh (aQ TE m 78 1 [(0,x.v)]) P:=by rw[Cg,an];have F:Ext m (m.push (.cells x.c 87 none)):=Ext.refl.push;have H:(m.push (.cells x.c 87 none)).get m.n=.cells x.c 87 none:=M.aU;exact hP _ F M.jr H ⟨lz H ⟨rfl,h1⟩,λy hy=>by rw[RV.1 hy];exact hs.ak F,J,J⟩
def pF{k id:Int}:bz TE 87 [(0,I k),(2,I id)]=some (AW.v ⟨jv k id,Z9⟩):=Gk rfl rfl
def zr{u:Un}:bz TE 87 [(0,I 1),(1,u.v w)]=some (AW.v ⟨eE u,w⟩):=Gl rfl rfl
def S8:bz TE 87 [(0,I 5),(5,x.v)]=some (AW.v ⟨iK x,Z9⟩):=ab2 rfl rfl
def Gm:bz TE 103 [(0,I a),(1,I b)]=some (Fc.v ⟨a,b⟩):=aa0 rfl rfl
theorem xT{α:Type}{p:α->Bool}:∀{l:List α} {i:Nat} {x:α},l[i]?=some x->p x->(∀j y,j<i->l[j]?=some y->p y=false)->l.find? p=some x
 |[],i,x,h,_,_=>J
 |a::l,0,x,h,F,_=>J
 |a::l,i+1,x,h,F,H=>by rw[List.find?_cons,H 0 a Z rfl];exact xT (by simpa using h) F λj y hj hy=>H (j+1) y Z J
structure V7(us:List Un)(id:Int)(m':M)(u:Un)(w:O)(b:Bool):Prop where
 sl:Sl m' u.shape w
 ln:u.shape.length < 1000000
 eq:cz us id=if b=true then some u else none
 z:b=false->u=.z
def iQ.XZ{id:Int}{F:O}(h:iQ us id m' F)(H:cq us):∃u w b,F=.tuple #[u.v w,.bool b]/\V7 us id m' u w b:=by unfold iQ at h;cases e:cz us id with|none=>rw[e]at h;exact⟨.z,Z9,false,h,.nil,ce,J,λ_=>rfl⟩|some u=>rw[e]at h;have⟨w,h1,h2⟩:=h;have:=lQ (H.val u (eT e).1);exact⟨u,w,true,h1,h2,Z,J,λh=>by cases h⟩
def V7.ak{id:Int}{u:Un}{b:Bool}(h:V7 us id m' u w b)(F:Ext m' m''):V7 us id m'' u w b:=⟨h.sl.ak F,h.ln,h.eq,h.z⟩
def HJ{u:Un}:(eE u).kind≠3/\(eE u).kind≠4:=⟨(by decide:(1:Int)≠3),(by decide:(1:Int)≠4)⟩
def kd_m:(iK x).kind≠3/\(iK x).kind≠4:=⟨(by decide:(5:Int)≠3),(by decide:(5:Int)≠4)⟩
def DG{k id:Int}(h:k≠3/\k≠4):(jv k id).kind≠3/\(jv k id).kind≠4:=h
def As:([]:List Pl).length<1000000:=ce
def QW{b:Nat}(h:m.get b=.cells x.c 68 g):aC TE m 4 (Ω b (0+4))=some (.bool x.DB):=by rw[sQ,aG h];rfl
set_option maxHeartbeats 4000000 in
theorem aef(hX:cp X){y:Yd}{r r2 st rc mo:O}{t:Tk}{w:O}(hV:rR m y r r2 st rc mo)(hP:mS y)(hw:Sl m t.un.shape w)(w7:t.un.shape.length < 100000)(y7:1<=t.kind/\t.kind<=9):
  ∃rv m',xw X 122 [yv r r2 st rc mo,t.v w] m rv m'/\Ext m m'/\oD (fO AI cg bU y t) m' rv:=by
 apply Cl.Iz hX (U5 func122);have j4:=hV.iy;have⟨⟨l,r0,hF⟩,y1,⟨kl,g3,hK⟩,l4,i5⟩:=hV;have m4:cq (bH l):=(by rw[r0];exact hP.xU);have d7:l.length<=12:=(by have:=hP.xU.len;rwa[<-r0,cx]at this);have e7:kl.length<=12:=(by have:=hP.PH;rwa[<-g3,kE]at this);have f7:=hP.Xn;have g7:=hP.UE;have j5:=hP.Du.len
 have H:∀R:ν->M->Nat->Prop,(∀(v:O) (b:Bool) (m':M) (lo:Nat),m.n<=lo->Ext m m'->oD (fO AI cg bU y t) m' (.tuple #[v,.bool b])->R [v,.bool b] m' lo)->fQ TE (aH TE X) f122 [yv r r2 st rc mo,t.v w] m R:=(by intro R hR;rw[F122];dsimp only[aH];refine ah λm1 z7 n4 l5=>?_;refine ah λm2 A7 o4 r4=>?_;have u4:Ext m m2:=⟨Z,J⟩;have g1:m2.get m.n=.cells (yc r r2 st rc mo) 37 none:=(by rw[r4 _ Z];exact n4);have g2:m2.get m1.n=.cells (t.c w) 58 none:=o4;clear n4 l5 o4 r4;unfold ptrTo;simp only[dn,dF,fE,fD,bM,bI,bk,dE,dP,cU,cT,dD,cL,aW,Y];rw[(eU g1).1,Y,(kX g2).2.1,Y];obtain⟨rv,m8,c8,x8,f8⟩:=qh (m:=m2) hX (hF.ak u4) Z y1.one t.id;apply aw c8;obtain⟨u,wu,is,rfl,fu⟩:=f8.XZ m4;have n8:=x8.n;rw[aE,aE];simp only[XW,Q7,Y];refine ah λm12 h7 L2 i3=>?_;refine aj dO L2 rfl rfl (Un.dp fu.sl.one) λm13 i7 M2 w4=>?_;have gu:m13.get m8.n=.cells (u.c wu) 43 none:=M2;have A1:Ext m8 m13:=⟨Z,J⟩;have A0:=x8.trans A1;have F:=u4.trans A0;have g1:=A0.cells g1;have g2:=A0.cells g2;have fu:=fu.ak A1;have a8:=A1.n;clear L2 i3 M2 w4;have⟨tk,tid,Kl,m5,b8⟩:=kX g2;rw[r0]at fu;have j3:m.n<=min (min m.n m2.n) m8.n:=Z;generalize min (min m.n m2.n) m8.n=n5 at j3;obtain⟨D,hD⟩:∃D,D=fO AI cg bU y t:=⟨_,rfl⟩;rw[<-hD]at hR;unfold fO at hD;have o5:(cz y.us t.id).isSome=is:=(by rw[fu.eq];cases is <;>rfl);rw[tk,Y,aJ,Y,ag];refine af (λk1=>?_) (λk1=>?_);rw[UG (Mv k1)]at hD;rw[qA g2,Y,zr,Y];refine pz (x:=⟨eE t.un,w⟩) hw.one (hw.ak F) (by show t.un.shape.length < 1000000;omega) HJ λm22 j0 n22 _ a22=>?_;rw[(eU (j0.cells g1)).2.2.2.2,Y,(uO (j0.cells g2)).1,Y];refine aw (zG (y:=y) hX (hK.ak (F.trans j0)).sl Z j4 _) ⟨R8 _,?_⟩;rw[aK,Y,Lg];have e:(y.st.any λk=>decide (k.un.id=t.un.id))=kl.any λx=>decide (x.u.id=t.un.id):=(by rw[<-g3];unfold vP;rw[Q3];rfl);rw[e]at hD;apply hR _ _ _ _ Z (F.trans j0);cases hc:kl.any λx=>decide (x.u.id=t.un.id);rw[ND J]at hD;rw[hD];exact⟨_,_,rfl,rfl,a22⟩;rw[UG hc]at hD;rw[hD];exact⟨_,rfl⟩;rw[ND (Z0 k1)]at hD;rw[aJ,Y,ag];refine af (λk2=>?_) (λk2=>?_);rw[UG (Mv k2),o5]at hD;refine aY (λvs mm lo=>∃v b,vs=[v,.bool b]/\m.n<=lo/\Ext m mm/\oD D mm (.tuple #[v,.bool b])) (λQ hQ=>?_) ?_;rw[tid,Y,pF,Y];refine pz (x:=⟨jv 2 t.id,Z9⟩) rfl .nil As (DG ce) λm22 j0 n22 _ a22=>?_;rw[ag];refine af (λc=>?_) (λc=>hQ _ _ _ ⟨_,_,rfl,Z,F.trans j0,by rw[ND J]at hD;rw[hD];exact⟨_,rfl⟩⟩);rw[(eU (j0.cells g1)).2.1,Y,(hK.ak (F.trans j0)).sl.len eR,an,aK,Y];refine hQ _ _ _ ⟨_,_,rfl,Z,F.trans j0,?_⟩;rw[c,DO]at hD;have e:y.st.length=kl.length:=J;by_cases k0:kl.length < 12;rw[UG J]at hD;rw[hD,RO (show(kl.length:Int)< 12 by omega)];exact⟨_,_,rfl,rfl,a22⟩;rw[ND J]at hD;rw[hD,C8 (show¬(kl.length:Int)< 12 by omega)];exact⟨_,rfl⟩;rintro _ mm lo ⟨v,b,rfl,h1,h2,h3⟩;rw[av,av];grind;rw[ND (Z0 k2)]at hD;rw[aJ,Y,ag];refine af (λk3=>?_) (λk3=>?_);rw[UG (Mv k3)]at hD;rw[(eU g1).2.2.2.2,Y,tid,Y];have s0:=hK.ak F;apply aw (zG (y:=y) hX s0.sl Z j4 _);have e0:∀p:KW->Bool,(∀x,p x=decide (x.u.id=t.id))->(y.st.find? λk=>decide (k.un.id=t.id))=(kl.find? p).map KW.k:=λp hp=>(by rw[<-g3];unfold vP;rw[List.find?_map];congr 2;funext x;exact(hp x).symm);rcases iG (λx:KW=>decide (x.u.id=t.id)) kl with⟨e1,e2⟩ |⟨i,x,e1,e2,e3,e4⟩;rw[e1,aK,Y,ag,RO ce,bN];have:kl.find? (λx:KW=>decide (x.u.id=t.id))=none:=Io.2 λx hx=>J;rw[e0 _ λ_=>rfl,this]at hD;exact hR _ _ _ _ Z F (by rw[hD];exact⟨_,rfl⟩);rw[e0 _ λ_=>rfl,xT e2 e3 e4]at hD;have hD:D=some (eE x.u::x.ms.map iK):=hD;have v1:=QP e2;rw[e1,aK,Y,ag,CX,aT,(eU g1).2.1,Y];have⟨b0,o0,bc,g0,cs,q1,q2,q3,q4,q5⟩:=s0.sl.iI eR (k:=.i64) e2;obtain⟨rfl,o1,o2⟩:cs=x.c/\one x.w=true/\one x.mv=true:=q3;have d8:=M.aM q2;rw[q1,Y,bW,Y];have q4:o0+7<=bc.length:=q4;have lu:aC TE m13 43 (.pointer (some ⟨b0,o0+0,none⟩))=some (x.u.v x.w):=(by rw[oO,aI (n:=6) q2 Z];have:(bc.drop (o0+0)).take 6=x.u.c x.w:=(by apply Xx;intro j;rw[Rz];split;rename_i hj;rw[Sa,OX,q5 j (by show j < 7;omega)];(match j,hj with|0,_=>rfl|1,_=>rfl|2,_=>rfl|3,_=>rfl|4,_=>rfl|5,_=>rfl|j+6,hj=>omega);rename_i hj;exact(JQ J).symm);rw[this];rfl);rw[lu,Y,zr,Y];refine pz (x:=⟨eE x.u,x.w⟩) o1 (s0.sh x v1) (s0.ln x v1) HJ λm64 r5 e8 u5 v5=>?_;have j7:x.ms.length<=20:=(by have hm:x.k∈y.st:=J;exact(hP.DF _ hm).len);refine Lp.intro (γ:=Nat) (λj=>x.ms.length-j) (λj vs mm lo=>∃v,vs=[v,.int .i64 j]/\j<=x.ms.length/\Ext m13 mm/\m.n<=lo/\Ap m13.n mm (⟨eE x.u,x.w⟩::(x.ms.take j).map λk=>(⟨iK k,Z9⟩:AW)) v) 0 ⟨_,rfl,Vw _,r5,Z,.inr ⟨_,_,_,rfl,u5,v5.sl⟩⟩ ?_;rintro j vs mm lo ⟨v,rfl,hj,d0,i0,l3⟩;have nm:=d0.n;have A2:=s0.ak d0;have lm:aC TE mm 30 (.pointer (some ⟨b0,o0+6,none⟩))=some x.mv:=(by rw[jC,aG (d0.cells q2)];exact q5 6 (by show 6 < 7;decide));rw[av,av,(eU (d0.cells g1)).2.1,Y,q1,Y,dC,Y,lm,Y,(A2.mv x v1).len cJ,an,aK,Y,ag];refine af (λk0=>?_) (λB0=>?_);have k0:j < x.ms.length:=J;obtain⟨z,hz⟩:∃z,x.ms[j]?=some z:=⟨_,QC k0⟩;have⟨p,p1,p2⟩:=(A2.mv x v1).qp (k:=.i64) hz;rw[Y,q1,Y,dC,Y,lm,Y,p1,Y,p2,Y,S8,Y,Cg,an];obtain⟨y4,B1⟩:∃q,q=mm.push (.cells (AW.c ⟨iK z,Z9⟩) 87 none):=⟨_,rfl⟩;rw[<-B1];have u1:Ext mm y4:=B1 ▸ Ext.refl.push;have A4:y4.get mm.n=.cells (AW.c ⟨iK z,Z9⟩) 87 none:=(by rw[B1];exact M.aU);obtain⟨v',g8,s1,s2,s3,s4,s5⟩:=(l3.ak u1).append Gr rfl (lz (x:=(⟨iK z,Z9⟩:AW)) A4 ⟨rfl,rfl⟩) co (by have:=u1.n;omega) J;rw[s1,an,aO,Y,wrap64];have:=u1.n;refine⟨j+1,Z,v',J,Z,⟨Z,λc hc=>by rw[s5 c hc,u1.get c Z,d0.get c hc]⟩,Z,.inl ?_⟩;rw[Z8,hz,MN];exact s2;have O0:j=x.ms.length:=(by have:¬(j:Int)< (x.ms.length:Int):=Z0 B0;omega);subst O0;rw[W8]at l3;apply hR _ _ _ _ i0 (F.trans d0);rw[hD];refine⟨_,_,rfl,dg,l3.sl,λa ha=>?_,λa ha=>?_,λa ha=>?_⟩;rcases VM.1 ha with rfl |ha;exact A2.sh x v1;obtain⟨k,_,rfl⟩:=Ja.1 ha;exact .nil;rcases VM.1 ha with rfl |ha;exact A2.ln x v1;obtain⟨k,_,rfl⟩:=Ja.1 ha;exact As;rcases VM.1 ha with rfl |ha;exact HJ;obtain⟨k,_,rfl⟩:=Ja.1 ha;exact kd_m;rw[ND (Z0 k3)]at hD;rw[aJ,Y,ag];refine af (λk4=>?_) (λk4=>?_);rw[UG (Mv k4),fu.eq]at hD;have B4:=hF.ak F;refine Lp.intro (γ:=Nat) (λj=>l.length-j) (λj vs mm lo=>∃z1 z2,vs=[z1,z2,.int .i64 j]/\j<=l.length/\Ext m13 mm/\m.n<=lo/\(is=true->((bH (l.take j)).all λv=> !AI u v ||cg t.du v.du)=true)) 0 ⟨_,_,rfl,Vw _,.refl,Z,λ_=>rfl⟩ ?_;rintro j vs mm lo ⟨z1,z2,rfl,hj,d0,i0,p0⟩;have nm:=d0.n;have B2:=B4.ak d0;rw[av,av,av,(uM (d0.cells g1)).2.1,Y,B2.sl.len cY,an,aK,Y,ag];refine af (λk0=>?_) (λB0=>?_);have k0:j < l.length:=J;obtain⟨x,hx⟩:∃x,l[j]?=some x:=⟨_,QC k0⟩;have m3:=QP hx;have⟨q,q1,q2,ow⟩:=B2.sl.gR (k:=.i64) hx;rw[Y,q1,Y,q2,Y];refine ah λl7 w5 n3 y5=>?_;refine aj dO n3 rfl rfl (Un.dp ow) λG1 z5 o3 A5=>?_;have O2:G1.get mm.n=.cells (x.u.c x.w) 43 none:=o3;have H1:Ext mm G1:=⟨Z,λc hc=>J⟩;have P0:=d0.trans H1;rw[bQ (P0.cells gu),Y,bQ O2,Y];apply aw (tX hX (fu.ak P0).sl ((B2.sh x m3).ak H1) fu.ln (B2.ln x m3));rw[aE,aE];simp only[XW,Q7,Y];refine ah λm7 B5 r3 O5=>?_;refine aj wB r3 (by rw[bd];exact fK _) (by rw[bd];exact fK _) (by rw[bd];exact oX _) λP2 a6 b6 d6=>?_;have K1:Ext G1 P2:=⟨Z,λc hc=>J⟩;have h0:=P0.trans K1;have e6:bH (l.take (j+1))=bH (l.take j)++ [x.u]:=(by unfold bH;rw[Z8,hx,MN];rfl);refine aY (λvs m' w1=>vs=[.bool (is && (AI u x.u && !cg t.du x.u.du))]/\P2=m'/\m.n<=w1) (λQ hQ=>?_) ?_;rw[ag];refine af (λc=>?_) (λc=>hQ _ _ _ ⟨J,rfl,Z⟩);rw[ag];refine af (λd=>?_) (λd=>hQ _ _ _ ⟨by unfold AI;rw[d,Ns,Vc],rfl,Z⟩);rw[(kX (h0.cells g2)).2.2.2.2,Y,ck,Y,(kS (K1.cells O2)).2.2.1,Y];apply aw (abV hX _ _);rw[bB,Y];exact hQ _ _ _ ⟨by unfold AI;rw[c,d];rfl,rfl,Z⟩;rintro _ _ iH ⟨rfl,rfl,q0⟩;rw[av,ag];refine af (λc=>?_) (λc=>?_);rw[G4,G4]at c;have⟨ci,ct,cs⟩:=c;rw[ci,UG rfl,RM,ND]at hD;exact hR _ _ _ _ q0 (F.trans h0) (by rw[hD];exact⟨_,rfl⟩);intro p0;rw[<-r0,SB]at p0;have:=p0 x.u (Ja.2 ⟨x,m3,rfl⟩);rw[ct]at this;rw[yC]at cs;rw[cs]at this;(cases this;rw[aO,Y,wrap64];refine⟨j+1,Z,z1,z2,J,Z,h0,q0,λhi=>?_⟩;rw[e6,JH,p0 hi,DO];rw[hi,DO]at c;simp only[V2,List.all_nil,UY];cases hr:AI u x.u;rfl;rw[hr,DO,HO]at c;rw[c];rfl;have O0:j=l.length:=(by have:¬(j:Int)< (l.length:Int):=Z0 B0;omega);subst O0;rw[W8,r0]at p0;rw[(kX (d0.cells g2)).2.2.2.2,Y,ck,Y];have O4:=d0.cells gu;refine bS yy O4 rfl (by show 0+2+1<=6;decide) rfl λu0 f6 u3 Q0=>?_;have R4:u0.get m8.n=.cells (Un.c {u with du:=t.du} wu) 43 none:=u3;have W4:m1.n≠m8.n:=J;have a5:=(fu.ak d0).sl;have G2:Sl u0 u.shape wu:=a5.aX λc cs t g hc ht=>(by rw[Q0 c (λe=>by subst e;rw[O4]at hc;cases hc;simp[aL.ty,aL.dN]at ht),hc]);rw[(kX ((Q0 _ W4).trans (d0.cells g2))).2.1,Y,pF,Y,bQ R4,Y,zr,Y,PB,an];obtain⟨Q2,d1⟩:∃q,q=u0.push (.cells (AW.c ⟨jv 2 t.id,Z9⟩++AW.c ⟨eE {u with du:=t.du},wu⟩) 87 none):=⟨_,rfl⟩;rw[<-d1];have i1:Ext u0 Q2:=d1 ▸ Ext.refl.push;have w3:Q2.get u0.n=.cells (AW.c ⟨jv 2 t.id,Z9⟩++AW.c ⟨eE {u with du:=t.du},wu⟩) 87 none:=(by rw[d1];exact M.aU);have n155:=i1.n;apply hR _ _ _ _ Z ⟨Z,λc hc=>by rw[i1.get c Z,Q0 c Z,d0.get c Z,F.get c hc]⟩;cases hi:is with|false=>rw[hi]at hD;rw[hD];exact⟨_,rfl⟩|true=>rw[hi,UG rfl,RM,UG (p0 hi)]at hD;rw[hD];refine⟨_,_,rfl,rfl,PX w3 rfl a5.one,λa ha=>?_,λa ha=>?_,λa ha=>?_⟩;rcases VM.1 ha with rfl |ha;exact .nil;rw[RV.1 ha];exact G2.ak i1;rcases VM.1 ha with rfl |ha;exact As;rw[RV.1 ha];exact fu.ln;rcases VM.1 ha with rfl |ha;exact DG ce;rw[RV.1 ha];exact HJ);rw[ND (Z0 k4)]at hD;rw[aJ,Y,ag];refine af (λk5=>?_) (λk5=>?_);rw[UG (Mv k5)]at hD;have b5:=y1.ak F;refine Lp.intro (γ:=Nat) (λj=>y.ms.length-j) (λj vs mm lo=>∃v,vs=[v,.int .i64 j]/\j<=y.ms.length/\Ext m13 mm/\m.n<=lo/\Ow m13.n mm (((y.ms.take j).filter (lL t)).map λx=>(⟨jv 6 x.id,Z9⟩:AW)) v) 0 ⟨_,rfl,Vw _,.refl,Z,Ow.nil⟩ ?_;rintro j vs mm lo ⟨v,rfl,hj,d0,i0,y3⟩;have nm:=d0.n;have d5:=b5.ak d0;rw[av,av,(uM (d0.cells g1)).2.2,Y,d5.len cJ,an,aK,Y,ag];refine af (λk0=>?_) (λB0=>?_);have k0:j < y.ms.length:=J;obtain⟨x,hx⟩:∃x,y.ms[j]?=some x:=⟨_,QC k0⟩;have⟨p,p1,p2⟩:=d5.qp (k:=.i64) hx;refine aY (λvs m' w1=>∃v',vs=[v']/\Ext m13 m'/\m.n<=w1/\Ow m13.n m' (((y.ms.take (j+1)).filter (lL t)).map λx=>(⟨jv 6 x.id,Z9⟩:AW)) v') (λQ hQ=>?_) ?_;rw[Y,p1,Y,p2,Y];refine ah λn7 g6 A3 h6=>?_;refine aj nL A3 rfl rfl rfl λL1 i6 B3 j6=>?_;have T2:L1.get mm.n=.cells x.c 68 none:=B3;have O1:Ext mm L1:=⟨Z,λc hc=>J⟩;have h0:=d0.trans O1;obtain⟨a0,a1,a2,a3, -⟩:=wm T2;have a4:=QW T2;obtain⟨-,b1, -,b3, -⟩:=kX (h0.cells g2);have U2:=y3.ak O1;refine aY (λvs m' w1=>vs=[.bool (lL t x)]/\L1=m'/\m.n<=w1) (λQ' j1=>?_) ?_;rw[cS,Y,a1,Y,b1,Y,aJ,Y,ag];unfold lL at j1;refine af (λc1=>?_) (λc1=>j1 _ _ _ ⟨J,rfl,Z⟩);rw[eK,Y,a2,Y,b3,Y,aJ,Y,ag];refine af (λc2=>?_) (λc2=>j1 _ _ _ ⟨J,rfl,Z⟩);rw[eJ,Y,a4,Y,ag];refine af (λc3=>?_) (λc3=>j1 _ _ _ ⟨J,rfl,Z⟩);rw[ja,Y,a3,Y,aJ,Y,ag];refine af (λc4=>j1 _ _ _ ⟨J,rfl,Z⟩) (λc4=>?_);rw[Y,a3,Y,aJ,Y,ag];refine af (λc5=>j1 _ _ _ ⟨J,rfl,Z⟩) (λc5=>?_);rw[Y,a3,Y,aJ,Y];exact j1 _ _ _ ⟨J,rfl,Z⟩;rintro _ _ iH ⟨rfl,rfl,q0⟩;rw[av,ag];refine af (λc=>?_) (λc=>?_);rw[bR,Y,a0,Y,pF,Y];have h8:((y.ms.take j).filter (lL t)).length<=j:=(by have:=X0 (lL t) (y.ms.take j);rw[ZO]at this;omega);refine jy (T:=78) (x:=(⟨jv 6 x.id,Z9⟩:AW)) Gr rfl U2 Z J Cg (λ_=>⟨rfl,rfl⟩) λr' o7 w2 n2 k2 i8 l2=>?_;refine hQ _ _ _ ⟨r',rfl,⟨Z,λc hc=>by rw[k2 c hc,h0.get c hc]⟩,Z,?_⟩;rw[Z8,hx,IT,MN];simp only[My,SV,c,R3,Gj,UM,T5];exact w2;refine hQ _ _ _ ⟨v,rfl,h0,q0,?_⟩;rw[Z8,hx,IT,MN];simp only[My,SV,c,Gj,T5,NC];simpa using U2;rintro _ m' w1 ⟨v',rfl,h1,h2,h3⟩;rw[av,aO,Y,wrap64];exact⟨j+1,Z,v',J,Z,h1,h2,h3⟩;have O0:j=y.ms.length:=(by have:¬(j:Int)< (y.ms.length:Int):=Z0 B0;omega);subst O0;rw[W8]at y3;obtain⟨-,b1, -,b3, -⟩:=kX (d0.cells g2);rw[(eU (d0.cells g1)).1,Y,b1,Y,b3,Y];apply aw (EI hX (hF.ak (F.trans d0)) Z y1.one _ _);rw[r0];apply hR _ _ _ _ Z (F.trans d0);cases hf:oj y.us t.id t.side;rw[ND J]at hD;rw[hD];exact⟨_,rfl⟩;rw[UG hf]at hD;rw[hD];refine⟨_,_,rfl,dg,y3.sl,λa ha=>?_,λa ha=>?_,λa ha=>?_⟩;obtain⟨k,_,rfl⟩:=Ja.1 ha;exact .nil;obtain⟨k,_,rfl⟩:=Ja.1 ha;exact As;obtain⟨k,_,rfl⟩:=Ja.1 ha;exact DG ce;rw[ND (Z0 k5)]at hD;rw[aJ,Y,ag];refine af (λk6=>?_) (λk6=>?_);rw[UG (Mv k6)]at hD;rw[tid,Y,pF,Y];refine pz (x:=⟨jv 7 t.id,Z9⟩) rfl .nil As (DG ce) λm22 j0 n22 _ a22=>?_;exact hR _ _ _ _ Z (F.trans j0) (by rw[hD];exact⟨_,_,rfl,rfl,a22⟩);rw[ND (Z0 k6)]at hD;rw[aJ,Y,ag];refine af (λk7=>?_) (λk7=>?_);rw[UG (Mv k7)]at hD;rw[tid,Y,pF,Y];refine pz (x:=⟨jv 6 t.id,Z9⟩) rfl .nil As (DG ce) λm22 j0 n22 _ a22=>?_;exact hR _ _ _ _ Z (F.trans j0) (by rw[hD];exact⟨_,_,rfl,rfl,a22⟩);rw[ND (Z0 k7)]at hD;rw[aJ,Y,ag];refine af (λk8=>?_) (λk8=>?_);rw[UG (Mv k8)]at hD;rw[tid,Y,m5,Y,Gm,Y];refine ah λp7 l6 G3 m6=>?_;refine aj Bw G3 rfl rfl rfl λQ1 n6 O3 o6=>?_;have e5:Q1.get m13.n=.cells (Fc.c ⟨t.id,t.side⟩) 103 none:=O3;have n0:Ext m13 Q1:=⟨Z,λc hc=>J⟩;have h0:=F.trans n0;obtain⟨-,b1, -,b3, -⟩:=kX (n0.cells g2);have r6:y.rc.length < 1000000:=Z;refine aY (λvs mm lo=>∃b,vs=[Z9,.bool b]/\Q1=mm/\m.n<=lo/\D=if b=true then some []else none) (λQ hQ=>?_) ?_;rw[(eU (n0.cells g1)).1,Y,b1,Y,b3,Y];apply aw (EI hX (hF.ak h0) Z y1.one _ _);rw[r0,ag];refine af (λc=>?_) (λc=>hQ _ _ _ ⟨false,rfl,rfl,Z,J⟩);rw[c,DO]at hD;rw[(eU (n0.cells g1)).2.2.1,Y,(l4.ak h0).len lv,an,aK,Y,ag];refine af (λd=>hQ _ _ _ ⟨true,rfl,rfl,Z,?_⟩) (λd=>?_);have d:=Mv d;rw[UG J]at hD;exact hD;have d:=Z0 d;rw[(eU (n0.cells g1)).2.2.2.2,Y,(GB e5).2.2,Y];apply aw (uS hX (l4.ak h0) r6 _);refine hQ _ _ _ ⟨_,rfl,rfl,Z,?_⟩;rw[C8 (show¬y.rc.length < 60 by omega),NG]at hD;exact hD;rintro _ _ lo ⟨b,rfl,rfl,f5,d4⟩;rw[av,av];apply hR _ _ _ _ f5 h0;rw[d4];cases b;exact⟨_,rfl⟩;exact⟨[],_,rfl,rfl,.nil⟩;rw[ND (Z0 k8),fu.eq]at hD;rw[(eU g1).1,Y,Kl,Y];obtain⟨j8,T1,g5,d3,f280⟩:=qh (m:=m13) hX (hF.ak F) Z y1.one t.other;apply aw g5;obtain⟨u2,w2,l8,rfl,d2⟩:=f280.XZ m4;rw[r0]at d2;have n280:=d3.n;rw[aE,aE];simp only[XW,Q7,Y];refine ah λr7 s6 f4 u6=>?_;refine aj dO f4 rfl rfl (Un.dp d2.sl.one) λy0 v6 g4 w6=>?_;have gv:y0.get T1.n=.cells (u2.c w2) 43 none:=g4;have i2:Ext T1 y0:=⟨Z,λc hc=>J⟩;have h0:=d3.trans i2;rw[bQ (h0.cells gu),Y,bQ gv,Y];apply aw (tX hX (fu.ak h0).sl (d2.ak i2).sl fu.ln d2.ln);rw[aE,aE];simp only[XW,Q7,Y];refine ah λs7 y6 h4 z6=>?_;refine aj wB h4 (by rw[bd];exact fK _) (by rw[bd];exact fK _) (by rw[bd];exact oX _) λj2 A6 B6 a7=>?_;have r1:Ext y0 j2:=⟨Z,λc hc=>J⟩;have v2:=h0.trans r1;have h5:=F.trans v2;have n295:=r1.n;have y2:=i5.ak h5;obtain⟨-,b1,b2, -,b4⟩:=kX (v2.cells g2);have u7:m.n<=min (min (min (min n5 m13.n) T1.n) y0.n) y0.n:=Z;refine Lp.intro (γ:=Nat) (λj=>y.mo.length-j) (λj vs mm lo=>vs=[.bool ((y.mo.take j).any λx=>decide (x.a=t.id) && decide (x.b=t.other)),.int .i64 j]/\j<=y.mo.length/\j2=mm/\m.n<=lo) 0 ⟨rfl,Vw _,rfl,Z⟩ ?_;rintro j vs mm lo ⟨rfl,hj,rfl,i0⟩;rw[av,av,(eU (v2.cells g1)).2.2.2.1,Y,y2.len kj,an,aK,Y,ag];refine af (λk0=>?_) (λB0=>?_);have k0:j < y.mo.length:=J;obtain⟨x,hx⟩:∃x,y.mo[j]?=some x:=⟨_,QC k0⟩;obtain⟨b,o,e1, -,l0,l1⟩:=KM y2 hx;have v7:((y.mo.take (j+1)).any λx=>decide (x.a=t.id) && decide (x.b=t.other))=(((y.mo.take j).any λx=>decide (x.a=t.id) && decide (x.b=t.other)) ||(decide (x.a=t.id) && decide (x.b=t.other))):=(by rw[Z8,hx,List.any_append];simp);have ej:((j+1:Nat):Int)=(j:Int)+1:=Z;rw[ag];refine af (λc=>?_) (λc=>?_);rw[aO,Y,wrap64];exact⟨j+1,Z,J,Z,rfl,i0⟩;rw[Y,e1,Y,eL,Y,l0,Y,b1,Y,aJ,Y,ag];refine af (λc1=>?_) (λc1=>?_);rw[Y,e1,Y,fA,Y,l1,Y,b2,Y,aJ,Y,aO,Y,wrap64];exact⟨j+1,Z,J,Z,rfl,i0⟩;rw[aO,Y,wrap64];exact⟨j+1,Z,J,Z,rfl,i0⟩;have O0:j=y.mo.length:=(by have:¬(j:Int)< (y.mo.length:Int):=Z0 B0;omega);subst O0;rw[W8];obtain⟨A,hA⟩:∃A,A=y.mo.any λx=>decide (x.a=t.id) && decide (x.b=t.other):=⟨_,rfl⟩;rw[<-hA]at hD⊢;have b7:=kS (v2.cells gu);have c7:=kS (r1.cells gv);refine aY (λvs mm lo=>∃b,vs=[Z9,.bool b]/\j2=mm/\m.n<=lo/\D=if b=true then some []else none) (λQ hQ=>?_) ?_;rw[ag];refine af (λc=>?_) (λc=>hQ _ _ _ ⟨false,rfl,rfl,i0,J⟩);rw[c,UG rfl,RM,d2.eq]at hD;rw[ag];refine af (λc2=>?_) (λc2=>hQ _ _ _ ⟨false,rfl,rfl,i0,J⟩);rw[c2,UG rfl,RM]at hD;rw[ag];unfold AI at hD;refine af (λc3=>?_) (λc3=>hQ _ _ _ ⟨false,rfl,rfl,i0,J⟩);rw[c3,DO]at hD;rw[b4,Y,ck,Y,b7.2.2.1,Y];apply aw (zI hX _ _);rw[ag];refine af (λc4=>?_) (λc4=>hQ _ _ _ ⟨false,rfl,rfl,Z,J⟩);rw[c4,DO]at hD;rw[b4,Y,ck,Y,c7.2.2.1,Y];apply aw (zI hX _ _);rw[ag];refine af (λc5=>?_) (λc5=>hQ _ _ _ ⟨false,rfl,rfl,Z,J⟩);rw[c5,DO]at hD;rw[(eU (v2.cells g1)).2.2.2.1,Y,y2.len kj,an,aK,Y,ag];refine af (λc6=>hQ _ _ _ ⟨true,rfl,rfl,Z,?_⟩) (λc6=>hQ _ _ _ ⟨A,rfl,rfl,Z,?_⟩);have c6:=Mv c6;rw[UG J]at hD;exact hD;have c6:=Z0 c6;rw[C8 (show¬y.mo.length < 20 by omega),NG]at hD;exact hD;rintro _ _ iH ⟨b,rfl,rfl,q0,d4⟩;rw[av,av];apply hR _ _ _ _ q0 h5;rw[d4];cases b;exact⟨_,rfl⟩;exact⟨[],_,rfl,rfl,.nil⟩)
 refine H _ λv b m' lo j3 hx hs=>?_;show(aZ (.tuple #[v,.bool b])=true/\m.n<=lo/\(m.n=m.n/\Ext m m/\oD _ m (.tuple #[v,.bool b])))\/((aZ (.tuple #[v,.bool b])=false\/lo < m.n)/\(min m.n lo=m.n/\Ext m m'/\oD _ m' (.tuple #[v,.bool b])));cases hf:aZ (.tuple #[v,.bool b]);exact .inr ⟨.inl rfl,Z,hx,hs⟩;exact .inl ⟨rfl,j3,rfl,.refl,hs.flat hf m⟩
def It{fj:Un->Un->Bool}{suits softer:Int->Int->Bool}{y:Yd}{t:Tk}{L:List Ac}(F:mS y)(h:fO fj suits softer y t=some L):L.length<=40:=by have H:=F.Du.len;unfold fO at h;split at h;grind;split at h;grind;split at h;obtain⟨k,hk,rfl⟩:=R7.1 h;have:=(F.DF k (Se hk)).len;grind;split at h;have⟨u,hu,h⟩:=W9.1 h;grind;split at h;grind;split at h;grind;split at h;grind;split at h;grind;have⟨u,hu,h⟩:=W9.1 h;have⟨v,hv,h⟩:=W9.1 h;grind
def eG(fj:Un->Un->Bool)(suits softer:Int->Int->Bool)(y:Yd)(t:Tk):Option (List Un×List Mk):=if eB t=true then(fO fj suits softer y t).bind λl=>eX y.us y.ms l else none
def AA(D:Option (List Un×List Mk))(m':M)(F:O):Prop:=match D with
 |some (H,ns)=>∃v r r2,F=.tuple #[v,.agg #[r,r2],.bool true]/\gW H ns m' (.agg #[r,r2])
 |none=>∃v r r2,F=.tuple #[v,.agg #[r,r2],.bool false]/\one r=true/\one r2=true
def AA.flat{D:Option (List Un×List Mk)}{v t u:O}(h:AA D m' (.tuple #[v,t,u]))(H:aZ (.tuple #[v,t,u]))(m:M):AA D m (.tuple #[v,t,u]):=by unfold AA at h⊢;split at h;have⟨v',r,r2,e,hs⟩:=h;cases e;have F:(D.ep v && (D.ep (.agg #[r,r2]) && (true && true))):=H;rw[G4,G4]at F;exact⟨v,r,r2,rfl,hs.ep F.2.1 m⟩;exact h
set_option maxHeartbeats 1000000 in
theorem J9(hX:cp X){y:Yd}{r r2 st rc mo:O}{t:Tk}{w:O}(hV:rR m y r r2 st rc mo)(hP:mS y)(hw:Sl m t.un.shape w)(r0:t.un.shape.length < 100000):
  ∃rv m',xw X 74 [yv r r2 st rc mo,t.v w] m rv m'/\Ext m m'/\AA (eG AI cg bU y t) m' rv:=by
 apply Cl.Iz hX (U5 func74)
 have H:∀R:ν->M->Nat->Prop,(∀(v t' u:O) (m':M) (lo:Nat),m.n<=lo->Ext m m'->AA (eG AI cg bU y t) m' (.tuple #[v,t',u])->R [v,t',u] m' lo)->fQ TE (aH TE X) f74 [yv r r2 st rc mo,t.v w] m R:=by
  intro R hR
  rw[F74];dsimp only[aH]
  refine ah λm1 L1 s0 c1=>?_
  refine ah λm2 O1 u0 y0=>?_
  refine ah λm3 Q1 A0 n0=>?_
  have e0:Ext m m3:=⟨Z,J⟩
  have g1:m3.get m.n=.cells (yc r r2 st rc mo) 37 none:=by rw[n0 _ Z,y0 _ Z];exact s0
  have g2:m3.get m1.n=.cells (t.c w) 58 none:=by rw[n0 _ Z];exact u0
  have gz:m3.get m2.n=.cells [Z9,Z9] 32 none:=A0
  clear s0 c1 u0 y0 A0 n0
  unfold ptrTo
  have o0:=hV.ak e0
  have B0:=hw.ak e0
  have bad:∀{mm:M} {lo:Nat} {v:O},mm.get m2.n=.cells [Z9,Z9] 32 none->m.n<=lo->(∀c,c < m.n->mm.get c=m.get c)->m.n<=mm.n->eG AI cg bU y t=none->
    aS (bz TE 32 []) λv20=>dh (bh TE mm 32 (.pointer (some ⟨m2.n,0,none⟩)) v20) λm21 d1=>aS (aC TE m21 32 (.pointer (some ⟨m2.n,0,none⟩))) λe1=>R [v,e1,P6] m21 (min lo d1):=by
   intro mm lo v g j0 hk hn e
   rw[jZ,Y]
   refine aj eF g rfl rfl rfl λm' T1 i1 a2=>?_
   rw[(kb i1).2.2.2,Y]
   apply hR _ _ _ _ _ Z ⟨Z,J⟩
   rw[e]
   exact⟨v,_,_,rfl,rfl,rfl⟩
  refine xr (λvs mm lo=>vs=[.bool (!eB t)]/\m3=mm/\m.n<=lo) (λQ hQ=>?_) ?_
  ·rw[(eU g1).2.2.2.2,Y];apply aw (abk hX o0 hP);rw[bB,Y,ag];show lY false _ _;rw[aT,kW g2,Y];apply aw (HV hX B0 r0);rw[bB,Y];exact hQ ⟨rfl,rfl,Z⟩
  rintro _ _ lo ⟨rfl,rfl,j0⟩
  rw[av,ag]
  refine af (λc=>?_) (λc=>?_)
  ·rw[yC]at c;exact bad gz j0 (λc hc=>e0.get c hc) Z (by unfold eG;rw[ND J])
  rw[HO]at c
  have hS:eG AI cg bU y t=(fO AI cg bU y t).bind λl=>eX y.us y.ms l:=by unfold eG;rw[UG c]
  rw[(eU g1).2.2.2.2,Y,kW g2,Y]
  have⟨rv,j1,k1,b0,g0⟩:=aef (m:=m3) hX o0 hP B0 r0 (qV c)
  apply aw k1
  have n27:=b0.n
  unfold oD at g0
  cases hA:fO AI cg bU y t with
  |none=>rw[hA]at g0 hS;obtain⟨v,rfl⟩:=g0;rw[aE,aE];simp only[XW,Q7,Y];rw[bB,Y,ag,ME,bN];exact bad (b0.cells gz) Z (λc hc=>by rw[b0.get c Z,e0.get c hc]) Z hS
  |some L=>
   rw[hA]at g0 hS
   obtain⟨al,v,rfl,hL,O0⟩:=g0
   have l1:al.length<=40:=by have:=It hP hA;rwa[<-hL,Xh]at this
   rw[aE,aE]
   simp only[XW,Q7,Y]
   rw[bB,Y,ag,No,aT,dn,Y,(eU (b0.cells g1)).1,Y]
   obtain⟨⟨l,p0,hF⟩,p1, -⟩:=o0.ak b0
   obtain⟨r1,k0,u1,q0,d0⟩:=P5 (m:=j1) hX hF (by rw[p0];exact hP.xU) p1 (by rw[p0];exact hP.Du) O0 l1
   apply aw u1
   rw[p0,hL]at d0
   have hS:eG AI cg bU y t=eX y.us y.ms L:=hS
   have n39:=q0.n
   have P0:=(b0.trans q0).cells gz
   have y1:∀c,c < m.n->k0.get c=m.get c:=λc hc=>by rw[q0.get c Z,b0.get c Z,e0.get c hc]
   obtain⟨q,q2,n,e,rfl,o1,o2,F⟩:∃q q2 n e,r1=.tuple #[.agg #[q,q2],.int .i64 n,.int .i64 e]/\one q=true/\one q2=true/\(match eX y.us y.ms L with |some (vs,ns)=>e=0/\gW vs ns k0 (.agg #[q,q2]) |none=>e=170):=by
    unfold rz at d0
    cases hr:eX y.us y.ms L with
    |none=>rw[hr]at d0;obtain⟨n,rfl⟩:=d0;exact⟨_,_,n,170,rfl,rfl,rfl,rfl⟩
    |some d=>have⟨vs,ns⟩:=d;rw[hr]at d0;obtain⟨q,q2,n,rfl,hs⟩:=d0;have⟨_,_,_,e,_,h1,h2⟩:=id hs;cases e;exact⟨q,q2,n,0,rfl,h1.sl.one,h2.one,rfl,hs⟩
   rw[aE,aE,aE]
   simp only[XW,Q7,Y]
   refine ah λb2 A1 Q0 B1=>?_
   refine aj eF Q0 rfl rfl (by show(one q && (one q2 && true))=true;rw[o1,o2];rfl) λa1 G1 h0 H1=>?_
   have h0:a1.get k0.n=.cells [q,q2] 32 none:=h0
   rw[(kb h0).2.2.2,Y,aJ,Y]
   have l0:Ext k0 a1:=⟨Z,J⟩
   refine aj eF (l0.cells P0) rfl rfl J λv1 K1 i0 b1=>?_
   have i0:v1.get m2.n=.cells [q,q2] 32 none:=i0
   rw[(kb i0).2.2.2,Y]
   apply hR _ _ _ _ _ Z ⟨Z,J⟩
   rw[hS]
   unfold AA
   cases hr:eX y.us y.ms L with
   |none=>rw[hr]at F;have F:e=170:=F;subst F;exact⟨v,q,q2,rfl,o1,o2⟩
   |some d=>have⟨vs,ns⟩:=d;rw[hr]at F;obtain⟨rfl,hs⟩:=F;refine⟨v,q,q2,rfl,hs.aX λc cs t g hc ht=>?_⟩;have w1:=l0.cells hc;rw[b1 c J,w1]
 refine H _ λv t' u m' lo j0 hx hs=>?_;show(aZ (.tuple #[v,t',u])=true/\m.n<=lo/\(m.n=m.n/\Ext m m/\AA _ m (.tuple #[v,t',u])))\/((aZ (.tuple #[v,t',u])=false\/lo < m.n)/\(min m.n lo=m.n/\Ext m m'/\AA _ m' (.tuple #[v,t',u])));cases hf:aZ (.tuple #[v,t',u]);·exact .inr ⟨.inl rfl,Z,hx,hs⟩
 exact .inl ⟨rfl,j0,rfl,.refl,hs.flat hf m⟩
section
variable {α:Type} (R:α->α->Prop) [DecidableRel R]
def xK(l:List α)(x:α):List α:=(l.filter λy=>decide (R y x))++x::(l.filter λy=>decide (R x y))
def rB(l:List α)(x:α)(add:Bool)(i:Nat)(acc:List α):Prop:=if add=true then acc=l.take i/\∀y∈l.take i,R y x else acc=xK R (l.take i) x/\∃y∈l.take i,¬R y x
variable {R}
def filter_none{p:α->Bool}{l:List α}(h:∀y∈l,p y=false):l.filter p=[]:=XA.2 λy F=>J
def rB.on(F:∀a b c,R a b->R b c->R a c)(H:∀a,¬R a a){l:List α}{x n:α}{i:Nat}{acc:List α}(h:rB R l x true i acc)(hn:l[i]?=some n)(b0:R n x):rB R l x true (i+1) (acc++ [n]):=by unfold rB at h⊢;rw[UG rfl]at h⊢;obtain⟨rfl,h2⟩:=h;rw[Z8,hn];grind
def rB.put(F:∀a b c,R a b->R b c->R a c)(H:∀a,¬R a a){l:List α}{x n:α}{i:Nat}{acc:List α}(h:rB R l x true i acc)(hn:l[i]?=some n)(b0:¬R n x):rB R l x false (i+1) (acc++ [x]++if R x n then [n]else []):=by unfold rB at h⊢;rw[UG rfl]at h;rw[ND ce];obtain⟨rfl,h2⟩:=h;rw[Z8,hn];refine⟨?_,n,co,b0⟩;unfold xK;rw[IT,IT,Uc.2 λy hy=>RO (h2 y hy),filter_none (l:=l.take i) (p:=λy=>decide (R x y)) λy hy=>C8 λhc=>H _ (F _ _ _ hc (h2 y hy))];grind
def rB.off(e0:∀a b c,R a b->R b c->R a c){l:List α}{x n:α}{i:Nat}{acc:List α}(hs:l.Pairwise R)(h:rB R l x false i acc)(hn:l[i]?=some n):¬R n x/\rB R l x false (i+1) (acc++if R x n then [n]else []):=by unfold rB at h⊢;rw[ND ce]at h⊢;obtain⟨rfl,y,hy,H⟩:=h;have b0:¬R n x:=(by intro hc;have⟨j,F⟩:=MI hy;rw[Rz]at F;split at F;rename_i d0;have h1:=Nr.1 F;have h2:=Nr.1 hn;have:=Vr.1 hs j i h1.1 h2.1 d0;grind;cases F);refine⟨b0,?_,y,?_,H⟩;rw[Z8,hn];unfold xK;grind;grind
def rB.fin{l:List α}{x:α}{add:Bool}{acc:List α}(F:∀a,¬R a a)(H:∀a b c,R a b->R b c->R a c)(h:rB R l x add l.length acc):(acc++if add=true then [x]else [])=xK R l x:=by unfold rB at h;rw[W8]at h;cases add with|false=>rw[ND ce]at h⊢;rw[h.1,NC]|true=>rw[UG rfl]at h⊢;obtain⟨rfl,h2⟩:=h;unfold xK;rw[Uc.2 λy hy=>RO (h2 y hy),filter_none (p:=λy=>decide (R x y)) λy hy=>C8 λhc=>F _ (H _ _ _ hc (h2 y hy))]
def rB.nil{l:List α}{x:α}:rB R l x true 0 []:=by unfold rB;grind
end
def Co(a b c:Fc):og a b->og b c->og a c:=by unfold og;omega
def FH(a:Fc):¬og a a:=by unfold og;omega
def FF(a b c:Mo):nz a b->nz b c->nz a c:=by unfold nz;omega
def Jr(a:Mo):¬nz a a:=by unfold nz;omega
def UJ{a b:Fc}(h:a≠b):og a b\/og b a:=by unfold og;have⟨F,a2⟩:=a;have⟨H,b2⟩:=b;grind
def U6{α:Type}{f:α->Int}{l:List α}{x:α}{k:Nat}(hs:l.Pairwise λa b=>f a<f b)(hk:k<=l.length)(h1:∀y∈l.take k,f y<f x)(h2:∀y,l[k]?=some y->f x<f y):iZ f l x=l.take k++x::l.drop k:=by have h3:∀y∈l.drop k,f x<f y:=(by by_cases H:k<l.length;rw[Mr H];have e:=h2 _ (QC H);intro y F;rcases VM.1 F with rfl|F;exact e;have b0:=hs.sublist (List.drop_sublist k l);rw[Mr H,ZV]at b0;grind;grind);unfold iZ;(conv=>lhs;rw[<-Jy k l]);rw[IT,IT,Uc.2 λy F=>RO (h1 y F),filter_none (l:=l.take k) (p:=λy=>decide (f x<f y)) λy F=>C8 J,filter_none (l:=l.drop k) (p:=λy=>decide (f y<f x)) λy F=>C8 J,Uc.2 λy F=>RO (h3 y F)];simp
structure qt(wd:Nat)(m:M)(r r2:O)(sl:List KW)(rl:List Fc)(ml:List Mo)(st rc mo:O):Prop where
 cell:m.get wd=.cells (yc r r2 st rc mo) 37 none
 st:Ow (wd+1) m sl st
 rc:Ow (wd+1) m rl rc
 mo:Ow (wd+1) m ml mo
 lt:wd < m.n
def qt.ak{wd:Nat}{sl:List KW}{rl:List Fc}{ml:List Mo}(h:qt wd m r r2 sl rl ml st rc mo)(F:Ext m m'):qt wd m' r r2 sl rl ml st rc mo:=
 ⟨F.cells h.cell,h.st.ak F,h.rc.ak F,h.mo.ak F,Z1 h.lt F.n⟩
def QH{x:KW}:aQ TE m 33 1 [(0,x.v)]=some (.slice (some ⟨m.n,0,none⟩) 1 1,m.push (.cells x.c 85 none)):=bv
def Uw{x:Fc}:aQ TE m 34 1 [(0,x.v)]=some (.slice (some ⟨m.n,0,none⟩) 1 1,m.push (.cells x.c 103 none)):=bv
def acF{x:Mo}:aQ TE m 35 1 [(0,x.v)]=some (.slice (some ⟨m.n,0,none⟩) 1 1,m.push (.cells x.c 60 none)):=bv
section
variable {wd:Nat} {r r2:O} {sl:List KW} {rl:List Fc} {ml:List Mo} {st rc mo:O}
def qt.Kv(h:qt wd m r r2 sl rl ml st rc mo){x:KW}(h1:one x.w/\one x.mv)(hl:sl.length<1000000):
  ∃a m1 r' m2 m3,aQ TE m 33 1 [(0,x.v)]=some (a,m1)/\aR TE (M.wl m1 (M.n m1)) .append [33,33] [st,a]=some (r',m2)/\bh TE m2 33 (Ω wd (0+2)) r'=some (m3,wd)/\wd+1<=m2.low/\
   qt wd m3 r r2 (sl++ [x]) rl ml r' rc mo/\m.n<=m3.n/\(∀c,c<wd->m3.get c=m.get c)/\(∀c cs t g,m.get c=.cells cs t g->t≠85->t≠37->m3.get c=.cells cs t g)/\(∀c,c<m.n->c≠wd->(∀a n k,st=.slice (some a) n k->c≠a.block)->m3.get c=m.get c)/\(∀a n k,r'=.slice (some a) n k->m.n<=a.block):=by obtain⟨m1,b0⟩:∃q,q=m.push (.cells x.c 85 none):=⟨_,rfl⟩;have H:Ext m m1:=b0 ▸ Ext.refl.push;have e0:m1.get m.n=.cells x.c 85 none:=(by rw[b0];exact M.aU);have i0:=h.lt;have j0:=H.n;obtain⟨r',m2,m3,⟨⟨_,pf⟩,pn⟩,p1,p2,p3,p4,p5,p6,p7,p8⟩:=BT (n1:=wd+1) (o:=2) zv rfl Kj rfl h.cell (by rfl) Z Z h.st H (lz (x:=x) e0 ⟨rfl,h1⟩) hl;have p2:bh TE m2 33 (Ω wd (0+2)) r'=some (m3,wd):=p2;have iF:∀c cs t g,m.get c=.cells cs t g->t≠85->t≠37->m3.get c=.cells cs t g:=λc cs t g F g0 h0=>(by have k0:=M.aM F;have d0:=H.cells F;rw[p8 c Z (λe=>by subst e;rw[h.cell]at F;cases F;exact h0 rfl) λl0 g' e=>by rw[d0]at e;cases e;exact g0 rfl,d0]);refine⟨_,m1,r',m2,m3,b0 ▸ QH,p1,p2,p3,⟨p4,p5,h.rc.aX λc cs t g F ht=>iF c cs t g F ?_ ?_,h.mo.aX λc cs t g F ht=>iF c cs t g F ?_ ?_,Z⟩,Z,λc F=>p7 c Z Z,iF,λc F h1 h2=>by rw[pn c Z h1 h2,H.get c F],J⟩ <;>(simp only[aL.ty,aL.dN,VM,DA,or_false]at ht;subst ht;decide)
def qt.wP(h:qt wd m r r2 sl rl ml st rc mo){x:Fc}(hl:rl.length<1000000):
  ∃a m1 r' m2 m3,aQ TE m 34 1 [(0,x.v)]=some (a,m1)/\aR TE (M.wl m1 (M.n m1)) .append [34,34] [rc,a]=some (r',m2)/\bh TE m2 34 (Ω wd (0+3)) r'=some (m3,wd)/\wd+1<=m2.low/\
   qt wd m3 r r2 sl (rl++ [x]) ml st r' mo/\m.n<=m3.n/\(∀c,c<wd->m3.get c=m.get c)/\(∀c cs t g,m.get c=.cells cs t g->t≠103->t≠37->m3.get c=.cells cs t g)/\(∀c,c<m.n->c≠wd->(∀a n k,rc=.slice (some a) n k->c≠a.block)->m3.get c=m.get c)/\(∀a n k,r'=.slice (some a) n k->m.n<=a.block):=by obtain⟨m1,b0⟩:∃q,q=m.push (.cells x.c 103 none):=⟨_,rfl⟩;have H:Ext m m1:=b0 ▸ Ext.refl.push;have e0:m1.get m.n=.cells x.c 103 none:=(by rw[b0];exact M.aU);have i0:=h.lt;have j0:=H.n;obtain⟨r',m2,m3,⟨⟨_,pf⟩,pn⟩,p1,p2,p3,p4,p5,p6,p7,p8⟩:=BT (n1:=wd+1) (o:=3) Gq rfl PA rfl h.cell (by rfl) Z Z h.rc H (lz (x:=x) e0 rfl) hl;have p2:bh TE m2 34 (Ω wd (0+3)) r'=some (m3,wd):=p2;have iF:∀c cs t g,m.get c=.cells cs t g->t≠103->t≠37->m3.get c=.cells cs t g:=λc cs t g F g0 h0=>(by have k0:=M.aM F;have d0:=H.cells F;rw[p8 c Z (λe=>by subst e;rw[h.cell]at F;cases F;exact h0 rfl) λl0 g' e=>by rw[d0]at e;cases e;exact g0 rfl,d0]);refine⟨_,m1,r',m2,m3,b0 ▸ Uw,p1,p2,p3,⟨p4,h.st.aX λc cs t g F ht=>iF c cs t g F ?_ ?_,p5,h.mo.aX λc cs t g F ht=>iF c cs t g F ?_ ?_,Z⟩,Z,λc F=>p7 c Z Z,iF,λc F h1 h2=>by rw[pn c Z h1 h2,H.get c F],J⟩ <;>(simp only[aL.ty,aL.dN,VM,DA,or_false]at ht;subst ht;decide)
def qt.wQ(h:qt wd m r r2 sl rl ml st rc mo){x:Mo}(hl:ml.length<1000000):
  ∃a m1 r' m2 m3,aQ TE m 35 1 [(0,x.v)]=some (a,m1)/\aR TE (M.wl m1 (M.n m1)) .append [35,35] [mo,a]=some (r',m2)/\bh TE m2 35 (Ω wd (0+4)) r'=some (m3,wd)/\wd+1<=m2.low/\
   qt wd m3 r r2 sl rl (ml++ [x]) st rc r'/\m.n<=m3.n/\(∀c,c<wd->m3.get c=m.get c)/\(∀c cs t g,m.get c=.cells cs t g->t≠60->t≠37->m3.get c=.cells cs t g)/\(∀c,c<m.n->c≠wd->(∀a n k,mo=.slice (some a) n k->c≠a.block)->m3.get c=m.get c)/\(∀a n k,r'=.slice (some a) n k->m.n<=a.block):=by obtain⟨m1,b0⟩:∃q,q=m.push (.cells x.c 60 none):=⟨_,rfl⟩;have H:Ext m m1:=b0 ▸ Ext.refl.push;have e0:m1.get m.n=.cells x.c 60 none:=(by rw[b0];exact M.aU);have i0:=h.lt;have j0:=H.n;obtain⟨r',m2,m3,⟨⟨_,pf⟩,pn⟩,p1,p2,p3,p4,p5,p6,p7,p8⟩:=BT (n1:=wd+1) (o:=4) J7 rfl Wg rfl h.cell (by rfl) Z Z h.mo H (lz (x:=x) e0 rfl) hl;have p2:bh TE m2 35 (Ω wd (0+4)) r'=some (m3,wd):=p2;have iF:∀c cs t g,m.get c=.cells cs t g->t≠60->t≠37->m3.get c=.cells cs t g:=λc cs t g F g0 h0=>(by have k0:=M.aM F;have d0:=H.cells F;rw[p8 c Z (λe=>by subst e;rw[h.cell]at F;cases F;exact h0 rfl) λl0 g' e=>by rw[d0]at e;cases e;exact g0 rfl,d0]);refine⟨_,m1,r',m2,m3,b0 ▸ acF,p1,p2,p3,⟨p4,h.st.aX λc cs t g F ht=>iF c cs t g F ?_ ?_,h.rc.aX λc cs t g F ht=>iF c cs t g F ?_ ?_,p5,Z⟩,Z,λc F=>p7 c Z Z,iF,λc F h1 h2=>by rw[pn c Z h1 h2,H.get c F],J⟩ <;>(simp only[aL.ty,aL.dN,VM,DA,or_false]at ht;subst ht;decide)
def qt.Tg(h:qt wd m r r2 sl rl ml st rc mo){a v':O}{m2:M}{e0:List KW}(e:aR TE (m.wl m.n) .append [33,33] [st,a]=some (v',m2))(ho:Ow (wd+1) m2 e0 v')(hn:m.n<=m2.n)(k0:wd+1<=m2.low)(hk:∀c,c<wd+1->m2.get c=m.get c):
  ∃m3,bh TE m2 33 (Ω wd (0+2)) v'=some (m3,wd)/\qt wd m3 r r2 e0 rl ml v' rc mo/\m.n<=m3.n/\(∀c,c<wd->m3.get c=m.get c)/\(∀c cs t g,m.get c=.cells cs t g->t≠85->t≠37->m3.get c=.cells cs t g)/\(∀c,c<m.n->c≠wd->(∀a n k,st=.slice (some a) n k->c≠a.block)->m3.get c=m.get c):=by have g2:m2.get wd=.cells (yc r r2 st rc mo) 37 none:=(by rw[hk wd Z];exact h.cell);have d0:=wF (E:=TE) (o:=0+2) (x:=v') Kj g2 (by rw[ho.sl.cells];rfl) (by rw[ho.sl.cells];show 0+2+1<=5;decide) (by rw[ho.sl.cells];simp[ho.sl.one]);obtain⟨m3,H⟩:∃q,q=m2.set wd (.cells (yc r r2 v' rc mo) 37 none):=⟨_,rfl⟩;have d0:bh TE m2 33 (Ω wd (0+2)) v'=some (m3,wd):=(by rw[d0,H,ho.sl.cells];rfl);have l0:m3.n=m2.n:=(by rw[H];rfl);have h0:m3.get wd=.cells (yc r r2 v' rc mo) 37 none:=(by rw[H];exact M.get_set_same (M.aM g2));have g0:∀c,c≠wd->m3.get c=m2.get c:=λc F=>(by rw[H];exact M.dY F);have b0:∀c,c<m.n->c≠wd->(∀a n k,st=.slice (some a) n k->c≠a.block)->m3.get c=m.get c:=λc F h1 h2=>(by rw[g0 c h1,il e F h2]);have iF:∀c cs t g,m.get c=.cells cs t g->t≠85->t≠37->m3.get c=.cells cs t g:=λc cs t g F i0 n0=>(by have j0:=M.aM F;rw[b0 c j0 J λad n k es e=>?_,F];have:=h.st.sl;rw[es]at this;rcases this with⟨h1,_⟩|⟨b,o,cc,bc,g',h1,h2,_⟩;cases h1;cases h1;rw[e,h2]at F;cases F;exact i0 rfl);refine⟨m3,d0,⟨h0,?_,h.rc.aX λc cs t g F ht=>iF c cs t g F ?_ ?_,h.mo.aX λc cs t g F ht=>iF c cs t g F ?_ ?_,?_⟩,Z,J,iF,b0⟩;exact ho.xI rfl λc h1 _=>g0 c Z;(any_goals (simp only[aL.ty,aL.dN,VM,DA,or_false]at ht;subst ht;decide));have:=h.lt;omega
end
structure mT(m0:M)(wd:Nat)(m:M)(r r2:O)(k:List Kp)(rl:List Fc)(ml:List Mo)(rc mo:O):Prop where
 ex:∃sl st,vP sl=k/\qt wd m r r2 sl rl ml st rc mo/\∀x∈sl,Sl m x.u.shape x.w/\Sl m x.ms x.mv/\x.u.shape.length < 1000000/\x.ms.length < 1000000
 x:Ext m0 m
 o:m0.n=wd
section
variable {m0:M} {wd:Nat} {r r2:O} {k:List Kp} {rl:List Fc} {ml:List Mo} {rc mo:O}
def mT.ak(h:mT m0 wd m r r2 k rl ml rc mo)(F:Ext m m'):mT m0 wd m' r r2 k rl ml rc mo:=by have⟨⟨sl,st,h1,h2,H⟩,h4,h5⟩:=h;exact⟨⟨sl,st,h1,h2.ak F,λx hm=>⟨(H x hm).1.ak F,(H x hm).2.1.ak F,(H x hm).2.2⟩⟩,h4.trans F,h5⟩
def mT.XK(h:mT m0 wd m r r2 k rl ml rc mo):aC TE m 34 (Ω wd (0+3))=some rc:=by have⟨⟨sl,st,H,F,h3⟩,h4,h5⟩:=h;exact(eU F.cell).2.2.1
def mT.ldm(h:mT m0 wd m r r2 k rl ml rc mo):aC TE m 35 (Ω wd (0+4))=some mo:=by have⟨⟨sl,st,H,F,h3⟩,h4,h5⟩:=h;exact(eU F.cell).2.2.2.1
def mT.lt(h:mT m0 wd m r r2 k rl ml rc mo):wd<m.n:=by have⟨⟨sl,st,H,F,h3⟩,h4,h5⟩:=h;exact F.lt
def K9{sl:List KW}(F:∀x∈sl,Sl m x.u.shape x.w/\Sl m x.ms x.mv/\x.u.shape.length<1000000/\x.ms.length<1000000)(hk:∀c cs t g,m.get c=.cells cs t g->(t=46\/t=68)->m'.get c=.cells cs t g):
  ∀x∈sl,Sl m' x.u.shape x.w/\Sl m' x.ms x.mv/\x.u.shape.length<1000000/\x.ms.length<1000000:=λx H=>
 ⟨(F x H).1.aX λc cs t g hc ht=>hk c cs t g hc (.inl (by simpa[aL.ty,aL.dN]using ht)),(F x H).2.1.aX λc cs t g hc ht=>hk c cs t g hc (.inr (by simpa[aL.ty,aL.dN]using ht)),(F x H).2.2⟩
def mT.wP(h:mT m0 wd m r r2 k rl ml rc mo){x:Fc}(hl:rl.length<1000000):
  ∃a m1 F m2 m3,aQ TE m 34 1 [(0,x.v)]=some (a,m1)/\aR TE (M.wl m1 (M.n m1)) .append [34,34] [rc,a]=some (F,m2)/\bh TE m2 34 (Ω wd (0+3)) F=some (m3,wd)/\wd+1<=m2.low/\
   mT m0 wd m3 r r2 k (rl++ [x]) ml F mo/\m.n<=m3.n/\(∀c,c<m.n->c≠wd->(∀a n k,rc=.slice (some a) n k->c≠a.block)->m3.get c=m.get c)/\(∀a n k,F=.slice (some a) n k->m.n<=a.block):=by have⟨⟨sl,st,h1,h2,h3⟩,h4,h5⟩:=h;have b0:=h4.n;have⟨a,m1,F,m2,m3,e1,e2,e3,e4,k1,k2,k3,k4,k5,k6⟩:=h2.wP (x:=x) hl;exact⟨a,m1,F,m2,m3,e1,e2,e3,e4,⟨⟨sl,st,h1,k1,K9 h3 λc cs t g H ht=>k4 c cs t g H J J⟩,⟨Z,λc H=>by rw[k3 c Z,h4.get c H]⟩,h5⟩,k2,k5,k6⟩
def mT.wQ(h:mT m0 wd m r r2 k rl ml rc mo){x:Mo}(hl:ml.length<1000000):
  ∃a m1 F m2 m3,aQ TE m 35 1 [(0,x.v)]=some (a,m1)/\aR TE (M.wl m1 (M.n m1)) .append [35,35] [mo,a]=some (F,m2)/\bh TE m2 35 (Ω wd (0+4)) F=some (m3,wd)/\wd+1<=m2.low/\
   mT m0 wd m3 r r2 k rl (ml++ [x]) rc F/\m.n<=m3.n/\(∀c,c<m.n->c≠wd->(∀a n k,mo=.slice (some a) n k->c≠a.block)->m3.get c=m.get c)/\(∀a n k,F=.slice (some a) n k->m.n<=a.block):=by have⟨⟨sl,st,h1,h2,h3⟩,h4,h5⟩:=h;have b0:=h4.n;have⟨a,m1,F,m2,m3,e1,e2,e3,e4,k1,k2,k3,k4,k5,k6⟩:=h2.wQ (x:=x) hl;exact⟨a,m1,F,m2,m3,e1,e2,e3,e4,⟨⟨sl,st,h1,k1,K9 h3 λc cs t g H ht=>k4 c cs t g H J J⟩,⟨Z,λc H=>by rw[k3 c Z,h4.get c H]⟩,h5⟩,k2,k5,k6⟩
end
def Fb(y:Yd)(t:Tk):Option Yd:=if eB t=true then mU AI cg bU y t else none
def Fa{y:Yd}{t:Tk}:Fb y t=(eG AI cg bU y t).map λp=>⟨p.1,p.2,rD y t,An y t,DC y t⟩:=by unfold Fb eG mU;grind
abbrev nilY:O:=yv (.slice none 0 0) (.slice none 0 0) (.slice none 0 0) (.slice none 0 0) (.slice none 0 0)
def lO(D:Option Yd)(m':M)(F:O):Prop:=match D with
 |some z=>∃r r2 st rc mo,F=.tuple #[yv r r2 st rc mo,.int .i64 0]/\rR m' z r r2 st rc mo
 |none=>F=.tuple #[nilY,.int .i64 270]
def pO{α:Type}[aL α]{m':M}{l:List α}{v:O}(h:Sl m' l v)(F:D.bL v):l=[]/\v=Z9:=by rcases h with⟨H,h2⟩|⟨b,o,c,bc,g,H,_⟩;grind;rw[H]at F;simp[D.bL]at F
def rR.flat{z:Yd}(h:rR m' z r r2 st rc mo)(H:D.bL r/\D.bL r2/\D.bL st/\D.bL rc/\D.bL mo)(m:M):rR m z r r2 st rc mo:=by have⟨⟨l,h1,h2⟩,h3,⟨k,h4,h5⟩,h6,h7⟩:=h;have⟨f1,f2,f3,f4,f5⟩:=H;obtain⟨e1,rfl⟩:=pO h2.sl f1;obtain⟨e2,rfl⟩:=pO h3 f2;obtain⟨e3,rfl⟩:=pO h5.sl f3;obtain⟨e4,rfl⟩:=pO h6 f4;obtain⟨e5,rfl⟩:=pO h7 f5;subst e1 e3;exact⟨⟨[],h1,⟨.nil,λx F=>(by cases F),λx F=>(by cases F),.inl rfl⟩⟩,e2 ▸ .nil,⟨[],h4,GD.nil⟩,e4 ▸ .nil,e5 ▸ .nil⟩
def lO.flat{D:Option Yd}{t:O}(h:lO D m' (.tuple #[yv r r2 st rc mo,t]))(H:aZ (.tuple #[yv r r2 st rc mo,t]))(m:M):lO D m (.tuple #[yv r r2 st rc mo,t]):=by unfold lO at h⊢;split at h;have⟨_,_,_,_,_,e,hs⟩:=h;cases e;have F:((D.bL r && (D.bL r2 && (D.bL st && (D.bL rc && (D.bL mo && true))))) && (true && true)):=H;simp only[G4]at F;exact⟨_,_,_,_,_,rfl,hs.flat ⟨F.1.1,F.1.2.1,F.1.2.2.1,F.1.2.2.2.1,F.1.2.2.2.2.1⟩ m⟩;exact h
def S9{u:Un}:bz TE 85 [(0,u.v w)]=some (KW.v ⟨u,w,[],Z9⟩):=acp rfl
def S6:bz TE 37 [(0,.agg #[r,r2])]=some (yv r r2 Z9 Z9 Z9):=ad8 rfl
def S7{c:Int}:bz TE 60 [(0,I a),(1,I b),(2,I c)]=some (Mo.v ⟨a,b,c⟩):=ac2 rfl rfl rfl
def acG:bz TE 37 []=some nilY:=N0
def mE{α:Type}(R:α->α->Prop)[DecidableRel R](D:Prop)[Decidable D](l:List α)(x:α)(add:Bool)(i:Nat)(acc:List α):Prop:=if D then rB R l x add i acc else add=false/\acc=l.take i
section
variable {α:Type} {R:α->α->Prop} [DecidableRel R] {D:Prop} [Decidable D] {l:List α} {x n:α} {i:Nat} {acc:List α} {add:Bool}
def mE.init:mE R D l x (decide D) 0 []:=by unfold mE;split;rename_i h;rw[RO h];exact .nil;grind
def mE.put(F:∀a b c,R a b->R b c->R a c)(H:∀a,¬R a a)(h:mE R D l x true i acc)(hn:l[i]?=some n)(b0:¬R n x):mE R D l x false (i+1) (acc++ [x]++if(D->R x n\/R n x)then [n]else []):=by unfold mE at h⊢;by_cases hD:D;rw[UG hD]at h⊢;have:=h.put F H hn b0;grind;grind
def mE.on(H:∀a b c,R a b->R b c->R a c)(b0:∀a,¬R a a)(h:mE R D l x true i acc)(hn:l[i]?=some n)(F:R n x):mE R D l x true (i+1) (acc++if(D->R x n\/R n x)then [n]else []):=by unfold mE at h⊢;rw[UG λ_=> .inr F];by_cases hD:D;rw[UG hD]at h⊢;exact h.on H b0 hn F;grind
def mE.off(F:∀a b c,R a b->R b c->R a c)(hs:l.Pairwise R)(h:mE R D l x false i acc)(hn:l[i]?=some n):mE R D l x false (i+1) (acc++if(D->R x n\/R n x)then [n]else []):=by unfold mE at h⊢;by_cases H:D;rw[UG H]at h⊢;have⟨h1,h2⟩:=h.off F hs hn;grind;rw[ND H]at h⊢;rw[UG λhc=>(H hc).elim,Z8,hn,h.2];grind
def mE.fin(F:∀a,¬R a a)(H:∀a b c,R a b->R b c->R a c)(h:mE R D l x add l.length acc):(acc++if add=true then [x]else [])=if D then xK R l x else l:=by unfold mE at h;by_cases hD:D;rw[UG hD]at h⊢;exact h.fin F H;grind
end
theorem abY{y:Yd}{t:Tk}:An y t=if t.kind=8/\(⟨t.id,t.side⟩:Fc)∉y.rc then xK og y.rc ⟨t.id,t.side⟩else y.rc:=rfl
theorem adZ{y:Yd}{t:Tk}:DC y t=if t.kind=9 then xK nz y.mo ⟨t.id,t.other,t.du⟩else y.mo:=rfl
def ado{y:Yd}{t:Tk}{p:List Un×List Mk}(h:eG AI cg bU y t=some p)(k:t.kind=2):(cz y.us t.id).isSome:=by unfold eG at h;split at h;obtain⟨l,F, -⟩:=W9.1 h;unfold fO at F;grind;cases h
def gW.keep3{v:O}(h:gW vs H m' v)(hk:∀c cs t g,m'.get c=.cells cs t g->(t=43\/t=46\/t=68)->m''.get c=.cells cs t g):gW vs H m'' v:=by have⟨acc,r,r2,e,h1,h2,h3⟩:=h;exact⟨acc,r,r2,e,h1,h2.aX λc cs t g F ht=>hk c cs t g F J,h3.aX λc cs t g F ht=>hk c cs t g F (by have:t=68:=(by simpa[aL.ty,aL.dN]using ht);grind)⟩
def Wq{l:List Mk}{v:O}(h:Sl m l v){i:Nat}{x:Mk}(H:l[i]?=some x):∃b o,aD TE 30 v (I i)=some (Ω b o)/\aC TE m 3 (Ω b (o+1))=some (I x.un)/\aC TE m 68 (Ω b o)=some x.v:=by have⟨b,o,bc,g,cs,e1,hb,hr,hle,hj⟩:=h.iI cJ (k:=.i64) H;obtain rfl:cs=x.c:=hr;refine⟨b,o,e1,?_,?_⟩;rw[bP,aG hb];exact hj 1 (by show 1<5;decide);have⟨p,F,e2,e3,e4⟩:=h.index cJ (k:=.i64) H;obtain rfl:p=Ω b o:=Option.some.inj (e2.symm.trans e1);obtain rfl:F=x.c:=e4;exact e3
def aew:aQ TE m 30 1 [(0,x.v)]=some (.slice (some ⟨m.n,0,none⟩) 1 1,m.push (.cells x.c 68 none)):=bv
def VZ:vp TE 30 Mk:=⟨ai.t30,ai.t68,bv,rfl,rfl,bv,ce,rfl⟩
def La{b:Nat}{u:Un}{mv:O}{l l':List Mk}(g:m.get b=.cells (KW.c ⟨u,w,l',mv⟩) 85 none)(ho:Ow (b+1) m l mv){x:Mk}(hl:l.length<1000000):
  ∃a m1 H m2 m3,aQ TE m 30 1 [(0,x.v)]=some (a,m1)/\aR TE (M.wl m1 (M.n m1)) .append [30,30] [mv,a]=some (H,m2)/\bh TE m2 30 (Ω b (0+6)) H=some (m3,b)/\b+1<=m2.low/\
   m3.get b=.cells (KW.c ⟨u,w,l',H⟩) 85 none/\Ow (b+1) m3 (l++ [x]) H/\m.n<=m3.n/\(∀c,c<b->m3.get c=m.get c):=by
 obtain⟨m1,F⟩:∃q,q=m.push (.cells x.c 68 none):=⟨_,rfl⟩;have b0:Ext m m1:=F ▸ Ext.refl.push;have d0:m1.get m.n=.cells x.c 68 none:=(by rw[F];exact M.aU);have e0:=M.aM g;have g0:=b0.n;obtain⟨H,m2,m3,p1,p2,p3,p4,p5,p6,p7,p8⟩:=Qm (n1:=b+1) (o:=6) VZ rfl D7 rfl g (by rfl) Z Z ho b0 (lz (x:=x) d0 rfl) hl;exact⟨_,m1,H,m2,m3,F ▸ aew,p1,p2,p3,p4,p5,Z,λc hc=>p7 c Z Z⟩
