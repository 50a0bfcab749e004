/- plane.order, cmp.Or; the greater .. -/
import Derived.Test.YthffgohpkjpkbaaGreatDoorG6J
import Derived.Deep.WholeRow
import Derived.Lib.AppendZerosOnto
import Derived.Shelf.Abstract
set_option maxHeartbeats 1000000
set_option linter.defProp false
set_option maxRecDepth 100000
noncomputable section
open Go Go.D Go.Proofs.Tryz
namespace Go.Proofs.YthffgohpkjpkbaaGreatDoor
variable{x:Mk}{b i n1:Nat}{g:Option Nat}{p q:Pl}{T e t:TypeId}{mm:M}{ms:List Mk}{us vs:List Un}{R:ν->M->Nat->Prop}
variable{X:aF}{m:M}
def MX(l:List Int):Int:=match l.find? (λx=> !(decide (x=0)))with |some x=>x |none=>0
def Hk{l:List Int}(h:∀(j:Nat) x,l[j]?=some x->x=0):MX l=0:=by unfold MX;have:l.find? (λx=> !(decide (x=0)))=none:=Io.2 λx F=>(by have⟨j,hj⟩:=Px.1 F;grind);grind
theorem wV:∀{l:List Int} {i:Nat} {x:Int},l[i]?=some x->x≠0->(∀(j:Nat) y,j<i->l[j]?=some y->y=0)->MX l=x
 |[],i,x,h,_,_=>J
 |a::l,0,x,h,F,_=>by cases h;unfold MX;grind
 |a::l,i+1,x,h,F,hz=>by have ha:=hz 0 a Z rfl;subst ha;have:=wV (l:=l) (i:=i) (x:=x) J F λj y hj hy=>hz (j+1) y Z J;unfold MX at this⊢;grind
def QD(hX:cp X){l:List Int}{v:O}(hl:Sl m l v)(hb:l.length<1000000):xw X 95 [v] m (I (MX l)) m:=by apply Cl.fl hX (U5 func95);rw[F95];dsimp only[aH];rw[hl.len mX,an];refine Lp.intro (γ:=Nat) (λi=>l.length-i) (λi vs mm lo=>vs=[I 0,I i]/\mm=m/\lo=m.n/\i<=l.length/\∀(j:Nat) y,j<i->l[j]?=some y->y=0) 0 ⟨rfl,rfl,rfl,Vw _,λj y hj=>Z⟩ ?_;rintro i vs mm lo ⟨rfl,rfl,rfl,hi,hz⟩;rw[av,av,aK,Y,ag];refine af (λh=>?_) (λh=>?_);have h:i<l.length:=J;obtain⟨x,hx⟩:∃x,l[i]?=some x:=⟨_,QC h⟩;have⟨p,cs,e1,e2,e3⟩:=hl.index mX (k:=.i64) hx;obtain rfl:cs=[I x]:=e3;rw[e1,Y,e2,Y];show aS (bE TE .neq 3 (I x) (I 0)) _;rw[bZ,Y,ag];refine af (λhb=>?_) (λhb=>?_);have F:x≠0:=J;refine⟨?_,R8 _⟩;rw[wV hx F hz];rfl;have F:x=0:=J;rw[aO,Y,wrap64];refine⟨i+1,Z,rfl,rfl,rfl,Z,λj y hj hy=>?_⟩;by_cases e:j=i;subst e;rw[hx]at hy;cases hy;exact F;exact hz j y Z hy;have b0:i=l.length:=(by have:¬(i:Int)< (l.length:Int):=J;omega);refine⟨?_,R8 _⟩;rw[Hk λj y hy=>hz j y J hy];rfl
def Wt{x y:Int}:aQ TE m 116 2 [(0,.int .i64 x),(1,.int .i64 y)]=some (.slice (some ⟨m.n,0,none⟩) 2 2,m.push (.cells [.int .i64 x,.int .i64 y] 3 none)):=bv
def G5{x y:Int}(h:m.get b=.cells [I x,I y] 3 g):Sl m [x,y] (Hr b 0 2 2):=
 .inr ⟨b,0,2,_,g,rfl,h,R8 _,λi z hi=>by match i with|0=>cases hi;rfl|1=>cases hi;rfl|i+2=>simp at hi⟩
def Us(p q:Pl):MX [dt p.x q.x,dt p.y q.y]=vB p q:=by unfold vB;by_cases h:dt p.x q.x=0;rw[UG h];by_cases h2:dt p.y q.y=0;rw[Hk (by intro j x F;match j with|0=>cases F;exact h|1=>cases F;exact h2|j+2=>simp at F),h2];exact wV (i:=1) rfl h2 (by intro j y F hy;match j with|0=>cases hy;exact h|j+1=>omega);rw[ND h];exact wV (i:=0) rfl h λj y F=>Z
def KY(h:m.get b=.cells p.c e g):aC TE m 3 (Ω b (0+0))=some (I p.x):=by rw[bP,aG h];rfl
def KX(h:m.get b=.cells p.c e g):aC TE m 3 (Ω b (0+1))=some (I p.y):=by rw[bP,aG h];rfl
def sH(F:cp X)(p q:Pl):xw X 83 [p.v,q.v] m (I (vB p q)) m:=by apply Cl.fl F (U5 func83);rw[F83];dsimp only[aH];refine ah λm1 g0 b0 h0=>?_;refine ah λm2 i0 d0 e0=>?_;have g1:m2.get m.n=.cells p.c 46 none:=(by rw[e0 _ Z];exact b0);have g2:m2.get m1.n=.cells q.c 46 none:=d0;unfold ptrTo;rw[cV,Y,KY g1,Y,cV,Y,KY g2,Y];refine aw (gj F _ _) ⟨R8 _,?_⟩;rw[dZ,Y,KX g1,Y,dZ,Y,KX g2,Y];apply aw (gj F _ _);rw[Wt,an];have hg:(m2.push (.cells [.int .i64 (dt p.x q.x),.int .i64 (dt p.y q.y)] 3 none)).get m2.n=.cells [.int .i64 (dt p.x q.x),.int .i64 (dt p.y q.y)] 3 none:=M.aU;have hn:(m2.push (.cells [.int .i64 (dt p.x q.x),.int .i64 (dt p.y q.y)] 3 none)).n=m2.n+1:=rfl;apply aw (QD F (G5 hg) J);refine⟨?_,Z⟩;rw[Us];rfl
def UH(hX:cp X){p q:Pl}{v:O}(hl:Sl m [p,q] v):xw X 129 [v,.func (.func 83) #[] #[]] m (HC p q).v m:=by apply Cl.fl hX (U5 func129);rw[F129];dsimp only[aH];refine ah λm1 s0 u0 j0=>?_;have b0:=hl.ak (m':=m1) ⟨Z,j0⟩;rw[b0.len cO,an,aK,Y,ag];show lY (decide (((2:Nat):Int)< 1)) _ _;rw[show decide (((2:Nat):Int)< 1)=false from rfl,aT];have⟨a,e1,e2⟩:=b0.fN (k:=.i64) (i:=0) rfl;have e1:aD TE 41 v (I 0)=some a:=e1;rw[e1,Y,e2,Y];refine ah λm6 y0 k0 A0=>?_;unfold ptrTo;refine aj fR k0 rfl rfl rfl λm7 B0 d0 O0=>?_;have d0:m7.get m1.n=.cells p.c 46 none:=d0;have e0:∀c,c<m1.n->m7.get c=m1.get c:=J;refine Lp.intro (γ:=Nat) (λi=>2-i) (λi vs mm lo=>vs=[I i]/\(i=1/\mm.get m1.n=.cells p.c 46 none\/i=2/\mm.get m1.n=.cells (HC p q).c 46 none)/\mm.n=m7.n/\(∀c,c<m1.n->mm.get c=m1.get c)/\m.n<=lo) 1 ⟨rfl,.inl ⟨rfl,d0⟩,rfl,e0,Z⟩ ?_;rintro i vs mm lo ⟨rfl,hi,l0,hk,P0⟩;have h0:Sl mm [p,q] v:=b0.aX λb c t g hb _=>(by rw[hk b (M.aM hb),hb]);rw[av,h0.len cO,an,aK,Y,ag];rcases hi with⟨rfl,hc⟩|⟨rfl,hc⟩;show lY (decide (((1:Nat):Int)< ((2:Nat):Int))) _ _;rw[show decide (((1:Nat):Int)< ((2:Nat):Int))=true from rfl,bN];have⟨a,e1,e2⟩:=h0.fN (k:=.i64) (i:=1) rfl;rw[e1,Y,e2,Y,bY hc,Y,cj];apply aw (sH hX q p);rw[cC,Y,ag];refine af (λhb=>?_) (λhb=>?_);have hb:=Mv hb;rw[Y,e2,Y];refine aj fR hc rfl rfl rfl λQ0 o0 i0 p0=>?_;refine⟨2,Z,rfl,.inr ⟨rfl,?_⟩,Z,J,Z⟩;rw[i0,show HC p q=q by unfold HC;rw[UG hb]];rfl;have hb:=Z0 hb;refine⟨2,Z,rfl,.inr ⟨rfl,?_⟩,l0,hk,Z⟩;rw[hc,show HC p q=p by unfold HC;rw[ND hb]];show lY (decide (((2:Nat):Int)< ((2:Nat):Int))) _ _;rw[show decide (((2:Nat):Int)< ((2:Nat):Int))=false from rfl,aT,bY hc,Y];have g0:mm.get m.n=.cells [I 0,I 0] 46 none:=J;refine aj fR g0 rfl rfl rfl λn0 q0 F r0=>?_;have F:n0.get m.n=.cells (HC p q).c 46 none:=F;rw[bY F,Y];exact⟨rfl,Z⟩
def aaU(hX:cp X){p q:Pl}{v:O}(hl:Sl m [p,q] v):xw X 130 [v,.func (.func 83) #[] #[]] m (HA p q).v m:=by apply Cl.fl hX (U5 func130);rw[F130];dsimp only[aH];refine ah λm1 s0 u0 j0=>?_;have b0:=hl.ak (m':=m1) ⟨Z,j0⟩;rw[b0.len cO,an,aK,Y,ag];show lY (decide (((2:Nat):Int)< 1)) _ _;rw[show decide (((2:Nat):Int)< 1)=false from rfl,aT];have⟨a,e1,e2⟩:=b0.fN (k:=.i64) (i:=0) rfl;have e1:aD TE 41 v (I 0)=some a:=e1;rw[e1,Y,e2,Y];refine ah λm6 y0 k0 A0=>?_;unfold ptrTo;refine aj fR k0 rfl rfl rfl λm7 B0 d0 O0=>?_;have d0:m7.get m1.n=.cells p.c 46 none:=d0;have e0:∀c,c<m1.n->m7.get c=m1.get c:=J;refine Lp.intro (γ:=Nat) (λi=>2-i) (λi vs mm lo=>vs=[I i]/\(i=1/\mm.get m1.n=.cells p.c 46 none\/i=2/\mm.get m1.n=.cells (HA p q).c 46 none)/\mm.n=m7.n/\(∀c,c<m1.n->mm.get c=m1.get c)/\m.n<=lo) 1 ⟨rfl,.inl ⟨rfl,d0⟩,rfl,e0,Z⟩ ?_;rintro i vs mm lo ⟨rfl,hi,l0,hk,P0⟩;have h0:Sl mm [p,q] v:=b0.aX λb c t g hb _=>(by rw[hk b (M.aM hb),hb]);rw[av,h0.len cO,an,aK,Y,ag];rcases hi with⟨rfl,hc⟩|⟨rfl,hc⟩;show lY (decide (((1:Nat):Int)< ((2:Nat):Int))) _ _;rw[show decide (((1:Nat):Int)< ((2:Nat):Int))=true from rfl,bN];have⟨a,e1,e2⟩:=h0.fN (k:=.i64) (i:=1) rfl;rw[e1,Y,e2,Y,bY hc,Y,cj];apply aw (sH hX q p);rw[aK,Y,ag];refine af (λhb=>?_) (λhb=>?_);have hb:=Mv hb;rw[Y,e2,Y];refine aj fR hc rfl rfl rfl λQ0 o0 i0 p0=>?_;refine⟨2,Z,rfl,.inr ⟨rfl,?_⟩,Z,J,Z⟩;rw[i0,show HA p q=q by unfold HA;rw[UG hb]];rfl;have hb:=Z0 hb;refine⟨2,Z,rfl,.inr ⟨rfl,?_⟩,l0,hk,Z⟩;rw[hc,show HA p q=p by unfold HA;rw[ND hb]];show lY (decide (((2:Nat):Int)< ((2:Nat):Int))) _ _;rw[show decide (((2:Nat):Int)< ((2:Nat):Int))=false from rfl,aT,bY hc,Y];have g0:mm.get m.n=.cells [I 0,I 0] 46 none:=J;refine aj fR g0 rfl rfl rfl λn0 q0 F r0=>?_;have F:n0.get m.n=.cells (HA p q).c 46 none:=F;rw[bY F,Y];exact⟨rfl,Z⟩
structure Di(X:aF):Prop where
 pl:∀(m:M) (b:Nat) (p q:Pl),m.get b=.cells (p.c++q.c) 46 none->∃m' lo,C X (.func 128) [.slice (some ⟨b,0,none⟩) 2 2,.func (.func 83) #[] #[]] m lo (.tuple #[]) m'/\b<=lo/\m'.n=m.n/\m'.get b=.cells ((iH p q).c++(HM p q).c) 46 none/\∀c,c≠b->m'.get c=m.get c
def Uq:aQ TE m 41 2 [(0,p.v),(1,q.v)]=some (.slice (some ⟨m.n,0,none⟩) 2 2,m.push (.cells (p.c++q.c) 46 none)):=bv
def AF(h:m.get b=.cells (p.c++q.c) 46 g):Sl m [p,q] (Hr b 0 2 2):=
 .inr ⟨b,0,2,_,g,rfl,h,R8 _,λi z hi=>by match i with|0=>cases hi;rfl|1=>cases hi;rfl|i+2=>simp at hi⟩
def acf(hX:cp X)(hS:Di X)(p q r s:Pl):xw X 82 [p.v,q.v,r.v,s.v] m (.tuple #[(rG p q r s).v,(Od p q r s).v]) m:=by
 apply Cl.fl hX (U5 func82);rw[F82];dsimp only[aH];refine ah λm1 d2 c1 e2=>?_;refine ah λm2 h2 d1 e1=>?_;refine ah λm3 i2 h1 r0=>?_;refine ah λm4 j2 i1 q0=>?_;refine ah λm5 k2 l2 n0=>?_;refine ah λm6 o2 j1 o0=>?_;have g0:m6.get m.n=.cells p.c 46 none:=(by rw[o0 _ Z,n0 _ Z,q0 _ Z,r0 _ Z,e1 _ Z];exact c1);have g1:m6.get m1.n=.cells q.c 46 none:=(by rw[o0 _ Z,n0 _ Z,q0 _ Z,r0 _ Z];exact d1);have g2:m6.get m2.n=.cells r.c 46 none:=(by rw[o0 _ Z,n0 _ Z,q0 _ Z];exact h1);have g3:m6.get m3.n=.cells s.c 46 none:=(by rw[o0 _ Z,n0 _ Z];exact i1);have g4:m6.get m4.n=.cells [I 0,I 0] 46 none:=J;have g5:m6.get m5.n=.cells [I 0,I 0] 46 none:=j1;unfold ptrTo;rw[bY g0,Y,bY g1,Y,Uq,an];obtain⟨m10,b0⟩:∃x,x=m6.push (.cells (p.c++q.c) 46 none):=⟨_,rfl⟩;rw[<-b0];have v1:m10.n=m6.n+1:=(by rw[b0];rfl);have w1:m10.get m6.n=.cells (p.c++q.c) 46 none:=(by rw[b0];exact M.aU);have i0:∀c,c<m6.n->m10.get c=m6.get c:=λc hc=>(by rw[b0];exact M.cH hc);rw[bY (by rw[i0 _ Z];exact g2),Y,bY (by rw[i0 _ Z];exact g3),Y,Uq,an];obtain⟨m14,d0⟩:∃x,x=m10.push (.cells (r.c++s.c) 46 none):=⟨_,rfl⟩;rw[<-d0];have A1:m14.n=m10.n+1:=(by rw[d0];rfl);have B1:m14.get m10.n=.cells (r.c++s.c) 46 none:=(by rw[d0];exact M.aU);have s0:∀c,c<m10.n->m14.get c=m10.get c:=λc hc=>(by rw[d0];exact M.cH hc);have ga:m14.get m6.n=.cells (p.c++q.c) 46 none:=J;have⟨m16,G1,k1,l1,H1,K1,u0⟩:=hS.pl m14 m6.n p q ga;apply aw k1;have gb:m16.get m10.n=.cells (r.c++s.c) 46 none:=J;have⟨m19,L1,o1,p1,O1,y0,A0⟩:=hS.pl m16 m10.n r s gb;apply aw o1;have s1:=AF (m:=m19) (p:=iH p q) (q:=HM p q) (b:=m6.n) (g:=none) J;have s2:=AF (m:=m19) (p:=iH r s) (q:=HM r s) (b:=m10.n) (g:=none) y0;have⟨a1,x1,y1⟩:=s1.fN (k:=.i64) (i:=0) rfl;have⟨a2,x2,y2⟩:=s2.fN (k:=.i64) (i:=0) rfl;have⟨a3,x3,y3⟩:=s1.fN (k:=.i64) (i:=1) rfl;have⟨a4,x4,y4⟩:=s2.fN (k:=.i64) (i:=1) rfl;have x1:aD TE 41 (Hr m6.n 0 2 2) (I 0)=some a1:=x1;have x2:aD TE 41 (Hr m10.n 0 2 2) (I 0)=some a2:=x2;have x3:aD TE 41 (Hr m6.n 0 2 2) (I 1)=some a3:=x3;have x4:aD TE 41 (Hr m10.n 0 2 2) (I 1)=some a4:=x4;rw[x1,Y,y1,Y,x2,Y,y2,Y,Uq,an];obtain⟨F,e0⟩:∃x,x=m19.push (.cells ((iH p q).c++(iH r s).c) 46 none):=⟨_,rfl⟩;rw[<-e0];have j0:Ext m19 F:=(by rw[e0];exact Ext.refl.push);have Q1:F.n=m19.n+1:=(by rw[e0];rfl);have B0:F.get m19.n=.cells ((iH p q).c++(iH r s).c) 46 none:=(by rw[e0];exact M.aU);refine aw (UH hX (AF B0)) ⟨R8 _,?_⟩;have t1:=s1.ak j0;have t2:=s2.ak j0;have⟨a5,x5,y5⟩:=t1.fN (k:=.i64) (i:=1) rfl;have⟨a6,x6,y6⟩:=t2.fN (k:=.i64) (i:=1) rfl;have x5:aD TE 41 (Hr m6.n 0 2 2) (I 1)=some a5:=x5;have x6:aD TE 41 (Hr m10.n 0 2 2) (I 1)=some a6:=x6;rw[x5,Y,y5,Y,x6,Y,y6,Y,Uq,an];obtain⟨p0,h0⟩:∃x,x=F.push (.cells ((HM p q).c++(HM r s).c) 46 none):=⟨_,rfl⟩;rw[<-h0];have O0:Ext F p0:=(by rw[h0];exact Ext.refl.push);have T1:p0.n=F.n+1:=(by rw[h0];rfl);have P0:p0.get F.n=.cells ((HM p q).c++(HM r s).c) 46 none:=(by rw[h0];exact M.aU);apply aw (aaU hX (AF P0))
 have iF:∀c,c<m6.n->p0.get c=m6.get c:=λc hc=>(by rw[O0.get c Z,j0.get c Z,A0 c Z,u0 c Z,s0 c Z,i0 c hc]);have k4:=(iF m4.n Z).trans g4;have k5:=(iF m5.n Z).trans g5;refine aj fR k4 rfl rfl rfl λr1 b2 k0 Q0=>?_;have k0:r1.get m4.n=.cells (rG p q r s).c 46 none:=k0;refine aj fR ((Q0 m5.n Z).trans k5) rfl rfl rfl λu1 c2 l0 b1=>?_;have l0:u1.get m5.n=.cells (Od p q r s).c 46 none:=l0;rw[bY (by rw[b1 _ Z];exact k0),Y,bY l0,Y];exact⟨rfl,Z⟩
def ZM:bE TE .eql 46 p.v q.v=some (.bool (decide (p=q))):=by have e:bE TE .eql 46 p.v q.v=(eq? TE 46 p.v q.v).map (λb=> .bool b):=bv;rw[e,WB];rfl
abbrev pR(p q:Pl):ν:=[.int .i64 p.x,.int .i64 p.y,.int .i64 q.x,.int .i64 q.y]
abbrev wH:ν:=[.int .i64 0,.int .i64 0,.int .i64 0,.int .i64 0]
def kk:Option (Pl×Pl)->ν
 |some x=>pR x.1 x.2
 |none=>wH
def oB:bz TE 48 [(0,p.v),(1,q.v)]=some (.agg (pR p q).toArray):=bv
def tF:bz TE 48 []=some (.agg wH.toArray):=bv
def uX{α:Type}{f:Nat->Option α}:∀{n:Nat},(∀j,j<n->f j=none)->(List.range n).findSome? f=none:=by grind
theorem tg{α:Type}{f:Nat->Option α}{x:α}:∀{n k:Nat},k<n->(∀j,j<k->f j=none)->f k=some x->(List.range n).findSome? f=some x
 |n+1,k,hk,h,F=>by rw[Oz,List.findSome?_append];by_cases e:k<n;rw[tg e h F];rfl;grind
def BG{m1 m2:Nat}{o:Option (Pl×Pl)}{b:Bool}(F:mm.get m1=.cells (kk o) 48 none)(h2:mm.get m2=.cells [.bool b] 4 none){P:O->O->Prop}(hP:P (.agg (kk o).toArray) (.bool b)):
  aS (aC TE mm 48 (Ω m1 0)) λv=>aS (aC TE mm 4 (Ω m2 0)) λw=>P v w:=by have hl:(kk o).length=4:=(by cases o <;>rfl);rw[xE,aI F J];have e:((kk o).drop 0).take 4=kk o:=J;rw[e];show aS (some (Value.agg (kk o).toArray)) _;rw[Y,sQ,aG h2];exact hP
theorem Kh{P:Prop}:N9 [] P=P:=rfl
theorem abL(hX:cp X)(hS:Di X){a b:List Pl}{va vb:O}(ha:Sl m a va)(hb:Sl m b vb)(la:a.length<1000000)(lb:b.length<1000000):
  xw X 29 [va,vb] m (.tuple #[.agg (kk (pQ a b)).toArray,.bool (pQ a b).isSome]) m:=by
 refine Cl.flat (hX.no _ rfl) (U5 func29) rfl (by cases pQ a b <;>rfl) ?_;rw[F29];dsimp only[δ,η,θ,ι,ξ,ο,ς,υ,χ,ψ,ω,Γ,Δ,Θ,Λ];refine ah λm1 h6 w3 i6=>?_;refine ah λm2 j6 k6 l6=>?_;refine ah λm3 n6 y3 o6=>?_;rw[hb.cells]at w3;unfold ptrTo;have e1:Ext m m3:=⟨Z,J⟩;have g0:m3.get m.n=.cells [vb] 41 none:=J;have g1:m3.get m1.n=.cells wH 48 none:=J;have g2:m3.get m2.n=.cells [P6] 4 none:=y3;have ld:∀mm:M,mm.get m.n=.cells [vb] 41 none->aC TE mm 41 (Ω m.n 0)=some vb:=λmm h=>(by rw[oP,aG h];rfl);have a2:=ha.ak e1;have b2:=hb.ak e1;refine xr (λvs m' lo=>vs=[.bool (!(bO a && bO b && !ia a b))]/\m'=m3/\m.n<=lo) (λR hR=>?_) ?_
 ·apply aw (mg hX a2 Z);rw[bB,Y,ag];refine af (λh=>?_) (λh=>?_);have h:bO a=false:=J;exact hR ⟨J,rfl,Z⟩;have h:bO a:=J;rw[ld m3 g0,Y];apply aw (mg hX b2 Z);rw[bB,Y,ag];refine af (λh'=>?_) (λh'=>?_);have h':bO b=false:=J;exact hR ⟨J,rfl,Z⟩;have h':bO b:=J;rw[ld m3 g0,Y];apply aw (sB hX a2 b2 la lb);exact hR ⟨dg,rfl,Z⟩
 rintro _ m6 r6 ⟨rfl,rfl,a5⟩;rw[av,ag];refine af (λh=>?_) (λh=>?_)
 ·have h:(bO a && bO b && !ia a b)=false:=(by cases h':(bO a && bO b && !ia a b)with|false=>rfl|true=>rw[h']at h;cases h);have e:pQ a b=none:=(by unfold pQ;rw[ND J]);rw[tF,Y];refine aj zE g1 rfl rfl rfl λm24 b5 c2 d2=>?_;refine aj E9 (by rw[d2 _ Z];exact g2) rfl rfl rfl λs6 c5 i2 j2=>?_;refine BG (o:=none) (b:=false) (by rw[j2 _ Z];exact c2) i2 ⟨by rw[e];rfl,Z⟩
 have hv:(bO a && bO b && !ia a b):=(by cases h':(bO a && bO b && !ia a b)with|true=>rfl|false=>rw[h']at h;cases h);have o2:=hv;simp only[G4]at o2;obtain⟨⟨A3,B3⟩, -⟩:=o2;have e:pQ a b=BH a b:=(by unfold pQ;rw[UG hv]);have sa:=me A3;have sb:=me B3;have⟨b0,hc,j0,d5,e5⟩:=CV (m:=m6) hX ha.cells;apply aw hc;rw[cj];have k0:b0.get m.n=.cells [vb] 41 none:=j0.cells g0;have k1:b0.get m1.n=.cells wH 48 none:=j0.cells g1;have k2:b0.get m2.n=.cells [P6] 4 none:=j0.cells g2;have hx:Ext m b0:=e1.trans j0;have u6:=j0.n;refine⟨.ob λ_=>False,mO a,_,λi mm=>b0.n<=mm.n/\(∀c,c<b0.n->mm.get c=b0.get c)/\∀j,j<i->Kr a b j=none,λe mm=>e=.ret/\∃x,BH a b=some x/\mm.get m1.n=.cells (pR x.1 x.2) 48 none/\mm.get m2.n=.cells [VT] 4 none,m.n,⟨_,rfl⟩,zo hX (v:=va) (b:=m6.n) Z,Z,?_,?_,?_,⟨R8 _,λ_ _=>rfl,λj hj=>Z⟩,?_,?_,?_⟩
 ·rintro i mm ⟨h1,h2,h3⟩;refine⟨J,?_⟩;exact ha.aX λb c t g hb ht=>by have:=M.aM hb;rw[h2 b Z,hx.get b this,hb]
 ·rintro i mm i1 ⟨h1,h2,h3⟩ hk;exact⟨by have:=hk.n;omega,λc hc=>by rw[hk.get c Z Z,h2 c hc],h3⟩
 ·rintro e mm i1 ⟨h,x,h1,h2,h3⟩ hk;have l1:=M.aM h2;have l2:=M.aM h3;exact⟨h,x,h1,by rw[hk.get _ l1 Z,h2],by rw[hk.get _ l2 Z,h3]⟩
 ·rintro i args B0 f5 G3 ⟨h1,h2,h3⟩;obtain⟨pa,pb,j1,u2,rfl⟩:=zn G3;have O3:i<a.length:=(Nr.1 j1).1;have ea:jF a i=pa:=Gn j1;have eb:nxP a i=pb:=Gn u2;rw[av,av,Kh];refine ah λv6 g5 v2 h5=>?_;refine aj fR v2 rfl rfl rfl λw2 i5 y2 j5=>?_;refine ah λw6 k5 z2 A2=>?_;refine aj fR z2 rfl rfl rfl λb4 l5 B2 G2=>?_;have o1:∀c,c<B0.n->b4.get c=B0.get c:=J;refine⟨λc _ hc=>o1 c hc,λl0 m5 b1=>?_⟩;dsimp only;have c4:∀c,c<b0.n->l0.get c=b0.get c:=J;have ra:l0.get B0.n=.cells pa.c 46 none:=(by rw[b1 _ Z,G2 _ Z,A2 _ Z,y2];rfl);have rb:l0.get w2.n=.cells pb.c 46 none:=(by rw[b1 _ Z,B2];rfl);rw[ld l0 J,Y];have⟨d0,L2,h0,n5,o5⟩:=CV (m:=l0) hX hb.cells;apply aw L2;rw[cj];have d4:=h0.n;have e4:∀c,c<b0.n->d0.get c=b0.get c:=λc hc=>(by rw[h0.get c Z,c4 c hc]);refine⟨.ob λ_=>False,mO b,_,λk mm=>d0.n<=mm.n/\(∀c,c<d0.n->mm.get c=d0.get c)/\∀j,j<k->wI pa pb (jF b j) (nxP b j)=none,λe mm=>d0.n<=mm.n/\e=.ret/\∃x,BH a b=some x/\mm.get m1.n=.cells (pR x.1 x.2) 48 none/\mm.get m2.n=.cells [VT] 4 none/\mm.get b0.n=l0.get b0.n,m.n,⟨_,rfl⟩,zo hX (v:=vb) (b:=l0.n) Z,Z,?_,?_,?_,⟨R8 _,λ_ _=>rfl,λj hj=>Z⟩,?_,?_,?_⟩
  ·rintro k mm ⟨q1,q2,q3⟩;refine⟨J,?_⟩;exact hb.aX λb c t g hb ht=>by have:=M.aM hb;rw[q2 b Z,e4 b Z,hx.get b this,hb]
  ·rintro k mm i1 ⟨q1,q2,q3⟩ hk;exact⟨by have:=hk.n;omega,λc hc=>by rw[hk.get c Z Z,q2 c hc],q3⟩
  ·rintro e mm i1 ⟨q0,h,x,q1,q2,q3,q4⟩ hk;exact⟨by have:=hk.n;omega,h,x,q1,by rw[hk.get _ Z Z,q2],by rw[hk.get _ Z Z,q3],by rw[hk.get _ Z Z,q4]⟩
  ·rintro k args s0 r5 f4 ⟨q1,q2,q3⟩;obtain⟨pr,ps,p1,M2,rfl⟩:=zn f4;have g4:k<b.length:=(Nr.1 p1).1;have er:jF b k=pr:=Gn p1;have es:nxP b k=ps:=Gn M2;have da:=sa _ (QP j1);have db:=sa _ (QP u2);have dr:=sb _ (QP p1);have ds:=sb _ (QP M2);rw[av,av,Kh];refine ah λy6 u5 O2 v5=>?_;refine aj fR O2 rfl rfl rfl λh4 w5 P2 y5=>?_;refine ah λz6 z5 Q2 T2=>?_;refine aj fR Q2 rfl rfl rfl λj4 A5 U2 b3=>?_;have r1:∀c,c<s0.n->j4.get c=s0.get c:=J;refine⟨λc _ hc=>r1 c hc,λm64 B5 c1=>?_⟩;dsimp only;have u1:∀c,c<d0.n->m64.get c=d0.get c:=J;have ta:m64.get B0.n=.cells pa.c 46 none:=(by rw[u1 _ Z,h0.get _ Z,ra]);have tb:m64.get w2.n=.cells pb.c 46 none:=(by rw[u1 _ Z,h0.get _ Z,rb]);have tr:m64.get s0.n=.cells pr.c 46 none:=(by rw[c1 _ Z,b3 _ Z,T2 _ Z,P2];rfl);have ts:m64.get h4.n=.cells ps.c 46 none:=(by rw[c1 _ Z,U2];rfl)
   have skip:wI pa pb pr ps=none->∀(mm:M) (lo:Nat),m64.n<=mm.n->(∀c,c<m64.n->mm.get c=m64.get c)->m.n<=lo->
     m.n<=lo/\(∀c,d0.n<=c->c<s0.n->(c=d0.n\/False)->mm.get c=m64.get c)/\(d0.n<=mm.n/\(∀c,c<d0.n->mm.get c=d0.get c)/\∀j,j<k+1->wI pa pb (jF b j) (nxP b j)=none):=by
    intro k4 mm lo l4 u0 o0;refine⟨o0,λc _ hc _=>u0 c Z,Z,J,λj hj=>?_⟩;by_cases e:j=k;·rw[e,er,es];exact k4
    ·exact q3 j Z
   refine xr (λvs m' lo=>vs=[.bool (decide (dW pa pb pr≠0\/dW pa pb ps≠0))]/\m'=m64/\m.n<=lo) (λR hR=>?_) ?_
   ·rw[bY ta,Y,bY tb,Y,bY tr,Y];apply aw (AD hX da db dr);rw[bZ,Y,ag];refine af (λh=>?_) (λh=>?_);have h:dW pa pb pr≠0:=J;exact hR ⟨J,rfl,Z⟩;have h:dW pa pb pr=0:=J;rw[bY ta,Y,bY tb,Y,bY ts,Y];apply aw (AD hX da db ds);rw[bZ,Y];refine hR ⟨?_,rfl,Z⟩;congr 2;rw[Qi];simp[h]
   rintro _ n0 c3 ⟨rfl,rfl,v1⟩;rw[av,ag];refine af (λh=>?_) (λh=>?_);·have h:=Mv h;exact skip (by unfold wI;rw[UG h]) n0 c3 (R8 _) (λ_ _=>rfl) v1
   have p0:=Z0 h;rw[bY ta,Y,bY tb,Y,bY tr,Y,bY ts,Y];apply aw (acf hX hS pa pb pr ps);rw[aE,aE];simp only[XW,Q7,Y];refine ah λO0 O5 d3 a6=>?_;refine ah λA6 b6 e3 g3=>?_;refine aj fR ((g3 n0.n Z).trans d3) rfl rfl rfl λB6 c6 i3 j3=>?_;refine aj fR ((j3 O0.n Z).trans e3) rfl rfl rfl λP0 d6 k3 l3=>?_;have tf:P0.get n0.n=.cells (rG pa pb pr ps).c 46 none:=(by rw[l3 _ Z];exact i3);have tt:P0.get O0.n=.cells (Od pa pb pr ps).c 46 none:=k3;have Q0:∀c,c<n0.n->P0.get c=n0.get c:=J;refine xr (λvs m' lo=>vs=[.bool (decide (rG pa pb pr ps=Od pa pb pr ps\/0<vB (rG pa pb pr ps) (Od pa pb pr ps)))]/\m'=P0/\m.n<=lo) (λR hR=>?_) ?_
   ·rw[bY tf,Y,bY tt,Y,ZM,Y,ag];refine af (λh=>?_) (λh=>?_);have h:=Mv h;exact hR ⟨J,rfl,Z⟩;have h:=Z0 h;apply aw (sH hX _ _);rw[cC,Y];refine hR ⟨?_,rfl,Z⟩;congr 2;rw[ge];exact⟨λq=> .inr q,λq=>q.resolve_left h⟩
   rintro _ e0 r0 ⟨rfl,rfl,a1⟩;rw[av,ag];refine af (λh=>?_) (λh=>?_);·have h:=Mv h;exact skip (by unfold wI;rw[ND p0,UG h]) e0 r0 Z (λc hc=>Q0 c hc) a1
   have n3:=Z0 h;rw[bY (by rw[Q0 _ Z];exact ta),Y,bY (by rw[Q0 _ Z];exact tb),Y];apply aw (sH hX _ _);rw[cC,Y,ag];have m4:e0.get m1.n=.cells wH 48 none:=J;have n4:e0.get m2.n=.cells [P6] 4 none:=J
   have fin:∀(x:Pl×Pl) (mm:M) (F:Nat->Nat->Nat),wI pa pb pr ps=some x->mm.n=e0.n->(∀c,c<n0.n->mm.get c=e0.get c)->m.n<=F m1.n m2.n->
     dh (bh TE mm 48 (Ω m1.n 0) (.agg (pR x.1 x.2).toArray)) λd1 o3=>dh (bh TE d1 4 (Ω m2.n 0) VT) λi0 r3=>
      m.n<=F o3 r3/\(∀c,d0.n<=c->c<s0.n->(c=d0.n\/False)->i0.get c=n0.get c)/\(d0.n<=i0.n/\True/\∃x,BH a b=some x/\i0.get m1.n=.cells (pR x.1 x.2) 48 none/\i0.get m2.n=.cells [VT] 4 none/\i0.get b0.n=l0.get b0.n):=by
    intro x mm F o4 l4 u0 o0;refine aj zE ((u0 m1.n Z).trans m4) rfl rfl rfl λd1 r4 w1 y0=>?_;refine aj E9 ((y0 m2.n Z).trans ((u0 m2.n Z).trans n4)) rfl rfl rfl λi0 u4 y1 A0=>?_;refine⟨o0,J,Z,trivial,x,?_,by rw[A0 _ Z];exact w1,y1,?_⟩;·unfold BH;apply tg O3 h3;unfold Kr;rw[ea,eb];apply tg g4 (λj hj=>q3 j hj);rw[er,es];exact o4
    ·rw[A0 _ Z,y0 _ Z,u0 _ Z,Q0 _ Z,u1 _ Z,h0.get _ Z]
   refine af (λh=>?_) (λh=>?_);·have h:=Mv h;rw[bY tt,Y,bY tf,Y];refine aj fR tf rfl rfl rfl λe6 w4 A1 B1=>?_;refine aj fR ((B1 O0.n Z).trans tt) rfl rfl rfl λu3 y4 G1 H1=>?_;rw[bY (p:=Od pa pb pr ps) (by rw[H1 _ Z];exact A1),Y,bY (p:=rG pa pb pr ps) G1,Y,oB,Y];exact fin (Od pa pb pr ps,rG pa pb pr ps) u3 (λa b=>min (min (min (min (min r0 e0.n) n0.n) O0.n) a) b) (by unfold wI;rw[ND p0,ND n3,UG h]) Z J Z
   ·have h:=Z0 h;rw[bY tf,Y,bY tt,Y,oB,Y];exact fin (rG pa pb pr ps,Od pa pb pr ps) e0 (λa b=>min (min (min r0 e0.n) a) b) (by unfold wI;rw[ND p0,ND n3,ND h]) rfl (λ_ _=>rfl) Z
  ·rintro mm iH ⟨q1,q2,q3⟩ o0;refine⟨Z,λc A4 B4 K1=>?_,Z,J,λj hj=>?_⟩;rcases K1 with rfl|h;rw[q2 _ Z,h0.get _ Z];exact h.elim;by_cases e:j=i;subst e;unfold Kr;rw[ea,eb];rw[uF]at q3;exact uX q3;exact h3 j Z
  ·rintro e mm iH O4 ⟨q0,rfl,x,q1,q2,q3,q4⟩ o0;refine⟨_,RV.2 rfl,rfl,?_⟩;dsimp only;refine⟨Z,λc A4 B4 K1=>?_,rfl,x,q1,q2,q3⟩;rcases K1 with rfl|h;exact q4;exact h.elim
 ·rintro mm iH ⟨h1,h2,h3⟩ o0;rw[uF]at h3;have e':pQ a b=none:=(by rw[e];unfold BH;exact uX h3);rw[tF,Y];refine aj zE ((h2 m1.n Z).trans k1) rfl rfl rfl λf6 R4 L1 O1=>?_;refine aj E9 ((O1 m2.n Z).trans ((h2 m2.n Z).trans k2)) rfl rfl rfl λg6 W4 Q1 T1=>?_;refine BG (o:=none) (b:=false) (by rw[T1 _ Z];exact L1) Q1 ⟨by rw[e'];rfl,Z⟩
 rintro e2 mm iH O4 ⟨rfl,x,q1,q2,q3⟩ o0;refine⟨_,RV.2 rfl,rfl,?_⟩;dsimp only;have e':pQ a b=some x:=J;refine BG (o:=some x) (b:=true) q2 q3 ⟨by rw[e'];rfl,Z⟩
section
set_option maxRecDepth 100000
set_option maxHeartbeats 0
variable{W:Words}{x0 x1 x2:O}{m:M}{R:ν->M->Nat->Prop}
def F9:=cN (P:=dB TE W Tryz.f9 [x0,x1] m R)
def F181:=cN (P:=dB TE W f181 [x0] m R)
def F229:=cN (P:=dB TE W f229 [x0,x1,x2] m R)
end
def H5:Option Ct->ν
 |some x=>x.c'
 |none=>Ct.zc
def fK(o:Option Ct):(H5 o).length=8:=by cases o <;>rfl
def oX(o:Option Ct):(H5 o).all one:=by cases o <;>rfl
def pD{F:Nat}{cs:ν}{o:Option Ct}(h0:mm.get F=.cells cs 50 g)(hl:cs.length=8){P:O->M->Nat->Prop}(hP:∀m',m'.n=mm.n->P (.agg (H5 o).toArray) m' F):
  dh (bh TE mm 50 (Ω F 0) (.agg (H5 o).toArray)) λm' b=>aS (aC TE m' 50 (Ω F 0)) λv=>P v m' b:=by refine aj wB h0 (by rw[bd];show(H5 o).length=8;exact fK o) (by rw[bd,hl];exact fK o) (by rw[bd];exact oX o) λm' hn hg hk=>?_;rw[bd]at hg;have hg:m'.get F=.cells (H5 o) 50 g:=hg;rw[K2,aI hg (by rw[fK];exact R8 _)];have e:((H5 o).drop 0).take 8=H5 o:=(by rw[Mf,MM (by rw[fK];exact R8 _)]);rw[e];show aS (some (Value.agg (H5 o).toArray)) _;rw[Y];grind
def nI:bz TE 50 []=some (.agg (H5 none).toArray):=bv
def yh{a b x y:Int}:bz TE 50 [(0,.int .i64 a),(1,.int .i64 b),(2,.agg (pR p q).toArray),(3,.int .i64 x),(4,.int .i64 y)]=some (.agg (H5 (some ⟨a,b,p,q,x,y⟩)).toArray):=bv
def iD(o:Option (Pl×Pl)):(kk o).length=4:=by cases o <;>rfl
def yH(o:Option (Pl×Pl)):(kk o).all one:=by cases o <;>rfl
def aa2{a b:Un}(h:mP a b):kR a/\kR b:=by unfold mP at h;grind
theorem D6(hX:cp X)(hS:Di X){a b:Un}{va vb:O}(ha:Sl m a.shape va)(hb:Sl m b.shape vb)(la:a.shape.length<1000000)(lb:b.shape.length<1000000):
  xw X 9 [a.v va,b.v vb] m (.tuple #[.agg (H5 (se a b)).toArray,.bool (se a b).isSome]) m:=by refine Cl.flat (hX.no _ rfl) (U5 func9) rfl (by cases se a b <;>rfl) ?_;rw[F9];dsimp only[aH];refine ah λm1 r0 j0 s0=>?_;refine ah λm2 u0 k0 y0=>?_;refine ah λm3 A0 l0 B0=>?_;simp only[bd]at j0 k0;have e0:Ext m m3:=⟨Z,J⟩;have g1:m3.get m.n=.cells (a.c va) 43 none:=J;have g2:m3.get m1.n=.cells (b.c vb) 43 none:=J;have g3:m3.get m2.n=.cells Ct.zc 50 none:=l0;obtain⟨a0, -, -,a3,a4,a5⟩:=kS g1;obtain⟨b0, -, -,b3,b4,b5⟩:=kS g2;have g0:=ha.ak e0;have h0:=hb.ak e0;unfold ptrTo;rw[bQ g1,Y,bQ g2,Y];apply aw (zD (m:=m3) hX g0 h0 Z Z);rw[aE,aE,aE];simp only[XW,Q7,Y];rw[bB,Y,ag];refine af (λh=>?_) (λh=>?_);have h:mP a b=false:=J;have e:se a b=none:=(by unfold se;rw[ND J]);rw[nI,Y];refine pD g3 rfl λm' hn=>?_;rw[e];exact⟨rfl,Z⟩;have h:mP a b:=J;have O0:=aa2 h;have e:se a b=(pQ a.shape b.shape).map λs=>⟨a.id,b.id,s.1,s.2,max a.back b.back,min a.front b.front⟩:=(by unfold se;rw[UG h]);rw[bA,Y,a3,Y,bA,Y,b3,Y];apply aw (abL hX hS g0 h0 la lb);rw[aE,aE];simp only[XW,Q7,Y];refine ah λP0 n0 i0 o0=>?_;refine aj zE i0 (by rw[bd];exact iD _) (by rw[bd];exact iD _) (by rw[bd];exact yH _) λd0 p0 F q0=>?_;rw[bd]at F;have F:d0.get m3.n=.cells (kk (pQ a.shape b.shape)) 48 none:=F;have Q0:∀c,c<m3.n->d0.get c=m3.get c:=J;have r3:d0.get m2.n=.cells Ct.zc 50 none:=J;rw[bB,Y,ag];cases hs:pQ a.shape b.shape with|none=>show lY true _ _;rw[bN,nI,Y];refine pD r3 rfl λm' hn=>?_;rw[e,hs];exact⟨rfl,Z⟩|some s=>show lY false _ _;rw[aT];have r1:d0.get m.n=.cells (a.c va) 43 none:=J;have r2:d0.get m1.n=.cells (b.c vb) 43 none:=J;rw[hs]at F;rw[aW,Y,(kS r1).1,Y,aW,Y,(kS r2).1,Y];rw[show aC TE d0 48 (Ω m3.n 0)=some (.agg (pR s.1 s.2).toArray) by rw[xE,aI F (by rw[iD];exact R8 _)];rfl,Y,yh,Y];refine pD r3 rfl λm' hn=>?_;rw[e,hs];exact⟨rfl,Z⟩
theorem _root_.Go.D.Sl.J4{l:List Int}{v:O}(h:Sl m l v){i:Nat}{n:Int}(hi:l[i]?=some n){k:IntKind}:∃a,aD TE 116 v (.int k i)=some a/\aC TE m 3 a=some (I n):=by have⟨a,cs,h1,F,h3⟩:=h.index mX (k:=k) hi;rw[show cs=[I n]from h3]at F;exact⟨a,h1,F⟩
theorem _root_.Go.D.wj.J4{l:List Int}{v:O}(h:wj m l v){i:Nat}{n:Int}(hi:l[i]?=some n){k:IntKind}:∃a,aD TE 116 v (.int k i)=some a/\aC TE m 3 a=some (I n):=by have⟨a,cs,h1,F,h3⟩:=h.index mX (k:=k) hi;rw[show cs=[I n]from h3]at F;exact⟨a,h1,F⟩
def aav{α:Type}{l F:List α}(hl:l.length=F.length)(h:∀j x y,j<l.length->l[j]?=some x->F[j]?=some y->x=y):l=F:=by refine Xx λi=>?_;grind
def QO:bE TE .neq 46 p.v q.v=some (.bool (!(decide (p=q)))):=by have e:bE TE .neq 46 p.v q.v=(eq? TE 46 p.v q.v).map (λb=> .bool (!b)):=bv;rw[e,WB];rfl
def abP{a b:Int}:bz TE 103 [(0,.int .i64 a),(1,.int .i64 b)]=some (Fc.mk a b).v:=bv
def Xt{x:Fc}:aQ TE m 34 1 [(0,x.v)]=some (.slice (some ⟨m.n,0,none⟩) 1 1,m.push (.cells x.c 103 none)):=bv
def EH(hX:cp X){n1 F uo:Nat}{u:Un}{w r x0:O}{acc:List Fc}{ss:List Int}(l0:m.get F=.cells [r] 34 none)(hu:m.get uo=.cells (u.c w) 43 none)
  (h1:F<n1) (h2:uo<n1) (u0:uo≠F) (hn:n1<=m.n) (hw:Ow n1 m acc r) (hs:Sl m ss x0) (y0:acc.length+ss.length<1000000) (A0:0<ss.length):
  ∃m' b r',C X (.func 229) [x0,Ω F 0,Ω uo 0] m b (.tuple #[]) m'/\F<=b/\m'.get F=.cells [r'] 34 none/\Ow n1 m' (acc++ss.map (Fc.mk u.id)) r'/\m.n<=m'.n/\∀c,c<n1->c≠F->m'.get c=m.get c:=by have key:=Cl.heap (E:=TE) (X:=X) (f:=229) (args:=[x0,Ω F 0,Ω uo 0]) (m:=m) (R:=λv' m' b=>v'=.tuple #[]/\F<=b/\∃r',m'.get F=.cells [r'] 34 none/\Ow n1 m' (acc++ss.map (Fc.mk u.id)) r'/\m.n<=m'.n/\∀c,c<n1->c≠F->m'.get c=m.get c) (hX.no _ rfl) (U5 func229) rfl ?_;obtain⟨v',m',b,hc,rfl,hb,r',k1,k2,k3,k4⟩:=key;exact⟨m',b,r',hc,hb,k1,k2,k3,k4⟩;rw[F229];dsimp only[aH];rw[hs.len mX,an];refine Lp.intro (γ:=Nat) (λi=>ss.length-i) (λi vs mm lo=>vs=[I i]/\i<=ss.length/\(i=0\/lo<=F)/\F<=lo/\m.n<=mm.n/\Sl mm ss x0/\(∀c,c<n1->c≠F->mm.get c=m.get c)/\∃r',mm.get F=.cells [r'] 34 none/\Ow n1 mm (acc++(ss.take i).map (Fc.mk u.id)) r') 0 ⟨rfl,Vw _,.inl rfl,Z,R8 _,hs,λ_ _ _=>rfl,r,l0,J⟩ ?_;rintro i vs mm lo ⟨rfl,hi,r0,B0,n0,g0,o0,r',hr,e0⟩;rw[av,aK,Y,ag];refine af (λh0=>?_) (λO0=>?_);have h0:i<ss.length:=J;obtain⟨s,i0⟩:∃s,ss[i]?=some s:=⟨_,QC h0⟩;have⟨q,e1,e2⟩:=g0.J4 (k:=.i64) i0;have p0:mm.get uo=.cells (u.c w) 43 none:=J;rw[e1,Y,e2,Y,show aC TE mm 34 (Ω F 0)=some r' by rw[FM,aG hr];rfl,Y,aW,Y,(kS p0).1,Y,abP,Y,Xt,an];obtain⟨m16,b0⟩:∃x,x=mm.push (.cells (Fc.mk u.id s).c 103 none):=⟨_,rfl⟩;rw[<-b0];have d0:Ext mm m16:=(by rw[b0];exact Ext.refl.push);have s0:m16.n=mm.n+1:=(by rw[b0];rfl);have j0:m16.get mm.n=.cells (Fc.mk u.id s).c 103 none:=(by rw[b0];exact M.aU);have k0:=lz (m:=m16) (x:=Fc.mk u.id s) j0 rfl;obtain⟨r2,m18,m19,a1,a2,a3,a4,a5,a6,a7,a8⟩:=Qm (T:=34) Gq rfl PA rfl (m:=mm) (m1:=m16) (x:=Fc.mk u.id s) hr (o:=0) rfl h1 Z e0 d0 k0 J;rw[a1,an,a2,an,aO,Y,wrap64];refine⟨i+1,Z,rfl,Z,.inr Z,Z,Z,?_,J,r2,a4,?_⟩;refine(g0.ak d0).aX λb c t g hb ht=>?_;have ht:t=3:=RV.1 ht;subst ht;rw[a8 b (M.aM hb) (λe=>?_) (λcs g' h'=>?_),hb];rw[e,d0.cells hr]at hb;cases hb;rw[h']at hb;cases hb;rw[Z8,i0];simp only[My,MN,UM,T5];rw[<-NZ];exact a5;have q0:i=ss.length:=(by have:¬(i:Int)< (ss.length:Int):=J;omega);subst q0;rw[W8]at e0;exact⟨.inr Z,rfl,Z,r',hr,e0,n0,o0⟩
def pC(u:Un):List Fc:=if kR u then(List.range u.shape.length).map (λi=>Fc.mk u.id (i:Nat))++ [⟨u.id, -1⟩,⟨u.id, -2⟩]else []
def Sx(hX:cp X){u:Un}{w:O}(ha:Sl m u.shape w)(la:u.shape.length<1000000):
  ∃m' v,xw X 181 [u.v w] m v m'/\Ext m m'/\Ow m.n m' (pC u) v:=by refine Cl.ky hX (U5 func181) (R:=λv' m'=>Ext m m'/\Ow m.n m' (pC u) v') ?_ λv' m' hc ⟨hx,hw⟩=>⟨m',v',hc,hx,hw⟩;rw[F181];dsimp only[aH];refine ah λm1 b1 j0 c1=>?_;simp only[bd]at j0;have k0:Ext m m1:=⟨Z,J⟩;have g1:m1.get m.n=.cells (u.c w) 43 none:=j0;have l0:=ha.ak k0;unfold ptrTo;rw[bQ g1,Y];apply aw (ll hX l0 Z);rw[bB,Y,ag];refine af (λh=>?_) (λh=>?_);have h:kR u=false:=J;refine .inl ⟨rfl,Z,rfl,.refl,?_⟩;unfold pC;rw[ND J];exact Ow.nil;have h:kR u:=J;have h8:=lQ h;refine ah λm7 d1 y0 A0=>?_;have i0:Ext m1 m7:=⟨Z,A0⟩;have g7:m7.get m.n=.cells (u.c w) 43 none:=i0.cells g1;rw[bA,Y,(kS g7).2.2.2.1,Y,(l0.ak i0).len cO,an];refine Lp.intro (γ:=Nat) (λi=>u.shape.length-i) (λi vs F lo=>vs=[I i]/\i<=u.shape.length/\m.n<=lo/\m7.n<=F.n/\(∀c,c<m7.n->c≠m1.n->F.get c=m7.get c)/\∃r',F.get m1.n=.cells [r'] 34 none/\Ow m7.n F ((List.range i).map λi=>Fc.mk u.id (i:Nat)) r') 0 ⟨rfl,Vw _,Z,R8 _,λ_ _ _=>rfl,_,y0,Ow.nil⟩ ?_;rintro i vs F lo ⟨rfl,hi,e1,h1,n0,r',hr,o0⟩;have p0:F.get m.n=.cells (u.c w) 43 none:=J;rw[av,aK,Y,ag];refine af (λB0=>?_) (λi1=>?_);have B0:i<u.shape.length:=J;rw[adz,an];obtain⟨m19,b0⟩:∃x,x=F.push (.cells [.int .i64 (i:Int)] 3 none):=⟨_,rfl⟩;rw[<-b0];have d0:Ext F m19:=(by rw[b0];exact Ext.refl.push);have Q0:m19.n=F.n+1:=(by rw[b0];rfl);have q0:m19.get F.n=.cells [I (i:Int)] 3 none:=(by rw[b0];exact M.aU);obtain⟨m21,j1,r2,hc,hb,q1,q2,q3,q4⟩:=EH (m:=m19) hX (n1:=m7.n) (ss:=[(i:Int)]) (d0.cells hr) (d0.cells p0) Z Z Z Z (o0.ak d0) (I0 q0) J co;apply aw hc;rw[aO,Y,wrap64];refine⟨i+1,Z,rfl,Z,Z,Z,λc r0 s0=>by rw[q4 c r0 s0,d0.get c Z,n0 c r0 s0],r2,q1,?_⟩;rw[Oz,MN];exact q2;have O0:i=u.shape.length:=(by have:¬(i:Int)< (u.shape.length:Int):=J;omega);subst O0;rw[Wt,an];obtain⟨h0,e0⟩:∃x,x=F.push (.cells [.int .i64 (-1),.int .i64 (-2)] 3 none):=⟨_,rfl⟩;rw[<-e0];have g0:Ext F h0:=(by rw[e0];exact Ext.refl.push);have a1:h0.n=F.n+1:=(by rw[e0];rfl);have u0:h0.get F.n=.cells [I (-1),I (-2)] 3 none:=(by rw[e0];exact M.aU);obtain⟨P0,k1,r2,hc,hb,q1,q2,q3,q4⟩:=EH (m:=h0) hX (n1:=m7.n) (ss:=[-1, -2]) (g0.cells hr) (g0.cells p0) Z Z Z Z (o0.ak g0) (G5 u0) J co;apply aw hc;rw[show aC TE P0 34 (Ω m1.n 0)=some r2 by rw[FM,aG q1];rfl,Y];refine .inr ⟨.inl (q2.flat co),Z,⟨Z,λc hc=>by rw[q4 c Z Z,g0.get c Z,n0 c Z Z,i0.get c Z,k0.get c hc]⟩,?_⟩;unfold pC;rw[UG h];exact q2.mono Z
def FJ{x:Ct}(h:m.get b=.cells x.c' 50 g):aC TE m 50 (Ω b 0)=some x.v:=by rw[K2,aI (o:=0) (n:=8) h dg];rfl
def Jl{x:Ct}:aQ TE m 117 1 [(0,x.v)]=some (.slice (some ⟨m.n,0,none⟩) 1 1,m.push (.cells x.c' 50 none)):=bv
section
set_option maxRecDepth 100000
set_option maxHeartbeats 0
variable{W:Words}{x0 x1 x2:O}{m:M}{R:ν->M->Nat->Prop}
def F210:=cN (P:=dB TE W f210 [x0,x1,x2] m R)
def F211:=cN (P:=dB TE W f211 [x0] m R)
def F162:=cN (P:=dB TE W f162 [x0] m R)
def F118:=cN (P:=dB TE W f118 [x0] m R)
def F63:=cN (P:=dB TE W f63 [x0] m R)
def F72:=cN (P:=dB TE W f72 [x0,x1] m R)
def F73:=cN (P:=dB TE W f73 [x0,x1] m R)
def F26:=cN (P:=dB TE W f26 [x0] m R)
end
def qb(hX:cp X)(n lo hi:Int):xw X 210 [I n,I lo,I hi] m (.bool (dv n lo hi)) m:=by apply Cl.fl hX (U5 func210);rw[F210];dsimp only[aH];refine xr (λvs m2 F=>vs=[.bool (dv n lo hi)]/\m.n<=F) (λR hR=>?_) ?_;simp only[cI,Y,ag];refine af (λh=>hR ⟨by simp[dv,h],R8 _⟩) (λh=>hR ⟨by simp[dv,h],R8 _⟩);rintro _ m2 F ⟨rfl,hl⟩;rw[av];exact⟨rfl,hl⟩
def Ez(F:cp X)(n:Int):xw X 211 [I n] m (.bool (dv n 0 99)) m:=by apply Cl.fl F (U5 func211);rw[F211];dsimp only[aH];apply aw (qb F _ _ _);exact⟨rfl,Z⟩
def wm(h:m.get b=.cells x.c 68 g):
  aC TE m 3 (Ω b (0+0))=some (I x.id)/\aC TE m 3 (Ω b (0+1))=some (I x.un)/\aC TE m 3 (Ω b (0+2))=some (I x.side)/\
  aC TE m 3 (Ω b (0+3))=some (I x.kind)/\aC TE m 68 (Ω b 0)=some x.v:=by refine⟨?_,?_,?_,?_,?_⟩;rw[bP,aG h];rfl;rw[bP,aG h];rfl;rw[bP,aG h];rfl;rw[bP,aG h];rfl;rw[AS,aI (o:=0) (n:=5) h J];rfl
def vM(x:Mk):Bool:=dv x.id 0 99 && dv x.un 0 99 && dv x.side (-2) 7 && dv x.kind 1 5
def zf(F:cp X)(x:Mk):xw X 162 [x.v] m (.bool (vM x)) m:=by apply Cl.fl F (U5 func162);rw[F162];dsimp only[aH];refine ah λm1 e0 d0 g0=>?_;have g1:m1.get m.n=.cells x.c 68 none:=d0;obtain⟨k0,k1,k2,k3, -⟩:=wm g1;unfold ptrTo;refine xr (λvs m2 b0=>vs=[.bool (vM x)]/\m.n<=b0) (λR hR=>?_) ?_;rw[bR,Y,k0,Y];apply aw (qb F _ _ _);rw[ag];refine af (λh0=>?_) (λh0=>hR ⟨by unfold vM;rw[h0];rfl,Z⟩);rw[cS,Y,k1,Y];apply aw (Ez F _);rw[ag];refine af (λh1=>?_) (λh1=>hR ⟨by unfold vM;rw[h0,h1];rfl,Z⟩);rw[eK,Y,k2,Y];apply aw (qb F _ _ _);rw[ag];refine af (λh2=>?_) (λh2=>hR ⟨by unfold vM;rw[h0,h1,h2];rfl,Z⟩);rw[ja,Y,k3,Y];apply aw (qb F _ _ _);exact hR ⟨by unfold vM;rw[h0,h1,h2];rfl,Z⟩;rintro _ m2 b0 ⟨rfl,hl⟩;rw[av];exact⟨rfl,hl⟩
structure gh(us:List Un)(ms:List Mk):Prop where
 len:ms.length<=20
 ym:ms.Pairwise λa b=>a.id < b.id
 ok:∀x∈ms,vM x=true
 un:∀x∈ms,∃u∈us,u.id=x.un/\x.side < u.shape.length
theorem _root_.Go.D.Sl.qp{l:List Mk}{v:O}(h:Sl m l v){i:Nat}{x:Mk}(hi:l[i]?=some x){k:IntKind}:∃a,aD TE 30 v (.int k i)=some a/\aC TE m 68 a=some x.v:=by have⟨a,cs,h1,h2,F⟩:=h.index cJ (k:=k) hi;have F:cs=x.c:=F;subst F;exact⟨a,h1,h2⟩
def pZ(ms:List Mk):Nat->Int
 |0=> -1
 |i+1=>match ms[i]? with |some x=>x.id |none=> -1
def acV(hX:cp X){l:List UW}{v vm:O}{ms:List Mk}(h:cD m l v)(hP:cq (bH l))(hm:Sl m ms vm)(hM:gh (bH l) ms):xw X 118 [.agg #[v,vm]] m VT m:=by have A1:=hM.len;apply Cl.fl hX (U5 func118);rw[F118];dsimp only[aH];refine ah λm1 B1 P0 Q0=>?_;have g1:m1.get m.n=.cells [v,vm] 32 none:=P0;have g0:Ext m m1:=⟨Z,Q0⟩;unfold ptrTo;have p0:∀mm:M,mm.get m.n=.cells [v,vm] 32 none->aC TE mm 30 (Ω m.n (0+1))=some vm:=λmm hh=>(by rw[jC,aG hh];rfl);have a1:∀mm:M,mm.get m.n=.cells [v,vm] 32 none->aC TE mm 29 (Ω m.n (0+0))=some (.agg #[v]):=λmm hh=>(by rw[cW,aI (n:=1) hh (by show 0+0+1<=2;decide)];rfl);rw[bI,Y,p0 m1 g1,Y,(hm.ak g0).len cJ,an];refine Lp.intro (γ:=Nat) (λi=>ms.length-i) (λi vs mm lo=>vs=[P6,I (pZ ms i),I i]/\i<=ms.length/\Ext m1 mm/\m.n<=lo) 0 ⟨rfl,Vw _,.refl,R8 _⟩ ?_;rintro i vs mm lo ⟨rfl,hi,hx,b1⟩;rw[av,av,av,aK,Y,ag];have G1:=hx.n;refine af (λj0=>?_) (λH1=>?_);have j0:i<ms.length:=J;obtain⟨x,h0⟩:∃a,ms[i]?=some a:=⟨_,QC j0⟩;have k0:=QP h0;have⟨u,hu,hid,c1⟩:=hM.un x k0;have d1:cz (bH l) x.un=some u:=(by have⟨j,hj⟩:=MI hu;rw[<-hid];exact qe hP hj);have⟨q,e1,e2⟩:=((hm.ak g0).ak hx).qp (k:=.i64) h0;rw[e1,Y,e2,Y];refine ah λm18 k1 q0 l1=>?_;refine aj nL q0 rfl rfl rfl λm19 o1 r0 p1=>?_;have b0:Ext mm m19:=⟨Z,J⟩;have i0:m19.get mm.n=.cells x.c 68 none:=r0;have s0:=b0.cells (hx.cells g1);rw[bM,Y,a1 m19 s0,Y,cS,Y,(wm i0).2.1,Y];have⟨ov,u0,hc,d0,y0⟩:=Lm (m:=m19) hX (h.ak ((g0.trans hx).trans b0)) hP x.un;apply aw hc;rw[d1]at y0⊢;obtain⟨w,rfl,hw⟩:=y0;rw[aE,aE];simp only[XW,Q7,Y];refine ah λK1 r1 A0 u1=>?_;refine aj dO A0 rfl rfl (Un.dp hw.one) λl0 v1 B0 w1=>?_;have e0:Ext u0 l0:=⟨Z,J⟩;have O0:l0.get u0.n=.cells (u.c w) 43 none:=B0;have F:=e0.cells (d0.cells i0);have i1:=d0.n;refine xr (λvs m' lo=>vs=[P6]/\m'=l0/\m.n<=lo) (λR hR=>?_) ?_;rw[bB,Y,ag];show lY false _ _;rw[aT,(wm F).2.2.2.2,Y];apply aw (zf hX x);rw[hM.ok x k0,bB,Y,ag];show lY false _ _;rw[aT,bR,Y,(wm F).1,Y,cI,Y,ag];have n0:¬x.id<=pZ ms i:=(by cases i with|zero=>have:=hM.ok x k0;unfold vM dv at this;simp only[G4,Xo]at this;show¬x.id<= -1;omega|succ j=>obtain⟨y,hy⟩:∃a,ms[j]?=some a:=⟨_,wo⟩;have e:pZ ms (j+1)=y.id:=(by show(match ms[j]? with|some x=>x.id|none=> -1)=y.id;rw[hy]);rw[e];have h1:=(Nr.1 hy);have h2:=(Nr.1 h0);have:=Vr.1 hM.ym j (j+1) Z j0 Z;rw[h1.2,h2.2]at this;omega);rw[C8 n0,aT,eK,Y,(wm F).2.2.1,Y,bA,Y,(kS O0).2.2.2.1,Y,(hw.ak e0).len cO,an,cZ,Y];exact hR ⟨J,rfl,Z⟩;rintro _ L1 y1 ⟨rfl,rfl,o0⟩;rw[av,ag,aT,bR,Y,(wm F).1,Y,aO,Y,wrap64];exact⟨i+1,Z,by simp[pZ,h0],Z,((hx.trans b0).trans d0).trans e0,o0⟩;have j1:i=ms.length:=(by have:¬(i:Int)< (ms.length:Int):=J;omega);subst j1;rw[Y,p0 mm (hx.cells g1),Y,((hm.ak g0).ak hx).len cJ,an,cI,Y];refine⟨?_,b1⟩;rw[dto];rfl
def zs(hX:cp X){l:List UW}{v vm:O}{ms:List Mk}(h:cD m l v)(hP:cq (bH l))(hm:Sl m ms vm)(hM:gh (bH l) ms):xw X 63 [.agg #[v,vm]] m VT m:=by have hlen:l.length<=12:=(by have:=hP.len;rw[cx]at this;exact this);apply Cl.fl hX (U5 func63);rw[F63];dsimp only[aH];refine ah λm1 g0 b0 d0=>?_;have g1:m1.get m.n=.cells [v,vm] 32 none:=b0;have F:Ext m m1:=⟨Z,d0⟩;unfold ptrTo;refine xr (λvs m' lo=>vs=[VT]/\m.n<=lo) (λR hR=>?_) ?_;rw[bM,Y,show aC TE m1 29 (Ω m.n (0+0))=some (.agg #[v]) by rw[cW,aI (n:=1) g1 (by show 0+0+1<=2;decide)];rfl,Y];apply aw (uD hX (h.ak F) Z);rw[fg hP,ag,bN,show aC TE m1 32 (Ω m.n 0)=some (.agg #[v,vm]) by rw[oQ,aI (n:=2) g1 (by show 0+2<=2;decide)];rfl,Y];apply aw (acV hX (h.ak F) hP (hm.ak F) hM);exact hR ⟨rfl,Z⟩;rintro _ m' lo ⟨rfl,e0⟩;rw[av];exact⟨rfl,e0⟩
def pX(F:cp X){c n:Int}(hc:nK c)(hn:0<n):xw X 72 [I c,I n] m (I (gG c n)) m:=by apply Cl.fl F (U5 func72);rw[F72];dsimp only[aH];exact yS hc hn (P:=λv=>aP [v]=I (gG c n)/\m.n<=m.n) ⟨rfl,R8 _⟩
structure I4 where
 a:Int
 b:Int
 c:Int
 d:Int
def I4.c'(x:I4):ν:=[.int .i64 x.a,.int .i64 x.b,.int .i64 x.c,.int .i64 x.d]
def I4.ok(x:I4):Prop:=nK x.a/\nK x.b/\nK x.c/\nK x.d
instance:aL I4 where
 ty:=157
 sz:=4
 agg:=true
 dN:=[]
 rep _ x cs:=cs=x.c'
 pos:=ce
 one:=J
 len:=by rintro _ _ _ rfl;rfl
 iy:=by rintro _ _ _ rfl;rfl
 aX:=J
def PR:qs TE 23 157 I4:=⟨ai.t23,ai.t157,bv,⟨_,rfl⟩,rfl,bv,rfl,rfl⟩
def i4_at{l:List I4}{v:O}(h:wj m l v){i:Nat}{x:I4}(hx:l[i]?=some x):∃p,aD TE 23 v (I i)=some p/\aC TE m 157 p=some (.agg x.c'.toArray):=by have⟨p,cs,e1,e2,F⟩:=h.index PR (k:=.i64) hx;have F:cs=x.c':=F;subst F;exact⟨p,e1,e2⟩
def Vj{o:Nat}{k:IntKind}(hi:i<4):aD TE 157 (Ω b o) (.int k i)=some (Ω b (o+i)):=by rcases(show i=0\/i=1\/i=2\/i=3 by omega)with rfl|rfl|rfl|rfl <;>kernel_rfl
def ng(ms:List Mk)(x:Mk):List Mk:=(ms.filter λy=>decide (y.id < x.id))++x::(ms.filter λy=>decide (x.id < y.id))
def lZ(ms:List Mk)(x:Mk):List Mk:=(ms.filter λy=>decide (y.id < x.id))++(if(ms.filter λy=>decide (x.id < y.id))=[]then []else x::(ms.filter λy=>decide (x.id < y.id)))
def aci{y:Mk}(b0:y.id≠x.id)(F:∀z∈ms,z.id<y.id):
  lZ (ms++ [y]) x=if(ms.filter λz=>decide (x.id<z.id))=[]/\x.id<y.id then lZ ms x++ [x]++ [y]else lZ ms x++ [y]:=by unfold lZ;rw[IT,IT];by_cases h:x.id<y.id;have h2:¬y.id<x.id:=Z;simp_all;have h2:y.id<x.id:=Z;have he:(ms.filter λz=>decide (x.id<z.id))=[]:=(by rw[XA];grind);grind
def Is(ms:List Mk)(x:Mk):(lZ ms x).length<=ms.length+1:=by unfold lZ;have:(ms.filter λy=>decide (y.id<x.id)).length+(ms.filter λy=>decide (x.id<y.id)).length<=ms.length:=(by induction ms with|nil=>simp|cons a r F=>grind);grind
def aaJ{ms:List Mk}{x:Mk}:ng ms x=if(ms.filter λy=>decide (x.id<y.id))=[]then lZ ms x++ [x]else lZ ms x:=by unfold ng lZ;grind
def xL(ms:List Mk)(x:Mk):(ng ms x).length<=ms.length+1:=by have:(ms.filter λy=>decide (y.id<x.id)).length+(ms.filter λy=>decide (x.id<y.id)).length<=ms.length:=(by induction ms with|nil=>simp|cons a r F=>grind);unfold ng;grind
def U4(h:gh us ms)(hl:ms.length<20)(hx:vM x)(hu:∃u∈us,u.id=x.un/\x.side<u.shape.length):gh us (ng ms x):=by have hm:∀y∈ng ms x,y=x\/y∈ms:=(by intro y F;unfold ng at F;grind);refine⟨by have:=xL ms x;omega,?_,λy F=>?_,λy F=>?_⟩;unfold ng;rw[Gv,ZV];refine⟨h.ym.filter _,⟨J,h.ym.filter _⟩,λa ha b hb=>?_⟩;grind;rcases hm y F with rfl|F;exact hx;exact h.ok y F;rcases hm y F with rfl|F;exact hu;exact h.un y F
def QG:aQ TE m 30 1 [(0,x.v)]=some (.slice (some ⟨m.n,0,none⟩) 1 1,m.push (.cells x.c 68 none)):=bv
def push_mk{acc:List Mk}{r:O}(hw:Ow n1 m acc r)(hn:n1<=m.n)(e0:acc.length<1000){P:M->O->Prop}
  (hP:∀r' m2,Ow n1 m2 (acc++ [x]) r'->m.n<=m2.n->(∀c,c<n1->m2.get c=m.get c)->n1<=m2.low->P m2 r'):
  dh (aQ TE m 30 1 [(0,x.v)]) λa m1=>dh (aR TE (M.wl m1 (M.n m1)) .append [30,30] [r,a]) λr' m2=>P m2 r':=by rw[QG,an];obtain⟨m1,F⟩:∃y,y=m.push (.cells x.c 68 none):=⟨_,rfl⟩;rw[<-F];have b0:Ext m m1:=(by rw[F];exact Ext.refl.push);have g0:m1.n=m.n+1:=(by rw[F];rfl);have d0:m1.get m.n=.cells x.c 68 none:=(by rw[F];exact M.aU);obtain⟨r',m2,e1,h1,h2,h3,h4⟩:=(hw.ak b0).append pH (by simp[aL.dN]) (lz d0 rfl) Z J;rw[e1,an];exact hP r' m2 h1 (by have:=h2.n;omega) (λc hc=>by rw[h2.get c hc,b0.get c Z]) h3
def EY(hX:cp X){ms:List Mk}{vm:O}{x:Mk}(hm:Sl m ms vm)(c1:ms.Pairwise λa b=>a.id<b.id)(hl:ms.length<=20):
  ∃m' r b,xw X 73 [vm,x.v] m (.tuple #[r,.bool b]) m'/\Ext m m'/\((b=false/\r=Z9/\(ms.any λy=>decide (y.id=x.id)))\/(b/\(ms.any λy=>decide (y.id=x.id))=false/\Ow m.n m' (ng ms x) r)):=by
 have key:=Cl.gen (E:=TE) (X:=X) (f:=73) (args:=[vm,x.v]) (m:=m) (R:=λv' m' b=>b=m.n/\Ext m m'/\∃r b,v'=.tuple #[r,.bool b]/\((b=false/\r=Z9/\(ms.any λy=>decide (y.id=x.id)))\/(b/\(ms.any λy=>decide (y.id=x.id))=false/\Ow m.n m' (ng ms x) r))) (hX.no _ rfl) (U5 func73) rfl ?_;obtain⟨v',m',b,hc,rfl,hx,r,b',rfl,h⟩:=key;exact⟨m',r,b',hc,hx,h⟩;rw[F73];dsimp only[aH];refine ah λm1 b2 v1 w1=>?_;have g1:m1.get m.n=.cells x.c 68 none:=v1;have u0:Ext m m1:=⟨Z,w1⟩;unfold ptrTo;refine Lp.intro (γ:=Nat) (λi=>ms.length-i) (λi vs mm lo=>∃r,vs=[Z9,P6,r,.bool (!decide (((ms.take i).filter λy=>decide (x.id<y.id))=[])),I i]/\i<=ms.length/\m1.n<=mm.n/\(∀c,c<m1.n->mm.get c=m1.get c)/\m.n<=lo/\Ow m1.n mm (lZ (ms.take i) x) r/\∀y∈ms.take i,y.id≠x.id) 0 ⟨_,rfl,Vw _,R8 _,λ_ _=>rfl,R8 _,Ow.nil,λy hy=>J⟩ ?_;rintro i vs mm lo ⟨r,rfl,hi,i0,d1,y0,j0,y1⟩;have A0:Sl mm ms vm:=(hm.ak u0).ak ⟨i0,d1⟩;have gx:mm.get m.n=.cells x.c 68 none:=J;rw[av,av,av,av,av,A0.len cJ,an,aK,Y,ag];have i1:=Is (ms.take i) x;rw[ZO]at i1;refine af (λB0=>?_) (λc2=>?_);have B0:i<ms.length:=J;obtain⟨y,k0⟩:∃a,ms[i]?=some a:=⟨_,QC B0⟩;have⟨b0,o0,bc,g0,cs,e0,j1,O0,_,A1⟩:=A0.iI cJ (k:=.i64) k0;have O0:cs=y.c:=O0;subst O0;have P0:∀z∈ms.take i,z.id<y.id:=(by intro z hz;have⟨j,hj⟩:=MI hz;have k1:j<i:=(by grind);rw[XM k1]at hj;have h1:=Nr.1 hj;have h2:=Nr.1 k0;have:=Vr.1 c1 j i h1.1 B0 k1;grind);have⟨a0,B1,ly⟩:=A0.qp (k:=.i64) k0;obtain rfl:a0=Ω b0 o0:=Option.some.inj (B1.symm.trans e0);have hid:bc[o0+0]?=some (I y.id):=(by rw[A1 0 ce];rfl);have o1:ms.take (i+1)=ms.take i++ [y]:=(by rw[Z8,k0];rfl);rw[e0,Y,bR,Y,show aC TE mm 3 (Ω b0 (o0+0))=some (I y.id) by rw[bP,aG j1,hid],Y,bR,Y,(wm gx).1,Y,aJ,Y,ag];refine af (λheq=>?_) (λheq=>?_);exact .inl ⟨rfl,y0,rfl,.refl,_,_,rfl,.inl ⟨rfl,rfl,U7.2 ⟨y,QP k0,heq⟩⟩⟩;have heq:y.id≠x.id:=Z0 heq;have d0:=aci heq P0;rw[<-o1]at d0;refine xr (λvs m' G1=>vs=[.bool (decide (((ms.take i).filter λz=>decide (x.id<z.id))=[]/\x.id<y.id))]/\m'=mm/\m.n<=G1) (λR hR=>?_) ?_;rw[bB,Y,ag,OB];refine af (λh=>?_) (λh=>?_);have h:=Mv h;rw[Y,bR,Y,show aC TE mm 3 (Ω b0 (o0+0))=some (I y.id) by rw[bP,aG j1,hid],Y,Y,(wm gx).1,Y,cC,Y];refine hR ⟨?_,rfl,y0⟩;congr 2;rw[ge];exact⟨λq=>⟨h,q⟩,λq=>q.2⟩;have h:=Z0 h;refine hR ⟨?_,rfl,y0⟩;rw[C8 λq=>h q.1];rintro _ p1 a2 ⟨rfl,rfl,H1⟩;rw[av,ag];have n0:∀F:M,(∀c,c<m1.n->F.get c=p1.get c)->m1.n<=F.n->aC TE F 68 (Ω b0 o0)=some y.v:=λF hk Q0=>(by have K1:Sl F ms vm:=(hm.ak u0).ak ⟨Q0,J⟩;have⟨a1,e1,l1⟩:=K1.qp (k:=.i64) k0;grind);have s0:∀z∈ms.take (i+1),z.id≠x.id:=(by grind);refine af (λh=>?_) (λh=>?_);have h:=Mv h;rw[UG h]at d0;rw[(wm gx).2.2.2.2,Y];refine push_mk (x:=x) j0 i0 Z λq0 r0 l0 r1 b1 u1=>?_;rw[Y,n0 r0 b1 Z,Y];refine push_mk (x:=y) l0 Z J λL1 d2 O1 e2 g2 i2=>?_;rw[aO,Y,wrap64];refine⟨i+1,Z,L1,?_,Z,Z,J,Z,?_,s0⟩;rw[o1,IT,C8 J];rfl;rw[d0];exact O1;have h:=Z0 h;rw[ND h]at d0;rw[Y,n0 p1 (λ_ _=>rfl) i0,Y];refine push_mk (x:=y) j0 i0 Z λq0 r0 l0 r1 b1 u1=>?_;rw[aO,Y,wrap64];refine⟨i+1,Z,q0,?_,Z,Z,λc hc=>J,Z,?_,s0⟩
 have e:decide (((ms.take (i+1)).filter λy=>decide (x.id<y.id))=[])=decide (((ms.take i).filter λy=>decide (x.id<y.id))=[]):=(by simp_all);rw[e];rfl;rw[d0];exact l0;have Q1:i=ms.length:=(by grind);subst Q1;rw[W8]at j0 y1⊢;rw[W8]at i1;have h0:= @aaJ ms x;have p0:(ms.any λy=>decide (y.id=x.id))=false:=J3.2 λy hy=>J;have fin:∀(F:M) (r':O),Ow m1.n F (ng ms x) r'->m1.n<=F.n->(∀c,c<m1.n->F.get c=m1.get c)->aZ (aP [r',VT])=false/\Ext m F/\Ow m.n F (ng ms x) r':=λF r' hw Q0 T1=>(by refine⟨?_,u0.trans ⟨Q0,T1⟩,hw.mono Z⟩;rcases hw with⟨rfl,he⟩|⟨b,cs,rfl,_⟩;unfold ng at he;simp at he;simp[aP,aZ,ep,bL]);rw[bB,Y,ag,OB];refine af (λh=>?_) (λh=>?_);have h:=Mv h;rw[UG h]at h0;rw[(wm gx).2.2.2.2,Y];refine push_mk (x:=x) j0 i0 Z λq0 r0 l0 r1 b1 u1=>?_;rw[<-h0]at l0;obtain⟨f1,f2,f3⟩:=fin r0 q0 l0 Z (λc hc=>J);exact .inr ⟨.inl f1,Z,f2,_,_,rfl,.inr ⟨rfl,p0,f3⟩⟩;have h:=Z0 h;rw[ND h]at h0;rw[<-h0]at j0;have⟨f1,f2,f3⟩:=fin mm r j0 i0 d1;exact .inr ⟨.inl f1,Z,f2,_,_,rfl,.inr ⟨rfl,p0,f3⟩⟩
def Th(hX:cp X){ms:List Mk}{vm:O}{x:Mk}(hm:Sl m ms vm)(F:ms.Pairwise λa b=>a.id<b.id)(hl:ms.length<=20):
  ∃m' r b,xw X 73 [vm,x.v] m (.tuple #[r,.bool b]) m'/\Ext m m'/\(b->Ow m.n m' (ng ms x) r):=by have⟨m',r,b,hc,hx,h⟩:=EY (x:=x) hX hm F hl;grind
section
open Go Go.D Go.ChangeShapes Go.WideShapes Go.ChangeAt Go.RowKit Go.Proofs.Tryz
def TM:Tryz.prog.underlying 23=some (.slice 157):=bv
def WV:Tryz.prog.underlying 157=some (.array 4 3):=bv
section
variable {H:Type} {enc:TypeId×O->H} {W W':World} {sp:Nat->Bool} {held:Bool} {base:Nat}
def VB:∀fuel cs x,DataW.trod enc Tryz.prog W 0 sp held fuel 157 cs=some x->∃y:I4,y.ok/\(∀m,aL.rep m y cs)/\∀u∈cs,bL u:=by intro fuel cs x h;obtain⟨l,rfl,hl,F⟩:=FO WV bv h;match l,hl,F with|[a,b,c,d],_,F=>refine⟨⟨a,b,c,d⟩,⟨F _ co,F _ co,F _ co,F _ co⟩,λm=>rfl,λu hu=>?_⟩;obtain⟨z,_,rfl⟩:=Ja.1 hu;rfl
def Ua{v:O}{d:DataW H}{ps:List MemPlace}(hb:Below W.heap.size W W')(h:DataW.Trod enc Tryz.prog W 0 (λ_=>true) true 25 v d ps)(F:∀x∈ps,x.block<W.heap.size)(sp:Nat->Bool)(hs:∀x∈ps,sp x.block):DataW.Trod enc Tryz.prog W' 0 sp true 25 v d ps:=
 WideElems.Trod_stays laidOut bv (Mv bv) h (λx hx=>hb.same (F x hx)) hs
end
end
section
set_option maxRecDepth 100000
set_option maxHeartbeats 0
variable{W:Words}{x0 x1 x2:O}{m:M}{R:ν->M->Nat->Prop}
def F212:=cN (P:=dB TE W f212 [x0] m R)
def F296:=cN (P:=dB TE W f296 [x0,x1,x2] m R)
def F297:=cN (P:=dB TE W f297 [x0] m R)
def F215:=cN (P:=dB TE W f215 [x0] m R)
def F164:=cN (P:=dB TE W f164 [x0] m R)
def F300:=cN (P:=dB TE W f300 [x0,x1] m R)
def F216:=cN (P:=dB TE W f216 [x0,x1,x2] m R)
def F217:=cN (P:=dB TE W f217 [x0,x1] m R)
def F174:=cN (P:=dB TE W f174 [x0,x1] m R)
def F173:=cN (P:=dB TE W f173 [x0] m R)
def F298:=cN (P:=dB TE W f298 [x0,x1] m R)
def F299:=cN (P:=dB TE W f299 [x0,x1] m R)
def F101:=cN (P:=dB TE W f101 [x0,x1] m R)
def F100:=cN (P:=dB TE W f100 [x0] m R)
def F149:=cN (P:=dB TE W f149 [x0,x1] m R)
def F45:=cN (P:=dB TE W f45 [x0] m R)
def F15:=cN (P:=dB TE W f15 [x0,x1] m R)
end
def XU(z:Int)(u:Un):Bool:=decide (u.back<=z) && decide (z < u.front)
section
def cq.depth(h:cq us){u:Un}(hu:u∈us):0<=u.back/\u.back<u.front/\u.front<=8:=by have:=h.val u hu;simp only[kR,dv,G4,Xo]at this;omega
end
section
def Pl.mv(F dy:Int)(p:Pl):Pl:=⟨p.x+F,p.y+dy⟩
def Un.mv(F dy:Int)(u:Un):Un:={u with shape:=u.shape.map (Pl.mv F dy)}
end
def abE{a b c d:Int}{e:Bool}:bz TE 68 [(0,.int .i64 a),(1,.int .i64 b),(2,.int .i64 c),(3,.int .i64 d),(4,.bool e)]=some (Mk.mk a b c d e).v:=bv
def Lr(mm:M):cD mm [] Z9:=⟨.nil,λx F=>(by cases F),λx F=>(by cases F),.inl rfl⟩
def Sy{l:List UW}{n c:Nat}(h:cD m l (.slice none n c)):l=[]/\n=0/\c=0:=by rcases h.sl with⟨h1,F⟩|⟨b,o,c,bc,g,F,_⟩;grind;cases F
theorem M7(hX:cp X){xs:List I6}{ks:List I4}{vb vk va:O}(hv:wj m xs vb)(u2:∀x∈xs,x.ok)(hlen:xs.length<9223372036854775808)(hk:wj m ks vk)(G1:∀x∈ks,x.ok)(v2:ks.length<9223372036854775808):
  ∃l r ms vm m',xw X 26 [.agg #[vb,vk,va]] m (.agg #[r,vm]) m'/\Ext m m'/\cD m' l r/\cq (bH l)/\Sl m' ms vm/\gh (bH l) ms:=by
 have key:∃rv m' b,C X (.func 26) [.agg #[vb,vk,va]] m b rv m'/\b=m.n/\Ext m m'/\∃l r ms vm,rv=.agg #[r,vm]/\cD m' l r/\cq (bH l)/\Sl m' ms vm/\gh (bH l) ms:=(by refine Cl.gen (R:=λrv m' b=>b=m.n/\Ext m m'/\∃l r ms vm,rv=.agg #[r,vm]/\cD m' l r/\cq (bH l)/\Sl m' ms vm/\gh (bH l) ms) (hX.no _ rfl) (U5 func26) rfl ?_;rw[F26];dsimp only[aH];refine ah λm1 d4 w2 e4=>?_;refine ah λm2 f4 z2 A2=>?_;have r1:Ext m m2:=⟨Z,J⟩;have g1:m2.get m.n=.cells [vb,vk,va] 25 none:=(by rw[A2 _ Z];exact w2);unfold ptrTo;have B2:∀F:M,F.get m.n=.cells [vb,vk,va] 25 none->aC TE F 22 (Ω m.n (0+0))=some vb:=λF hh=>(by rw[K4,aG hh];rfl);have H1:∀F:M,F.get m.n=.cells [vb,vk,va] 25 none->aC TE F 23 (Ω m.n (0+1))=some vk:=λF hh=>(by rw[adn,aG hh];rfl);rw[tu,Y,B2 m2 g1,Y];have⟨l,r,m6,G2,K1,hF,hP⟩:=M8 (m:=m2) hX (hv.ak r1) u2 hlen;apply aw G2;have g4:=K1.n;have j3:l.length<=12:=(by have:=hP.len;rwa[cx]at this);have or:one r:=hF.sl.one;have cr:=hF.sl.cells;rw[show bz TE 32 [(0,.agg #[r])]=some (.agg #[r,Z9]) by rw[Da rfl];rfl,Y];refine ah λm9 j4 L2 k4=>?_;refine aj eF L2 rfl rfl (by show(one r && true)=true;rw[or];rfl) λm10 k3 p0 l3=>?_;have p0:m10.get m6.n=.cells [r,Z9] 32 none:=p0;have b1:Ext m6 m10:=⟨Z,J⟩;have A0:Ext m2 m10:=K1.trans b1;have l4:m10.get m.n=.cells [vb,vk,va] 25 none:=A0.cells g1;have m4:m10.get m1.n=.cells [Z9,Z9] 32 none:=A0.cells z2;have L1:gh (bH l) []:=⟨co,.nil,λx hx=>(by cases hx),λx hx=>(by cases hx)⟩;refine Lp.intro (γ:=Nat) (λi=>8-i) (λi vs F lo=>∃ms vm,vs=[I i]/\i<=8/\m10.n<=F.n/\(∀c,c<m10.n->c≠m6.n->F.get c=m10.get c)/\m.n<=lo/\F.get m6.n=.cells [r,vm] 32 none/\Sl F ms vm/\gh (bH l) ms/\ms.length<=i/\(l=[]->ms=[]/\vm=Z9)) 0 ⟨[],_,rfl,Z,R8 _,λ_ _ _=>rfl,Z,p0,Sl.nil,L1,Vw _,λ_=>⟨rfl,rfl⟩⟩ ?_;rintro i vs F lo ⟨ms,vm,rfl,hi,n4,q0,o4,gS,B0,hM,r4,c1⟩;have gN:F.get m.n=.cells [vb,vk,va] 25 none:=J;have O0:cD F l r:=hF.aX λc cs t g hb _=>(by have:=M.aM hb;rw[q0 c Z Z,b1.get c this,hb]);have d1:wj F ks vk:=(hk.ak r1).ak ⟨Z,λc hc=>by rw[q0 c Z Z,A0.get c hc]⟩;have O1:∀(m':M) (w:O),m'.get m6.n=.cells [r,w] 32 none->aC TE m' 27 (Ω m6.n (0+0+0))=some r:=λm' w hh=>(by rw[dV,aG hh];rfl);rw[av];refine xr (λvs m' M2=>vs=[.bool (decide (i<ks.length) && decide (i<8) && decide (0<l.length))]/\F=m'/\lo=M2) (λR hR=>?_) ?_;rw[tn,Y,H1 F gN,Y,d1.len PR,an,aK,Y,ag];refine af (λh=>?_) (λh=>?_);have h:i<ks.length:=J;rw[aK,Y,ag];refine af (λh8=>?_) (λh8=>?_);have h8:i<8:=(by have:=Mv h8;omega);rw[bM,Y,bk,Y,O1 F _ gS,Y,O0.sl.len cY,an,cC,Y];refine hR ⟨?_,rfl,rfl⟩;rw[RO h,RO h8,DO,DO];congr 2;rw[ge];omega;have h8:¬i<8:=(by have:=Z0 h8;omega);exact hR ⟨J,rfl,rfl⟩;have h:¬i<ks.length:=J;exact hR ⟨J,rfl,rfl⟩;rintro _ _ _ ⟨rfl,rfl,rfl⟩;rw[av,ag];refine af (λh=>?_) (λh=>?_);simp only[G4,Xo]at h;have⟨⟨O2,u4⟩,w4⟩:=h;obtain⟨y,Q1⟩:∃x,ks[i]?=some x:=⟨_,QC O2⟩;have⟨y0,y1,y2,y3⟩:=G1 y (QP Q1);rw[tn,Y,H1 F gN,Y];obtain⟨p,e1,e2⟩:=i4_at d1 Q1;rw[e1,Y,e2,Y];refine ah λy4 m3 T1 n3=>?_;refine aj Xg T1 rfl rfl rfl λo0 o3 a2 r3=>?_;have k0:Ext F o0:=⟨Z,J⟩;have gy:o0.get F.n=.cells y.c' 157 none:=a2;have j1:=k0.cells gS;have r0:∀(m':M) (j:Nat) (z:Int),m'.get F.n=.cells y.c' 157 none->y.c'[j]?=some (I z)->aC TE m' 3 (Ω F.n (0+j))=some (I z):=λm' j z hh hj=>(by rw[bP,aG hh,Jf,hj]);have i0:aD TE 157 (Ω F.n 0) (I 0)=some (Ω F.n (0+0)):=Vj (i:=0) ce;have i1:aD TE 157 (Ω F.n 0) (I 1)=some (Ω F.n (0+1)):=Vj (i:=1) ce;have i2:aD TE 157 (Ω F.n 0) (I 2)=some (Ω F.n (0+2)):=Vj (i:=2) ce;have i3:aD TE 157 (Ω F.n 0) (I 3)=some (Ω F.n (0+3)):=Vj (i:=3) ce;have k1:=O0.ak k0;simp only[bM,bk,bI,i0,i1,i2,i3,Y];rw[O1 o0 _ j1,Y,r0 o0 1 y.b gy rfl,Y,Y,k1.sl.len cY,an];have P2:=sD (c:=y.b) (show(0:Int)< (l.length:Int) by omega);refine aw (pX hX y1 (show(0:Int)< (l.length:Int) by omega)) ⟨R8 _,?_⟩;obtain⟨j,hj⟩:∃j:Nat,gG y.b (l.length:Int)=(j:Int):=⟨(gG y.b (l.length:Int)).toNat,Z⟩;rw[hj];rw[hj]at P2;obtain⟨u,hu⟩:∃x,l[j]?=some x:=⟨_,wo⟩;have u1:=QP hu;have⟨q,q1,q2,ou⟩:=k1.sl.gR (k:=.i64) hu;rw[q1,Y,q2,Y];refine ah λA4 u3 b2 w3=>?_;refine aj dO b2 rfl rfl (Un.dp ou) λe0 A3 c2 B3=>?_;have l0:Ext o0 e0:=⟨Z,J⟩;have gu:e0.get o0.n=.cells (u.u.c u.w) 43 none:=c2;have n0:=l0.cells gy;have d2:=l0.cells j1;have l1:=hP.val u.u (by unfold bH;exact US u1);have B4:=lQ l1;have s0:=l1;unfold kR dv at s0;simp only[G4,Xo]at s0;have Q2:=((O0.sh u u1).ak k0).ak l0;rw[r0 e0 0 y.a n0 rfl,Y];refine aw (pX hX y0 ce) ⟨R8 _,?_⟩;rw[aW,Y,(kS gu).1,Y,r0 e0 2 y.c n0 rfl,Y,bA,Y,(kS gu).2.2.2.1,Y,Q2.len cO,an,aO,Y,wrap64];have pa:=sD (c:=y.a) (show(0:Int)< 12 by decide);have pc:=sD (c:=y.c) (show(0:Int)< (u.u.shape.length:Int)+2 by omega);have pd:=sD (c:=y.d) (show(0:Int)< 5 by decide);refine aw (pX hX y2 Z) ⟨R8 _,?_⟩;rw[fa,Y,wrap64,r0 e0 3 y.d n0 rfl,Y];refine aw (pX hX y3 ce) ⟨R8 _,?_⟩;rw[aO,Y,wrap64,r0 e0 3 y.d n0 rfl,Y];refine aw (pX hX y3 ce) ⟨R8 _,?_⟩;rw[aJ,Y,abE,Y];refine ah λO4 G3 g2 O3=>?_;refine aj nL g2 rfl rfl rfl λP0 b4 j2 c4=>?_;have o1:Ext e0 P0:=⟨Z,J⟩;obtain⟨x,hx⟩:∃x:Mk,x=⟨gG y.a 12,u.u.id,gG y.c ((u.u.shape.length:Int)+2)-2,1+gG y.d 5,decide (gG y.d 2=0)⟩:=⟨_,rfl⟩;have gm:P0.get e0.n=.cells x.c 68 none:=(by rw[hx];exact j2);have k2:=o1.cells d2;have v1:Ext F P0:=(k0.trans l0).trans o1;have w1:=B0.ak v1;rw[show aC TE P0 30 (Ω m6.n (0+1))=some vm by rw[jC,aG k2];rfl,Y,(wm gm).2.2.2.2,Y];obtain⟨T2,r',b,hc,p1,hw⟩:=Th (x:=x) hX w1 hM.ym J;apply aw hc;rw[aE,aE];simp only[XW,Q7,Y];rw[ag];have R4:=v1.n;have U2:=p1.n;have b0:Ext F T2:=v1.trans p1;refine af (λhb=>?_) (λhb=>?_);have hw:=hw hb;refine bS D7 (b0.cells gS) (by rw[hw.sl.cells];rfl) (by rw[hw.sl.cells];simp) (by rw[hw.sl.cells];simp[hw.sl.one]) λl2 b3 d0 u0=>?_;rw[hw.sl.cells]at d0;have d0:l2.get m6.n=.cells [r,r'] 32 none:=d0;rw[aO,Y,wrap64];have c3:gh (bH l) (ng ms x):=(by refine U4 hM Z ?_ ⟨u.u,by unfold bH;exact US u1,by rw[hx],J⟩;rw[hx];unfold vM dv;simp only[G4,Xo];omega);refine⟨i+1,Z,ng ms x,r',rfl,Z,Z,λc A1 Q0=>by rw[u0 c Q0,b0.get c Z,q0 c A1 Q0],Z,d0,?_,c3,by have:=xL ms x;omega,J⟩;refine hw.sl.aX λb c t g hb ht=>?_;have ht:t=68:=RV.1 ht;subst ht;rw[u0 b (λe=>by rw[e,b0.cells gS]at hb;cases hb),hb];rw[aO,Y,wrap64];exact⟨i+1,Z,ms,vm,rfl,Z,Z,λc A1 Q0=>by rw[b0.get c Z,q0 c A1 Q0],Z,b0.cells gS,B0.ak b0,hM,Z,c1⟩;rw[show aC TE F 32 (Ω m6.n 0)=some (.agg #[r,vm]) by rw[oQ,aI (n:=2) gS (by show 0+2<=2;decide)];rfl,Y];have d3:F.get m1.n=.cells [Z9,Z9] 32 none:=J;have e3:one vm:=B0.one;refine aj eF d3 rfl rfl (by show(one r && (one vm && true))=true;rw[or,e3];rfl) λg0 g3 h0 j0=>?_;have h0:g0.get m1.n=.cells [r,vm] 32 none:=h0;rw[show aC TE g0 32 (Ω m1.n 0)=some (.agg #[r,vm]) by rw[oQ,aI (n:=2) h0 (by show 0+2<=2;decide)];rfl,Y];have o2:∀(α:Type) [aL α] (L:List α) (w:O),(∀t∈aL.ty α::aL.dN α,t≠32)->Sl F L w->Sl g0 L w:=λα _ L w ht hs=>hs.aX λb c t g hb hm=>(by rw[j0 b J,hb]);have B1:cD g0 l r:=O0.aX λc cs t g hb ht=>(by rw[j0 c J,hb]);have a1:Sl g0 ms vm:=o2 Mk ms vm (by intro t ht;rw[RV.1 ht];decide) B0;obtain⟨ra,rc,rfl⟩:=hF.sl.form;cases ra with|none=>obtain⟨rfl, -,rfl⟩:=Sy hF;obtain⟨rfl,rfl⟩:=c1 rfl;exact .inl ⟨rfl,Z,rfl,.refl,[],_,[],_,rfl,Lr m,hP,Sl.nil,hM⟩|some ad=>refine .inr ⟨.inl ?_,Z,⟨J,λc hc=>?_⟩,l,_,ms,vm,rfl,B1,hP,a1,hM⟩;simp[aP,aZ,ep,bL];rw[j0 c Z,q0 c Z Z,A0.get c Z,r1.get c hc])
 obtain⟨rv,m',b,hc,rfl,h1,l,r,ms,vm,rfl,h2,h3,h4,h5⟩:=key;exact⟨l,r,ms,vm,m',hc,h1,h2,h3,h4,h5⟩
def Jk:aQ TE m 41 1 [(0,p.v)]=some (.slice (some ⟨m.n,0,none⟩) 1 1,m.push (.cells p.c 46 none)):=bv
section
structure Ac where
 kind:Int
 un:Un
 id:Int
 i:Int
 k:Int
 oN:Mk
def eA(u:Un):Bool:=decide (u.kind=0) && decide (u.du=0) && decide (u.shape=[]) && decide (u.back=0) && decide (u.front=0)
def Ad(k:Mk):Bool:=decide (k=⟨0,0,0,0,false⟩)
def ez(a:Ac):Bool:=decide (a.i=0) && decide (a.k=0) && eA a.un && decide (a.un.id=0)
def eS(a:Ac):Bool:=
 if a.kind=1 then kR a.un && decide (a.id=0) && decide (a.i=0) && decide (a.k=0)
 else if a.kind=2 then dv a.id 0 99 && ez a
 else if a.kind=3 then dv a.id 0 99 && dv a.un.id 0 99 && !decide (a.id=a.un.id) && eA a.un && dv a.i 0 7 && dv a.k 0 7 && !decide (a.i=a.k)
 else if a.kind=4 then dv a.id 0 99 && dv a.i (-40) 40 && dv a.k (-40) 40 && (!decide (a.i=0) || !decide (a.k=0)) && eA a.un && decide (a.un.id=0)
 else if a.kind=5 then vM a.oN && decide (a.id=0) && ez a
 else if a.kind=6\/a.kind=7 then dv a.id 0 99 && ez a
 else false
def cQ(a:Ac):Bool:=eS a && (decide (a.kind=5) ||Ad a.oN)
def ju(us:List Un)(id:Int):List Un:=us.filter λy=> !decide (y.id=id)
def mi(us:List Un)(u:Un):List Un:=(us.filter λy=>decide (y.id < u.id))++u::(us.filter λy=>decide (u.id < y.id))
def wi(us:List Un)(u:Un):Bool:=kR u && !decide (us.length=12) && us.all (λv=> !decide (v.id=u.id)) && us.all (λv=> !iP u v)
def qq(us:List Un)(u:Un):Option (List Un):=if wi us u=true then some (mi us u)else none
def KB(l:List Pl)(a b:Nat):List Pl:=if a<=b then(l.drop a).take (b+1-a)else l.drop a++l.take (b+1)
def cutS(l:List Pl)(i k:Int):Option (List Pl×List Pl):=
 if(bO l && decide (0<=min i k) && decide (max i k < (l.length:Nat)) && decide (3<=(KB l i.toNat k.toNat).length) && decide (3<=(KB l k.toNat i.toNat).length))=true then some (KB l i.toNat k.toNat,KB l k.toNat i.toNat)else none
def movS(u:Un)(F dy:Int):Option Un:=if(u.mv F dy).shape.any Pl.off=true then none else some (u.mv F dy)
def ed(ms:List Mk)(id:Int):List Mk:=ms.filter λy=> !decide (y.un=id)
def gZ(ms:List Mk)(id:Int)(o:Bool):Option (List Mk):=
 match ms.findIdx? λy=>decide (y.id=id)with
 |some k=>match ms[k]? with
  |some y=>if y.DB=o then none else some (ms.set k {y with DB:=o})
  |none=>none
 |none=>none
def mB(us:List Un)(ms:List Mk)(a:Ac):Option (List Un×List Mk):=
 if a.kind=1 then(qq us a.un).map (·,ms)
 else if a.kind=2 then(if(cz us a.id).isSome=true then some (ju us a.id,ed ms a.id)else none)
 else if a.kind=3 then
  match cz us a.id with
  |none=>none
  |some u=>match cutS u.shape a.i a.k with
   |none=>none
   |some (p,q)=>match qq (ju us a.id) {u with shape:=p}with
    |none=>none
    |some F=>(qq F {u with shape:=q,id:=a.un.id}).map (·,ed ms a.id)
 else if a.kind=4 then
  match cz us a.id with
  |none=>none
  |some u=>match movS u a.i a.k with
   |none=>none
   |some v=>(qq (ju us a.id) v).map (·,ms)
 else if a.kind=5 then(if(ms.any λy=>decide (y.id=a.oN.id))=true then none else some (us,ng ms a.oN))
 else(gZ ms a.id (decide (a.kind=7))).map (us,·)
open Classical in
def gJ(us:List Un)(ms:List Mk):Bool:=decide (gh us ms)
def kY(us:List Un)(ms:List Mk)(a:Ac):Option (List Un×List Mk):=
 if cQ a=true then(match mB us ms a with
  |some (F,ns)=>if gJ F ns=true then some (F,ns)else none
  |none=>none)else none
def cq.Az(h:cq us):us.Pairwise λa b=>a.id<b.id:=by rw[Vr];intro i j hi hj F;exact h.XF F (QC hi) (QC hj)
def F3(F:us.length<=12)(h2:∀u∈us,kR u)(h3:us.Pairwise λa b=>a.id<b.id)(h4:us.Pairwise λa b=>iP a b=false):cq us:=by rw[Vr]at h3 h4;refine⟨F,h2,λi a b ha hb=>?_,λi k a b b0 ha hb=>?_⟩;grind;grind
def cq.Gu(h:cq us):us.Pairwise λa b=>iP a b=false:=by rw[Vr];intro i j hi hj F;exact h.apart i j _ _ F (QC hi) (QC hj)
theorem cq.del(h:cq us)(id:Int):cq (ju us id):=by unfold ju;exact F3 (Xp (X0 _ _) h.len) (λu hu=>h.val u (Uk.1 hu).1) (h.Az.filter _) (h.Gu.filter _)
def Qk{u:Un}(h:∀v∈us,v.id≠u.id):(mi us u).length=us.length+1:=by unfold mi;rw[I8,Rq];have:(us.filter λy=>decide (y.id<u.id)).length+(us.filter λy=>decide (u.id<y.id)).length=us.length:=(by induction us with|nil=>rfl|cons a r F=>grind);omega
def wO{u v:Un}(h:v∈mi us u):v=u\/v∈us:=by unfold mi at h;grind
def jA{u:Un}:wi us u↔kR u/\us.length≠12/\(∀v∈us,v.id≠u.id)/\∀v∈us,iP u v=false:=by unfold wi;grind
def cq.ins(h:cq us){u:Un}(F:wi us u):cq (mi us u):=by have⟨h1,h2,h3,h4⟩:=jA.1 F;have hl:=h.len;refine F3 (by rw[Qk h3];omega) (λv hv=>?_) ?_ ?_;rcases wO hv with rfl|hv;exact h1;exact h.val v hv;unfold mi;rw[Gv,ZV];refine⟨h.Az.filter _,⟨J,h.Az.filter _⟩,λa F b hb=>?_⟩;grind;unfold mi;rw[Gv,ZV];refine⟨h.Gu.filter _,⟨λz hz=>h4 z (Uk.1 hz).1,h.Gu.filter _⟩,λa F b hb=>?_⟩;have b0:=(Uk.1 F).1;have F:a.id<u.id:=J;rcases VM.1 hb with rfl|hb;rw[qJ];exact h4 a b0;have d0:=(Uk.1 hb).1;have hb:u.id<b.id:=J;have⟨i,hi⟩:=MI b0;have⟨k,hk⟩:=MI d0;have e0:i<k:=(by rcases TJ i k with h|rfl|h';exact h;grind;have:=h.XF h' hk hi;omega);exact h.apart i k _ _ e0 hi hk
def Bd{u:Un}(h:cq us)(F:qq us u=some vs):cq vs/\vs=mi us u/\kR u:=by unfold qq at F;split at F;rename_i hb;cases F;exact⟨h.ins hb,rfl,(jA.1 hb).1⟩;cases F
def Ba{ns:List Mk}{a:Ac}(h:cq us)(F:mB us ms a=some (vs,ns)):cq vs:=by unfold mB at F;split at F;(cases h1:qq us a.un with|none=>rw[h1]at F;cases F|some l=>rw[h1]at F;cases F;exact(Bd h h1).1);split at F;split at F;cases F;exact h.del _;cases F;split at F;split at F;(cases F;rename_i u hu;split at F;cases F;rename_i p q hc;split at F;cases F;rename_i l hl;cases h1:qq l {u with shape:=q,id:=a.un.id}with|none=>rw[h1]at F;cases F|some l'=>rw[h1]at F;cases F;exact(Bd (Bd (h.del _) hl).1 h1).1);split at F;split at F;(cases F;rename_i u hu;split at F;cases F;rename_i v hv;cases h1:qq (ju us a.id) v with|none=>rw[h1]at F;cases F|some l'=>rw[h1]at F;cases F;exact(Bd (h.del _) h1).1);split at F;grind;cases h1:gZ ms a.id (decide (a.kind=7))with|none=>rw[h1]at F;cases F|some l=>rw[h1]at F;cases F;exact h
end
section
set_option maxRecDepth 100000
set_option maxHeartbeats 0
variable{W:Words}{x0 x1 x2:O}{m:M}{R:ν->M->Nat->Prop}
def F241:=cN (P:=dB TE W f241 [x0,x1] m R)
def F250:=cN (P:=dB TE W f250 [x0,x1] m R)
def F251:=cN (P:=dB TE W f251 [x0,x1] m R)
def F280:=cN (P:=dB TE W f280 [x0,x1,x2] m R)
def F313:=cN (P:=dB TE W f313 [x0,x1] m R)
def F320:=cN (P:=dB TE W f320 [x0,x1] m R)
def F312:=cN (P:=dB TE W f312 [x0,x1] m R)
def F134:=cN (P:=dB TE W f134 [x0,x1] m R)
def F308:=cN (P:=dB TE W f308 [x0,x1] m R)
def F331:=cN (P:=dB TE W f331 [x0,x1] m R)
def F311:=cN (P:=dB TE W f311 [x0,x1] m R)
def F332:=cN (P:=dB TE W f332 [x0] m R)
def F152:=cN (P:=dB TE W f152 [x0] m R)
def F333:=cN (P:=dB TE W f333 [x0,x1,x2] m R)
def F277:=cN (P:=dB TE W f277 [x0,x1,x2] m R)
end
theorem _root_.Go.D.Lp.FP{F:(ν->M->Nat->Prop)->ν->M->Nat->Prop}{vs:ν}{m:M}{lo:Nat}{γ:Type}(μ:γ->Nat)(ux:γ->ν->M->Nat->Prop)(g0:γ)(h0:ux g0 vs m lo)
  (h:∀g vs m lo,ux g vs m lo->∀P:ν->M->Nat->Prop,(∀g' vs m lo,μ g'<μ g->ux g' vs m lo->P vs m lo)->F P vs m lo):Lp F vs m lo:=
 Lp.intro μ ux g0 h0 λg vs m lo hI=>h g vs m lo hI _ λg' vs m lo h1 h2=>⟨g',h1,h2⟩
def aA{α:Type}{x:Option α}{v:α}{P:α->Prop}(h:x=some v)(F:P v):aS x P:=by rw[h];exact F
abbrev bsG(T t:TypeId)(L:M->(O->Prop)->Prop)(W:Words)(x0 x2:O)(m:M)(lo0:Nat)(R:ν->M->Nat->Prop):Prop:=
(W.dh (aR TE m .len [T] [x0]) λv1 _=>(W.Lp (λP2 i0 m4 F=>W.un i0 λv6 r7=>W.un r7 λv8 r9=>(W.aS (bE TE .lss 3 v6 v8) λv10=>(iS v10
(W.aS (bE TE .add 3 v6 v8) λv11=>(W.aS (Tx TE m4 3 220 v11) λv12=>(W.aS (bE TE .shr 220 v12 (.int .u64 1)) λj0=>(W.aS (Tx TE m4 220 3 j0) λb0=>(W.aS (aD TE T x0 b0) λk0=>(W.aS (aC TE m4 t k0) λl0=>(L m4 λx1=>(rO x2 λg17 f18 n0=>(W.lU g17 (f18.toList++([l0,x1]++n0.toList)) m4 λv20 m21 d0=>(W.aS (bE TE .lss 3 v20 (.int .i64 0)) λo0=>(iS o0
(W.aS (bE TE .add 3 b0 (.int .i64 1)) λv24=>(P2 [v24,v8] m21 (min F d0)))
(P2 [v6,b0] m21 (min F d0)))))))))))))
(W.jn (λe0=>(W.aS (bE TE .lss 3 v6 v1) λp0=>(iS p0
(W.aS (aD TE T x0 v6) λv30=>(W.aS (aC TE m4 t v30) λv31=>(L m4 λx1=>(rO x2 λq0 f33 r0=>(W.lU q0 (f33.toList++([v31,x1]++r0.toList)) m4 λs0 u0 y0=>(W.aS (bE TE .eql 3 s0 (.int .i64 0)) λA0=>(e0 [v6,A0] u0 (min F y0))))))))
(e0 [v6,.bool false] m4 F))))
(λg0 B0 h0=>W.un g0 λO0 P0=>W.un P0 λQ0 a1=>(R [O0,Q0] B0 h0)))))) [.int .i64 0,v1] m lo0))
abbrev bsF(T t:TypeId)(W:Words)(x0 x1 x2:O)(m:M)(R:ν->M->Nat->Prop):Prop:=bsG T t (λ_ k=>k x1) W x0 x2 m (M.n m) R
def S3{W:Words}{x0 x1 x2:O}{m:M}:dB TE W f208 [x0,x1,x2] m R=bsF 27 43 W x0 x1 x2 m R:=bv
def S4{W:Words}{x0 x1 x2:O}{m:M}:dB TE W f275 [x0,x1,x2] m R=bsF 30 68 W x0 x1 x2 m R:=bv
def fo{α:Type}(key:α->Int)(l:List α)(id:Int):Nat:=(l.filter λx=>decide (key x < id)).length
def Ft{α:Type}{key:α->Int}{l:List α}{id:Int}:fo key l id<=l.length:=X0 _ _
theorem vz{α:Type}{key:α->Int}{l:List α}{id:Int}(h:l.Pairwise λa b=>key a<key b):
  l.take (fo key l id)=l.filter (λx=>decide (key x<id))/\l.drop (fo key l id)=l.filter (λx=>decide (id<=key x)):=by unfold fo;induction l with|nil=>exact⟨rfl,rfl⟩|cons a r F=>rw[ZV]at h;have⟨b0,d0⟩:=F h.2;by_cases e:key a<id;grind;have e2:id<=key a:=Z;have h0:(r.filter λx=>decide (key x<id))=[]:=(by rw[XA];grind);grind
def KA{α:Type}{key:α->Int}{l:List α}{id:Int}{i:Nat}(hi:i<=l.length)(h1:∀k x,k<i->l[k]?=some x->key x<id)(h2:∀k x,i<=k->l[k]?=some x->id<=key x):fo key l id=i:=by have e:l=l.take i++l.drop i:=(Jy i l).symm;unfold fo;rw[e,IT,Uc.2,XA.2,NC,ZO];omega;intro x hx;have⟨k,F⟩:=MI hx;rw[Sa]at F;have:=h2 _ x Z F;simp;omega;intro x hx;have⟨k,F⟩:=MI hx;have b0:=(Nr.1 F).1;rw[ZO]at b0;rw[XM Z]at F;have:=h1 k x Z F;simpa using this
def S2{α:Type}[aL α](hT:qs TE T t α){L:M->(O->Prop)->Prop}{lo0:Nat}(h0:lo0<=m.n){R:ν->M->Nat->Prop}
  {l:List α} {v:O} {g:Fn} {fi ca:Array O} {id:Int} {z:O} (hL:∀k:O->Prop,k z->L m k) (key:α->Int) (hb:l.length<400) (hl:Sl m l v) (g0:l.Pairwise λa b=>key a<key b)
  (hs:∀x∈l,∀cs,aL.rep m x cs->C X g (fi.toList++([aL.val α cs,z]++ca.toList)) m m.n (I (dt (key x) id)) m)
  (hK:∀lo,lo0<=lo->R [I (fo key l id:Nat),.bool (l.any λx=>decide (key x=id))] m lo):
  bsG T t L (aH TE X) v (.func g fi ca) m lo0 R:=by have d0:∀i k x y,i<k->l[i]?=some x->l[k]?=some y->key x<key y:=λi k x y o0 hx hy=>(by rw[Vr]at g0;obtain⟨h1,rfl⟩:=Nr.1 hx;obtain⟨h2,rfl⟩:=Nr.1 hy;exact g0 i k h1 h2 o0);dsimp only[bsG,aH];rw[hl.len hT,an];refine Lp.intro (γ:=Nat×Nat) (λs=>s.2-s.1) (λs vs mm lo=>vs=[I s.1,I s.2]/\s.1<=s.2/\s.2<=l.length/\m=mm/\lo0<=lo/\(∀k x,k<s.1->l[k]?=some x->key x<id)/\∀k x,s.2<=k->l[k]?=some x->id<=key x) (0,l.length) ⟨rfl,Vw _,R8 _,rfl,R8 _,λk x hk=>Z,J⟩ ?_;rintro⟨i,j⟩ vs mm lo ⟨rfl,p0,hj,rfl,r0,b0,F⟩;dsimp only at p0 hj b0 F⊢;rw[av,av,aK,Y,ag];refine af (λe0=>?_) (λj0=>?_);have e0:i<j:=J;obtain⟨x,hx⟩:∃x,l[(i+j)/2]?=some x:=⟨_,wo⟩;have⟨a,cs,e1,e2,hr⟩:=hl.index hT (k:=.i64) hx;rw[aO,Y,wrap64,show(i:Int)+(j:Int)=((i+j:Nat):Int) by omega,C0,Wd Z,Y,Wk,Y,C1,wrap64,Y,e1,Y,e2,Y];apply hL _;rw[cj];apply aw (hs x (QP hx) cs hr);rw[aK,Y,ag];refine af (λhc=>?_) (λhc=>?_);have hc:key x<id:=(by unfold dt at hc;by_cases h1:key x<id;exact h1;rw[ND h1]at hc;split at hc <;>simp at hc);rw[aO,Y,wrap64];refine⟨((i+j)/2+1,j),J,J,J,hj,rfl,Z,λk y hk hy=>?_,F⟩;by_cases e:k=(i+j)/2;subst e;rw[hx]at hy;cases hy;exact hc;have:=d0 k _ y x J hy hx;omega;have hc:id<=key x:=(by unfold dt at hc;by_cases h1:key x<id;rw[UG h1]at hc;simp at hc;omega);refine⟨(i,(i+j)/2),J,rfl,J,J,rfl,Z,b0,λk y hk hy=>?_⟩;by_cases e:k=(i+j)/2;subst e;rw[hx]at hy;cases hy;exact hc;have:=d0 _ k x y J hx hy;omega;have k0:i=j:=(by have:¬(i:Int)< (j:Int):=J;omega);subst k0;have l0:=KA (key:=key) (id:=id) hj b0 F;refine xr (λvs m' i0=>vs=[I i,.bool (l.any λx=>decide (key x=id))]/\m=m'/\lo0<=i0) (λR hR=>?_) ?_;rw[aK,Y,ag];refine af (λe0=>?_) (λj0=>?_);have e0:i<l.length:=J;obtain⟨x,hx⟩:∃x,l[i]?=some x:=⟨_,QC e0⟩;have⟨a,cs,e1,e2,hr⟩:=hl.index hT (k:=.i64) hx;rw[e1,Y,e2,Y];apply hL _;rw[cj];apply aw (hs x (QP hx) cs hr);rw[aJ,Y];refine hR ⟨?_,rfl,Z⟩;have e:(dt (key x) id=0)↔(∃y∈l,key y=id):=(by constructor;intro he;refine⟨x,QP hx,?_⟩;unfold dt at he;by_cases h1:key x<id;rw[UG h1]at he;omega;rw[ND h1]at he;by_cases h2:id<key x;rw[UG h2]at he;omega;omega;rintro⟨y,hy,he⟩;have⟨k,hk⟩:=MI hy;have q0:k=i:=(by rcases TJ k i with h|h|h;have:=b0 k y h hk;omega;exact h;have:=F i x (R8 _) hx;have:=d0 i k x y h hx hk;omega);subst q0;rw[hx]at hk;cases hk;unfold dt;rw[iJ,iJ]);have e':decide (dt (key x) id=0)=l.any λx=>decide (key x=id):=(by rw[Qi,decide_eq_true_iff,e,U7];simp);rw[<-e'];have j0:l.length=i:=(by have:¬(i:Int)< (l.length:Int):=J;omega);refine hR ⟨?_,rfl,Z⟩;have:(l.any λx=>decide (key x=id))=false:=(by rw[J3];intro y hy;have⟨k,hk⟩:=MI hy;have:=b0 k y J hk;simp;omega);rw[this];rintro _ _ i0 ⟨rfl,rfl,n0⟩;rw[av,av];have:=hK i0 n0;rwa[l0]at this
def Ie{α:Type}[aL α](hT:qs TE T t α){f:Nat}{fn:Func}(hX:GC X f)(hf:TE.fn.get f=some fn)(hn:Nat.ble 3 fn.ntmps)
  (hF:∀{W:Words} {x0 x1 x2:O} {m:M} {R:ν->M->Nat->Prop},dB TE W fn [x0,x1,x2] m R=bsF T t W x0 x1 x2 m R)
  {l:List α} {v:O} {g:Fn} {fi ca:Array O} {id:Int} {z:O} (key:α->Int) (hb:l.length<400) (hl:Sl m l v) (F:l.Pairwise λa b=>key a<key b)
  (hs:∀x∈l,∀cs,aL.rep m x cs->C X g (fi.toList++([aL.val α cs,z]++ca.toList)) m m.n (I (dt (key x) id)) m):
  C X (.func f) [v,z,.func g fi ca] m m.n (.tuple #[I (fo key l id:Nat),.bool (l.any λx=>decide (key x=id))]) m:=by refine Cl.flat hX hf hn rfl ?_;rw[hF];exact S2 hT (R8 _) (λ_ h=>h) key hb hl F hs λlo h=>⟨rfl,h⟩
def rk{α:Type}[aL α](hT:qs TE T t α){f:Nat}{fn:Func}(hX:GC X f)(hf:TE.fn.get f=some fn)(hn:Nat.ble 3 fn.ntmps)
  (hF:∀{W:Words} {x0 x1 x2:O} {m:M} {R:ν->M->Nat->Prop},dB TE W fn [x0,x1,x2] m R=bsF T t W x0 x1 x2 m R)
  {l:List α} {v:O} {g:Fn} {fi ca:Array O} {id:Int} (key:α->Int) (hb:l.length<400) (hl:Sl m l v) (F:l.Pairwise λa b=>key a<key b)
  (hs:∀x∈l,∀cs,aL.rep m x cs->C X g (fi.toList++([aL.val α cs,I id]++ca.toList)) m m.n (I (dt (key x) id)) m):
  C X (.func f) [v,I id,.func g fi ca] m m.n (.tuple #[I (fo key l id:Nat),.bool (l.any λx=>decide (key x=id))]) m:=Ie hT hX hf hn hF key hb hl F hs
section
set_option maxRecDepth 100000
set_option maxHeartbeats 0
def F247{W:Words}{x0:O}{m:M}:=cN (P:=dB TE W f247 [x0] m R)
def F150{X:aF}{x0:O}{m:M}:dB TE (aH TE X) f150 [x0] m R=ς m x0 87 λa=>υ a [.nilFunc,.nilFunc,.nilFunc,.nilFunc,.nilFunc] 234 λb=>ω X 192 [] b λc d f=>(b.n<=f)/\(ε 87 (χ m) 0 λb=>δ d 3 b λb=>aS (eZ TE d 268 c b true) λb=>ξ b 0 λc=>ξ b 1 λb=>υ d [.nilFunc,.nilFunc,.nilFunc,.nilFunc,.nilFunc] 234 λg=>ι g 234 (χ d) c λc g=>iS b (jn (λb=>δ c 234 (χ d) λh=>ε 234 (χ d) 0 λd=>δ c 228 d λd=>δ c 87 (χ m) λi=>rO d λd j k=>lU TE X d (j.toList++([i]++k.toList)) c λd i j=>(c.n<=j)/\(iS d (ε 87 (χ m) 5 λc=>δ i 68 c λd=>θ 68 [] λk=>η .eql 68 d k λd=>ι i 234 (χ a) h λa h=>((i.n<=h)\/(mQ (some (.v c)) h/\True))/\(b [d] a (Θ m.n f g j h))) (ι i 234 (χ a) h λa c=>((i.n<=c)\/(True/\True))/\(b [P6] a (Θ m.n f g j c))))) (λb c d=>un b λb _=>aS (aC TE c 234 (χ a)) λa=>R [a,b] c d)) (ω X 193 [] c λb h i=>(c.n<=i)/\(ε 87 (χ m) 0 λc=>δ h 3 c λc=>aS (eZ TE h 268 b c true) λb=>ξ b 0 λc=>ξ b 1 λb=>ι h 234 (χ d) c λc h=>jn (λj=>δ c 234 (χ d) λk=>iS b (ε 234 (χ d) 0 λb=>δ c 228 b λb=>δ c 87 (χ m) λd=>rO b λb l n=>lU TE X b (l.toList++([d]++n.toList)) c λb d l=>(c.n<=l)/\(iS b (ε 87 (χ m) 0 λb=>δ d 3 b λb=>η .eql 3 b (ψ 5) λb=>iS b (ι d 234 (χ a) k λa b=>((d.n<=b)\/(True/\True))/\(j [VT] a (Ξ m.n f g i h l b))) (ε 87 (χ m) 5 λb=>δ d 68 b λc=>θ 68 [] λn=>η .eql 68 c n λc=>ι d 234 (χ a) k λa k=>((d.n<=k)\/(mQ (some (.v b)) k/\True))/\(j [c] a (Ξ m.n f g i h l k)))) (ι d 234 (χ a) k λa b=>((d.n<=b)\/(True/\True))/\(j [P6] a (Ξ m.n f g i h l b))))) (ι c 234 (χ a) k λa b=>((c.n<=b)\/(True/\True))/\(j [P6] a (Λ m.n f g i h b)))) (λb c d=>un b λb _=>aS (aC TE c 234 (χ a)) λa=>R [a,b] c d)))):=bv
variable{W:Words}{x0:O}{m:M}{R:ν->M->Nat->Prop}
def F192:=cN (P:=dB TE W f192 [] m R)
def F193:=cN (P:=dB TE W f193 [] m R)
def F102:=cN (P:=dB TE W f102 [x0] m R)
end
section
set_option maxRecDepth 100000
set_option maxHeartbeats 0
variable{W:Words}{x0 x1:O}{m:M}{R:ν->M->Nat->Prop}
def F237:=cN (P:=dB TE W f237 [x0] m R)
def F240:=cN (P:=dB TE W f240 [x0,x1] m R)
def F246:=cN (P:=dB TE W f246 [x0] m R)
def F249:=cN (P:=dB TE W f249 [x0,x1] m R)
def F269:=cN (P:=dB TE W f269 [x0] m R)
def F272:=cN (P:=dB TE W f272 [x0] m R)
def F274:=cN (P:=dB TE W f274 [x0,x1] m R)
def F279:=cN (P:=dB TE W f279 [x0,x1] m R)
def F282:=cN (P:=dB TE W f282 [x0,x1] m R)
def F276:=cN (P:=dB TE W f276 [x0,x1] m R)
end
section
variable {X:aF} {m:M}
def mc{α:Type}[aL α](n1:Nat)(m:M)(l:List α)(v:O):Prop:=
 Ow n1 m l v\/(l=[]/\∃b,v=.slice (some ⟨b,0,none⟩) 0 0/\n1<=b/\m.get b=.cells [] (aL.ty α) none)
section
variable {α:Type} [aL α]
def mc.sl{n1:Nat}{l:List α}{v:O}(h:mc n1 m l v):Sl m l v:=by rcases h with h|⟨rfl,b,rfl,h1,F⟩;exact h.sl;exact .inr ⟨b,0,0,[],none,rfl,F,co,J⟩
def mc.ak{n1:Nat}{m':M}{l:List α}{v:O}(h:mc n1 m l v)(F:Ext m m'):mc n1 m' l v:=
 h.imp (λh=>h.ak F) λ⟨h1,b,h2,h3,h4⟩=>⟨h1,b,h2,h3,F.cells h4⟩
def mc.mono{n1 n2:Nat}{l:List α}{v:O}(h:mc n1 m l v)(F:n2<=n1):mc n2 m l v:=
 h.imp (λh=>h.mono F) λ⟨h1,b,h2,h3,h4⟩=>⟨h1,b,h2,Z,h4⟩
def mc.xI{n1:Nat}{m':M}{l:List α}{v:O}(ht:aL.dN α=[])(h:mc n1 m l v)(F:∀c,n1<=c->c<m.n->m'.get c=m.get c):mc n1 m' l v:=
 h.imp (λh=>h.xI ht F) λ⟨h1,b,h2,h3,h4⟩=>⟨h1,b,h2,h3,by rw[F b h3 (M.aM h4),h4]⟩
def Ik(hT:vp TE T α){a0 a:Addr}{c:Nat}:aR TE (m.wl m.n) .append [T,T] [.slice (some a0) 0 0,.slice (some a) 0 c]=some (.slice (some a0) 0 0,m.wl m.n):=by have⟨F,ei,t1,t2,t3,t4,t5,t6⟩:=hT;have b0:=aL.pos (α:=α);have c1:Nat.beq F.es 0=false:=(by cases hb:Nat.beq F.es 0 with|false=>rfl|true=>have:=L6 hb;omega);have c2:Nat.blt 65536 ei.bytes=false:=(by cases hb:Nat.blt 65536 ei.bytes with|false=>rfl|true=>rw[TB]at hb;omega);have hf:first? (m.wl m.n) F.es 0 (.slice (some a) 0 c)=some []:=rfl;have hc:(Nat.beq F.es 0 ||Nat.blt 65536 ei.bytes || !([]:ν).all D.one ||Nat.blt 268435456 (0+0) || !Nat.beq ([]:ν).length (0*F.es) || !iM ei.zero F.es)=false:=(by have c4:Nat.beq ([]:ν).length (0*F.es):=dg;rw[c1,c2,c4,t3,t6];rfl);simp only[aR,eD,t1,t2,t4,kC,hf];rw[hc];rfl
abbrev WH(T:TypeId)(W:Words)(x0:O)(m:M)(R:ν->M->Nat->Prop):Prop:=
(W.aS (bE TE .eql T x0 (.slice none 0 0)) λv1=>(iS v1
(R [.slice none 0 0] m (M.n m))
(W.dh (aQ TE m T 0 []) λv2 m3=>(W.dh (aR TE (M.wl m3 (M.n m3)) .append [T,T] [v2,x0]) λv4 m5=>(R [v4] m5 (min (M.n m) (M.low m5)))))))
def qm{T:TypeId}(hT:vp TE T α){f:Nat}{fn:Func}(hX:GC X f)(hf:TE.fn.get f=some fn)(hn:Nat.ble 1 fn.ntmps)
  (hF:∀{W:Words} {x0:O} {m:M} {R:ν->M->Nat->Prop},dB TE W fn [x0] m R=WH T W x0 m R)
  (h1:bE TE .eql T Z9 Z9=some VT) (h2:∀a n c,bE TE .eql T (.slice (some a) n c) Z9=some P6)
  (h3:∀m:M,aQ TE m T 0 []=some (Hr m.n 0 0 0,m.push (.cells [] (aL.ty α) none)))
  {l:List α} {v:O} (hl:Sl m l v) (hs:l.length<=1000000):∃v' m',C X (.func f) [v] m m.n v' m'/\Ext m m'/\mc m.n m' l v':=by
 have key:∃v' m' b,C X (.func f) [v] m b v' m'/\b=m.n/\Ext m m'/\mc m.n m' l v':=by
  refine Cl.gen (R:=λv' m' b=>b=m.n/\Ext m m'/\mc m.n m' l v') hX hf hn ?_;rw[hF];dsimp only[WH,aH];rcases hl with⟨rfl,rfl⟩|⟨b,o,c,bc,g,rfl,hb,hlen,g0⟩;·rw[h1,Y,ag,bN];exact .inl ⟨rfl,R8 _,rfl,.refl,.inl Ow.nil⟩
  have hl:Sl m l (Hr b o l.length c):=.inr ⟨b,o,c,bc,g,rfl,hb,hlen,g0⟩;rw[h2,Y,ag,aT,h3,an];have F:Ext m (m.push (.cells [] (aL.ty α) none)):=Ext.refl.push;by_cases b0:l=[]
  ·subst b0;rw[JW,Ik hT,an];exact .inr ⟨.inl rfl,by show min m.n _=m.n;simp[M.Bn,M.jr],F.wl,.inr ⟨rfl,m.n,rfl,R8 _,M.aU⟩⟩
  have⟨v',m1,e1,d0,he,e0⟩:=mD (m:=m.push (.cells [] (aL.ty α) none)) hT (b:=m.n) M.aU (hl.ak F) b0 hs;rw[e1,an];have h0:=d0.flat b0;rw[M.jr]at e0;exact .inr ⟨.inl h0,Z,F.trans he,.inl (d0.mono (by rw[M.jr];omega))⟩
 obtain⟨v',m',b,hc,rfl,h⟩:=key;exact⟨v',m',hc,h⟩
end
def Z4{W:Words}{x0:O}{m:M}:dB TE W f86 [x0] m R=WH 30 W x0 m R:=bv
def acx{W:Words}{x0:O}{m:M}:dB TE W f340 [x0] m R=WH 27 W x0 m R:=bv
def Z2{W:Words}{x0:O}{m:M}:dB TE W f53 [x0] m R=WH 41 W x0 m R:=bv
def C2(F:cp X){l:List Mk}{v:O}(hl:Sl m l v)(hs:l.length<=1000000):∃v' m',xw X 86 [v] m v' m'/\Ext m m'/\mc m.n m' l v':=
 qm pH (F.no _ rfl) (U5 func86) rfl Z4 bv (λ_ _ _=>bv) (λ_=>bv) hl hs
def JP(F:cp X){l:List UW}{v:O}(hl:Sl m l v)(hs:l.length<=1000000):∃v' m',xw X 340 [v] m v' m'/\Ext m m'/\mc m.n m' l v':=
 qm zt (F.no _ rfl) (U5 func340) rfl acx bv (λ_ _ _=>bv) (λ_=>bv) hl hs
structure V4(S n1:Nat)(mm:M)(acc:List UW)(ms:List Mk)(r vm:O):Prop where
 cell:mm.get S=.cells [r,vm] 32 none
 ow:Ow (S+1) mm acc r
 sh:∀x∈acc,Sl mm x.u.shape x.w
 ln:∀x∈acc,x.u.shape.length < 1000000
 Du:mc n1 mm ms vm
def V4.xU{S:Nat}{acc:List UW}{r F:O}(h:V4 S n1 mm acc ms r F):cD mm acc r:=
 ⟨h.ow.sl,h.sh,h.ln,by rcases h.ow with⟨_,h⟩|⟨b,cs,h1,h2,h3,h4,h5,h6⟩;grind;exact .inr ⟨b,0,_,cs,_,h1,R8 _,h4,.inr rfl⟩⟩
def ru(hX:cp X){l:List UW}{ms:List Mk}{r vm:O}(hF:cD m l r)(L1:∀x∈l,x.u.shape≠ [])(y2:l.length<=1000)(hm:Sl m ms vm)(O1:ms.length<=1000000):
  ∃r' F m' l',xw X 102 [.agg #[r,vm]] m (.agg #[r',F]) m'/\Ext m m'/\bH l'=bH l/\cD m' l' r'/\mc m.n m' ms F:=by
 refine Cl.ky hX (U5 func102) (R:=λv' m'=>∃r' F l',v'=.agg #[r',F]/\Ext m m'/\bH l'=bH l/\cD m' l' r'/\mc m.n m' ms F) ?_ λv' m' hc ⟨r',F,l',e,h1,h2,h3,h4⟩=>⟨r',F,m',l',e ▸ hc,h1,h2,h3,h4⟩;rw[F102];dsimp only[aH];refine ah λm1 b3 Q1 c3=>?_;refine ah λm2 d3 T1 a2=>?_;have O0:Ext m m2:=⟨Z,J⟩;have g1:m2.get m.n=.cells [r,vm] 32 none:=(by rw[a2 _ Z];exact Q1);have g2:m2.get m1.n=.cells [Z9,Z9] 32 none:=T1;unfold ptrTo;rw[bI,Y,jC,aG g1];simp only[Jf,XW,Q7,Y];have⟨F,m6,b2,r0,s0⟩:=C2 (m:=m2) hX (hm.ak O0) O1;apply aw b2;have z2:=r0.n;have l0:one F:=s0.sl.one;have⟨am,cm,c2⟩:=s0.sl.form;have j1:bz TE 32 [(1,F)]=some (.agg #[Z9,F]):=(by rw[c2];exact C9 rfl);rw[j1,Y];refine ah λm9 g3 d2 i3=>?_;refine aj eF d2 rfl rfl (by show(true && (one F && true))=true;rw[l0];rfl) λm10 A2 k1 B2=>?_;have g10:m10.get m6.n=.cells [Z9,F] 32 none:=k1;have h0:Ext m6 m10:=⟨Z,J⟩;have l1:=(O0.trans r0).trans h0;have G2:=O0.n;have G1:=h0.cells (r0.cells g1);rw[bM,Y,bk,Y,dV,aG G1];simp only[Jf,XW,Y];rw[(hF.sl.ak l1).len cY,an];refine Lp.FP (γ:=Nat) (λi=>l.length-i) (λi vs mm lo=>∃acc r',vs=[I i]/\i<=l.length/\bH acc=(bH l).take i/\V4 m6.n m2.n mm acc ms r' F/\(∀c,c<m6.n->mm.get c=m10.get c)/\m10.n<=mm.n/\m.n<=lo) 0 ⟨[],_,rfl,Vw _,rfl,⟨g10,Ow.nil,λx hx=>(by cases hx),λx hx=>(by cases hx),s0.ak h0⟩,λ_ _=>rfl,R8 _,Z⟩ ?_;rintro i vs mm lo ⟨acc,r',rfl,hi,n0,hS,hk,j3,k3⟩ P hP;have P0:Ext m mm:=⟨Z,λc hc=>by rw[hk c Z,l1.get c hc]⟩;have L2:acc.length=i:=(by have:=congrArg List.length n0;rw[cx,ZO,cx]at this;omega);rw[av,aK,Y,ag];refine af (λQ0=>?_) (λm3=>?_);have Q0:i<l.length:=J;obtain⟨x,hx⟩:∃x,l[i]?=some x:=⟨_,QC Q0⟩;have g0:=QP hx;have⟨a,e1,e2,l0⟩:=(hF.sl.ak P0).gR (k:=.i64) hx;rw[e1,Y,e2,Y];refine ah λn3 M2 o1 O2=>?_;refine aj dO o1 rfl rfl (Un.dp l0) λa1 P2 p1 Q2=>?_;have A0:Ext mm a1:=⟨Z,J⟩;have gu:a1.get mm.n=.cells x.c 43 none:=p1;obtain⟨-, -, -,l3, -, -⟩:=kS gu;rw[bA,Y,l3,Y];obtain⟨w',o3,r1,e0,o0⟩:=rf (m:=a1) hX ((hF.sh x g0).ak (P0.trans A0)) (L1 x g0) (by have:=hF.ln x g0;omega);apply aw r1;have n31:=o0.n;have o7:one w':=e0.sl.one;have u1:=o0.cells gu;rw[Y];refine bS uN u1 (by rw[e0.sl.cells];rfl) (by rw[e0.sl.cells];show 3+1<=6;omega) (by rw[e0.sl.cells];simp[o7]) λb0 T2 v1 B0=>?_;have i2:b0.get mm.n=.cells (x.u.c w') 43 none:=(by rw[v1,e0.sl.cells];rfl);have p0:∀c,c<mm.n->b0.get c=mm.get c:=λc hc=>(by rw[B0 c Z,o0.get c Z,A0.get c hc]);have i0:Ext mm b0:=⟨Z,p0⟩;have d0:V4 m6.n m2.n b0 acc ms r' F:=⟨i0.cells hS.cell,hS.ow.ak i0,λy hy=>(hS.sh y hy).ak i0,hS.ln,hS.Du.ak i0⟩;have w1:Sl b0 x.u.shape w':=e0.sl.aX λb c t g hb ht=>(by have h1:b≠mm.n:=λe=>(by subst e;rw[u1]at hb;cases hb;simp[aL.ty,aL.dN]at ht);rw[B0 b h1,hb]);rw[bM,Y,bk,Y,dV,aG d0.cell];simp only[Jf,XW,Y];rw[bQ i2,Y];have j2:aQ TE b0 27 1 [(0,x.u.v w')]=some (Hr b0.n 0 1 1,b0.push (.cells (UW.c ⟨x.u,w'⟩) 43 none)):=AP (x:=⟨x.u,w'⟩);rw[j2,an];have y1:Ext b0 (b0.push (.cells (UW.c ⟨x.u,w'⟩) 43 none)):=Ext.refl.push
 obtain⟨r2,r3,k0,e3,e4,h5,h6,h7,h8,h9,k2⟩:=Qm (α:=UW) (o:=0) (x:=⟨x.u,w'⟩) zt rfl GP rfl d0.cell rfl (OO _) J d0.ow y1 (Ee (M.aU) o7) Z;rw[e3,an,bk,Y];simp only[Jf]at e4⊢;rw[e4,an,aO,Y,wrap64];have h8:b0.n+1<=k0.n:=h8;have A1:∀c,c<b0.n->(b0.push (.cells (UW.c ⟨x.u,w'⟩) 43 none)).get c=b0.get c:=λc hc=>M.cH hc;have b1:∀c,c<b0.n->c≠m6.n->(∀cs g,b0.get c≠.cells cs 43 g)->k0.get c=b0.get c:=λc hc h1 h2=>(by rw[k2 c (by show c<b0.n+1;omega) h1 (λcs g=>by rw[A1 c hc];exact h2 cs g),A1 c hc]);have B1:∀{sh:List Pl} {w:O},Sl b0 sh w->Sl k0 sh w:=λhs=>hs.aX λb c t g hb ht=>(by have ht:t=46:=(by simpa[aL.ty,aL.dN]using ht);subst ht;rw[b1 b (M.aM hb) (λe=>by subst e;rw[d0.cell]at hb;cases hb) J,hb]);have u0:mc m2.n k0 ms F:=(by rcases d0.Du with(⟨h1,h2⟩|⟨b,cs,h1,h2,h3,h4,c1,d1⟩)|⟨h1,b,h2,h3,h4⟩;exact .inl (.inl ⟨h1,h2⟩);have l2:k0.get b=b0.get b:=b1 b (M.aM h4) (λe=>by subst e;rw[d0.cell]at h4;cases h4) (λo2 g' e=>by rw[e]at h4;cases h4);exact .inl (.inr ⟨b,cs,h1,h2,h3,J,c1,λi y hy=>d1 i y hy⟩);have l2:k0.get b=b0.get b:=b1 b (M.aM h4) (λe=>by subst e;rw[d0.cell]at h4;cases h4) (λo2 g' e=>by rw[e]at h4;cases h4);exact .inr ⟨h1,b,h2,h3,J⟩);refine hP (i+1) _ _ _ Z ⟨acc++ [⟨x.u,w'⟩],r2,by push_cast;rfl,Q0,?_,⟨h6,h7,λy hy=>?_,λy hy=>?_,u0⟩,λc hc=>?_,Z,Z⟩;rw[Z8,kg hx,<-n0];unfold bH;rw[MN];rfl;rcases IF.1 hy with hy|hy;exact B1 (d0.sh y hy);rw[RV]at hy;subst hy;exact B1 w1;rcases IF.1 hy with hy|hy;exact hS.ln y hy;rw[RV]at hy;subst hy;exact hF.ln x g0;rw[h9 c Z Z,p0 c Z,hk c hc];have u2:i=l.length:=(by grind);have er:one r':=hS.ow.sl.one;rw[oQ,aI (n:=2) hS.cell J,F4,Y];have v2:mm.get m1.n=.cells [Z9,Z9] 32 none:=(by rw[hk _ Z,h0.get _ Z,r0.get _ Z,g2]);refine aj eF v2 rfl rfl (by show(one r' && (one F && true))=true;rw[er,s0.sl.one];rfl) λy0 U2 H1 K1=>?_;have w2:y0.get m1.n=.cells [r',F] 32 none:=H1;rw[oQ,aI (n:=2) w2 J,F4,Y];have i1:Ext m y0:=⟨Z,λc hc=>by rw[K1 c Z,P0.get c hc]⟩;have u0:mc m.n y0 ms F:=(by rcases hS.Du with(⟨h1,h2⟩|⟨b,cs,h1,h2,h3,h4,c1,d1⟩)|⟨h1,b,h2,h3,h4⟩;exact .inl (.inl ⟨h1,h2⟩);exact .inl (.inr ⟨b,cs,h1,h2,Z,J,c1,λi y hy=>d1 i y hy⟩);exact .inr ⟨h1,b,h2,Z,J⟩);have q0:cD y0 acc r':=hS.xU.aX λc cs t g hc ht=>(by grind);have j0:bH acc=bH l:=(by rw[n0,u2,<-cx,W8]);rcases hS.ow with⟨h1,h2⟩|⟨b,cs,h1, -⟩;rcases u0 with(⟨h3,h4⟩|⟨b,cs,h3,hh⟩)|⟨h3,b,h4,hh⟩;subst h1 h3;subst h2 h4;exact .inl ⟨by first|rfl|trivial,Z,J,_,_,[],rfl,.refl,j0,Lr m,.inl Ow.nil⟩;exact .inr ⟨.inl (by rw[h1,h3];first|rfl|trivial),Z,r',F,acc,rfl,i1,j0,q0,.inl (.inr ⟨b,cs,h3,hh⟩)⟩;exact .inr ⟨.inl (by rw[h1,h4];first|rfl|trivial),Z,r',F,acc,rfl,i1,j0,q0,.inr ⟨h3,b,h4,hh⟩⟩;exact .inr ⟨.inl (by rw[h1];rfl),Z,r',F,acc,rfl,i1,j0,q0,u0⟩
end
section
variable {m:M}
section
variable {α:Type} [aL α]
def ER{cs:ν}{k j p:Nat}{c:O}(F:j<k):chunk (cs.set (i*k+j) c) k p=if p=i then(chunk cs k p).set j c else chunk cs k p:=by unfold chunk;by_cases e:p=i;subst e;rw[UG rfl,Dd,iJ,show p*k+j-p*k=j by omega,ZN];rw[ND e];by_cases h:p<i;have:(p+1)*k<=i*k:=MO _ h;rw[IM,HY]at this;rw[Dd,iJ,ZN,RR J];have:(i+1)*k<=p*k:=MO _ Z;rw[IM,HY]at this;rw[Dd,ifp]
def Fw(i0:aL.dN α=[]){n1:Nat}{l:List α}{v:O}(h:Ow n1 m l v){i:Nat}{x:α}(hi:l[i]?=some x){T t0:TypeId}(hT:qs TE T t0 α):
  ∃b,(∀q,aD TE T v (.int q i)=some (Ω b (0+i*aL.sz α)))/\n1<=b/\(∃cs g,m.get b=.cells cs (aL.ty α) g)/\b<m.n/\
   (∃cs,aL.rep m x cs/\∀j,j<aL.sz α->cellAt m ⟨b,0+i*aL.sz α+j,none⟩=cs[j]?)/\
   ∀(k:Nat) (t:TypeId) (ti:TI) (y:α) (c:O),TE.ty.get t=some ti->ti.size=1->cells c=[c]->one c->k<aL.sz α->(∀cs,aL.rep m x cs->∀m',aL.rep m' y (cs.set k c))->
    ∀P:M->Nat->Prop,(∀m1,m1.n=m.n->Ow n1 m1 (l.set i y) v->(∀c,c≠b->m1.get c=m.get c)->P m1 b)->
    dh (bh TE m t (Ω b (0+i*aL.sz α+k)) c) P:=by have d0:=(Nr.1 hi).1;rcases h with⟨_,rfl⟩|⟨b,cs,rfl,h2,h3,h4,h5,h6⟩;grind;have⟨e0,te,t1,⟨e,t2⟩,t3,t4,t5,t6⟩:=hT;have h0:=aL.pos (α:=α);have hmul:(i+1)*aL.sz α<=l.length*aL.sz α:=MO _ d0;rw[IM,HY]at hmul;refine⟨b,λq=>?_,h3,⟨cs,_,h4⟩,M.aM h4,⟨_,h6 i x hi,λj hj=>?_⟩,λk t ti y c ht j0 hc h1 hk hy P hP=>?_⟩;have F:0<=(i:Int)/\(i:Int)< (l.length:Int)/\0<e0.es:=⟨Z,Z,Z⟩;simp only[aD,t1,t2];rw[UG F,bs rfl,t3];rfl;rw[aG h4];unfold chunk;grind;refine bS ht h4 J J J λm1 hn hg g0=>?_;rw[hc]at hg;have b0:cs.take (0+i*aL.sz α+k)++([c]++cs.drop (0+i*aL.sz α+k+ [c].length))=cs.set (i*aL.sz α+k) c:=(by rw[Jf];exact np Z);rw[b0]at hg;refine hP m1 hn (.inr ⟨b,_,J,J,h3,hg,J,λp z hz=>?_⟩) g0;rw[ER hk];by_cases e:p=i;grind;rw[ND e];rw[Xi (Ne.symm e)]at hz;exact aL.aX (h6 p z hz) λb c t g _ h=>J
def KD(j0:aL.dN α=[]){n1:Nat}{l:List α}{v:O}(h:Ow n1 m l v){i:Nat}(F:i<l.length){T t0:TypeId}(hT:qs TE T t0 α):
  ∃b,(∀q,aD TE T v (.int q i)=some (Ω b (0+i*aL.sz α)))/\n1<=b/\b<m.n/\(∃cs g,m.get b=.cells cs (aL.ty α) g)/\(∀a n k,v=.slice (some a) n k->a.block=b)/\
   ∀(y:α) (w:O) (ti:TI),TE.ty.get t0=some ti->ti.size=aL.sz α->aL.rep m y (cells w)->
    ∀P:M->Nat->Prop,(∀m1,m1.n=m.n->Ow n1 m1 (l.set i y) v->(∀c,c≠b->m1.get c=m.get c)->P m1 b)->
    dh (bh TE m t0 (Ω b (0+i*aL.sz α)) w) P:=by rcases h with⟨_,rfl⟩|⟨b,cs,rfl,h2,h3,h4,h5,h6⟩;grind;have⟨d0,te,t1,⟨e,t2⟩,t3,t4,t5,t6⟩:=hT;have i0:=aL.pos (α:=α);have hmul:(i+1)*aL.sz α<=l.length*aL.sz α:=MO _ F;rw[IM,HY]at hmul;refine⟨b,λq=>?_,h3,M.aM h4,⟨cs,_,h4⟩,J,λy w ti ht k0 hr P hP=>?_⟩;have b0:0<=(i:Int)/\(i:Int)< (l.length:Int)/\0<d0.es:=⟨Z,Z,Z⟩;simp only[aD,t1,t2];rw[UG b0,bs rfl,t3];rfl;have e0:(cells w).length=aL.sz α:=aL.len hr;refine bS ht h4 J J (aL.iy hr) λm1 hn hg hk=>?_;rw[e0,Jf]at hg;have hA:(cs.take (i*aL.sz α)).length=i*aL.sz α:=J;have g0:∀{z:α} {q:ν},aL.rep m z q->aL.rep m1 z q:=λhr=>aL.aX hr λb c t g hb ht=>J;refine hP m1 hn (.inr ⟨b,_,J,J,h3,hg,?_,λp z hz=>?_⟩) hk;grind;rcases TJ p i with e|e|e;rw[Xi Z]at hz;rw[cX hA e];have hle:(p+1)*aL.sz α<=i*aL.sz α:=MO _ e;rw[IM,HY]at hle;have:chunk (cs.take (i*aL.sz α)) (aL.sz α) p=chunk cs (aL.sz α) p:=(by unfold chunk;rw[Z3,zm];grind);grind;subst e;rw[M3 F]at hz;cases hz;rw[cy hA (R8 _),Xd];have:chunk (cells w++cs.drop (p*aL.sz α+aL.sz α)) (aL.sz α) 0=cells w:=(by unfold chunk;grind);grind;rw[Xi Z]at hz;rw[cy hA Z];have h0:(cells w).length=1*aL.sz α:=J;rw[cy h0 Z];have:chunk (cs.drop (i*aL.sz α+aL.sz α)) (aL.sz α) (p-i-1)=chunk cs (aL.sz α) p:=(by unfold chunk;rw[Xa];congr 2;have:p*aL.sz α=(i+1+(p-i-1))*aL.sz α:=J;grind);grind
end
end
end Go.Proofs.YthffgohpkjpkbaaGreatDoor
namespace Go.D
open Go
variable{args:ν}{ops:Array Oper}{F T:Tr O}{f g j lo t:Nat}{o:Oper}{call:aF}{m:M}{PN:M->Nat->Prop}{fn:Func}
section
variable{P:Program}{E:Env}{X:aF}{σ:Sg}{m m1:M}{w w':World}{f:Nat}{args:ν}{v:O}{args':Array O}
def Cl.calls(hE:E.OK P)(F:cP P X)(hc:Cl E X (.func f) args m m.n v m1)(hs:eW P σ m w)(hl:bK σ args args'.toList):
  CallsIn Fence.wide 0 P f args' w (dR P σ (m.wl m.n) w v (m1.wl m.n))/\(callFunc f args').run P w=.ok (.enter f args') w:=by have⟨hn,_,n0,h⟩:=hc;have h1:=h (n0+1) Z m.n (R8 _);rw[MD]at h1;exact vW hE F (jY hE F n0) h1 (hs.low m.n) hl
def dR.flat(hs:eW P σ m w)(hv:bL v){e:Ending}(h:dR P σ (m.wl m.n) w v (m1.wl m.n) e w'):dR P σ m w v m e w':=by obtain⟨v',σ',rfl,F,he⟩:=h;have:=F.bJ hv;subst this;exact⟨_,σ,rfl,.flat _ hv,Ev.kept hs (λB hB=>he.heap B hB λb i hb _=>hs.vd b i hb) he.hle he.os he.tape he.output⟩
end
section
abbrev iB:=Fn->ν->M->Option M
noncomputable section
variable (E:Env)
def lD(pan:iB)(T:Tr O)(m:M):Op->Option M
 |.call c=>match c.callee with
  |.value f=>match ev T f with
   |.func g first captured=>pan g (first.toList++(c.args.toList.map (ev T)++captured.toList)) m
   |_=>none
  |_=>none
 |_=>none
def fX(call:aF)(pan:iB)(ops:Array Oper):List Oper->Fr->Option Fr
 |[],_=>none
 |o::rest,fr=>
  bif cd ops fr.T o then
   match dJ o.op E call fr.T fr.m with
   |some (v,m)=>fX call pan ops rest {T:=put fr.T o.dst v,m:=m}
   |none=>(lD pan fr.T fr.m o.op).map λm=>{fr with m:=m}
  else fX call pan ops rest {fr with T:=put fr.T o.dst undef}
def F0:Op->Bool
 |.call c=>match c.callee with |.value _=>true |_=>false
 |_=>false
def C5(ops:Array Oper):Nat:=ops.toList.findIdx λo=>F0 o.op
def behind(ops:Array Oper)(p i:Nat):Bool:=Nat.blt p i && ((Region.before ops).getD i 0).testBit p
def jB:Op->Bool
 |.load ..=>true
 |o=>fP o
def Ht:Op->Bool
 |.alloc _=>true
 |_=>false
def kz(ops:Array Oper)(o:Oper):Bool:=ops.toList.all λq=> !Ht q.op ||(match q.dst with |some d=> !(fJ ops o).contains d |none=>true)
def wZ(E:Env)(o:Oper):Bool:=match o.guard,o.op with
 |none,.alloc t=>(gX E t).isSome
 |_,_=>false
def dw(call:aF)(pan:iB)(ops:Array Oper)(p:Nat)(m:M):List Oper->Nat->Tr O->Option M->Option M
 |[],_,_,r=>r
 |o::l,j,T,r=>
  bif Nat.beq j p then
   bif kz ops o && cd ops T o then
    match lD pan T {m with low:=m.n} o.op with
    |some m'=>dw call pan ops p m l (j+1) T (some {m' with low:=min m.low m'.low})
    |none=>none
   else none
  else bif behind ops p j ||(Nat.blt p j && wZ E o)then dw call pan ops p m l (j+1) T r
  else bif jB o.op && kz ops o then
   bif cd ops T o then
    match dJ o.op E call T {m with low:=m.n}with
    |some (v,_)=>dw call pan ops p m l (j+1) (put T o.dst v) r
    |none=>none
   else dw call pan ops p m l (j+1) (put T o.dst undef) r
  else none
def dU(F:Bool)(call:aF)(pan:iB)(n:Nat):Code->Fr->Option Fr
 |.region _ ops d,fr=>bif d then(bif F then(dw E call pan ops (C5 ops) fr.m ops.toList 0 fr.T none).map λm=>{fr with m:=m}else none)else fX E call pan ops ops.toList fr
 |.seq a b,fr=>
  match bF E call n a fr with
  |some (.normal,fr)=>dU F call pan n b fr
  |some _=>none
  |none=>dU F call pan n a fr
 |.cond c x y,fr=>match ev fr.T c with
  |.bool t=>bif t then dU F call pan n x fr else dU F call pan n y fr
  |_=>none
 |.block _ c,fr=>dU F call pan n c fr
 |.scope c,fr=>dU F call pan n c fr
 |_,_=>none
def jI(X:aF)(B:iB):Nat->iB
 |0,_,_,_=>none
 |n+1,.func f,args,m=>
  match B (.func f) args m with
  |some m'=>some m'
  |none=>
   match E.fn.get f with
   |none=>none
   |some fn=>
    match fn.body with
    |none=>none
    |some body=>
     bif Nat.ble args.length fn.ntmps && fL body && (X (.func f) args m).isNone then
      (dU E true (bT E X n) (jI X B n) n body {T:=enter args 0,m:={m with low:=m.n}}).map λfr=>{fr.m with low:=min m.low fr.m.low}
     else none
 |_+1,_,_,_=>none
end
section
variable {E:Env} {P:Program} {call:aF} {pan:iB} {nt:Nat} {σ σ':Sg} {m m':M} {w w':World} {a:Act} {iv:O}
def Gz(P:Program)(iv:O)(σ:Sg)(m:M)(w:World)(m':M):Ending->World->Prop:=λe w'=>e=.panicked [{v:=iv,recovered:=false}]/\∃σ',Ev P σ m w σ' m' w'
structure yp(P:Program)(iv:O)(pan:iB):Prop where
 func:∀f args m m',pan (.func f) args m=some m'->∀σ w (args':Array O),eW P σ m w->bK σ args args'.toList->
  CallsIn Fence.wide 0 P f args' w (Gz P iv σ m w m')/\(callFunc f args').run P w=.ok (.enter f args') w
 only:∀g args m m',pan g args m=some m'->∃f,g=.func f
def Hi{f:FuncId}{args:Array O}(h:CallsIn Fence.wide 0 P f args w (Gz P iv σ m w m'))(o:Oper)(a:Act)(next:Act->World->Prop)(Q:Exit->Act->World->Prop)
  (hk:∀σ' w',Ev P σ m w σ' m' w'->Q (.panic [{v:=iv,recovered:=false}]) a w'):o.uponIn (dH none) 0 P a next Q (.ok (.enter f args) w):=by refine⟨λF=>by simp[dH,Fence.wide]at F,?_⟩;have h2:CallsIn (dH none) (0-1) P f args w (Gz P iv σ m w m'):=⟨trivial,λcs _=>h.2 cs (room_wide _)⟩;refine h2.mono λe w' he=>?_;obtain⟨rfl,σ',b0⟩:=he;grind
theorem zL(d0:yp P iv pan)(hs:eW P σ m w){T:Tr O}{o:Oper}(h:lD pan T m o.op=some m')
  (hT:∀x∈o.op.operands.toList,bw σ (ev T x) (a.eval x)) (next:Act->World->Prop) (Q:Exit->Act->World->Prop)
  (hk:∀σ' w',Ev P σ m w σ' m' w'->Q (.panic [{v:=iv,recovered:=false}]) a w'):o.uponIn (dH none) 0 P a next Q ((execOp a.eval o).run P w):=by unfold lD at h;split at h;(·rename_i c ho;split at h;(·rename_i f hc;unfold execOp;rw[ho]at hT⊢;dsimp only;have hT:∀x∈c.operands.toList,bw σ (ev T x) (a.eval x):=hT;have e0:bK σ (c.args.toList.map (ev T)) (c.args.toList.map a.eval):=jV _ (λx hx=>hT x (by simp[Call.operands];exact .inr J));have h0:c.args.map a.eval=(c.args.toList.map a.eval).toArray:=J;have hf:bw σ (ev T f) (a.eval f):=hT f (by simp[Call.operands,hc]);unfold resolve;rw[hc];split at h;(·(rename_i g first captured hg;rw[hg]at hf;obtain⟨g,rfl⟩:=d0.only _ _ _ _ h;obtain⟨fv,g0⟩:∃x,a.eval f=x:=⟨_,rfl⟩);rw[g0]at hf;cases hf with|flat _ hh=>simp only[g0,Deferred.ofValue,UD,RB,Rr,invoke];simp only[bL,G4,t8]at hh;obtain⟨h1,h2⟩:=d0.func g _ m m' h σ w (first++c.args.map a.eval++captured) hs (by grind);rw[h2];exact Hi h1 o a next Q hk|func g _ _ b0 F ha hb h1 h2=>simp only[g0,Deferred.ofValue,UD,RB,Rr,invoke];obtain⟨q1,q2⟩:=d0.func g _ m m' h σ w (b0++c.args.map a.eval++F) hs (by rw[h0];simp only[Vf];(have e1:bK σ first.toList b0.toList:=⟨J,λj u u' x y=>h1 j u u' J J⟩);have e2:bK σ captured.toList F.toList:=⟨J,λj u u' x y=>h2 j u u' J J⟩;rw[NZ];exact e1.append (e0.append e2));rw[q2];exact Hi q1 o a next Q hk);cases h);cases h);cases h
theorem qG(hE:E.OK P)(cE:cP P call)(F:yp P iv pan){ops:Array Oper}(g0:∀o∈ops.toList,fw nt P.globals.size o){Q:Exit->Act->World->Prop}{ds:List Deferred}:
  ∀(l:List Oper),(∀o∈l,fw nt P.globals.size o)->∀(fr b0:Fr),fX E call pan ops l fr=some b0->∀(σ:Sg) (a:Act) (w:World),dA σ fr.T a nt->a.defers=ds->eW P σ fr.m w->(∀σ' a' w',dA σ' b0.T a' nt->a'.defers=ds->Ev P σ fr.m w σ' b0.m w'->Q (.panic [{v:=iv,recovered:=false}]) a' w')->wpListIn (dH none) 0 P ops Q l a w
 |[],_,fr,b0,h,σ,a,w,hf,hd,hs,k=>by unfold fX at h;cases h
 |o::l,hl,fr,b0,h,σ,a,w,hf,hd,hs,k=>by unfold fX at h;have hw:=hf.wanted g0 o;have d0:=dK (hl o Mq);have h0:=λo ho=>hl o (DJ _ ho);unfold wpListIn;rw[<-hw];cases i0:cd ops fr.T o with|false=>rw[i0]at h;simp only[I2]at h;rw[ND co];refine⟨λ_ _=>trivial,?_⟩;refine qG hE cE F g0 l h0 _ _ h σ (a.put o.dst undef) w (hf.put d0 bw.undef) ?_ hs k;rw[<-hd];cases o.dst <;>rfl|true=>rw[i0]at h;simp only[gc]at h;rw[UG rfl];have e0:∀x∈o.op.operands.toList,bw σ (ev fr.T x) (a.eval x):=λx hx=>hf.Ce hs (fq (hl o Mq) x hx);refine⟨λ_ _=>trivial,?_⟩;cases ho:dJ o.op E call fr.T fr.m with|some p=>have⟨v,m1⟩:=p;rw[ho]at h;simp only at h;have j0:=sI hE cE hs ho (a:=a) e0;rw[Oper.semAt_eq _ _ _ (λc hc=>by rw[hc]at ho;simp[dJ]at ho)];refine j0.2 none 0 o a _ Q λσ' w' v' hv he=>?_;refine qG hE cE F g0 l h0 _ _ h σ' (a.put o.dst v') w' ((hf.mono he.ext).put d0 hv) ?_ he.rN λk0 a2 w2 l0 n0 o0=>k k0 a2 w2 l0 n0 (he.trans o0);rw[<-hd];cases o.dst <;>rfl|none=>rw[ho]at h;simp only[R7]at h;obtain⟨m1,h1,rfl⟩:=h;rw[Oper.semAt_eq _ _ _ (λc hc=>by rw[hc]at h1;simp[lD]at h1)];exact zL F hs h1 e0 _ Q λσ' w' he=>k σ' a w' (hf.mono he.ext) hd he
theorem GZ(hE:E.OK P)(hs:eW P σ m w){call:aF}{T:Tr O}{a:Act}{o:Oper}{v:O}{m1:M}(hp:jB o.op)(h:dJ o.op E call T m=some (v,m1))
  (hT:∀x∈o.op.operands.toList,bw σ (ev T x) (a.eval x)):∃v',(execOp a.eval o).run P w=.ok (.value v') w/\bw σ v v':=by cases F:fP o.op with|true=>exact BU hE F h hT|false=>cases ho:o.op with|load t x=>rw[ho]at h hT;unfold execOp;rw[ho];dsimp only;simp only[dJ,vF]at h;split at h;rename_i ad hx;split at h;rename_i z hz;cases h;have h1:=hT x ft;rw[hx]at h1;have⟨i,hi,_,he⟩:=h1.fW;have⟨v',q1,q2,_⟩:=py (w:=w) hE hs hi hz;refine⟨v',?_,q2⟩;rw[he];rw[UD];have:(Instr.loadAt t (Ω i.dL ad.off)).run P w=.ok v' w:=(by simpa[Instr.loadAt,Instr.sureAddr]using q1);simp_all;cases h;cases h|_=>rw[ho]at hp F;simp[jB,F]at hp
def Ag(E:Env)(call:aF)(pan:iB)(ops:Array Oper)(p:Nat)(m m':M)(T:Tr O)(o:Oper)(j:Nat)(F:Tr O):Prop:=
 (j=p/\F=T/\kz ops o=true/\cd ops T o=true/\∃m1,lD pan T {m with low:=m.n} o.op=some m1/\m'={m1 with low:=min m.low m1.low})\/
 (j≠p/\behind ops p j=true/\F=T)\/
 (j≠p/\behind ops p j=false/\wZ E o=true/\F=T)\/
 (j≠p/\behind ops p j=false/\jB o.op=true/\kz ops o=true/\((cd ops T o=false/\F=put T o.dst undef)\/(cd ops T o=true/\∃v m1,dJ o.op E call T {m with low:=m.n}=some (v,m1)/\F=put T o.dst v)))
theorem fb{ops:Array Oper}{p:Nat}{m m':M}:∀(l:List Oper) (j:Nat) (T:Tr O) (r:Option M),dw E call pan ops p m l j T r=some m'->
  (p<j->r=some m')/\(r=none->p<j+l.length)/\∃tr:Nat->Tr O,tr j=T/\∀i o,l[i]?=some o->Ag E call pan ops p m m' (tr (j+i)) o (j+i) (tr (j+i+1))
 |[],j,T,r,h=>by unfold dw at h;exact⟨λ_=>h,λhr=>(by rw[hr]at h;cases h),λ_=>T,rfl,λi o h=>by simp at h⟩
 |o::l,j,T,r,h=>by have key:∀T1 r1,Ag E call pan ops p m m' T o j T1->dw E call pan ops p m l (j+1) T1 r1=some m'->∃tr:Nat->Tr O,tr j=T/\∀i o',(o::l)[i]?=some o'->Ag E call pan ops p m m' (tr (j+i)) o' (j+i) (tr (j+i+1)):=(by intro T1 r1 h1 h2;have⟨_,_,tr,t1,t3⟩:=fb l (j+1) T1 r1 h2;refine⟨λk=>if k=j then T else tr k,co,?_⟩;intro i o' hi;cases i with|zero=>grind|succ i=>grind);have hlen:j+(o::l).length=j+1+l.length:=J;rw[hlen];unfold dw at h;cases F:Nat.beq j p with|true=>obtain rfl:=L6 F;rw[F,gc]at h;(cases hw:(kz ops o && cd ops T o)with|false=>rw[hw]at h;cases h|true=>rw[hw,gc]at h;simp only[G4]at hw;split at h;rename_i m1 h1;obtain⟨q1,_,_⟩:=fb l (j+1) T _ h;have e1:=q1 Z;simp only[DS]at e1;exact⟨λhh=>Z,λ_=>Z,key T _ (.inl ⟨rfl,rfl,hw.1,hw.2,m1,h1,e1.symm⟩) h⟩;cases h)|false=>have b0:j≠p:=λe=>(by rw[e,Nk]at F;cases F);rw[F,I2]at h;cases hb:behind ops p j with|true=>rw[hb,TY,gc]at h;obtain⟨q1,q2,_⟩:=fb l (j+1) T _ h;exact⟨λhh=>q1 Z,q2,key T _ (.inr (.inl ⟨b0,hb,rfl⟩)) h⟩|false=>rw[hb,NG]at h;cases d0:(Nat.blt p j && wZ E o)with|true=>rw[d0,gc]at h;simp only[G4]at d0;obtain⟨q1,q2,_⟩:=fb l (j+1) T _ h;exact⟨λhh=>q1 Z,q2,key T _ (.inr (.inr (.inl ⟨b0,hb,d0.2,rfl⟩))) h⟩|false=>rw[d0,I2]at h;cases hp:(jB o.op && kz ops o)with|false=>rw[hp]at h;cases h|true=>rw[hp,gc]at h;simp only[G4]at hp;cases hw:cd ops T o with|false=>rw[hw,I2]at h;obtain⟨q1,q2,_⟩:=fb l (j+1) _ _ h;exact⟨λhh=>q1 Z,q2,key _ _ (.inr (.inr (.inr ⟨b0,hb,hp.1,hp.2,.inl ⟨hw,rfl⟩⟩))) h⟩|true=>rw[hw,gc]at h;split at h;rename_i v m1 h1;obtain⟨q1,q2,_⟩:=fb l (j+1) _ _ h;exact⟨λhh=>q1 Z,q2,key _ _ (.inr (.inr (.inr ⟨b0,hb,hp.1,hp.2,.inr ⟨hw,v,m1,h1,rfl⟩⟩))) h⟩;cases h
def sG(ops:Array Oper)(p i:Nat):Prop:=i=p\/behind ops p i=true
def sG.reach{p i:Nat}(h:sG ops p i):i=p\/Reach ops p i:=by rcases h with h|h;grind;unfold behind at h;simp only[G4]at h;exact .inr (jq h.2)
structure Dk(ops:Array Oper)(p nt:Nat)(tr:Nat->Tr O)(ds:List Deferred)(σ:Sg)(L:Nat->Prop)(a:Act):Prop where
 out:∀i,L i->¬sG ops p i
 lt:∀i,L i->i < ops.size
 closed:Dq ops L
 IL:a.tmps.size=nt
 defs:a.defers=ds
 tmp:∀t,t < nt->(∀q∈ops.toList,Ht q.op=true->q.dst≠some t)->∃q,q<=ops.size/\bw σ (jh (tr q) t) (a.eval (.tmp t))/\(∀i o,L i->ops[i]?=some o->o.dst=some t->i < q)/\(∀i o,¬L i->ops[i]?=some o->o.dst=some t->i < q->sG ops p i)
def EX{dst:Option Tmp}{v:O}(h:dst≠some t):jh (put T dst v) t=jh T t:=by cases dst with|none=>rfl|some d=>rw[Df,ND];grind
variable{ops:Array Oper}{p:Nat}{tr:Nat->Tr O}{L:Nat->Prop}{ds:List Deferred}
def MP(h:Ag E call pan ops p m m' T o j F)(ho:sG ops p j):F=T:=by rcases h with⟨_,h,_⟩|⟨_,_,h⟩|⟨_,_,_,h⟩|⟨h1,h2,_⟩;exact h;exact h;exact h;rcases ho with h|h;grind;grind
def He(h:Ag E call pan ops p m m' T o j F)(ho:o.dst≠some t):jh F t=jh T t:=by rcases h with⟨_,h,_⟩|⟨_,_,h⟩|⟨_,_,_,h⟩|⟨_,_,_,_,⟨_,h⟩|⟨_,v,m1,_,h⟩⟩;rw[h];rw[h];rw[h];rw[h,EX ho];rw[h,EX ho]
theorem BV(F:∀j o,ops[j]?=some o->Ag E call pan ops p m m' (tr j) o j (tr (j+1))){t:Nat}{i:Nat}:∀k,i<=k->k<=ops.size->(∀j o,i<=j->j<k->ops[j]?=some o->o.dst=some t->sG ops p j)->jh (tr k) t=jh (tr i) t
 |0,h,_,_=>by grind
 |k+1,h,hk,hh=>by by_cases b0:i=k+1;grind;have ih:=BV F k Z Z (λj o h1 h2=>hh j o h1 Z);have ho:ops[k]?=some ops[k]:=J;rw[<-ih];have hs:=F k _ ho;by_cases hd:(ops[k]).dst=some t;rw[MP hs (hh k _ Z Z ho hd)];exact He hs hd
def aeB(h:kz ops o)(hn:t∈fJ ops o):∀q∈ops.toList,Ht q.op->q.dst≠some t:=by intro q hq F hd;have:=SB.1 h q hq;grind
def Dk.names(h:Dk ops p nt tr ds σ L a)(ord:Bf ops)(b0:∀j o,ops[j]?=some o->Ag E call pan ops p m m' (tr j) o j (tr (j+1))){j:Nat}{o:Oper}(hj:¬L j)(i0:¬sG ops p j\/j=p)(ho:ops[j]?=some o)
  (j0:∀e∈o.after,Region.binds .any e->L e.on) (d0:kz ops o) {t:Nat} (ht:t<nt) (hn:t∈fJ ops o):bw σ (jh (tr j) t) (a.eval (.tmp t)):=by have k0:j<ops.size:=(N3.1 ho).1;have⟨q,hq,hv,hw,e0⟩:=h.tmp t ht (aeB d0 hn);have e:jh (tr j) t=jh (tr q) t:=(by rcases Nat.le_total q j with g0|h0;refine BV b0 j g0 Z λi oi h1 h2 F hd=>?_;rcases ord.apart i j oi o F ho h2 with hr|⟨_,h3⟩;have hL:=hr.listed h.closed J;grind;grind;refine(BV b0 q h0 hq λi oi h1 h2 F hd=>?_).symm;rcases Nat.eq_or_lt_of_le h1 with rfl|h1;grind;refine e0 i oi (λhL=>?_) F hd h2;rcases ord.apart j i o oi ho F h1 with hr|⟨h3,_⟩;exact hj (hr.jm h.closed hL);grind);grind
theorem Dk.next(h:Dk ops p nt tr ds σ L a)(ord:Bf ops){j:Nat}{o:Oper}(hj:¬L j)(j0:¬sG ops p j)(ho:ops[j]?=some o)(k0:∀e∈o.after,Region.binds .any e->L e.on)
  {v v':O} (hT:tr (j+1)=put (tr j) o.dst v) (hv:bw σ v v'):Dk ops p nt tr ds σ (λi=>i=j\/L i) (a.put o.dst v') where
 out:=λi hi=>by
  rcases hi with rfl|hi;·grind
  ·exact h.out i hi
 lt:=λi hi=>by
  rcases hi with rfl|hi;·grind
  ·exact h.lt i hi
 closed:=λi o' h0 hi e he hb=>by
  rcases hi with rfl|hi;·grind
  ·exact .inr (h.closed i o' h0 hi e he hb)
 IL:=by rw[wN];exact h.IL
 defs:=by rw[put_defers];exact h.defs
 tmp:=λt ht e0=>by
  have l0:j<ops.size:=(N3.1 ho).1;have self:∀d,o.dst=some d->d∈fJ ops o:=λd hd=>by unfold fJ;rw[hd];simp
  by_cases hd:o.dst=some t
  ·refine⟨j+1,Z,?_,λi oi hi F b0=>?_,λi oi hi F b0 g0=>?_⟩
   ·rw[hT,hd,Df,UG rfl];have:(a.put (some t) v').eval (.tmp t)=v':=by simp[Act.eval,Act.put,h.IL,ht]
    grind
   ·rcases hi with rfl|hi;·omega
    ·refine Ng λhc=>?_;have d0:j≠i:=λe=>hj (e ▸ hi);rcases ord.apart j i o oi ho F Z with hr|⟨h3,_⟩;·exact hj (hr.jm h.closed hi)
     ·grind
   ·have d0:i≠j:=λe=>hi (.inl e);rcases ord.apart i j oi o F ho Z with hr|⟨_,h3⟩;·exact absurd (.inr (hr.listed h.closed J)) hi
    ·grind
  ·have⟨q,hq,hv,hw,i0⟩:=h.tmp t ht e0;refine⟨q,hq,?_,λi oi hi F b0=>?_,λi oi hi F b0 g0=>i0 i oi (λhL=>hi (.inr hL)) F b0 g0⟩
   ·have:(a.put o.dst v').eval (.tmp t)=a.eval (.tmp t):=by
     cases n0:o.dst with
     |none=>rfl
     |some d=>
      have d0:d≠t:=λe=>hd J;simp[Act.eval,Act.put,Uh,d0]
    grind
   ·grind
theorem Dk.UC(h:Dk ops p nt tr ds σ L a){j:Nat}{o:Oper}(k0:¬sG ops p j)(ho:ops[j]?=some o)(l0:∀e∈o.after,Region.binds .any e->L e.on)(b0:Ht o.op)
  {v':O}:Dk ops p nt tr ds σ (λi=>i=j\/L i) (a.put o.dst v') where
 out:=λi hi=>by
  rcases hi with rfl|hi;·grind
  ·exact h.out i hi
 lt:=λi hi=>by
  rcases hi with rfl|hi;·grind
  ·exact h.lt i hi
 closed:=λi o' g0 hi e he hb=>by
  rcases hi with rfl|hi;·grind
  ·exact .inr (h.closed i o' g0 hi e he hb)
 IL:=by rw[wN];exact h.IL
 defs:=by rw[put_defers];exact h.defs
 tmp:=λt ht F=>by
  have hd:o.dst≠some t:=F o J b0;have⟨q,hq,hv,hw,h0⟩:=h.tmp t ht F;refine⟨q,hq,?_,λi oi hi d0 e0=>?_,λi oi hi d0 e0 i0=>h0 i oi (λhL=>hi (.inr hL)) d0 e0 i0⟩
  ·have:(a.put o.dst v').eval (.tmp t)=a.eval (.tmp t):=by
    cases n0:o.dst with
    |none=>rfl
    |some d=>
     have j0:d≠t:=λe=>hd J;simp[Act.eval,Act.put,Uh,j0]
   grind
  ·grind
def Ev.more(F:eW P σ m w)(hle:w.heap.size<=w'.heap.size)(hh:∀B,B<w.heap.size->w'.heap[B]?=w.heap[B]?)(h1:w'.os=w.os)(h2:w'.tape=w.tape)(h3:w'.output=w.output):Ev P σ m w σ m w':=
 ⟨λ_ _ h=>h,⟨F.vd,λb i hb=>(F.obj b i hb).aX (λ_ _ h=>h) (hh _ (F.lt b i hb)),λb i hb=>Z1 (F.lt b i hb) hle,F.inj,F.mI⟩,R8 _,R8 _,hle,
  λb i h h'=>J,λ_ _ _=>rfl,λB hB _=>hh B hB,h1,h2,h3⟩
def Eo(h:wZ E o):o.guard=none/\Ht o.op/\∃t z,o.op=.alloc t/\gX E t=some z:=by unfold wZ at h;split at h;rename_i t hg F;have⟨z,hz⟩:=XV.1 h;exact⟨hg,by rw[F];rfl,t,z,F,hz⟩;cases h
def aa5(hE:E.OK P)(F:eW P σ m w){o:Oper}(h:wZ E o):∃v' w',(execOp a.eval o).run P w=.ok (.value v') w'/\Ev P σ m w σ m w':=by obtain⟨-, -,t,z,ho,hz⟩:=Eo h;obtain⟨σ',w',v',hr, -,he⟩:=Ae hE (F.low m.n) hz;refine⟨v',w',?_,Ev.more F he.hle (λB hB=>he.heap B hB λb i hb _=>F.vd b i hb) he.os he.tape he.output⟩;unfold execOp;simp_all
theorem abv(hE:E.OK P)(p0:yp P iv pan)(q0:∀o∈ops.toList,fw nt P.globals.size o)(hd:yY ops){T:Tr O}(h:dw E call pan ops p m ops.toList 0 T none=some m')
  (hf:dA σ T a nt) (hs:eW P σ m w) {Q:Exit->Act->World->Prop} (k:∀σ' a' w',a'.defers=a.defers->Ev P σ m w σ' m' w'->Q (.panic [{v:=iv,recovered:=false}]) a' w'):
  wpAnyIn (dH none) 0 P .any ops Q ops.size (Array.replicate ops.size false) a w:=by
 have ord:=wY hd;have⟨_,g0,tr,t0,g1⟩:=fb ops.toList 0 T none h;have g0:p<ops.size:=J
 have r0:∀j o,ops[j]?=some o->Ag E call pan ops p m m' (tr j) o j (tr (j+1)):=by
  grind
 subst t0;have main:∀(fuel:Nat) (listed:Array Bool) (a1:Act) (w1:World),Ev P σ m w σ m w1->listed.size=ops.size->Iy listed ops.size<=fuel->Dk ops p nt tr a.defers σ (λi=>listed.getD i false=true) a1->wpAnyIn (dH none) 0 P .any ops Q fuel listed a1 w1:=by
  have ready_all:∀(listed:Array Bool),listed.size=ops.size->Region.ready .any ops listed=[]->∀i,i<ops.size->listed.getD i false:=by
   intro listed k0 hr i;induction i using Nat.strongRecOn with
   |_ i ih=>
    intro hi;refine Ng λhn=>?_;have⟨o,ho⟩:=Dg (ops:=ops) hi
    have:i∈Region.ready .any ops listed:=mem_ready.2 ⟨J,o,ho,λe he hb=>by
     have:=ord.lt i o ho e he hb;grind⟩
    grind
  intro fuel;induction fuel with
  |zero=>intro listed a1 w1 h0 k0 hu h1;have s0:=λi hi=>Bt (l:=listed) (k:=ops.size) Z i hi;exact absurd (.inl rfl) (h1.out p (s0 p g0))
  |succ fuel ih=>
   intro listed a1 w1 h0 k0 hu h1;refine⟨λhr=>absurd (.inl rfl) (h1.out p (ready_all listed k0 hr p g0)),λj hj=>?_⟩;obtain⟨r1,o,ho,l0⟩:=mem_ready.1 hj;have i1:j<ops.size:=(N3.1 ho).1;have n0:¬listed.getD j false=true:=by
    grind
   have b0:¬sG ops p j\/j=p:=by
    by_cases j1:j=p;·grind
    refine .inl λu0=>?_;rcases u0.reach with h2|h2;·grind
    have hL:=h2.listed h1.closed J;exact h1.out p hL (.inl rfl)
   have y0:=q0 o J;have hs:=h0.rN;have e0:kz ops o->∀t,t<nt->t∈fJ ops o->bw σ (jh (tr j) t) (a1.eval (.tmp t)):=λF t ht hn=>h1.names ord r0 n0 b0 ho l0 F ht hn;have hw:kz ops o->cd ops (tr j) o=Region.wanted o (yielded ops a1.tmps):=by
    intro F;refine qy (σ:=σ) λq want d hg hd=>?_;have k1:=hd;simp only[W9]at hd;have⟨o',l1,c1⟩:=hd;have A0:=dK (q0 o' J) d c1;refine⟨by rw[h1.IL];exact A0,e0 F d A0 ?_⟩;unfold fJ;grind
   have i0:kz ops o->∀x∈o.op.operands.toList,bw σ (ev (tr j) x) (a1.eval x):=by
    intro F x hx;have B0:=fq y0 x hx;exact CQ hs (λt ht=>by subst ht;exact e0 F t (qN B0) (by unfold fJ;simp only[IF];exact .inr (.inl (Ry.2 ⟨.tmp t,hx,rfl⟩)))) B0
   have O0:∀{Q:(Nat->Prop)->Prop},Q (λi=>i=j\/listed.getD i false)->Q (λi=>(listed.setIfInBounds j true).getD i false=true):=λ{Q} h=>by
    have:(λi=>(listed.setIfInBounds j true).getD i false=true)=(λi=>i=j\/listed.getD i false):=by
     funext i;exact propext (xO listed Z i)
    grind
   have P0:Iy (listed.setIfInBounds j true) ops.size<=fuel:=by
    have:=E4 (l:=listed) (j:=j) Z n0 ops.size;grind
   have next:∀(v v':O),tr (j+1)=put (tr j) o.dst v->bw σ v v'->¬sG ops p j->wpAnyIn (dH none) 0 P .any ops Q fuel (listed.setIfInBounds j true) (a1.put o.dst v') w1:=λv v' h2 h3 h4=>
    ih _ _ _ h0 J P0 (O0 (Q:=λL=>Dk ops p nt tr a.defers σ L (a1.put o.dst v')) (h1.next ord n0 h4 ho l0 h2 h3))
   unfold wpOpIn;rw[ho];dsimp only;rcases r0 j o ho with⟨_,_,F,d0,m1,hp,d1⟩|⟨j0,hb,_⟩|⟨j0,hb,Q0,_⟩|⟨j0,hb,e1,F,⟨d0,hT⟩|⟨d0,v,m1,o0,hT⟩⟩;·rw[<-hw F,d0,UG rfl];refine⟨λ_ _=>trivial,?_⟩;rw[Oper.semAt_eq _ _ _ (λc hc=>by rw[hc]at hp;simp[lD]at hp)];refine zL p0 (hs.low m.n) hp (i0 F) _ Q λσ' w' he=>k σ' a1 w' h1.defs ?_;rw[d1];exact h0.trans he.BP
   ·rcases b0 with b0|b0;·exact absurd (.inr hb) b0
    ·grind
   ·obtain⟨hg,b1,t,z,o1, -⟩:=Eo Q0;have d0:Region.wanted o (yielded ops a1.tmps):=by unfold Region.wanted;rw[hg]
    rw[d0,UG rfl];refine⟨λ_ _=>trivial,?_⟩;rw[Oper.semAt_eq _ _ _ J];have⟨v',w2,hr,he⟩:=aa5 (a:=a1) hE hs Q0;rw[hr];exact ih _ _ _ (h0.trans he) J P0 (O0 (Q:=λL=>Dk ops p nt tr a.defers σ L (a1.put o.dst v')) (h1.UC (b0.resolve_right j0) ho l0 b1))
   ·rw[<-hw F,d0,ND co];exact⟨λ_ _=>trivial,next undef undef hT bw.undef (b0.resolve_right j0)⟩
   rw[<-hw F,d0,UG rfl];refine⟨λ_ _=>trivial,?_⟩;rw[Oper.semAt_eq _ _ _ (λc hc=>by rw[hc]at o0;simp[dJ]at o0)];have⟨v',hr,hv⟩:=GZ hE (hs.low m.n) e1 o0 (i0 F);rw[hr];exact next v v' hT hv (b0.resolve_right j0)
 refine main ops.size _ a w (Ev.refl hs) co ?_ ?_
 ·have:∀k,Iy (Array.replicate ops.size false) k<=k:=by
   intro k;induction k with
   |zero=>simp[Iy]
   |succ k ih=>
    unfold Iy;grind
  grind
 have hL:∀i,¬(Array.replicate ops.size false).getD i false=true:=by
  intro i;simp[NI,O6];grind
 exact{
  out:=λi hi=>absurd hi (hL i)
  lt:=λi hi=>absurd hi (hL i)
  closed:=λj o ho hj=>absurd hj (hL j)
  IL:=hf.1
  defs:=rfl
  tmp:=λt ht _=>⟨0,Z,hf.2 t ht,λi o hi=>absurd hi (hL i),λi o _ _ _ hi=>Z⟩}
theorem B8(hE:E.OK P)(cE:cP P call)(g0:yp P iv pan){n:Nat}{dr:Bool}:∀(c:Code) (fr b0:Fr),dq nt P.globals.size c->fL c->dU E dr call pan n c fr=some b0->
  ∀(σ:Sg) (a:Act) (w:World) (Q:Exit->Act->World->Prop),dA σ fr.T a nt->eW P σ fr.m w->
  (∀σ' a' w',(dr=false->dA σ' b0.T a' nt)->a'.defers=a.defers->Ev P σ fr.m w σ' b0.m w'->Q (.panic [{v:=iv,recovered:=false}]) a' w')->c.wpIn (dH none) 0 P Q a w:=by intro c;induction c with|region id ops d=>intro fr b0 F _ h σ a w Q hf hs k;unfold dq at F;simp only[G4]at F;have e0:∀o∈ops.toList,fw nt P.globals.size o:=SB.1 F.1;unfold dU at h;(cases d with|true=>rw[gc]at h;(cases dr with|false=>cases h|true=>simp only[gc,R7]at h;obtain⟨m1,h1,rfl⟩:=h;have hd:yY ops:=J;have hw:Ev P σ fr.m w σ fr.m {w with drawn:=w.drawn+1}:=Ev.of_heap hs rfl rfl rfl rfl;exact wpIn_region_any hE.mixed (abv hE g0 e0 hd h1 hf hw.rN λσ' a' w' h2 h3=>k σ' a' w' (λh=>by cases h) h2 (hw.trans h3)))|false=>rw[I2]at h;exact wpIn_region_list (qG hE cE g0 e0 ops.toList e0 fr b0 h σ a w hf rfl hs λσ' a' w' h1 h2 h3=>k σ' a' w' (λ_=>h1) h2 h3))|seq x y h0 i0=>intro fr b0 F d0 h σ a w Q hf hs k;unfold dq at F;unfold fL at d0;simp only[G4]at F d0;unfold dU at h;apply wpIn_seq;(cases hx:bF E call n x fr with|none=>rw[hx]at h;exact h0 fr b0 F.1 d0.1 h σ a w _ hf hs k|some p=>have⟨e1,j0⟩:=p;rw[hx]at h;cases e1 with|normal=>refine jb hE cE x fr .normal j0 F.1 hx none 0 0 σ a w _ a.defers (.inl rfl) hf hs ⟨[],rfl,trivial⟩ (Vw _) λl0 a1 w1 n0 u0 o0 k0=>?_;exact i0 j0 b0 F.2 d0.2 h l0 a1 w1 Q n0 k0.rN λp0 a2 w2 q0 r0 s0=>k p0 a2 w2 q0 (r0.trans (o0 d0.1)) (k0.trans s0)|exit id=>cases h|ret=>cases h)|cond c x y h0 i0=>intro fr b0 F d0 h σ a w Q hf hs k;unfold dq at F;unfold fL at d0;simp only[G4]at F d0;unfold dU at h;have hc:=hf.Ce hs F.1;(cases hv:ev fr.T c with|bool t=>rw[hv]at h hc;apply wpIn_cond hc.bool;(cases t with|true=>exact h0 fr b0 F.2.1 d0.1 h σ a w Q hf hs k|false=>exact i0 fr b0 F.2.2 d0.2 h σ a w Q hf hs k)|_=>rw[hv]at h;cases h)|block id c ih=>intro fr b0 F d0 h σ a w Q hf hs k;unfold dq at F;unfold fL at d0;unfold dU at h;exact wpIn_block (ih fr b0 F d0 h σ a w _ hf hs k)|scope c ih=>intro fr b0 F d0 h σ a w Q hf hs k;unfold dq at F;unfold fL at d0;unfold dU at h;exact Bm (ih fr b0 F d0 h σ a w _ hf hs k)|_=>intro fr b0 _ _ h;simp[dU]at h
theorem Qx(hE:E.OK P){X:aF}{B:iB}(hX:cP P X)(hB:yp P iv B):∀n,yp P iv (jI E X B n)
 |0=>⟨λf args m m' h=>(by unfold jI at h;cases h),λg args m m' h=>(by unfold jI at h;cases h)⟩
 |n+1=>by refine⟨λf args m m' h σ w args' hs hl=>?_,λg args m m' h=>?_⟩;unfold jI at h;split at h;rename_i m1 hb;(cases h;exact hB.func f args m m' hb σ w args' hs hl;split at h;cases h;rename_i fn d0;have e0:=hE.fn f fn d0;have b0:=hE.code d0;split at h;cases h;rename_i body F;cases hc:(Nat.ble args.length fn.ntmps && fL body && (X (.func f) args m).isNone)with|false=>rw[hc]at h;cases h|true=>rw[hc]at h;simp only[gc,R7]at h;obtain⟨fr,h,rfl⟩:=h;simp only[G4]at hc;have hc:=hc.1;refine⟨?_,pU e0 F b0⟩;unfold nc at b0;rw[F]at b0;simp only[G4]at b0;have g0:=nB (nt:=fn.ntmps) hl (Jg hc.1);apply callsIn_of_wp_marks e0 F trivial;refine B8 hE (jY hE hX n) (Qx hE hX hB n) body _ fr b0.1 hc.2 h σ _ w _ g0 (hs.low m.n) λh0 a1 w1 k0 i0 j0=>?_;show LeavesInM Fence.wide 0 P fn a1.tmps (Gz P iv σ m w _) a1.defers (.panicking _) w1;rw[i0];exact⟨rfl,h0,j0.BP⟩);cases g with|func f=>exact⟨f,rfl⟩|_=>unfold jI at h;cases h
end
end
section
variable{E:Env}{X:aF}{B:iB}
theorem sE{call:aF}{pan:iB}(hp:∀g args m m',pan g args m=some m'->call g args m=none){ops:Array Oper}:∀(l:List Oper) (fr F:Fr),fX E call pan ops l fr=some F->Cd E call ops l fr=none
 |[],fr,F,h=>by unfold fX at h;cases h
 |o::l,fr,F,h=>by unfold fX at h;rw[nw];cases hw:cd ops fr.T o with|false=>rw[hw]at h;simp only[I2]at h⊢;exact sE hp l _ _ h|true=>rw[hw]at h;simp only[gc]at h⊢;cases ho:dJ o.op E call fr.T fr.m with|none=>rfl|some p=>have⟨v,m1⟩:=p;rw[ho]at h;exact sE hp l _ _ h
def Bz{o:Op}(hp:jB o){m1 m2:M}(h1:m2.st=m1.st)(h2:m2.n=m1.n):dJ o E call T m2=(dJ o E call T m1).map λp=>(p.1,m2):=by cases o <;>simp[jB,fP]at hp <;>simp only[dJ];(case move=>rfl);(case assign=>rfl);(case pick=>unfold sJ;split <;>rfl);(case build=>unfold uj;split <;>rfl);(case load=>have⟨st1,n1,F⟩:=m1;have⟨st2,n2,b0⟩:=m2;simp only at h1 h2;subst h1;subst h2;unfold vF;split;rename_i a _;have:∀t,loadVar E ⟨st2,n2,b0⟩ t a=loadVar E ⟨st2,n2,F⟩ t a:=λt=>(by unfold loadVar D.loadCells D.cellAt;rfl);grind;rfl);(case nilCheck=>unfold iV;split <;>rfl);(case binOp=>unfold En;split <;>rfl);(case unOp=>unfold MY;split <;>rfl);(case makeFunc=>unfold jK;split <;>rfl);(case fieldAddr=>unfold jR;split <;>rfl);(case field=>unfold uh;split <;>rfl);(case indexAddr=>unfold jQ;split <;>rfl);(case index=>unfold ug;split <;>rfl);case extract=>unfold lE;grind
theorem qH{call:aF}{pan:iB}(hp:∀g args m m',pan g args m=some m'->call g args m=none){ops:Array Oper}{p:Nat}{m m':M}:∀(l:List Oper) (j:Nat) (T:Tr O) (r:Option M) (m0:M),m0.st=m.st->m0.n=m.n->
  dw E call pan ops p m l j T r=some m'->j<=p->p<j+l.length->qk E call ops l j ⟨T,m0⟩=none
 |[],j,T,r,m0,_,_,h,h1,h2=>J
 |o::l,j,T,r,m0,e1,e2,h,h1,h2=>by simp only[Rq]at h2;have e3:({m0 with low:=m0.n}:M)={m with low:=m.n}:=(by grind);unfold dw at h;rw[lK];cases b0:Nat.beq j p with|true=>rw[b0,gc]at h;(cases hw:(kz ops o && cd ops T o)with|false=>rw[hw]at h;cases h|true=>rw[hw,gc]at h;simp only[G4]at hw;have hw:=hw.2;split at h;rename_i m1 h3;simp only[hw,gc];have:dJ o.op E call T {m0 with low:=m0.n}=none:=(by rw[e3];unfold lD at h3;split at h3;rename_i c hc;split at h3;rename_i f hf;split at h3;(rename_i g first captured hg;rw[hc];simp only[dJ,nV,hf,hg,hp _ _ _ _ h3]);cases h3;cases h3;cases h3);grind;cases h)|false=>have g0:j≠p:=λe=>dg;have d0:Nat.blt p j=false:=(by rw[kN];simp;omega);have hb:behind ops p j=false:=(by unfold behind;grind);rw[b0,I2,hb,d0,Ns,NG,I2]at h;cases F:(jB o.op && kz ops o)with|false=>rw[F]at h;cases h|true=>rw[F,gc]at h;simp only[G4]at F;have F:=F.1;cases hw:cd ops T o with|false=>rw[hw,I2]at h;simp only[hw,I2];exact qH hp l (j+1) _ r m0 e1 e2 h Z Z|true=>rw[hw,gc]at h;simp only[hw,gc];split at h;rename_i v m1 h3;have h4:=Bz (E:=E) (call:=call) (T:=T) (m1:={m with low:=m.n}) (m2:={m0 with low:=m0.n}) F e1 e2;rw[h3]at h4;simp only[F4]at h4;rw[h4];simp only;have e0:Nat.ble m0.n m0.n:=Nat.ble_self_eq_true m0.n;rw[e0];simp only[TY,gc];exact qH hp l (j+1) _ r _ e1 e2 h Z Z;cases h
def yU{pan:iB}(hp:∀g args m m',pan g args m=some m'->call g args m=none){n:Nat}{dr:Bool}:∀(c:Code) (fr F:Fr),dU E dr call pan n c fr=some F->bF E call n c fr=none:=by intro c;induction c with|region id ops d=>intro fr F h;unfold dU at h;(cases d with|true=>rw[gc]at h;(cases dr with|false=>cases h|true=>simp only[gc,R7]at h;obtain⟨m1,h1,rfl⟩:=h;unfold bF;obtain⟨_,e0,_⟩:=fb _ _ _ _ h1;have:=qH hp ops.toList 0 fr.T none fr.m rfl rfl h1 (Vw _) (e0 rfl);simp only[gc,this,Np])|false=>unfold bF;have h:fX E call pan ops ops.toList fr=some F:=h;have:=sE hp _ _ _ h;simp only[I2,this,Np])|seq x y d0 b0=>intro fr F h;unfold dU at h;unfold bF;(cases hx:bF E call n x fr with|none=>rfl|some p=>have⟨e1,g0⟩:=p;rw[hx]at h;cases e1 with|normal=>exact b0 _ _ h|exit id=>cases h|ret=>cases h)|cond c x y d0 b0=>intro fr F h;unfold dU at h;unfold bF;(cases hv:ev fr.T c with|bool t=>rw[hv]at h;(cases t with|true=>exact d0 _ _ h|false=>exact b0 _ _ h)|_=>rfl)|block id c ih=>intro fr F h;unfold dU at h;unfold bF;rw[ih _ _ h]|scope c ih=>intro fr F h;unfold dU at h;unfold bF;exact ih _ _ h|_=>intro fr F h;simp[dU]at h
theorem Hg(hB:∀g args m m',B g args m=some m'->∀n,bT E X n g args m=none):∀n g args m m',jI E X B n g args m=some m'->bT E X n g args m=none
 |0,g,args,m,m',h=>by unfold jI at h;cases h
 |n+1,g,args,m,m',h=>by have h0:=h;cases g with|func f=>unfold jI at h;split at h;grind;split at h;cases h;rename_i fn d0;split at h;cases h;rename_i body b0;(cases F:(Nat.ble args.length fn.ntmps && fL body && (X (.func f) args m).isNone)with|false=>rw[F]at h;cases h|true=>rw[F]at h;simp only[gc,R7]at h;obtain⟨fr,h,rfl⟩:=h;have:=yU (Hg hB n) _ _ _ h;simp only[G4]at F;have e0:X (.func f) args m=none:=Option.isNone_iff_eq_none.1 F.2;have F:=F.1;unfold bT;grind)|_=>unfold jI at h;cases h
noncomputable section
variable (E:Env) (X:aF) (B:iB)
def Cp(f:Fn)(args:ν)(m:M)(b:Nat)(m':M):Prop:=
 m.n<=m'.n/\b<=m.n/\∃F,∀n,F<=n->∀l,l<=m.n->jI E X B n f args (m.wl l)=some (m'.wl (min l b))
@[reducible] def ew:Fn->ν->M->(M->Nat->Prop)->Prop:=λg args m P=>∃m1 b,Cp E X B g args m b m1/\P m1 b
variable (W:Words) (CP:Fn->ν->M->(M->Nat->Prop)->Prop)
def Hh(o:Op)(K:KT)(m:M)(lo:Nat)(PN:M->Nat->Prop):Prop:=match o with
 |.call c=>match c.callee with
  |.value f=>aS (mV K f) λf=>rO f λg F ca=>aS (CR K c.args.toList) λargs=>CP g (F.toList++(args++ca.toList)) m λm1 b=>PN m1 (min lo b)
  |_=>False
 |_=>False
def Bp(ops:Array Oper):List Oper->St->(M->Nat->Prop)->Prop
 |[],_,_=>False
 |o::rest,s,F=>stq s λs=>D4 ops s.K o
   (λK=>match F0 o.op with
    |true=>Hh CP o.op K s.m s.lo F\/WT E W o.op false none K s.m s.lo λv m lo=>Bp ops rest ⟨pg K o.dst (.v v),m,lo⟩ F
    |false=>WT E W o.op false none K s.m s.lo λv m lo=>Bp ops rest ⟨pg K o.dst (.v v),m,lo⟩ F)
   (λK=>Bp ops rest ⟨pg K o.dst .u,s.m,s.lo⟩ F)
def H9:Code->Bool
 |.region _ ops _=>ops.toList.any λo=>F0 o.op
 |.seq a b=>H9 a ||H9 b
 |.cond _ x y=>H9 x ||H9 y
 |.block _ c=>H9 c
 |.scope c=>H9 c
 |_=>false
def vr(ops:Array Oper)(p:Nat):List Oper->Nat->St->(M->Nat->Prop)->Prop
 |[],_,_,_=>True
 |o::rest,j,s,F=>match Nat.beq j p with
  |true=>match kz ops o with
   |true=>D4 ops s.K o (λK=>Hh CP o.op K s.m s.lo F/\vr ops p rest (j+1) ⟨K,s.m,s.lo⟩ F) (λ_=>False)
   |false=>False
  |false=>match behind ops p j ||(Nat.blt p j && wZ E o)with
   |true=>vr ops p rest (j+1) s F
   |false=>match jB o.op && kz ops o with
    |true=>D4 ops s.K o (λK=>WT E W o.op false none K s.m s.lo λv _ _=>vr ops p rest (j+1) ⟨pg K o.dst (.v v),s.m,s.lo⟩ F) (λK=>vr ops p rest (j+1) ⟨pg K o.dst .u,s.m,s.lo⟩ F)
    |false=>False
def GM(dr:Bool):Code->Nat->St->(M->Nat->Prop)->Prop
 |.region _ ops d,_,s,F=>match d with
  |true=>(match dr && Nat.blt (C5 ops) ops.size with
   |true=>vr E W CP ops (C5 ops) ops.toList 0 s F
   |false=>False)
  |false=>Bp E W CP ops ops.toList s F
 |.seq a b,rd,s,F=>match H9 a with
  |true=>GM dr a rd s F\/Ah E W a (Nat.lor (reads b) rd) s (λe s'=>e.Of (GM dr b rd s' F) False)
  |false=>Ah E W a (Nat.lor (reads b) rd) s (λe s'=>e.Of (GM dr b rd s' F) False)
 |.cond c x y,rd,s,F=>aS (mV s.K c) λv=>iS v (GM dr x rd s F) (GM dr y rd s F)
 |.block _ c,rd,s,F=>GM dr c rd s F
 |.scope c,rd,s,F=>GM dr c rd s F
 |_,_,_,_=>False
def Bq(fn:Func)(args:ν)(m:M)(PN:M->Nat->Prop):Prop:=
 match fn.body with
 |some body=>match fL body with |true=>GM E W CP true body (bitsOf (Ej fn.results.toList) 0) ⟨tB args 0,m,m.n⟩ PN |false=>False
 |none=>False
end
section
variable {E:Env} {X:aF} {B:iB}
def B7{o:Op}{K:KT}(h:Hh (ew E X B) o K m lo PN)(F:Kn K T)(b0:lo<=m.n):
  ∃m1 b,PN m1 (min lo b)/\m.n<=m1.n/\b<=m.n/\∃n0,∀n,n0<=n->lD (jI E X B n) T (m.wl lo) o=some (m1.wl (min lo b))/\
   ∀call:aF,(∀g args m m',jI E X B n g args m=some m'->call g args m=none)->dJ o E call T (m.wl lo)=none:=by unfold Hh at h;split at h;rename_i c;split at h;rename_i f hf;have⟨_,h1,h⟩:=bC.1 h;obtain⟨g,fi,ca,rfl,h⟩:=sL.1 h;have⟨args,h2,m1,b,⟨hn,hb,n0,hc⟩,hP⟩:=bC.1 h;refine⟨m1,b,hP,hn,hb,n0,λn hn=>?_⟩;have e:=hc n hn lo b0;refine⟨?_,λcall cE=>?_⟩;simp only[lD,hf,bD F h1,jc F h2,e];simp only[dJ,nV,hf,bD F h1,jc F h2,cE _ _ _ _ e];grind;grind
variable (hN:∀n g args m m',jI E X B n g args m=some m'->bT E X n g args m=none)
include hN
theorem rW{ops:Array Oper}:∀(l:List Oper) (s:St) (PN:M->Nat->Prop),Bp E (aH E X) (ew E X B) ops l s PN->∀T,Kn s.K T->s.lo<=s.m.n->
  ∃m1 e0 T',PN m1 e0/\s.m.n<=m1.n/\e0<=m1.n/\(∀t,(∀o∈l,∀d,o.dst=some d->d≠t)->T'.get t=T.get t)/\∃n0,∀n,n0<=n->fX E (bT E X n) (jI E X B n) ops l ⟨T,s.m.wl s.lo⟩=some ⟨T',m1.wl e0⟩
 |[],s,PN,h,T,hk,b0=>h.elim
 |o::rest,s,PN,h,T,hk,b0=>by unfold Bp at h;rw[PF]at h;obtain⟨K1,hk,⟨hw,h⟩|⟨hw,h⟩⟩:=oF h hk;have h:Hh (ew E X B) o.op K1 s.m s.lo PN\/WT E (aH E X) o.op false none K1 s.m s.lo λv m lo=>Bp E (aH E X) (ew E X B) ops rest ⟨pg K1 o.dst (.v v),m,lo⟩ PN:=(by revert h;cases F0 o.op with|true=>exact id|false=>exact .inr);rcases h with h|h;have⟨m1,b,hP,hn,hb,n0,hr⟩:=B7 h hk b0;refine⟨m1,_,T,hP,hn,Z,λ_ _=>rfl,n0,λn hn=>?_⟩;have⟨e1,e2⟩:=hr n hn;unfold fX;rw[qz hw];dsimp only[gc];rw[e2 _ (hN n)];dsimp only;rw[e1];rfl;have⟨v,m1,w,g0,j0,_,n1,i0⟩:=yw h hk b0;obtain⟨m2,iH,T',hP,F,d0,hT,n2,hr⟩:=rW rest _ PN g0 (put T o.dst v) (hk.put _ (.v v)) (by show min s.lo w<=m1.n;omega);dsimp only at F hr;refine⟨m2,iH,T',hP,Z,d0,λt ht=>?_,max n1 n2,λn hn=>?_⟩;rw[hT t λo' h0=>ht o' (DJ _ h0),nu _ _ _ _ (ht o Mq)];unfold fX;rw[qz hw];dsimp only[gc];rw[i0 n Z s.lo b0];exact hr n Z;obtain⟨m2,iH,T',hP,F,d0,hT,n2,hr⟩:=rW rest _ PN h (put T o.dst undef) (hk.put _ .u) b0;refine⟨m2,iH,T',hP,F,d0,λt ht=>?_,n2,λn hn=>?_⟩;rw[hT t λo' h0=>ht o' (DJ _ h0),nu _ _ _ _ (ht o Mq)];unfold fX;rw[qz hw];exact hr n hn
omit hN in
theorem kf{ops:Array Oper}{p:Nat}:∀(l:List Oper) (j:Nat) (s:St) (PN:M->Nat->Prop),vr E (aH E X) (ew E X B) ops p l j s PN->∀T,Kn s.K T->s.lo<=s.m.n->
  (j<=p->p < j+l.length->∃m1 F,PN m1 F/\s.m.n<=m1.n/\F<=m1.n/\∃n0,∀n,n0<=n->dw E (bT E X n) (jI E X B n) ops p (s.m.wl s.lo) l j T none=some (m1.wl F))/\
  (p < j->∃n0,∀n,n0<=n->∀m1,dw E (bT E X n) (jI E X B n) ops p (s.m.wl s.lo) l j T (some m1)=some m1)
 |[],j,s,PN,h,T,hk,d0=>⟨λh1 h2=>(by simp only[JW]at h2;omega),λ_=>⟨0,λn _ m1=>rfl⟩⟩
 |o::rest,j,s,PN,h,T,hk,d0=>by unfold vr at h;simp only[Rq];cases b0:Nat.beq j p with|true=>obtain rfl:=L6 b0;rw[b0]at h;dsimp only at h;(cases i0:kz ops o with|false=>rw[i0]at h;exact h.elim|true=>rw[i0]at h;obtain⟨K1,hk,⟨hw,h⟩ |⟨hw,h⟩⟩:=oF h hk;have⟨ha,hb⟩:=h;refine⟨λ_ _=>?_,λhh=>Z⟩;obtain⟨n2,hr⟩:=(kf rest (j+1) _ PN hb T hk d0).2 Z;obtain⟨m1,b,hP,hn,o0,n0,hp⟩:=B7 (lo:=s.m.n) (PN:=λm1 F=>PN m1 (min s.lo F)) (by have:∀{o K m} {PN:M->Nat->Prop} {lo:Nat},lo<=m.n->Hh (ew E X B) o K m lo PN->Hh (ew E X B) o K m m.n (λm1 F=>PN m1 (min lo F)):=(by intro o K m PN lo d0 hh;unfold Hh at hh⊢;split at hh;split at hh;rename_i f hf;have⟨f',h1,hh⟩:=bC.1 hh;obtain⟨g,fi,ca,rfl,hh⟩:=sL.1 hh;have⟨args,h2,m1,b,hC,hP⟩:=bC.1 hh;refine bC.2 ⟨_,h1,sL.2 ⟨g,fi,ca,rfl,bC.2 ⟨args,h2,m1,b,hC,?_⟩⟩⟩;have hb:=hC.2.1;show PN m1 (min lo (min m.n b));rw[Nat.min_eq_right hb];exact hP;exact hh;exact hh);exact this d0 ha) hk (R8 _);refine⟨m1,min s.lo (min s.m.n b),hP,hn,Z,max n0 n2,λn p0=>?_⟩;obtain⟨q1,_⟩:=hp n Z;unfold dw;rw[b0,gc,i0,hw,Xc,gc];have e1:lD (jI E X B n) T {s.m.wl s.lo with low:=(s.m.wl s.lo).n} o.op=some (m1.wl (min s.m.n b)):=q1;rw[e1];exact hr n Z _;exact h.elim)|false=>rw[b0]at h;have q0:j≠p:=λe=>(by rw[e,Nk]at b0;cases b0);dsimp only at h;cases hb:(behind ops p j ||(Nat.blt p j && wZ E o))with|true=>rw[hb]at h;have⟨i1,i2⟩:=kf rest (j+1) s PN h T hk d0;refine⟨λh1 h2=>?_,λh1=>?_⟩;obtain⟨m1,F,hP,hn,e0,n0,hr⟩:=i1 Z Z;refine⟨m1,F,hP,hn,e0,n0,λn hn=>?_⟩;unfold dw;rw[b0,I2,hb,gc];exact hr n hn;obtain⟨n0,hr⟩:=i2 Z;refine⟨n0,λn hn m1=>?_⟩;unfold dw;rw[b0,I2,hb,gc];exact hr n hn m1|false=>rw[hb]at h;dsimp only at h;cases g0:(jB o.op && kz ops o)with|false=>rw[g0]at h;exact h.elim|true=>rw[g0]at h;have k0:jB o.op=true:=(by simp only[G4]at g0;exact g0.1);obtain⟨K1,hk,⟨hw,h⟩ |⟨hw,h⟩⟩:=oF h hk;have⟨v,m1,w,j0,_,_,n1,l0⟩:=yw h hk d0;obtain⟨i1,i2⟩:=kf rest (j+1) _ PN j0 (put T o.dst v) (hk.put _ (.v v)) d0;have h0:∀n,n1<=n->∃m2,dJ o.op E (bT E X n) T {s.m.wl s.lo with low:=(s.m.wl s.lo).n}=some (v,m2):=λn hn=>(by have e:=Bz (E:=E) (call:=bT E X n) (T:=T) (m1:=s.m.wl s.lo) (m2:={s.m.wl s.lo with low:=(s.m.wl s.lo).n}) k0 rfl rfl;rw[l0 n hn s.lo d0]at e;exact⟨_,e⟩);refine⟨λh1 h2=>?_,λh1=>?_⟩;obtain⟨m1,F,hP,hn,e0,n0,hr⟩:=i1 Z Z;refine⟨m1,F,hP,hn,e0,max n0 n1,λn hn=>?_⟩;obtain⟨m2,e2⟩:=h0 n Z;unfold dw;rw[b0,I2,hb,I2,g0,gc,hw,gc,e2];exact hr n Z;obtain⟨n0,hr⟩:=i2 Z;refine⟨max n0 n1,λn hn m1=>?_⟩;obtain⟨m2,e2⟩:=h0 n Z;unfold dw;rw[b0,I2,hb,I2,g0,gc,hw,gc,e2];exact hr n Z m1;obtain⟨i1,i2⟩:=kf rest (j+1) _ PN h (put T o.dst undef) (hk.put _ .u) d0;refine⟨λh1 h2=>?_,λh1=>?_⟩;obtain⟨m1,F,hP,hn,e0,n0,hr⟩:=i1 Z Z;refine⟨m1,F,hP,hn,e0,n0,λn hn=>?_⟩;unfold dw;rw[b0,I2,hb,I2,g0,gc,hw,I2];exact hr n hn;obtain⟨n0,hr⟩:=i2 Z;refine⟨n0,λn hn m1=>?_⟩;unfold dw;rw[b0,I2,hb,I2,g0,gc,hw,I2];exact hr n hn m1
theorem jP{dr:Bool}:∀(c:Code) (rd:Nat) (s:St) (PN:M->Nat->Prop),GM E (aH E X) (ew E X B) dr c rd s PN->∀T,Kn s.K T->s.lo<=s.m.n->
  ∃m1 b0 T',PN m1 b0/\s.m.n<=m1.n/\b0<=m1.n/\(∀t,t∉assigned c->T'.get t=T.get t)/\∃n0,∀n,n0<=n->dU E dr (bT E X n) (jI E X B n) n c ⟨T,s.m.wl s.lo⟩=some ⟨T',m1.wl b0⟩
 |.region id ops d,_,s,PN,h,T,hk,d0=>by unfold GM at h;(cases d with|true=>dsimp only at h;(cases hc:(dr && Nat.blt (C5 ops) ops.size)with|false=>rw[hc]at h;exact h.elim|true=>rw[hc]at h;simp only[G4]at hc;obtain⟨rfl,e0⟩:=hc;rw[kN]at e0;have e0:C5 ops<ops.toList.length:=(by simpa using e0);obtain⟨m1,b0,hP,hn,F,hr⟩:=(kf ops.toList 0 s PN h T hk d0).1 (Vw _) Z;refine⟨m1,b0,T,hP,hn,F,λt ht=>rfl,?_⟩;have⟨n0,hr⟩:=hr;refine⟨n0,λn hn=>?_⟩;unfold dU;simp only[gc,hr n hn,F4])|false=>have⟨m1,b0,T',hP,hn,F,hT,n0,hr⟩:=rW hN ops.toList s PN h T hk d0;refine⟨m1,b0,T',hP,hn,F,λt ht=>hT t λo ho d hd e=>ht ?_,n0,λn hn=>?_⟩;subst e;unfold assigned;exact Ry.2 ⟨o,ho,hd⟩;unfold dU;exact hr n hn)
 |.seq a b,rd,s,PN,h,T,hk,d0=>by unfold GM at h;have h:GM E (aH E X) (ew E X B) dr a rd s PN\/Ah E (aH E X) a (Nat.lor (reads b) rd) s (λe s'=>e.Of (GM E (aH E X) (ew E X B) dr b rd s' PN) False):=(by revert h;cases H9 a with|true=>exact id|false=>exact .inr);(rcases h with h|h;have⟨m1,b0,T',hP,hn,F,hT,n0,hr⟩:=jP a rd s PN h T hk d0;refine⟨m1,b0,T',hP,hn,F,λt ht=>hT t λh=>ht (by unfold assigned;exact NA _ h),n0,λn hn=>?_⟩;have e1:=hr n hn;unfold dU;rw[yU (hN n) _ _ _ e1];exact e1;obtain⟨e,s1,T1,h1,i0,j0,g0,n1,h0⟩:=dS a _ s _ h T hk d0;cases e with|normal=>have⟨m1,b0,T',hP,hn,F,hT,n0,hr⟩:=jP b rd s1 PN h1 T1 i0 g0;refine⟨m1,b0,T',hP,Z,F,λt ht=>?_,max n0 n1,λn hn=>?_⟩;rw[hT t λh=>ht (by unfold assigned;exact PZ _ h)];exact eh a _ _ _ (h0 n1 (R8 _)) λh=>ht (by unfold assigned;exact NA _ h);unfold dU;rw[h0 n Z];exact hr n Z|exit id=>exact h1.elim|ret=>exact h1.elim)
 |.cond c x y,rd,s,PN,h,T,hk,d0=>by unfold GM at h;have⟨_,hb,h⟩:=bC.1 h;obtain⟨b,rfl,h⟩:=AY.1 h;(cases b with|true=>have⟨m1,b0,T',hP,hn,F,hT,n0,hr⟩:=jP x rd s PN h T hk d0;refine⟨m1,b0,T',hP,hn,F,λt ht=>hT t λh=>ht (by unfold assigned;exact NA _ h),n0,λn hn=>?_⟩;unfold dU;rw[bD hk hb];exact hr n hn|false=>have⟨m1,b0,T',hP,hn,F,hT,n0,hr⟩:=jP y rd s PN h T hk d0;refine⟨m1,b0,T',hP,hn,F,λt ht=>hT t λh=>ht (by unfold assigned;exact PZ _ h),n0,λn hn=>?_⟩;unfold dU;rw[bD hk hb];exact hr n hn)
 |.block id c,rd,s,PN,h,T,hk,d0=>by unfold GM at h;have⟨m1,b0,T',hP,hn,F,hT,n0,hr⟩:=jP c rd s PN h T hk d0;refine⟨m1,b0,T',hP,hn,F,λt ht=>hT t λh=>ht (by unfold assigned;exact h),n0,λn hn=>?_⟩;unfold dU;exact hr n hn
 |.scope c,rd,s,PN,h,T,hk,d0=>by unfold GM at h;have⟨m1,b0,T',hP,hn,F,hT,n0,hr⟩:=jP c rd s PN h T hk d0;refine⟨m1,b0,T',hP,hn,F,λt ht=>hT t λh=>ht (by unfold assigned;exact h),n0,λn hn=>?_⟩;unfold dU;exact hr n hn
 |.skip,_,_,_,h,_,_,_=>h.elim
 |.label _,_,_,_,h,_,_,_=>h.elim
 |.loop _,_,_,_,h,_,_,_=>h.elim
 |.rangeFunc ..,_,_,_,h,_,_,_=>h.elim
 |.exit _,_,_,_,h,_,_,_=>h.elim
 |.ret,_,_,_,h,_,_,_=>h.elim
 |.goto _,_,_,_,h,_,_,_=>h.elim
 |.refuse _,_,_,_,h,_,_,_=>h.elim
theorem Cp.body(hf:E.fn.get f=some fn)(hl:Nat.ble args.length fn.ntmps)(hX:GC X f)(hb:∀args m,B (.func f) args m=none)(h:Bq E (aH E X) (ew E X B) fn args m PN):
  ∃m' lo,PN m' lo/\Cp E X B (.func f) args m (min m.n lo) m':=by unfold Bq at h;split at h;rename_i body b0;have d0:fL body:=(by revert h;cases fL body with|true=>exact λ_=>rfl|false=>exact λh=>h.elim);rw[d0]at h;obtain⟨m1,F,T',hP,hn,e0,hT,n0,hr⟩:=jP hN _ _ _ _ h (enter args 0) (nC _ _) (R8 _);refine⟨m1,F,hP,hn,RQ _ _,n0+1,λn hn l g0=>?_⟩;obtain⟨n,rfl⟩:∃k,n=k+1:=⟨n-1,Z⟩;have e1:dU E true (bT E X n) (jI E X B n) n body {T:=enter args 0,m:={m.wl l with low:=(m.wl l).n}}=some ⟨T',m1.wl F⟩:=hr n Z;unfold jI;simp only[hb,hf,b0,hl,d0,hX _ _,OM,Xc,gc,e1,F4];show some (m1.wl (min l F))=some (m1.wl (min l (min m.n F)));congr 2;omega;exact h.elim
end
end
section
noncomputable section
variable (E:Env)
def lV:List Oper->Tr O->Option (Tr O)
 |[],T=>some T
 |o::os,T=>match o.guard,o.op with
  |none,.assign x=>lV os (put T o.dst (ev T x))
  |none,.move x=>lV os (put T o.dst (ev T x))
  |_,_=>none
def nT(r:O):List Oper->Tr O->Option (Tr O)
 |[],_=>none
 |o::os,T=>match o.guard,o.op with
  |none,.call c=>match c.callee with
   |.builtin .recover=>bif c.args.toList.isEmpty then lV os (put T o.dst r)else none
   |_=>none
  |_,_=>none
def vj(r:O)(ex:Code->Fr->Option (Ex×Fr))(g:Nat)(args:ν)(m:M):Option M:=
 match E.cl.get g with
 |some c=>
  bif Nat.ble args.length c.fn.ntmps && (c.fn.results.toList.isEmpty && fL c.rest)then
   match nT r c.ops.toList (enter args 0)with
   |some T=>match ex c.rest {T:=T,m:={m with low:=m.n}}with
    |some (.exit _,_) |none=>none
    |some (_,fr)=>some {fr.m with low:=min m.low fr.m.low}
   |none=>none
  else none
 |none=>none
def jO(X:aF)(B:iB)(r:O)(n:Nat)(d:LO)(args:ν)(m:M):Option (O×M):=
 bif Nat.ble args.length d.fn.ntmps && fL d.post then
  match mN (bF E (bT E X n) n) d.pre {T:=enter args 0,m:={m with low:=m.n}}with
  |some (.normal,fr)=>
   match d.mf.guard,d.mf.dst,d.mf.op,d.de.guard,d.de.op with
   |none,some td,.makeFunc (.func g) fi ca,none,.defer c=>
    match c.callee with
    |.value (.tmp t)=>
     bif Nat.beq t td && (c.args.toList.isEmpty && fi.toList.isEmpty)then
      match dU E false (bT E X n) (jI E X B n) n d.post {T:=put (put fr.T (some td) (.func (.func g) #[] (ca.toList.map (ev fr.T)).toArray)) d.de.dst undef,m:=fr.m}with
      |none=>none
      |some F=>match vj E r (bF E (bT E X n) n) g (ca.toList.map (ev fr.T)) F.m with
       |some m3=>DI E d.fn m {F with m:=m3}
       |none=>none
     else none
    |_=>none
   |_,_,_,_,_=>none
  |_=>none
 else none
end
variable{E:Env}{P:Program}{call:aF}{nt:Nat}{σ σ':Sg}{m m':M}{w w':World}{a:Act}{r:O}
theorem Cj{ops:Array Oper}(d0:∀o∈ops.toList,fw nt P.globals.size o){n:Nat}{cs:List Frame}(hs:eW P σ m w){Q:Exit->Act->List Frame->World->Prop}{ds:List Deferred}{T':Tr O}:
  ∀(l:List Oper) (i:Nat) (T:Tr O) (a:Act),(∀j o,l[j]?=some o->ops[i+j]?=some o)->lV l T=some T'->dA σ T a nt->a.defers=ds->
  (∀a',dA σ T' a' nt->a'.defers=ds->Q .normal a' cs w)->wpOpsSIn Fence.wide n P ops Q (List.range' i l.length) a cs w
 |[],i,T,a,_,h,hf,hd,hQ=>by cases h;simp only[JW,List.range'_zero,wpOpsSIn];grind
 |o::l,i,T,a,hi,h,hf,hd,hQ=>by have ho:ops[i]?=some o:=(by have:=hi 0 o rfl;simpa using this);have h0:o∈ops.toList:=J;have e0:=d0 o h0;(have next:∀(v v':O),lV l (put T o.dst v)=some T'->bw σ v v'->wpOpsSIn Fence.wide n P ops Q (List.range' (i+1) l.length) (a.put o.dst v') cs w:=λv v' h1 h2=>Cj d0 hs l (i+1) _ _ (λj o' hj=>by have:=hi (j+1) o' J;rw[show i+1+j=i+(j+1) by omega];exact this) h1 (hf.put (dK e0) h2) (by rw[put_defers];exact hd) hQ);simp only[Rq,NQ,wpOpsSIn,ho];refine⟨λ_ _=>trivial,?_⟩;unfold lV at h;have hw:o.guard=none->Region.wanted o (yielded ops a.tmps):=(by intro hg;unfold Region.wanted;rw[hg]);have F:∀x∈o.op.operands.toList,bw σ (ev T x) (a.eval x):=λx hx=>hf.Ce hs (fq e0 x hx);split at h;(·rename_i x hg g0;rw[UG (hw hg)];have b0:(execOp a.eval o).run P w=.ok (.value (a.eval x)) w:=(by unfold execOp;simp_all);rw[b0];exact next _ _ h (F x (by rw[g0];simp[Op.operands])));(·rename_i x hg g0;rw[UG (hw hg)];have b0:(execOp a.eval o).run P w=.ok (.value (a.eval x)) w:=(by unfold execOp;simp_all);rw[b0];exact next _ _ h (F x (by rw[g0];simp[Op.operands])));cases h
def adr(b0:∀o∈ops.toList,fw nt P.globals.size o){n:Nat}{F:Frame}{cs:List Frame}(hu:F.mode=.panicking [{v:=r,recovered:=false}])(hr:bL r)(hs:eW P σ m w){Q:Exit->Act->List Frame->World->Prop}{ds:List Deferred}{T T':Tr O}{a:Act}
  (h:nT r ops.toList T=some T') (hf:dA σ T a nt) (hd:a.defers=ds)
  (hQ:∀a',dA σ T' a' nt->a'.defers=ds->Q .normal a' ({F with mode:=.panicking [{v:=r,recovered:=true}]}::cs) w):wpOpsSIn Fence.wide n P ops Q (List.range' 0 ops.toList.length) a (F::cs) w:=by cases hl:ops.toList with|nil=>rw[hl]at h;cases h|cons o l=>rw[hl]at h;have ho:ops[0]?=some o:=(by rw[<-OZ,hl];rfl);have d0:o∈ops.toList:=J;have e0:=b0 o d0;simp only[Rq,NQ,wpOpsSIn,ho];refine⟨λ_ _=>trivial,?_⟩;unfold nT at h;dsimp only at h;split at h;rename_i c hg j0;have hw:Region.wanted o (yielded ops a.tmps):=(by unfold Region.wanted;rw[hg]);rw[UG hw];split at h;rename_i hc;(cases g0:c.args.toList.isEmpty with|false=>rw[g0]at h;cases h|true=>rw[g0,gc]at h;have h0:(execOp a.eval o).run P w=.ok .recover w:=(by unfold execOp;rw[j0];unfold resolve;dsimp only;rw[hc];simp only[UD,RB,Rr,invoke,Go.builtin]);rw[h0];have i0:recoverD (F::cs)=some (r,{F with mode:=.panicking [{v:=r,recovered:=true}]}::cs):=(by simp[recoverD,hu]);simp only[i0];refine Cj b0 hs l 1 _ _ (λj o' hj=>?_) h (hf.put (dK e0) (.flat _ hr)) (by rw[put_defers];exact hd) hQ;rw[<-OZ,hl,show 1+j=j+1 by omega];exact hj);cases h;cases h
theorem ab4(hE:E.OK P)(cE:cP P call){n:Nat}{g:Nat}{args:ν}{m3:M}(hr:bL r)(h:vj E r (bF E call n) g args m=some m3){args':Array O}(hs:eW P σ m w)(hl:bK σ args args'.toList):
  CallsDIn Fence.wide 0 P g args' (.panicking [{v:=r,recovered:=false}]) w (λe u' w'=>u'=.panicking [{v:=r,recovered:=true}]/\∃v,e=.returned v/\∃σ',Ev P σ m w σ' m3 w')/\(callFunc g args').run P w=.ok (.enter g args') w:=by
 unfold vj at h;split at h
 ·rename_i c hc;have⟨i0,b0⟩:=hE.cl g c hc;have d0:=hE.WG hc;refine⟨?_,pU i0 b0 d0⟩;unfold nc at d0;rw[b0]at d0;simp only[G4]at d0;cases hb:(Nat.ble args.length c.fn.ntmps && (c.fn.results.toList.isEmpty && fL c.rest))with
  |false=>rw[hb]at h;cases h
  |true=>
   rw[hb]at h;simp only[gc]at h;simp only[G4,t8]at hb;have⟨hle,A0,n0⟩:=hb;have hle:=Jg hle;have F:=d0.1;unfold dq at F;simp only[G4]at F;have e0:=F.1;unfold dq at e0;simp only[G4]at e0;have j0:∀o∈c.ops.toList,fw c.fn.ntmps P.globals.size o:=SB.1 e0.1;have k0:=nB (nt:=c.fn.ntmps) hl hle;split at h
   ·rename_i T hT
    have fin:∀(e:Ex) (fr:Fr),e=.normal\/e=.ret->bF E call n c.rest {T:=T,m:={m with low:=m.n}}=some (e,fr)->m3={fr.m with low:=min m.low fr.m.low}->
      CallsDIn Fence.wide 0 P g args' (.panicking [{v:=r,recovered:=false}]) w (λe u' w'=>u'=.panicking [{v:=r,recovered:=true}]/\∃v,e=.returned v/\∃σ',Ev P σ m w σ' m3 w'):=by
     intro e fr h0 hex hm;subst hm;refine callsDIn_of_wpSIn i0 b0 trivial λg0 cs hu=>wpSIn_seq (wpSIn_region ?_);rw[WY,<-MT];refine adr (nt:=c.fn.ntmps) j0 hu hr hs hT k0 rfl λa' o0 p0=>?_;refine wpSIn_of_wpIn rfl ?_;refine jb hE cE c.rest _ e fr F.2 hex none 0 w.heap.size σ a' w _ [] (.inl rfl) o0 (hs.low m.n) ⟨[],J,trivial⟩ (R8 _) λq0 a1 w1 B0 O0 r0 s0=>?_;have l0:a1.defers=[]:=(r0 n0).trans p0;have u0:(results c.fn a1.tmps).run P w1=.ok (.tuple #[]) w1:=by
      have:c.fn.results= #[]:=I5 dg;unfold results;simp_all
     have hq:a1.defers=[]/\∃u',({g0 with mode:=.panicking [{v:=r,recovered:=true}]}:Frame)::cs={g0 with mode:=u'}::cs/\∃v,(results c.fn a1.tmps).run P w1=.ok v w1/\
       (u'=.panicking [{v:=r,recovered:=true}]/\∃v',Ending.returned v=.returned v'/\∃σ',Ev P σ m w σ' {fr.m with low:=min m.low fr.m.low} w1):=
      ⟨l0,_,rfl,_,u0,rfl,_,rfl,q0,s0.BP⟩
     rcases h0 with rfl|rfl <;>exact hq
    split at h;·cases h
    ·cases h
    ·rename_i e fr y0 hex;cases h;refine fin e fr ?_ hex rfl;cases e with
     |normal=>exact .inl rfl
     |ret=>exact .inr rfl
     |exit id=>exact absurd rfl (y0 id)
   cases h
 cases h
theorem Ib(hE:E.OK P){X:aF}{B:iB}(hX:cP P X)(hB:yp P r B)(hr:bL r){n:Nat}{f:FuncId}{d:LO}(hd:E.df.get f=some d){args:ν}{v:O}(h:jO E X B r n d args m=some (v,m')){args':Array O}(hs:eW P σ m w)(hl:bK σ args args'.toList):
  CallsIn Fence.wide 0 P f args' w (dR P σ m w v m')/\(callFunc f args').run P w=.ok (.enter f args') w:=by
 have cE:=jY hE hX n;have⟨b1,d0⟩:=hE.df f d hd;have e0:=hE.WE hd;refine⟨?_,pU b1 d0 e0⟩;unfold nc at e0;rw[d0]at e0;simp only[G4]at e0;unfold jO at h
 cases hle:(Nat.ble args.length d.fn.ntmps && fL d.post)with|false=>rw[hle]at h;cases h|true=>rw[hle]at h;simp only[gc]at h;simp only[G4]at hle;have⟨hle,g0⟩:=hle;have hle:=Jg hle;have c1:=nB (nt:=d.fn.ntmps) hl hle;have p1:=hs.low m.n;have F:=pj _ _ e0.1;unfold dq at F;simp only[G4]at F;have h0:=F.1;unfold dq at h0;simp only[G4]at h0;have q0:∀o∈(#[d.mf,d.de]:Array Oper).toList,fw d.fn.ntmps P.globals.size o:=SB.1 h0.1;apply callsIn_of_wp_marks b1 d0 trivial;split at h;rename_i fr hex;refine mW hE cE d.pre _ _ .normal fr e0.1 hex 0 w.heap.size σ _ w _ [] c1 p1 ⟨[],rfl,trivial⟩ (R8 _) λi0 a1 w1 s0 r1 u0=>?_;have⟨y0,j0,d1⟩:=r1;have j0:a1.defers=y0:=(by rw[j0,NC]);dsimp only;split at h;rename_i td g fi ca c u1 k0 A0 v1 y1;split at h;rename_i t e1;(cases b0:(Nat.beq t td && (c.args.toList.isEmpty && fi.toList.isEmpty))with|false=>rw[b0]at h;cases h|true=>rw[b0]at h;simp only[gc]at h;simp only[G4,t8]at b0;have⟨ht,A1,B1⟩:=b0;obtain rfl:=L6 ht;have g1:fi= #[]:=I5 (by rw[<-MT,B1];rfl);have h1:c.args= #[]:=I5 (by rw[<-MT,A1];rfl);subst g1;have l0:=q0 d.mf co;have i1:=q0 d.de co;have r0:bK i0 (ca.toList.map (ev fr.T)) (ca.toList.map a1.eval):=jV _ (λo hx=>s0.Ce u0.rN (fq l0 o (by rw[A0];simpa[Op.operands]using hx)));let cv:O:=.func (.func g) #[] (ca.toList.map a1.eval).toArray;have G1:bw i0 (.func (.func g) #[] (ca.toList.map (ev fr.T)).toArray) cv:=.func g _ _ _ _ rfl co (λj u u' p q=>by simp at p) (λj u u' p q=>r0.2 j u u' (by simpa using p) (by simpa using q));have H1:ca.map a1.eval=(ca.toList.map a1.eval).toArray:=(by apply Qd;simp);let dd:Deferred:={target:=.fn (.func g) (ca.toList.map a1.eval).toArray,args:= #[]};let a2:Act:=a1.put (some t) cv;let a3:Act:=({a2 with defers:=dd::a2.defers}:Act).put d.de.dst undef;have j1:dA i0 (put fr.T (some t) (.func (.func g) #[] (ca.toList.map (ev fr.T)).toArray)) a2 d.fn.ntmps:=s0.put (λx hx=>dK l0 x (by rw[k0];exact hx)) G1;have K1:dA i0 (put (put fr.T (some t) (.func (.func g) #[] (ca.toList.map (ev fr.T)).toArray)) d.de.dst undef) a3 d.fn.ntmps:=dA.put (a:=({a2 with defers:=dd::a2.defers}:Act)) ⟨j1.1,j1.2⟩ (dK i1) bw.undef;have L1:t<d.fn.ntmps:=dK l0 t k0;have O1:a2.eval (.tmp t)=cv:=(by have:t<a1.tmps.size:=(by rw[s0.1];exact L1);simp[a2,Act.put,Act.eval,this]);refine wpIn_seq (wpIn_region_list ?_);unfold wpListIn;have Q1:Region.wanted d.mf (yielded #[d.mf,d.de] a1.tmps):=(by unfold Region.wanted;rw[u1]);rw[UG Q1];refine⟨λ_ _=>trivial,?_⟩;rw[Oper.semAt_eq _ _ _ (λc hc=>by rw[A0]at hc;cases hc)];have B0:(execOp a1.eval d.mf).run P w1=.ok (.value cv) w1:=(by unfold execOp;rw[A0];simp[Instr.makeFunc,cv,H1]);rw[B0,Oper.uponIn_value];unfold wpListIn;rw[k0];have T1:Region.wanted d.de (yielded #[d.mf,d.de] (a1.put (some t) cv).tmps):=(by unfold Region.wanted;rw[v1]);rw[UG T1];refine⟨λ_ _=>trivial,?_⟩;have O0:(d.de.semAt (dH none).round a2.eval).run P w1=.ok (.defer dd) w1:=(by show(d.de.semAt none a2.eval).run P w1=_;rw[Oper.semAt_none];unfold execOp;rw[y1];unfold resolve;dsimp only;rw[e1];dsimp only;rw[O1,h1];simp[Deferred.ofValue,cv,dd]);have o0:(d.de.semAt (dH none).round (a1.put (some t) cv).eval).run P w1=.ok (.defer dd) w1:=O0;rw[o0,Oper.uponIn_defer];unfold wpListIn;have P0:a3.defers=dd::y0:=(by show(Act.put _ _ _).defers=_;rw[put_defers];show dd::(a1.put (some t) cv).defers=_;rw[put_defers,j0]);show d.post.wpIn (dH none) 0 P _ a3 w1;split at h;cases h;rename_i b2 k1;split at h;rename_i m3 l1;refine B8 hE cE (Qx hE hX hB n) d.post _ b2 F.2 g0 k1 i0 a3 w1 _ K1 u0.rN λh2 a4 w2 Q0 c2 p0=>?_;have Q0:=Q0 rfl;show LeavesInM Fence.wide 0 P d.fn a4.tmps (dR P σ m w v m') a4.defers (.panicking _) w2;rw[c2,P0];have o1:=d1.ev p0;obtain⟨d2,e2⟩:=ab4 (args':= #[]++(ca.toList.map a1.eval).toArray) hE cE hr l1 p0.rN (by simpa using r0.mono p0.ext);refine⟨co,.inr ⟨λhh=>by simp[Fence.wide]at hh,.func g,_,g,_,rfl,e2,λ_ _=>trivial,d2.mono λe u' w' hx=>?_⟩⟩;obtain⟨rfl,v',rfl,σ',n0⟩:=hx;exact kD y0 w' (o1.ev n0) ((u0.trans p0).trans n0) λw4 g2=>zh hE h e0.2.2 hs (Q0.mono n0.ext) g2;cases h);cases h;cases h;cases h
end
section
noncomputable section
variable (E:Env) (W:Words) (CP:Fn->ν->M->(M->Nat->Prop)->Prop)
def Qg:List Code->Nat
 |[]=>0
 |c::cs=>Nat.lor (reads c) (Qg cs)
def vcL:List Code->Nat->St->(Ex->St->Prop)->Prop
 |[],_,s,Q=>Q .normal s
 |c::cs,rd,s,Q=>Ah E W c (Nat.lor (Qg cs) rd) s λe F=>e.Of (vcL cs rd F Q) (Q e F)
def QU:List Oper->KT->Option KT
 |[],K=>some K
 |o::os,K=>match o.guard,o.op with
  |none,.assign x=>(match mV K x with |some v=>QU os (pg K o.dst (.v v)) |none=>none)
  |none,.move x=>(match mV K x with |some v=>QU os (pg K o.dst (.v v)) |none=>none)
  |_,_=>none
def Xm(r:O):List Oper->KT->Option KT
 |[],_=>none
 |o::os,K=>match o.guard,o.op with
  |none,.call c=>match c.callee with
   |.builtin .recover=>bif c.args.toList.isEmpty then QU os (pg K o.dst (.v r))else none
   |_=>none
  |_,_=>none
def OF(r:O)(g:Nat)(args:ν)(m:M)(lo:Nat)(Q:M->Nat->Prop):Prop:=match E.cl.get g with
 |some c=>match Nat.ble args.length c.fn.ntmps && (c.fn.results.toList.isEmpty && fL c.rest)with
  |true=>aS (Xm r c.ops.toList (tB args 0)) λK=>Ah E W c.rest 0 ⟨K,m,m.n⟩ λe s=>match e with
   |.exit _=>False
   |_=>Q s.m (min lo s.lo)
  |false=>False
 |none=>False
def vcD2(r:O)(d:LO)(g:Nat)(b0:ν)(K:KT)(m:M)(lo:Nat)(R RP:ν->M->Nat->Prop):Prop:=
 (Ah E W d.post (bitsOf (Ej d.fn.results.toList) 0) ⟨K,m,lo⟩ λe s=>match e with
  |.exit _=>False
  |_=>OF E W .nilIface g b0 s.m s.lo λm3 F=>Dy E s.K m3 d.fn.results.toList λvs=>R vs m3 F)\/
 match fL d.post with
 |true=>GM E W CP false d.post (bitsOf (Ej d.fn.results.toList) 0) ⟨K,m,lo⟩ λm2 iH=>OF E W r g b0 m2 iH λm3 F=>Dy E (forget K (assigned d.post)) m3 d.fn.results.toList λvs=>RP vs m3 F
 |false=>False
def vcD(r:O)(d:LO)(args:ν)(m:M)(R RP:ν->M->Nat->Prop):Prop:=
 vcL E W d.pre (bitsOf (Ej d.fn.results.toList) (reads d.post)) ⟨tB args 0,m,m.n⟩ λe s=>match e with
  |.exit _=>False
  |.ret=>Dy E s.K s.m d.fn.results.toList λvs=>R vs s.m s.lo
  |.normal=>match d.mf.guard,d.mf.dst,d.mf.op,d.de.guard,d.de.op with
   |none,some td,.makeFunc (.func g) fi ca,none,.defer c=>match c.callee with
    |.value (.tmp t)=>match Nat.beq t td && (c.args.toList.isEmpty && fi.toList.isEmpty)with
     |true=>aS (CR s.K ca.toList) λF=>vcD2 E W CP r d g F (pg (pg s.K (some td) (.v (.func (.func g) #[] F.toArray))) d.de.dst .u) s.m s.lo R RP
     |false=>False
    |_=>False
   |_,_,_,_,_=>False
variable{E:Env}{X:aF}{B:iB}{r:O}
theorem D5:∀(cs:List Code) (rd:Nat) (s:St) (Q:Ex->St->Prop),vcL E (aH E X) cs rd s Q->∀T,Kn s.K T->s.lo<=s.m.n->
  ∃e s' T',Q e s'/\Kn s'.K T'/\s.m.n<=s'.m.n/\s'.lo<=s'.m.n/\∃n0,∀n,n0<=n->mN (bF E (bT E X n) n) cs ⟨T,s.m.wl s.lo⟩=some (e,⟨T',s'.m.wl s'.lo⟩)
 |[],_,s,Q,h,T,hk,b0=>⟨.normal,s,T,h,hk,R8 _,b0,0,λn _=>rfl⟩
 |c::cs,rd,s,Q,h,T,hk,b0=>by obtain⟨e,s1,T1,h1,d0,e0,F,n1,g0⟩:=dS c _ s _ h T hk b0;cases e with|normal=>have⟨e,s2,T2,h2,i0,j0,h0,n2,k0⟩:=D5 cs rd s1 Q h1 T1 d0 F;exact⟨e,s2,T2,h2,i0,Xp e0 j0,h0,max n1 n2,λn hn=>by simp only[mN,g0 n Z,k0 n Z]⟩|exit id=>exact⟨_,s1,T1,h1,d0,e0,F,n1,λn hn=>by simp only[mN,g0 n hn]⟩|ret=>exact⟨_,s1,T1,h1,d0,e0,F,n1,λn hn=>by simp only[mN,g0 n hn]⟩
theorem vK:∀(l:List Oper) (K K':KT) (T:Tr O),QU l K=some K'->Kn K T->∃T',lV l T=some T'/\Kn K' T'
 |[],K,K',T,h,hk=>by cases h;exact⟨T,rfl,hk⟩
 |o::l,K,K',T,h,hk=>by unfold QU at h;unfold lV;split at h;(·rename_i x hg F;(try simp only[hg,F]);split at h;rename_i v hv;rw[bD hk hv];exact vK l _ K' _ h (hk.put _ (.v v));cases h);(·rename_i x hg F;(try simp only[hg,F]);split at h;rename_i v hv;rw[bD hk hv];exact vK l _ K' _ h (hk.put _ (.v v));cases h);cases h
def I9{l:List Oper}{K F:KT}(h:Xm r l K=some F)(hk:Kn K T):∃T',nT r l T=some T'/\Kn F T':=by cases l with|nil=>cases h|cons o l=>unfold Xm at h;unfold nT;dsimp only at h;split at h;(·rename_i c hg b0;simp only[hg,b0];split at h;(·rename_i hc;(try simp only[hc]);cases he:c.args.toList.isEmpty with|false=>rw[he]at h;cases h|true=>rw[he,gc]at h;rw[gc];exact vK l _ F _ h (hk.put _ (.v r)));cases h);cases h
theorem vJ:∀(l:List Oper) (T T':Tr O),lV l T=some T'->kn l T=some T'
 |[],T,T',h=>h
 |o::l,T,T',h=>by unfold lV at h;unfold kn;split at h;rename_i x hg F;simp only[hg,F];exact vJ l _ T' h;rename_i x hg F;simp only[hg,F];exact vJ l _ T' h;cases h
def ac4{l:List Oper}(h:nT .nilIface l T=some F):kn l T=some F:=by cases l with|nil=>cases h|cons o l=>unfold nT at h;dsimp only at h;split at h;rename_i c hg b0;split at h;rename_i hc;(cases he:c.args.toList.isEmpty with|false=>rw[he]at h;cases h|true=>rw[he,gc]at h;unfold kn;simp only[hg,b0,hc,he,gc];exact vJ l _ F h);cases h;cases h
def aau{ex:Code->Fr->Option (Ex×Fr)}{m3:M}(h:vj E .nilIface ex g args m=some m3):Gf E ex g args m=some m3:=by unfold vj at h;unfold Gf;split at h;rename_i c hc;simp only[hc];(cases F:(Nat.ble args.length c.fn.ntmps && (c.fn.results.toList.isEmpty && fL c.rest))with|false=>rw[F]at h;cases h|true=>rw[F,gc]at h;rw[gc];split at h;rename_i T hT;simp only[ac4 hT];exact h;cases h);cases h
theorem Br{Q:M->Nat->Prop}(h:OF E (aH E X) r g args m lo Q)(g0:lo<=m.n):
  ∃m3 b0,Q m3 b0/\m.n<=m3.n/\b0<=m3.n/\∃n0,∀n,n0<=n->vj E r (bF E (bT E X n) n) g args (m.wl lo)=some (m3.wl b0):=by unfold OF at h;split at h;rename_i c hc;(cases hb:(Nat.ble args.length c.fn.ntmps && (c.fn.results.toList.isEmpty && fL c.rest))with|false=>rw[hb]at h;exact h.elim|true=>rw[hb]at h;have⟨K,hK,h⟩:=bC.1 h;have⟨T,hT,d0⟩:=I9 hK (nC args 0);obtain⟨e,s,T',hQ,h0,F,e0,n0,hr⟩:=dS c.rest 0 _ _ h T d0 (R8 _);have F:m.n<=s.m.n:=F;have hex:∀n,n0<=n->bF E (bT E X n) n c.rest {T:=T,m:={m.wl lo with low:=(m.wl lo).n}}=some (e,⟨T',s.m.wl s.lo⟩):=hr;cases e with|exit id=>exact hQ.elim|normal=>refine⟨s.m,min lo s.lo,hQ,F,Z,n0,λn F=>?_⟩;unfold vj;simp only[hc,hb,gc,hT,hex n F];rfl|ret=>refine⟨s.m,min lo s.lo,hQ,F,Z,n0,λn F=>?_⟩;unfold vj;simp only[hc,hb,gc,hT,hex n F];rfl);exact h.elim
def MW(m m':M)(l lo:Nat)(vs:ν):O×M:=bif aZ (aP vs) && Nat.ble m.n lo then(aP vs,m.wl l)else(aP vs,m'.wl (min l lo))
def AZ{m':M}{l:Nat}{vs:ν}(h:∀l,iw E T (m'.wl l) fn.results.toList=some vs):DI E fn (m.wl l) ⟨T,m'.wl lo⟩=some (MW m m' l lo vs):=by have F:result? E fn T (m'.wl lo)=some (aP vs):=(by unfold result?;rw[h lo];match vs with|[]=>rfl|[v]=>rfl|v::w::vs=>rfl);unfold DI MW;dsimp only;rw[F];dsimp only;rw[show(m.wl l).n=m.n from rfl,show(m'.wl lo).low=lo from rfl];cases (aZ (aP vs) && Nat.ble m.n lo)<;>rfl
theorem pK(hN:∀n g args m m',jI E X B n g args m=some m'->bT E X n g args m=none){d:LO}{args:ν}{m:M}{R RP:ν->M->Nat->Prop}
  (hl:Nat.ble args.length d.fn.ntmps) (h:vcD E (aH E X) (ew E X B) r d args m R RP):
  (∃vs m' lo,R vs m' lo/\m.n<=m'.n/\∃n0,∀n,n0<=n->∀l,l<=m.n->rh E (bF E (bT E X n) n) d args (m.wl l)=some (MW m m' l lo vs)/\jO E X B r n d args (m.wl l)=none)\/
  (∃vs m' lo,RP vs m' lo/\m.n<=m'.n/\∃n0,∀n,n0<=n->∀l,l<=m.n->jO E X B r n d args (m.wl l)=some (MW m m' l lo vs)):=by
 obtain⟨e,s1,T1,h1,q0,r0,p0,n1,e1⟩:=D5 _ _ _ _ h (enter args 0) (nC _ _) (R8 _);have r0:m.n<=s1.m.n:=r0;have d0:∀n,n1<=n->∀l,mN (bF E (bT E X n) n) d.pre {T:=enter args 0,m:={m.wl l with low:=(m.wl l).n}}=some (e,⟨T1,s1.m.wl s1.lo⟩):=λn hn _=>e1 n hn
 cases e with|exit id=>exact h1.elim|ret=>have⟨vs,hR,b0⟩:=jH q0 h1;refine .inl ⟨vs,s1.m,s1.lo,hR,r0,n1,λn hn l a1=>⟨?_,?_⟩⟩;unfold rh;simp only[hl,gc,d0 n hn l];exact AZ b0;unfold jO;(cases fL d.post with|false=>simp only[hl,Vc,I2]|true=>simp only[hl,UY,gc,d0 n hn l])|normal=>dsimp only at h1;split at h1;rename_i td g fi ca c s0 h0 u0 y0 A0;split at h1;rename_i t i0;(cases F:(Nat.beq t td && (c.args.toList.isEmpty && fi.toList.isEmpty))with|false=>rw[F]at h1;exact h1.elim|true=>rw[F]at h1;have⟨e0,b1,h1⟩:=bC.1 h1;have B0:=jc q0 b1;have O0:Kn (pg (pg s1.K (some td) (.v (.func (.func g) #[] e0.toArray))) d.de.dst .u) (put (put T1 (some td) (.func (.func g) #[] e0.toArray)) d.de.dst undef):=(q0.put (some td) (.v (.func (.func g) #[] e0.toArray))).put d.de.dst .u;unfold vcD2 at h1;rcases h1 with h1|h1;obtain⟨e2,s2,T2,h2,g1,j0,k0,n2,P0⟩:=dS _ _ _ _ h1 _ O0 p0;have j0:s1.m.n<=s2.m.n:=j0;have g0:∀n,n2<=n->bF E (bT E X n) n d.post {T:=put (put T1 (some td) (.func (.func g) #[] e0.toArray)) d.de.dst undef,m:=s1.m.wl s1.lo}=some (e2,⟨T2,s2.m.wl s2.lo⟩):=P0;have i1:∀id,e2≠.exit id:=λid he=>(by rw[he]at h2;exact h2);have h2:OF E (aH E X) .nilIface g e0 s2.m s2.lo λm3 l0=>Dy E s2.K m3 d.fn.results.toList λvs=>R vs m3 l0:=(by cases e2 with|exit id=>exact h2.elim|normal=>exact h2|ret=>exact h2);have⟨m3,l0,h3,j1,c1,n3,Q0⟩:=Br h2 k0;have⟨vs,hR,b0⟩:=jH g1 h3;refine .inl ⟨vs,m3,l0,hR,Z,max n1 (max n2 n3),λn hn l a1=>⟨?_,?_⟩⟩;unfold rh;simp only[hl,gc,d0 n Z l,s0,h0,u0,y0,A0,i0,F,B0,g0 n Z];have d1:=aau (Q0 n Z);(cases e2 with|exit id=>exact absurd rfl (i1 id)|normal=>simp only[d1];exact AZ (fn:=d.fn) b0|ret=>simp only[d1];exact AZ (fn:=d.fn) b0);unfold jO;(cases o0:fL d.post with|false=>simp only[hl,Vc,I2]|true=>simp only[hl,UY,gc,d0 n Z l,s0,h0,u0,y0,A0,i0,F,B0];cases hp:dU E false (bT E X n) (jI E X B n) n d.post {T:=put (put T1 (some td) (.func (.func g) #[] e0.toArray)) d.de.dst undef,m:=s1.m.wl s1.lo}with|none=>rfl|some o1=>have:=yU (hN n) _ _ _ hp;rw[g0 n Z]at this;cases this);cases o0:fL d.post with|false=>rw[o0]at h1;exact h1.elim|true=>rw[o0]at h1;obtain⟨m2,iH,T2,h2,j0,k0,k1,n2,P0⟩:=jP hN _ _ _ _ h1 _ O0 p0;have j0:s1.m.n<=m2.n:=j0;have⟨m3,l0,h3,j1,c1,n3,Q0⟩:=Br h2 k0;have l1:Kn (forget (pg (pg s1.K (some td) (.v (.func (.func g) #[] e0.toArray))) d.de.dst .u) (assigned d.post)) T2:=(by intro t k ht;rw[k1 t (jN _ _ ht).1];exact O0 t k (jN _ _ ht).2);have⟨vs,hR,b0⟩:=jH l1 h3;refine .inr ⟨vs,m3,l0,hR,Z,max n1 (max n2 n3),λn hn l a1=>?_⟩;have g0:dU E false (bT E X n) (jI E X B n) n d.post {T:=put (put T1 (some td) (.func (.func g) #[] e0.toArray)) d.de.dst undef,m:=s1.m.wl s1.lo}=some ⟨T2,m2.wl iH⟩:=P0 n Z;unfold jO;simp only[hl,o0,UY,gc,d0 n Z l,s0,h0,u0,y0,A0,i0,F,B0,g0,Q0 n Z];exact AZ (fn:=d.fn) b0);exact h1.elim;exact h1.elim
end
end
section
variable{P:Program}{σ:Sg}{m m':M}{w w':World}
def lT(w:World)(dT sT ty elem:TypeId)(g o F d0:Nat)(a:Addr)(b0 e0:Nat)(cur:Array O)(t:TypeId)(cs:ν){ei:TypeInfo}
  (hu:P.underlying dT=some (.slice elem)) (h0:P.info? elem=some ei)
  (hg:w.heap[g]?=some (.cells cur t (0,0))) (hn:cs.length=min b0 F*ei.size)
  (g0:∀j v,cs[j]?=some v->w.cell? (a.add j)=some v) (j0:o+cs.length<=cur.size) (h1:∀v∈cs,v.oneCell'):
  (Builtin.copy_ #[dT,sT] ty #[Hr g o F d0,.slice (some a) b0 e0]).run P w=
   .ok (goInt (min b0 F:Nat)) (w.setRow g (cur.toList.take o++cs++cur.toList.drop (o+cs.length)).toArray):=by have hl:=run_loadCells_list (P:=P) w a cs g0;have i0:=run_storeCells_at P g o t cs 0 cur w hg J h1;have hm:Nat.min b0 F=min b0 F:=rfl;rw[hn]at hl;simp[Builtin.copy_,NF hu,Builtin.lenOf,Builtin.firstCells,sizeOf,typeInfo,h0,hm,hl,i0]
structure Ok where
 S:Nat
 k:Nat
 e:Nat
def lH(N:Ok):aF:=λfn args m=>
 match fn with
 |.func f=>
  bif Nat.beq f N.S then
   match args with
   |[.slice (some a) n c,.int .i64 i,.slice (some b) 1 1]=>
    match m.get a.block,m.get b.block with
    |.cells cs te (some k),.cells ds F none=>
     if(a.off=0/\a.spot=none/\b.off=0/\b.spot=none)/\(c=n/\cs.length=n*N.k/\ds.length=N.k/\k=N.k/\te=N.e/\F=N.e)/\(0<=i/\i < n/\n < 1000000/\a.block≠b.block)/\cs.all one=true/\ds.all one=true then
      some (.slice (some ⟨m.n,0,none⟩) (n+1) (n+1),(m.set a.block .dead).push (.cells (cs.take (i.toNat*N.k)++(ds++cs.drop (i.toNat*N.k))) N.e (some N.k)))
     else none
    |_,_=>none
   |_=>none
  else none
 |_=>none
structure Dn(P:Program)(N:Ok):Prop where
 F6:∀args w,(callFunc N.S args).run P w=.ok (.enter N.S args) w
 pos:0 < N.k
 go:∀(B V n i C:Nat) (row vrow:Array O) (w:World),w.heap[B]?=some (.cells row N.e (0,0))->w.heap[V]?=some (.cells vrow N.e (0,0))->V≠B->i < n->n<=C->C*N.k<=row.size->vrow.size=N.k->n < 1000000->
  (∀u∈row.toList.take (n*N.k),u.oneCell'=true)->(∀u∈vrow.toList,u.oneCell'=true)->
  Calls P N.S #[.slice (some ⟨B,0,none⟩) n C,.int .i64 i,.slice (some ⟨V,0,none⟩) 1 1] w λe w'=>(w'.os=w.os/\w'.tape=w.tape/\w'.output=w.output)/\
   ((n+1<=C/\e=.returned (.slice (some ⟨B,0,none⟩) (n+1) C)/\w'.heap.size=w.heap.size/\(∀b,b≠B->w'.heap[b]?=w.heap[b]?)/\
     w'.heap[B]?=some (.cells (row.toList.take (i*N.k)++(vrow.toList++(row.toList.take (n*N.k)).drop (i*N.k))++row.toList.drop ((n+1)*N.k)).toArray N.e (0,0)))\/
    (∃(D:Nat) (rest:ν),n+1<=D/\rest.length=(D-(n+1))*N.k/\e=.returned (.slice (some ⟨w.heap.size,0,none⟩) (n+1) D)/\
     w'.heap=w.heap.push (.cells (row.toList.take (i*N.k)++(vrow.toList++(row.toList.take (n*N.k)).drop (i*N.k))++rest).toArray N.e (0,0))))
def Nh(N:Ok):iL (lH N):=λfn args m v m' h=>by unfold lH at h;split at h;rename_i f;(cases F:Nat.beq f N.S with|false=>rw[F]at h;cases h|true=>rw[F,gc]at h;split at h;split at h;rename_i cs te k ds b0 hg hd;split at h;cases h;exact(LK.MC hg).trans LK.push;cases h;cases h;cases h);cases h
def xJ{N:Ok}(h:Dn P N)(hS:Nat.beq Ds N.S=false):cP P (lH N):=by
 refine⟨λf args m v m' hx σ w args' hs hl=>?_,λl args m v m' hx=>by simp[lH]at hx,Nh N,λa m v m' b hx=>by unfold lH at hx;grind⟩;unfold lH at hx;dsimp only at hx
 cases hf:Nat.beq f N.S with|false=>rw[hf]at hx;cases hx|true=>obtain rfl:=L6 hf;rw[hf,gc]at hx;refine⟨?_,h.F6 args' w⟩;apply callsIn_wide.2;split at hx;rename_i a n c i b;split at hx;rename_i cs te k ds T1 hg hd;split at hx;rename_i hc;obtain⟨⟨a0,a1,b0,b1⟩,⟨c1,c2,c3,rfl,rfl,rfl⟩,⟨i0,i1,i2,e1⟩,o1,o2⟩:=hc;have c1:=c1.symm;subst c1;(cases hx;obtain⟨j,rfl⟩:∃j:Nat,i=j:=⟨i.toNat,Z⟩;have hj:j<n:=Z;have⟨x1,l1,o0,hv,h1⟩:=hl.cases;obtain⟨x2,l2,rfl,j1,k1⟩:=h1.cases;obtain⟨x3,l3,rfl,p1,u1⟩:=k1.cases;obtain rfl:=u1.nil_eq;have e2:=j1.bJ rfl;subst e2;obtain⟨bi,a',c',k0,rfl,p0⟩:=hv.ee;obtain⟨bj,b',d',u0,rfl,l0⟩:=p1.ee;have⟨row,r1,r2,r3,r4⟩:=hs.cells k0 hg;have⟨F,s1,s2,s3,s4⟩:=hs.cells u0 hd;have⟨g1,g2,g3⟩:=r4;have⟨t1,t2⟩:=s4;have y0:=h.pos;have d0:m.get a.block≠.dead:=(by rw[hg];simp);have v1:bj.dL≠bi.dL:=λq=>e1 (hs.inj a.block b.block bi bj k0 u0 d0 (by rw[hd];simp) q.symm);have w1:a'=⟨bi.dL,0,none⟩/\n<=c'/\c'*N.k<=row.size/\(n+1<=c'->c'*N.k=row.size):=(by rcases p0 with⟨y1,rfl,⟨A0,_⟩|⟨k,sz,C,hk,hh⟩⟩|⟨h0,_⟩;rw[g1]at A0;cases A0;rw[g1]at hk;obtain⟨rfl,rfl,rfl⟩:=hk;refine⟨by rw[a0],?_⟩;rcases hh with rfl|⟨q1,q2,q3⟩;refine⟨R8 _,Z,λq=>Z⟩;exact⟨q1,Z,λ_=>Z⟩;omega);obtain⟨rfl,A1,B1,G1⟩:=w1;have B0:b'=⟨bj.dL,0,none⟩/\d'=1:=(by rcases l0 with⟨y1,rfl,⟨_,rfl⟩|⟨k,sz,C,hk,_⟩⟩|⟨h0,_⟩;exact⟨by rw[b0],rfl⟩;rw[t1]at hk;cases hk;omega);obtain⟨rfl,rfl⟩:=B0;have q0:args'= #[Hr bi.dL 0 n c',I j,Hr bj.dL 0 1 1]:=(by apply Qd;rw[o0]);subst q0;have H1:F.toList.take ds.length=F.toList:=MM (by simp;omega);rw[H1]at s3;rw[c2]at r3 r2 g1;have hmul:j*N.k<=n*N.k:=MO _ Z;have K1:(n+1)*N.k=n*N.k+N.k:=(by rw[IM,HY]);have g0:bK σ (cs.take (j*N.k)++(ds++cs.drop (j*N.k))) (row.toList.take (j*N.k)++(F.toList++(row.toList.take (n*N.k)).drop (j*N.k))):=(by have:=(r3.take (j*N.k)).append (s3.append (r3.drop (j*N.k)));rw[zm,ZZ hmul]at this;exact this);have hlen:(cs.take (j*N.k)++(ds++cs.drop (j*N.k))).length=(n+1)*N.k:=(by simp only[I8,ZO,Va];omega);refine(h.go bi.dL bj.dL n j c' row F w r1 s1 v1 hj A1 B1 Z i2 (r3.iy o1) (s3.iy o2)).mono ?_;rintro en w2 ⟨⟨ho,ht,hu⟩,hh⟩;rcases hh with⟨j0,rfl,L1,O0,P0⟩|⟨D,rest,hD,r0,rfl,s0⟩;have Q0:=G1 j0;have O1:(n+1)*N.k<=row.size:=(by rw[<-Q0];exact MO _ j0);have e0:=g0.1;rw[hlen]at e0;have n0:(row.toList.take (j*N.k)++(F.toList++(row.toList.take (n*N.k)).drop (j*N.k))++row.toList.drop ((n+1)*N.k)).toArray.size=row.size:=(by rw[Nt,I8,<-e0,Va,MT];omega);have Q1:=Ev.Qe (ob:=.cells (cs.take (j*N.k)++(ds++cs.drop (j*N.k))) N.e (some N.k)) (gr:=some (N.k,(n+1)*N.k,row.size)) (w':=w2) hs k0 d0 ⟨_,P0,by rw[hlen,n0];exact O1,by rw[hlen,e0];simp only[MU];exact g0.mono (Sg.zb hs.ny),by rw[hlen,n0];exact⟨rfl,y0,Z⟩⟩ O0 L1 ho ht hu;refine⟨_,_,rfl,?_,Q1⟩;exact .jG ⟨m.n,0,none⟩ ⟨bi.dL,some (N.k,(n+1)*N.k,row.size)⟩ _ _ _ N.k ((n+1)*N.k) row.size (Sg.add_same _ _) rfl rfl (.inr ⟨j0,co,by simp[Q0]⟩);have hw:=Ev.write (w':=w) (ob:=.dead) hs k0 d0 trivial (λ_ _=>rfl) rfl rfl rfl rfl;obtain⟨g1,g2⟩:=EB (e:=N.e) (k:=N.k) (sl:=n+1) (n:=0) (N:=D) (rest:=rest) (news:=[]) (new':=[]) hw.rN g0 bK.nil hlen co y0 Z hD (by simpa using r0);simp only[NC]at g1;have d1:=(hw.trans g1).trans (Ev.of_heap (w':=w2) g1.rN (by rw[s0];rfl) ho ht hu);exact⟨_,_,rfl,g2,d1⟩);cases hx;cases hx;cases hx
end
section
variable{E:Env}{X:aF}
theorem Cl.bodyW{R:ν->M->Nat->Prop}(hX:∀l,X (.func f) args (m.wl l)=none)(hf:E.fn.get f=some fn)(hl:Nat.ble args.length fn.ntmps)
  (h:dB E (aH E X) fn args m R):
  ∃vs m' lo,R vs m' lo/\m.n<=m'.n/\∃n0,∀n,n0<=n->∀l,l<=m.n->
   bT E X n (.func f) args (m.wl l)=some (bif aZ (aP vs) && Nat.ble m.n lo then(aP vs,m.wl l)else(aP vs,m'.wl (min l lo))):=by
 unfold dB WU at h;split at h
 ·rename_i body hb;obtain⟨e,F,T',b0,j0,hn,l0,n0,hr⟩:=dS _ _ _ _ h (enter args 0) (nC _ _) (R8 _);have e0:(∀id,e≠.exit id)/\Dy E F.K F.m fn.results.toList λvs=>R vs F.m F.lo:=(by cases e with|exit id=>exact b0.elim|normal=>exact⟨λ_ h=>(by cases h),b0⟩|ret=>exact⟨λ_ h=>(by cases h),b0⟩);have⟨k0,d0⟩:=e0;have⟨vs,hR,d0⟩:=jH j0 d0;refine⟨vs,F.m,F.lo,hR,hn,n0+1,λn o0 l p0=>?_⟩;obtain⟨n,rfl⟩:∃k,n=k+1:=⟨n-1,Z⟩;have g0:bF E (bT E X n) n body {T:=enter args 0,m:={m.wl l with low:=(m.wl l).n}}=some (e,⟨T',F.m.wl F.lo⟩):=hr n Z;have h0:=BO (fn:=fn) (d0 F.lo);have i0:X (.func f) args (m.wl l)=none:=hX l
  have fin:(bif aZ (aP vs) && Nat.ble (m.wl l).n (F.m.wl F.lo).low then some (aP vs,m.wl l)else some (aP vs,{F.m.wl F.lo with low:=min (m.wl l).low (F.m.wl F.lo).low}))=
    some (bif aZ (aP vs) && Nat.ble m.n F.lo then(aP vs,m.wl l)else(aP vs,F.m.wl (min l F.lo))):=by
   cases hc:(aZ (aP vs) && Nat.ble m.n F.lo)with
   |true=>have:(aZ (aP vs) && Nat.ble (m.wl l).n (F.m.wl F.lo).low):=hc;rw[this];rfl
   |false=>have:(aZ (aP vs) && Nat.ble (m.wl l).n (F.m.wl F.lo).low)=false:=hc;rw[this];rfl
  cases e with
  |exit id=>exact(k0 id rfl).elim
  |normal=>simp only[bT,i0,hf,hb,hl,gc,g0,h0];exact fin
  |ret=>simp only[bT,i0,hf,hb,hl,gc,g0,h0];exact fin
 exact h.elim
def Cl.genW{R:O->M->Nat->Prop}(hX:∀l,X (.func f) args (m.wl l)=none)(hf:E.fn.get f=some fn)(hl:Nat.ble args.length fn.ntmps)
  (h:dB E (aH E X) fn args m λvs m' lo=>(aZ (aP vs)/\m.n<=lo/\R (aP vs) m m.n)\/((aZ (aP vs)=false\/lo<m.n)/\R (aP vs) m' (min m.n lo))):
  ∃v m' b,Cl E X (.func f) args m b v m'/\R v m' b:=by have⟨vs,m',lo,h,hn,hr⟩:=Cl.bodyW hX hf hl h;rcases h with⟨F,b0,hR⟩|⟨F,hR⟩;exact⟨_,_,_,.of_flat F b0 hr,hR⟩;exact⟨_,_,_,.uk hn F hr,hR⟩
noncomputable section
def uP(E:Env)(X:aF)(B:iB)(r:O)(f:Nat)(d:LO):aF:=λfn args m=>match fn with
 |.func g=>match Nat.beq g f with
  |true=>open Classical in if h:∃p,∃F,∀n,F<=n->jO E X B r n d args m=some p then some (Classical.choose h)else none
  |false=>none
 |_=>none
end
variable{B:iB}{r:O}{f:Nat}{d:LO}{P:Program}
def qD{g:Fn}{p:O×M}(h:uP E X B r f d g args m=some p):g=.func f/\∃F,∀n,F<=n->jO E X B r n d args m=some p:=by unfold uP at h;split at h;rename_i g';split at h;rename_i hb;have:=L6 hb;subst this;split at h;rename_i hex;cases h;exact⟨rfl,LR hex⟩;cases h;cases h;cases h
def IS{p:O×M}(h:∃F,∀n,F<=n->jO E X B r n d args m=some p):uP E X B r f d (.func f) args m=some p:=by unfold uP;simp only[Nk];have hex:∃p,∃F,∀n,F<=n->jO E X B r n d args m=some p:=⟨p,h⟩;rw[dif_pos hex];have⟨F,h0⟩:=h;have⟨n1,h1⟩:=LR hex;have a:=h0 (max F n1) Z;grind
def abf(h:∃F,∀n,F<=n->jO E X B r n d args m=none):uP E X B r f d (.func f) args m=none:=by cases hs:uP E X B r f d (.func f) args m with|none=>rfl|some p=>obtain⟨-,F,h0⟩:=qD hs;have⟨n1,h1⟩:=h;have a:=h0 (max F n1) Z;grind
def fS(F:Nat.beq g f=false)(args:ν)(m:M):uP E X B r f d (.func g) args m=none:=by unfold uP;grind
theorem yT{call:aF}{pan:iB}(hc:iL call)(hp:∀g args m m',pan g args m=some m'->LK m m'){ops:Array Oper}:∀(l:List Oper) (fr F:Fr),fX E call pan ops l fr=some F->LK fr.m F.m
 |[],fr,F,h=>by unfold fX at h;cases h
 |o::l,fr,F,h=>by unfold fX at h;cases hw:cd ops fr.T o with|false=>rw[hw]at h;exact yT hc hp l {fr with T:=put fr.T o.dst undef} F h|true=>rw[hw]at h;simp only[gc]at h;cases ho:dJ o.op E call fr.T fr.m with|some p=>have⟨v,m1⟩:=p;rw[ho]at h;exact(QE hc ho).trans (yT hc hp l {T:=put fr.T o.dst v,m:=m1} F h)|none=>rw[ho]at h;simp only[R7]at h;obtain⟨m1,h1,rfl⟩:=h;unfold lD at h1;grind
theorem nU{call:aF}{pan:iB}(hp:∀g args m m',pan g args m=some m'->LK m m'){ops:Array Oper}{p:Nat}{m m':M}:∀(l:List Oper) (j:Nat) (T:Tr O) (r:Option M),(∀m1,r=some m1->LK m m1)->dw E call pan ops p m l j T r=some m'->LK m m'
 |[],j,T,r,hr,h=>by unfold dw at h;exact hr _ h
 |o::l,j,T,r,hr,h=>by unfold dw at h;cases b0:Nat.beq j p with|true=>rw[b0,gc]at h;(cases hw:(kz ops o && cd ops T o)with|false=>rw[hw]at h;cases h|true=>rw[hw,gc]at h;split at h;rename_i m1 F;refine nU hp l (j+1) T _ (λm2 e=>?_) h;cases e;unfold lD at F;split at F;split at F;split at F;exact LK.low (LK.Ch (x:=m.n) (hp _ _ _ _ F));cases F;cases F;cases F;cases h)|false=>rw[b0,I2]at h;cases hb:(behind ops p j ||(Nat.blt p j && wZ E o))with|true=>rw[hb,gc]at h;exact nU hp l (j+1) T r hr h|false=>rw[hb,I2]at h;cases d0:(jB o.op && kz ops o)with|false=>rw[d0]at h;cases h|true=>rw[d0,gc]at h;cases hw:cd ops T o with|false=>rw[hw,I2]at h;exact nU hp l (j+1) _ r hr h|true=>rw[hw,gc]at h;split at h;exact nU hp l (j+1) _ r hr h;cases h
def KC{pan:iB}(hc:iL call)(hp:∀g args m m',pan g args m=some m'->LK m m'){n:Nat}{dr:Bool}:∀(c:Code) (fr F:Fr),dU E dr call pan n c fr=some F->LK fr.m F.m:=by intro c;induction c with|region id ops d=>intro fr F h;unfold dU at h;(cases d with|true=>rw[gc]at h;(cases dr with|false=>cases h|true=>simp only[gc,R7]at h;obtain⟨m1,h1,rfl⟩:=h;exact nU hp _ _ _ _ (λm1 h=>by cases h) h1)|false=>exact yT hc hp _ _ _ h)|seq x y b0 d0=>intro fr F h;unfold dU at h;(cases hx:bF E call n x fr with|none=>rw[hx]at h;exact b0 _ _ h|some p=>have⟨e,e0⟩:=p;rw[hx]at h;cases e with|normal=>exact(gd hc x fr .normal e0 hx).trans (d0 _ _ h)|exit id=>cases h|ret=>cases h)|cond c x y b0 d0=>intro fr F h;unfold dU at h;grind|block id c ih=>intro fr F h;unfold dU at h;exact ih _ _ h|scope c ih=>intro fr F h;unfold dU at h;exact ih _ _ h|_=>intro fr F h;simp[dU]at h
theorem Qy(F:iL X)(hB:∀g args m m',B g args m=some m'->LK m m'):∀n g args m m',jI E X B n g args m=some m'->LK m m'
 |0,g,args,m,m',h=>by unfold jI at h;cases h
 |n+1,g,args,m,m',h=>by cases g with|func f=>unfold jI at h;split at h;grind;split at h;cases h;rename_i fn _;split at h;cases h;rename_i body _;(cases hc:(Nat.ble args.length fn.ntmps && fL body && (X (.func f) args m).isNone)with|false=>rw[hc]at h;cases h|true=>rw[hc]at h;simp only[gc,R7]at h;obtain⟨fr,h,rfl⟩:=h;exact LK.Ch (x:=m.n) (KC (yf F n) (Qy F hB n) _ _ _ h))|_=>unfold jI at h;cases h
def VO(hc:iL call){n g:Nat}{args:ν}{m m':M}(h:vj E r (bF E call n) g args m=some m'):LK m m':=by unfold vj at h;split at h;rename_i c _;(cases F:(Nat.ble args.length c.fn.ntmps && (c.fn.results.toList.isEmpty && fL c.rest))with|false=>rw[F]at h;cases h|true=>rw[F,gc]at h;split at h;rename_i T _;split at h;cases h;cases h;rename_i e fr _ hex;cases h;exact LK.Ch (x:=m.n) (gd hc _ _ _ _ hex);cases h);cases h
def abc(hX:iL X)(hB:∀g args m m',B g args m=some m'->LK m m'){n:Nat}{args:ν}{m m':M}{v:O}(h:jO E X B r n d args m=some (v,m')):LK m m':=by have cE:=yf (E:=E) hX n;unfold jO at h;cases hle:(Nat.ble args.length d.fn.ntmps && fL d.post)with|false=>rw[hle]at h;cases h|true=>rw[hle,gc]at h;split at h;rename_i fr hex;have h1:LK m fr.m:=LK.Ch (x:=m.n) (xV cE _ _ _ _ hex);split at h;rename_i td g fi ca c i0 g0 j0 k0 l0;split at h;rename_i t h0;(cases F:(Nat.beq t td && (c.args.toList.isEmpty && fi.toList.isEmpty))with|false=>rw[F]at h;cases h|true=>rw[F,gc]at h;split at h;cases h;rename_i b0 d0;split at h;rename_i m3 e0;have h2:LK fr.m b0.m:=KC cE (Qy hX hB n) d.post ⟨put (put fr.T (some td) (.func (.func g) #[] (ca.toList.map (ev fr.T)).toArray)) d.de.dst undef,fr.m⟩ b0 d0;exact F1 (fr:={b0 with m:=m3}) ((h1.trans h2).trans (VO cE e0)) h;cases h);cases h;cases h;cases h
def PJ(hE:E.OK P)(hX:cP P X)(hB:yp P r B)(F:∀g args m m',B g args m=some m'->LK m m')(hr:bL r)(hd:E.df.get f=some d)(hS:Nat.beq Ds f=false):cP P (uP E X B r f d):=by refine⟨λg args m v m' h σ w args' hs hl=>?_,λl args m v m' h=>?_,λg args m v m' h=>?_,λa m v m' b h=>?_⟩;have⟨hg,n0,h0⟩:=qD h;cases hg;exact Ib hE hX hB hr hd (h0 n0 (R8 _)) hs hl;cases (qD h).1;obtain⟨-,n0,h0⟩:=qD h;exact abc hX.aX F (h0 n0 (R8 _));rw[fS hS]at h;cases h
end
end Go.D
namespace Go.Proofs
open Go.D Go.RowKit
def Tryz.QQ(w:World):Calls Tryz.prog 152 #[P6] w λe w'=>e=.panicked [{v:=.iface 238 (.agg #[]),recovered:=false}]/\w'=w:=by go_enter Tryz.func152,Tryz.ntmps152;go_wp2;have F:(Instr.panic (.iface 238 (.agg #[]))).run Tryz.prog w=(.halt (.panic (.iface 238 (.agg #[]))) w:Result O):=(by rfl);rw[F];exact⟨rfl,rfl,rfl⟩
abbrev xM:O:=.iface 238 (.agg #[])
def oM:iB:=λg args m=>match g with
 |.func f=>bif Nat.beq f 152 then(match args with |[.bool false]=>some m |_=>none)else none
 |_=>none
def uv{g:Fn}{args:ν}{m m':M}(h:oM g args m=some m'):g=.func 152/\args=[P6]/\m'=m:=by unfold oM at h;split at h;rename_i f;(cases F:Nat.beq f 152 with|false=>rw[F]at h;cases h|true=>rw[F,gc]at h;have:=L6 F;grind);cases h
def aes:yp Tryz.prog xM oM:=by refine⟨λf args m m' h σ w args' hs hl=>?_,λg args m m' h=>⟨_,(uv h).1⟩⟩;obtain⟨hg,rfl,rfl⟩:=uv h;cases hg;have⟨x1,l1,b0,hv,d0⟩:=hl.cases;obtain rfl:=d0.nil_eq;have e1:=hv.bJ rfl;subst e1;have F:args'= #[P6]:=J;subst F;refine⟨callsIn_wide.2 ((Tryz.QQ w).mono ?_),enters_of Tryz.func152 bv rfl _ _⟩;rintro e w' ⟨rfl,rfl⟩;exact⟨rfl,σ,.refl hs⟩
def QT:∀g args m m',oM g args m=some m'->LK m m':=λg args m m' h=>by
 obtain⟨-, -,rfl⟩:=uv h;exact .refl
