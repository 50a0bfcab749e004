/- plane.order, cmp.Or; the greater .. -/
import Derived.Test.YthffgohpkjpkbaaGreatDoorG6J
import Derived.Deep.WholeRow
import Derived.Lib.AppendZerosOnto
import Derived.Shelf.Abstract
set_option linter.defProp false
set_option maxRecDepth 100000
noncomputable section
open Go Go.D Go.Proofs.Tryz
namespace Go.Proofs.YthffgohpkjpkbaaGreatDoor
variable{x:Mk}{b i n1:Nat}{g:Option Nat}{p q:Pl}{T e t:TypeId}{mm:M}{R:Ω->M->Nat->Prop}{ms:List Mk}{us vs:List Un}
variable{X:aF}{m:M}
def ML(l:List Int):Int:=match l.find? (λx=> !(decide (x=0)))with |some x=>x |none=>0
def G0{l:List Int}(h:∀(j:Nat) x,l[j]?=some x->x=0):ML l=0:=by unfold ML;have:l.find? (λx=> !(decide (x=0)))=none:=Rw.2 λx F=>(by have⟨j,hj⟩:=Pv.1 F;grind);grind
theorem wJ:∀{l:List Int} {i:Nat} {x:Int},l[i]?=some x->x≠0->(∀(j:Nat) y,j<i->l[j]?=some y->y=0)->ML l=x
 |[],i,x,h,_,_=>be
 |a::l,0,x,h,F,_=>by cases h;unfold ML;grind
 |a::l,i+1,x,h,F,hz=>by have ha:=hz 0 a ac rfl;subst ha;have:=wJ (l:=l) (i:=i) (x:=x) be F λj y hj hy=>hz (j+1) y ac be;unfold ML at this⊢;grind
def Qj(hX:cy X){l:List Int}{v:Φ}(hl:Sl m l v)(hb:l.length<1000000):C X (.func 95) [v] m m.n (ν (ML l)) m:=by apply Cl.fl hX (Us func95);rw[F95];dsimp only[aG];rw[hl.len mX,an];refine Lp.intro (γ:=Nat) (λi=>l.length-i) (λi vs mm lo=>vs=[ν 0,ν i]/\mm=m/\lo=m.n/\i<=l.length/\∀(j:Nat) y,j<i->l[j]?=some y->y=0) 0 ⟨rfl,rfl,rfl,ZX _,λj y hj=>ac⟩ ?_;rintro i vs mm lo ⟨rfl,rfl,rfl,hi,hz⟩;rw[av,av,aK,ae,ag];refine af (λh=>?_) (λh=>?_);have h:i<l.length:=be;obtain⟨x,hx⟩:∃x,l[i]?=some x:=⟨_,Np h⟩;have⟨p,cs,e1,e2,e3⟩:=hl.index mX (k:=.i64) hx;obtain rfl:cs=[ν x]:=e3;rw[e1,ae,e2,ae];show aS (bE TE .neq 3 (ν x) (ν 0)) _;rw[bZ,ae,ag];refine af (λhb=>?_) (λhb=>?_);have F:x≠0:=be;refine⟨?_,Aj _⟩;rw[wJ hx F hz];rfl;have F:x=0:=be;rw[aL,ae,wrap64];refine⟨i+1,ac,rfl,rfl,rfl,ac,λj y hj hy=>?_⟩;by_cases e:j=i;subst e;rw[hx]at hy;cases hy;exact F;exact hz j y ac hy;have b0:i=l.length:=(by have:¬(i:Int)< (l.length:Int):=be;omega);refine⟨?_,Aj _⟩;rw[G0 λj y hy=>hz j y be hy];rfl
def V3{x y:Int}:aO TE m 116 2 [(0,.int .i64 x),(1,.int .i64 y)]=some (.slice (some ⟨m.n,0,none⟩) 2 2,m.push (.cells [.int .i64 x,.int .i64 y] 3 none)):=bv
def GJ{x y:Int}(h:m.get b=.cells [ν x,ν y] 3 g):Sl m [x,y] (RR b 0 2 2):=
 .inr ⟨b,0,2,_,g,rfl,h,Aj _,λi z hi=>by match i with|0=>cases hi;rfl|1=>cases hi;rfl|i+2=>simp at hi⟩
def acf(p q:Pl):ML [dv p.x q.x,dv p.y q.y]=vo p q:=by unfold vo;by_cases h:dv p.x q.x=0;rw[QL h];by_cases h2:dv p.y q.y=0;rw[G0 (by intro j x F;match j with|0=>cases F;exact h|1=>cases F;exact h2|j+2=>simp at F),h2];exact wJ (i:=1) rfl h2 (by intro j y F hy;match j with|0=>cases hy;exact h|j+1=>omega);rw[MO h];exact wJ (i:=0) rfl h λj y F=>ac
def KH(h:m.get b=.cells p.c e g):aC TE m 3 (Ψ b (0+0))=some (ν p.x):=by rw[bR,aH h];rfl
def KG(h:m.get b=.cells p.c e g):aC TE m 3 (Ψ b (0+1))=some (ν p.y):=by rw[bR,aH h];rfl
def sw(F:cy X)(p q:Pl):C X (.func 83) [p.v,q.v] m m.n (ν (vo p q)) m:=by apply Cl.fl F (Us func83);rw[F83];dsimp only[aG];refine ah λm1 g0 b0 h0=>?_;refine ah λm2 i0 d0 e0=>?_;have g1:m2.get m.n=.cells p.c 46 none:=(by rw[e0 _ ac];exact b0);have g2:m2.get m1.n=.cells q.c 46 none:=d0;unfold ptrTo;rw[cW,ae,KH g1,ae,cW,ae,KH g2,ae];refine aw (gC F _ _) ⟨Aj _,?_⟩;rw[eh,ae,KG g1,ae,eh,ae,KG g2,ae];apply aw (gC F _ _);rw[V3,an];have hg:(m2.push (.cells [.int .i64 (dv p.x q.x),.int .i64 (dv p.y q.y)] 3 none)).get m2.n=.cells [.int .i64 (dv p.x q.x),.int .i64 (dv p.y q.y)] 3 none:=M.aU;have hn:(m2.push (.cells [.int .i64 (dv p.x q.x),.int .i64 (dv p.y q.y)] 3 none)).n=m2.n+1:=rfl;apply aw (Qj F (GJ hg) be);refine⟨?_,ac⟩;rw[acf];rfl
def Um(hX:cy X){p q:Pl}{v:Φ}(hl:Sl m [p,q] v):C X (.func 129) [v,.func (.func 83) #[] #[]] m m.n (Hj p q).v m:=by apply Cl.fl hX (Us func129);rw[F129];dsimp only[aG];refine ah λm1 s0 u0 j0=>?_;have b0:=hl.ak (m':=m1) ⟨ac,j0⟩;rw[b0.len cR,an,aK,ae,ag];show lI (decide (((2:Nat):Int)< 1)) _ _;rw[show decide (((2:Nat):Int)< 1)=false from rfl,aT];have⟨a,e1,e2⟩:=b0.fL (k:=.i64) (i:=0) rfl;have e1:aE TE 41 v (ν 0)=some a:=e1;rw[e1,ae,e2,ae];refine ah λm6 y0 k0 A0=>?_;unfold ptrTo;refine aj fQ k0 rfl rfl rfl λm7 B0 d0 O0=>?_;have d0:m7.get m1.n=.cells p.c 46 none:=d0;have e0:∀c,c<m1.n->m7.get c=m1.get c:=be;refine Lp.intro (γ:=Nat) (λi=>2-i) (λi vs mm lo=>vs=[ν i]/\(i=1/\mm.get m1.n=.cells p.c 46 none\/i=2/\mm.get m1.n=.cells (Hj p q).c 46 none)/\mm.n=m7.n/\(∀c,c<m1.n->mm.get c=m1.get c)/\m.n<=lo) 1 ⟨rfl,.inl ⟨rfl,d0⟩,rfl,e0,ac⟩ ?_;rintro i vs mm lo ⟨rfl,hi,l0,hk,P0⟩;have h0:Sl mm [p,q] v:=b0.aY λb c t g hb _=>(by rw[hk b (M.aP hb),hb]);rw[av,h0.len cR,an,aK,ae,ag];rcases hi with⟨rfl,hc⟩|⟨rfl,hc⟩;show lI (decide (((1:Nat):Int)< ((2:Nat):Int))) _ _;rw[show decide (((1:Nat):Int)< ((2:Nat):Int))=true from rfl,bN];have⟨a,e1,e2⟩:=h0.fL (k:=.i64) (i:=1) rfl;rw[e1,ae,e2,ae,bY hc,ae,cx];apply aw (sw hX q p);rw[cz,ae,ag];refine af (λhb=>?_) (λhb=>?_);have hb:=Ds hb;rw[ae,e2,ae];refine aj fQ hc rfl rfl rfl λQ0 o0 i0 p0=>?_;refine⟨2,ac,rfl,.inr ⟨rfl,?_⟩,ac,be,ac⟩;rw[i0,show Hj p q=q by unfold Hj;rw[QL hb]];rfl;have hb:=LL hb;refine⟨2,ac,rfl,.inr ⟨rfl,?_⟩,l0,hk,ac⟩;rw[hc,show Hj p q=p by unfold Hj;rw[MO hb]];show lI (decide (((2:Nat):Int)< ((2:Nat):Int))) _ _;rw[show decide (((2:Nat):Int)< ((2:Nat):Int))=false from rfl,aT,bY hc,ae];have g0:mm.get m.n=.cells [ν 0,ν 0] 46 none:=be;refine aj fQ g0 rfl rfl rfl λn0 q0 F r0=>?_;have F:n0.get m.n=.cells (Hj p q).c 46 none:=F;rw[bY F,ae];exact⟨rfl,ac⟩
def ac7(hX:cy X){p q:Pl}{v:Φ}(hl:Sl m [p,q] v):C X (.func 130) [v,.func (.func 83) #[] #[]] m m.n (Hh p q).v m:=by apply Cl.fl hX (Us func130);rw[F130];dsimp only[aG];refine ah λm1 s0 u0 j0=>?_;have b0:=hl.ak (m':=m1) ⟨ac,j0⟩;rw[b0.len cR,an,aK,ae,ag];show lI (decide (((2:Nat):Int)< 1)) _ _;rw[show decide (((2:Nat):Int)< 1)=false from rfl,aT];have⟨a,e1,e2⟩:=b0.fL (k:=.i64) (i:=0) rfl;have e1:aE TE 41 v (ν 0)=some a:=e1;rw[e1,ae,e2,ae];refine ah λm6 y0 k0 A0=>?_;unfold ptrTo;refine aj fQ k0 rfl rfl rfl λm7 B0 d0 O0=>?_;have d0:m7.get m1.n=.cells p.c 46 none:=d0;have e0:∀c,c<m1.n->m7.get c=m1.get c:=be;refine Lp.intro (γ:=Nat) (λi=>2-i) (λi vs mm lo=>vs=[ν i]/\(i=1/\mm.get m1.n=.cells p.c 46 none\/i=2/\mm.get m1.n=.cells (Hh p q).c 46 none)/\mm.n=m7.n/\(∀c,c<m1.n->mm.get c=m1.get c)/\m.n<=lo) 1 ⟨rfl,.inl ⟨rfl,d0⟩,rfl,e0,ac⟩ ?_;rintro i vs mm lo ⟨rfl,hi,l0,hk,P0⟩;have h0:Sl mm [p,q] v:=b0.aY λb c t g hb _=>(by rw[hk b (M.aP hb),hb]);rw[av,h0.len cR,an,aK,ae,ag];rcases hi with⟨rfl,hc⟩|⟨rfl,hc⟩;show lI (decide (((1:Nat):Int)< ((2:Nat):Int))) _ _;rw[show decide (((1:Nat):Int)< ((2:Nat):Int))=true from rfl,bN];have⟨a,e1,e2⟩:=h0.fL (k:=.i64) (i:=1) rfl;rw[e1,ae,e2,ae,bY hc,ae,cx];apply aw (sw hX q p);rw[aK,ae,ag];refine af (λhb=>?_) (λhb=>?_);have hb:=Ds hb;rw[ae,e2,ae];refine aj fQ hc rfl rfl rfl λQ0 o0 i0 p0=>?_;refine⟨2,ac,rfl,.inr ⟨rfl,?_⟩,ac,be,ac⟩;rw[i0,show Hh p q=q by unfold Hh;rw[QL hb]];rfl;have hb:=LL hb;refine⟨2,ac,rfl,.inr ⟨rfl,?_⟩,l0,hk,ac⟩;rw[hc,show Hh p q=p by unfold Hh;rw[MO hb]];show lI (decide (((2:Nat):Int)< ((2:Nat):Int))) _ _;rw[show decide (((2:Nat):Int)< ((2:Nat):Int))=false from rfl,aT,bY hc,ae];have g0:mm.get m.n=.cells [ν 0,ν 0] 46 none:=be;refine aj fQ g0 rfl rfl rfl λn0 q0 F r0=>?_;have F:n0.get m.n=.cells (Hh p q).c 46 none:=F;rw[bY F,ae];exact⟨rfl,ac⟩
structure C1(X:aF):Prop where
 pl:∀(m:M) (b:Nat) (p q:Pl),m.get b=.cells (p.c++q.c) 46 none->∃m' lo,C X (.func 128) [.slice (some ⟨b,0,none⟩) 2 2,.func (.func 83) #[] #[]] m lo (.tuple #[]) m'/\b<=lo/\m'.n=m.n/\m'.get b=.cells ((ja p q).c++(Gi p q).c) 46 none/\∀c,c≠b->m'.get c=m.get c
def T6:aO TE m 41 2 [(0,p.v),(1,q.v)]=some (.slice (some ⟨m.n,0,none⟩) 2 2,m.push (.cells (p.c++q.c) 46 none)):=bv
def At(h:m.get b=.cells (p.c++q.c) 46 g):Sl m [p,q] (RR b 0 2 2):=
 .inr ⟨b,0,2,_,g,rfl,h,Aj _,λi z hi=>by match i with|0=>cases hi;rfl|1=>cases hi;rfl|i+2=>simp at hi⟩
def ac6(hX:cy X)(hS:C1 X)(p q r s:Pl):C X (.func 82) [p.v,q.v,r.v,s.v] m m.n (.tuple #[(rD p q r s).v,(NW p q r s).v]) m:=by
 apply Cl.fl hX (Us func82);rw[F82];dsimp only[aG];refine ah λm1 h2 c1 i2=>?_;refine ah λm2 j2 d1 e1=>?_;refine ah λm3 k2 h1 r0=>?_;refine ah λm4 l2 i1 q0=>?_;refine ah λm5 o2 u2 n0=>?_;refine ah λm6 v2 j1 o0=>?_;have g0:m6.get m.n=.cells p.c 46 none:=(by rw[o0 _ ac,n0 _ ac,q0 _ ac,r0 _ ac,e1 _ ac];exact c1);have g1:m6.get m1.n=.cells q.c 46 none:=(by rw[o0 _ ac,n0 _ ac,q0 _ ac,r0 _ ac];exact d1);have g2:m6.get m2.n=.cells r.c 46 none:=(by rw[o0 _ ac,n0 _ ac,q0 _ ac];exact h1);have g3:m6.get m3.n=.cells s.c 46 none:=(by rw[o0 _ ac,n0 _ ac];exact i1);have g4:m6.get m4.n=.cells [ν 0,ν 0] 46 none:=be;have g5:m6.get m5.n=.cells [ν 0,ν 0] 46 none:=j1;unfold ptrTo;rw[bY g0,ae,bY g1,ae,T6,an];obtain⟨m10,b0⟩:∃x,x=m6.push (.cells (p.c++q.c) 46 none):=⟨_,rfl⟩;rw[<-b0];have v1:m10.n=m6.n+1:=(by rw[b0];rfl);have w1:m10.get m6.n=.cells (p.c++q.c) 46 none:=(by rw[b0];exact M.aU);have i0:∀c,c<m6.n->m10.get c=m6.get c:=λc hc=>(by rw[b0];exact M.cI hc);rw[bY (by rw[i0 _ ac];exact g2),ae,bY (by rw[i0 _ ac];exact g3),ae,T6,an];obtain⟨m14,d0⟩:∃x,x=m10.push (.cells (r.c++s.c) 46 none):=⟨_,rfl⟩;rw[<-d0];have A1:m14.n=m10.n+1:=(by rw[d0];rfl);have B1:m14.get m10.n=.cells (r.c++s.c) 46 none:=(by rw[d0];exact M.aU);have s0:∀c,c<m10.n->m14.get c=m10.get c:=λc hc=>(by rw[d0];exact M.cI hc);have ga:m14.get m6.n=.cells (p.c++q.c) 46 none:=be;have⟨m16,G1,k1,l1,H1,K1,u0⟩:=hS.pl m14 m6.n p q ga;apply aw k1;have gb:m16.get m10.n=.cells (r.c++s.c) 46 none:=be;have⟨m19,O1,o1,p1,T1,y0,A0⟩:=hS.pl m16 m10.n r s gb;apply aw o1;have s1:=At (m:=m19) (p:=ja p q) (q:=Gi p q) (b:=m6.n) (g:=none) be;have s2:=At (m:=m19) (p:=ja r s) (q:=Gi r s) (b:=m10.n) (g:=none) y0;have⟨a1,x1,y1⟩:=s1.fL (k:=.i64) (i:=0) rfl;have⟨a2,x2,y2⟩:=s2.fL (k:=.i64) (i:=0) rfl;have⟨a3,x3,y3⟩:=s1.fL (k:=.i64) (i:=1) rfl;have⟨a4,x4,y4⟩:=s2.fL (k:=.i64) (i:=1) rfl;have x1:aE TE 41 (RR m6.n 0 2 2) (ν 0)=some a1:=x1;have x2:aE TE 41 (RR m10.n 0 2 2) (ν 0)=some a2:=x2;have x3:aE TE 41 (RR m6.n 0 2 2) (ν 1)=some a3:=x3;have x4:aE TE 41 (RR m10.n 0 2 2) (ν 1)=some a4:=x4;rw[x1,ae,y1,ae,x2,ae,y2,ae,T6,an];obtain⟨F,e0⟩:∃x,x=m19.push (.cells ((ja p q).c++(ja r s).c) 46 none):=⟨_,rfl⟩;rw[<-e0];have j0:Ext m19 F:=(by rw[e0];exact Ext.refl.push);have b2:F.n=m19.n+1:=(by rw[e0];rfl);have B0:F.get m19.n=.cells ((ja p q).c++(ja r s).c) 46 none:=(by rw[e0];exact M.aU);refine aw (Um hX (At B0)) ⟨Aj _,?_⟩;have t1:=s1.ak j0;have t2:=s2.ak j0;have⟨a5,x5,y5⟩:=t1.fL (k:=.i64) (i:=1) rfl;have⟨a6,x6,y6⟩:=t2.fL (k:=.i64) (i:=1) rfl;have x5:aE TE 41 (RR m6.n 0 2 2) (ν 1)=some a5:=x5;have x6:aE TE 41 (RR m10.n 0 2 2) (ν 1)=some a6:=x6;rw[x5,ae,y5,ae,x6,ae,y6,ae,T6,an];obtain⟨p0,h0⟩:∃x,x=F.push (.cells ((Gi p q).c++(Gi r s).c) 46 none):=⟨_,rfl⟩;rw[<-h0];have O0:Ext F p0:=(by rw[h0];exact Ext.refl.push);have c2:p0.n=F.n+1:=(by rw[h0];rfl);have P0:p0.get F.n=.cells ((Gi p q).c++(Gi r s).c) 46 none:=(by rw[h0];exact M.aU);apply aw (ac7 hX (At P0))
 have iJ:∀c,c<m6.n->p0.get c=m6.get c:=λc hc=>(by rw[O0.get c ac,j0.get c ac,A0 c ac,u0 c ac,s0 c ac,i0 c hc]);have k4:=(iJ m4.n ac).trans g4;have k5:=(iJ m5.n ac).trans g5;refine aj fQ k4 rfl rfl rfl λr1 d2 k0 Q0=>?_;have k0:r1.get m4.n=.cells (rD p q r s).c 46 none:=k0;refine aj fQ ((Q0 m5.n ac).trans k5) rfl rfl rfl λu1 e2 l0 b1=>?_;have l0:u1.get m5.n=.cells (NW p q r s).c 46 none:=l0;rw[bY (by rw[b1 _ ac];exact k0),ae,bY l0,ae];exact⟨rfl,ac⟩
def abT:bE TE .eql 46 p.v q.v=some (.bool (decide (p=q))):=by have e:bE TE .eql 46 p.v q.v=(eq? TE 46 p.v q.v).map (λb=> .bool b):=bv;rw[e,Wb];rfl
abbrev pT(p q:Pl):Ω:=[.int .i64 p.x,.int .i64 p.y,.int .i64 q.x,.int .i64 q.y]
abbrev wj:Ω:=[.int .i64 0,.int .i64 0,.int .i64 0,.int .i64 0]
def ki:Option (Pl×Pl)->Ω
 |some x=>pT x.1 x.2
 |none=>wj
def oD:bz TE 48 [(0,p.v),(1,q.v)]=some (.agg (pT p q).toArray):=bv
def tg:bz TE 48 []=some (.agg wj.toArray):=bv
def uN{α:Type}{f:Nat->Option α}:∀{n:Nat},(∀j,j<n->f j=none)->(List.range n).findSome? f=none:=by grind
theorem sL{α:Type}{f:Nat->Option α}{x:α}:∀{n k:Nat},k<n->(∀j,j<k->f j=none)->f k=some x->(List.range n).findSome? f=some x
 |n+1,k,hk,h,F=>by rw[ZH,List.findSome?_append];by_cases e:k<n;rw[sL e h F];rfl;grind
def Bo{m1 m2:Nat}{o:Option (Pl×Pl)}{b:Bool}(F:mm.get m1=.cells (ki o) 48 none)(h2:mm.get m2=.cells [.bool b] 4 none){P:Φ->Φ->Prop}(hP:P (.agg (ki o).toArray) (.bool b)):
  aS (aC TE mm 48 (Ψ m1 0)) λv=>aS (aC TE mm 4 (Ψ m2 0)) λw=>P v w:=by have hl:(ki o).length=4:=(by cases o <;>rfl);rw[wT,aI F be];have e:((ki o).drop 0).take 4=ki o:=be;rw[e];show aS (some (Value.agg (ki o).toArray)) _;rw[ae,sE,aH h2];exact hP
theorem J3{P:Prop}:NV [] P=P:=rfl
theorem abv(hX:cy X)(hS:C1 X){a b:List Pl}{va vb:Φ}(ha:Sl m a va)(hb:Sl m b vb)(la:a.length<1000000)(lb:b.length<1000000):
  C X (.func 29) [va,vb] m m.n (.tuple #[.agg (ki (oM a b)).toArray,.bool (oM a b).isSome]) m:=by
 refine Cl.flat (hX.no _ rfl) (Us func29) rfl (by cases oM a b <;>rfl) ?_;rw[F29];dsimp only[δ,η,θ,ι,ξ,ο,ς,υ,χ,ψ,ω,Γ,Δ,Θ,Λ];refine ah λm1 l6 G3 n6=>?_;refine ah λm2 o6 r6 s6=>?_;refine ah λm3 u6 O3 v6=>?_;rw[hb.cells]at G3;unfold ptrTo;have e1:Ext m m3:=⟨ac,be⟩;have g0:m3.get m.n=.cells [vb] 41 none:=be;have g1:m3.get m1.n=.cells wj 48 none:=be;have g2:m3.get m2.n=.cells [L4] 4 none:=O3;have ld:∀mm:M,mm.get m.n=.cells [vb] 41 none->aC TE mm 41 (Ψ m.n 0)=some vb:=λmm h=>(by rw[qP,aH h];rfl);have c2:=ha.ak e1;have d2:=hb.ak e1;refine aX (λvs m' lo=>vs=[.bool (!(bL a && bL b && !gD a b))]/\m'=m3/\m.n<=lo) (λR hR=>?_) ?_
 ·apply aw (mi hX c2 ac);rw[bB,ae,ag];refine af (λh=>?_) (λh=>?_);have h:bL a=false:=be;exact hR _ _ _ ⟨be,rfl,ac⟩;have h:bL a:=be;rw[ld m3 g0,ae];apply aw (mi hX d2 ac);rw[bB,ae,ag];refine af (λh'=>?_) (λh'=>?_);have h':bL b=false:=be;exact hR _ _ _ ⟨be,rfl,ac⟩;have h':bL b:=be;rw[ld m3 g0,ae];apply aw (sf hX c2 d2 la lb);exact hR _ _ _ ⟨dg,rfl,ac⟩
 rintro _ m6 w6 ⟨rfl,rfl,e5⟩;rw[av,ag];refine af (λh=>?_) (λh=>?_)
 ·have h:(bL a && bL b && !gD a b)=false:=(by cases h':(bL a && bL b && !gD a b)with|false=>rfl|true=>rw[h']at h;cases h);have e:oM a b=none:=(by unfold oM;rw[MO be]);rw[tg,ae];refine aj zq g1 rfl rfl rfl λm24 f5 i2 j2=>?_;refine aj Gx (by rw[j2 _ ac];exact g2) rfl rfl rfl λy6 g5 o2 u2=>?_;refine Bo (o:=none) (b:=false) (by rw[u2 _ ac];exact i2) o2 ⟨by rw[e];rfl,ac⟩
 have hv:(bL a && bL b && !gD a b):=(by cases h':(bL a && bL b && !gD a b)with|true=>rfl|false=>rw[h']at h;cases h);have v2:=hv;simp only[IG]at v2;obtain⟨⟨b4,c4⟩, -⟩:=v2;have e:oM a b=Bp a b:=(by unfold oM;rw[QL hv]);have sa:=mh b4;have sb:=mh c4;have⟨b0,hc,j0,h5,i5⟩:=CD (m:=m6) hX ha.cells;apply aw hc;rw[cx];have k0:b0.get m.n=.cells [vb] 41 none:=j0.cells g0;have k1:b0.get m1.n=.cells wj 48 none:=j0.cells g1;have k2:b0.get m2.n=.cells [L4] 4 none:=j0.cells g2;have hx:Ext m b0:=e1.trans j0;have z6:=j0.n;refine⟨.ob λ_=>False,mQ a,_,λi mm=>b0.n<=mm.n/\(∀c,c<b0.n->mm.get c=b0.get c)/\∀j,j<i->Ke a b j=none,λe mm=>e=.ret/\∃x,Bp a b=some x/\mm.get m1.n=.cells (pT x.1 x.2) 48 none/\mm.get m2.n=.cells [WB] 4 none,m.n,⟨_,rfl⟩,yZ hX (v:=va) (b:=m6.n) ac,ac,?_,?_,?_,⟨Aj _,λ_ _=>rfl,λj hj=>ac⟩,?_,?_,?_⟩
 ·rintro i mm ⟨h1,h2,h3⟩;refine⟨be,?_⟩;exact ha.aY λb c t g hb ht=>by have:=M.aP hb;rw[h2 b ac,hx.get b this,hb]
 ·rintro i mm i1 ⟨h1,h2,h3⟩ hk;exact⟨by have:=hk.n;omega,λc hc=>by rw[hk.get c ac ac,h2 c hc],h3⟩
 ·rintro e mm i1 ⟨h,x,h1,h2,h3⟩ hk;have l1:=M.aP h2;have l2:=M.aP h3;exact⟨h,x,h1,by rw[hk.get _ l1 ac,h2],by rw[hk.get _ l2 ac,h3]⟩
 ·rintro i args B0 j5 d4 ⟨h1,h2,h3⟩;obtain⟨pa,pb,j1,w2,rfl⟩:=yY d4;have e4:i<a.length:=(Vc.1 j1).1;have ea:jC a i=pa:=F0 j1;have eb:nxP a i=pb:=F0 w2;rw[av,av,J3];refine ah λA6 k5 y2 l5=>?_;refine aj fQ y2 rfl rfl rfl λz2 m5 A2 n5=>?_;refine ah λB6 o5 B2 G2=>?_;refine aj fQ B2 rfl rfl rfl λf4 r5 M2 O2=>?_;have o1:∀c,c<B0.n->f4.get c=B0.get c:=be;refine⟨λc _ hc=>o1 c hc,λl0 u5 b1=>?_⟩;dsimp only;have g4:∀c,c<b0.n->l0.get c=b0.get c:=be;have ra:l0.get B0.n=.cells pa.c 46 none:=(by rw[b1 _ ac,O2 _ ac,G2 _ ac,A2];rfl);have rb:l0.get z2.n=.cells pb.c 46 none:=(by rw[b1 _ ac,M2];rfl);rw[ld l0 be,ae];have⟨d0,P2,h0,v5,w5⟩:=CD (m:=l0) hX hb.cells;apply aw P2;rw[cx];have h4:=h0.n;have j4:∀c,c<b0.n->d0.get c=b0.get c:=λc hc=>(by rw[h0.get c ac,g4 c hc]);refine⟨.ob λ_=>False,mQ b,_,λk mm=>d0.n<=mm.n/\(∀c,c<d0.n->mm.get c=d0.get c)/\∀j,j<k->wk pa pb (jC b j) (nxP b j)=none,λe mm=>d0.n<=mm.n/\e=.ret/\∃x,Bp a b=some x/\mm.get m1.n=.cells (pT x.1 x.2) 48 none/\mm.get m2.n=.cells [WB] 4 none/\mm.get b0.n=l0.get b0.n,m.n,⟨_,rfl⟩,yZ hX (v:=vb) (b:=l0.n) ac,ac,?_,?_,?_,⟨Aj _,λ_ _=>rfl,λj hj=>ac⟩,?_,?_,?_⟩
  ·rintro k mm ⟨q1,q2,q3⟩;refine⟨be,?_⟩;exact hb.aY λb c t g hb ht=>by have:=M.aP hb;rw[q2 b ac,j4 b ac,hx.get b this,hb]
  ·rintro k mm i1 ⟨q1,q2,q3⟩ hk;exact⟨by have:=hk.n;omega,λc hc=>by rw[hk.get c ac ac,q2 c hc],q3⟩
  ·rintro e mm i1 ⟨q0,h,x,q1,q2,q3,q4⟩ hk;exact⟨by have:=hk.n;omega,h,x,q1,by rw[hk.get _ ac ac,q2],by rw[hk.get _ ac ac,q3],by rw[hk.get _ ac ac,q4]⟩
  ·rintro k args s0 y5 k4 ⟨q1,q2,q3⟩;obtain⟨pr,ps,p1,Q2,rfl⟩:=yY k4;have l4:k<b.length:=(Vc.1 p1).1;have er:jC b k=pr:=F0 p1;have es:nxP b k=ps:=F0 Q2;have da:=sa _ (Jc j1);have db:=sa _ (Jc w2);have dr:=sb _ (Jc p1);have ds:=sb _ (Jc Q2);rw[av,av,J3];refine ah λa7 z5 T2 A5=>?_;refine aj fQ T2 rfl rfl rfl λm4 B5 b3 O5=>?_;refine ah λb7 a6 c3 d3=>?_;refine aj fQ c3 rfl rfl rfl λn4 b6 e3 g3=>?_;have r1:∀c,c<s0.n->n4.get c=s0.get c:=be;refine⟨λc _ hc=>r1 c hc,λm64 c6 c1=>?_⟩;dsimp only;have u1:∀c,c<d0.n->m64.get c=d0.get c:=be;have ta:m64.get B0.n=.cells pa.c 46 none:=(by rw[u1 _ ac,h0.get _ ac,ra]);have tb:m64.get z2.n=.cells pb.c 46 none:=(by rw[u1 _ ac,h0.get _ ac,rb]);have tr:m64.get s0.n=.cells pr.c 46 none:=(by rw[c1 _ ac,g3 _ ac,d3 _ ac,b3];rfl);have ts:m64.get m4.n=.cells ps.c 46 none:=(by rw[c1 _ ac,e3];rfl)
   have skip:wk pa pb pr ps=none->∀(mm:M) (lo:Nat),m64.n<=mm.n->(∀c,c<m64.n->mm.get c=m64.get c)->m.n<=lo->
     m.n<=lo/\(∀c,d0.n<=c->c<s0.n->(c=d0.n\/False)->mm.get c=m64.get c)/\(d0.n<=mm.n/\(∀c,c<d0.n->mm.get c=d0.get c)/\∀j,j<k+1->wk pa pb (jC b j) (nxP b j)=none):=by
    intro o4 mm lo r4 u0 o0;refine⟨o0,λc _ hc _=>u0 c ac,ac,be,λj hj=>?_⟩;by_cases e:j=k;·rw[e,er,es];exact o4
    ·exact q3 j ac
   refine aX (λvs m' lo=>vs=[.bool (decide (dZ pa pb pr≠0\/dZ pa pb ps≠0))]/\m'=m64/\m.n<=lo) (λR hR=>?_) ?_
   ·rw[bY ta,ae,bY tb,ae,bY tr,ae];apply aw (Aq hX da db dr);rw[bZ,ae,ag];refine af (λh=>?_) (λh=>?_);have h:dZ pa pb pr≠0:=be;exact hR _ _ _ ⟨be,rfl,ac⟩;have h:dZ pa pb pr=0:=be;rw[bY ta,ae,bY tb,ae,bY ts,ae];apply aw (Aq hX da db ds);rw[bZ,ae];refine hR _ _ _ ⟨?_,rfl,ac⟩;congr 2;rw[OJ];simp[h]
   rintro _ n0 i3 ⟨rfl,rfl,v1⟩;rw[av,ag];refine af (λh=>?_) (λh=>?_);·have h:=Ds h;exact skip (by unfold wk;rw[QL h]) n0 i3 (Aj _) (λ_ _=>rfl) v1
   have p0:=LL h;rw[bY ta,ae,bY tb,ae,bY tr,ae,bY ts,ae];apply aw (ac6 hX hS pa pb pr ps);rw[aD,aD];simp only[LB,IM,ae];refine ah λO0 d6 j3 e6=>?_;refine ah λc7 f6 k3 l3=>?_;refine aj fQ ((l3 n0.n ac).trans j3) rfl rfl rfl λd7 g6 n3 o3=>?_;refine aj fQ ((o3 O0.n ac).trans k3) rfl rfl rfl λP0 h6 r3 u3=>?_;have tf:P0.get n0.n=.cells (rD pa pb pr ps).c 46 none:=(by rw[u3 _ ac];exact n3);have tt:P0.get O0.n=.cells (NW pa pb pr ps).c 46 none:=r3;have Q0:∀c,c<n0.n->P0.get c=n0.get c:=be;refine aX (λvs m' lo=>vs=[.bool (decide (rD pa pb pr ps=NW pa pb pr ps\/0<vo (rD pa pb pr ps) (NW pa pb pr ps)))]/\m'=P0/\m.n<=lo) (λR hR=>?_) ?_
   ·rw[bY tf,ae,bY tt,ae,abT,ae,ag];refine af (λh=>?_) (λh=>?_);have h:=Ds h;exact hR _ _ _ ⟨be,rfl,ac⟩;have h:=LL h;apply aw (sw hX _ _);rw[cz,ae];refine hR _ _ _ ⟨?_,rfl,ac⟩;congr 2;rw[ge];exact⟨λq=> .inr q,λq=>q.resolve_left h⟩
   rintro _ e0 r0 ⟨rfl,rfl,a1⟩;rw[av,ag];refine af (λh=>?_) (λh=>?_);·have h:=Ds h;exact skip (by unfold wk;rw[MO p0,QL h]) e0 r0 ac (λc hc=>Q0 c hc) a1
   have w3:=LL h;rw[bY (by rw[Q0 _ ac];exact ta),ae,bY (by rw[Q0 _ ac];exact tb),ae];apply aw (sw hX _ _);rw[cz,ae,ag];have u4:e0.get m1.n=.cells wj 48 none:=be;have w4:e0.get m2.n=.cells [L4] 4 none:=be
   have fin:∀(x:Pl×Pl) (mm:M) (F:Nat->Nat->Nat),wk pa pb pr ps=some x->mm.n=e0.n->(∀c,c<n0.n->mm.get c=e0.get c)->m.n<=F m1.n m2.n->
     dh (bh TE mm 48 (Ψ m1.n 0) (.agg (pT x.1 x.2).toArray)) λd1 y3=>dh (bh TE d1 4 (Ψ m2.n 0) WB) λi0 A3=>
      m.n<=F y3 A3/\(∀c,d0.n<=c->c<s0.n->(c=d0.n\/False)->i0.get c=n0.get c)/\(d0.n<=i0.n/\True/\∃x,Bp a b=some x/\i0.get m1.n=.cells (pT x.1 x.2) 48 none/\i0.get m2.n=.cells [WB] 4 none/\i0.get b0.n=l0.get b0.n):=by
    intro x mm F y4 r4 u0 o0;refine aj zq ((u0 m1.n ac).trans u4) rfl rfl rfl λd1 A4 w1 y0=>?_;refine aj Gx ((y0 m2.n ac).trans ((u0 m2.n ac).trans w4)) rfl rfl rfl λi0 B4 y1 A0=>?_;refine⟨o0,be,ac,trivial,x,?_,by rw[A0 _ ac];exact w1,y1,?_⟩;·unfold Bp;apply sL e4 h3;unfold Ke;rw[ea,eb];apply sL l4 (λj hj=>q3 j hj);rw[er,es];exact y4
    ·rw[A0 _ ac,y0 _ ac,u0 _ ac,Q0 _ ac,u1 _ ac,h0.get _ ac]
   refine af (λh=>?_) (λh=>?_);·have h:=Ds h;rw[bY tt,ae,bY tf,ae];refine aj fQ tf rfl rfl rfl λi6 O4 A1 B1=>?_;refine aj fQ ((B1 O0.n ac).trans tt) rfl rfl rfl λB3 R4 G1 H1=>?_;rw[bY (p:=NW pa pb pr ps) (by rw[H1 _ ac];exact A1),ae,bY (p:=rD pa pb pr ps) G1,ae,oD,ae];exact fin (NW pa pb pr ps,rD pa pb pr ps) B3 (λa b=>min (min (min (min (min r0 e0.n) n0.n) O0.n) a) b) (by unfold wk;rw[MO p0,MO w3,QL h]) ac be ac
   ·have h:=LL h;rw[bY tf,ae,bY tt,ae,oD,ae];exact fin (rD pa pb pr ps,NW pa pb pr ps) e0 (λa b=>min (min (min r0 e0.n) a) b) (by unfold wk;rw[MO p0,MO w3,MO h]) rfl (λ_ _=>rfl) ac
  ·rintro mm ja ⟨q1,q2,q3⟩ o0;refine⟨ac,λc W4 a5 K1=>?_,ac,be,λj hj=>?_⟩;rcases K1 with rfl|h;rw[q2 _ ac,h0.get _ ac];exact h.elim;by_cases e:j=i;subst e;unfold Ke;rw[ea,eb];rw[ur]at q3;exact uN q3;exact h3 j ac
  ·rintro e mm ja b5 ⟨q0,rfl,x,q1,q2,q3,q4⟩ o0;refine⟨_,PY.2 rfl,rfl,?_⟩;dsimp only;refine⟨ac,λc W4 a5 K1=>?_,rfl,x,q1,q2,q3⟩;rcases K1 with rfl|h;exact q4;exact h.elim
 ·rintro mm ja ⟨h1,h2,h3⟩ o0;rw[ur]at h3;have e':oM a b=none:=(by rw[e];unfold Bp;exact uN h3);rw[tg,ae];refine aj zq ((h2 m1.n ac).trans k1) rfl rfl rfl λj6 c5 O1 T1=>?_;refine aj Gx ((T1 m2.n ac).trans ((h2 m2.n ac).trans k2)) rfl rfl rfl λk6 d5 a2 b2=>?_;refine Bo (o:=none) (b:=false) (by rw[b2 _ ac];exact O1) a2 ⟨by rw[e'];rfl,ac⟩
 rintro e2 mm ja b5 ⟨rfl,x,q1,q2,q3⟩ o0;refine⟨_,PY.2 rfl,rfl,?_⟩;dsimp only;have e':oM a b=some x:=be;refine Bo (o:=some x) (b:=true) q2 q3 ⟨by rw[e'];rfl,ac⟩
section
set_option maxRecDepth 100000
set_option maxHeartbeats 0
abbrev abS{W:Words}{x0 x1:Φ}{m:M}:=cN (P:=dC TE W Tryz.f9 [x0,x1] m R)
def F181{W:Words}{x0:Φ}{m:M}:=cN (P:=dC TE W f181 [x0] m R)
abbrev F229{W:Words}{x0 x1 x2:Φ}{m:M}:=cN (P:=dC TE W f229 [x0,x1,x2] m R)
end
def Dv:Option Ct->Ω
 |some x=>x.c'
 |none=>Ct.zc
def eR(o:Option Ct):(Dv o).length=8:=by cases o <;>rfl
def nn(o:Option Ct):(Dv o).all one:=by cases o <;>rfl
def pD{F:Nat}{cs:Ω}{o:Option Ct}(h0:mm.get F=.cells cs 50 g)(hl:cs.length=8){P:Φ->M->Nat->Prop}(hP:∀m',m'.n=mm.n->P (.agg (Dv o).toArray) m' F):
  dh (bh TE mm 50 (Ψ F 0) (.agg (Dv o).toArray)) λm' b=>aS (aC TE m' 50 (Ψ F 0)) λv=>P v m' b:=by refine aj uC h0 (by rw[bd];show(Dv o).length=8;exact eR o) (by rw[bd,hl];exact eR o) (by rw[bd];exact nn o) λm' hn hg hk=>?_;rw[bd]at hg;have hg:m'.get F=.cells (Dv o) 50 g:=hg;rw[KK,aI hg (by rw[eR];exact Aj _)];have e:((Dv o).drop 0).take 8=Dv o:=(by rw[NJ,Vq (by rw[eR];exact Aj _)]);rw[e];show aS (some (Value.agg (Dv o).toArray)) _;rw[ae];grind
def nK:bz TE 50 []=some (.agg (Dv none).toArray):=bv
def xR{a b x y:Int}:bz TE 50 [(0,.int .i64 a),(1,.int .i64 b),(2,.agg (pT p q).toArray),(3,.int .i64 x),(4,.int .i64 y)]=some (.agg (Dv (some ⟨a,b,p,q,x,y⟩)).toArray):=bv
def iH(o:Option (Pl×Pl)):(ki o).length=4:=by cases o <;>rfl
def yw(o:Option (Pl×Pl)):(ki o).all one:=by cases o <;>rfl
def Vn{a b:Un}(h:mD a b):jD a/\jD b:=by unfold mD at h;grind
theorem tG(hX:cy X)(hS:C1 X){a b:Un}{va vb:Φ}(ha:Sl m a.shape va)(hb:Sl m b.shape vb)(la:a.shape.length<1000000)(lb:b.shape.length<1000000):
  C X (.func 9) [a.v va,b.v vb] m m.n (.tuple #[.agg (Dv (oY a b)).toArray,.bool (oY a b).isSome]) m:=by refine Cl.flat (hX.no _ rfl) (Us func9) rfl (by cases oY a b <;>rfl) ?_;rw[abS];dsimp only[aG];refine ah λm1 r0 j0 s0=>?_;refine ah λm2 u0 k0 y0=>?_;refine ah λm3 A0 l0 B0=>?_;simp only[bd]at j0 k0;have e0:Ext m m3:=⟨ac,be⟩;have g1:m3.get m.n=.cells (a.c va) 43 none:=be;have g2:m3.get m1.n=.cells (b.c vb) 43 none:=be;have g3:m3.get m2.n=.cells Ct.zc 50 none:=l0;obtain⟨a0, -, -,a3,a4,a5⟩:=ji g1;obtain⟨b0, -, -,b3,b4,b5⟩:=ji g2;have g0:=ha.ak e0;have h0:=hb.ak e0;unfold ptrTo;rw[bQ g1,ae,bQ g2,ae];apply aw (zo (m:=m3) hX g0 h0 ac ac);rw[aD,aD,aD];simp only[LB,IM,ae];rw[bB,ae,ag];refine af (λh=>?_) (λh=>?_);have h:mD a b=false:=be;have e:oY a b=none:=(by unfold oY;rw[MO be]);rw[nK,ae];refine pD g3 rfl λm' hn=>?_;rw[e];exact⟨rfl,ac⟩;have h:mD a b:=be;have O0:=Vn h;have e:oY a b=(oM a.shape b.shape).map λs=>⟨a.id,b.id,s.1,s.2,max a.back b.back,min a.front b.front⟩:=(by unfold oY;rw[QL h]);rw[bA,ae,a3,ae,bA,ae,b3,ae];apply aw (abv hX hS g0 h0 la lb);rw[aD,aD];simp only[LB,IM,ae];refine ah λP0 n0 i0 o0=>?_;refine aj zq i0 (by rw[bd];exact iH _) (by rw[bd];exact iH _) (by rw[bd];exact yw _) λd0 p0 F q0=>?_;rw[bd]at F;have F:d0.get m3.n=.cells (ki (oM a.shape b.shape)) 48 none:=F;have Q0:∀c,c<m3.n->d0.get c=m3.get c:=be;have r3:d0.get m2.n=.cells Ct.zc 50 none:=be;rw[bB,ae,ag];cases hs:oM a.shape b.shape with|none=>show lI true _ _;rw[bN,nK,ae];refine pD r3 rfl λm' hn=>?_;rw[e,hs];exact⟨rfl,ac⟩|some s=>show lI false _ _;rw[aT];have r1:d0.get m.n=.cells (a.c va) 43 none:=be;have r2:d0.get m1.n=.cells (b.c vb) 43 none:=be;rw[hs]at F;rw[aW,ae,(ji r1).1,ae,aW,ae,(ji r2).1,ae];rw[show aC TE d0 48 (Ψ m3.n 0)=some (.agg (pT s.1 s.2).toArray) by rw[wT,aI F (by rw[iH];exact Aj _)];rfl,ae,xR,ae];refine pD r3 rfl λm' hn=>?_;rw[e,hs];exact⟨rfl,ac⟩
theorem _root_.Go.D.Sl.JR{l:List Int}{v:Φ}(h:Sl m l v){i:Nat}{n:Int}(hi:l[i]?=some n){k:IntKind}:∃a,aE TE 116 v (.int k i)=some a/\aC TE m 3 a=some (ν n):=by have⟨a,cs,h1,F,h3⟩:=h.index mX (k:=k) hi;rw[show cs=[ν n]from h3]at F;exact⟨a,h1,F⟩
theorem _root_.Go.D.vT.JR{l:List Int}{v:Φ}(h:vT m l v){i:Nat}{n:Int}(hi:l[i]?=some n){k:IntKind}:∃a,aE TE 116 v (.int k i)=some a/\aC TE m 3 a=some (ν n):=by have⟨a,cs,h1,F,h3⟩:=h.index mX (k:=k) hi;rw[show cs=[ν n]from h3]at F;exact⟨a,h1,F⟩
def Jd{α:Type}{l F:List α}(hl:l.length=F.length)(h:∀j x y,j<l.length->l[j]?=some x->F[j]?=some y->x=y):l=F:=by refine Zk λi=>?_;grind
def Qw:bE TE .neq 46 p.v q.v=some (.bool (!(decide (p=q)))):=by have e:bE TE .neq 46 p.v q.v=(eq? TE 46 p.v q.v).map (λb=> .bool (!b)):=bv;rw[e,Wb];rfl
def abq{a b:Int}:bz TE 103 [(0,.int .i64 a),(1,.int .i64 b)]=some (Fc.mk a b).v:=bv
def acb{x:Fc}:aO TE m 34 1 [(0,x.v)]=some (.slice (some ⟨m.n,0,none⟩) 1 1,m.push (.cells x.c 103 none)):=bv
def En(hX:cy X){n1 F uo:Nat}{u:Un}{w r x0:Φ}{acc:List Fc}{ss:List Int}(l0:m.get F=.cells [r] 34 none)(hu:m.get uo=.cells (u.c w) 43 none)
  (h1:F<n1) (h2:uo<n1) (u0:uo≠F) (hn:n1<=m.n) (hw:Ow n1 m acc r) (hs:Sl m ss x0) (y0:acc.length+ss.length<1000000) (A0:0<ss.length):
  ∃m' b r',C X (.func 229) [x0,Ψ F 0,Ψ uo 0] m b (.tuple #[]) m'/\F<=b/\m'.get F=.cells [r'] 34 none/\Ow n1 m' (acc++ss.map (Fc.mk u.id)) r'/\m.n<=m'.n/\∀c,c<n1->c≠F->m'.get c=m.get c:=by have key:=Cl.heap (E:=TE) (X:=X) (f:=229) (args:=[x0,Ψ F 0,Ψ uo 0]) (m:=m) (R:=λv' m' b=>v'=.tuple #[]/\F<=b/\∃r',m'.get F=.cells [r'] 34 none/\Ow n1 m' (acc++ss.map (Fc.mk u.id)) r'/\m.n<=m'.n/\∀c,c<n1->c≠F->m'.get c=m.get c) (hX.no _ rfl) (Us func229) rfl ?_;obtain⟨v',m',b,hc,rfl,hb,r',k1,k2,k3,k4⟩:=key;exact⟨m',b,r',hc,hb,k1,k2,k3,k4⟩;rw[F229];dsimp only[aG];rw[hs.len mX,an];refine Lp.intro (γ:=Nat) (λi=>ss.length-i) (λi vs mm lo=>vs=[ν i]/\i<=ss.length/\(i=0\/lo<=F)/\F<=lo/\m.n<=mm.n/\Sl mm ss x0/\(∀c,c<n1->c≠F->mm.get c=m.get c)/\∃r',mm.get F=.cells [r'] 34 none/\Ow n1 mm (acc++(ss.take i).map (Fc.mk u.id)) r') 0 ⟨rfl,ZX _,.inl rfl,ac,Aj _,hs,λ_ _ _=>rfl,r,l0,be⟩ ?_;rintro i vs mm lo ⟨rfl,hi,r0,B0,n0,g0,o0,r',hr,e0⟩;rw[av,aK,ae,ag];refine af (λh0=>?_) (λO0=>?_);have h0:i<ss.length:=be;obtain⟨s,i0⟩:∃s,ss[i]?=some s:=⟨_,Np h0⟩;have⟨q,e1,e2⟩:=g0.JR (k:=.i64) i0;have p0:mm.get uo=.cells (u.c w) 43 none:=be;rw[e1,ae,e2,ae,show aC TE mm 34 (Ψ F 0)=some r' by rw[Ft,aH hr];rfl,ae,aW,ae,(ji p0).1,ae,abq,ae,acb,an];obtain⟨m16,b0⟩:∃x,x=mm.push (.cells (Fc.mk u.id s).c 103 none):=⟨_,rfl⟩;rw[<-b0];have d0:Ext mm m16:=(by rw[b0];exact Ext.refl.push);have s0:m16.n=mm.n+1:=(by rw[b0];rfl);have j0:m16.get mm.n=.cells (Fc.mk u.id s).c 103 none:=(by rw[b0];exact M.aU);have k0:=lv (m:=m16) (x:=Fc.mk u.id s) j0 rfl;obtain⟨r2,m18,m19,a1,a2,a3,a4,a5,a6,a7,a8⟩:=PZ (T:=34) F2 rfl Pg rfl (m:=mm) (m1:=m16) (x:=Fc.mk u.id s) hr (o:=0) rfl h1 ac e0 d0 k0 be;rw[a1,an,a2,an,aL,ae,wrap64];refine⟨i+1,ac,rfl,ac,.inr ac,ac,ac,?_,be,r2,a4,?_⟩;refine(g0.ak d0).aY λb c t g hb ht=>?_;have ht:t=3:=PY.1 ht;subst ht;rw[a8 b (M.aP hb) (λe=>?_) (λcs g' h'=>?_),hb];rw[e,d0.cells hr]at hb;cases hb;rw[h']at hb;cases hb;rw[Tv,i0];simp only[OR,Xj,Cx,ND];rw[<-ZA];exact a5;have q0:i=ss.length:=(by have:¬(i:Int)< (ss.length:Int):=be;omega);subst q0;rw[Nl]at e0;exact⟨.inr ac,rfl,ac,r',hr,e0,n0,o0⟩
def pC(u:Un):List Fc:=if jD u then(List.range u.shape.length).map (λi=>Fc.mk u.id (i:Nat))++ [⟨u.id, -1⟩,⟨u.id, -2⟩]else []
def Sc(hX:cy X){u:Un}{w:Φ}(ha:Sl m u.shape w)(la:u.shape.length<1000000):
  ∃m' v,C X (.func 181) [u.v w] m m.n v m'/\Ext m m'/\Ow m.n m' (pC u) v:=by refine Cl.ky hX (Us func181) (R:=λv' m'=>Ext m m'/\Ow m.n m' (pC u) v') ?_ λv' m' hc ⟨hx,hw⟩=>⟨m',v',hc,hx,hw⟩;rw[F181];dsimp only[aG];refine ah λm1 b1 j0 c1=>?_;simp only[bd]at j0;have k0:Ext m m1:=⟨ac,be⟩;have g1:m1.get m.n=.cells (u.c w) 43 none:=j0;have l0:=ha.ak k0;unfold ptrTo;rw[bQ g1,ae];apply aw (lg hX l0 ac);rw[bB,ae,ag];refine af (λh=>?_) (λh=>?_);have h:jD u=false:=be;refine .inl ⟨rfl,ac,rfl,.refl,?_⟩;unfold pC;rw[MO be];exact Ow.nil;have h:jD u:=be;have h8:=lS h;refine ah λm7 d1 y0 A0=>?_;have i0:Ext m1 m7:=⟨ac,A0⟩;have g7:m7.get m.n=.cells (u.c w) 43 none:=i0.cells g1;rw[bA,ae,(ji g7).2.2.2.1,ae,(l0.ak i0).len cR,an];refine Lp.intro (γ:=Nat) (λi=>u.shape.length-i) (λi vs F lo=>vs=[ν i]/\i<=u.shape.length/\m.n<=lo/\m7.n<=F.n/\(∀c,c<m7.n->c≠m1.n->F.get c=m7.get c)/\∃r',F.get m1.n=.cells [r'] 34 none/\Ow m7.n F ((List.range i).map λi=>Fc.mk u.id (i:Nat)) r') 0 ⟨rfl,ZX _,ac,Aj _,λ_ _ _=>rfl,_,y0,Ow.nil⟩ ?_;rintro i vs F lo ⟨rfl,hi,e1,h1,n0,r',hr,o0⟩;have p0:F.get m.n=.cells (u.c w) 43 none:=be;rw[av,aK,ae,ag];refine af (λB0=>?_) (λi1=>?_);have B0:i<u.shape.length:=be;rw[Ub,an];obtain⟨m19,b0⟩:∃x,x=F.push (.cells [.int .i64 (i:Int)] 3 none):=⟨_,rfl⟩;rw[<-b0];have d0:Ext F m19:=(by rw[b0];exact Ext.refl.push);have Q0:m19.n=F.n+1:=(by rw[b0];rfl);have q0:m19.get F.n=.cells [ν (i:Int)] 3 none:=(by rw[b0];exact M.aU);obtain⟨m21,j1,r2,hc,hb,q1,q2,q3,q4⟩:=En (m:=m19) hX (n1:=m7.n) (ss:=[(i:Int)]) (d0.cells hr) (d0.cells p0) ac ac ac ac (o0.ak d0) (aax q0) be co;apply aw hc;rw[aL,ae,wrap64];refine⟨i+1,ac,rfl,ac,ac,ac,λc r0 s0=>by rw[q4 c r0 s0,d0.get c ac,n0 c r0 s0],r2,q1,?_⟩;rw[ZH,Xj];exact q2;have O0:i=u.shape.length:=(by have:¬(i:Int)< (u.shape.length:Int):=be;omega);subst O0;rw[V3,an];obtain⟨h0,e0⟩:∃x,x=F.push (.cells [.int .i64 (-1),.int .i64 (-2)] 3 none):=⟨_,rfl⟩;rw[<-e0];have g0:Ext F h0:=(by rw[e0];exact Ext.refl.push);have a1:h0.n=F.n+1:=(by rw[e0];rfl);have u0:h0.get F.n=.cells [ν (-1),ν (-2)] 3 none:=(by rw[e0];exact M.aU);obtain⟨P0,k1,r2,hc,hb,q1,q2,q3,q4⟩:=En (m:=h0) hX (n1:=m7.n) (ss:=[-1, -2]) (g0.cells hr) (g0.cells p0) ac ac ac ac (o0.ak g0) (GJ u0) be co;apply aw hc;rw[show aC TE P0 34 (Ψ m1.n 0)=some r2 by rw[Ft,aH q1];rfl,ae];refine .inr ⟨.inl (q2.flat co),ac,⟨ac,λc hc=>by rw[q4 c ac ac,g0.get c ac,n0 c ac ac,i0.get c ac,k0.get c hc]⟩,?_⟩;unfold pC;rw[QL h];exact q2.mono ac
def Fo{x:Ct}(h:m.get b=.cells x.c' 50 g):aC TE m 50 (Ψ b 0)=some x.v:=by rw[KK,aI (o:=0) (n:=8) h dg];rfl
def I2{x:Ct}:aO TE m 117 1 [(0,x.v)]=some (.slice (some ⟨m.n,0,none⟩) 1 1,m.push (.cells x.c' 50 none)):=bv
section
set_option maxRecDepth 100000
set_option maxHeartbeats 0
variable{W:Words}{x0 x1 x2:Φ}{m:M}{R:Ω->M->Nat->Prop}
def F210:=cN (P:=dC TE W f210 [x0,x1,x2] m R)
def F211:=cN (P:=dC TE W f211 [x0] m R)
def F162:=cN (P:=dC TE W f162 [x0] m R)
def F118:=cN (P:=dC TE W f118 [x0] m R)
def F63:=cN (P:=dC TE W f63 [x0] m R)
def F72:=cN (P:=dC TE W f72 [x0,x1] m R)
def F73:=cN (P:=dC TE W f73 [x0,x1] m R)
def F26:=cN (P:=dC TE W f26 [x0] m R)
end
def qc(hX:cy X)(n lo hi:Int):C X (.func 210) [ν n,ν lo,ν hi] m m.n (.bool (di n lo hi)) m:=by apply Cl.fl hX (Us func210);rw[F210];dsimp only[aG];refine aX (λvs m2 F=>vs=[.bool (di n lo hi)]/\m.n<=F) (λR hR=>?_) ?_;simp only[cO,ae,ag];refine af (λh=>hR _ _ _ ⟨by simp[di,h],Aj _⟩) (λh=>hR _ _ _ ⟨by simp[di,h],Aj _⟩);rintro _ m2 F ⟨rfl,hl⟩;rw[av];exact⟨rfl,hl⟩
def Ef(F:cy X)(n:Int):C X (.func 211) [ν n] m m.n (.bool (di n 0 99)) m:=by apply Cl.fl F (Us func211);rw[F211];dsimp only[aG];apply aw (qc F _ _ _);exact⟨rfl,ac⟩
def wP(h:m.get b=.cells x.c 68 g):
  aC TE m 3 (Ψ b (0+0))=some (ν x.id)/\aC TE m 3 (Ψ b (0+1))=some (ν x.un)/\aC TE m 3 (Ψ b (0+2))=some (ν x.side)/\
  aC TE m 3 (Ψ b (0+3))=some (ν x.kind)/\aC TE m 68 (Ψ b 0)=some x.v:=by refine⟨?_,?_,?_,?_,?_⟩;rw[bR,aH h];rfl;rw[bR,aH h];rfl;rw[bR,aH h];rfl;rw[bR,aH h];rfl;rw[Fs,aI (o:=0) (n:=5) h be];rfl
def ye(x:Mk):Bool:=di x.id 0 99 && di x.un 0 99 && di x.side (-2) 7 && di x.kind 1 5
def yP(F:cy X)(x:Mk):C X (.func 162) [x.v] m m.n (.bool (ye x)) m:=by apply Cl.fl F (Us func162);rw[F162];dsimp only[aG];refine ah λm1 e0 d0 g0=>?_;have g1:m1.get m.n=.cells x.c 68 none:=d0;obtain⟨k0,k1,k2,k3, -⟩:=wP g1;unfold ptrTo;refine aX (λvs m2 b0=>vs=[.bool (ye x)]/\m.n<=b0) (λR hR=>?_) ?_;rw[bS,ae,k0,ae];apply aw (qc F _ _ _);rw[ag];refine af (λh0=>?_) (λh0=>hR _ _ _ ⟨by unfold ye;rw[h0];rfl,ac⟩);rw[dk,ae,k1,ae];apply aw (Ef F _);rw[ag];refine af (λh1=>?_) (λh1=>hR _ _ _ ⟨by unfold ye;rw[h0,h1];rfl,ac⟩);rw[eK,ae,k2,ae];apply aw (qc F _ _ _);rw[ag];refine af (λh2=>?_) (λh2=>hR _ _ _ ⟨by unfold ye;rw[h0,h1,h2];rfl,ac⟩);rw[kL,ae,k3,ae];apply aw (qc F _ _ _);exact hR _ _ _ ⟨by unfold ye;rw[h0,h1,h2];rfl,ac⟩;rintro _ m2 b0 ⟨rfl,hl⟩;rw[av];exact⟨rfl,hl⟩
structure fE(us:List Un)(ms:List Mk):Prop where
 len:ms.length<=20
 zg:ms.Pairwise λa b=>a.id < b.id
 ok:∀x∈ms,ye x=true
 un:∀x∈ms,∃u∈us,u.id=x.un/\x.side < u.shape.length
theorem _root_.Go.D.Sl.tx{l:List Mk}{v:Φ}(h:Sl m l v){i:Nat}{x:Mk}(hi:l[i]?=some x){k:IntKind}:∃a,aE TE 30 v (.int k i)=some a/\aC TE m 68 a=some x.v:=by have⟨a,cs,h1,h2,F⟩:=h.index cS (k:=k) hi;have F:cs=x.c:=F;subst F;exact⟨a,h1,h2⟩
def qb(ms:List Mk):Nat->Int
 |0=> -1
 |i+1=>match ms[i]? with |some x=>x.id |none=> -1
def MQ(hX:cy X){l:List UW}{v vm:Φ}{ms:List Mk}(h:cC m l v)(hP:cq (bH l))(hm:Sl m ms vm)(hM:fE (bH l) ms):C X (.func 118) [.agg #[v,vm]] m m.n WB m:=by have A1:=hM.len;apply Cl.fl hX (Us func118);rw[F118];dsimp only[aG];refine ah λm1 B1 P0 Q0=>?_;have g1:m1.get m.n=.cells [v,vm] 32 none:=P0;have g0:Ext m m1:=⟨ac,Q0⟩;unfold ptrTo;have p0:∀mm:M,mm.get m.n=.cells [v,vm] 32 none->aC TE mm 30 (Ψ m.n (0+1))=some vm:=λmm hh=>(by rw[kz,aH hh];rfl);have a1:∀mm:M,mm.get m.n=.cells [v,vm] 32 none->aC TE mm 29 (Ψ m.n (0+0))=some (.agg #[v]):=λmm hh=>(by rw[cY,aI (n:=1) hh (by show 0+0+1<=2;decide)];rfl);rw[bI,ae,p0 m1 g1,ae,(hm.ak g0).len cS,an];refine Lp.intro (γ:=Nat) (λi=>ms.length-i) (λi vs mm lo=>vs=[L4,ν (qb ms i),ν i]/\i<=ms.length/\Ext m1 mm/\m.n<=lo) 0 ⟨rfl,ZX _,.refl,Aj _⟩ ?_;rintro i vs mm lo ⟨rfl,hi,hx,b1⟩;rw[av,av,av,aK,ae,ag];have G1:=hx.n;refine af (λj0=>?_) (λH1=>?_);have j0:i<ms.length:=be;obtain⟨x,h0⟩:∃a,ms[i]?=some a:=⟨_,Np j0⟩;have k0:=Jc h0;have⟨u,hu,hid,c1⟩:=hM.un x k0;have d1:cp (bH l) x.un=some u:=(by have⟨j,hj⟩:=RL hu;rw[<-hid];exact om hP hj);have⟨q,e1,e2⟩:=((hm.ak g0).ak hx).tx (k:=.i64) h0;rw[e1,ae,e2,ae];refine ah λm18 k1 q0 l1=>?_;refine aj rA q0 rfl rfl rfl λm19 o1 r0 p1=>?_;have b0:Ext mm m19:=⟨ac,be⟩;have i0:m19.get mm.n=.cells x.c 68 none:=r0;have s0:=b0.cells (hx.cells g1);rw[bP,ae,a1 m19 s0,ae,dk,ae,(wP i0).2.1,ae];have⟨ov,u0,hc,d0,y0⟩:=K8 (m:=m19) hX (h.ak ((g0.trans hx).trans b0)) hP x.un;apply aw hc;rw[d1]at y0⊢;obtain⟨w,rfl,hw⟩:=y0;rw[aD,aD];simp only[LB,IM,ae];refine ah λK1 r1 A0 u1=>?_;refine aj dN A0 rfl rfl (Un.dt hw.one) λl0 v1 B0 w1=>?_;have e0:Ext u0 l0:=⟨ac,be⟩;have O0:l0.get u0.n=.cells (u.c w) 43 none:=B0;have F:=e0.cells (d0.cells i0);have i1:=d0.n;refine aX (λvs m' lo=>vs=[L4]/\m'=l0/\m.n<=lo) (λR hR=>?_) ?_;rw[bB,ae,ag];show lI false _ _;rw[aT,(wP F).2.2.2.2,ae];apply aw (yP hX x);rw[hM.ok x k0,bB,ae,ag];show lI false _ _;rw[aT,bS,ae,(wP F).1,ae,cO,ae,ag];have n0:¬x.id<=qb ms i:=(by cases i with|zero=>have:=hM.ok x k0;unfold ye di at this;simp only[IG,Mj]at this;show¬x.id<= -1;omega|succ j=>obtain⟨y,hy⟩:∃a,ms[j]?=some a:=⟨_,vW⟩;have e:qb ms (j+1)=y.id:=(by show(match ms[j]? with|some x=>x.id|none=> -1)=y.id;rw[hy]);rw[e];have h1:=(Vc.1 hy);have h2:=(Vc.1 h0);have:=GU.1 hM.zg j (j+1) ac j0 ac;rw[h1.2,h2.2]at this;omega);rw[Qr n0,aT,eK,ae,(wP F).2.2.1,ae,bA,ae,(ji O0).2.2.2.1,ae,(hw.ak e0).len cR,an,cZ,ae];exact hR _ _ _ ⟨be,rfl,ac⟩;rintro _ O1 y1 ⟨rfl,rfl,o0⟩;rw[av,ag,aT,bS,ae,(wP F).1,ae,aL,ae,wrap64];exact⟨i+1,ac,by simp[qb,h0],ac,((hx.trans b0).trans d0).trans e0,o0⟩;have j1:i=ms.length:=(by have:¬(i:Int)< (ms.length:Int):=be;omega);subst j1;rw[ae,p0 mm (hx.cells g1),ae,((hm.ak g0).ak hx).len cS,an,cO,ae];refine⟨?_,b1⟩;rw[dto];rfl
def zf(hX:cy X){l:List UW}{v vm:Φ}{ms:List Mk}(h:cC m l v)(hP:cq (bH l))(hm:Sl m ms vm)(hM:fE (bH l) ms):C X (.func 63) [.agg #[v,vm]] m m.n WB m:=by have hlen:l.length<=12:=(by have:=hP.len;rw[cE]at this;exact this);apply Cl.fl hX (Us func63);rw[F63];dsimp only[aG];refine ah λm1 g0 b0 d0=>?_;have g1:m1.get m.n=.cells [v,vm] 32 none:=b0;have F:Ext m m1:=⟨ac,d0⟩;unfold ptrTo;refine aX (λvs m' lo=>vs=[WB]/\m.n<=lo) (λR hR=>?_) ?_;rw[bP,ae,show aC TE m1 29 (Ψ m.n (0+0))=some (.agg #[v]) by rw[cY,aI (n:=1) g1 (by show 0+0+1<=2;decide)];rfl,ae];apply aw (um hX (h.ak F) ac);rw[eQ hP,ag,bN,show aC TE m1 32 (Ψ m.n 0)=some (.agg #[v,vm]) by rw[oQ,aI (n:=2) g1 (by show 0+2<=2;decide)];rfl,ae];apply aw (MQ hX (h.ak F) hP (hm.ak F) hM);exact hR _ _ _ ⟨rfl,ac⟩;rintro _ m' lo ⟨rfl,e0⟩;rw[av];exact⟨rfl,e0⟩
def pY(F:cy X){c n:Int}(hc:pI c)(hn:0<n):C X (.func 72) [ν c,ν n] m m.n (ν (gL c n)) m:=by apply Cl.fl F (Us func72);rw[F72];dsimp only[aG];exact tS hc hn (P:=λv=>aM [v]=ν (gL c n)/\m.n<=m.n) ⟨rfl,Aj _⟩
structure I4 where
 a:Int
 b:Int
 c:Int
 d:Int
def I4.c'(x:I4):Ω:=[.int .i64 x.a,.int .i64 x.b,.int .i64 x.c,.int .i64 x.d]
def I4.ok(x:I4):Prop:=pI x.a/\pI x.b/\pI x.c/\pI x.d
instance:aQ I4 where
 ty:=157
 sz:=4
 agg:=true
 dU:=[]
 rep _ x cs:=cs=x.c'
 pos:=ce
 one:=be
 len:=by rintro _ _ _ rfl;rfl
 iL:=by rintro _ _ _ rfl;rfl
 aY:=be
def Px:rp TE 23 157 I4:=⟨ai.t23,ai.t157,bv,⟨_,rfl⟩,rfl,bv,rfl,rfl⟩
def i4_at{l:List I4}{v:Φ}(h:vT m l v){i:Nat}{x:I4}(hx:l[i]?=some x):∃p,aE TE 23 v (ν i)=some p/\aC TE m 157 p=some (.agg x.c'.toArray):=by have⟨p,cs,e1,e2,F⟩:=h.index Px (k:=.i64) hx;have F:cs=x.c':=F;subst F;exact⟨p,e1,e2⟩
def UR{o:Nat}{k:IntKind}(hi:i<4):aE TE 157 (Ψ b o) (.int k i)=some (Ψ b (o+i)):=by rcases(show i=0\/i=1\/i=2\/i=3 by omega)with rfl|rfl|rfl|rfl <;>kernel_rfl
def nj(ms:List Mk)(x:Mk):List Mk:=(ms.filter λy=>decide (y.id < x.id))++x::(ms.filter λy=>decide (x.id < y.id))
def me(ms:List Mk)(x:Mk):List Mk:=(ms.filter λy=>decide (y.id < x.id))++(if(ms.filter λy=>decide (x.id < y.id))=[]then []else x::(ms.filter λy=>decide (x.id < y.id)))
def Gb{y:Mk}(b0:y.id≠x.id)(F:∀z∈ms,z.id<y.id):
  me (ms++ [y]) x=if(ms.filter λz=>decide (x.id<z.id))=[]/\x.id<y.id then me ms x++ [x]++ [y]else me ms x++ [y]:=by unfold me;rw[OP,OP];by_cases h:x.id<y.id;have h2:¬y.id<x.id:=ac;simp_all;have h2:y.id<x.id:=ac;have he:(ms.filter λz=>decide (x.id<z.id))=[]:=(by rw[JQ];grind);grind
def adM(ms:List Mk)(x:Mk):(me ms x).length<=ms.length+1:=by unfold me;have:(ms.filter λy=>decide (y.id<x.id)).length+(ms.filter λy=>decide (x.id<y.id)).length<=ms.length:=(by induction ms with|nil=>simp|cons a r F=>grind);grind
def UD{ms:List Mk}{x:Mk}:nj ms x=if(ms.filter λy=>decide (x.id<y.id))=[]then me ms x++ [x]else me ms x:=by unfold nj me;grind
def wZ(ms:List Mk)(x:Mk):(nj ms x).length<=ms.length+1:=by have:(ms.filter λy=>decide (y.id<x.id)).length+(ms.filter λy=>decide (x.id<y.id)).length<=ms.length:=(by induction ms with|nil=>simp|cons a r F=>grind);unfold nj;grind
def aaY(h:fE us ms)(hl:ms.length<20)(hx:ye x)(hu:∃u∈us,u.id=x.un/\x.side<u.shape.length):fE us (nj ms x):=by have hm:∀y∈nj ms x,y=x\/y∈ms:=(by intro y F;unfold nj at F;grind);refine⟨by have:=wZ ms x;omega,?_,λy F=>?_,λy F=>?_⟩;unfold nj;rw[OE,PU];refine⟨h.zg.filter _,⟨be,h.zg.filter _⟩,λa ha b hb=>?_⟩;grind;rcases hm y F with rfl|F;exact hx;exact h.ok y F;rcases hm y F with rfl|F;exact hu;exact h.un y F
def Qm:aO TE m 30 1 [(0,x.v)]=some (.slice (some ⟨m.n,0,none⟩) 1 1,m.push (.cells x.c 68 none)):=bv
def push_mk{acc:List Mk}{r:Φ}(hw:Ow n1 m acc r)(hn:n1<=m.n)(e0:acc.length<1000){P:M->Φ->Prop}
  (hP:∀r' m2,Ow n1 m2 (acc++ [x]) r'->m.n<=m2.n->(∀c,c<n1->m2.get c=m.get c)->n1<=m2.low->P m2 r'):
  dh (aO TE m 30 1 [(0,x.v)]) λa m1=>dh (aR TE (M.wl m1 (M.n m1)) .append [30,30] [r,a]) λr' m2=>P m2 r':=by rw[Qm,an];obtain⟨m1,F⟩:∃y,y=m.push (.cells x.c 68 none):=⟨_,rfl⟩;rw[<-F];have b0:Ext m m1:=(by rw[F];exact Ext.refl.push);have g0:m1.n=m.n+1:=(by rw[F];rfl);have d0:m1.get m.n=.cells x.c 68 none:=(by rw[F];exact M.aU);obtain⟨r',m2,e1,h1,h2,h3,h4⟩:=(hw.ak b0).append tz (by simp[aQ.dU]) (lv d0 rfl) ac be;rw[e1,an];exact hP r' m2 h1 (by have:=h2.n;omega) (λc hc=>by rw[h2.get c hc,b0.get c ac]) h3
def EF(hX:cy X){ms:List Mk}{vm:Φ}{x:Mk}(hm:Sl m ms vm)(c1:ms.Pairwise λa b=>a.id<b.id)(hl:ms.length<=20):
  ∃m' r b,C X (.func 73) [vm,x.v] m m.n (.tuple #[r,.bool b]) m'/\Ext m m'/\((b=false/\r=LF/\(ms.any λy=>decide (y.id=x.id)))\/(b/\(ms.any λy=>decide (y.id=x.id))=false/\Ow m.n m' (nj ms x) r)):=by
 have key:=Cl.gen (E:=TE) (X:=X) (f:=73) (args:=[vm,x.v]) (m:=m) (R:=λv' m' b=>b=m.n/\Ext m m'/\∃r b,v'=.tuple #[r,.bool b]/\((b=false/\r=LF/\(ms.any λy=>decide (y.id=x.id)))\/(b/\(ms.any λy=>decide (y.id=x.id))=false/\Ow m.n m' (nj ms x) r))) (hX.no _ rfl) (Us func73) rfl ?_;obtain⟨v',m',b,hc,rfl,hx,r,b',rfl,h⟩:=key;exact⟨m',r,b',hc,hx,h⟩;rw[F73];dsimp only[aG];refine ah λm1 d2 v1 w1=>?_;have g1:m1.get m.n=.cells x.c 68 none:=v1;have u0:Ext m m1:=⟨ac,w1⟩;unfold ptrTo;refine Lp.intro (γ:=Nat) (λi=>ms.length-i) (λi vs mm lo=>∃r,vs=[LF,L4,r,.bool (!decide (((ms.take i).filter λy=>decide (x.id<y.id))=[])),ν i]/\i<=ms.length/\m1.n<=mm.n/\(∀c,c<m1.n->mm.get c=m1.get c)/\m.n<=lo/\Ow m1.n mm (me (ms.take i) x) r/\∀y∈ms.take i,y.id≠x.id) 0 ⟨_,rfl,ZX _,Aj _,λ_ _=>rfl,Aj _,Ow.nil,λy hy=>be⟩ ?_;rintro i vs mm lo ⟨r,rfl,hi,i0,d1,y0,j0,y1⟩;have A0:Sl mm ms vm:=(hm.ak u0).ak ⟨i0,d1⟩;have gx:mm.get m.n=.cells x.c 68 none:=be;rw[av,av,av,av,av,A0.len cS,an,aK,ae,ag];have i1:=adM (ms.take i) x;rw[PK]at i1;refine af (λB0=>?_) (λe2=>?_);have B0:i<ms.length:=be;obtain⟨y,k0⟩:∃a,ms[i]?=some a:=⟨_,Np B0⟩;have⟨b0,o0,bc,g0,cs,e0,j1,O0,_,A1⟩:=A0.jc cS (k:=.i64) k0;have O0:cs=y.c:=O0;subst O0;have P0:∀z∈ms.take i,z.id<y.id:=(by intro z hz;have⟨j,hj⟩:=RL hz;have k1:j<i:=(by grind);rw[TP k1]at hj;have h1:=Vc.1 hj;have h2:=Vc.1 k0;have:=GU.1 c1 j i h1.1 B0 k1;grind);have⟨a0,B1,ly⟩:=A0.tx (k:=.i64) k0;obtain rfl:a0=Ψ b0 o0:=Option.some.inj (B1.symm.trans e0);have hid:bc[o0+0]?=some (ν y.id):=(by rw[A1 0 ce];rfl);have o1:ms.take (i+1)=ms.take i++ [y]:=(by rw[Tv,k0];rfl);rw[e0,ae,bS,ae,show aC TE mm 3 (Ψ b0 (o0+0))=some (ν y.id) by rw[bR,aH j1,hid],ae,bS,ae,(wP gx).1,ae,aJ,ae,ag];refine af (λheq=>?_) (λheq=>?_);exact .inl ⟨rfl,y0,rfl,.refl,_,_,rfl,.inl ⟨rfl,rfl,WC.2 ⟨y,Jc k0,heq⟩⟩⟩;have heq:y.id≠x.id:=LL heq;have d0:=Gb heq P0;rw[<-o1]at d0;refine aX (λvs m' G1=>vs=[.bool (decide (((ms.take i).filter λz=>decide (x.id<z.id))=[]/\x.id<y.id))]/\m'=mm/\m.n<=G1) (λR hR=>?_) ?_;rw[bB,ae,ag,HZ];refine af (λh=>?_) (λh=>?_);have h:=Ds h;rw[ae,bS,ae,show aC TE mm 3 (Ψ b0 (o0+0))=some (ν y.id) by rw[bR,aH j1,hid],ae,ae,(wP gx).1,ae,cz,ae];refine hR _ _ _ ⟨?_,rfl,y0⟩;congr 2;rw[ge];exact⟨λq=>⟨h,q⟩,λq=>q.2⟩;have h:=LL h;refine hR _ _ _ ⟨?_,rfl,y0⟩;rw[Qr λq=>h q.1];rintro _ p1 c2 ⟨rfl,rfl,H1⟩;rw[av,ag];have n0:∀F:M,(∀c,c<m1.n->F.get c=p1.get c)->m1.n<=F.n->aC TE F 68 (Ψ b0 o0)=some y.v:=λF hk Q0=>(by have K1:Sl F ms vm:=(hm.ak u0).ak ⟨Q0,be⟩;have⟨a1,e1,l1⟩:=K1.tx (k:=.i64) k0;grind);have s0:∀z∈ms.take (i+1),z.id≠x.id:=(by grind);refine af (λh=>?_) (λh=>?_);have h:=Ds h;rw[QL h]at d0;rw[(wP gx).2.2.2.2,ae];refine push_mk (x:=x) j0 i0 ac λq0 r0 l0 r1 b1 u1=>?_;rw[ae,n0 r0 b1 ac,ae];refine push_mk (x:=y) l0 ac be λO1 g2 T1 i2 j2 k2=>?_;rw[aL,ae,wrap64];refine⟨i+1,ac,O1,?_,ac,ac,be,ac,?_,s0⟩;rw[o1,OP,Qr be];rfl;rw[d0];exact T1;have h:=LL h;rw[MO h]at d0;rw[ae,n0 p1 (λ_ _=>rfl) i0,ae];refine push_mk (x:=y) j0 i0 ac λq0 r0 l0 r1 b1 u1=>?_;rw[aL,ae,wrap64];refine⟨i+1,ac,q0,?_,ac,ac,λc hc=>be,ac,?_,s0⟩
 have e:decide (((ms.take (i+1)).filter λy=>decide (x.id<y.id))=[])=decide (((ms.take i).filter λy=>decide (x.id<y.id))=[]):=(by simp_all);rw[e];rfl;rw[d0];exact l0;have a2:i=ms.length:=(by grind);subst a2;rw[Nl]at j0 y1⊢;rw[Nl]at i1;have h0:= @UD ms x;have p0:(ms.any λy=>decide (y.id=x.id))=false:=W5.2 λy hy=>be;have fin:∀(F:M) (r':Φ),Ow m1.n F (nj ms x) r'->m1.n<=F.n->(∀c,c<m1.n->F.get c=m1.get c)->aZ (aM [r',WB])=false/\Ext m F/\Ow m.n F (nj ms x) r':=λF r' hw Q0 b2=>(by refine⟨?_,u0.trans ⟨Q0,b2⟩,hw.mono ac⟩;rcases hw with⟨rfl,he⟩|⟨b,cs,rfl,_⟩;unfold nj at he;simp at he;simp[aM,aZ,eC,bO]);rw[bB,ae,ag,HZ];refine af (λh=>?_) (λh=>?_);have h:=Ds h;rw[QL h]at h0;rw[(wP gx).2.2.2.2,ae];refine push_mk (x:=x) j0 i0 ac λq0 r0 l0 r1 b1 u1=>?_;rw[<-h0]at l0;obtain⟨f1,f2,f3⟩:=fin r0 q0 l0 ac (λc hc=>be);exact .inr ⟨.inl f1,ac,f2,_,_,rfl,.inr ⟨rfl,p0,f3⟩⟩;have h:=LL h;rw[MO h]at h0;rw[<-h0]at j0;have⟨f1,f2,f3⟩:=fin mm r j0 i0 d1;exact .inr ⟨.inl f1,ac,f2,_,_,rfl,.inr ⟨rfl,p0,f3⟩⟩
def S0(hX:cy X){ms:List Mk}{vm:Φ}{x:Mk}(hm:Sl m ms vm)(F:ms.Pairwise λa b=>a.id<b.id)(hl:ms.length<=20):
  ∃m' r b,C X (.func 73) [vm,x.v] m m.n (.tuple #[r,.bool b]) m'/\Ext m m'/\(b->Ow m.n m' (nj ms x) r):=by have⟨m',r,b,hc,hx,h⟩:=EF (x:=x) hX hm F hl;grind
section
open Go Go.D Go.ChangeShapes Go.WideShapes Go.ChangeAt Go.RowKit Go.Proofs.Tryz
def ad5:Tryz.prog.underlying 23=some (.slice 157):=bv
def Ww:Tryz.prog.underlying 157=some (.array 4 3):=bv
section
variable {H:Type} {enc:TypeId×Φ->H} {W W':World} {sp:Nat->Bool} {held:Bool} {base:Nat}
def aay:∀fuel cs x,DataW.trod enc Tryz.prog W 0 sp held fuel 157 cs=some x->∃y:I4,y.ok/\(∀m,aQ.rep m y cs)/\∀u∈cs,bO u:=by intro fuel cs x h;obtain⟨l,rfl,hl,F⟩:=KY Ww bv h;match l,hl,F with|[a,b,c,d],_,F=>refine⟨⟨a,b,c,d⟩,⟨F _ co,F _ co,F _ co,F _ co⟩,λm=>rfl,λu hu=>?_⟩;obtain⟨z,_,rfl⟩:=NL.1 hu;rfl
def TO{v:Φ}{d:DataW H}{ps:List MemPlace}(hb:Below W.heap.size W W')(h:DataW.Trod enc Tryz.prog W 0 (λ_=>true) true 25 v d ps)(F:∀x∈ps,x.block<W.heap.size)(sp:Nat->Bool)(hs:∀x∈ps,sp x.block):DataW.Trod enc Tryz.prog W' 0 sp true 25 v d ps:=
 WideElems.Trod_stays laidOut bv (Ds bv) h (λx hx=>hb.same (F x hx)) hs
end
end
section
set_option maxRecDepth 100000
set_option maxHeartbeats 0
variable{W:Words}{x0 x1 x2:Φ}{m:M}{R:Ω->M->Nat->Prop}
def F212:=cN (P:=dC TE W f212 [x0] m R)
def F296:=cN (P:=dC TE W f296 [x0,x1,x2] m R)
def F297:=cN (P:=dC TE W f297 [x0] m R)
def F215:=cN (P:=dC TE W f215 [x0] m R)
def F164:=cN (P:=dC TE W f164 [x0] m R)
def F300:=cN (P:=dC TE W f300 [x0,x1] m R)
def F216:=cN (P:=dC TE W f216 [x0,x1,x2] m R)
def F217:=cN (P:=dC TE W f217 [x0,x1] m R)
def F174:=cN (P:=dC TE W f174 [x0,x1] m R)
def F173:=cN (P:=dC TE W f173 [x0] m R)
def F298:=cN (P:=dC TE W f298 [x0,x1] m R)
def F299:=cN (P:=dC TE W f299 [x0,x1] m R)
def F101:=cN (P:=dC TE W f101 [x0,x1] m R)
def F100:=cN (P:=dC TE W f100 [x0] m R)
def F149:=cN (P:=dC TE W f149 [x0,x1] m R)
def F45:=cN (P:=dC TE W f45 [x0] m R)
def F15:=cN (P:=dC TE W f15 [x0,x1] m R)
end
def Xp(z:Int)(u:Un):Bool:=decide (u.back<=z) && decide (z < u.front)
section
def cq.depth(h:cq us){u:Un}(hu:u∈us):0<=u.back/\u.back<u.front/\u.front<=8:=by have:=h.val u hu;simp only[jD,di,IG,Mj]at this;omega
end
section
def Pl.mv(F dy:Int)(p:Pl):Pl:=⟨p.x+F,p.y+dy⟩
def Un.mv(F dy:Int)(u:Un):Un:={u with shape:=u.shape.map (Pl.mv F dy)}
end
def abW{a b c d:Int}{e:Bool}:bz TE 68 [(0,.int .i64 a),(1,.int .i64 b),(2,.int .i64 c),(3,.int .i64 d),(4,.bool e)]=some (Mk.mk a b c d e).v:=bv
def Lb(mm:M):cC mm [] LF:=⟨.nil,λx F=>(by cases F),λx F=>(by cases F),.inl rfl⟩
def abX{l:List UW}{n c:Nat}(h:cC m l (.slice none n c)):l=[]/\n=0/\c=0:=by rcases h.sl with⟨h1,F⟩|⟨b,o,c,bc,g,F,_⟩;grind;cases F
theorem MS(hX:cy X){xs:List I6}{ks:List I4}{vb vk va:Φ}(hv:vT m xs vb)(w2:∀x∈xs,x.ok)(hlen:xs.length<9223372036854775808)(hk:vT m ks vk)(G1:∀x∈ks,x.ok)(z2:ks.length<9223372036854775808):
  ∃l r ms vm m',C X (.func 26) [.agg #[vb,vk,va]] m m.n (.agg #[r,vm]) m'/\Ext m m'/\cC m' l r/\cq (bH l)/\Sl m' ms vm/\fE (bH l) ms:=by
 have key:∃rv m' b,C X (.func 26) [.agg #[vb,vk,va]] m b rv m'/\b=m.n/\Ext m m'/\∃l r ms vm,rv=.agg #[r,vm]/\cC m' l r/\cq (bH l)/\Sl m' ms vm/\fE (bH l) ms:=(by refine Cl.gen (R:=λrv m' b=>b=m.n/\Ext m m'/\∃l r ms vm,rv=.agg #[r,vm]/\cC m' l r/\cq (bH l)/\Sl m' ms vm/\fE (bH l) ms) (hX.no _ rfl) (Us func26) rfl ?_;rw[F26];dsimp only[aG];refine ah λm1 j4 A2 k4=>?_;refine ah λm2 l4 B2 G2=>?_;have r1:Ext m m2:=⟨ac,be⟩;have g1:m2.get m.n=.cells [vb,vk,va] 25 none:=(by rw[G2 _ ac];exact A2);unfold ptrTo;have M2:∀F:M,F.get m.n=.cells [vb,vk,va] 25 none->aC TE F 22 (Ψ m.n (0+0))=some vb:=λF hh=>(by rw[KM,aH hh];rfl);have H1:∀F:M,F.get m.n=.cells [vb,vk,va] 25 none->aC TE F 23 (Ψ m.n (0+1))=some vk:=λF hh=>(by rw[Uv,aH hh];rfl);rw[sQ,ae,M2 m2 g1,ae];have⟨l,r,m6,O2,K1,hF,hP⟩:=aef (m:=m2) hX (hv.ak r1) w2 hlen;apply aw O2;have m4:=K1.n;have n3:l.length<=12:=(by have:=hP.len;rwa[cE]at this);have or:one r:=hF.sl.one;have cr:=hF.sl.cells;rw[show bz TE 32 [(0,.agg #[r])]=some (.agg #[r,LF]) by rw[CS rfl];rfl,ae];refine ah λm9 n4 P2 o4=>?_;refine aj eH P2 rfl rfl (by show(one r && true)=true;rw[or];rfl) λm10 o3 p0 r3=>?_;have p0:m10.get m6.n=.cells [r,LF] 32 none:=p0;have b1:Ext m6 m10:=⟨ac,be⟩;have A0:Ext m2 m10:=K1.trans b1;have r4:m10.get m.n=.cells [vb,vk,va] 25 none:=A0.cells g1;have u4:m10.get m1.n=.cells [LF,LF] 32 none:=A0.cells B2;have O1:fE (bH l) []:=⟨co,.nil,λx hx=>(by cases hx),λx hx=>(by cases hx)⟩;refine Lp.intro (γ:=Nat) (λi=>8-i) (λi vs F lo=>∃ms vm,vs=[ν i]/\i<=8/\m10.n<=F.n/\(∀c,c<m10.n->c≠m6.n->F.get c=m10.get c)/\m.n<=lo/\F.get m6.n=.cells [r,vm] 32 none/\Sl F ms vm/\fE (bH l) ms/\ms.length<=i/\(l=[]->ms=[]/\vm=LF)) 0 ⟨[],_,rfl,ac,Aj _,λ_ _ _=>rfl,ac,p0,Sl.nil,O1,ZX _,λ_=>⟨rfl,rfl⟩⟩ ?_;rintro i vs F lo ⟨ms,vm,rfl,hi,w4,q0,y4,gS,B0,hM,A4,c1⟩;have gN:F.get m.n=.cells [vb,vk,va] 25 none:=be;have O0:cC F l r:=hF.aY λc cs t g hb _=>(by have:=M.aP hb;rw[q0 c ac ac,b1.get c this,hb]);have d1:vT F ks vk:=(hk.ak r1).ak ⟨ac,λc hc=>by rw[q0 c ac ac,A0.get c hc]⟩;have T1:∀(m':M) (w:Φ),m'.get m6.n=.cells [r,w] 32 none->aC TE m' 27 (Ψ m6.n (0+0+0))=some r:=λm' w hh=>(by rw[dX,aH hh];rfl);rw[av];refine aX (λvs m' Q2=>vs=[.bool (decide (i<ks.length) && decide (i<8) && decide (0<l.length))]/\F=m'/\lo=Q2) (λR hR=>?_) ?_;rw[sO,ae,H1 F gN,ae,d1.len Px,an,aK,ae,ag];refine af (λh=>?_) (λh=>?_);have h:i<ks.length:=be;rw[aK,ae,ag];refine af (λh8=>?_) (λh8=>?_);have h8:i<8:=(by have:=Ds h8;omega);rw[bP,ae,bk,ae,T1 F _ gS,ae,O0.sl.len cM,an,cz,ae];refine hR _ _ _ ⟨?_,rfl,rfl⟩;rw[L5 h,L5 h8,Dn,Dn];congr 2;rw[ge];omega;have h8:¬i<8:=(by have:=LL h8;omega);exact hR _ _ _ ⟨be,rfl,rfl⟩;have h:¬i<ks.length:=be;exact hR _ _ _ ⟨be,rfl,rfl⟩;rintro _ _ _ ⟨rfl,rfl,rfl⟩;rw[av,ag];refine af (λh=>?_) (λh=>?_);simp only[IG,Mj]at h;have⟨⟨T2,B4⟩,O4⟩:=h;obtain⟨y,a2⟩:∃x,ks[i]?=some x:=⟨_,Np T2⟩;have⟨y0,y1,y2,y3⟩:=G1 y (Jc a2);rw[sO,ae,H1 F gN,ae];obtain⟨p,e1,e2⟩:=i4_at d1 a2;rw[e1,ae,e2,ae];refine ah λR4 u3 b2 w3=>?_;refine aj WS b2 rfl rfl rfl λo0 A3 c2 B3=>?_;have k0:Ext F o0:=⟨ac,be⟩;have gy:o0.get F.n=.cells y.c' 157 none:=c2;have j1:=k0.cells gS;have r0:∀(m':M) (j:Nat) (z:Int),m'.get F.n=.cells y.c' 157 none->y.c'[j]?=some (ν z)->aC TE m' 3 (Ψ F.n (0+j))=some (ν z):=λm' j z hh hj=>(by rw[bR,aH hh,LU,hj]);have i0:aE TE 157 (Ψ F.n 0) (ν 0)=some (Ψ F.n (0+0)):=UR (i:=0) ce;have i1:aE TE 157 (Ψ F.n 0) (ν 1)=some (Ψ F.n (0+1)):=UR (i:=1) ce;have i2:aE TE 157 (Ψ F.n 0) (ν 2)=some (Ψ F.n (0+2)):=UR (i:=2) ce;have i3:aE TE 157 (Ψ F.n 0) (ν 3)=some (Ψ F.n (0+3)):=UR (i:=3) ce;have k1:=O0.ak k0;simp only[bP,bk,bI,i0,i1,i2,i3,ae];rw[T1 o0 _ j1,ae,r0 o0 1 y.b gy rfl,ae,ae,k1.sl.len cM,an];have b3:=sj (c:=y.b) (show(0:Int)< (l.length:Int) by omega);refine aw (pY hX y1 (show(0:Int)< (l.length:Int) by omega)) ⟨Aj _,?_⟩;obtain⟨j,hj⟩:∃j:Nat,gL y.b (l.length:Int)=(j:Int):=⟨(gL y.b (l.length:Int)).toNat,ac⟩;rw[hj];rw[hj]at b3;obtain⟨u,hu⟩:∃x,l[j]?=some x:=⟨_,vW⟩;have u1:=Jc hu;have⟨q,q1,q2,ou⟩:=k1.sl.gh (k:=.i64) hu;rw[q1,ae,q2,ae];refine ah λW4 G3 d2 O3=>?_;refine aj dN d2 rfl rfl (Un.dt ou) λe0 b4 g2 c4=>?_;have l0:Ext o0 e0:=⟨ac,be⟩;have gu:e0.get o0.n=.cells (u.u.c u.w) 43 none:=g2;have n0:=l0.cells gy;have j2:=l0.cells j1;have l1:=hP.val u.u (by unfold bH;exact Cw u1);have a5:=lS l1;have s0:=l1;unfold jD di at s0;simp only[IG,Mj]at s0;have c3:=((O0.sh u u1).ak k0).ak l0;rw[r0 e0 0 y.a n0 rfl,ae];refine aw (pY hX y0 ce) ⟨Aj _,?_⟩;rw[aW,ae,(ji gu).1,ae,r0 e0 2 y.c n0 rfl,ae,bA,ae,(ji gu).2.2.2.1,ae,c3.len cR,an,aL,ae,wrap64];have pa:=sj (c:=y.a) (show(0:Int)< 12 by decide);have pc:=sj (c:=y.c) (show(0:Int)< (u.u.shape.length:Int)+2 by omega);have pd:=sj (c:=y.d) (show(0:Int)< 5 by decide);refine aw (pY hX y2 ac) ⟨Aj _,?_⟩;rw[eZ,ae,wrap64,r0 e0 3 y.d n0 rfl,ae];refine aw (pY hX y3 ce) ⟨Aj _,?_⟩;rw[aL,ae,wrap64,r0 e0 3 y.d n0 rfl,ae];refine aw (pY hX y3 ce) ⟨Aj _,?_⟩;rw[aJ,ae,abW,ae];refine ah λb5 d4 k2 e4=>?_;refine aj rA k2 rfl rfl rfl λP0 f4 l2 g4=>?_;have o1:Ext e0 P0:=⟨ac,be⟩;obtain⟨x,hx⟩:∃x:Mk,x=⟨gL y.a 12,u.u.id,gL y.c ((u.u.shape.length:Int)+2)-2,1+gL y.d 5,decide (gL y.d 2=0)⟩:=⟨_,rfl⟩;have gm:P0.get e0.n=.cells x.c 68 none:=(by rw[hx];exact l2);have o2:=o1.cells j2;have v1:Ext F P0:=(k0.trans l0).trans o1;have w1:=B0.ak v1;rw[show aC TE P0 30 (Ψ m6.n (0+1))=some vm by rw[kz,aH o2];rfl,ae,(wP gm).2.2.2.2,ae];obtain⟨d3,r',b,hc,p1,hw⟩:=S0 (x:=x) hX w1 hM.zg be;apply aw hc;rw[aD,aD];simp only[LB,IM,ae];rw[ag];have c5:=v1.n;have e3:=p1.n;have b0:Ext F d3:=v1.trans p1;refine af (λhb=>?_) (λhb=>?_);have hw:=hw hb;refine bV DO (b0.cells gS) (by rw[hw.sl.cells];rfl) (by rw[hw.sl.cells];simp) (by rw[hw.sl.cells];simp[hw.sl.one]) λu2 g3 d0 u0=>?_;rw[hw.sl.cells]at d0;have d0:u2.get m6.n=.cells [r,r'] 32 none:=d0;rw[aL,ae,wrap64];have j3:fE (bH l) (nj ms x):=(by refine aaY hM ac ?_ ⟨u.u,by unfold bH;exact Cw u1,by rw[hx],be⟩;rw[hx];unfold ye di;simp only[IG,Mj];omega);refine⟨i+1,ac,nj ms x,r',rfl,ac,ac,λc A1 Q0=>by rw[u0 c Q0,b0.get c ac,q0 c A1 Q0],ac,d0,?_,j3,by have:=wZ ms x;omega,be⟩;refine hw.sl.aY λb c t g hb ht=>?_;have ht:t=68:=PY.1 ht;subst ht;rw[u0 b (λe=>by rw[e,b0.cells gS]at hb;cases hb),hb];rw[aL,ae,wrap64];exact⟨i+1,ac,ms,vm,rfl,ac,ac,λc A1 Q0=>by rw[b0.get c ac,q0 c A1 Q0],ac,b0.cells gS,B0.ak b0,hM,ac,c1⟩;rw[show aC TE F 32 (Ψ m6.n 0)=some (.agg #[r,vm]) by rw[oQ,aI (n:=2) gS (by show 0+2<=2;decide)];rfl,ae];have k3:F.get m1.n=.cells [LF,LF] 32 none:=be;have l3:one vm:=B0.one;refine aj eH k3 rfl rfl (by show(one r && (one vm && true))=true;rw[or,l3];rfl) λg0 m3 h0 j0=>?_;have h0:g0.get m1.n=.cells [r,vm] 32 none:=h0;rw[show aC TE g0 32 (Ψ m1.n 0)=some (.agg #[r,vm]) by rw[oQ,aI (n:=2) h0 (by show 0+2<=2;decide)];rfl,ae];have v2:∀(α:Type) [aQ α] (L:List α) (w:Φ),(∀t∈aQ.ty α::aQ.dU α,t≠32)->Sl F L w->Sl g0 L w:=λα _ L w ht hs=>hs.aY λb c t g hb hm=>(by rw[j0 b be,hb]);have B1:cC g0 l r:=O0.aY λc cs t g hb ht=>(by rw[j0 c be,hb]);have a1:Sl g0 ms vm:=v2 Mk ms vm (by intro t ht;rw[PY.1 ht];decide) B0;obtain⟨ra,rc,rfl⟩:=hF.sl.form;cases ra with|none=>obtain⟨rfl, -,rfl⟩:=abX hF;obtain⟨rfl,rfl⟩:=c1 rfl;exact .inl ⟨rfl,ac,rfl,.refl,[],_,[],_,rfl,Lb m,hP,Sl.nil,hM⟩|some ad=>refine .inr ⟨.inl ?_,ac,⟨be,λc hc=>?_⟩,l,_,ms,vm,rfl,B1,hP,a1,hM⟩;simp[aM,aZ,eC,bO];rw[j0 c ac,q0 c ac ac,A0.get c ac,r1.get c hc])
 obtain⟨rv,m',b,hc,rfl,h1,l,r,ms,vm,rfl,h2,h3,h4,h5⟩:=key;exact⟨l,r,ms,vm,m',hc,h1,h2,h3,h4,h5⟩
def I1:aO TE m 41 1 [(0,p.v)]=some (.slice (some ⟨m.n,0,none⟩) 1 1,m.push (.cells p.c 46 none)):=bv
section
structure Ac where
 kind:Int
 un:Un
 id:Int
 i:Int
 k:Int
 oG:Mk
def eo(u:Un):Bool:=decide (u.kind=0) && decide (u.cD=0) && decide (u.shape=[]) && decide (u.back=0) && decide (u.front=0)
def uW(k:Mk):Bool:=decide (k=⟨0,0,0,0,false⟩)
def ez(a:Ac):Bool:=decide (a.i=0) && decide (a.k=0) && eo a.un && decide (a.un.id=0)
def eD(a:Ac):Bool:=
 if a.kind=1 then jD a.un && decide (a.id=0) && decide (a.i=0) && decide (a.k=0)
 else if a.kind=2 then di a.id 0 99 && ez a
 else if a.kind=3 then di a.id 0 99 && di a.un.id 0 99 && !decide (a.id=a.un.id) && eo a.un && di a.i 0 7 && di a.k 0 7 && !decide (a.i=a.k)
 else if a.kind=4 then di a.id 0 99 && di a.i (-40) 40 && di a.k (-40) 40 && (!decide (a.i=0) || !decide (a.k=0)) && eo a.un && decide (a.un.id=0)
 else if a.kind=5 then ye a.oG && decide (a.id=0) && ez a
 else if a.kind=6\/a.kind=7 then di a.id 0 99 && ez a
 else false
def cJ(a:Ac):Bool:=eD a && (decide (a.kind=5) ||uW a.oG)
def gd(us:List Un)(id:Int):List Un:=us.filter λy=> !decide (y.id=id)
def jG(us:List Un)(u:Un):List Un:=(us.filter λy=>decide (y.id < u.id))++u::(us.filter λy=>decide (u.id < y.id))
def uA(us:List Un)(u:Un):Bool:=jD u && !decide (us.length=12) && us.all (λv=> !decide (v.id=u.id)) && us.all (λv=> !gR u v)
def pH(us:List Un)(u:Un):Option (List Un):=if uA us u=true then some (jG us u)else none
def Km(l:List Pl)(a b:Nat):List Pl:=if a<=b then(l.drop a).take (b+1-a)else l.drop a++l.take (b+1)
def cutS(l:List Pl)(i k:Int):Option (List Pl×List Pl):=
 if(bL l && decide (0<=min i k) && decide (max i k < (l.length:Nat)) && decide (3<=(Km l i.toNat k.toNat).length) && decide (3<=(Km l k.toNat i.toNat).length))=true then some (Km l i.toNat k.toNat,Km l k.toNat i.toNat)else none
def movS(u:Un)(F dy:Int):Option Un:=if(u.mv F dy).shape.any Pl.off=true then none else some (u.mv F dy)
def dI(ms:List Mk)(id:Int):List Mk:=ms.filter λy=> !decide (y.un=id)
def iP(ms:List Mk)(id:Int)(o:Bool):Option (List Mk):=
 match ms.findIdx? λy=>decide (y.id=id)with
 |some k=>match ms[k]? with
  |some y=>if y.Gh=o then none else some (ms.set k {y with Gh:=o})
  |none=>none
 |none=>none
def kY(us:List Un)(ms:List Mk)(a:Ac):Option (List Un×List Mk):=
 if a.kind=1 then(pH us a.un).map (·,ms)
 else if a.kind=2 then(if(cp us a.id).isSome=true then some (gd us a.id,dI ms a.id)else none)
 else if a.kind=3 then
  match cp us a.id with
  |none=>none
  |some u=>match cutS u.shape a.i a.k with
   |none=>none
   |some (p,q)=>match pH (gd us a.id) {u with shape:=p}with
    |none=>none
    |some F=>(pH F {u with shape:=q,id:=a.un.id}).map (·,dI ms a.id)
 else if a.kind=4 then
  match cp us a.id with
  |none=>none
  |some u=>match movS u a.i a.k with
   |none=>none
   |some v=>(pH (gd us a.id) v).map (·,ms)
 else if a.kind=5 then(if(ms.any λy=>decide (y.id=a.oG.id))=true then none else some (us,nj ms a.oG))
 else(iP ms a.id (decide (a.kind=7))).map (us,·)
open Classical in
def gj(us:List Un)(ms:List Mk):Bool:=decide (fE us ms)
def kV(us:List Un)(ms:List Mk)(a:Ac):Option (List Un×List Mk):=
 if cJ a=true then(match kY us ms a with
  |some (F,ns)=>if gj F ns=true then some (F,ns)else none
  |none=>none)else none
def cq.CZ(h:cq us):us.Pairwise λa b=>a.id<b.id:=by rw[GU];intro i j hi hj F;exact h.Xd F (Np hi) (Np hj)
def FI(F:us.length<=12)(h2:∀u∈us,jD u)(h3:us.Pairwise λa b=>a.id<b.id)(h4:us.Pairwise λa b=>gR a b=false):cq us:=by rw[GU]at h3 h4;refine⟨F,h2,λi a b ha hb=>?_,λi k a b b0 ha hb=>?_⟩;grind;grind
def cq.Ga(h:cq us):us.Pairwise λa b=>gR a b=false:=by rw[GU];intro i j hi hj F;exact h.apart i j _ _ F (Np hi) (Np hj)
theorem cq.del(h:cq us)(id:Int):cq (gd us id):=by unfold gd;exact FI (Zz (Nr _ _) h.len) (λu hu=>h.val u (IJ.1 hu).1) (h.CZ.filter _) (h.Ga.filter _)
def ad2{u:Un}(h:∀v∈us,v.id≠u.id):(jG us u).length=us.length+1:=by unfold jG;rw[ZE,Vz];have:(us.filter λy=>decide (y.id<u.id)).length+(us.filter λy=>decide (u.id<y.id)).length=us.length:=(by induction us with|nil=>rfl|cons a r F=>grind);omega
def wC{u v:Un}(h:v∈jG us u):v=u\/v∈us:=by unfold jG at h;grind
def kR{u:Un}:uA us u↔jD u/\us.length≠12/\(∀v∈us,v.id≠u.id)/\∀v∈us,gR u v=false:=by unfold uA;grind
def cq.ins(h:cq us){u:Un}(F:uA us u):cq (jG us u):=by have⟨h1,h2,h3,h4⟩:=kR.1 F;have hl:=h.len;refine FI (by rw[ad2 h3];omega) (λv hv=>?_) ?_ ?_;rcases wC hv with rfl|hv;exact h1;exact h.val v hv;unfold jG;rw[OE,PU];refine⟨h.CZ.filter _,⟨be,h.CZ.filter _⟩,λa F b hb=>?_⟩;grind;unfold jG;rw[OE,PU];refine⟨h.Ga.filter _,⟨λz hz=>h4 z (IJ.1 hz).1,h.Ga.filter _⟩,λa F b hb=>?_⟩;have b0:=(IJ.1 F).1;have F:a.id<u.id:=be;rcases OS.1 hb with rfl|hb;rw[nW];exact h4 a b0;have d0:=(IJ.1 hb).1;have hb:u.id<b.id:=be;have⟨i,hi⟩:=RL b0;have⟨k,hk⟩:=RL d0;have e0:i<k:=(by rcases Sk i k with h|rfl|h';exact h;grind;have:=h.Xd h' hk hi;omega);exact h.apart i k _ _ e0 hi hk
def AO{u:Un}(h:cq us)(F:pH us u=some vs):cq vs/\vs=jG us u/\jD u:=by unfold pH at F;split at F;rename_i hb;cases F;exact⟨h.ins hb,rfl,(kR.1 hb).1⟩;cases F
def AL{ns:List Mk}{a:Ac}(h:cq us)(F:kY us ms a=some (vs,ns)):cq vs:=by unfold kY at F;split at F;(cases h1:pH us a.un with|none=>rw[h1]at F;cases F|some l=>rw[h1]at F;cases F;exact(AO h h1).1);split at F;split at F;cases F;exact h.del _;cases F;split at F;split at F;(cases F;rename_i u hu;split at F;cases F;rename_i p q hc;split at F;cases F;rename_i l hl;cases h1:pH l {u with shape:=q,id:=a.un.id}with|none=>rw[h1]at F;cases F|some l'=>rw[h1]at F;cases F;exact(AO (AO (h.del _) hl).1 h1).1);split at F;split at F;(cases F;rename_i u hu;split at F;cases F;rename_i v hv;cases h1:pH (gd us a.id) v with|none=>rw[h1]at F;cases F|some l'=>rw[h1]at F;cases F;exact(AO (h.del _) h1).1);split at F;grind;cases h1:iP ms a.id (decide (a.kind=7))with|none=>rw[h1]at F;cases F|some l=>rw[h1]at F;cases F;exact h
end
section
set_option maxRecDepth 100000
set_option maxHeartbeats 0
variable{W:Words}{x0 x1 x2:Φ}{m:M}{R:Ω->M->Nat->Prop}
def F241:=cN (P:=dC TE W f241 [x0,x1] m R)
def F250:=cN (P:=dC TE W f250 [x0,x1] m R)
def F251:=cN (P:=dC TE W f251 [x0,x1] m R)
def F280:=cN (P:=dC TE W f280 [x0,x1,x2] m R)
def F313:=cN (P:=dC TE W f313 [x0,x1] m R)
def F320:=cN (P:=dC TE W f320 [x0,x1] m R)
def F312:=cN (P:=dC TE W f312 [x0,x1] m R)
def F134:=cN (P:=dC TE W f134 [x0,x1] m R)
def F308:=cN (P:=dC TE W f308 [x0,x1] m R)
def F331:=cN (P:=dC TE W f331 [x0,x1] m R)
def F311:=cN (P:=dC TE W f311 [x0,x1] m R)
def F332:=cN (P:=dC TE W f332 [x0] m R)
def F152:=cN (P:=dC TE W f152 [x0] m R)
def F333:=cN (P:=dC TE W f333 [x0,x1,x2] m R)
def F277:=cN (P:=dC TE W f277 [x0,x1,x2] m R)
end
theorem _root_.Go.D.Lp.Fv{F:(Ω->M->Nat->Prop)->Ω->M->Nat->Prop}{vs:Ω}{m:M}{lo:Nat}{γ:Type}(μ:γ->Nat)(I:γ->Ω->M->Nat->Prop)(g0:γ)(h0:I g0 vs m lo)
  (h:∀g vs m lo,I g vs m lo->∀P:Ω->M->Nat->Prop,(∀g' vs m lo,μ g'<μ g->I g' vs m lo->P vs m lo)->F P vs m lo):Lp F vs m lo:=
 Lp.intro μ I g0 h0 λg vs m lo hI=>h g vs m lo hI _ λg' vs m lo h1 h2=>⟨g',h1,h2⟩
def aA{α:Type}{x:Option α}{v:α}{P:α->Prop}(h:x=some v)(F:P v):aS x P:=by rw[h];exact F
abbrev bsG(T t:TypeId)(L:M->(Φ->Prop)->Prop)(W:Words)(x0 x2:Φ)(m:M)(lo0:Nat)(R:Ω->M->Nat->Prop):Prop:=
(W.dh (aR TE m .len [T] [x0]) λv1 _=>(W.Lp (λP2 i0 m4 F=>W.un i0 λv6 r7=>W.un r7 λv8 r9=>(W.aS (bE TE .lss 3 v6 v8) λv10=>(iU v10
(W.aS (bE TE .add 3 v6 v8) λv11=>(W.aS (Te TE m4 3 220 v11) λv12=>(W.aS (bE TE .shr 220 v12 (.int .u64 1)) λj0=>(W.aS (Te TE m4 220 3 j0) λb0=>(W.aS (aE TE T x0 b0) λk0=>(W.aS (aC TE m4 t k0) λl0=>(L m4 λx1=>(rK x2 λg17 f18 n0=>(W.lV g17 (f18.toList++([l0,x1]++n0.toList)) m4 λv20 m21 d0=>(W.aS (bE TE .lss 3 v20 (.int .i64 0)) λo0=>(iU o0
(W.aS (bE TE .add 3 b0 (.int .i64 1)) λv24=>(P2 [v24,v8] m21 (min F d0)))
(P2 [v6,b0] m21 (min F d0)))))))))))))
(W.jn (λe0=>(W.aS (bE TE .lss 3 v6 v1) λp0=>(iU p0
(W.aS (aE TE T x0 v6) λv30=>(W.aS (aC TE m4 t v30) λv31=>(L m4 λx1=>(rK x2 λq0 f33 r0=>(W.lV q0 (f33.toList++([v31,x1]++r0.toList)) m4 λs0 u0 y0=>(W.aS (bE TE .eql 3 s0 (.int .i64 0)) λA0=>(e0 [v6,A0] u0 (min F y0))))))))
(e0 [v6,.bool false] m4 F))))
(λg0 B0 h0=>W.un g0 λO0 P0=>W.un P0 λQ0 a1=>(R [O0,Q0] B0 h0)))))) [.int .i64 0,v1] m lo0))
abbrev bsF(T t:TypeId)(W:Words)(x0 x1 x2:Φ)(m:M)(R:Ω->M->Nat->Prop):Prop:=bsG T t (λ_ k=>k x1) W x0 x2 m (M.n m) R
def SL{W:Words}{x0 x1 x2:Φ}{m:M}:dC TE W f208 [x0,x1,x2] m R=bsF 27 43 W x0 x1 x2 m R:=bv
def SM{W:Words}{x0 x1 x2:Φ}{m:M}:dC TE W f275 [x0,x1,x2] m R=bsF 30 68 W x0 x1 x2 m R:=bv
def fj{α:Type}(key:α->Int)(l:List α)(id:Int):Nat:=(l.filter λx=>decide (key x < id)).length
def E5{α:Type}{key:α->Int}{l:List α}{id:Int}:fj key l id<=l.length:=Nr _ _
theorem vi{α:Type}{key:α->Int}{l:List α}{id:Int}(h:l.Pairwise λa b=>key a<key b):
  l.take (fj key l id)=l.filter (λx=>decide (key x<id))/\l.drop (fj key l id)=l.filter (λx=>decide (id<=key x)):=by unfold fj;induction l with|nil=>exact⟨rfl,rfl⟩|cons a r F=>rw[PU]at h;have⟨b0,d0⟩:=F h.2;by_cases e:key a<id;grind;have e2:id<=key a:=ac;have h0:(r.filter λx=>decide (key x<id))=[]:=(by rw[JQ];grind);grind
def Kl{α:Type}{key:α->Int}{l:List α}{id:Int}{i:Nat}(hi:i<=l.length)(h1:∀k x,k<i->l[k]?=some x->key x<id)(h2:∀k x,i<=k->l[k]?=some x->id<=key x):fj key l id=i:=by have e:l=l.take i++l.drop i:=(ZV i l).symm;unfold fj;rw[e,OP,LM.2,JQ.2,Vy,PK];omega;intro x hx;have⟨k,F⟩:=RL hx;rw[Ns]at F;have:=h2 _ x ac F;simp;omega;intro x hx;have⟨k,F⟩:=RL hx;have b0:=(Vc.1 F).1;rw[PK]at b0;rw[TP ac]at F;have:=h1 k x ac F;simpa using this
def SK{α:Type}[aQ α](hT:rp TE T t α){L:M->(Φ->Prop)->Prop}{lo0:Nat}(h0:lo0<=m.n){R:Ω->M->Nat->Prop}
  {l:List α} {v:Φ} {g:Fn} {fi ca:Array Φ} {id:Int} {z:Φ} (hL:∀k:Φ->Prop,k z->L m k) (key:α->Int) (hb:l.length<400) (hl:Sl m l v) (g0:l.Pairwise λa b=>key a<key b)
  (hs:∀x∈l,∀cs,aQ.rep m x cs->C X g (fi.toList++([aQ.val α cs,z]++ca.toList)) m m.n (ν (dv (key x) id)) m)
  (hK:∀lo,lo0<=lo->R [ν (fj key l id:Nat),.bool (l.any λx=>decide (key x=id))] m lo):
  bsG T t L (aG TE X) v (.func g fi ca) m lo0 R:=by have d0:∀i k x y,i<k->l[i]?=some x->l[k]?=some y->key x<key y:=λi k x y o0 hx hy=>(by rw[GU]at g0;obtain⟨h1,rfl⟩:=Vc.1 hx;obtain⟨h2,rfl⟩:=Vc.1 hy;exact g0 i k h1 h2 o0);dsimp only[bsG,aG];rw[hl.len hT,an];refine Lp.intro (γ:=Nat×Nat) (λs=>s.2-s.1) (λs vs mm lo=>vs=[ν s.1,ν s.2]/\s.1<=s.2/\s.2<=l.length/\m=mm/\lo0<=lo/\(∀k x,k<s.1->l[k]?=some x->key x<id)/\∀k x,s.2<=k->l[k]?=some x->id<=key x) (0,l.length) ⟨rfl,ZX _,Aj _,rfl,Aj _,λk x hk=>ac,be⟩ ?_;rintro⟨i,j⟩ vs mm lo ⟨rfl,p0,hj,rfl,r0,b0,F⟩;dsimp only at p0 hj b0 F⊢;rw[av,av,aK,ae,ag];refine af (λe0=>?_) (λj0=>?_);have e0:i<j:=be;obtain⟨x,hx⟩:∃x,l[(i+j)/2]?=some x:=⟨_,vW⟩;have⟨a,cs,e1,e2,hr⟩:=hl.index hT (k:=.i64) hx;rw[aL,ae,wrap64,show(i:Int)+(j:Int)=((i+j:Nat):Int) by omega,CI,VO ac,ae,VV,ae,CJ,wrap64,ae,e1,ae,e2,ae];apply hL _;rw[cx];apply aw (hs x (Jc hx) cs hr);rw[aK,ae,ag];refine af (λhc=>?_) (λhc=>?_);have hc:key x<id:=(by unfold dv at hc;by_cases h1:key x<id;exact h1;rw[MO h1]at hc;split at hc <;>simp at hc);rw[aL,ae,wrap64];refine⟨((i+j)/2+1,j),be,be,be,hj,rfl,ac,λk y hk hy=>?_,F⟩;by_cases e:k=(i+j)/2;subst e;rw[hx]at hy;cases hy;exact hc;have:=d0 k _ y x be hy hx;omega;have hc:id<=key x:=(by unfold dv at hc;by_cases h1:key x<id;rw[QL h1]at hc;simp at hc;omega);refine⟨(i,(i+j)/2),be,rfl,be,be,rfl,ac,b0,λk y hk hy=>?_⟩;by_cases e:k=(i+j)/2;subst e;rw[hx]at hy;cases hy;exact hc;have:=d0 _ k x y be hx hy;omega;have k0:i=j:=(by have:¬(i:Int)< (j:Int):=be;omega);subst k0;have l0:=Kl (key:=key) (id:=id) hj b0 F;refine aX (λvs m' i0=>vs=[ν i,.bool (l.any λx=>decide (key x=id))]/\m=m'/\lo0<=i0) (λR hR=>?_) ?_;rw[aK,ae,ag];refine af (λe0=>?_) (λj0=>?_);have e0:i<l.length:=be;obtain⟨x,hx⟩:∃x,l[i]?=some x:=⟨_,Np e0⟩;have⟨a,cs,e1,e2,hr⟩:=hl.index hT (k:=.i64) hx;rw[e1,ae,e2,ae];apply hL _;rw[cx];apply aw (hs x (Jc hx) cs hr);rw[aJ,ae];refine hR _ _ _ ⟨?_,rfl,ac⟩;have e:(dv (key x) id=0)↔(∃y∈l,key y=id):=(by constructor;intro he;refine⟨x,Jc hx,?_⟩;unfold dv at he;by_cases h1:key x<id;rw[QL h1]at he;omega;rw[MO h1]at he;by_cases h2:id<key x;rw[QL h2]at he;omega;omega;rintro⟨y,hy,he⟩;have⟨k,hk⟩:=RL hy;have q0:k=i:=(by rcases Sk k i with h|h|h;have:=b0 k y h hk;omega;exact h;have:=F i x (Aj _) hx;have:=d0 i k x y h hx hk;omega);subst q0;rw[hx]at hk;cases hk;unfold dv;rw[jq,jq]);have e':decide (dv (key x) id=0)=l.any λx=>decide (key x=id):=(by rw[OJ,decide_eq_true_iff,e,WC];simp);rw[<-e'];have j0:l.length=i:=(by have:¬(i:Int)< (l.length:Int):=be;omega);refine hR _ _ _ ⟨?_,rfl,ac⟩;have:(l.any λx=>decide (key x=id))=false:=(by rw[W5];intro y hy;have⟨k,hk⟩:=RL hy;have:=b0 k y be hk;simp;omega);rw[this];rintro _ _ i0 ⟨rfl,rfl,n0⟩;rw[av,av];have:=hK i0 n0;rwa[l0]at this
def HT{α:Type}[aQ α](hT:rp TE T t α){f:Nat}{fn:Func}(hX:Gk X f)(hf:TE.fn.get f=some fn)(hn:Nat.ble 3 fn.ntmps)
  (hF:∀{W:Words} {x0 x1 x2:Φ} {m:M} {R:Ω->M->Nat->Prop},dC TE W fn [x0,x1,x2] m R=bsF T t W x0 x1 x2 m R)
  {l:List α} {v:Φ} {g:Fn} {fi ca:Array Φ} {id:Int} {z:Φ} (key:α->Int) (hb:l.length<400) (hl:Sl m l v) (F:l.Pairwise λa b=>key a<key b)
  (hs:∀x∈l,∀cs,aQ.rep m x cs->C X g (fi.toList++([aQ.val α cs,z]++ca.toList)) m m.n (ν (dv (key x) id)) m):
  C X (.func f) [v,z,.func g fi ca] m m.n (.tuple #[ν (fj key l id:Nat),.bool (l.any λx=>decide (key x=id))]) m:=by refine Cl.flat hX hf hn rfl ?_;rw[hF];exact SK hT (Aj _) (λ_ h=>h) key hb hl F hs λlo h=>⟨rfl,h⟩
def rf{α:Type}[aQ α](hT:rp TE T t α){f:Nat}{fn:Func}(hX:Gk X f)(hf:TE.fn.get f=some fn)(hn:Nat.ble 3 fn.ntmps)
  (hF:∀{W:Words} {x0 x1 x2:Φ} {m:M} {R:Ω->M->Nat->Prop},dC TE W fn [x0,x1,x2] m R=bsF T t W x0 x1 x2 m R)
  {l:List α} {v:Φ} {g:Fn} {fi ca:Array Φ} {id:Int} (key:α->Int) (hb:l.length<400) (hl:Sl m l v) (F:l.Pairwise λa b=>key a<key b)
  (hs:∀x∈l,∀cs,aQ.rep m x cs->C X g (fi.toList++([aQ.val α cs,ν id]++ca.toList)) m m.n (ν (dv (key x) id)) m):
  C X (.func f) [v,ν id,.func g fi ca] m m.n (.tuple #[ν (fj key l id:Nat),.bool (l.any λx=>decide (key x=id))]) m:=HT hT hX hf hn hF key hb hl F hs
section
set_option maxRecDepth 100000
set_option maxHeartbeats 0
def F247{W:Words}{x0:Φ}{m:M}:=cN (P:=dC TE W f247 [x0] m R)
def F150{X:aF}{x0:Φ}{m:M}:dC TE (aG TE X) f150 [x0] m R=ς m x0 87 λa=>υ a [.nilFunc,.nilFunc,.nilFunc,.nilFunc,.nilFunc] 234 λb=>ω X 192 [] b λc d f=>(b.n<=f)/\(ε 87 (χ m) 0 λb=>δ d 3 b λb=>aS (eY TE d 268 c b true) λb=>ξ b 0 λc=>ξ b 1 λb=>υ d [.nilFunc,.nilFunc,.nilFunc,.nilFunc,.nilFunc] 234 λg=>ι g 234 (χ d) c λc g=>iU b (jn (λb=>δ c 234 (χ d) λh=>ε 234 (χ d) 0 λd=>δ c 228 d λd=>δ c 87 (χ m) λi=>rK d λd j k=>lV TE X d (j.toList++([i]++k.toList)) c λd i j=>(c.n<=j)/\(iU d (ε 87 (χ m) 5 λc=>δ i 68 c λd=>θ 68 [] λk=>η .eql 68 d k λd=>ι i 234 (χ a) h λa h=>((i.n<=h)\/(mR (some (.v c)) h/\True))/\(b [d] a (Θ m.n f g j h))) (ι i 234 (χ a) h λa c=>((i.n<=c)\/(True/\True))/\(b [L4] a (Θ m.n f g j c))))) (λb c d=>un b λb _=>aS (aC TE c 234 (χ a)) λa=>R [a,b] c d)) (ω X 193 [] c λb h i=>(c.n<=i)/\(ε 87 (χ m) 0 λc=>δ h 3 c λc=>aS (eY TE h 268 b c true) λb=>ξ b 0 λc=>ξ b 1 λb=>ι h 234 (χ d) c λc h=>jn (λj=>δ c 234 (χ d) λk=>iU b (ε 234 (χ d) 0 λb=>δ c 228 b λb=>δ c 87 (χ m) λd=>rK b λb l n=>lV TE X b (l.toList++([d]++n.toList)) c λb d l=>(c.n<=l)/\(iU b (ε 87 (χ m) 0 λb=>δ d 3 b λb=>η .eql 3 b (ψ 5) λb=>iU b (ι d 234 (χ a) k λa b=>((d.n<=b)\/(True/\True))/\(j [WB] a (Ξ m.n f g i h l b))) (ε 87 (χ m) 5 λb=>δ d 68 b λc=>θ 68 [] λn=>η .eql 68 c n λc=>ι d 234 (χ a) k λa k=>((d.n<=k)\/(mR (some (.v b)) k/\True))/\(j [c] a (Ξ m.n f g i h l k)))) (ι d 234 (χ a) k λa b=>((d.n<=b)\/(True/\True))/\(j [L4] a (Ξ m.n f g i h l b))))) (ι c 234 (χ a) k λa b=>((c.n<=b)\/(True/\True))/\(j [L4] a (Λ m.n f g i h b)))) (λb c d=>un b λb _=>aS (aC TE c 234 (χ a)) λa=>R [a,b] c d)))):=bv
variable{W:Words}{x0:Φ}{m:M}{R:Ω->M->Nat->Prop}
def F192:=cN (P:=dC TE W f192 [] m R)
def F193:=cN (P:=dC TE W f193 [] m R)
def F102:=cN (P:=dC TE W f102 [x0] m R)
end
section
set_option maxRecDepth 100000
set_option maxHeartbeats 0
variable{W:Words}{x0 x1:Φ}{m:M}{R:Ω->M->Nat->Prop}
def F237:=cN (P:=dC TE W f237 [x0] m R)
def F240:=cN (P:=dC TE W f240 [x0,x1] m R)
def F246:=cN (P:=dC TE W f246 [x0] m R)
def F249:=cN (P:=dC TE W f249 [x0,x1] m R)
def F269:=cN (P:=dC TE W f269 [x0] m R)
def F272:=cN (P:=dC TE W f272 [x0] m R)
def F274:=cN (P:=dC TE W f274 [x0,x1] m R)
def F279:=cN (P:=dC TE W f279 [x0,x1] m R)
def F282:=cN (P:=dC TE W f282 [x0,x1] m R)
def F276:=cN (P:=dC TE W f276 [x0,x1] m R)
end
section
variable {X:aF} {m:M}
def mg{α:Type}[aQ α](n1:Nat)(m:M)(l:List α)(v:Φ):Prop:=
 Ow n1 m l v\/(l=[]/\∃b,v=.slice (some ⟨b,0,none⟩) 0 0/\n1<=b/\m.get b=.cells [] (aQ.ty α) none)
section
variable {α:Type} [aQ α]
def mg.sl{n1:Nat}{l:List α}{v:Φ}(h:mg n1 m l v):Sl m l v:=by rcases h with h|⟨rfl,b,rfl,h1,F⟩;exact h.sl;exact .inr ⟨b,0,0,[],none,rfl,F,co,be⟩
def mg.ak{n1:Nat}{m':M}{l:List α}{v:Φ}(h:mg n1 m l v)(F:Ext m m'):mg n1 m' l v:=
 h.imp (λh=>h.ak F) λ⟨h1,b,h2,h3,h4⟩=>⟨h1,b,h2,h3,F.cells h4⟩
def mg.mono{n1 n2:Nat}{l:List α}{v:Φ}(h:mg n1 m l v)(F:n2<=n1):mg n2 m l v:=
 h.imp (λh=>h.mono F) λ⟨h1,b,h2,h3,h4⟩=>⟨h1,b,h2,ac,h4⟩
def mg.zF{n1:Nat}{m':M}{l:List α}{v:Φ}(ht:aQ.dU α=[])(h:mg n1 m l v)(F:∀c,n1<=c->c<m.n->m'.get c=m.get c):mg n1 m' l v:=
 h.imp (λh=>h.zF ht F) λ⟨h1,b,h2,h3,h4⟩=>⟨h1,b,h2,h3,by rw[F b h3 (M.aP h4),h4]⟩
def HY(hT:vU TE T α){a0 a:Addr}{c:Nat}:aR TE (m.wl m.n) .append [T,T] [.slice (some a0) 0 0,.slice (some a) 0 c]=some (.slice (some a0) 0 0,m.wl m.n):=by have⟨F,ei,t1,t2,t3,t4,t5,t6⟩:=hT;have b0:=aQ.pos (α:=α);have c1:Nat.beq F.es 0=false:=(by cases hb:Nat.beq F.es 0 with|false=>rfl|true=>have:=VA hb;omega);have c2:Nat.blt 65536 ei.bytes=false:=(by cases hb:Nat.blt 65536 ei.bytes with|false=>rfl|true=>rw[IK]at hb;omega);have hf:first? (m.wl m.n) F.es 0 (.slice (some a) 0 c)=some []:=rfl;have hc:(Nat.beq F.es 0 ||Nat.blt 65536 ei.bytes || !([]:Ω).all D.one ||Nat.blt 268435456 (0+0) || !Nat.beq ([]:Ω).length (0*F.es) || !iO ei.zero F.es)=false:=(by have c4:Nat.beq ([]:Ω).length (0*F.es):=dg;rw[c1,c2,c4,t3,t6];rfl);simp only[aR,eG,t1,t2,t4,kB,hf];rw[hc];rfl
abbrev Wg(T:TypeId)(W:Words)(x0:Φ)(m:M)(R:Ω->M->Nat->Prop):Prop:=
(W.aS (bE TE .eql T x0 (.slice none 0 0)) λv1=>(iU v1
(R [.slice none 0 0] m (M.n m))
(W.dh (aO TE m T 0 []) λv2 m3=>(W.dh (aR TE (M.wl m3 (M.n m3)) .append [T,T] [v2,x0]) λv4 m5=>(R [v4] m5 (min (M.n m) (M.low m5)))))))
def qm{T:TypeId}(hT:vU TE T α){f:Nat}{fn:Func}(hX:Gk X f)(hf:TE.fn.get f=some fn)(hn:Nat.ble 1 fn.ntmps)
  (hF:∀{W:Words} {x0:Φ} {m:M} {R:Ω->M->Nat->Prop},dC TE W fn [x0] m R=Wg T W x0 m R)
  (h1:bE TE .eql T LF LF=some WB) (h2:∀a n c,bE TE .eql T (.slice (some a) n c) LF=some L4)
  (h3:∀m:M,aO TE m T 0 []=some (RR m.n 0 0 0,m.push (.cells [] (aQ.ty α) none)))
  {l:List α} {v:Φ} (hl:Sl m l v) (hs:l.length<=1000000):∃v' m',C X (.func f) [v] m m.n v' m'/\Ext m m'/\mg m.n m' l v':=by
 have key:∃v' m' b,C X (.func f) [v] m b v' m'/\b=m.n/\Ext m m'/\mg m.n m' l v':=by
  refine Cl.gen (R:=λv' m' b=>b=m.n/\Ext m m'/\mg m.n m' l v') hX hf hn ?_;rw[hF];dsimp only[Wg,aG];rcases hl with⟨rfl,rfl⟩|⟨b,o,c,bc,g,rfl,hb,hlen,g0⟩;·rw[h1,ae,ag,bN];exact .inl ⟨rfl,Aj _,rfl,.refl,.inl Ow.nil⟩
  have hl:Sl m l (RR b o l.length c):=.inr ⟨b,o,c,bc,g,rfl,hb,hlen,g0⟩;rw[h2,ae,ag,aT,h3,an];have F:Ext m (m.push (.cells [] (aQ.ty α) none)):=Ext.refl.push;by_cases b0:l=[]
  ·subst b0;rw[Vt,HY hT,an];exact .inr ⟨.inl rfl,by show min m.n _=m.n;simp[M.AY,M.lC],F.wl,.inr ⟨rfl,m.n,rfl,Aj _,M.aU⟩⟩
  have⟨v',m1,e1,d0,he,e0⟩:=mF (m:=m.push (.cells [] (aQ.ty α) none)) hT (b:=m.n) M.aU (hl.ak F) b0 hs;rw[e1,an];have h0:=d0.flat b0;rw[M.lC]at e0;exact .inr ⟨.inl h0,ac,F.trans he,.inl (d0.mono (by rw[M.lC];omega))⟩
 obtain⟨v',m',b,hc,rfl,h⟩:=key;exact⟨v',m',hc,h⟩
end
def ZC{W:Words}{x0:Φ}{m:M}:dC TE W f86 [x0] m R=Wg 30 W x0 m R:=bv
def abH{W:Words}{x0:Φ}{m:M}:dC TE W f340 [x0] m R=Wg 27 W x0 m R:=bv
def abl{W:Words}{x0:Φ}{m:M}:dC TE W f53 [x0] m R=Wg 41 W x0 m R:=bv
def CK(F:cy X){l:List Mk}{v:Φ}(hl:Sl m l v)(hs:l.length<=1000000):∃v' m',C X (.func 86) [v] m m.n v' m'/\Ext m m'/\mg m.n m' l v':=
 qm tz (F.no _ rfl) (Us func86) rfl ZC bv (λ_ _ _=>bv) (λ_=>bv) hl hs
def JA(F:cy X){l:List UW}{v:Φ}(hl:Sl m l v)(hs:l.length<=1000000):∃v' m',C X (.func 340) [v] m m.n v' m'/\Ext m m'/\mg m.n m' l v':=
 qm zh (F.no _ rfl) (Us func340) rfl abH bv (λ_ _ _=>bv) (λ_=>bv) hl hs
structure VG(S n1:Nat)(mm:M)(acc:List UW)(ms:List Mk)(r vm:Φ):Prop where
 cell:mm.get S=.cells [r,vm] 32 none
 ow:Ow (S+1) mm acc r
 sh:∀x∈acc,Sl mm x.u.shape x.w
 ln:∀x∈acc,x.u.shape.length < 1000000
 Db:mg n1 mm ms vm
def VG.qj{S:Nat}{acc:List UW}{r F:Φ}(h:VG S n1 mm acc ms r F):cC mm acc r:=
 ⟨h.ow.sl,h.sh,h.ln,by rcases h.ow with⟨_,h⟩|⟨b,cs,h1,h2,h3,h4,h5,h6⟩;grind;exact .inr ⟨b,0,_,cs,_,h1,Aj _,h4,.inr rfl⟩⟩
def rk(hX:cy X){l:List UW}{ms:List Mk}{r vm:Φ}(hF:cC m l r)(O1:∀x∈l,x.u.shape≠ [])(A2:l.length<=1000)(hm:Sl m ms vm)(T1:ms.length<=1000000):
  ∃r' F m' l',C X (.func 102) [.agg #[r,vm]] m m.n (.agg #[r',F]) m'/\Ext m m'/\bH l'=bH l/\cC m' l' r'/\mg m.n m' ms F:=by
 refine Cl.ky hX (Us func102) (R:=λv' m'=>∃r' F l',v'=.agg #[r',F]/\Ext m m'/\bH l'=bH l/\cC m' l' r'/\mg m.n m' ms F) ?_ λv' m' hc ⟨r',F,l',e,h1,h2,h3,h4⟩=>⟨r',F,m',l',e ▸ hc,h1,h2,h3,h4⟩;rw[F102];dsimp only[aG];refine ah λm1 i3 a2 j3=>?_;refine ah λm2 k3 b2 c2=>?_;have O0:Ext m m2:=⟨ac,be⟩;have g1:m2.get m.n=.cells [r,vm] 32 none:=(by rw[c2 _ ac];exact a2);have g2:m2.get m1.n=.cells [LF,LF] 32 none:=b2;unfold ptrTo;rw[bI,ae,kz,aH g1];simp only[LU,LB,IM,ae];have⟨F,m6,d2,r0,s0⟩:=CK (m:=m2) hX (hm.ak O0) T1;apply aw d2;have B2:=r0.n;have l0:one F:=s0.sl.one;have⟨am,cm,i2⟩:=s0.sl.form;have j1:bz TE 32 [(1,F)]=some (.agg #[LF,F]):=(by rw[i2];exact CR rfl);rw[j1,ae];refine ah λm9 m3 j2 n3=>?_;refine aj eH j2 rfl rfl (by show(true && (one F && true))=true;rw[l0];rfl) λm10 G2 k1 M2=>?_;have g10:m10.get m6.n=.cells [LF,F] 32 none:=k1;have h0:Ext m6 m10:=⟨ac,be⟩;have l1:=(O0.trans r0).trans h0;have O2:=O0.n;have G1:=h0.cells (r0.cells g1);rw[bP,ae,bk,ae,dX,aH G1];simp only[LU,LB,ae];rw[(hF.sl.ak l1).len cM,an];refine Lp.Fv (γ:=Nat) (λi=>l.length-i) (λi vs mm lo=>∃acc r',vs=[ν i]/\i<=l.length/\bH acc=(bH l).take i/\VG m6.n m2.n mm acc ms r' F/\(∀c,c<m6.n->mm.get c=m10.get c)/\m10.n<=mm.n/\m.n<=lo) 0 ⟨[],_,rfl,ZX _,rfl,⟨g10,Ow.nil,λx hx=>(by cases hx),λx hx=>(by cases hx),s0.ak h0⟩,λ_ _=>rfl,Aj _,ac⟩ ?_;rintro i vs mm lo ⟨acc,r',rfl,hi,n0,hS,hk,o3,r3⟩ P hP;have P0:Ext m mm:=⟨ac,λc hc=>by rw[hk c ac,l1.get c hc]⟩;have P2:acc.length=i:=(by have:=congrArg List.length n0;rw[cE,PK,cE]at this;omega);rw[av,aK,ae,ag];refine af (λQ0=>?_) (λu3=>?_);have Q0:i<l.length:=be;obtain⟨x,hx⟩:∃x,l[i]?=some x:=⟨_,Np Q0⟩;have g0:=Jc hx;have⟨a,e1,e2,l0⟩:=(hF.sl.ak P0).gh (k:=.i64) hx;rw[e1,ae,e2,ae];refine ah λw3 Q2 o1 T2=>?_;refine aj dN o1 rfl rfl (Un.dt l0) λa1 b3 p1 c3=>?_;have A0:Ext mm a1:=⟨ac,be⟩;have gu:a1.get mm.n=.cells x.c 43 none:=p1;obtain⟨-, -, -,l3, -, -⟩:=ji gu;rw[bA,ae,l3,ae];obtain⟨w',y3,r1,e0,o0⟩:=qX (m:=a1) hX ((hF.sh x g0).ak (P0.trans A0)) (O1 x g0) (by have:=hF.ln x g0;omega);apply aw r1;have n31:=o0.n;have o7:one w':=e0.sl.one;have u1:=o0.cells gu;rw[ae];refine bV uD u1 (by rw[e0.sl.cells];rfl) (by rw[e0.sl.cells];show 3+1<=6;omega) (by rw[e0.sl.cells];simp[o7]) λb0 d3 v1 B0=>?_;have k2:b0.get mm.n=.cells (x.u.c w') 43 none:=(by rw[v1,e0.sl.cells];rfl);have p0:∀c,c<mm.n->b0.get c=mm.get c:=λc hc=>(by rw[B0 c ac,o0.get c ac,A0.get c hc]);have i0:Ext mm b0:=⟨ac,p0⟩;have d0:VG m6.n m2.n b0 acc ms r' F:=⟨i0.cells hS.cell,hS.ow.ak i0,λy hy=>(hS.sh y hy).ak i0,hS.ln,hS.Db.ak i0⟩;have w1:Sl b0 x.u.shape w':=e0.sl.aY λb c t g hb ht=>(by have h1:b≠mm.n:=λe=>(by subst e;rw[u1]at hb;cases hb;simp[aQ.ty,aQ.dU]at ht);rw[B0 b h1,hb]);rw[bP,ae,bk,ae,dX,aH d0.cell];simp only[LU,LB,ae];rw[bQ k2,ae];have l2:aO TE b0 27 1 [(0,x.u.v w')]=some (RR b0.n 0 1 1,b0.push (.cells (UW.c ⟨x.u,w'⟩) 43 none)):=AB (x:=⟨x.u,w'⟩);rw[l2,an];have y1:Ext b0 (b0.push (.cells (UW.c ⟨x.u,w'⟩) 43 none)):=Ext.refl.push
 obtain⟨r2,A3,k0,e3,e4,h5,h6,h7,h8,h9,o2⟩:=PZ (α:=UW) (o:=0) (x:=⟨x.u,w'⟩) zh rfl Gy rfl d0.cell rfl (PI _) be d0.ow y1 (DV (M.aU) o7) ac;rw[e3,an,bk,ae];simp only[LU]at e4⊢;rw[e4,an,aL,ae,wrap64];have h8:b0.n+1<=k0.n:=h8;have A1:∀c,c<b0.n->(b0.push (.cells (UW.c ⟨x.u,w'⟩) 43 none)).get c=b0.get c:=λc hc=>M.cI hc;have b1:∀c,c<b0.n->c≠m6.n->(∀cs g,b0.get c≠.cells cs 43 g)->k0.get c=b0.get c:=λc hc h1 h2=>(by rw[o2 c (by show c<b0.n+1;omega) h1 (λcs g=>by rw[A1 c hc];exact h2 cs g),A1 c hc]);have B1:∀{sh:List Pl} {w:Φ},Sl b0 sh w->Sl k0 sh w:=λhs=>hs.aY λb c t g hb ht=>(by have ht:t=46:=(by simpa[aQ.ty,aQ.dU]using ht);subst ht;rw[b1 b (M.aP hb) (λe=>by subst e;rw[d0.cell]at hb;cases hb) be,hb]);have u0:mg m2.n k0 ms F:=(by rcases d0.Db with(⟨h1,h2⟩|⟨b,cs,h1,h2,h3,h4,c1,d1⟩)|⟨h1,b,h2,h3,h4⟩;exact .inl (.inl ⟨h1,h2⟩);have u2:k0.get b=b0.get b:=b1 b (M.aP h4) (λe=>by subst e;rw[d0.cell]at h4;cases h4) (λv2 g' e=>by rw[e]at h4;cases h4);exact .inl (.inr ⟨b,cs,h1,h2,h3,be,c1,λi y hy=>d1 i y hy⟩);have u2:k0.get b=b0.get b:=b1 b (M.aP h4) (λe=>by subst e;rw[d0.cell]at h4;cases h4) (λv2 g' e=>by rw[e]at h4;cases h4);exact .inr ⟨h1,b,h2,h3,be⟩);refine hP (i+1) _ _ _ ac ⟨acc++ [⟨x.u,w'⟩],r2,by push_cast;rfl,Q0,?_,⟨h6,h7,λy hy=>?_,λy hy=>?_,u0⟩,λc hc=>?_,ac,ac⟩;rw[Tv,kh hx,<-n0];unfold bH;rw[Xj];rfl;rcases L3.1 hy with hy|hy;exact B1 (d0.sh y hy);rw[PY]at hy;subst hy;exact B1 w1;rcases L3.1 hy with hy|hy;exact hS.ln y hy;rw[PY]at hy;subst hy;exact hF.ln x g0;rw[h9 c ac ac,p0 c ac,hk c hc];have w2:i=l.length:=(by grind);have er:one r':=hS.ow.sl.one;rw[oQ,aI (n:=2) hS.cell be,Br,ae];have y2:mm.get m1.n=.cells [LF,LF] 32 none:=(by rw[hk _ ac,h0.get _ ac,r0.get _ ac,g2]);refine aj eH y2 rfl rfl (by show(one r' && (one F && true))=true;rw[er,s0.sl.one];rfl) λy0 g3 H1 K1=>?_;have z2:y0.get m1.n=.cells [r',F] 32 none:=H1;rw[oQ,aI (n:=2) z2 be,Br,ae];have i1:Ext m y0:=⟨ac,λc hc=>by rw[K1 c ac,P0.get c hc]⟩;have u0:mg m.n y0 ms F:=(by rcases hS.Db with(⟨h1,h2⟩|⟨b,cs,h1,h2,h3,h4,c1,d1⟩)|⟨h1,b,h2,h3,h4⟩;exact .inl (.inl ⟨h1,h2⟩);exact .inl (.inr ⟨b,cs,h1,h2,ac,be,c1,λi y hy=>d1 i y hy⟩);exact .inr ⟨h1,b,h2,ac,be⟩);have q0:cC y0 acc r':=hS.qj.aY λc cs t g hc ht=>(by grind);have j0:bH acc=bH l:=(by rw[n0,w2,<-cE,Nl]);rcases hS.ow with⟨h1,h2⟩|⟨b,cs,h1, -⟩;rcases u0 with(⟨h3,h4⟩|⟨b,cs,h3,hh⟩)|⟨h3,b,h4,hh⟩;subst h1 h3;subst h2 h4;exact .inl ⟨by first|rfl|trivial,ac,be,_,_,[],rfl,.refl,j0,Lb m,.inl Ow.nil⟩;exact .inr ⟨.inl (by rw[h1,h3];first|rfl|trivial),ac,r',F,acc,rfl,i1,j0,q0,.inl (.inr ⟨b,cs,h3,hh⟩)⟩;exact .inr ⟨.inl (by rw[h1,h4];first|rfl|trivial),ac,r',F,acc,rfl,i1,j0,q0,.inr ⟨h3,b,h4,hh⟩⟩;exact .inr ⟨.inl (by rw[h1];rfl),ac,r',F,acc,rfl,i1,j0,q0,u0⟩
end
section
variable {m:M}
section
variable {α:Type} [aQ α]
def NI{cs:Ω}{k j p:Nat}{c:Φ}(F:j<k):chunk (cs.set (i*k+j) c) k p=if p=i then(chunk cs k p).set j c else chunk cs k p:=by unfold chunk;by_cases e:p=i;subst e;rw[QL rfl,Ts,jq,show p*k+j-p*k=j by omega,zX];rw[MO e];by_cases h:p<i;have:(p+1)*k<=i*k:=WQ _ h;rw[MN,Ss]at this;rw[Ts,jq,zX,W9 be];have:(i+1)*k<=p*k:=WQ _ ac;rw[MN,Ss]at this;rw[Ts,ifp]
def E8(i0:aQ.dU α=[]){n1:Nat}{l:List α}{v:Φ}(h:Ow n1 m l v){i:Nat}{x:α}(hi:l[i]?=some x){T t0:TypeId}(hT:rp TE T t0 α):
  ∃b,(∀q,aE TE T v (.int q i)=some (Ψ b (0+i*aQ.sz α)))/\n1<=b/\(∃cs g,m.get b=.cells cs (aQ.ty α) g)/\b<m.n/\
   (∃cs,aQ.rep m x cs/\∀j,j<aQ.sz α->cellAt m ⟨b,0+i*aQ.sz α+j,none⟩=cs[j]?)/\
   ∀(k:Nat) (t:TypeId) (ti:TI) (y:α) (c:Φ),TE.ty.get t=some ti->ti.size=1->cells c=[c]->one c->k<aQ.sz α->(∀cs,aQ.rep m x cs->∀m',aQ.rep m' y (cs.set k c))->
    ∀P:M->Nat->Prop,(∀m1,m1.n=m.n->Ow n1 m1 (l.set i y) v->(∀c,c≠b->m1.get c=m.get c)->P m1 b)->
    dh (bh TE m t (Ψ b (0+i*aQ.sz α+k)) c) P:=by have d0:=(Vc.1 hi).1;rcases h with⟨_,rfl⟩|⟨b,cs,rfl,h2,h3,h4,h5,h6⟩;grind;have⟨e0,te,t1,⟨e,t2⟩,t3,t4,t5,t6⟩:=hT;have h0:=aQ.pos (α:=α);have hmul:(i+1)*aQ.sz α<=l.length*aQ.sz α:=WQ _ d0;rw[MN,Ss]at hmul;refine⟨b,λq=>?_,h3,⟨cs,_,h4⟩,M.aP h4,⟨_,h6 i x hi,λj hj=>?_⟩,λk t ti y c ht j0 hc h1 hk hy P hP=>?_⟩;have F:0<=(i:Int)/\(i:Int)< (l.length:Int)/\0<e0.es:=⟨ac,ac,ac⟩;simp only[aE,t1,t2];rw[QL F,bs rfl,t3];rfl;rw[aH h4];unfold chunk;grind;refine bV ht h4 be be be λm1 hn hg g0=>?_;rw[hc]at hg;have b0:cs.take (0+i*aQ.sz α+k)++([c]++cs.drop (0+i*aQ.sz α+k+ [c].length))=cs.set (i*aQ.sz α+k) c:=(by rw[LU];exact pS ac);rw[b0]at hg;refine hP m1 hn (.inr ⟨b,_,be,be,h3,hg,be,λp z hz=>?_⟩) g0;rw[NI hk];by_cases e:p=i;grind;rw[MO e];rw[JW (Ne.symm e)]at hz;exact aQ.aY (h6 p z hz) λb c t g _ h=>be
def Kq(j0:aQ.dU α=[]){n1:Nat}{l:List α}{v:Φ}(h:Ow n1 m l v){i:Nat}(F:i<l.length){T t0:TypeId}(hT:rp TE T t0 α):
  ∃b,(∀q,aE TE T v (.int q i)=some (Ψ b (0+i*aQ.sz α)))/\n1<=b/\b<m.n/\(∃cs g,m.get b=.cells cs (aQ.ty α) g)/\(∀a n k,v=.slice (some a) n k->a.block=b)/\
   ∀(y:α) (w:Φ) (ti:TI),TE.ty.get t0=some ti->ti.size=aQ.sz α->aQ.rep m y (cells w)->
    ∀P:M->Nat->Prop,(∀m1,m1.n=m.n->Ow n1 m1 (l.set i y) v->(∀c,c≠b->m1.get c=m.get c)->P m1 b)->
    dh (bh TE m t0 (Ψ b (0+i*aQ.sz α)) w) P:=by rcases h with⟨_,rfl⟩|⟨b,cs,rfl,h2,h3,h4,h5,h6⟩;grind;have⟨d0,te,t1,⟨e,t2⟩,t3,t4,t5,t6⟩:=hT;have i0:=aQ.pos (α:=α);have hmul:(i+1)*aQ.sz α<=l.length*aQ.sz α:=WQ _ F;rw[MN,Ss]at hmul;refine⟨b,λq=>?_,h3,M.aP h4,⟨cs,_,h4⟩,be,λy w ti ht k0 hr P hP=>?_⟩;have b0:0<=(i:Int)/\(i:Int)< (l.length:Int)/\0<d0.es:=⟨ac,ac,ac⟩;simp only[aE,t1,t2];rw[QL b0,bs rfl,t3];rfl;have e0:(cells w).length=aQ.sz α:=aQ.len hr;refine bV ht h4 be be (aQ.iL hr) λm1 hn hg hk=>?_;rw[e0,LU]at hg;have hA:(cs.take (i*aQ.sz α)).length=i*aQ.sz α:=be;have g0:∀{z:α} {q:Ω},aQ.rep m z q->aQ.rep m1 z q:=λhr=>aQ.aY hr λb c t g hb ht=>be;refine hP m1 hn (.inr ⟨b,_,be,be,h3,hg,?_,λp z hz=>?_⟩) hk;grind;rcases Sk p i with e|e|e;rw[JW ac]at hz;rw[dA hA e];have hle:(p+1)*aQ.sz α<=i*aQ.sz α:=WQ _ e;rw[MN,Ss]at hle;have:chunk (cs.take (i*aQ.sz α)) (aQ.sz α) p=chunk cs (aQ.sz α) p:=(by unfold chunk;rw[OA,UU];grind);grind;subst e;rw[RI F]at hz;cases hz;rw[dE hA (Aj _),NM];have:chunk (cells w++cs.drop (p*aQ.sz α+aQ.sz α)) (aQ.sz α) 0=cells w:=(by unfold chunk;grind);grind;rw[JW ac]at hz;rw[dE hA ac];have h0:(cells w).length=1*aQ.sz α:=be;rw[dE h0 ac];have:chunk (cs.drop (i*aQ.sz α+aQ.sz α)) (aQ.sz α) (p-i-1)=chunk cs (aQ.sz α) p:=(by unfold chunk;rw[M9];congr 2;have:p*aQ.sz α=(i+1+(p-i-1))*aQ.sz α:=be;grind);grind
end
end
end Go.Proofs.YthffgohpkjpkbaaGreatDoor
namespace Go.D
open Go
variable{args:Ω}{ops:Array Oper}{F T:Tr Φ}{f g j lo t:Nat}{o:Oper}{call:aF}{m:M}{PN:M->Nat->Prop}{fn:Func}
section
variable{P:Program}{E:Env}{X:aF}{σ:Sg}{m m1:M}{w w':World}{f:Nat}{args:Ω}{v:Φ}{args':Array Φ}
def Cl.calls(hE:E.OK P)(F:cP P X)(hc:Cl E X (.func f) args m m.n v m1)(hs:eW P σ m w)(hl:bK σ args args'.toList):
  CallsIn Fence.wide 0 P f args' w (dS P σ (m.wl m.n) w v (m1.wl m.n))/\(callFunc f args').run P w=.ok (.enter f args') w:=by have⟨hn,_,n0,h⟩:=hc;have h1:=h (n0+1) ac m.n (Aj _);rw[Nz]at h1;exact vM hE F (jZ hE F n0) h1 (hs.low m.n) hl
def dS.flat(hs:eW P σ m w)(hv:bO v){e:Ending}(h:dS P σ (m.wl m.n) w v (m1.wl m.n) e w'):dS P σ m w v m e w':=by obtain⟨v',σ',rfl,F,he⟩:=h;have:=F.bJ hv;subst this;exact⟨_,σ,rfl,.flat _ hv,Ev.kept hs (λB hB=>he.heap B hB λb i hb _=>hs.uP b i hb) he.hle he.os he.tape he.output⟩
end
section
abbrev iF:=Fn->Ω->M->Option M
noncomputable section
variable (E:Env)
def lD(pan:iF)(T:Tr Φ)(m:M):Op->Option M
 |.call c=>match c.callee with
  |.value f=>match ev T f with
   |.func g first captured=>pan g (first.toList++(c.args.toList.map (ev T)++captured.toList)) m
   |_=>none
  |_=>none
 |_=>none
def fW(call:aF)(pan:iF)(ops:Array Oper):List Oper->Fr->Option Fr
 |[],_=>none
 |o::rest,fr=>
  bif cd ops fr.T o then
   match dK o.op E call fr.T fr.m with
   |some (v,m)=>fW call pan ops rest {T:=put fr.T o.dst v,m:=m}
   |none=>(lD pan fr.T fr.m o.op).map λm=>{fr with m:=m}
  else fW call pan ops rest {fr with T:=put fr.T o.dst undef}
def FF:Op->Bool
 |.call c=>match c.callee with |.value _=>true |_=>false
 |_=>false
def CM(ops:Array Oper):Nat:=ops.toList.findIdx λo=>FF o.op
def behind(ops:Array Oper)(p i:Nat):Bool:=Nat.blt p i && ((Region.before ops).getD i 0).testBit p
def jz:Op->Bool
 |.load ..=>true
 |o=>fO o
def Ha:Op->Bool
 |.alloc _=>true
 |_=>false
def kn(ops:Array Oper)(o:Oper):Bool:=ops.toList.all λq=> !Ha q.op ||(match q.dst with |some d=> !(fJ ops o).contains d |none=>true)
def wN(E:Env)(o:Oper):Bool:=match o.guard,o.op with
 |none,.alloc t=>(ig E t).isSome
 |_,_=>false
def dw(call:aF)(pan:iF)(ops:Array Oper)(p:Nat)(m:M):List Oper->Nat->Tr Φ->Option M->Option M
 |[],_,_,r=>r
 |o::l,j,T,r=>
  bif Nat.beq j p then
   bif kn ops o && cd ops T o then
    match lD pan T {m with low:=m.n} o.op with
    |some m'=>dw call pan ops p m l (j+1) T (some {m' with low:=min m.low m'.low})
    |none=>none
   else none
  else bif behind ops p j ||(Nat.blt p j && wN E o)then dw call pan ops p m l (j+1) T r
  else bif jz o.op && kn ops o then
   bif cd ops T o then
    match dK o.op E call T {m with low:=m.n}with
    |some (v,_)=>dw call pan ops p m l (j+1) (put T o.dst v) r
    |none=>none
   else dw call pan ops p m l (j+1) (put T o.dst undef) r
  else none
def dW(F:Bool)(call:aF)(pan:iF)(n:Nat):Code->Fr->Option Fr
 |.region _ ops d,fr=>bif d then(bif F then(dw E call pan ops (CM ops) fr.m ops.toList 0 fr.T none).map λm=>{fr with m:=m}else none)else fW E call pan ops ops.toList fr
 |.seq a b,fr=>
  match bF E call n a fr with
  |some (.normal,fr)=>dW F call pan n b fr
  |some _=>none
  |none=>dW F call pan n a fr
 |.cond c x y,fr=>match ev fr.T c with
  |.bool t=>bif t then dW F call pan n x fr else dW F call pan n y fr
  |_=>none
 |.block _ c,fr=>dW F call pan n c fr
 |.scope c,fr=>dW F call pan n c fr
 |_,_=>none
def jH(X:aF)(B:iF):Nat->iF
 |0,_,_,_=>none
 |n+1,.func f,args,m=>
  match B (.func f) args m with
  |some m'=>some m'
  |none=>
   match E.fn.get f with
   |none=>none
   |some fn=>
    match fn.body with
    |none=>none
    |some body=>
     bif Nat.ble args.length fn.ntmps && fK body && (X (.func f) args m).isNone then
      (dW E true (bT E X n) (jH X B n) n body {T:=enter args 0,m:={m with low:=m.n}}).map λfr=>{fr.m with low:=min m.low fr.m.low}
     else none
 |_+1,_,_,_=>none
end
section
variable {E:Env} {P:Program} {call:aF} {pan:iF} {nt:Nat} {σ σ':Sg} {m m':M} {w w':World} {a:Act} {iv:Φ}
def Gf(P:Program)(iv:Φ)(σ:Sg)(m:M)(w:World)(m':M):Ending->World->Prop:=λe w'=>e=.panicked [{v:=iv,recovered:=false}]/\∃σ',Ev P σ m w σ' m' w'
structure xW(P:Program)(iv:Φ)(pan:iF):Prop where
 func:∀f args m m',pan (.func f) args m=some m'->∀σ w (args':Array Φ),eW P σ m w->bK σ args args'.toList->
  CallsIn Fence.wide 0 P f args' w (Gf P iv σ m w m')/\(callFunc f args').run P w=.ok (.enter f args') w
 only:∀g args m m',pan g args m=some m'->∃f,g=.func f
def GY{f:FuncId}{args:Array Φ}(h:CallsIn Fence.wide 0 P f args w (Gf P iv σ m w m'))(o:Oper)(a:Act)(next:Act->World->Prop)(Q:Exit->Act->World->Prop)
  (hk:∀σ' w',Ev P σ m w σ' m' w'->Q (.panic [{v:=iv,recovered:=false}]) a w'):o.uponIn (dG none) 0 P a next Q (.ok (.enter f args) w):=by refine⟨λF=>by simp[dG,Fence.wide]at F,?_⟩;have h2:CallsIn (dG none) (0-1) P f args w (Gf P iv σ m w m'):=⟨trivial,λcs _=>h.2 cs (room_wide _)⟩;refine h2.mono λe w' he=>?_;obtain⟨rfl,σ',b0⟩:=he;grind
theorem zz(d0:xW P iv pan)(hs:eW P σ m w){T:Tr Φ}{o:Oper}(h:lD pan T m o.op=some m')
  (hT:∀x∈o.op.operands.toList,bw σ (ev T x) (a.eval x)) (next:Act->World->Prop) (Q:Exit->Act->World->Prop)
  (hk:∀σ' w',Ev P σ m w σ' m' w'->Q (.panic [{v:=iv,recovered:=false}]) a w'):o.uponIn (dG none) 0 P a next Q ((execOp a.eval o).run P w):=by unfold lD at h;split at h;(·rename_i c ho;split at h;(·rename_i f hc;unfold execOp;rw[ho]at hT⊢;dsimp only;have hT:∀x∈c.operands.toList,bw σ (ev T x) (a.eval x):=hT;have e0:bK σ (c.args.toList.map (ev T)) (c.args.toList.map a.eval):=jW _ (λx hx=>hT x (by simp[Call.operands];exact .inr be));have h0:c.args.map a.eval=(c.args.toList.map a.eval).toArray:=be;have hf:bw σ (ev T f) (a.eval f):=hT f (by simp[Call.operands,hc]);unfold resolve;rw[hc];split at h;(·(rename_i g first captured hg;rw[hg]at hf;obtain⟨g,rfl⟩:=d0.only _ _ _ _ h;obtain⟨fv,g0⟩:∃x,a.eval f=x:=⟨_,rfl⟩);rw[g0]at hf;cases hf with|flat _ hh=>simp only[g0,Deferred.ofValue,WJ,FT,L6,invoke];simp only[bO,IG,Qz]at hh;obtain⟨h1,h2⟩:=d0.func g _ m m' h σ w (first++c.args.map a.eval++captured) hs (by grind);rw[h2];exact GY h1 o a next Q hk|func g _ _ b0 F ha hb h1 h2=>simp only[g0,Deferred.ofValue,WJ,FT,L6,invoke];obtain⟨q1,q2⟩:=d0.func g _ m m' h σ w (b0++c.args.map a.eval++F) hs (by rw[h0];simp only[QP];(have e1:bK σ first.toList b0.toList:=⟨be,λj u u' x y=>h1 j u u' be be⟩);have e2:bK σ captured.toList F.toList:=⟨be,λj u u' x y=>h2 j u u' be be⟩;rw[ZA];exact e1.append (e0.append e2));rw[q2];exact GY q1 o a next Q hk);cases h);cases h);cases h
theorem qD(hE:E.OK P)(cF:cP P call)(F:xW P iv pan){ops:Array Oper}(g0:∀o∈ops.toList,fo nt P.globals.size o){Q:Exit->Act->World->Prop}{ds:List Deferred}:
  ∀(l:List Oper),(∀o∈l,fo nt P.globals.size o)->∀(fr b0:Fr),fW E call pan ops l fr=some b0->∀(σ:Sg) (a:Act) (w:World),dB σ fr.T a nt->a.defers=ds->eW P σ fr.m w->(∀σ' a' w',dB σ' b0.T a' nt->a'.defers=ds->Ev P σ fr.m w σ' b0.m w'->Q (.panic [{v:=iv,recovered:=false}]) a' w')->wpListIn (dG none) 0 P ops Q l a w
 |[],_,fr,b0,h,σ,a,w,hf,hd,hs,k=>by unfold fW at h;cases h
 |o::l,hl,fr,b0,h,σ,a,w,hf,hd,hs,k=>by unfold fW at h;have hw:=hf.wanted g0 o;have d0:=dL (hl o UA);have h0:=λo ho=>hl o (De _ ho);unfold wpListIn;rw[<-hw];cases i0:cd ops fr.T o with|false=>rw[i0]at h;simp only[JC]at h;rw[MO co];refine⟨λ_ _=>trivial,?_⟩;refine qD hE cF F g0 l h0 _ _ h σ (a.put o.dst undef) w (hf.put d0 bw.undef) ?_ hs k;rw[<-hd];cases o.dst <;>rfl|true=>rw[i0]at h;simp only[gc]at h;rw[QL rfl];have e0:∀x∈o.op.operands.toList,bw σ (ev fr.T x) (a.eval x):=λx hx=>hf.BO hs (fm (hl o UA) x hx);refine⟨λ_ _=>trivial,?_⟩;cases ho:dK o.op E call fr.T fr.m with|some p=>have⟨v,m1⟩:=p;rw[ho]at h;simp only at h;have j0:=sx hE cF hs ho (a:=a) e0;rw[Oper.semAt_eq _ _ _ (λc hc=>by rw[hc]at ho;simp[dK]at ho)];refine j0.2 none 0 o a _ Q λσ' w' v' hv he=>?_;refine qD hE cF F g0 l h0 _ _ h σ' (a.put o.dst v') w' ((hf.mono he.ext).put d0 hv) ?_ he.rJ λk0 a2 w2 l0 n0 o0=>k k0 a2 w2 l0 n0 (he.trans o0);rw[<-hd];cases o.dst <;>rfl|none=>rw[ho]at h;simp only[ZL]at h;obtain⟨m1,h1,rfl⟩:=h;rw[Oper.semAt_eq _ _ _ (λc hc=>by rw[hc]at h1;simp[lD]at h1)];exact zz F hs h1 e0 _ Q λσ' w' he=>k σ' a w' (hf.mono he.ext) hd he
theorem GF(hE:E.OK P)(hs:eW P σ m w){call:aF}{T:Tr Φ}{a:Act}{o:Oper}{v:Φ}{m1:M}(hp:jz o.op)(h:dK o.op E call T m=some (v,m1))
  (hT:∀x∈o.op.operands.toList,bw σ (ev T x) (a.eval x)):∃v',(execOp a.eval o).run P w=.ok (.value v') w/\bw σ v v':=by cases F:fO o.op with|true=>exact BB hE F h hT|false=>cases ho:o.op with|load t x=>rw[ho]at h hT;unfold execOp;rw[ho];dsimp only;simp only[dK,vr]at h;split at h;rename_i ad hx;split at h;rename_i z hz;cases h;have h1:=hT x ft;rw[hx]at h1;have⟨i,hi,_,he⟩:=h1.fT;have⟨v',q1,q2,_⟩:=py (w:=w) hE hs hi hz;refine⟨v',?_,q2⟩;rw[he];rw[WJ];have:(Instr.loadAt t (Ψ i.dM ad.off)).run P w=.ok v' w:=(by simpa[Instr.loadAt,Instr.sureAddr]using q1);simp_all;cases h;cases h|_=>rw[ho]at hp F;simp[jz,F]at hp
def zT(E:Env)(call:aF)(pan:iF)(ops:Array Oper)(p:Nat)(m m':M)(T:Tr Φ)(o:Oper)(j:Nat)(F:Tr Φ):Prop:=
 (j=p/\F=T/\kn ops o=true/\cd ops T o=true/\∃m1,lD pan T {m with low:=m.n} o.op=some m1/\m'={m1 with low:=min m.low m1.low})\/
 (j≠p/\behind ops p j=true/\F=T)\/
 (j≠p/\behind ops p j=false/\wN E o=true/\F=T)\/
 (j≠p/\behind ops p j=false/\jz o.op=true/\kn ops o=true/\((cd ops T o=false/\F=put T o.dst undef)\/(cd ops T o=true/\∃v m1,dK o.op E call T {m with low:=m.n}=some (v,m1)/\F=put T o.dst v)))
theorem fa{ops:Array Oper}{p:Nat}{m m':M}:∀(l:List Oper) (j:Nat) (T:Tr Φ) (r:Option M),dw E call pan ops p m l j T r=some m'->
  (p<j->r=some m')/\(r=none->p<j+l.length)/\∃tr:Nat->Tr Φ,tr j=T/\∀i o,l[i]?=some o->zT E call pan ops p m m' (tr (j+i)) o (j+i) (tr (j+i+1))
 |[],j,T,r,h=>by unfold dw at h;exact⟨λ_=>h,λhr=>(by rw[hr]at h;cases h),λ_=>T,rfl,λi o h=>by simp at h⟩
 |o::l,j,T,r,h=>by have key:∀T1 r1,zT E call pan ops p m m' T o j T1->dw E call pan ops p m l (j+1) T1 r1=some m'->∃tr:Nat->Tr Φ,tr j=T/\∀i o',(o::l)[i]?=some o'->zT E call pan ops p m m' (tr (j+i)) o' (j+i) (tr (j+i+1)):=(by intro T1 r1 h1 h2;have⟨_,_,tr,t1,t3⟩:=fa l (j+1) T1 r1 h2;refine⟨λk=>if k=j then T else tr k,co,?_⟩;intro i o' hi;cases i with|zero=>grind|succ i=>grind);have hlen:j+(o::l).length=j+1+l.length:=be;rw[hlen];unfold dw at h;cases F:Nat.beq j p with|true=>obtain rfl:=VA F;rw[F,gc]at h;(cases hw:(kn ops o && cd ops T o)with|false=>rw[hw]at h;cases h|true=>rw[hw,gc]at h;simp only[IG]at hw;split at h;rename_i m1 h1;obtain⟨q1,_,_⟩:=fa l (j+1) T _ h;have e1:=q1 ac;simp only[RQ]at e1;exact⟨λhh=>ac,λ_=>ac,key T _ (.inl ⟨rfl,rfl,hw.1,hw.2,m1,h1,e1.symm⟩) h⟩;cases h)|false=>have b0:j≠p:=λe=>(by rw[e,WD]at F;cases F);rw[F,JC]at h;cases hb:behind ops p j with|true=>rw[hb,N4,gc]at h;obtain⟨q1,q2,_⟩:=fa l (j+1) T _ h;exact⟨λhh=>q1 ac,q2,key T _ (.inr (.inl ⟨b0,hb,rfl⟩)) h⟩|false=>rw[hb,U4]at h;cases d0:(Nat.blt p j && wN E o)with|true=>rw[d0,gc]at h;simp only[IG]at d0;obtain⟨q1,q2,_⟩:=fa l (j+1) T _ h;exact⟨λhh=>q1 ac,q2,key T _ (.inr (.inr (.inl ⟨b0,hb,d0.2,rfl⟩))) h⟩|false=>rw[d0,JC]at h;cases hp:(jz o.op && kn ops o)with|false=>rw[hp]at h;cases h|true=>rw[hp,gc]at h;simp only[IG]at hp;cases hw:cd ops T o with|false=>rw[hw,JC]at h;obtain⟨q1,q2,_⟩:=fa l (j+1) _ _ h;exact⟨λhh=>q1 ac,q2,key _ _ (.inr (.inr (.inr ⟨b0,hb,hp.1,hp.2,.inl ⟨hw,rfl⟩⟩))) h⟩|true=>rw[hw,gc]at h;split at h;rename_i v m1 h1;obtain⟨q1,q2,_⟩:=fa l (j+1) _ _ h;exact⟨λhh=>q1 ac,q2,key _ _ (.inr (.inr (.inr ⟨b0,hb,hp.1,hp.2,.inr ⟨hw,v,m1,h1,rfl⟩⟩))) h⟩;cases h
def su(ops:Array Oper)(p i:Nat):Prop:=i=p\/behind ops p i=true
def su.reach{p i:Nat}(h:su ops p i):i=p\/Reach ops p i:=by rcases h with h|h;grind;unfold behind at h;simp only[IG]at h;exact .inr (jr h.2)
structure C3(ops:Array Oper)(p nt:Nat)(tr:Nat->Tr Φ)(ds:List Deferred)(σ:Sg)(L:Nat->Prop)(a:Act):Prop where
 out:∀i,L i->¬su ops p i
 lt:∀i,L i->i < ops.size
 closed:C8 ops L
 Is:a.tmps.size=nt
 defs:a.defers=ds
 tmp:∀t,t < nt->(∀q∈ops.toList,Ha q.op=true->q.dst≠some t)->∃q,q<=ops.size/\bw σ (jj (tr q) t) (a.eval (.tmp t))/\(∀i o,L i->ops[i]?=some o->o.dst=some t->i < q)/\(∀i o,¬L i->ops[i]?=some o->o.dst=some t->i < q->su ops p i)
def EE{dst:Option Tmp}{v:Φ}(h:dst≠some t):jj (put T dst v) t=jj T t:=by cases dst with|none=>rfl|some d=>rw[CX,MO];grind
variable{ops:Array Oper}{p:Nat}{tr:Nat->Tr Φ}{L:Nat->Prop}{ds:List Deferred}
def MC(h:zT E call pan ops p m m' T o j F)(ho:su ops p j):F=T:=by rcases h with⟨_,h,_⟩|⟨_,_,h⟩|⟨_,_,_,h⟩|⟨h1,h2,_⟩;exact h;exact h;exact h;rcases ho with h|h;grind;grind
def abb(h:zT E call pan ops p m m' T o j F)(ho:o.dst≠some t):jj F t=jj T t:=by rcases h with⟨_,h,_⟩|⟨_,_,h⟩|⟨_,_,_,h⟩|⟨_,_,_,_,⟨_,h⟩|⟨_,v,m1,_,h⟩⟩;rw[h];rw[h];rw[h];rw[h,EE ho];rw[h,EE ho]
theorem BC(F:∀j o,ops[j]?=some o->zT E call pan ops p m m' (tr j) o j (tr (j+1))){t:Nat}{i:Nat}:∀k,i<=k->k<=ops.size->(∀j o,i<=j->j<k->ops[j]?=some o->o.dst=some t->su ops p j)->jj (tr k) t=jj (tr i) t
 |0,h,_,_=>by grind
 |k+1,h,hk,hh=>by by_cases b0:i=k+1;grind;have ih:=BC F k ac ac (λj o h1 h2=>hh j o h1 ac);have ho:ops[k]?=some ops[k]:=be;rw[<-ih];have hs:=F k _ ho;by_cases hd:(ops[k]).dst=some t;rw[MC hs (hh k _ ac ac ho hd)];exact abb hs hd
def G8(h:kn ops o)(hn:t∈fJ ops o):∀q∈ops.toList,Ha q.op->q.dst≠some t:=by intro q hq F hd;have:=RT.1 h q hq;grind
def C3.names(h:C3 ops p nt tr ds σ L a)(ord:AQ ops)(b0:∀j o,ops[j]?=some o->zT E call pan ops p m m' (tr j) o j (tr (j+1))){j:Nat}{o:Oper}(hj:¬L j)(i0:¬su ops p j\/j=p)(ho:ops[j]?=some o)
  (j0:∀e∈o.after,Region.binds .any e->L e.on) (d0:kn ops o) {t:Nat} (ht:t<nt) (hn:t∈fJ ops o):bw σ (jj (tr j) t) (a.eval (.tmp t)):=by have k0:j<ops.size:=(Dr.1 ho).1;have⟨q,hq,hv,hw,e0⟩:=h.tmp t ht (G8 d0 hn);have e:jj (tr j) t=jj (tr q) t:=(by rcases Nat.le_total q j with g0|h0;refine BC b0 j g0 ac λi oi h1 h2 F hd=>?_;rcases ord.apart i j oi o F ho h2 with hr|⟨_,h3⟩;have hL:=hr.listed h.closed be;grind;grind;refine(BC b0 q h0 hq λi oi h1 h2 F hd=>?_).symm;rcases Nat.eq_or_lt_of_le h1 with rfl|h1;grind;refine e0 i oi (λhL=>?_) F hd h2;rcases ord.apart j i o oi ho F h1 with hr|⟨h3,_⟩;exact hj (hr.jm h.closed hL);grind);grind
theorem C3.next(h:C3 ops p nt tr ds σ L a)(ord:AQ ops){j:Nat}{o:Oper}(hj:¬L j)(j0:¬su ops p j)(ho:ops[j]?=some o)(k0:∀e∈o.after,Region.binds .any e->L e.on)
  {v v':Φ} (hT:tr (j+1)=put (tr j) o.dst v) (hv:bw σ v v'):C3 ops p nt tr ds σ (λi=>i=j\/L i) (a.put o.dst v') where
 out:=λi hi=>by
  rcases hi with rfl|hi;·grind
  ·exact h.out i hi
 lt:=λi hi=>by
  rcases hi with rfl|hi;·grind
  ·exact h.lt i hi
 closed:=λi o' h0 hi e he hb=>by
  rcases hi with rfl|hi;·grind
  ·exact .inr (h.closed i o' h0 hi e he hb)
 Is:=by rw[wB];exact h.Is
 defs:=by rw[put_defers];exact h.defs
 tmp:=λt ht e0=>by
  have l0:j<ops.size:=(Dr.1 ho).1;have self:∀d,o.dst=some d->d∈fJ ops o:=λd hd=>by unfold fJ;rw[hd];simp
  by_cases hd:o.dst=some t
  ·refine⟨j+1,ac,?_,λi oi hi F b0=>?_,λi oi hi F b0 g0=>?_⟩
   ·rw[hT,hd,CX,QL rfl];have:(a.put (some t) v').eval (.tmp t)=v':=by simp[Act.eval,Act.put,h.Is,ht]
    grind
   ·rcases hi with rfl|hi;·omega
    ·refine Mz λhc=>?_;have d0:j≠i:=λe=>hj (e ▸ hi);rcases ord.apart j i o oi ho F ac with hr|⟨h3,_⟩;·exact hj (hr.jm h.closed hi)
     ·grind
   ·have d0:i≠j:=λe=>hi (.inl e);rcases ord.apart i j oi o F ho ac with hr|⟨_,h3⟩;·exact absurd (.inr (hr.listed h.closed be)) hi
    ·grind
  ·have⟨q,hq,hv,hw,i0⟩:=h.tmp t ht e0;refine⟨q,hq,?_,λi oi hi F b0=>?_,λi oi hi F b0 g0=>i0 i oi (λhL=>hi (.inr hL)) F b0 g0⟩
   ·have:(a.put o.dst v').eval (.tmp t)=a.eval (.tmp t):=by
     cases n0:o.dst with
     |none=>rfl
     |some d=>
      have d0:d≠t:=λe=>hd be;simp[Act.eval,Act.put,Ae,d0]
    grind
   ·grind
theorem C3.Uh(h:C3 ops p nt tr ds σ L a){j:Nat}{o:Oper}(k0:¬su ops p j)(ho:ops[j]?=some o)(l0:∀e∈o.after,Region.binds .any e->L e.on)(b0:Ha o.op)
  {v':Φ}:C3 ops p nt tr ds σ (λi=>i=j\/L i) (a.put o.dst v') where
 out:=λi hi=>by
  rcases hi with rfl|hi;·grind
  ·exact h.out i hi
 lt:=λi hi=>by
  rcases hi with rfl|hi;·grind
  ·exact h.lt i hi
 closed:=λi o' g0 hi e he hb=>by
  rcases hi with rfl|hi;·grind
  ·exact .inr (h.closed i o' g0 hi e he hb)
 Is:=by rw[wB];exact h.Is
 defs:=by rw[put_defers];exact h.defs
 tmp:=λt ht F=>by
  have hd:o.dst≠some t:=F o be b0;have⟨q,hq,hv,hw,h0⟩:=h.tmp t ht F;refine⟨q,hq,?_,λi oi hi d0 e0=>?_,λi oi hi d0 e0 i0=>h0 i oi (λhL=>hi (.inr hL)) d0 e0 i0⟩
  ·have:(a.put o.dst v').eval (.tmp t)=a.eval (.tmp t):=by
    cases n0:o.dst with
    |none=>rfl
    |some d=>
     have j0:d≠t:=λe=>hd be;simp[Act.eval,Act.put,Ae,j0]
   grind
  ·grind
def Ev.more(F:eW P σ m w)(hle:w.heap.size<=w'.heap.size)(hh:∀B,B<w.heap.size->w'.heap[B]?=w.heap[B]?)(h1:w'.os=w.os)(h2:w'.tape=w.tape)(h3:w'.output=w.output):Ev P σ m w σ m w':=
 ⟨λ_ _ h=>h,⟨F.uP,λb i hb=>(F.obj b i hb).aY (λ_ _ h=>h) (hh _ (F.lt b i hb)),λb i hb=>LA (F.lt b i hb) hle,F.inj,F.mK⟩,Aj _,Aj _,hle,
  λb i h h'=>be,λ_ _ _=>rfl,λB hB _=>hh B hB,h1,h2,h3⟩
def D7(h:wN E o):o.guard=none/\Ha o.op/\∃t z,o.op=.alloc t/\ig E t=some z:=by unfold wN at h;split at h;rename_i t hg F;have⟨z,hz⟩:=IY.1 h;exact⟨hg,by rw[F];rfl,t,z,F,hz⟩;cases h
def adp(hE:E.OK P)(F:eW P σ m w){o:Oper}(h:wN E o):∃v' w',(execOp a.eval o).run P w=.ok (.value v') w'/\Ev P σ m w σ m w':=by obtain⟨-, -,t,z,ho,hz⟩:=D7 h;obtain⟨σ',w',v',hr, -,he⟩:=zR hE (F.low m.n) hz;refine⟨v',w',?_,Ev.more F he.hle (λB hB=>he.heap B hB λb i hb _=>F.uP b i hb) he.os he.tape he.output⟩;unfold execOp;simp_all
theorem Dh(hE:E.OK P)(p0:xW P iv pan)(q0:∀o∈ops.toList,fo nt P.globals.size o)(hd:yJ ops){T:Tr Φ}(h:dw E call pan ops p m ops.toList 0 T none=some m')
  (hf:dB σ T a nt) (hs:eW P σ m w) {Q:Exit->Act->World->Prop} (k:∀σ' a' w',a'.defers=a.defers->Ev P σ m w σ' m' w'->Q (.panic [{v:=iv,recovered:=false}]) a' w'):
  wpAnyIn (dG none) 0 P .any ops Q ops.size (Array.replicate ops.size false) a w:=by
 have ord:=wM hd;have⟨_,g0,tr,t0,g1⟩:=fa ops.toList 0 T none h;have g0:p<ops.size:=be
 have r0:∀j o,ops[j]?=some o->zT E call pan ops p m m' (tr j) o j (tr (j+1)):=by
  grind
 subst t0;have main:∀(fuel:Nat) (listed:Array Bool) (a1:Act) (w1:World),Ev P σ m w σ m w1->listed.size=ops.size->Ic listed ops.size<=fuel->C3 ops p nt tr a.defers σ (λi=>listed.getD i false=true) a1->wpAnyIn (dG none) 0 P .any ops Q fuel listed a1 w1:=by
  have ready_all:∀(listed:Array Bool),listed.size=ops.size->Region.ready .any ops listed=[]->∀i,i<ops.size->listed.getD i false:=by
   intro listed k0 hr i;induction i using Nat.strongRecOn with
   |_ i ih=>
    intro hi;refine Mz λhn=>?_;have⟨o,ho⟩:=CY (ops:=ops) hi
    have:i∈Region.ready .any ops listed:=mem_ready.2 ⟨be,o,ho,λe he hb=>by
     have:=ord.lt i o ho e he hb;grind⟩
    grind
  intro fuel;induction fuel with
  |zero=>intro listed a1 w1 h0 k0 hu h1;have s0:=λi hi=>Be (l:=listed) (k:=ops.size) ac i hi;exact absurd (.inl rfl) (h1.out p (s0 p g0))
  |succ fuel ih=>
   intro listed a1 w1 h0 k0 hu h1;refine⟨λhr=>absurd (.inl rfl) (h1.out p (ready_all listed k0 hr p g0)),λj hj=>?_⟩;obtain⟨r1,o,ho,l0⟩:=mem_ready.1 hj;have i1:j<ops.size:=(Dr.1 ho).1;have n0:¬listed.getD j false=true:=by
    grind
   have b0:¬su ops p j\/j=p:=by
    by_cases j1:j=p;·grind
    refine .inl λu0=>?_;rcases u0.reach with h2|h2;·grind
    have hL:=h2.listed h1.closed be;exact h1.out p hL (.inl rfl)
   have y0:=q0 o be;have hs:=h0.rJ;have e0:kn ops o->∀t,t<nt->t∈fJ ops o->bw σ (jj (tr j) t) (a1.eval (.tmp t)):=λF t ht hn=>h1.names ord r0 n0 b0 ho l0 F ht hn;have hw:kn ops o->cd ops (tr j) o=Region.wanted o (yielded ops a1.tmps):=by
    intro F;refine qu (σ:=σ) λq want d hg hd=>?_;have k1:=hd;simp only[UO]at hd;have⟨o',l1,c1⟩:=hd;have A0:=dL (q0 o' be) d c1;refine⟨by rw[h1.Is];exact A0,e0 F d A0 ?_⟩;unfold fJ;grind
   have i0:kn ops o->∀x∈o.op.operands.toList,bw σ (ev (tr j) x) (a1.eval x):=by
    intro F x hx;have B0:=fm y0 x hx;exact Cy hs (λt ht=>by subst ht;exact e0 F t (qJ B0) (by unfold fJ;simp only[L3];exact .inr (.inl (EK.2 ⟨.tmp t,hx,rfl⟩)))) B0
   have O0:∀{Q:(Nat->Prop)->Prop},Q (λi=>i=j\/listed.getD i false)->Q (λi=>(listed.setIfInBounds j true).getD i false=true):=λ{Q} h=>by
    have:(λi=>(listed.setIfInBounds j true).getD i false=true)=(λi=>i=j\/listed.getD i false):=by
     funext i;exact propext (xC listed ac i)
    grind
   have P0:Ic (listed.setIfInBounds j true) ops.size<=fuel:=by
    have:=EL (l:=listed) (j:=j) ac n0 ops.size;grind
   have next:∀(v v':Φ),tr (j+1)=put (tr j) o.dst v->bw σ v v'->¬su ops p j->wpAnyIn (dG none) 0 P .any ops Q fuel (listed.setIfInBounds j true) (a1.put o.dst v') w1:=λv v' h2 h3 h4=>
    ih _ _ _ h0 be P0 (O0 (Q:=λL=>C3 ops p nt tr a.defers σ L (a1.put o.dst v')) (h1.next ord n0 h4 ho l0 h2 h3))
   unfold wpOpIn;rw[ho];dsimp only;rcases r0 j o ho with⟨_,_,F,d0,m1,hp,d1⟩|⟨j0,hb,_⟩|⟨j0,hb,Q0,_⟩|⟨j0,hb,e1,F,⟨d0,hT⟩|⟨d0,v,m1,o0,hT⟩⟩;·rw[<-hw F,d0,QL rfl];refine⟨λ_ _=>trivial,?_⟩;rw[Oper.semAt_eq _ _ _ (λc hc=>by rw[hc]at hp;simp[lD]at hp)];refine zz p0 (hs.low m.n) hp (i0 F) _ Q λσ' w' he=>k σ' a1 w' h1.defs ?_;rw[d1];exact h0.trans he.Bw
   ·rcases b0 with b0|b0;·exact absurd (.inr hb) b0
    ·grind
   ·obtain⟨hg,b1,t,z,o1, -⟩:=D7 Q0;have d0:Region.wanted o (yielded ops a1.tmps):=by unfold Region.wanted;rw[hg]
    rw[d0,QL rfl];refine⟨λ_ _=>trivial,?_⟩;rw[Oper.semAt_eq _ _ _ be];have⟨v',w2,hr,he⟩:=adp (a:=a1) hE hs Q0;rw[hr];exact ih _ _ _ (h0.trans he) be P0 (O0 (Q:=λL=>C3 ops p nt tr a.defers σ L (a1.put o.dst v')) (h1.Uh (b0.resolve_right j0) ho l0 b1))
   ·rw[<-hw F,d0,MO co];exact⟨λ_ _=>trivial,next undef undef hT bw.undef (b0.resolve_right j0)⟩
   rw[<-hw F,d0,QL rfl];refine⟨λ_ _=>trivial,?_⟩;rw[Oper.semAt_eq _ _ _ (λc hc=>by rw[hc]at o0;simp[dK]at o0)];have⟨v',hr,hv⟩:=GF hE (hs.low m.n) e1 o0 (i0 F);rw[hr];exact next v v' hT hv (b0.resolve_right j0)
 refine main ops.size _ a w (Ev.refl hs) co ?_ ?_
 ·have:∀k,Ic (Array.replicate ops.size false) k<=k:=by
   intro k;induction k with
   |zero=>simp[Ic]
   |succ k ih=>
    unfold Ic;grind
  grind
 have hL:∀i,¬(Array.replicate ops.size false).getD i false=true:=by
  intro i;simp[Se,LO];grind
 exact{
  out:=λi hi=>absurd hi (hL i)
  lt:=λi hi=>absurd hi (hL i)
  closed:=λj o ho hj=>absurd hj (hL j)
  Is:=hf.1
  defs:=rfl
  tmp:=λt ht _=>⟨0,ac,hf.2 t ht,λi o hi=>absurd hi (hL i),λi o _ _ _ hi=>ac⟩}
theorem BH(hE:E.OK P)(cF:cP P call)(g0:xW P iv pan){n:Nat}{dr:Bool}:∀(c:Code) (fr b0:Fr),du nt P.globals.size c->fK c->dW E dr call pan n c fr=some b0->
  ∀(σ:Sg) (a:Act) (w:World) (Q:Exit->Act->World->Prop),dB σ fr.T a nt->eW P σ fr.m w->
  (∀σ' a' w',(dr=false->dB σ' b0.T a' nt)->a'.defers=a.defers->Ev P σ fr.m w σ' b0.m w'->Q (.panic [{v:=iv,recovered:=false}]) a' w')->c.wpIn (dG none) 0 P Q a w:=by intro c;induction c with|region id ops d=>intro fr b0 F _ h σ a w Q hf hs k;unfold du at F;simp only[IG]at F;have e0:∀o∈ops.toList,fo nt P.globals.size o:=RT.1 F.1;unfold dW at h;(cases d with|true=>rw[gc]at h;(cases dr with|false=>cases h|true=>simp only[gc,ZL]at h;obtain⟨m1,h1,rfl⟩:=h;have hd:yJ ops:=be;have hw:Ev P σ fr.m w σ fr.m {w with drawn:=w.drawn+1}:=Ev.of_heap hs rfl rfl rfl rfl;exact wpIn_region_any hE.mixed (Dh hE g0 e0 hd h1 hf hw.rJ λσ' a' w' h2 h3=>k σ' a' w' (λh=>by cases h) h2 (hw.trans h3)))|false=>rw[JC]at h;exact wpIn_region_list (qD hE cF g0 e0 ops.toList e0 fr b0 h σ a w hf rfl hs λσ' a' w' h1 h2 h3=>k σ' a' w' (λ_=>h1) h2 h3))|seq x y h0 i0=>intro fr b0 F d0 h σ a w Q hf hs k;unfold du at F;unfold fK at d0;simp only[IG]at F d0;unfold dW at h;apply wpIn_seq;(cases hx:bF E call n x fr with|none=>rw[hx]at h;exact h0 fr b0 F.1 d0.1 h σ a w _ hf hs k|some p=>have⟨e1,j0⟩:=p;rw[hx]at h;cases e1 with|normal=>refine je hE cF x fr .normal j0 F.1 hx none 0 0 σ a w _ a.defers (.inl rfl) hf hs ⟨[],rfl,trivial⟩ (ZX _) λl0 a1 w1 n0 u0 o0 k0=>?_;exact i0 j0 b0 F.2 d0.2 h l0 a1 w1 Q n0 k0.rJ λp0 a2 w2 q0 r0 s0=>k p0 a2 w2 q0 (r0.trans (o0 d0.1)) (k0.trans s0)|exit id=>cases h|ret=>cases h)|cond c x y h0 i0=>intro fr b0 F d0 h σ a w Q hf hs k;unfold du at F;unfold fK at d0;simp only[IG]at F d0;unfold dW at h;have hc:=hf.BO hs F.1;(cases hv:ev fr.T c with|bool t=>rw[hv]at h hc;apply wpIn_cond hc.bool;(cases t with|true=>exact h0 fr b0 F.2.1 d0.1 h σ a w Q hf hs k|false=>exact i0 fr b0 F.2.2 d0.2 h σ a w Q hf hs k)|_=>rw[hv]at h;cases h)|block id c ih=>intro fr b0 F d0 h σ a w Q hf hs k;unfold du at F;unfold fK at d0;unfold dW at h;exact wpIn_block (ih fr b0 F d0 h σ a w _ hf hs k)|scope c ih=>intro fr b0 F d0 h σ a w Q hf hs k;unfold du at F;unfold fK at d0;unfold dW at h;exact AX (ih fr b0 F d0 h σ a w _ hf hs k)|_=>intro fr b0 _ _ h;simp[dW]at h
theorem Qd(hE:E.OK P){X:aF}{B:iF}(hX:cP P X)(hB:xW P iv B):∀n,xW P iv (jH E X B n)
 |0=>⟨λf args m m' h=>(by unfold jH at h;cases h),λg args m m' h=>(by unfold jH at h;cases h)⟩
 |n+1=>by refine⟨λf args m m' h σ w args' hs hl=>?_,λg args m m' h=>?_⟩;unfold jH at h;split at h;rename_i m1 hb;(cases h;exact hB.func f args m m' hb σ w args' hs hl;split at h;cases h;rename_i fn d0;have e0:=hE.fn f fn d0;have b0:=hE.code d0;split at h;cases h;rename_i body F;cases hc:(Nat.ble args.length fn.ntmps && fK body && (X (.func f) args m).isNone)with|false=>rw[hc]at h;cases h|true=>rw[hc]at h;simp only[gc,ZL]at h;obtain⟨fr,h,rfl⟩:=h;simp only[IG]at hc;have hc:=hc.1;refine⟨?_,pW e0 F b0⟩;unfold ng at b0;rw[F]at b0;simp only[IG]at b0;have g0:=nD (nt:=fn.ntmps) hl (U7 hc.1);apply callsIn_of_wp_marks e0 F trivial;refine BH hE (jZ hE hX n) (Qd hE hX hB n) body _ fr b0.1 hc.2 h σ _ w _ g0 (hs.low m.n) λh0 a1 w1 k0 i0 j0=>?_;show LeavesInM Fence.wide 0 P fn a1.tmps (Gf P iv σ m w _) a1.defers (.panicking _) w1;rw[i0];exact⟨rfl,h0,j0.Bw⟩);cases g with|func f=>exact⟨f,rfl⟩|_=>unfold jH at h;cases h
end
end
section
variable{E:Env}{X:aF}{B:iF}
theorem so{call:aF}{pan:iF}(hp:∀g args m m',pan g args m=some m'->call g args m=none){ops:Array Oper}:∀(l:List Oper) (fr F:Fr),fW E call pan ops l fr=some F->BN E call ops l fr=none
 |[],fr,F,h=>by unfold fW at h;cases h
 |o::l,fr,F,h=>by unfold fW at h;rw[nz];cases hw:cd ops fr.T o with|false=>rw[hw]at h;simp only[JC]at h⊢;exact so hp l _ _ h|true=>rw[hw]at h;simp only[gc]at h⊢;cases ho:dK o.op E call fr.T fr.m with|none=>rfl|some p=>have⟨v,m1⟩:=p;rw[ho]at h;exact so hp l _ _ h
def Bj{o:Op}(hp:jz o){m1 m2:M}(h1:m2.st=m1.st)(h2:m2.n=m1.n):dK o E call T m2=(dK o E call T m1).map λp=>(p.1,m2):=by cases o <;>simp[jz,fO]at hp <;>simp only[dK];(case move=>rfl);(case assign=>rfl);(case pick=>unfold sy;split <;>rfl);(case build=>unfold tX;split <;>rfl);(case load=>have⟨st1,n1,F⟩:=m1;have⟨st2,n2,b0⟩:=m2;simp only at h1 h2;subst h1;subst h2;unfold vr;split;rename_i a _;have:∀t,loadVar E ⟨st2,n2,b0⟩ t a=loadVar E ⟨st2,n2,F⟩ t a:=λt=>(by unfold loadVar D.loadCells D.cellAt;rfl);grind;rfl);(case nilCheck=>unfold iX;split <;>rfl);(case binOp=>unfold D6;split <;>rfl);(case unOp=>unfold MM;split <;>rfl);(case makeFunc=>unfold jJ;split <;>rfl);(case fieldAddr=>unfold jR;split <;>rfl);(case field=>unfold tW;split <;>rfl);(case indexAddr=>unfold jQ;split <;>rfl);(case index=>unfold tV;split <;>rfl);case extract=>unfold lE;grind
theorem qE{call:aF}{pan:iF}(hp:∀g args m m',pan g args m=some m'->call g args m=none){ops:Array Oper}{p:Nat}{m m':M}:∀(l:List Oper) (j:Nat) (T:Tr Φ) (r:Option M) (m0:M),m0.st=m.st->m0.n=m.n->
  dw E call pan ops p m l j T r=some m'->j<=p->p<j+l.length->qk E call ops l j ⟨T,m0⟩=none
 |[],j,T,r,m0,_,_,h,h1,h2=>be
 |o::l,j,T,r,m0,e1,e2,h,h1,h2=>by simp only[Vz]at h2;have e3:({m0 with low:=m0.n}:M)={m with low:=m.n}:=(by grind);unfold dw at h;rw[lL];cases b0:Nat.beq j p with|true=>rw[b0,gc]at h;(cases hw:(kn ops o && cd ops T o)with|false=>rw[hw]at h;cases h|true=>rw[hw,gc]at h;simp only[IG]at hw;have hw:=hw.2;split at h;rename_i m1 h3;simp only[hw,gc];have:dK o.op E call T {m0 with low:=m0.n}=none:=(by rw[e3];unfold lD at h3;split at h3;rename_i c hc;split at h3;rename_i f hf;split at h3;(rename_i g first captured hg;rw[hc];simp only[dK,od,hf,hg,hp _ _ _ _ h3]);cases h3;cases h3;cases h3);grind;cases h)|false=>have g0:j≠p:=λe=>dg;have d0:Nat.blt p j=false:=(by rw[kN];simp;omega);have hb:behind ops p j=false:=(by unfold behind;grind);rw[b0,JC,hb,d0,F7,U4,JC]at h;cases F:(jz o.op && kn ops o)with|false=>rw[F]at h;cases h|true=>rw[F,gc]at h;simp only[IG]at F;have F:=F.1;cases hw:cd ops T o with|false=>rw[hw,JC]at h;simp only[hw,JC];exact qE hp l (j+1) _ r m0 e1 e2 h ac ac|true=>rw[hw,gc]at h;simp only[hw,gc];split at h;rename_i v m1 h3;have h4:=Bj (E:=E) (call:=call) (T:=T) (m1:={m with low:=m.n}) (m2:={m0 with low:=m0.n}) F e1 e2;rw[h3]at h4;simp only[Br]at h4;rw[h4];simp only;have e0:Nat.ble m0.n m0.n:=Nat.ble_self_eq_true m0.n;rw[e0];simp only[N4,gc];exact qE hp l (j+1) _ r _ e1 e2 h ac ac;cases h
def yF{pan:iF}(hp:∀g args m m',pan g args m=some m'->call g args m=none){n:Nat}{dr:Bool}:∀(c:Code) (fr F:Fr),dW E dr call pan n c fr=some F->bF E call n c fr=none:=by intro c;induction c with|region id ops d=>intro fr F h;unfold dW at h;(cases d with|true=>rw[gc]at h;(cases dr with|false=>cases h|true=>simp only[gc,ZL]at h;obtain⟨m1,h1,rfl⟩:=h;unfold bF;obtain⟨_,e0,_⟩:=fa _ _ _ _ h1;have:=qE hp ops.toList 0 fr.T none fr.m rfl rfl h1 (ZX _) (e0 rfl);simp only[gc,this,TZ])|false=>unfold bF;have h:fW E call pan ops ops.toList fr=some F:=h;have:=so hp _ _ _ h;simp only[JC,this,TZ])|seq x y d0 b0=>intro fr F h;unfold dW at h;unfold bF;(cases hx:bF E call n x fr with|none=>rfl|some p=>have⟨e1,g0⟩:=p;rw[hx]at h;cases e1 with|normal=>exact b0 _ _ h|exit id=>cases h|ret=>cases h)|cond c x y d0 b0=>intro fr F h;unfold dW at h;unfold bF;(cases hv:ev fr.T c with|bool t=>rw[hv]at h;(cases t with|true=>exact d0 _ _ h|false=>exact b0 _ _ h)|_=>rfl)|block id c ih=>intro fr F h;unfold dW at h;unfold bF;rw[ih _ _ h]|scope c ih=>intro fr F h;unfold dW at h;unfold bF;exact ih _ _ h|_=>intro fr F h;simp[dW]at h
theorem GW(hB:∀g args m m',B g args m=some m'->∀n,bT E X n g args m=none):∀n g args m m',jH E X B n g args m=some m'->bT E X n g args m=none
 |0,g,args,m,m',h=>by unfold jH at h;cases h
 |n+1,g,args,m,m',h=>by have h0:=h;cases g with|func f=>unfold jH at h;split at h;grind;split at h;cases h;rename_i fn d0;split at h;cases h;rename_i body b0;(cases F:(Nat.ble args.length fn.ntmps && fK body && (X (.func f) args m).isNone)with|false=>rw[F]at h;cases h|true=>rw[F]at h;simp only[gc,ZL]at h;obtain⟨fr,h,rfl⟩:=h;have:=yF (GW hB n) _ _ _ h;simp only[IG]at F;have e0:X (.func f) args m=none:=Option.isNone_iff_eq_none.1 F.2;have F:=F.1;unfold bT;grind)|_=>unfold jH at h;cases h
noncomputable section
variable (E:Env) (X:aF) (B:iF)
def Cp(f:Fn)(args:Ω)(m:M)(b:Nat)(m':M):Prop:=
 m.n<=m'.n/\b<=m.n/\∃F,∀n,F<=n->∀l,l<=m.n->jH E X B n f args (m.wl l)=some (m'.wl (min l b))
@[reducible] def eE:Fn->Ω->M->(M->Nat->Prop)->Prop:=λg args m P=>∃m1 b,Cp E X B g args m b m1/\P m1 b
variable (W:Words) (CP:Fn->Ω->M->(M->Nat->Prop)->Prop)
def GX(o:Op)(K:KT)(m:M)(lo:Nat)(PN:M->Nat->Prop):Prop:=match o with
 |.call c=>match c.callee with
  |.value f=>aS (mV K f) λf=>rK f λg F ca=>aS (Cz K c.args.toList) λargs=>CP g (F.toList++(args++ca.toList)) m λm1 b=>PN m1 (min lo b)
  |_=>False
 |_=>False
def Ba(ops:Array Oper):List Oper->St->(M->Nat->Prop)->Prop
 |[],_,_=>False
 |o::rest,s,F=>stq s λs=>DM ops s.K o
   (λK=>match FF o.op with
    |true=>GX CP o.op K s.m s.lo F\/Wt E W o.op false none K s.m s.lo λv m lo=>Ba ops rest ⟨pg K o.dst (.v v),m,lo⟩ F
    |false=>Wt E W o.op false none K s.m s.lo λv m lo=>Ba ops rest ⟨pg K o.dst (.v v),m,lo⟩ F)
   (λK=>Ba ops rest ⟨pg K o.dst .u,s.m,s.lo⟩ F)
def HP:Code->Bool
 |.region _ ops _=>ops.toList.any λo=>FF o.op
 |.seq a b=>HP a ||HP b
 |.cond _ x y=>HP x ||HP y
 |.block _ c=>HP c
 |.scope c=>HP c
 |_=>false
def uZ(ops:Array Oper)(p:Nat):List Oper->Nat->St->(M->Nat->Prop)->Prop
 |[],_,_,_=>True
 |o::rest,j,s,F=>match Nat.beq j p with
  |true=>match kn ops o with
   |true=>DM ops s.K o (λK=>GX CP o.op K s.m s.lo F/\uZ ops p rest (j+1) ⟨K,s.m,s.lo⟩ F) (λ_=>False)
   |false=>False
  |false=>match behind ops p j ||(Nat.blt p j && wN E o)with
   |true=>uZ ops p rest (j+1) s F
   |false=>match jz o.op && kn ops o with
    |true=>DM ops s.K o (λK=>Wt E W o.op false none K s.m s.lo λv _ _=>uZ ops p rest (j+1) ⟨pg K o.dst (.v v),s.m,s.lo⟩ F) (λK=>uZ ops p rest (j+1) ⟨pg K o.dst .u,s.m,s.lo⟩ F)
    |false=>False
def Gu(dr:Bool):Code->Nat->St->(M->Nat->Prop)->Prop
 |.region _ ops d,_,s,F=>match d with
  |true=>(match dr && Nat.blt (CM ops) ops.size with
   |true=>uZ E W CP ops (CM ops) ops.toList 0 s F
   |false=>False)
  |false=>Ba E W CP ops ops.toList s F
 |.seq a b,rd,s,F=>match HP a with
  |true=>Gu dr a rd s F\/zU E W a (Nat.lor (reads b) rd) s (λe s'=>e.NY (Gu dr b rd s' F) False)
  |false=>zU E W a (Nat.lor (reads b) rd) s (λe s'=>e.NY (Gu dr b rd s' F) False)
 |.cond c x y,rd,s,F=>aS (mV s.K c) λv=>iU v (Gu dr x rd s F) (Gu dr y rd s F)
 |.block _ c,rd,s,F=>Gu dr c rd s F
 |.scope c,rd,s,F=>Gu dr c rd s F
 |_,_,_,_=>False
def Bb(fn:Func)(args:Ω)(m:M)(PN:M->Nat->Prop):Prop:=
 match fn.body with
 |some body=>match fK body with |true=>Gu E W CP true body (bitsOf (D1 fn.results.toList) 0) ⟨sW args 0,m,m.n⟩ PN |false=>False
 |none=>False
end
section
variable {E:Env} {X:aF} {B:iF}
def BG{o:Op}{K:KT}(h:GX (eE E X B) o K m lo PN)(F:Kn K T)(b0:lo<=m.n):
  ∃m1 b,PN m1 (min lo b)/\m.n<=m1.n/\b<=m.n/\∃n0,∀n,n0<=n->lD (jH E X B n) T (m.wl lo) o=some (m1.wl (min lo b))/\
   ∀call:aF,(∀g args m m',jH E X B n g args m=some m'->call g args m=none)->dK o E call T (m.wl lo)=none:=by unfold GX at h;split at h;rename_i c;split at h;rename_i f hf;have⟨_,h1,h⟩:=bC.1 h;obtain⟨g,fi,ca,rfl,h⟩:=sB.1 h;have⟨args,h2,m1,b,⟨hn,hb,n0,hc⟩,hP⟩:=bC.1 h;refine⟨m1,b,hP,hn,hb,n0,λn hn=>?_⟩;have e:=hc n hn lo b0;refine⟨?_,λcall cF=>?_⟩;simp only[lD,hf,bD F h1,jg F h2,e];simp only[dK,od,hf,bD F h1,jg F h2,cF _ _ _ _ e];grind;grind
variable (hN:∀n g args m m',jH E X B n g args m=some m'->bT E X n g args m=none)
include hN
theorem rP{ops:Array Oper}:∀(l:List Oper) (s:St) (PN:M->Nat->Prop),Ba E (aG E X) (eE E X B) ops l s PN->∀T,Kn s.K T->s.lo<=s.m.n->
  ∃m1 e0 T',PN m1 e0/\s.m.n<=m1.n/\e0<=m1.n/\(∀t,(∀o∈l,∀d,o.dst=some d->d≠t)->T'.get t=T.get t)/\∃n0,∀n,n0<=n->fW E (bT E X n) (jH E X B n) ops l ⟨T,s.m.wl s.lo⟩=some ⟨T',m1.wl e0⟩
 |[],s,PN,h,T,hk,b0=>h.elim
 |o::rest,s,PN,h,T,hk,b0=>by unfold Ba at h;rw[Pn]at h;obtain⟨K1,hk,⟨hw,h⟩|⟨hw,h⟩⟩:=oI h hk;have h:GX (eE E X B) o.op K1 s.m s.lo PN\/Wt E (aG E X) o.op false none K1 s.m s.lo λv m lo=>Ba E (aG E X) (eE E X B) ops rest ⟨pg K1 o.dst (.v v),m,lo⟩ PN:=(by revert h;cases FF o.op with|true=>exact id|false=>exact .inr);rcases h with h|h;have⟨m1,b,hP,hn,hb,n0,hr⟩:=BG h hk b0;refine⟨m1,_,T,hP,hn,ac,λ_ _=>rfl,n0,λn hn=>?_⟩;have⟨e1,e2⟩:=hr n hn;unfold fW;rw[qw hw];dsimp only[gc];rw[e2 _ (hN n)];dsimp only;rw[e1];rfl;have⟨v,m1,w,g0,j0,_,n1,i0⟩:=yi h hk b0;obtain⟨m2,ja,T',hP,F,d0,hT,n2,hr⟩:=rP rest _ PN g0 (put T o.dst v) (hk.put _ (.v v)) (by show min s.lo w<=m1.n;omega);dsimp only at F hr;refine⟨m2,ja,T',hP,ac,d0,λt ht=>?_,max n1 n2,λn hn=>?_⟩;rw[hT t λo' h0=>ht o' (De _ h0),ny _ _ _ _ (ht o UA)];unfold fW;rw[qw hw];dsimp only[gc];rw[i0 n ac s.lo b0];exact hr n ac;obtain⟨m2,ja,T',hP,F,d0,hT,n2,hr⟩:=rP rest _ PN h (put T o.dst undef) (hk.put _ .u) b0;refine⟨m2,ja,T',hP,F,d0,λt ht=>?_,n2,λn hn=>?_⟩;rw[hT t λo' h0=>ht o' (De _ h0),ny _ _ _ _ (ht o UA)];unfold fW;rw[qw hw];exact hr n hn
omit hN in
theorem kg{ops:Array Oper}{p:Nat}:∀(l:List Oper) (j:Nat) (s:St) (PN:M->Nat->Prop),uZ E (aG E X) (eE E X B) ops p l j s PN->∀T,Kn s.K T->s.lo<=s.m.n->
  (j<=p->p < j+l.length->∃m1 F,PN m1 F/\s.m.n<=m1.n/\F<=m1.n/\∃n0,∀n,n0<=n->dw E (bT E X n) (jH E X B n) ops p (s.m.wl s.lo) l j T none=some (m1.wl F))/\
  (p < j->∃n0,∀n,n0<=n->∀m1,dw E (bT E X n) (jH E X B n) ops p (s.m.wl s.lo) l j T (some m1)=some m1)
 |[],j,s,PN,h,T,hk,d0=>⟨λh1 h2=>(by simp only[Vt]at h2;omega),λ_=>⟨0,λn _ m1=>rfl⟩⟩
 |o::rest,j,s,PN,h,T,hk,d0=>by unfold uZ at h;simp only[Vz];cases b0:Nat.beq j p with|true=>obtain rfl:=VA b0;rw[b0]at h;dsimp only at h;(cases i0:kn ops o with|false=>rw[i0]at h;exact h.elim|true=>rw[i0]at h;obtain⟨K1,hk,⟨hw,h⟩ |⟨hw,h⟩⟩:=oI h hk;have⟨ha,hb⟩:=h;refine⟨λ_ _=>?_,λhh=>ac⟩;obtain⟨n2,hr⟩:=(kg rest (j+1) _ PN hb T hk d0).2 ac;obtain⟨m1,b,hP,hn,o0,n0,hp⟩:=BG (lo:=s.m.n) (PN:=λm1 F=>PN m1 (min s.lo F)) (by have:∀{o K m} {PN:M->Nat->Prop} {lo:Nat},lo<=m.n->GX (eE E X B) o K m lo PN->GX (eE E X B) o K m m.n (λm1 F=>PN m1 (min lo F)):=(by intro o K m PN lo d0 hh;unfold GX at hh⊢;split at hh;split at hh;rename_i f hf;have⟨f',h1,hh⟩:=bC.1 hh;obtain⟨g,fi,ca,rfl,hh⟩:=sB.1 hh;have⟨args,h2,m1,b,hC,hP⟩:=bC.1 hh;refine bC.2 ⟨_,h1,sB.2 ⟨g,fi,ca,rfl,bC.2 ⟨args,h2,m1,b,hC,?_⟩⟩⟩;have hb:=hC.2.1;show PN m1 (min lo (min m.n b));rw[Nat.min_eq_right hb];exact hP;exact hh;exact hh);exact this d0 ha) hk (Aj _);refine⟨m1,min s.lo (min s.m.n b),hP,hn,ac,max n0 n2,λn p0=>?_⟩;obtain⟨q1,_⟩:=hp n ac;unfold dw;rw[b0,gc,i0,hw,QJ,gc];have e1:lD (jH E X B n) T {s.m.wl s.lo with low:=(s.m.wl s.lo).n} o.op=some (m1.wl (min s.m.n b)):=q1;rw[e1];exact hr n ac _;exact h.elim)|false=>rw[b0]at h;have q0:j≠p:=λe=>(by rw[e,WD]at b0;cases b0);dsimp only at h;cases hb:(behind ops p j ||(Nat.blt p j && wN E o))with|true=>rw[hb]at h;have⟨i1,i2⟩:=kg rest (j+1) s PN h T hk d0;refine⟨λh1 h2=>?_,λh1=>?_⟩;obtain⟨m1,F,hP,hn,e0,n0,hr⟩:=i1 ac ac;refine⟨m1,F,hP,hn,e0,n0,λn hn=>?_⟩;unfold dw;rw[b0,JC,hb,gc];exact hr n hn;obtain⟨n0,hr⟩:=i2 ac;refine⟨n0,λn hn m1=>?_⟩;unfold dw;rw[b0,JC,hb,gc];exact hr n hn m1|false=>rw[hb]at h;dsimp only at h;cases g0:(jz o.op && kn ops o)with|false=>rw[g0]at h;exact h.elim|true=>rw[g0]at h;have k0:jz o.op=true:=(by simp only[IG]at g0;exact g0.1);obtain⟨K1,hk,⟨hw,h⟩ |⟨hw,h⟩⟩:=oI h hk;have⟨v,m1,w,j0,_,_,n1,l0⟩:=yi h hk d0;obtain⟨i1,i2⟩:=kg rest (j+1) _ PN j0 (put T o.dst v) (hk.put _ (.v v)) d0;have h0:∀n,n1<=n->∃m2,dK o.op E (bT E X n) T {s.m.wl s.lo with low:=(s.m.wl s.lo).n}=some (v,m2):=λn hn=>(by have e:=Bj (E:=E) (call:=bT E X n) (T:=T) (m1:=s.m.wl s.lo) (m2:={s.m.wl s.lo with low:=(s.m.wl s.lo).n}) k0 rfl rfl;rw[l0 n hn s.lo d0]at e;exact⟨_,e⟩);refine⟨λh1 h2=>?_,λh1=>?_⟩;obtain⟨m1,F,hP,hn,e0,n0,hr⟩:=i1 ac ac;refine⟨m1,F,hP,hn,e0,max n0 n1,λn hn=>?_⟩;obtain⟨m2,e2⟩:=h0 n ac;unfold dw;rw[b0,JC,hb,JC,g0,gc,hw,gc,e2];exact hr n ac;obtain⟨n0,hr⟩:=i2 ac;refine⟨max n0 n1,λn hn m1=>?_⟩;obtain⟨m2,e2⟩:=h0 n ac;unfold dw;rw[b0,JC,hb,JC,g0,gc,hw,gc,e2];exact hr n ac m1;obtain⟨i1,i2⟩:=kg rest (j+1) _ PN h (put T o.dst undef) (hk.put _ .u) d0;refine⟨λh1 h2=>?_,λh1=>?_⟩;obtain⟨m1,F,hP,hn,e0,n0,hr⟩:=i1 ac ac;refine⟨m1,F,hP,hn,e0,n0,λn hn=>?_⟩;unfold dw;rw[b0,JC,hb,JC,g0,gc,hw,JC];exact hr n hn;obtain⟨n0,hr⟩:=i2 ac;refine⟨n0,λn hn m1=>?_⟩;unfold dw;rw[b0,JC,hb,JC,g0,gc,hw,JC];exact hr n hn m1
theorem jP{dr:Bool}:∀(c:Code) (rd:Nat) (s:St) (PN:M->Nat->Prop),Gu E (aG E X) (eE E X B) dr c rd s PN->∀T,Kn s.K T->s.lo<=s.m.n->
  ∃m1 b0 T',PN m1 b0/\s.m.n<=m1.n/\b0<=m1.n/\(∀t,t∉assigned c->T'.get t=T.get t)/\∃n0,∀n,n0<=n->dW E dr (bT E X n) (jH E X B n) n c ⟨T,s.m.wl s.lo⟩=some ⟨T',m1.wl b0⟩
 |.region id ops d,_,s,PN,h,T,hk,d0=>by unfold Gu at h;(cases d with|true=>dsimp only at h;(cases hc:(dr && Nat.blt (CM ops) ops.size)with|false=>rw[hc]at h;exact h.elim|true=>rw[hc]at h;simp only[IG]at hc;obtain⟨rfl,e0⟩:=hc;rw[kN]at e0;have e0:CM ops<ops.toList.length:=(by simpa using e0);obtain⟨m1,b0,hP,hn,F,hr⟩:=(kg ops.toList 0 s PN h T hk d0).1 (ZX _) ac;refine⟨m1,b0,T,hP,hn,F,λt ht=>rfl,?_⟩;have⟨n0,hr⟩:=hr;refine⟨n0,λn hn=>?_⟩;unfold dW;simp only[gc,hr n hn,Br])|false=>have⟨m1,b0,T',hP,hn,F,hT,n0,hr⟩:=rP hN ops.toList s PN h T hk d0;refine⟨m1,b0,T',hP,hn,F,λt ht=>hT t λo ho d hd e=>ht ?_,n0,λn hn=>?_⟩;subst e;unfold assigned;exact EK.2 ⟨o,ho,hd⟩;unfold dW;exact hr n hn)
 |.seq a b,rd,s,PN,h,T,hk,d0=>by unfold Gu at h;have h:Gu E (aG E X) (eE E X B) dr a rd s PN\/zU E (aG E X) a (Nat.lor (reads b) rd) s (λe s'=>e.NY (Gu E (aG E X) (eE E X B) dr b rd s' PN) False):=(by revert h;cases HP a with|true=>exact id|false=>exact .inr);(rcases h with h|h;have⟨m1,b0,T',hP,hn,F,hT,n0,hr⟩:=jP a rd s PN h T hk d0;refine⟨m1,b0,T',hP,hn,F,λt ht=>hT t λh=>ht (by unfold assigned;exact Ui _ h),n0,λn hn=>?_⟩;have e1:=hr n hn;unfold dW;rw[yF (hN n) _ _ _ e1];exact e1;obtain⟨e,s1,T1,h1,i0,j0,g0,n1,h0⟩:=dV a _ s _ h T hk d0;cases e with|normal=>have⟨m1,b0,T',hP,hn,F,hT,n0,hr⟩:=jP b rd s1 PN h1 T1 i0 g0;refine⟨m1,b0,T',hP,ac,F,λt ht=>?_,max n0 n1,λn hn=>?_⟩;rw[hT t λh=>ht (by unfold assigned;exact H2 _ h)];exact ew a _ _ _ (h0 n1 (Aj _)) λh=>ht (by unfold assigned;exact Ui _ h);unfold dW;rw[h0 n ac];exact hr n ac|exit id=>exact h1.elim|ret=>exact h1.elim)
 |.cond c x y,rd,s,PN,h,T,hk,d0=>by unfold Gu at h;have⟨_,hb,h⟩:=bC.1 h;obtain⟨b,rfl,h⟩:=AJ.1 h;(cases b with|true=>have⟨m1,b0,T',hP,hn,F,hT,n0,hr⟩:=jP x rd s PN h T hk d0;refine⟨m1,b0,T',hP,hn,F,λt ht=>hT t λh=>ht (by unfold assigned;exact Ui _ h),n0,λn hn=>?_⟩;unfold dW;rw[bD hk hb];exact hr n hn|false=>have⟨m1,b0,T',hP,hn,F,hT,n0,hr⟩:=jP y rd s PN h T hk d0;refine⟨m1,b0,T',hP,hn,F,λt ht=>hT t λh=>ht (by unfold assigned;exact H2 _ h),n0,λn hn=>?_⟩;unfold dW;rw[bD hk hb];exact hr n hn)
 |.block id c,rd,s,PN,h,T,hk,d0=>by unfold Gu at h;have⟨m1,b0,T',hP,hn,F,hT,n0,hr⟩:=jP c rd s PN h T hk d0;refine⟨m1,b0,T',hP,hn,F,λt ht=>hT t λh=>ht (by unfold assigned;exact h),n0,λn hn=>?_⟩;unfold dW;exact hr n hn
 |.scope c,rd,s,PN,h,T,hk,d0=>by unfold Gu at h;have⟨m1,b0,T',hP,hn,F,hT,n0,hr⟩:=jP c rd s PN h T hk d0;refine⟨m1,b0,T',hP,hn,F,λt ht=>hT t λh=>ht (by unfold assigned;exact h),n0,λn hn=>?_⟩;unfold dW;exact hr n hn
 |.skip,_,_,_,h,_,_,_=>h.elim
 |.label _,_,_,_,h,_,_,_=>h.elim
 |.loop _,_,_,_,h,_,_,_=>h.elim
 |.rangeFunc ..,_,_,_,h,_,_,_=>h.elim
 |.exit _,_,_,_,h,_,_,_=>h.elim
 |.ret,_,_,_,h,_,_,_=>h.elim
 |.goto _,_,_,_,h,_,_,_=>h.elim
 |.refuse _,_,_,_,h,_,_,_=>h.elim
theorem Cp.body(hf:E.fn.get f=some fn)(hl:Nat.ble args.length fn.ntmps)(hX:Gk X f)(hb:∀args m,B (.func f) args m=none)(h:Bb E (aG E X) (eE E X B) fn args m PN):
  ∃m' lo,PN m' lo/\Cp E X B (.func f) args m (min m.n lo) m':=by unfold Bb at h;split at h;rename_i body b0;have d0:fK body:=(by revert h;cases fK body with|true=>exact λ_=>rfl|false=>exact λh=>h.elim);rw[d0]at h;obtain⟨m1,F,T',hP,hn,e0,hT,n0,hr⟩:=jP hN _ _ _ _ h (enter args 0) (nF _ _) (Aj _);refine⟨m1,F,hP,hn,CW _ _,n0+1,λn hn l g0=>?_⟩;obtain⟨n,rfl⟩:∃k,n=k+1:=⟨n-1,ac⟩;have e1:dW E true (bT E X n) (jH E X B n) n body {T:=enter args 0,m:={m.wl l with low:=(m.wl l).n}}=some ⟨T',m1.wl F⟩:=hr n ac;unfold jH;simp only[hb,hf,b0,hl,d0,hX _ _,Ul,QJ,gc,e1,Br];show some (m1.wl (min l F))=some (m1.wl (min l (min m.n F)));congr 2;omega;exact h.elim
end
end
section
noncomputable section
variable (E:Env)
def lW:List Oper->Tr Φ->Option (Tr Φ)
 |[],T=>some T
 |o::os,T=>match o.guard,o.op with
  |none,.assign x=>lW os (put T o.dst (ev T x))
  |none,.move x=>lW os (put T o.dst (ev T x))
  |_,_=>none
def nT(r:Φ):List Oper->Tr Φ->Option (Tr Φ)
 |[],_=>none
 |o::os,T=>match o.guard,o.op with
  |none,.call c=>match c.callee with
   |.builtin .recover=>bif c.args.toList.isEmpty then lW os (put T o.dst r)else none
   |_=>none
  |_,_=>none
def uU(r:Φ)(ex:Code->Fr->Option (Ex×Fr))(g:Nat)(args:Ω)(m:M):Option M:=
 match E.cl.get g with
 |some c=>
  bif Nat.ble args.length c.fn.ntmps && (c.fn.results.toList.isEmpty && fK c.rest)then
   match nT r c.ops.toList (enter args 0)with
   |some T=>match ex c.rest {T:=T,m:={m with low:=m.n}}with
    |some (.exit _,_) |none=>none
    |some (_,fr)=>some {fr.m with low:=min m.low fr.m.low}
   |none=>none
  else none
 |none=>none
def jN(X:aF)(B:iF)(r:Φ)(n:Nat)(d:Ly)(args:Ω)(m:M):Option (Φ×M):=
 bif Nat.ble args.length d.fn.ntmps && fK d.post then
  match mP (bF E (bT E X n) n) d.pre {T:=enter args 0,m:={m with low:=m.n}}with
  |some (.normal,fr)=>
   match d.mf.guard,d.mf.dst,d.mf.op,d.de.guard,d.de.op with
   |none,some td,.makeFunc (.func g) fi ca,none,.defer c=>
    match c.callee with
    |.value (.tmp t)=>
     bif Nat.beq t td && (c.args.toList.isEmpty && fi.toList.isEmpty)then
      match dW E false (bT E X n) (jH E X B n) n d.post {T:=put (put fr.T (some td) (.func (.func g) #[] (ca.toList.map (ev fr.T)).toArray)) d.de.dst undef,m:=fr.m}with
      |none=>none
      |some F=>match uU E r (bF E (bT E X n) n) g (ca.toList.map (ev fr.T)) F.m with
       |some m3=>Dm E d.fn m {F with m:=m3}
       |none=>none
     else none
    |_=>none
   |_,_,_,_,_=>none
  |_=>none
 else none
end
variable{E:Env}{P:Program}{call:aF}{nt:Nat}{σ σ':Sg}{m m':M}{w w':World}{a:Act}{r:Φ}
theorem BT{ops:Array Oper}(d0:∀o∈ops.toList,fo nt P.globals.size o){n:Nat}{cs:List Frame}(hs:eW P σ m w){Q:Exit->Act->List Frame->World->Prop}{ds:List Deferred}{T':Tr Φ}:
  ∀(l:List Oper) (i:Nat) (T:Tr Φ) (a:Act),(∀j o,l[j]?=some o->ops[i+j]?=some o)->lW l T=some T'->dB σ T a nt->a.defers=ds->
  (∀a',dB σ T' a' nt->a'.defers=ds->Q .normal a' cs w)->wpOpsSIn Fence.wide n P ops Q (List.range' i l.length) a cs w
 |[],i,T,a,_,h,hf,hd,hQ=>by cases h;simp only[Vt,List.range'_zero,wpOpsSIn];grind
 |o::l,i,T,a,hi,h,hf,hd,hQ=>by have ho:ops[i]?=some o:=(by have:=hi 0 o rfl;simpa using this);have h0:o∈ops.toList:=be;have e0:=d0 o h0;(have next:∀(v v':Φ),lW l (put T o.dst v)=some T'->bw σ v v'->wpOpsSIn Fence.wide n P ops Q (List.range' (i+1) l.length) (a.put o.dst v') cs w:=λv v' h1 h2=>BT d0 hs l (i+1) _ _ (λj o' hj=>by have:=hi (j+1) o' be;rw[show i+1+j=i+(j+1) by omega];exact this) h1 (hf.put (dL e0) h2) (by rw[put_defers];exact hd) hQ);simp only[Vz,LD,wpOpsSIn,ho];refine⟨λ_ _=>trivial,?_⟩;unfold lW at h;have hw:o.guard=none->Region.wanted o (yielded ops a.tmps):=(by intro hg;unfold Region.wanted;rw[hg]);have F:∀x∈o.op.operands.toList,bw σ (ev T x) (a.eval x):=λx hx=>hf.BO hs (fm e0 x hx);split at h;(·rename_i x hg g0;rw[QL (hw hg)];have b0:(execOp a.eval o).run P w=.ok (.value (a.eval x)) w:=(by unfold execOp;simp_all);rw[b0];exact next _ _ h (F x (by rw[g0];simp[Op.operands])));(·rename_i x hg g0;rw[QL (hw hg)];have b0:(execOp a.eval o).run P w=.ok (.value (a.eval x)) w:=(by unfold execOp;simp_all);rw[b0];exact next _ _ h (F x (by rw[g0];simp[Op.operands])));cases h
def GP(b0:∀o∈ops.toList,fo nt P.globals.size o){n:Nat}{F:Frame}{cs:List Frame}(hu:F.mode=.panicking [{v:=r,recovered:=false}])(hr:bO r)(hs:eW P σ m w){Q:Exit->Act->List Frame->World->Prop}{ds:List Deferred}{T T':Tr Φ}{a:Act}
  (h:nT r ops.toList T=some T') (hf:dB σ T a nt) (hd:a.defers=ds)
  (hQ:∀a',dB σ T' a' nt->a'.defers=ds->Q .normal a' ({F with mode:=.panicking [{v:=r,recovered:=true}]}::cs) w):wpOpsSIn Fence.wide n P ops Q (List.range' 0 ops.toList.length) a (F::cs) w:=by cases hl:ops.toList with|nil=>rw[hl]at h;cases h|cons o l=>rw[hl]at h;have ho:ops[0]?=some o:=(by rw[<-vO,hl];rfl);have d0:o∈ops.toList:=be;have e0:=b0 o d0;simp only[Vz,LD,wpOpsSIn,ho];refine⟨λ_ _=>trivial,?_⟩;unfold nT at h;dsimp only at h;split at h;rename_i c hg j0;have hw:Region.wanted o (yielded ops a.tmps):=(by unfold Region.wanted;rw[hg]);rw[QL hw];split at h;rename_i hc;(cases g0:c.args.toList.isEmpty with|false=>rw[g0]at h;cases h|true=>rw[g0,gc]at h;have h0:(execOp a.eval o).run P w=.ok .recover w:=(by unfold execOp;rw[j0];unfold resolve;dsimp only;rw[hc];simp only[WJ,FT,L6,invoke,Go.builtin]);rw[h0];have i0:recoverD (F::cs)=some (r,{F with mode:=.panicking [{v:=r,recovered:=true}]}::cs):=(by simp[recoverD,hu]);simp only[i0];refine BT b0 hs l 1 _ _ (λj o' hj=>?_) h (hf.put (dL e0) (.flat _ hr)) (by rw[put_defers];exact hd) hQ;rw[<-vO,hl,show 1+j=j+1 by omega];exact hj);cases h;cases h
theorem JB(hE:E.OK P)(cF:cP P call){n:Nat}{g:Nat}{args:Ω}{m3:M}(hr:bO r)(h:uU E r (bF E call n) g args m=some m3){args':Array Φ}(hs:eW P σ m w)(hl:bK σ args args'.toList):
  CallsDIn Fence.wide 0 P g args' (.panicking [{v:=r,recovered:=false}]) w (λe u' w'=>u'=.panicking [{v:=r,recovered:=true}]/\∃v,e=.returned v/\∃σ',Ev P σ m w σ' m3 w')/\(callFunc g args').run P w=.ok (.enter g args') w:=by
 unfold uU at h;split at h
 ·rename_i c hc;have⟨i0,b0⟩:=hE.cl g c hc;have d0:=hE.Wf hc;refine⟨?_,pW i0 b0 d0⟩;unfold ng at d0;rw[b0]at d0;simp only[IG]at d0;cases hb:(Nat.ble args.length c.fn.ntmps && (c.fn.results.toList.isEmpty && fK c.rest))with
  |false=>rw[hb]at h;cases h
  |true=>
   rw[hb]at h;simp only[gc]at h;simp only[IG,Qz]at hb;have⟨hle,A0,n0⟩:=hb;have hle:=U7 hle;have F:=d0.1;unfold du at F;simp only[IG]at F;have e0:=F.1;unfold du at e0;simp only[IG]at e0;have j0:∀o∈c.ops.toList,fo c.fn.ntmps P.globals.size o:=RT.1 e0.1;have k0:=nD (nt:=c.fn.ntmps) hl hle;split at h
   ·rename_i T hT
    have fin:∀(e:Ex) (fr:Fr),e=.normal\/e=.ret->bF E call n c.rest {T:=T,m:={m with low:=m.n}}=some (e,fr)->m3={fr.m with low:=min m.low fr.m.low}->
      CallsDIn Fence.wide 0 P g args' (.panicking [{v:=r,recovered:=false}]) w (λe u' w'=>u'=.panicking [{v:=r,recovered:=true}]/\∃v,e=.returned v/\∃σ',Ev P σ m w σ' m3 w'):=by
     intro e fr h0 hex hm;subst hm;refine callsDIn_of_wpSIn i0 b0 trivial λg0 cs hu=>wpSIn_seq (wpSIn_region ?_);rw[MH,<-WG];refine GP (nt:=c.fn.ntmps) j0 hu hr hs hT k0 rfl λa' o0 p0=>?_;refine wpSIn_of_wpIn rfl ?_;refine je hE cF c.rest _ e fr F.2 hex none 0 w.heap.size σ a' w _ [] (.inl rfl) o0 (hs.low m.n) ⟨[],be,trivial⟩ (Aj _) λq0 a1 w1 B0 O0 r0 s0=>?_;have l0:a1.defers=[]:=(r0 n0).trans p0;have u0:(results c.fn a1.tmps).run P w1=.ok (.tuple #[]) w1:=by
      have:c.fn.results= #[]:=MX dg;unfold results;simp_all
     have hq:a1.defers=[]/\∃u',({g0 with mode:=.panicking [{v:=r,recovered:=true}]}:Frame)::cs={g0 with mode:=u'}::cs/\∃v,(results c.fn a1.tmps).run P w1=.ok v w1/\
       (u'=.panicking [{v:=r,recovered:=true}]/\∃v',Ending.returned v=.returned v'/\∃σ',Ev P σ m w σ' {fr.m with low:=min m.low fr.m.low} w1):=
      ⟨l0,_,rfl,_,u0,rfl,_,rfl,q0,s0.Bw⟩
     rcases h0 with rfl|rfl <;>exact hq
    split at h;·cases h
    ·cases h
    ·rename_i e fr y0 hex;cases h;refine fin e fr ?_ hex rfl;cases e with
     |normal=>exact .inl rfl
     |ret=>exact .inr rfl
     |exit id=>exact absurd rfl (y0 id)
   cases h
 cases h
theorem ad3(hE:E.OK P){X:aF}{B:iF}(hX:cP P X)(hB:xW P r B)(hr:bO r){n:Nat}{f:FuncId}{d:Ly}(hd:E.df.get f=some d){args:Ω}{v:Φ}(h:jN E X B r n d args m=some (v,m')){args':Array Φ}(hs:eW P σ m w)(hl:bK σ args args'.toList):
  CallsIn Fence.wide 0 P f args' w (dS P σ m w v m')/\(callFunc f args').run P w=.ok (.enter f args') w:=by
 have cF:=jZ hE hX n;have⟨b1,d0⟩:=hE.df f d hd;have e0:=hE.We hd;refine⟨?_,pW b1 d0 e0⟩;unfold ng at e0;rw[d0]at e0;simp only[IG]at e0;unfold jN at h
 cases hle:(Nat.ble args.length d.fn.ntmps && fK d.post)with|false=>rw[hle]at h;cases h|true=>rw[hle]at h;simp only[gc]at h;simp only[IG]at hle;have⟨hle,g0⟩:=hle;have hle:=U7 hle;have c1:=nD (nt:=d.fn.ntmps) hl hle;have p1:=hs.low m.n;have F:=pj _ _ e0.1;unfold du at F;simp only[IG]at F;have h0:=F.1;unfold du at h0;simp only[IG]at h0;have q0:∀o∈(#[d.mf,d.de]:Array Oper).toList,fo d.fn.ntmps P.globals.size o:=RT.1 h0.1;apply callsIn_of_wp_marks b1 d0 trivial;split at h;rename_i fr hex;refine mW hE cF d.pre _ _ .normal fr e0.1 hex 0 w.heap.size σ _ w _ [] c1 p1 ⟨[],rfl,trivial⟩ (Aj _) λi0 a1 w1 s0 r1 u0=>?_;have⟨y0,j0,d1⟩:=r1;have j0:a1.defers=y0:=(by rw[j0,Vy]);dsimp only;split at h;rename_i td g fi ca c u1 k0 A0 v1 y1;split at h;rename_i t e1;(cases b0:(Nat.beq t td && (c.args.toList.isEmpty && fi.toList.isEmpty))with|false=>rw[b0]at h;cases h|true=>rw[b0]at h;simp only[gc]at h;simp only[IG,Qz]at b0;have⟨ht,A1,B1⟩:=b0;obtain rfl:=VA ht;have g1:fi= #[]:=MX (by rw[<-WG,B1];rfl);have h1:c.args= #[]:=MX (by rw[<-WG,A1];rfl);subst g1;have l0:=q0 d.mf co;have i1:=q0 d.de co;have r0:bK i0 (ca.toList.map (ev fr.T)) (ca.toList.map a1.eval):=jW _ (λo hx=>s0.BO u0.rJ (fm l0 o (by rw[A0];simpa[Op.operands]using hx)));let cv:Φ:=.func (.func g) #[] (ca.toList.map a1.eval).toArray;have G1:bw i0 (.func (.func g) #[] (ca.toList.map (ev fr.T)).toArray) cv:=.func g _ _ _ _ rfl co (λj u u' p q=>by simp at p) (λj u u' p q=>r0.2 j u u' (by simpa using p) (by simpa using q));have H1:ca.map a1.eval=(ca.toList.map a1.eval).toArray:=(by apply Sz;simp);let dd:Deferred:={target:=.fn (.func g) (ca.toList.map a1.eval).toArray,args:= #[]};let a2:Act:=a1.put (some t) cv;let a3:Act:=({a2 with defers:=dd::a2.defers}:Act).put d.de.dst undef;have j1:dB i0 (put fr.T (some t) (.func (.func g) #[] (ca.toList.map (ev fr.T)).toArray)) a2 d.fn.ntmps:=s0.put (λx hx=>dL l0 x (by rw[k0];exact hx)) G1;have K1:dB i0 (put (put fr.T (some t) (.func (.func g) #[] (ca.toList.map (ev fr.T)).toArray)) d.de.dst undef) a3 d.fn.ntmps:=dB.put (a:=({a2 with defers:=dd::a2.defers}:Act)) ⟨j1.1,j1.2⟩ (dL i1) bw.undef;have O1:t<d.fn.ntmps:=dL l0 t k0;have T1:a2.eval (.tmp t)=cv:=(by have:t<a1.tmps.size:=(by rw[s0.1];exact O1);simp[a2,Act.put,Act.eval,this]);refine wpIn_seq (wpIn_region_list ?_);unfold wpListIn;have b2:Region.wanted d.mf (yielded #[d.mf,d.de] a1.tmps):=(by unfold Region.wanted;rw[u1]);rw[QL b2];refine⟨λ_ _=>trivial,?_⟩;rw[Oper.semAt_eq _ _ _ (λc hc=>by rw[A0]at hc;cases hc)];have B0:(execOp a1.eval d.mf).run P w1=.ok (.value cv) w1:=(by unfold execOp;rw[A0];simp[Instr.makeFunc,cv,H1]);rw[B0,Oper.uponIn_value];unfold wpListIn;rw[k0];have c2:Region.wanted d.de (yielded #[d.mf,d.de] (a1.put (some t) cv).tmps):=(by unfold Region.wanted;rw[v1]);rw[QL c2];refine⟨λ_ _=>trivial,?_⟩;have O0:(d.de.semAt (dG none).round a2.eval).run P w1=.ok (.defer dd) w1:=(by show(d.de.semAt none a2.eval).run P w1=_;rw[Oper.semAt_none];unfold execOp;rw[y1];unfold resolve;dsimp only;rw[e1];dsimp only;rw[T1,h1];simp[Deferred.ofValue,cv,dd]);have o0:(d.de.semAt (dG none).round (a1.put (some t) cv).eval).run P w1=.ok (.defer dd) w1:=O0;rw[o0,Oper.uponIn_defer];unfold wpListIn;have P0:a3.defers=dd::y0:=(by show(Act.put _ _ _).defers=_;rw[put_defers];show dd::(a1.put (some t) cv).defers=_;rw[put_defers,j0]);show d.post.wpIn (dG none) 0 P _ a3 w1;split at h;cases h;rename_i d2 k1;split at h;rename_i m3 l1;refine BH hE cF (Qd hE hX hB n) d.post _ d2 F.2 g0 k1 i0 a3 w1 _ K1 u0.rJ λj2 a4 w2 Q0 e2 p0=>?_;have Q0:=Q0 rfl;show LeavesInM Fence.wide 0 P d.fn a4.tmps (dS P σ m w v m') a4.defers (.panicking _) w2;rw[e2,P0];have o1:=d1.ev p0;obtain⟨g2,h2⟩:=JB (args':= #[]++(ca.toList.map a1.eval).toArray) hE cF hr l1 p0.rJ (by simpa using r0.mono p0.ext);refine⟨co,.inr ⟨λhh=>by simp[Fence.wide]at hh,.func g,_,g,_,rfl,h2,λ_ _=>trivial,g2.mono λe u' w' hx=>?_⟩⟩;obtain⟨rfl,v',rfl,σ',n0⟩:=hx;exact kC y0 w' (o1.ev n0) ((u0.trans p0).trans n0) λw4 i2=>yR hE h e0.2.2 hs (Q0.mono n0.ext) i2;cases h);cases h;cases h;cases h
end
section
noncomputable section
variable (E:Env) (W:Words) (CP:Fn->Ω->M->(M->Nat->Prop)->Prop)
def PT:List Code->Nat
 |[]=>0
 |c::cs=>Nat.lor (reads c) (PT cs)
def vcL:List Code->Nat->St->(Ex->St->Prop)->Prop
 |[],_,s,Q=>Q .normal s
 |c::cs,rd,s,Q=>zU E W c (Nat.lor (PT cs) rd) s λe F=>e.NY (vcL cs rd F Q) (Q e F)
def QC:List Oper->KT->Option KT
 |[],K=>some K
 |o::os,K=>match o.guard,o.op with
  |none,.assign x=>(match mV K x with |some v=>QC os (pg K o.dst (.v v)) |none=>none)
  |none,.move x=>(match mV K x with |some v=>QC os (pg K o.dst (.v v)) |none=>none)
  |_,_=>none
def WX(r:Φ):List Oper->KT->Option KT
 |[],_=>none
 |o::os,K=>match o.guard,o.op with
  |none,.call c=>match c.callee with
   |.builtin .recover=>bif c.args.toList.isEmpty then QC os (pg K o.dst (.v r))else none
   |_=>none
  |_,_=>none
def Om(r:Φ)(g:Nat)(args:Ω)(m:M)(lo:Nat)(Q:M->Nat->Prop):Prop:=match E.cl.get g with
 |some c=>match Nat.ble args.length c.fn.ntmps && (c.fn.results.toList.isEmpty && fK c.rest)with
  |true=>aS (WX r c.ops.toList (sW args 0)) λK=>zU E W c.rest 0 ⟨K,m,m.n⟩ λe s=>match e with
   |.exit _=>False
   |_=>Q s.m (min lo s.lo)
  |false=>False
 |none=>False
def vcD2(r:Φ)(d:Ly)(g:Nat)(b0:Ω)(K:KT)(m:M)(lo:Nat)(R RP:Ω->M->Nat->Prop):Prop:=
 (zU E W d.post (bitsOf (D1 d.fn.results.toList) 0) ⟨K,m,lo⟩ λe s=>match e with
  |.exit _=>False
  |_=>Om E W .nilIface g b0 s.m s.lo λm3 F=>Df E s.K m3 d.fn.results.toList λvs=>R vs m3 F)\/
 match fK d.post with
 |true=>Gu E W CP false d.post (bitsOf (D1 d.fn.results.toList) 0) ⟨K,m,lo⟩ λm2 ja=>Om E W r g b0 m2 ja λm3 F=>Df E (forget K (assigned d.post)) m3 d.fn.results.toList λvs=>RP vs m3 F
 |false=>False
def vcD(r:Φ)(d:Ly)(args:Ω)(m:M)(R RP:Ω->M->Nat->Prop):Prop:=
 vcL E W d.pre (bitsOf (D1 d.fn.results.toList) (reads d.post)) ⟨sW args 0,m,m.n⟩ λe s=>match e with
  |.exit _=>False
  |.ret=>Df E s.K s.m d.fn.results.toList λvs=>R vs s.m s.lo
  |.normal=>match d.mf.guard,d.mf.dst,d.mf.op,d.de.guard,d.de.op with
   |none,some td,.makeFunc (.func g) fi ca,none,.defer c=>match c.callee with
    |.value (.tmp t)=>match Nat.beq t td && (c.args.toList.isEmpty && fi.toList.isEmpty)with
     |true=>aS (Cz s.K ca.toList) λF=>vcD2 E W CP r d g F (pg (pg s.K (some td) (.v (.func (.func g) #[] F.toArray))) d.de.dst .u) s.m s.lo R RP
     |false=>False
    |_=>False
   |_,_,_,_,_=>False
variable{E:Env}{X:aF}{B:iF}{r:Φ}
theorem DN:∀(cs:List Code) (rd:Nat) (s:St) (Q:Ex->St->Prop),vcL E (aG E X) cs rd s Q->∀T,Kn s.K T->s.lo<=s.m.n->
  ∃e s' T',Q e s'/\Kn s'.K T'/\s.m.n<=s'.m.n/\s'.lo<=s'.m.n/\∃n0,∀n,n0<=n->mP (bF E (bT E X n) n) cs ⟨T,s.m.wl s.lo⟩=some (e,⟨T',s'.m.wl s'.lo⟩)
 |[],_,s,Q,h,T,hk,b0=>⟨.normal,s,T,h,hk,Aj _,b0,0,λn _=>rfl⟩
 |c::cs,rd,s,Q,h,T,hk,b0=>by obtain⟨e,s1,T1,h1,d0,e0,F,n1,g0⟩:=dV c _ s _ h T hk b0;cases e with|normal=>have⟨e,s2,T2,h2,i0,j0,h0,n2,k0⟩:=DN cs rd s1 Q h1 T1 d0 F;exact⟨e,s2,T2,h2,i0,Zz e0 j0,h0,max n1 n2,λn hn=>by simp only[mP,g0 n ac,k0 n ac]⟩|exit id=>exact⟨_,s1,T1,h1,d0,e0,F,n1,λn hn=>by simp only[mP,g0 n hn]⟩|ret=>exact⟨_,s1,T1,h1,d0,e0,F,n1,λn hn=>by simp only[mP,g0 n hn]⟩
theorem vz:∀(l:List Oper) (K K':KT) (T:Tr Φ),QC l K=some K'->Kn K T->∃T',lW l T=some T'/\Kn K' T'
 |[],K,K',T,h,hk=>by cases h;exact⟨T,rfl,hk⟩
 |o::l,K,K',T,h,hk=>by unfold QC at h;unfold lW;split at h;(·rename_i x hg F;(try simp only[hg,F]);split at h;rename_i v hv;rw[bD hk hv];exact vz l _ K' _ h (hk.put _ (.v v));cases h);(·rename_i x hg F;(try simp only[hg,F]);split at h;rename_i v hv;rw[bD hk hv];exact vz l _ K' _ h (hk.put _ (.v v));cases h);cases h
def IN{l:List Oper}{K F:KT}(h:WX r l K=some F)(hk:Kn K T):∃T',nT r l T=some T'/\Kn F T':=by cases l with|nil=>cases h|cons o l=>unfold WX at h;unfold nT;dsimp only at h;split at h;(·rename_i c hg b0;simp only[hg,b0];split at h;(·rename_i hc;(try simp only[hc]);cases he:c.args.toList.isEmpty with|false=>rw[he]at h;cases h|true=>rw[he,gc]at h;rw[gc];exact vz l _ F _ h (hk.put _ (.v r)));cases h);cases h
theorem vv:∀(l:List Oper) (T T':Tr Φ),lW l T=some T'->kk l T=some T'
 |[],T,T',h=>h
 |o::l,T,T',h=>by unfold lW at h;unfold kk;split at h;rename_i x hg F;simp only[hg,F];exact vv l _ T' h;rename_i x hg F;simp only[hg,F];exact vv l _ T' h;cases h
def GR{l:List Oper}(h:nT .nilIface l T=some F):kk l T=some F:=by cases l with|nil=>cases h|cons o l=>unfold nT at h;dsimp only at h;split at h;rename_i c hg b0;split at h;rename_i hc;(cases he:c.args.toList.isEmpty with|false=>rw[he]at h;cases h|true=>rw[he,gc]at h;unfold kk;simp only[hg,b0,hc,he,gc];exact vv l _ F h);cases h;cases h
def acg{ex:Code->Fr->Option (Ex×Fr)}{m3:M}(h:uU E .nilIface ex g args m=some m3):FR E ex g args m=some m3:=by unfold uU at h;unfold FR;split at h;rename_i c hc;simp only[hc];(cases F:(Nat.ble args.length c.fn.ntmps && (c.fn.results.toList.isEmpty && fK c.rest))with|false=>rw[F]at h;cases h|true=>rw[F,gc]at h;rw[gc];split at h;rename_i T hT;simp only[GR hT];exact h;cases h);cases h
theorem Bc{Q:M->Nat->Prop}(h:Om E (aG E X) r g args m lo Q)(g0:lo<=m.n):
  ∃m3 b0,Q m3 b0/\m.n<=m3.n/\b0<=m3.n/\∃n0,∀n,n0<=n->uU E r (bF E (bT E X n) n) g args (m.wl lo)=some (m3.wl b0):=by unfold Om at h;split at h;rename_i c hc;(cases hb:(Nat.ble args.length c.fn.ntmps && (c.fn.results.toList.isEmpty && fK c.rest))with|false=>rw[hb]at h;exact h.elim|true=>rw[hb]at h;have⟨K,hK,h⟩:=bC.1 h;have⟨T,hT,d0⟩:=IN hK (nF args 0);obtain⟨e,s,T',hQ,h0,F,e0,n0,hr⟩:=dV c.rest 0 _ _ h T d0 (Aj _);have F:m.n<=s.m.n:=F;have hex:∀n,n0<=n->bF E (bT E X n) n c.rest {T:=T,m:={m.wl lo with low:=(m.wl lo).n}}=some (e,⟨T',s.m.wl s.lo⟩):=hr;cases e with|exit id=>exact hQ.elim|normal=>refine⟨s.m,min lo s.lo,hQ,F,ac,n0,λn F=>?_⟩;unfold uU;simp only[hc,hb,gc,hT,hex n F];rfl|ret=>refine⟨s.m,min lo s.lo,hQ,F,ac,n0,λn F=>?_⟩;unfold uU;simp only[hc,hb,gc,hT,hex n F];rfl);exact h.elim
def MK(m m':M)(l lo:Nat)(vs:Ω):Φ×M:=bif aZ (aM vs) && Nat.ble m.n lo then(aM vs,m.wl l)else(aM vs,m'.wl (min l lo))
def AK{m':M}{l:Nat}{vs:Ω}(h:∀l,iC E T (m'.wl l) fn.results.toList=some vs):Dm E fn (m.wl l) ⟨T,m'.wl lo⟩=some (MK m m' l lo vs):=by have F:result? E fn T (m'.wl lo)=some (aM vs):=(by unfold result?;rw[h lo];match vs with|[]=>rfl|[v]=>rfl|v::w::vs=>rfl);unfold Dm MK;dsimp only;rw[F];dsimp only;rw[show(m.wl l).n=m.n from rfl,show(m'.wl lo).low=lo from rfl];cases (aZ (aM vs) && Nat.ble m.n lo)<;>rfl
theorem pK(hN:∀n g args m m',jH E X B n g args m=some m'->bT E X n g args m=none){d:Ly}{args:Ω}{m:M}{R RP:Ω->M->Nat->Prop}
  (hl:Nat.ble args.length d.fn.ntmps) (h:vcD E (aG E X) (eE E X B) r d args m R RP):
  (∃vs m' lo,R vs m' lo/\m.n<=m'.n/\∃n0,∀n,n0<=n->∀l,l<=m.n->qY E (bF E (bT E X n) n) d args (m.wl l)=some (MK m m' l lo vs)/\jN E X B r n d args (m.wl l)=none)\/
  (∃vs m' lo,RP vs m' lo/\m.n<=m'.n/\∃n0,∀n,n0<=n->∀l,l<=m.n->jN E X B r n d args (m.wl l)=some (MK m m' l lo vs)):=by
 obtain⟨e,s1,T1,h1,q0,r0,p0,n1,e1⟩:=DN _ _ _ _ h (enter args 0) (nF _ _) (Aj _);have r0:m.n<=s1.m.n:=r0;have d0:∀n,n1<=n->∀l,mP (bF E (bT E X n) n) d.pre {T:=enter args 0,m:={m.wl l with low:=(m.wl l).n}}=some (e,⟨T1,s1.m.wl s1.lo⟩):=λn hn _=>e1 n hn
 cases e with|exit id=>exact h1.elim|ret=>have⟨vs,hR,b0⟩:=jF q0 h1;refine .inl ⟨vs,s1.m,s1.lo,hR,r0,n1,λn hn l a1=>⟨?_,?_⟩⟩;unfold qY;simp only[hl,gc,d0 n hn l];exact AK b0;unfold jN;(cases fK d.post with|false=>simp only[hl,SJ,JC]|true=>simp only[hl,Mn,gc,d0 n hn l])|normal=>dsimp only at h1;split at h1;rename_i td g fi ca c s0 h0 u0 y0 A0;split at h1;rename_i t i0;(cases F:(Nat.beq t td && (c.args.toList.isEmpty && fi.toList.isEmpty))with|false=>rw[F]at h1;exact h1.elim|true=>rw[F]at h1;have⟨e0,b1,h1⟩:=bC.1 h1;have B0:=jg q0 b1;have O0:Kn (pg (pg s1.K (some td) (.v (.func (.func g) #[] e0.toArray))) d.de.dst .u) (put (put T1 (some td) (.func (.func g) #[] e0.toArray)) d.de.dst undef):=(q0.put (some td) (.v (.func (.func g) #[] e0.toArray))).put d.de.dst .u;unfold vcD2 at h1;rcases h1 with h1|h1;obtain⟨e2,s2,T2,h2,g1,j0,k0,n2,P0⟩:=dV _ _ _ _ h1 _ O0 p0;have j0:s1.m.n<=s2.m.n:=j0;have g0:∀n,n2<=n->bF E (bT E X n) n d.post {T:=put (put T1 (some td) (.func (.func g) #[] e0.toArray)) d.de.dst undef,m:=s1.m.wl s1.lo}=some (e2,⟨T2,s2.m.wl s2.lo⟩):=P0;have i1:∀id,e2≠.exit id:=λid he=>(by rw[he]at h2;exact h2);have h2:Om E (aG E X) .nilIface g e0 s2.m s2.lo λm3 l0=>Df E s2.K m3 d.fn.results.toList λvs=>R vs m3 l0:=(by cases e2 with|exit id=>exact h2.elim|normal=>exact h2|ret=>exact h2);have⟨m3,l0,h3,j1,c1,n3,Q0⟩:=Bc h2 k0;have⟨vs,hR,b0⟩:=jF g1 h3;refine .inl ⟨vs,m3,l0,hR,ac,max n1 (max n2 n3),λn hn l a1=>⟨?_,?_⟩⟩;unfold qY;simp only[hl,gc,d0 n ac l,s0,h0,u0,y0,A0,i0,F,B0,g0 n ac];have d1:=acg (Q0 n ac);(cases e2 with|exit id=>exact absurd rfl (i1 id)|normal=>simp only[d1];exact AK (fn:=d.fn) b0|ret=>simp only[d1];exact AK (fn:=d.fn) b0);unfold jN;(cases o0:fK d.post with|false=>simp only[hl,SJ,JC]|true=>simp only[hl,Mn,gc,d0 n ac l,s0,h0,u0,y0,A0,i0,F,B0];cases hp:dW E false (bT E X n) (jH E X B n) n d.post {T:=put (put T1 (some td) (.func (.func g) #[] e0.toArray)) d.de.dst undef,m:=s1.m.wl s1.lo}with|none=>rfl|some o1=>have:=yF (hN n) _ _ _ hp;rw[g0 n ac]at this;cases this);cases o0:fK d.post with|false=>rw[o0]at h1;exact h1.elim|true=>rw[o0]at h1;obtain⟨m2,ja,T2,h2,j0,k0,k1,n2,P0⟩:=jP hN _ _ _ _ h1 _ O0 p0;have j0:s1.m.n<=m2.n:=j0;have⟨m3,l0,h3,j1,c1,n3,Q0⟩:=Bc h2 k0;have l1:Kn (forget (pg (pg s1.K (some td) (.v (.func (.func g) #[] e0.toArray))) d.de.dst .u) (assigned d.post)) T2:=(by intro t k ht;rw[k1 t (jM _ _ ht).1];exact O0 t k (jM _ _ ht).2);have⟨vs,hR,b0⟩:=jF l1 h3;refine .inr ⟨vs,m3,l0,hR,ac,max n1 (max n2 n3),λn hn l a1=>?_⟩;have g0:dW E false (bT E X n) (jH E X B n) n d.post {T:=put (put T1 (some td) (.func (.func g) #[] e0.toArray)) d.de.dst undef,m:=s1.m.wl s1.lo}=some ⟨T2,m2.wl ja⟩:=P0 n ac;unfold jN;simp only[hl,o0,Mn,gc,d0 n ac l,s0,h0,u0,y0,A0,i0,F,B0,g0,Q0 n ac];exact AK (fn:=d.fn) b0);exact h1.elim;exact h1.elim
end
end
section
variable{P:Program}{σ:Sg}{m m':M}{w w':World}
def lU(w:World)(dT sT ty elem:TypeId)(g o F d0:Nat)(a:Addr)(b0 e0:Nat)(cur:Array Φ)(t:TypeId)(cs:Ω){ei:TypeInfo}
  (hu:P.underlying dT=some (.slice elem)) (h0:P.info? elem=some ei)
  (hg:w.heap[g]?=some (.cells cur t (0,0))) (hn:cs.length=min b0 F*ei.size)
  (g0:∀j v,cs[j]?=some v->w.cell? (a.add j)=some v) (j0:o+cs.length<=cur.size) (h1:∀v∈cs,v.oneCell'):
  (Builtin.copy_ #[dT,sT] ty #[RR g o F d0,.slice (some a) b0 e0]).run P w=
   .ok (goInt (min b0 F:Nat)) (w.setRow g (cur.toList.take o++cs++cur.toList.drop (o+cs.length)).toArray):=by have hl:=run_loadCells_list (P:=P) w a cs g0;have i0:=run_storeCells_at P g o t cs 0 cur w hg be h1;have hm:Nat.min b0 F=min b0 F:=rfl;rw[hn]at hl;simp[Builtin.copy_,O9 hu,Builtin.lenOf,Builtin.firstCells,sizeOf,typeInfo,h0,hm,hl,i0]
structure N3 where
 S:Nat
 k:Nat
 e:Nat
def lH(N:N3):aF:=λfn args m=>
 match fn with
 |.func f=>
  bif Nat.beq f N.S then
   match args with
   |[.slice (some a) n c,.int .i64 i,.slice (some b) 1 1]=>
    match m.get a.block,m.get b.block with
    |.cells cs te (some k),.cells ds F none=>
     if(a.off=0/\a.spot=none/\b.off=0/\b.spot=none)/\(c=n/\cs.length=n*N.k/\ds.length=N.k/\k=N.k/\te=N.e/\F=N.e)/\(0<=i/\i < n/\n < 1000000/\a.block≠b.block)/\cs.all one=true/\ds.all one=true then
      some (.slice (some ⟨m.n,0,none⟩) (n+1) (n+1),(m.set a.block .dead).push (.cells (cs.take (i.toNat*N.k)++(ds++cs.drop (i.toNat*N.k))) N.e (some N.k)))
     else none
    |_,_=>none
   |_=>none
  else none
 |_=>none
structure C6(P:Program)(N:N3):Prop where
 FK:∀args w,(callFunc N.S args).run P w=.ok (.enter N.S args) w
 pos:0 < N.k
 go:∀(B V n i C:Nat) (row vrow:Array Φ) (w:World),w.heap[B]?=some (.cells row N.e (0,0))->w.heap[V]?=some (.cells vrow N.e (0,0))->V≠B->i < n->n<=C->C*N.k<=row.size->vrow.size=N.k->n < 1000000->
  (∀u∈row.toList.take (n*N.k),u.oneCell'=true)->(∀u∈vrow.toList,u.oneCell'=true)->
  Calls P N.S #[.slice (some ⟨B,0,none⟩) n C,.int .i64 i,.slice (some ⟨V,0,none⟩) 1 1] w λe w'=>(w'.os=w.os/\w'.tape=w.tape/\w'.output=w.output)/\
   ((n+1<=C/\e=.returned (.slice (some ⟨B,0,none⟩) (n+1) C)/\w'.heap.size=w.heap.size/\(∀b,b≠B->w'.heap[b]?=w.heap[b]?)/\
     w'.heap[B]?=some (.cells (row.toList.take (i*N.k)++(vrow.toList++(row.toList.take (n*N.k)).drop (i*N.k))++row.toList.drop ((n+1)*N.k)).toArray N.e (0,0)))\/
    (∃(D:Nat) (rest:Ω),n+1<=D/\rest.length=(D-(n+1))*N.k/\e=.returned (.slice (some ⟨w.heap.size,0,none⟩) (n+1) D)/\
     w'.heap=w.heap.push (.cells (row.toList.take (i*N.k)++(vrow.toList++(row.toList.take (n*N.k)).drop (i*N.k))++rest).toArray N.e (0,0))))
def MY(N:N3):iN (lH N):=λfn args m v m' h=>by unfold lH at h;split at h;rename_i f;(cases F:Nat.beq f N.S with|false=>rw[F]at h;cases h|true=>rw[F,gc]at h;split at h;split at h;rename_i cs te k ds b0 hg hd;split at h;cases h;exact(LK.Ml hg).trans LK.push;cases h;cases h;cases h);cases h
def wX{N:N3}(h:C6 P N)(hS:Nat.beq Da N.S=false):cP P (lH N):=by
 refine⟨λf args m v m' hx σ w args' hs hl=>?_,λl args m v m' hx=>by simp[lH]at hx,MY N,λa m v m' b hx=>by unfold lH at hx;grind⟩;unfold lH at hx;dsimp only at hx
 cases hf:Nat.beq f N.S with|false=>rw[hf]at hx;cases hx|true=>obtain rfl:=VA hf;rw[hf,gc]at hx;refine⟨?_,h.FK args' w⟩;apply callsIn_wide.2;split at hx;rename_i a n c i b;split at hx;rename_i cs te k ds b2 hg hd;split at hx;rename_i hc;obtain⟨⟨a0,a1,b0,b1⟩,⟨c1,c2,c3,rfl,rfl,rfl⟩,⟨i0,i1,i2,e1⟩,o1,o2⟩:=hc;have c1:=c1.symm;subst c1;(cases hx;obtain⟨j,rfl⟩:∃j:Nat,i=j:=⟨i.toNat,ac⟩;have hj:j<n:=ac;have⟨x1,l1,o0,hv,h1⟩:=hl.cases;obtain⟨x2,l2,rfl,j1,k1⟩:=h1.cases;obtain⟨x3,l3,rfl,p1,u1⟩:=k1.cases;obtain rfl:=u1.nil_eq;have e2:=j1.bJ rfl;subst e2;obtain⟨bi,a',c',k0,rfl,p0⟩:=hv.ep;obtain⟨bj,b',d',u0,rfl,l0⟩:=p1.ep;have⟨row,r1,r2,r3,r4⟩:=hs.cells k0 hg;have⟨F,s1,s2,s3,s4⟩:=hs.cells u0 hd;have⟨g1,g2,g3⟩:=r4;have⟨t1,t2⟩:=s4;have y0:=h.pos;have d0:m.get a.block≠.dead:=(by rw[hg];simp);have v1:bj.dM≠bi.dM:=λq=>e1 (hs.inj a.block b.block bi bj k0 u0 d0 (by rw[hd];simp) q.symm);have w1:a'=⟨bi.dM,0,none⟩/\n<=c'/\c'*N.k<=row.size/\(n+1<=c'->c'*N.k=row.size):=(by rcases p0 with⟨y1,rfl,⟨A0,_⟩|⟨k,sz,C,hk,hh⟩⟩|⟨h0,_⟩;rw[g1]at A0;cases A0;rw[g1]at hk;obtain⟨rfl,rfl,rfl⟩:=hk;refine⟨by rw[a0],?_⟩;rcases hh with rfl|⟨q1,q2,q3⟩;refine⟨Aj _,ac,λq=>ac⟩;exact⟨q1,ac,λ_=>ac⟩;omega);obtain⟨rfl,A1,B1,G1⟩:=w1;have B0:b'=⟨bj.dM,0,none⟩/\d'=1:=(by rcases l0 with⟨y1,rfl,⟨_,rfl⟩|⟨k,sz,C,hk,_⟩⟩|⟨h0,_⟩;exact⟨by rw[b0],rfl⟩;rw[t1]at hk;cases hk;omega);obtain⟨rfl,rfl⟩:=B0;have q0:args'= #[RR bi.dM 0 n c',ν j,RR bj.dM 0 1 1]:=(by apply Sz;rw[o0]);subst q0;have H1:F.toList.take ds.length=F.toList:=Vq (by simp;omega);rw[H1]at s3;rw[c2]at r3 r2 g1;have hmul:j*N.k<=n*N.k:=WQ _ ac;have K1:(n+1)*N.k=n*N.k+N.k:=(by rw[MN,Ss]);have g0:bK σ (cs.take (j*N.k)++(ds++cs.drop (j*N.k))) (row.toList.take (j*N.k)++(F.toList++(row.toList.take (n*N.k)).drop (j*N.k))):=(by have:=(r3.take (j*N.k)).append (s3.append (r3.drop (j*N.k)));rw[UU,L9 hmul]at this;exact this);have hlen:(cs.take (j*N.k)++(ds++cs.drop (j*N.k))).length=(n+1)*N.k:=(by simp only[ZE,PK,L1];omega);refine(h.go bi.dM bj.dM n j c' row F w r1 s1 v1 hj A1 B1 ac i2 (r3.iL o1) (s3.iL o2)).mono ?_;rintro en w2 ⟨⟨ho,ht,hu⟩,hh⟩;rcases hh with⟨j0,rfl,O1,O0,P0⟩|⟨D,rest,hD,r0,rfl,s0⟩;have Q0:=G1 j0;have T1:(n+1)*N.k<=row.size:=(by rw[<-Q0];exact WQ _ j0);have e0:=g0.1;rw[hlen]at e0;have n0:(row.toList.take (j*N.k)++(F.toList++(row.toList.take (n*N.k)).drop (j*N.k))++row.toList.drop ((n+1)*N.k)).toArray.size=row.size:=(by rw[QH,ZE,<-e0,L1,WG];omega);have a2:=Ev.PR (ob:=.cells (cs.take (j*N.k)++(ds++cs.drop (j*N.k))) N.e (some N.k)) (gr:=some (N.k,(n+1)*N.k,row.size)) (w':=w2) hs k0 d0 ⟨_,P0,by rw[hlen,n0];exact T1,by rw[hlen,e0];simp only[HB];exact g0.mono (Sg.yM hs.nA),by rw[hlen,n0];exact⟨rfl,y0,ac⟩⟩ O0 O1 ho ht hu;refine⟨_,_,rfl,?_,a2⟩;exact .jE ⟨m.n,0,none⟩ ⟨bi.dM,some (N.k,(n+1)*N.k,row.size)⟩ _ _ _ N.k ((n+1)*N.k) row.size (Sg.add_same _ _) rfl rfl (.inr ⟨j0,co,by simp[Q0]⟩);have hw:=Ev.write (w':=w) (ob:=.dead) hs k0 d0 trivial (λ_ _=>rfl) rfl rfl rfl rfl;obtain⟨g1,g2⟩:=Eh (e:=N.e) (k:=N.k) (sl:=n+1) (n:=0) (N:=D) (rest:=rest) (news:=[]) (new':=[]) hw.rJ g0 bK.nil hlen co y0 ac hD (by simpa using r0);simp only[Vy]at g1;have d1:=(hw.trans g1).trans (Ev.of_heap (w':=w2) g1.rJ (by rw[s0];rfl) ho ht hu);exact⟨_,_,rfl,g2,d1⟩);cases hx;cases hx;cases hx
end
section
variable{E:Env}{X:aF}
theorem Cl.bodyW{R:Ω->M->Nat->Prop}(hX:∀l,X (.func f) args (m.wl l)=none)(hf:E.fn.get f=some fn)(hl:Nat.ble args.length fn.ntmps)
  (h:dC E (aG E X) fn args m R):
  ∃vs m' lo,R vs m' lo/\m.n<=m'.n/\∃n0,∀n,n0<=n->∀l,l<=m.n->
   bT E X n (.func f) args (m.wl l)=some (bif aZ (aM vs) && Nat.ble m.n lo then(aM vs,m.wl l)else(aM vs,m'.wl (min l lo))):=by
 unfold dC Wu at h;split at h
 ·rename_i body hb;obtain⟨e,F,T',b0,j0,hn,l0,n0,hr⟩:=dV _ _ _ _ h (enter args 0) (nF _ _) (Aj _);have e0:(∀id,e≠.exit id)/\Df E F.K F.m fn.results.toList λvs=>R vs F.m F.lo:=(by cases e with|exit id=>exact b0.elim|normal=>exact⟨λ_ h=>(by cases h),b0⟩|ret=>exact⟨λ_ h=>(by cases h),b0⟩);have⟨k0,d0⟩:=e0;have⟨vs,hR,d0⟩:=jF j0 d0;refine⟨vs,F.m,F.lo,hR,hn,n0+1,λn o0 l p0=>?_⟩;obtain⟨n,rfl⟩:∃k,n=k+1:=⟨n-1,ac⟩;have g0:bF E (bT E X n) n body {T:=enter args 0,m:={m.wl l with low:=(m.wl l).n}}=some (e,⟨T',F.m.wl F.lo⟩):=hr n ac;have h0:=Bv (fn:=fn) (d0 F.lo);have i0:X (.func f) args (m.wl l)=none:=hX l
  have fin:(bif aZ (aM vs) && Nat.ble (m.wl l).n (F.m.wl F.lo).low then some (aM vs,m.wl l)else some (aM vs,{F.m.wl F.lo with low:=min (m.wl l).low (F.m.wl F.lo).low}))=
    some (bif aZ (aM vs) && Nat.ble m.n F.lo then(aM vs,m.wl l)else(aM vs,F.m.wl (min l F.lo))):=by
   cases hc:(aZ (aM vs) && Nat.ble m.n F.lo)with
   |true=>have:(aZ (aM vs) && Nat.ble (m.wl l).n (F.m.wl F.lo).low):=hc;rw[this];rfl
   |false=>have:(aZ (aM vs) && Nat.ble (m.wl l).n (F.m.wl F.lo).low)=false:=hc;rw[this];rfl
  cases e with
  |exit id=>exact(k0 id rfl).elim
  |normal=>simp only[bT,i0,hf,hb,hl,gc,g0,h0];exact fin
  |ret=>simp only[bT,i0,hf,hb,hl,gc,g0,h0];exact fin
 exact h.elim
def Cl.genW{R:Φ->M->Nat->Prop}(hX:∀l,X (.func f) args (m.wl l)=none)(hf:E.fn.get f=some fn)(hl:Nat.ble args.length fn.ntmps)
  (h:dC E (aG E X) fn args m λvs m' lo=>(aZ (aM vs)/\m.n<=lo/\R (aM vs) m m.n)\/((aZ (aM vs)=false\/lo<m.n)/\R (aM vs) m' (min m.n lo))):
  ∃v m' b,Cl E X (.func f) args m b v m'/\R v m' b:=by have⟨vs,m',lo,h,hn,hr⟩:=Cl.bodyW hX hf hl h;rcases h with⟨F,b0,hR⟩|⟨F,hR⟩;exact⟨_,_,_,.of_flat F b0 hr,hR⟩;exact⟨_,_,_,.tY hn F hr,hR⟩
noncomputable section
def uF(E:Env)(X:aF)(B:iF)(r:Φ)(f:Nat)(d:Ly):aF:=λfn args m=>match fn with
 |.func g=>match Nat.beq g f with
  |true=>open Classical in if h:∃p,∃F,∀n,F<=n->jN E X B r n d args m=some p then some (Classical.choose h)else none
  |false=>none
 |_=>none
end
variable{B:iF}{r:Φ}{f:Nat}{d:Ly}{P:Program}
def qz{g:Fn}{p:Φ×M}(h:uF E X B r f d g args m=some p):g=.func f/\∃F,∀n,F<=n->jN E X B r n d args m=some p:=by unfold uF at h;split at h;rename_i g';split at h;rename_i hb;have:=VA hb;subst this;split at h;rename_i hex;cases h;exact⟨rfl,I9 hex⟩;cases h;cases h;cases h
def Ix{p:Φ×M}(h:∃F,∀n,F<=n->jN E X B r n d args m=some p):uF E X B r f d (.func f) args m=some p:=by unfold uF;simp only[WD];have hex:∃p,∃F,∀n,F<=n->jN E X B r n d args m=some p:=⟨p,h⟩;rw[dif_pos hex];have⟨F,h0⟩:=h;have⟨n1,h1⟩:=I9 hex;have a:=h0 (max F n1) ac;grind
def Iy(h:∃F,∀n,F<=n->jN E X B r n d args m=none):uF E X B r f d (.func f) args m=none:=by cases hs:uF E X B r f d (.func f) args m with|none=>rfl|some p=>obtain⟨-,F,h0⟩:=qz hs;have⟨n1,h1⟩:=h;have a:=h0 (max F n1) ac;grind
def fR(F:Nat.beq g f=false)(args:Ω)(m:M):uF E X B r f d (.func g) args m=none:=by unfold uF;grind
theorem yE{call:aF}{pan:iF}(hc:iN call)(hp:∀g args m m',pan g args m=some m'->LK m m'){ops:Array Oper}:∀(l:List Oper) (fr F:Fr),fW E call pan ops l fr=some F->LK fr.m F.m
 |[],fr,F,h=>by unfold fW at h;cases h
 |o::l,fr,F,h=>by unfold fW at h;cases hw:cd ops fr.T o with|false=>rw[hw]at h;exact yE hc hp l {fr with T:=put fr.T o.dst undef} F h|true=>rw[hw]at h;simp only[gc]at h;cases ho:dK o.op E call fr.T fr.m with|some p=>have⟨v,m1⟩:=p;rw[ho]at h;exact(Qk hc ho).trans (yE hc hp l {T:=put fr.T o.dst v,m:=m1} F h)|none=>rw[ho]at h;simp only[ZL]at h;obtain⟨m1,h1,rfl⟩:=h;unfold lD at h1;grind
theorem nV{call:aF}{pan:iF}(hp:∀g args m m',pan g args m=some m'->LK m m'){ops:Array Oper}{p:Nat}{m m':M}:∀(l:List Oper) (j:Nat) (T:Tr Φ) (r:Option M),(∀m1,r=some m1->LK m m1)->dw E call pan ops p m l j T r=some m'->LK m m'
 |[],j,T,r,hr,h=>by unfold dw at h;exact hr _ h
 |o::l,j,T,r,hr,h=>by unfold dw at h;cases b0:Nat.beq j p with|true=>rw[b0,gc]at h;(cases hw:(kn ops o && cd ops T o)with|false=>rw[hw]at h;cases h|true=>rw[hw,gc]at h;split at h;rename_i m1 F;refine nV hp l (j+1) T _ (λm2 e=>?_) h;cases e;unfold lD at F;split at F;split at F;split at F;exact LK.low (LK.BR (x:=m.n) (hp _ _ _ _ F));cases F;cases F;cases F;cases h)|false=>rw[b0,JC]at h;cases hb:(behind ops p j ||(Nat.blt p j && wN E o))with|true=>rw[hb,gc]at h;exact nV hp l (j+1) T r hr h|false=>rw[hb,JC]at h;cases d0:(jz o.op && kn ops o)with|false=>rw[d0]at h;cases h|true=>rw[d0,gc]at h;cases hw:cd ops T o with|false=>rw[hw,JC]at h;exact nV hp l (j+1) _ r hr h|true=>rw[hw,gc]at h;split at h;exact nV hp l (j+1) _ r hr h;cases h
def Ko{pan:iF}(hc:iN call)(hp:∀g args m m',pan g args m=some m'->LK m m'){n:Nat}{dr:Bool}:∀(c:Code) (fr F:Fr),dW E dr call pan n c fr=some F->LK fr.m F.m:=by intro c;induction c with|region id ops d=>intro fr F h;unfold dW at h;(cases d with|true=>rw[gc]at h;(cases dr with|false=>cases h|true=>simp only[gc,ZL]at h;obtain⟨m1,h1,rfl⟩:=h;exact nV hp _ _ _ _ (λm1 h=>by cases h) h1)|false=>exact yE hc hp _ _ _ h)|seq x y b0 d0=>intro fr F h;unfold dW at h;(cases hx:bF E call n x fr with|none=>rw[hx]at h;exact b0 _ _ h|some p=>have⟨e,e0⟩:=p;rw[hx]at h;cases e with|normal=>exact(fZ hc x fr .normal e0 hx).trans (d0 _ _ h)|exit id=>cases h|ret=>cases h)|cond c x y b0 d0=>intro fr F h;unfold dW at h;grind|block id c ih=>intro fr F h;unfold dW at h;exact ih _ _ h|scope c ih=>intro fr F h;unfold dW at h;exact ih _ _ h|_=>intro fr F h;simp[dW]at h
theorem Qe(F:iN X)(hB:∀g args m m',B g args m=some m'->LK m m'):∀n g args m m',jH E X B n g args m=some m'->LK m m'
 |0,g,args,m,m',h=>by unfold jH at h;cases h
 |n+1,g,args,m,m',h=>by cases g with|func f=>unfold jH at h;split at h;grind;split at h;cases h;rename_i fn _;split at h;cases h;rename_i body _;(cases hc:(Nat.ble args.length fn.ntmps && fK body && (X (.func f) args m).isNone)with|false=>rw[hc]at h;cases h|true=>rw[hc]at h;simp only[gc,ZL]at h;obtain⟨fr,h,rfl⟩:=h;exact LK.BR (x:=m.n) (Ko (xP F n) (Qe F hB n) _ _ _ h))|_=>unfold jH at h;cases h
def Vp(hc:iN call){n g:Nat}{args:Ω}{m m':M}(h:uU E r (bF E call n) g args m=some m'):LK m m':=by unfold uU at h;split at h;rename_i c _;(cases F:(Nat.ble args.length c.fn.ntmps && (c.fn.results.toList.isEmpty && fK c.rest))with|false=>rw[F]at h;cases h|true=>rw[F,gc]at h;split at h;rename_i T _;split at h;cases h;cases h;rename_i e fr _ hex;cases h;exact LK.BR (x:=m.n) (fZ hc _ _ _ _ hex);cases h);cases h
def SE(hX:iN X)(hB:∀g args m m',B g args m=some m'->LK m m'){n:Nat}{args:Ω}{m m':M}{v:Φ}(h:jN E X B r n d args m=some (v,m')):LK m m':=by have cF:=xP (E:=E) hX n;unfold jN at h;cases hle:(Nat.ble args.length d.fn.ntmps && fK d.post)with|false=>rw[hle]at h;cases h|true=>rw[hle,gc]at h;split at h;rename_i fr hex;have h1:LK m fr.m:=LK.BR (x:=m.n) (xI cF _ _ _ _ hex);split at h;rename_i td g fi ca c i0 g0 j0 k0 l0;split at h;rename_i t h0;(cases F:(Nat.beq t td && (c.args.toList.isEmpty && fi.toList.isEmpty))with|false=>rw[F]at h;cases h|true=>rw[F,gc]at h;split at h;cases h;rename_i b0 d0;split at h;rename_i m3 e0;have h2:LK fr.m b0.m:=Ko cF (Qe hX hB n) d.post ⟨put (put fr.T (some td) (.func (.func g) #[] (ca.toList.map (ev fr.T)).toArray)) d.de.dst undef,fr.m⟩ b0 d0;exact FG (fr:={b0 with m:=m3}) ((h1.trans h2).trans (Vp cF e0)) h;cases h);cases h;cases h;cases h
def Pq(hE:E.OK P)(hX:cP P X)(hB:xW P r B)(F:∀g args m m',B g args m=some m'->LK m m')(hr:bO r)(hd:E.df.get f=some d)(hS:Nat.beq Da f=false):cP P (uF E X B r f d):=by refine⟨λg args m v m' h σ w args' hs hl=>?_,λl args m v m' h=>?_,λg args m v m' h=>?_,λa m v m' b h=>?_⟩;have⟨hg,n0,h0⟩:=qz h;cases hg;exact ad3 hE hX hB hr hd (h0 n0 (Aj _)) hs hl;cases (qz h).1;obtain⟨-,n0,h0⟩:=qz h;exact SE hX.aY F (h0 n0 (Aj _));rw[fR hS]at h;cases h
end
end Go.D
namespace Go.Proofs
open Go.D Go.RowKit
def Tryz.Qy(w:World):Calls Tryz.prog 152 #[L4] w λe w'=>e=.panicked [{v:=.iface 238 (.agg #[]),recovered:=false}]/\w'=w:=by go_enter Tryz.func152,Tryz.ntmps152;go_wp2;have F:(Instr.panic (.iface 238 (.agg #[]))).run Tryz.prog w=(.halt (.panic (.iface 238 (.agg #[]))) w:Result Φ):=(by rfl);rw[F];exact⟨rfl,rfl,rfl⟩
abbrev xA:Φ:=.iface 238 (.agg #[])
def oP:iF:=λg args m=>match g with
 |.func f=>bif Nat.beq f 152 then(match args with |[.bool false]=>some m |_=>none)else none
 |_=>none
def uc{g:Fn}{args:Ω}{m m':M}(h:oP g args m=some m'):g=.func 152/\args=[L4]/\m'=m:=by unfold oP at h;split at h;rename_i f;(cases F:Nat.beq f 152 with|false=>rw[F]at h;cases h|true=>rw[F,gc]at h;have:=VA F;grind);cases h
def acE:xW Tryz.prog xA oP:=by refine⟨λf args m m' h σ w args' hs hl=>?_,λg args m m' h=>⟨_,(uc h).1⟩⟩;obtain⟨hg,rfl,rfl⟩:=uc h;cases hg;have⟨x1,l1,b0,hv,d0⟩:=hl.cases;obtain rfl:=d0.nil_eq;have e1:=hv.bJ rfl;subst e1;have F:args'= #[L4]:=be;subst F;refine⟨callsIn_wide.2 ((Tryz.Qy w).mono ?_),enters_of Tryz.func152 bv rfl _ _⟩;rintro e w' ⟨rfl,rfl⟩;exact⟨rfl,σ,.refl hs⟩
def QB:∀g args m m',oP g args m=some m'->LK m m':=λg args m m' h=>by
 obtain⟨-, -,rfl⟩:=uc h;exact .refl
