/- putlogref27.Step. -/
import Derived.Test.YtigpcbodmjjaiaaGreatDoorG8J
set_option maxRecDepth 100000
open Go Go.D Go.Proofs.Tryz
namespace Go.Proofs.YtigpcbodmjjaiaaGreatDoor
section
variable {X:aM} {m:M}
noncomputable def vR(y:Yd)(t:Tk):Option Yd:=if dI t=true then GQ wJ dB dg y t else none
theorem Bm{y:Yd}{t:Tk}:vR y t=(jZ wJ dB dg y t).map λp=>⟨p.1,p.2,EO y t,Fe y t,Qz y t⟩:=by
 unfold vR jZ GQ
 grind
abbrev WI:aes:=yv (.slice none 0 0) (.slice none 0 0) (.slice none 0 0) (.slice none 0 0) (.slice none 0 0)
def lI(D:Option Yd)(m':M)(rv:aes):Prop:=match D with
 |some z=>∃r r2 st rc mo,rv=.tuple #[yv r r2 st rc mo,.int .i64 0]/\lM m' z r r2 st rc mo
 |none=>rv=.tuple #[WI,.int .i64 270]
theorem fy{α:Type}[aZ α]{m':M}{l:List α}{v:aes}(h:Sl m' l v)(hf:D.bI v):l=[]/\v=aew:=by
 rcases h with⟨h1,h2⟩ |⟨b,o,c,bc,g,h1,_⟩
 ·grind
 rw[h1]at hf;simp[D.bI]at hf
theorem lM.flat{z:Yd}{m':M}{r r2 st rc mo:aes}(h:lM m' z r r2 st rc mo)(hf:D.bI r/\D.bI r2/\D.bI st/\D.bI rc/\D.bI mo)(m:M):lM m z r r2 st rc mo:=by have⟨⟨l,h1,h2⟩,h3,⟨k,h4,h5⟩,h6,h7⟩:=h;have⟨f1,f2,f3,f4,f5⟩:=hf;obtain⟨e1,rfl⟩:=fy h2.sl f1;obtain⟨e2,rfl⟩:=fy h3 f2;obtain⟨e3,rfl⟩:=fy h5.sl f3;obtain⟨e4,rfl⟩:=fy h6 f4;obtain⟨e5,rfl⟩:=fy h7 f5;subst e1 e3;exact⟨⟨[],h1,⟨.nil,λx hx=>(by cases hx),λx hx=>(by cases hx),.inl rfl⟩⟩,e2 ▸ .nil,⟨[],h4,CH.nil⟩,e4 ▸ .nil,e5 ▸ .nil⟩
theorem lI.flat{D:Option Yd}{m':M}{r r2 st rc mo t:aes}(h:lI D m' (.tuple #[yv r r2 st rc mo,t]))(hf:bF (.tuple #[yv r r2 st rc mo,t]))(m:M):lI D m (.tuple #[yv r r2 st rc mo,t]):=by
 unfold lI at h⊢;split at h
 ·have⟨_,_,_,_,_,e,hs⟩:=h;cases e;have a0:((D.bI r && (D.bI r2 && (D.bI st && (D.bI rc && (D.bI mo && true))))) && (true && true)):=hf;simp only[aa3]at a0;exact⟨_,_,_,_,_,rfl,hs.flat ⟨a0.1.1,a0.1.2.1,a0.1.2.2.1,a0.1.2.2.2.1,a0.1.2.2.2.2.1⟩ m⟩
 exact h
theorem V0{u:Un}{w:aes}:aK TE 113 [(0,u.v w)]=some (KW.v ⟨u,w,[],aew⟩):=El rfl
theorem OZ{r r2:aes}:aK TE 38 [(0,.agg #[r,r2])]=some (yv r r2 aew aew aew):=Gi rfl
theorem VX{a b c:Int}:aK TE 109 [(0,aev a),(1,aev b),(2,aev c)]=some (Mo.v ⟨a,b,c⟩):=wz rfl rfl rfl
theorem RC:aK TE 38 []=some WI:=Ku
def jE{α:Type}(R:α->α->Prop)[DecidableRel R](D:Prop)[Decidable D](l:List α)(x:α)(add:Bool)(i:Nat)(acc:List α):Prop:=if D then nS R l x add i acc else add=false/\acc=l.take i
section
variable {α:Type} {R:α->α->Prop} [DecidableRel R] {D:Prop} [Decidable D] {l:List α} {x n:α} {i:Nat} {acc:List α} {add:Bool}
theorem jE.init:jE R D l x (decide D) 0 []:=by
 unfold jE;split;·rename_i h;rw[abb h];exact .nil
 ·grind
theorem jE.put(a0:∀a b c,R a b->R b c->R a c)(b0:∀a,¬R a a)(h:jE R D l x true i acc)(hn:l[i]?=some n)(d0:¬R n x):jE R D l x false (i+1) (acc++ [x]++if(D->R x n\/R n x)then [n]else []):=by
 unfold jE at h⊢;by_cases hD:D
 ·rw[aa5 hD]at h⊢
  have:=h.put a0 b0 hn d0
  grind
 ·grind
theorem jE.on(b0:∀a b c,R a b->R b c->R a c)(d0:∀a,¬R a a)(h:jE R D l x true i acc)(hn:l[i]?=some n)(a0:R n x):jE R D l x true (i+1) (acc++if(D->R x n\/R n x)then [n]else []):=by
 unfold jE at h⊢;rw[aa5 λ_=> .inr a0];by_cases hD:D
 ·rw[aa5 hD]at h⊢;exact h.on b0 d0 hn a0
 ·grind
theorem jE.off(a0:∀a b c,R a b->R b c->R a c)(hs:l.Pairwise R)(h:jE R D l x false i acc)(hn:l[i]?=some n):jE R D l x false (i+1) (acc++if(D->R x n\/R n x)then [n]else []):=by
 unfold jE at h⊢;by_cases hD:D
 ·rw[aa5 hD]at h⊢
  have⟨h1,h2⟩:=h.off a0 hs hn
  grind
 ·rw[aa4 hD]at h⊢
  rw[aa5 λhc=>(hD hc).elim,abg,hn,h.2]
  grind
theorem jE.fin(a0:∀a,¬R a a)(b0:∀a b c,R a b->R b c->R a c)(h:jE R D l x add l.length acc):(acc++if add=true then [x]else [])=if D then DR R l x else l:=by
 unfold jE at h
 by_cases hD:D
 ·rw[aa5 hD]at h⊢
  exact h.fin a0 b0
 ·grind
end
theorem S7{y:Yd}{t:Tk}:Fe y t=if t.kind=8/\(⟨t.id,t.side⟩:Fc)∉y.rc then DR fa y.rc ⟨t.id,t.side⟩else y.rc:=rfl
theorem To{y:Yd}{t:Tk}:Qz y t=if t.kind=9 then DR lL y.mo ⟨t.id,t.other,t.dA⟩else y.mo:=rfl
theorem Qe{y:Yd}{t:Tk}{p:List Un×List Mk}(h:jZ wJ dB dg y t=some p)(k:t.kind=2):(cf y.us t.id).isSome:=by
 unfold jZ at h;split at h
 ·obtain⟨l,hl, -⟩:=abV.1 h
  unfold jD at hl
  grind
 cases h
theorem fj.WR{vs:List Un}{ns:List Mk}{m' m'':M}{v:aes}(h:fj vs ns m' v)(hk:∀c cs t g,m'.get c=.cells cs t g->(t=60\/t=141\/t=137)->m''.get c=.cells cs t g):fj vs ns m'' v:=by
 have⟨acc,r,r2,e,h1,h2,h3⟩:=h
 exact⟨acc,r,r2,e,h1,h2.bs λc cs t g hc ht=>hk c cs t g hc (by grind),h3.bs λc cs t g hc ht=>hk c cs t g hc (by
  have:t=137:=by simpa[aZ.ty,aZ.dd]using ht
  grind)⟩
theorem Sj{l:List Mk}{v:aes}(h:Sl m l v){i:Nat}{x:Mk}(hx:l[i]?=some x):∃b o,an TE 31 v (aev i)=some (aeq b o)/\ah TE m 3 (aeq b (o+1))=some (aev x.un)/\ah TE m 137 (aeq b o)=some x.v:=by
 have⟨b,o,bc,g,cs,e1,hb,hr,hle,hj⟩:=h.gM dQ (k:=.i64) hx;obtain rfl:cs=x.c:=hr;refine⟨b,o,e1,?_,?_⟩
 ·rw[bO,aL hb];exact hj 1 (by show 1 < 5;decide)
 have⟨p,a0,e2,e3,e4⟩:=h.index dQ (k:=.i64) hx;obtain rfl:p=aeq b o:=Option.some.inj (e2.symm.trans e1);obtain rfl:a0=x.c:=e4;exact e3
theorem Qo{x:Mk}:aI TE m 31 1 [(0,x.v)]=some (.slice (some ⟨m.n,0,none⟩) 1 1,m.push (.cells x.c 137 none)):=by kernel_rfl
theorem RJ:rH TE 31 Mk:=⟨ag.t31,ag.t137,by kernel_rfl,rfl,rfl,by kernel_rfl,by decide,rfl⟩
theorem QO{b:Nat}{u:Un}{w mv:aes}{l l':List Mk}(g:m.get b=.cells (KW.c ⟨u,w,l',mv⟩) 113 none)(ho:Ow (b+1) m l mv){x:Mk}(hl:l.length < 1000000):
  ∃a m1 r' m2 m3,aI TE m 31 1 [(0,x.v)]=some (a,m1)/\az TE (M.wl m1 (M.n m1)) .append [31,31] [mv,a]=some (r',m2)/\aF TE m2 31 (aeq b (0+6)) r'=some (m3,b)/\b+1<=m2.low/\
   m3.get b=.cells (KW.c ⟨u,w,l',r'⟩) 113 none/\Ow (b+1) m3 (l++ [x]) r'/\m.n<=m3.n/\(∀c,c < b->m3.get c=m.get c):=by
 obtain⟨m1,a0⟩:∃q,q=m.push (.cells x.c 137 none):=⟨_,rfl⟩
 have b0:Ext m m1:=a0 ▸ Ext.refl.push;have d0:m1.get m.n=.cells x.c 137 none:=by rw[a0];exact M.aY
 have e0:=M.bk g;have g0:=b0.n;obtain⟨r',m2,m3,p1,p2,p3,p4,p5,p6,p7,p8⟩:=MO (n1:=b+1) (o:=6) RJ rfl GO rfl g (by rfl) (by omega) (by omega) ho b0 (gH (x:=x) d0 rfl) hl;exact⟨_,m1,r',m2,m3,a0 ▸ Qo,p1,p2,p3,p4,p5,by omega,λc hc=>p7 c (by omega) (by omega)⟩
end
section
variable {X:aM} {m:M}
theorem jY.mob{m0:M}{O:Nat}{r r2:aes}{k:List Kp}{rl:List Fc}{ml:List Mo}{rc mo:aes}(h:jY m0 O m r r2 k rl ml rc mo){a:Addr}{n c:Nat}(e:mo=.slice (some a) n c):a.block < m.n:=by
 have⟨⟨sl,st,h1,h2,h3⟩,h4,h5⟩:=h;subst e;rcases h2.mo.sl with⟨h6,_⟩ |⟨b,o,c',bc,g,h6,h7,_⟩;·cases h6
 cases h6;exact M.bk h7
set_option maxHeartbeats 4000000 in
theorem zY(hX:cy X){y:Yd}{r r2 st rc mo:aes}{t:Tk}{w:aes}(hV:lM m y r r2 st rc mo)(hP:oL y)(hw:Sl m t.un.shape w)(c5:t.un.shape.length < 100000):
  ∃rv m',C X (.func 27) [yv r r2 st rc mo,t.v w] m m.n rv m'/\Ext m m'/\lI (vR y t) m' rv:=by
 refine Cl.FD hX (aaU func27) ?_
 have H:∀R:aet->M->Nat->Prop,(∀(r r2 st rc mo t':aes) (m':M) (lo:Nat),m.n<=lo->Ext m m'->lI (vR y t) m' (.tuple #[yv r r2 st rc mo,t'])->R [yv r r2 st rc mo,t'] m' lo)->dp TE (aO TE X) f27 [yv r r2 st rc mo,t.v w] m R:=by
  intro R hR;rw[F27];dsimp only[aO,aaF,aaG,aaH,aaI,aaJ,aaK,aaL,aaM,aaN,aaO,aaP,aaQ,aaR,aaS,aaT,Γ,Λ,ω];refine aw λm1 i7 y3 d5=>?_;refine aw λm2 j7 z3 A3=>?_;refine aw λm3 k7 B3 L2=>?_;have K1:Ext m m3:=⟨by omega,by grind⟩
  have g1:m3.get m.n=.cells (yc r r2 st rc mo) 38 none:=by rw[L2 _ (by omega),A3 _ (by omega)];exact y3
  have g2:m3.get m1.n=.cells (t.c w) 62 none:=by rw[L2 _ (by omega)];exact z3
  have gz:m3.get m2.n=.cells (yc aew aew aew aew aew) 38 none:=B3;clear y3 d5 z3 A3 B3 L2;unfold ptrTo;simp only[cH,dE,dn,eW,cL,cC,cp,cK,cG,dk,dL,dM,eI,ae];have g5:=hV.aG K1;have⟨⟨l,L1,hF⟩,C3,⟨kl,S0,hK⟩,i5,j5⟩:=g5;have k5:cx (bR l):=by rw[L1];exact hP.qk
  have o6:l.length<=12:=by have:=hP.qk.len;rwa[<-L1,cI]at this
  have r6:kl.length<=12:=by have:=hP.P3;rwa[<-S0,jk]at this
  have s6:=hP.Wi;have u6:=hP.Si;have l5:=hP.Av.len;rw[(dP g1).2.2.2.2,ae,fL g2,ae];have⟨rv,m7,c7,x7,a7⟩:=Gx (m:=m3) hX (hV.aG K1) hP (hw.aG K1) c5;refine aH c7 ?_
  obtain⟨v7,q,q2,ok,rfl,o1,o2,q0⟩:∃v7 q q2 ok,rv=.tuple #[v7,.agg #[q,q2],.bool ok]/\one q=true/\one q2=true/\(match jZ wJ dB dg y t with |some (vs,ns)=>ok=true/\fj vs ns m7 (.agg #[q,q2]) |none=>ok=false):=by
   unfold zT at a7
   cases hs:jZ wJ dB dg y t with
   |none=>
    grind
   |some d=>have⟨vs,ns⟩:=d;rw[hs]at a7;obtain⟨v,p,p2,rfl,h1⟩:=a7;have⟨_,_,_,e,_,h2,h3⟩:=id h1;cases e;exact⟨_,_,_,_,rfl,h2.sl.one,h3.one,rfl,h1⟩
  have n7:=x7.n;rw[aJ,aJ,aJ];simp only[aaY,aaX,ae];refine aw λm12 v6 a2 M2=>?_;refine aD dV a2 rfl rfl (by show(one q && (one q2 && true))=true;rw[o1,o2];rfl) λm13 w6 b2 D3=>?_;have gS:m13.get m7.n=.cells [q,q2] 33 none:=b2;have a1:Ext m7 m13:=⟨by omega,by grind⟩
  have i0:=x7.trans a1;have b1:=K1.trans i0;have n13:=a1.n;have g1:=i0.cells g1;have g2:=i0.cells g2;have gz:=i0.cells gz;clear a2 M2 b2 D3 a7 c7;have y6:m.n<=min m.n m3.n:=by omega
  rw[bE,ae,ak];refine av (λc=>?_) (λc=>?_)
  ·rw[abo]at c
   subst c
   rw[RC,ae]
   refine aD gQ gz rfl rfl rfl λm17 z6 E3 F3=>?_
   rw[(dP E3).2.2.2.2,ae]
   refine hR _ _ _ _ _ _ _ _ (by omega) ⟨by omega,λc hc=>by rw[F3 c (by omega),b1.get c hc]⟩ ?_
   rw[Bm]
   cases hs:jZ wJ dB dg y t with
   |none=>rfl
   |some d=>have⟨vs,ns⟩:=d;rw[hs]at q0;exact absurd q0.1 (by decide)
  rw[abj]at c;subst c
  obtain⟨⟨vs,ns⟩,hs⟩:∃p,jZ wJ dB dg y t=some p:=by
   cases hs:jZ wJ dB dg y t with
   |none=>rw[hs]at q0;have q0:true=false:=q0;cases q0
   |some d=>exact⟨d,rfl⟩
  rw[hs]at q0;obtain⟨-,G3⟩:=q0;have hD:vR y t=some ⟨vs,ns,EO y t,Fe y t,Qz y t⟩:=by rw[Bm,hs];rfl
  rw[hD]at hR;rw[(kj gS).2.2.2,ae,OZ,ae];refine aw λm22 A6 d2 H3=>?_;refine aD gQ d2 rfl rfl (by show(one q && (one q2 && true))=true;rw[o1,o2];rfl) λm23 B6 i2 I3=>?_;have gO:m23.get m13.n=.cells (yc q q2 aew aew aew) 38 none:=i2;have v0:Ext m13 m23:=⟨by omega,by grind⟩
  have n23:=v0.n;have J3:nd m13.n m23 q q2 [] [] [] aew aew aew:=⟨gO,.nil,.nil,.nil,by omega⟩
  clear d2 H3 i2 I3;have s0:=hK.aG i0;have kx:∀{mm:M} {sl:List KW},Ext m13 mm->(∀x∈sl,x∈kl)->∀x∈sl,Sl mm x.u.shape x.w/\Sl mm x.ms x.mv/\x.u.shape.length < 1000000/\x.ms.length < 1000000:=λhe hm x hx=>⟨(s0.sh x (hm x hx)).aG he,(s0.mv x (hm x hx)).aG he,s0.ln x (hm x hx),s0.lm x (hm x hx)⟩
  refine bA (λN2 mm lo=>N2=[]/\m.n<=lo/\jY m13 m13.n mm q q2 (EO y t) [] [] aew aew) (λQ hQ=>?_) ?_
  ·have⟨tk,tid,KE,O2,P2⟩:=lQ (v0.cells g2);rw[tk,ae,aW,ae,ak];refine av (λk2=>?_) (λk2=>?_)
   ·have k2:=aa1 k2;rw[(dP (v0.cells g1)).1,ae,tid,ae];obtain⟨l7,K3,m5,L3,f37⟩:=iX (m:=m23) hX (hF.aG (i0.trans v0)) (by omega) C3.one t.id;refine aH m5 ?_;obtain⟨u,wu,is,rfl,fu⟩:=f37.PF k5;have n37:=L3.n;rw[aJ,aJ];simp only[aaY,aaX,ae];refine aw λo7 C6 l2 N3=>?_;refine aD df l2 rfl rfl (Un.cM fu.sl.one) λo0 D6 v2 O3=>?_;have gu:o0.get K3.n=.cells (u.c wu) 60 none:=v2;have d1:Ext K3 o0:=⟨by omega,λc hc=>by grind⟩
    rw[bV gu,ae,V0,ae];refine aw λp7 E6 y2 a4=>?_;refine aD xK y2 rfl rfl (KW.cM (x:=⟨u,wu,[],aew⟩) fu.sl.one rfl) λb4 F6 z2 c4=>?_;have gK:b4.get o0.n=.cells (KW.c ⟨u,wu,[],aew⟩) 113 none:=z2;have A2:Ext o0 b4:=⟨by omega,λc hc=>by grind⟩
    have n42:=d1.n;have n47:=A2.n;have i1:=L3.trans d1;have r0:=v0.trans i1;clear l2 N3 v2 O3 y2 a4 z2 c4
    have n5:is=true:=by
     have:=Qe hs k2;rw[L1]at fu;rw[fu.eq]at this;cases is;·cases this
     rfl
    subst n5;have N1:cf y.us t.id=some u:=by rw[<-L1];exact fu.eq
    have o5:=C3.aG (i0.trans r0);refine Lp.intro (γ:=Nat) (λj=>y.ms.length-j) (λj vs mm lo=>∃mv,vs=[.int .i64 j]/\j<=y.ms.length/\Ext o0 mm/\m.n<=lo/\mm.get o0.n=.cells (KW.c ⟨u,wu,[],mv⟩) 113 none/\Ow (o0.n+1) mm ((y.ms.take j).filter λx=>decide (x.un=t.id)) mv/\o0.n < mm.n) 0 ⟨_,rfl,aa6 _,A2,by omega,gK,.nil,by omega⟩ ?_;rintro j vs mm lo ⟨mv,rfl,hj,b0,p0,gk,k1,d4⟩;have l1:=o5.aG b0;obtain⟨-,J0, -⟩:=lQ ((r0.trans b0).cells g2);rw[aE,(xB ((r0.trans b0).cells g1)).2.2,ae,l1.len dQ,aA,aQ,ae,ak]
    have g4:((y.ms.take j).filter λx=>decide (x.un=t.id)).length<=20:=by have:=acf (λx:Mk=>decide (x.un=t.id)) (y.ms.take j);rw[abP]at this;omega
    refine av (λl0=>?_) (λz0=>?_)
    ·have l0:j < y.ms.length:=by grind
     obtain⟨x,hx⟩:∃x,y.ms[j]?=some x:=⟨_,aaW l0⟩
     have⟨b,o,p1,p2,p3⟩:=Sj l1 hx;refine bA (λvs m' a0=>∃O1,vs=[]/\Ext o0 m'/\m.n<=a0/\m'.get o0.n=.cells (KW.c ⟨u,wu,[],O1⟩) 113 none/\Ow (o0.n+1) m' ((y.ms.take (j+1)).filter λx=>decide (x.un=t.id)) O1/\o0.n < m'.n) (λQ' B0=>?_) ?_
     ·rw[ae,p1,ae,dq,ae,p2,ae,J0,ae,aW,ae,ak];refine av (λc=>?_) (λc=>?_)
      ·obtain⟨a,D0,r',E0,F0,e1,e2,e3,e4,e5,e6,e7,e8⟩:=QO (x:=x) gk k1 (by omega);rw[(DL gk).2.2.1,ae,ae,p1,ae,p3,ae,e1,aA,e2,aA,e3,aA];refine B0 _ _ _ ⟨r',rfl,⟨by grind,λc hc=>by rw[e8 c hc,b0.get c hc]⟩,by omega,e5,?_,by omega⟩;rw[abg,hx,abB];simp only[ab3,abQ,c,acZ,acC];exact e6
      refine B0 _ _ _ ⟨mv,rfl,b0,p0,gk,?_,d4⟩;rw[abg,hx,abB];simp only[ab3,abQ,c,acC,abJ];simpa using k1
     rintro _ m' a0 ⟨O1,rfl,h1,h2,h3,h4,h5⟩;rw[aS,ae,wrap64];exact⟨j+1,by omega,O1,rfl,by omega,h1,h2,h3,h4,h5⟩
    obtain rfl:j=y.ms.length:=by have:¬(j:Int)< (y.ms.length:Int):=aaZ z0;omega
    rw[abD]at k1 g4;have P1:=r0.trans b0;have na:=b0.n;have T2:=s0.aG P1;refine Lp.intro (γ:=Nat) (λi=>kl.length-i) (λi vs m' lo=>vs=[.int .i64 i]/\i<=kl.length/\mm=m'/\m.n<=lo/\∀x∈kl.take i,x.u.id < t.id) 0 ⟨rfl,aa6 _,rfl,p0,λx hx=>by cases hx⟩ ?_;rintro i _ _ gh ⟨rfl,hi,rfl,y0,k4⟩;rw[aE];refine bA (λvs m' a0=>∃b:Bool,vs=[.bool b]/\mm=m'/\m.n<=a0/\(b=true->∃x,kl[i]?=some x/\x.u.id < t.id)/\(b=false->∀x,kl[i]?=some x->¬x.u.id < t.id)) (λQ' B0=>?_) ?_
    ·rw[(dP (P1.cells g1)).2.1,ae,T2.sl.len ff,aA,aQ,ae,ak];refine av (λl0=>?_) (λz0=>?_)
     ·have l0:i < kl.length:=by grind
      obtain⟨x,hx⟩:∃x,kl[i]?=some x:=⟨_,aaW l0⟩
      obtain⟨b,o,e1,e2, -⟩:=AA T2.sl hx;rw[ae,e1,ae,cz,ae,bD,ae,e2,ae,J0,ae,aQ,ae];refine B0 _ _ _ ⟨_,rfl,rfl,y0,λc=>⟨x,hx,aa1 c⟩,λc z hz=>?_⟩;rw[hx]at hz;cases hz;exact aaZ c
     refine B0 _ _ _ ⟨false,rfl,rfl,y0,λc=>(by cases c),λ_ z hz=>?_⟩;have:¬(i:Int)< (kl.length:Int):=aaZ z0;have:=(aa0.1 hz).1;omega
    rintro _ _ a3 ⟨b,rfl,rfl,u0,r5,u5⟩;rw[aE,ak];refine av (λc=>?_) (λc=>?_)
    ·have⟨x,hx,v5⟩:=r5 c;have:=(aa0.1 hx).1;rw[aS,ae,wrap64];refine⟨i+1,by omega,rfl,by omega,rfl,u0,λz hz=>?_⟩;rw[abg,hx]at hz;rcases abp.1 hz with hz |hz;·exact k4 z hz
     simp only[ab3,abr]at hz;rw[hz];exact v5
    have b3:nd m13.n mm q q2 [] [] [] aew aew aew:=J3.aG (i1.trans b0);obtain⟨G6,l4,m4⟩:=T2.cap.to ff (by kernel_rfl) hi;rw[(dP b3.cell).2.1,ae,(dP (P1.cells g1)).2.1,ae,l4,ae];obtain⟨H6,J6,B2,n4,f119,o4, -⟩:=b3.st.append Cy (by decide) m4 (by omega) (by grind);have⟨C2,u4,v4,j1,j2,j3,j4⟩:=b3.Pk B2 n4 f119.n o4 f119.get;rw[B2,aA,u4,aA];have w5:C2.get o0.n=.cells (KW.c ⟨u,wu,[],mv⟩) 113 none:=by grind
    rw[(dP v4.cell).2.1,ae,(DL w5).2.2.2,ae];obtain⟨a,w4,r',K6,y4,e1,e2,e3,e4,c3,p1,p2,p3,p4,p5⟩:=v4.GY (x:=⟨u,wu,(y.ms.filter λx=>decide (x.un=t.id)),mv⟩) ⟨fu.sl.one,k1.sl.one⟩ (by grind);have e1:aI TE C2 34 1 [(0,KW.v ⟨u,wu,[],mv⟩)]=some (a,w4):=e1;rw[e1,aA,e2,aA,e3,aA];have v1:Ext m13 y4:=⟨by omega,λc hc=>by rw[p2 c hc,j2 c hc,P1.get c hc]⟩
    have y5:=s0.aG v1;obtain⟨v138,z4,A4⟩:=y5.cap.from ff (by kernel_rfl) hi;rw[(dP c3.cell).2.1,ae,(dP (v1.cells g1)).2.1,ae,z4,ae];obtain⟨v139,L6,D2,B4,n139,C4,f139, -⟩:=c3.st.vO Cy rfl (by simp) A4 (by omega) (by grind);have⟨E2,D4,z5,r1,A5,r3,r4⟩:=c3.Pk D2 B4 n139 C4 f139;rw[D2,aA,D4,aA];have y1:Ext m13 E2:=⟨by omega,λc hc=>by rw[A5 c hc,v1.get c hc]⟩
    have eZ:∀c cs t' g,mm.get c=.cells cs t' g->t'≠113->t'≠38->E2.get c=.cells cs t' g:=λc cs t' g hc h1 h2=>r3 _ _ _ _ (p3 _ _ _ _ (j3 _ _ _ _ hc h1 h2) h1 h2) h1 h2;refine hQ _ _ _ ⟨rfl,by omega,⟨⟨_,_,?_,z5,?_⟩,y1,rfl⟩⟩
    ·have B5:=QV (f:=λk:Kp=>k.un.id) (l:=y.st) (x:=⟨u,y.ms.filter λx=>decide (x.un=t.id)⟩) (k:=i) hP.uS (by grind) ?_ ?_
     ·unfold EO;rw[aa5 k2,N1];show _=BV _ _ _;rw[B5,<-S0];simp only[zC,abZ,abE,acJ,ads,List.map_take,List.map_drop,abv,acw]
     ·intro z hz;rw[<-S0,<-List.map_take]at hz;obtain⟨x,hx,rfl⟩:=abF.1 hz;show x.u.id < u.id;rw[(dK N1).2];exact k4 x hx
     intro z hz;have A0:=hP.off z (aa2 hz) u (dK N1).1;rw[<-S0,ach]at hz;obtain⟨x,hx,rfl⟩:=abl.1 hz;have h1:=u5 c x hx;rw[<-(dK N1).2]at h1;have A0:u.id≠x.u.id:=A0;show u.id < x.u.id;omega
    intro x hx;rw[abZ,abv,abp]at hx;rcases hx with hx |hx;·exact kx y1 (λz hz=>ado hz) x hx
    rcases abc.1 hx with rfl |hx
    ·refine⟨(fu.sl.aG (d1.trans b0)).bs λc cs t' g hc ht=>eZ c cs t' g hc ?_ ?_,k1.sl.bs λc cs t' g hc ht=>eZ c cs t' g hc ?_ ?_,fu.ln,adf g4 (by decide)⟩ <;>
      (simp only[aZ.ty,aZ.dd,abc,abn,or_false]at ht;subst ht;decide)
    exact kx y1 (λz hz=>adn hz) x hx
   have k2:=aaZ k2;refine Lp.intro (γ:=Nat) (λi=>kl.length-i) (λi vs mm lo=>∃z1,vs=[.int .i64 i]/\i<=kl.length/\m.n<=lo/\Ext m13 mm/\nd m13.n mm q q2 ((kl.take i).filter λx=> !decide (t.kind=3) || !decide (x.u.id=t.id)) [] [] z1 aew aew) 0 ⟨_,rfl,aa6 _,by omega,v0,J3⟩ ?_;rintro i vs mm lo ⟨z1,rfl,hi,p0,b0,hO⟩;have E4:=s0.aG b0;obtain⟨C5,J0, -⟩:=lQ (b0.cells g2);have hY:=(dP (b0.cells g1)).2.1;rw[aE,hY,ae,E4.sl.len ff,aA,aQ,ae,ak];refine av (λl0=>?_) (λz0=>?_)
   ·have l0:i < kl.length:=by grind
    obtain⟨x,hx⟩:∃x,kl[i]?=some x:=⟨_,aaW l0⟩
    have⟨b,o,e1,e2,e3,w1,w2⟩:=AA E4.sl hx;have nm:=b0.n;refine bA (λvs m' a0=>∃z1,vs=[]/\m.n<=a0/\Ext m13 m'/\nd m13.n m' q q2 ((kl.take (i+1)).filter λx=> !decide (t.kind=3) || !decide (x.u.id=t.id)) [] [] z1 aew aew) (λQ' B0=>?_) ?_
    ·refine bA (λvs m' a0=>vs=[.bool (!decide (t.kind=3) || !decide (x.u.id=t.id))]/\mm=m'/\m.n<=a0) (λQ2 n0=>?_) ?_
     ·rw[C5,ae,bZ,ae,ak];refine av (λc=>n0 _ _ _ ⟨by grind,rfl,p0⟩) (λc=>?_);rw[ae,e1,ae,cz,ae,bD,ae,e2,ae,J0,ae,bZ,ae];exact n0 _ _ _ ⟨by grind,rfl,p0⟩
     rintro _ _ gh ⟨rfl,rfl,y0⟩;rw[aE,ak];refine av (λc=>?_) (λc=>?_)
     ·obtain⟨a,D0,r',E0,F0,f1,f2,f3,f4,D5,f5,f6, -⟩:=hO.GY (x:=x) ⟨w1,w2⟩ (adf (acf _ _) (by grind));rw[(dP hO.cell).2.1,ae,hY,ae,e1,ae,e3,ae,f1,aA,f2,aA,f3,aA];refine B0 _ _ _ ⟨r',rfl,by omega,⟨by omega,λc hc=>by rw[f6 c hc,b0.get c hc]⟩,?_⟩;rw[abg,hx,abB];simp only[ab3,abQ,c,acZ,acC];exact D5
     refine B0 _ _ _ ⟨z1,rfl,y0,b0,?_⟩;rw[abg,hx,abB];simp only[ab3,abQ,c,acC,abJ];simpa using hO
    rintro _ m' a0 ⟨G4,rfl,h1,h2,h3⟩;rw[aS,ae,wrap64];exact⟨i+1,by omega,G4,rfl,by omega,h1,h2,h3⟩
   obtain rfl:i=kl.length:=by have:¬(i:Int)< (kl.length:Int):=aaZ z0;omega
   rw[abD]at hO;refine hQ _ _ _ ⟨rfl,p0,⟨⟨_,_,?_,hO,kx b0 λx hx=>(abX.1 hx).1⟩,b0,rfl⟩⟩;unfold EO;rw[aa4 k2,<-S0];by_cases k3:t.kind=3
   ·rw[aa5 k3]
    unfold zC
    rw[List.filter_map]
    congr 1
    apply List.filter_congr
    intro x _
    rw[abb k3];rfl
   rw[aa4 k3,acd.2 λx _=>by grind]
  rintro _ O0 N6 ⟨rfl,E5,A1⟩;have H4:=A1.x;have n27:=H4.n;have O6:=A1.lt;have⟨tk,tid,KE,O2,P2⟩:=lQ (H4.cells g2);rw[tid,ae,O2,ae,rE,ae];refine aw λb7 G5 B1 d3=>?_;refine aD oQ B1 rfl rfl rfl λC1 H5 D1 g3=>?_;have gf:C1.get O0.n=.cells (Fc.c ⟨t.id,t.side⟩) 53 none:=D1;have F2:Ext O0 C1:=⟨by omega,λc hc=>by grind⟩
  have n196:=F2.n;have G0:=A1.aG F2;clear B1 d3 D1 g3;have H0:=i5.aG i0;have i3:=j5.aG i0;refine bA (λN2 mm lo=>N2=[.bool (decide (t.kind=8/\(⟨t.id,t.side⟩:Fc)∉y.rc))]/\C1=mm/\m.n<=lo) (λQ hQ=>?_) ?_
  ·rw[(lQ (G0.x.cells g2)).1,ae,aW,ae,ak];refine av (λc=>?_) (λc=>?_)
   ·rw[(dP (G0.x.cells g1)).2.2.2.2,ae,(oC gf).2.2,ae];refine aH (qE hX (H0.aG G0.x) (by omega) ⟨t.id,t.side⟩) ?_;rw[bE,ae];refine hQ _ _ _ ⟨?_,rfl,by omega⟩;have c:=aa1 c;by_cases e:(⟨t.id,t.side⟩:Fc)∈y.rc;·rw[abb e,abt λh=>h.2 e];rfl
    rw[abt e,abb ⟨c,e⟩];rfl
   refine hQ _ _ _ ⟨?_,rfl,by omega⟩;rw[abt λh=>(aaZ c) h.1]
  rintro _ _ gh ⟨rfl,rfl,y0⟩;rw[aE];have I5:∀(i:Nat) (n:Fc),y.rc[i]?=some n->(t.kind=8/\(⟨t.id,t.side⟩:Fc)∉y.rc->fa ⟨t.id,t.side⟩ n\/fa n ⟨t.id,t.side⟩):=λi n hn hd=>BK λe=>hd.2 (e ▸ aa2 hn);refine Lp.intro (γ:=Nat) (λi=>y.rc.length-i) (λi vs mm lo=>∃add acc rv,vs=[.bool add,.int .i64 i]/\i<=y.rc.length/\m.n<=lo/\jY m13 m13.n mm q q2 (EO y t) acc [] rv aew/\jE fa (t.kind=8/\(⟨t.id,t.side⟩:Fc)∉y.rc) y.rc ⟨t.id,t.side⟩ add i acc/\acc.length<=2*i/\mm.get O0.n=.cells (Fc.c ⟨t.id,t.side⟩) 53 none/\(∀a n k,rv=.slice (some a) n k->O0.n≠a.block)) 0 ⟨_,[],_,rfl,aa6 _,y0,G0,jE.init,aaV _,gf,λa n k e=>by cases e⟩ ?_;rintro i vs mm lo ⟨add,acc,rv,rfl,hi,p0,hW,hI,l3,gf,A0⟩;have b0:=hW.x;have J4:=H0.aG b0
  have J5:=M.bk gf;rw[aE,aE,(dP (b0.cells g1)).2.2.1,ae,J4.len dZ,aA,aQ,ae,ak];refine av (λl0=>?_) (λz0=>?_)
  ·have l0:i < y.rc.length:=by grind
   obtain⟨x,hx⟩:∃x,y.rc[i]?=some x:=⟨_,aaW l0⟩
   have⟨p,e1,e2⟩:=sX J4 hx;have hT:=I5 i x hx;refine bA (λvs m' a0=>∃e0 d0 j0,vs=[.bool e0]/\m.n<=a0/\jY m13 m13.n m' q q2 (EO y t) d0 [] j0 aew/\jE fa (t.kind=8/\(⟨t.id,t.side⟩:Fc)∉y.rc) y.rc ⟨t.id,t.side⟩ e0 (i+1) (d0++ [x])/\d0.length<=2*i+1/\m'.get O0.n=.cells (Fc.c ⟨t.id,t.side⟩) 53 none/\(∀a n k,j0=.slice (some a) n k->O0.n≠a.block)) (λQ hQ=>?_) ?_
   ·refine bA (λvs m' a0=>vs=[.bool (add && decide (fa ⟨t.id,t.side⟩ x))]/\mm=m'/\m.n<=a0) (λQ2 n0=>?_) ?_
    ·rw[ak];refine av (λc=>?_) (λc=>n0 _ _ _ ⟨by grind,rfl,p0⟩);rw[(oC gf).2.2,ae,ae,e1,ae,e2,ae];refine aH (vK hX ⟨t.id,t.side⟩ x) ?_;exact n0 _ _ _ ⟨by grind,rfl,by grind⟩
    rintro _ _ a3 ⟨rfl,rfl,u0⟩;rw[aE,ak];refine av (λc=>?_) (λc=>?_)
    ·rw[aa3]at c;obtain⟨rfl,c⟩:=c;have c:=aa1 c;obtain⟨a,D0,r',E0,F0,f1,f2,f3,f4,g0,f5,f6,f7⟩:=hW.su (x:=⟨t.id,t.side⟩) (by omega);rw[hW.YK,ae,(oC gf).2.2,ae,f1,aA,f2,aA,f3,aA];refine hQ _ _ _ ⟨false,_,r',rfl,by omega,g0,?_,by grind,by grind,λa n k e=>by grind⟩;have:=hI.put kW uv hx λh=>uv _ (kW _ _ _ c h);rw[aa5 hT]at this;exact this
    ·refine hQ _ _ _ ⟨add,acc,rv,rfl,u0,hW,?_,by omega,gf,A0⟩
     cases add with
     |true=>
      have c:¬fa ⟨t.id,t.side⟩ x:=aaZ c;by_cases hd:t.kind=8/\(⟨t.id,t.side⟩:Fc)∉y.rc
      ·have:=hI.on kW uv hx ((hT hd).resolve_left c);rw[aa5 hT]at this;exact this
      unfold jE at hI;rw[aa4 hd]at hI;cases hI.1
     |false=>have:=hI.off kW hP.An hx;rw[aa5 hT]at this;exact this
   rintro _ m' a0 ⟨e0,d0,j0,rfl,h1,g0,h3,h4,h5,h6⟩;have K4:=H0.aG g0.x;have⟨p',K5,L5⟩:=sX K4 hx;obtain⟨a,D0,r',E0,F0,f1,f2,f3,f4,T1,f5,f6,f7⟩:=g0.su (x:=x) (by omega);rw[aE,g0.YK,ae,(dP (g0.x.cells g1)).2.2.1,ae,K5,ae,L5,ae,f1,aA,f2,aA,f3,aA,aS,ae,wrap64];have L4:=M.bk h5;exact⟨i+1,by omega,e0,_,r',rfl,by omega,by omega,T1,h3,by grind,by grind,λa n k e=>by grind⟩
  obtain rfl:i=y.rc.length:=by have:¬(i:Int)< (y.rc.length:Int):=aaZ z0;omega
  have h0:=hI.fin uv kW;rw[<-S7]at h0;refine bA (λvs m' a0=>vs=[]/\m.n<=a0/\∃j0,jY m13 m13.n m' q q2 (EO y t) (Fe y t) [] j0 aew) (λQ hQ=>?_) ?_
  ·rw[ak];refine av (λc=>?_) (λc=>?_)
   ·obtain⟨a,D0,r',E0,F0,f1,f2,f3,f4,g0,f5,f6,f7⟩:=hW.su (x:=⟨t.id,t.side⟩) (by omega);rw[hW.YK,ae,(oC gf).2.2,ae,f1,aA,f2,aA,f3,aA];rw[aa5 c]at h0;rw[h0]at g0;exact hQ _ _ _ ⟨rfl,by omega,r',g0⟩
   rw[aa4 (by grind),abJ]at h0;rw[h0]at hW;exact hQ _ _ _ ⟨rfl,p0,rv,hW⟩
  clear hW hI l3 gf A0 h0;rintro _ k0 N5 ⟨rfl,a5,P0,I0⟩;have G2:=I0.x;have n271:=G2.n;have O5:=I0.lt;have⟨tk,tid,KE,O2,P2⟩:=lQ (G2.cells g2);rw[tid,ae,KE,ae,P2,ae,VX,ae];refine aw λd7 a6 E1 n3=>?_;refine aD Bl E1 rfl rfl rfl λH2 b6 F1 o3=>?_;have gf:H2.get k0.n=.cells (Mo.c ⟨t.id,t.other,t.dA⟩) 109 none:=F1;have I2:Ext k0 H2:=⟨by omega,λc hc=>by grind⟩
  have n291:=I2.n;have G0:=I0.aG I2;clear E1 n3 F1 o3;rw[(lQ (G0.x.cells g2)).1,ae,aW,ae];refine Lp.intro (γ:=Nat) (λi=>y.mo.length-i) (λi vs mm lo=>∃add acc rv,vs=[.bool add,.int .i64 i]/\i<=y.mo.length/\m.n<=lo/\jY m13 m13.n mm q q2 (EO y t) (Fe y t) acc P0 rv/\jE lL (t.kind=9) y.mo ⟨t.id,t.other,t.dA⟩ add i acc/\acc.length<=2*i/\mm.get k0.n=.cells (Mo.c ⟨t.id,t.other,t.dA⟩) 109 none/\(∀a n k,rv=.slice (some a) n k->k0.n≠a.block/\a.block < mm.n)) 0 ⟨_,[],_,rfl,aa6 _,by omega,G0,jE.init,aaV _,gf,λa n k e=>by cases e⟩ ?_;rintro i vs mm lo ⟨add,acc,rv,rfl,hi,p0,hW,hI,l3,gf,A0⟩;have b0:=hW.x;have l1:=i3.aG b0;have J5:=M.bk gf;have r7:=b0.n;rw[aE,aE,(dP (b0.cells g1)).2.2.2.1,ae,l1.len nk,aA,aQ,ae,ak]
  refine av (λl0=>?_) (λz0=>?_)
  ·have l0:i < y.mo.length:=by grind
   obtain⟨x,hx⟩:∃x,y.mo[i]?=some x:=⟨_,aaW l0⟩
   obtain⟨b,o,e1,e2, -⟩:=Hk l1 hx;refine bA (λvs m' a0=>∃e0 d0 j0,vs=[.bool e0]/\m.n<=a0/\jY m13 m13.n m' q q2 (EO y t) (Fe y t) d0 P0 j0/\jE lL (t.kind=9) y.mo ⟨t.id,t.other,t.dA⟩ e0 (i+1) d0/\d0.length<=2*(i+1)/\m'.get k0.n=.cells (Mo.c ⟨t.id,t.other,t.dA⟩) 109 none/\(∀a n k,j0=.slice (some a) n k->k0.n≠a.block/\a.block < m'.n)) (λQ hQ=>?_) ?_
   ·rw[ae,e1,ae,e2,ae];refine aw λg7 c6 G1 u3=>?_;refine aD Bl G1 rfl rfl rfl λK0 d6 H1 v3=>?_;have gn:K0.get mm.n=.cells (Mo.c x) 109 none:=H1;have I1:Ext mm K0:=⟨by omega,λc hc=>by grind⟩
    have n317:=I1.n;have gf:=I1.cells gf;have hW:=hW.aG I1;have g6:mm.n < K0.n:=by omega
    clear G1 u3 H1 v3
    have cond:decide (t.id < x.a\/t.id=x.a/\t.other<=x.b)= !decide (lL x ⟨t.id,t.other,t.dA⟩):=by rw[<-decide_not];apply decide_eq_decide.2;unfold lL;show _↔¬(x.a < t.id\/x.a=t.id/\x.b < t.other);omega
    refine bA (λvs m' a0=>∃e0 d0 j0,vs=[.bool e0]/\m.n<=a0/\jY m13 m13.n m' q q2 (EO y t) (Fe y t) d0 P0 j0/\jE lL (t.kind=9) y.mo ⟨t.id,t.other,t.dA⟩ e0 (i+1) (d0++if(t.kind=9->lL ⟨t.id,t.other,t.dA⟩ x\/lL x ⟨t.id,t.other,t.dA⟩)then [x]else [])/\d0.length<=2*i+1/\m'.get k0.n=.cells (Mo.c ⟨t.id,t.other,t.dA⟩) 109 none/\m'.get mm.n=.cells (Mo.c x) 109 none/\(∀a n k,j0=.slice (some a) n k->k0.n≠a.block/\mm.n≠a.block/\a.block < m'.n)) (λQ hQ=>?_) ?_
    ·refine bA (λvs m' a0=>vs=[.bool (add && decide (t.id < x.a\/t.id=x.a/\t.other<=x.b))]/\K0=m'/\m.n<=a0) (λQ2 n0=>?_) ?_
     ·rw[ak];refine av (λc=>?_) (λc=>n0 _ _ _ ⟨by grind,rfl,by omega⟩);obtain⟨f1,f2, -⟩:=Nf gf;obtain⟨h1,h2, -⟩:=Nf gn;rw[f1,ae,h1,ae,aQ,ae,ak];refine av (λc1=>n0 _ _ _ ⟨?_,rfl,by omega⟩) (λc1=>?_)
      ·have c1:t.id < x.a:=aa1 c1;rw[c,abb (Or.inl c1)];rfl
      have c1:¬t.id < x.a:=aaZ c1;rw[ae,ae,aW,ae,ak];refine av (λc2=>?_) (λc2=>n0 _ _ _ ⟨?_,rfl,by omega⟩)
      ·have c2:t.id=x.a:=aa1 c2
       rw[f2,ae,h2,ae,cE,ae]
       refine n0 _ _ _ ⟨?_,rfl,by omega⟩
       rw[c,abG]
       congr 2
       apply decide_eq_decide.2
       show t.other<=x.b↔_
       omega
      have c2:¬t.id=x.a:=aaZ c2;rw[c,tg];rfl
     rintro _ _ a3 ⟨rfl,rfl,u0⟩;rw[cond,aE,ak];refine av (λc=>?_) (λc=>?_)
     ·rw[aa3]at c;obtain⟨rfl,c⟩:=c;rw[abo]at c;have c:¬lL x ⟨t.id,t.other,t.dA⟩:=aaZ c;obtain⟨a,D0,r',E0,F0,f1,f2,f3,f4,g0,f5,f6,f7⟩:=hW.sw (x:=⟨t.id,t.other,t.dA⟩) (by omega);rw[hW.YL,ae,(Nf gf).2.2.2,ae,f1,aA,f2,aA,f3,aA];refine hQ _ _ _ ⟨false,_,r',rfl,by omega,g0,hI.put BJ Fv hx c,by grind,?_,?_,?_⟩;·rw[f6 k0.n (by omega) (by omega) λa n k e=>(A0 a n k e).1];exact gf
      ·rw[f6 mm.n (by omega) (by omega) λa n k e=>by grind];exact gn
      intro a n k e;have:=f7 a n k e;have:=g0.mob e;omega
     refine hQ _ _ _ ⟨add,acc,rv,rfl,u0,hW,?_,by omega,gf,gn,λa n k e=>?_⟩
     ·cases add with
      |true=>
       have c:lL x ⟨t.id,t.other,t.dA⟩:=by have c:(!decide (lL x ⟨t.id,t.other,t.dA⟩))=false:=c;rw[abj]at c;exact aa1 c
       exact hI.on BJ Fv hx c
      |false=>exact hI.off BJ hP.Dz hx
     have:=A0 a n k e;omega
    rintro _ m' a0 ⟨e0,d0,j0,rfl,h1,g0,h3,h4,h5,h6,h7⟩;rw[aE];have s7:=g0.x.n;refine bA (λvs m'' a0=>vs=[.bool (decide (t.kind=9->lL ⟨t.id,t.other,t.dA⟩ x\/lL x ⟨t.id,t.other,t.dA⟩))]/\m'=m''/\m.n<=a0) (λQ2 n0=>?_) ?_
    ·have J2:(lL ⟨t.id,t.other,t.dA⟩ x\/lL x ⟨t.id,t.other,t.dA⟩)↔¬(t.id=x.a/\t.other=x.b):=by
      unfold lL
      show(t.id < x.a\/t.id=x.a/\t.other < x.b)\/(x.a < t.id\/x.a=t.id/\x.b < t.other)↔_
      omega
     obtain⟨f1,f2, -⟩:=Nf h5
     obtain⟨u1,u2, -⟩:=Nf h6
     rw[(lQ (g0.x.cells g2)).1,ae,bZ,ae,ak]
     refine av (λc=>n0 _ _ _ ⟨?_,rfl,h1⟩) (λc=>?_)
     ·rw[abo]at c;have c:=aaZ c;rw[abb λh=>absurd h c]
     rw[abj]at c
     have c:=aa1 c
     rw[f1,ae,u1,ae,bZ,ae,ak]
     refine av (λc1=>n0 _ _ _ ⟨?_,rfl,h1⟩) (λc1=>?_)
     ·rw[abo]at c1;have c1:¬t.id=x.a:=aaZ c1;rw[abb λ_=>J2.2 λh=>c1 h.1]
     rw[abj]at c1
     have c1:t.id=x.a:=aa1 c1
     rw[f2,ae,u2,ae,bZ,ae]
     refine n0 _ _ _ ⟨?_,rfl,h1⟩
     congr 2
     rw[<-decide_not]
     apply decide_eq_decide.2
     rw[J2]
     show¬t.other=x.b↔_
     constructor
     ·exact λh _ h'=>h h'.2
     ·exact λh h'=>h c ⟨c1,h'⟩
    rintro _ _ a3 ⟨rfl,rfl,u0⟩;rw[aE,ak];refine av (λc=>?_) (λc=>?_)
    ·have c:=aa1 c;rw[aa5 c]at h3;obtain⟨a,D0,r',E0,F0,f1,f2,f3,f4,T1,f5,f6,f7⟩:=g0.sw (x:=x) (by omega);rw[g0.YL,ae,(Nf h6).2.2.2,ae,f1,aA,f2,aA,f3,aA];have L4:=M.bk h5;refine hQ _ _ _ ⟨e0,_,r',rfl,by omega,T1,h3,by grind,?_,?_⟩;·rw[f6 k0.n L4 (by omega) λa n k e=>(h7 a n k e).1];exact h5
     intro a n k e;have:=f7 a n k e;have:=T1.mob e;omega
    have c:=aaZ c;rw[aa4 c,abJ]at h3;exact hQ _ _ _ ⟨e0,d0,j0,rfl,u0,g0,h3,by omega,h5,λa n k e=>⟨(h7 a n k e).1,(h7 a n k e).2.2⟩⟩
   rintro _ m' a0 ⟨e0,d0,j0,rfl,h1,h2,h3,h4,h5,h6⟩;rw[aE,aS,ae,wrap64];exact⟨i+1,by omega,e0,d0,j0,rfl,by omega,h1,h2,h3,h4,h5,h6⟩
  obtain rfl:i=y.mo.length:=by have:¬(i:Int)< (y.mo.length:Int):=aaZ z0;omega
  have h0:=hI.fin Fv BJ;rw[<-To]at h0;refine bA (λvs m' a0=>vs=[]/\m.n<=a0/\∃j0,jY m13 m13.n m' q q2 (EO y t) (Fe y t) (Qz y t) P0 j0) (λQ hQ=>?_) ?_
  ·rw[ak];refine av (λc=>?_) (λc=>?_)
   ·obtain⟨a,D0,r',E0,F0,f1,f2,f3,f4,g0,f5,f6,f7⟩:=hW.sw (x:=⟨t.id,t.other,t.dA⟩) (by omega);rw[hW.YL,ae,(Nf gf).2.2.2,ae,f1,aA,f2,aA,f3,aA];rw[aa5 c]at h0;rw[h0]at g0;exact hQ _ _ _ ⟨rfl,by omega,r',g0⟩
   rw[aa4 (by grind),abJ]at h0;rw[h0]at hW;exact hQ _ _ _ ⟨rfl,p0,rv,hW⟩
  clear hW hI l3 gf A0 h0;rintro _ K2 i6 ⟨rfl,b5,N4,O4⟩;have xZ:=O4.x;have nZ:=xZ.n;obtain⟨⟨sl,R4,j6,C0,L0⟩, -, -⟩:=O4;rw[(dP C0.cell).2.2.2.2,ae];refine aD gQ (xZ.cells gz) rfl rfl (by show(one q && (one q2 && (one R4 && (one P0 && (one N4 && true)))))=true;rw[o1,o2,C0.st.sl.one,C0.rc.sl.one,C0.mo.sl.one];rfl) λN0 k6 w3 J1=>?_;have W4:N0.get m2.n=.cells (yc q q2 R4 P0 N4) 38 none:=w3;rw[(dP W4).2.2.2.2,ae]
  have eZ:∀c cs t' g,K2.get c=.cells cs t' g->t'≠38->N0.get c=.cells cs t' g:=λc cs t' g hc ht=>by rw[J1 c (λe=>by subst e;rw[xZ.cells gz]at hc;cases hc;exact ht rfl),hc]
  refine hR _ _ _ _ _ _ _ _ (by omega) ⟨by omega,λc hc=>by rw[J1 c (by omega),xZ.get c (by omega),b1.get c hc]⟩ ?_;obtain⟨acc,_,_,e,l6,m6,n6⟩:=fj.WR (m'':=N0) G3 λc cs t' g hc ht=>eZ c cs t' g ((a1.trans xZ).cells hc) (by grind);cases e;have kd:∀{c:Nat} {cs:aet} {t':TypeId} {g:Option Nat},K2.get c=.cells cs t' g->t'≠38->N0.get c=.cells cs t' g:=λhc ht=>eZ _ _ _ _ hc ht;refine⟨_,_,_,_,_,rfl,⟨acc,l6,m6⟩,n6,⟨sl,j6,⟨?_,?_,?_,?_,?_,?_⟩⟩,?_,?_⟩;·exact C0.st.sl.bs λc cs t' g hc ht=>kd hc (by simp only[aZ.ty,aZ.dd,abc,abn,or_false]at ht;subst ht;decide)
  ·exact C0.st.YD.bs λc cs t' g hc ht=>kd hc (by simp only[aZ.ty,aZ.dd,abc,abn,or_false]at ht;subst ht;decide)
  ·exact λx hx=>(L0 x hx).1.bs λc cs t' g hc ht=>kd hc (by simp only[aZ.ty,aZ.dd,abc,abn,or_false]at ht;subst ht;decide)
  ·exact λx hx=>(L0 x hx).2.1.bs λc cs t' g hc ht=>kd hc (by simp only[aZ.ty,aZ.dd,abc,abn,or_false]at ht;subst ht;decide)
  ·exact λx hx=>(L0 x hx).2.2.1
  ·exact λx hx=>(L0 x hx).2.2.2
  ·exact C0.rc.sl.bs λc cs t' g hc ht=>kd hc (by simp only[aZ.ty,aZ.dd,abc,abn,or_false]at ht;subst ht;decide)
  exact C0.mo.sl.bs λc cs t' g hc ht=>kd hc (by simp only[aZ.ty,aZ.dd,abc,abn,or_false]at ht;subst ht;decide)
 refine H _ λr r2 st rc mo t' m' lo p0 hx hs=>?_;show(bF (.tuple #[yv r r2 st rc mo,t'])=true/\m.n<=lo/\(m.n=m.n/\Ext m m/\lI _ m (.tuple #[yv r r2 st rc mo,t'])))\/((bF (.tuple #[yv r r2 st rc mo,t'])=false\/lo < m.n)/\(min m.n lo=m.n/\Ext m m'/\lI _ m' (.tuple #[yv r r2 st rc mo,t'])));cases hf:bF (.tuple #[yv r r2 st rc mo,t']);·exact .inr ⟨.inl rfl,by omega,hx,hs⟩
 exact .inl ⟨rfl,p0,rfl,.refl,hs.flat hf m⟩
end
section
variable {X:aM} {m:M}
theorem _root_.Go.D.Sl.Yh{l:List Ct}{v:aes}(h:Sl m l v){i:Nat}{x:Ct}(hi:l[i]?=some x){k:IntKind}:∃a,an TE 138 v (.int k i)=some a/\ah TE m 145 a=some x.v:=by have⟨a,cs,h1,h2,h3⟩:=h.index ES (k:=k) hi;have h3:cs=x.c':=h3;subst h3;exact⟨a,h1,h2⟩
theorem YY{b:Nat}{x:Ct}{g:Option Nat}(h:m.get b=.cells x.c' 145 g):
  ah TE m 3 (aeq b (0+0))=some (aev x.a)/\ah TE m 3 (aeq b (0+1))=some (aev x.b)/\
  ah TE m 141 (aeq b (0+2+0))=some x.p.v/\ah TE m 141 (aeq b (0+2+2))=some x.q.v:=by
 refine⟨?_,?_,?_,?_⟩;·rw[bO,aL h];rfl
 ·rw[bO,aL h];rfl
 ·rw[kX,aP (n:=2) h (by grind)];rfl
 rw[kX,aP (n:=2) h (by simp_all)];rfl
end
section
variable {X:aM} {m:M}
theorem dH(hX:cy X){c n:Int}(hc:ka c)(hn:0 < n):C X (.func 66) [aev c,aev n] m m.n (aev (dO c n)) m:=by refine Cl.fG hX (aaU func66) ?_;rw[F66];dsimp only[η,ο,χ];simp only[jn,aE];exact mM hc hn (P:=λv=>bz [v]=aev (dO c n)/\m.n<=m.n) ⟨rfl,aaV _⟩
theorem fQ{c:Int}{n:Nat}(hn:0 < n):∃k:Nat,k < n/\dO c (n:Int)=k:=by obtain⟨q1,q2⟩:=kQ (c:=c) (n:=(n:Int)) (by omega);exact⟨(dO c n).toNat,by omega,by omega⟩
theorem rT{b:Nat}{r v:aes}{g:Option Nat}(h:m.get b=.cells [r,v] 33 g):ah TE m 28 (aeq b (0+0+0))=some r:=by rw[ez,aL h];rfl
theorem Qd{b:Nat}{r v:aes}{g:Option Nat}(h:m.get b=.cells [r,v] 33 g):ah TE m 30 (aeq b (0+0))=some (.agg #[r]):=by rw[ew,aP (n:=1) h (by grind)];rfl
theorem Bs{b:Nat}{r v:aes}{g:Option Nat}(h:m.get b=.cells [r,v] 33 g):ah TE m 31 (aeq b (0+1))=some v:=by rw[lU,aL h];rfl
theorem pU(hX:cy X){l:List UW}{r v:aes}(hF:cY m l r)(hl:l.length < 1000){c:Int}(hc:ka c):∃z,C X (.func 68) [.agg #[r,v],aev c] m m.n (aev z) m:=by
 have key:=Cl.FJ (E:=TE) (X:=X) (f:=68) (args:=[.agg #[r,v],aev c]) (m:=m) (R:=λrv m' b=>b=m.n/\m'=m/\∃z,rv=aev z) (hX.no _ rfl) (aaU func68) rfl ?_
 ·obtain⟨rv,m',b,hc,rfl,rfl,z,rfl⟩:=key;exact⟨z,hc⟩
 rw[F68];dsimp only[δ,ε,ζ,η,κ,ρ,υ,χ,ψ];refine aw λm1 g0 b0 d0=>?_;have a0:Ext m m1:=⟨by omega,d0⟩
 have g1:m1.get m.n=.cells [r,v] 33 none:=b0;unfold ptrTo;simp only[cd,bN,ae];rw[rT g1,ae,(hF.aG a0).sl.len dt,aA,aW,ae,ak];refine av (λh=>?_) (λh=>?_)
 ·refine aH (dH hX hc (by decide)) ?_;exact .inl ⟨rfl,by omega,trivial,trivial,_,rfl⟩
 have e0:=aaZ h;rw[ae,ae,(hF.aG a0).sl.len dt,aA];obtain⟨k,hk,e⟩:=fQ (c:=c) (n:=l.length) (by omega);refine aH (dH hX hc (by omega)) ?_;refine⟨aaV _,?_⟩;rw[e];obtain⟨x,hx⟩:∃x,l[k]?=some x:=⟨_,aaW hk⟩
 have⟨b,o,e1,e2,e3⟩:=rK (hF.aG a0).sl hx;rw[e1,ae,e2,ae,e3,ae];exact .inl ⟨rfl,by omega,trivial,trivial,_,rfl⟩
structure nf(m0:M)(T sb:Nat)(r r2:aes)(m:M):Prop where
 x:∀c,c < T->m.get c=m0.get c
 n:m0.n<=m.n
 t:∃t w,m.get T=.cells (Tk.c t w) 62 none/\Sl m t.un.shape w/\t.un.shape.length<=4
 s:m.get sb=.cells [r,r2] 33 none
 ts:T < sb
 sn:sb < m.n
section
variable {m0:M} {T sb:Nat} {r r2:aes}
theorem nf.aG{m':M}(h:nf m0 T sb r r2 m)(hx:Ext m m'):nf m0 T sb r r2 m':=by have⟨h1,h2,⟨t,w,h3,h4,h5⟩,h6,h7,h8⟩:=h;have hn:=hx.n;exact⟨λc hc=>by rw[hx.get c (by omega),h1 c hc],by omega,⟨t,w,hx.cells h3,h4.aG hx,h5⟩,hx.cells h6,h7,by omega⟩
theorem mI{l:List Pl}{w:aes}{m':M}{cs:aet}(h:Sl m l w)(hT:m.get T=.cells cs 62 none)(hk:∀c,c≠T->m'.get c=m.get c):Sl m' l w:=
 h.bs λc cs t g hc ht=>by
  have ht:t=141:=by simpa[aZ.ty,aZ.dd]using ht
  grind
theorem nf.st(h:nf m0 T sb r r2 m){j:Nat}{v:Int}{P:M->Nat->Prop}(hj:7<=j)(a0:j<=10)(hP:∀m',nf m0 T sb r r2 m'->m'.n=m.n->(∀c,c≠T->m'.get c=m.get c)->P m' T):
  aR (aF TE m 3 (aeq T (0+j)) (aev v)) P:=by
 have⟨h1,h2,⟨t,w,h3,h4,h5⟩,h6,h7,h8⟩:=h;refine zZ h3 hj a0 λm' hn hg hk=>hP m' ⟨by grind,by omega,?_,by grind,h7,by omega⟩ hn hk;have hs:=mI h4 h3 hk;have⟨kd,un,id,ot,sd,mt⟩:=t;rcases(by omega:j=7\/j=8\/j=9\/j=10)with rfl |rfl |rfl |rfl;·exact⟨⟨kd,un,v,ot,sd,mt⟩,w,hg,hs,h5⟩
 ·exact⟨⟨kd,un,id,v,sd,mt⟩,w,hg,hs,h5⟩
 ·exact⟨⟨kd,un,id,ot,v,mt⟩,w,hg,hs,h5⟩
 exact⟨⟨kd,un,id,ot,sd,v⟩,w,hg,hs,h5⟩
theorem nf.stk(h:nf m0 T sb r r2 m){v:Int}{P:M->Nat->Prop}(hP:∀m',nf m0 T sb r r2 m'->m'.n=m.n->(∀c,c≠T->m'.get c=m.get c)->P m' T):
  aR (aF TE m 3 (aeq T (0+1+1)) (aev v)) P:=by have⟨h1,h2,⟨t,w,h3,h4,h5⟩,h6,h7,h8⟩:=h;refine bY tG h3 rfl (by show 0+1+1+1<=11;omega) rfl λm' hn hg hk=>hP m' ⟨by grind,by omega,?_,by grind,h7,by omega⟩ hn hk;exact⟨{t with un:={t.un with kind:=v}},w,hg,mI h4 h3 hk,h5⟩
theorem nf.stu(h:nf m0 T sb r r2 m){u:Un}{w:aes}(hs:Sl m u.shape w)(hl:u.shape.length<=4){P:M->Nat->Prop}(hP:∀m',nf m0 T sb r r2 m'->m'.n=m.n->(∀c,c≠T->m'.get c=m.get c)->P m' T):
  aR (aF TE m 60 (aeq T (0+1)) (u.v w)) P:=by have⟨h1,h2,⟨t,w',h3,h4,h5⟩,h6,h7,h8⟩:=h;refine Mh h3 hs.one λm' hn hg hk=>hP m' ⟨by grind,by omega,⟨{t with un:=u},w,hg,mI hs h3 hk,hl⟩,by grind,h7,by omega⟩ hn hk
end
set_option maxHeartbeats 2000000 in
theorem Dr(hX:cy X){y:Yd}{r r2 st rc mo:aes}(hV:lM m y r r2 st rc mo)(hP:oL y){i0 i1 i2 i3 i4 i5:Int}(h0:ka i0)(h1:ka i1)(h2:ka i2)(h3:ka i3)(h4:ka i4)(h5:ka i5):
  ∃(t:Tk) (w:aes) (m':M),C X (.func 26) [yv r r2 st rc mo,.agg #[.int .i64 i0,.int .i64 i1,.int .i64 i2,.int .i64 i3,.int .i64 i4,.int .i64 i5]] m m.n (t.v w) m'/\Ext m m'/\Sl m' t.un.shape w/\t.un.shape.length<=4:=by
 refine Cl.Tv hX (aaU func26) (R:=λrv m'=>∃(t:Tk) (w:aes),rv=t.v w/\Ext m m'/\Sl m' t.un.shape w/\t.un.shape.length<=4) ?_ λrv m' hc ⟨t,w,e,h⟩=>⟨t,w,m',e ▸ hc,h⟩
 have H:∀R:aet->M->Nat->Prop,(∀(t:Tk) (w:aes) (m':M) (lo:Nat),m.n<=lo->Ext m m'->Sl m' t.un.shape w->t.un.shape.length<=4->R [t.v w] m' lo)->dp TE (aO TE X) f26 [yv r r2 st rc mo,.agg #[.int .i64 i0,.int .i64 i1,.int .i64 i2,.int .i64 i3,.int .i64 i4,.int .i64 i5]] m R:=by
  intro R hR;rw[F26];dsimp only[δ,ε,ζ,η,θ,ι,κ,ν,ρ,ς,υ,χ,ψ,Γ,Δ,Θ,Ξ,ω];refine aw λm1 F3 b1 T1=>?_;refine aw λm2 G3 c1 d1=>?_;refine aw λm3 H3 j1 H0=>?_;have c2:Ext m m3:=⟨by omega,by grind⟩
  have g1:m3.get m.n=.cells (yc r r2 st rc mo) 38 none:=by rw[H0 _ (by omega),d1 _ (by omega)];exact b1
  have g6:m3.get m1.n=.cells [.int .i64 i0,.int .i64 i1,.int .i64 i2,.int .i64 i3,.int .i64 i4,.int .i64 i5] 89 none:=by rw[H0 _ (by omega)];exact c1
  have gz:m3.get m2.n=.cells (Tk.c ⟨0,⟨0,0,0,[],0,0⟩,0,0,0,0⟩ aew) 62 none:=j1;clear b1 T1 c1 d1 j1 H0;unfold ptrTo
  have ix:∀i:Nat,i < 6->an TE 89 (.pointer (some ⟨m1.n,0,none⟩)) (.int .i64 i)=some (.pointer (some ⟨m1.n,i,none⟩)):=λi hi=>by have:=Q6 (b:=m1.n) (o:=0) (k:=.i64) (i:=i) hi;rwa[abA]at this
  have ld:∀{mm:M} {i:Nat} {x:Int},mm.get m1.n=m3.get m1.n->[i0,i1,i2,i3,i4,i5][i]?=some x->ah TE mm 3 (.pointer (some ⟨m1.n,i,none⟩))=some (.int .i64 x):=λ{mm i x} hx hi=>by
   have hc:[Value.int .i64 i0,.int .i64 i1,.int .i64 i2,.int .i64 i3,.int .i64 i4,.int .i64 i5][i]?=some (.int .i64 x):=by
    grind
   rw[bO,aL (hx.trans g6),hc]
  have e0:an TE 89 (.pointer (some ⟨m1.n,0,none⟩)) (.int .i64 0)=some (.pointer (some ⟨m1.n,0,none⟩)):=ix 0 (by decide);have e1:an TE 89 (.pointer (some ⟨m1.n,0,none⟩)) (.int .i64 1)=some (.pointer (some ⟨m1.n,1,none⟩)):=ix 1 (by decide);have e2:an TE 89 (.pointer (some ⟨m1.n,0,none⟩)) (.int .i64 2)=some (.pointer (some ⟨m1.n,2,none⟩)):=ix 2 (by decide);have e3:an TE 89 (.pointer (some ⟨m1.n,0,none⟩)) (.int .i64 3)=some (.pointer (some ⟨m1.n,3,none⟩)):=ix 3 (by decide);have e4:an TE 89 (.pointer (some ⟨m1.n,0,none⟩)) (.int .i64 4)=some (.pointer (some ⟨m1.n,4,none⟩)):=ix 4 (by decide);have e5:an TE 89 (.pointer (some ⟨m1.n,0,none⟩)) (.int .i64 5)=some (.pointer (some ⟨m1.n,5,none⟩)):=ix 5 (by decide)
  simp only[cH,dE,cd,cL,cC,dD,cp,cK,cG,dk,cS,e0,e1,e2,e3,e4,e5,ae];have⟨⟨l,d2,hF⟩,I0,⟨kl,g2,hK⟩,I3,J3⟩:=hV;have k1:l.length<=12:=by have:=hP.qk.len;rwa[<-d2,cI]at this
  have K2:kl.length<=12:=by have:=hP.P3;rwa[<-g2,jk]at this
  have j2:=hP.Av.len;rw[ld (i:=0) rfl rfl,ae];refine aH (dH hX h0 (by decide)) ?_;generalize dO i0 9=z0;rw[aS,ae];generalize IntKind.i64.wrap (1+z0)=z1;have bt:aK TE 62 [(0,.int .i64 z1)]=some (Tk.v ⟨z1,⟨0,0,0,[],0,0⟩,0,0,0,0⟩ aew):=rB rfl;rw[bt,ae];refine aw λm11 L2 q0 l1=>?_;refine aD nT q0 rfl rfl rfl λm12 M2 r0 J0=>?_;have gT:m12.get m3.n=.cells (Tk.c ⟨z1,⟨0,0,0,[],0,0⟩,0,0,0,0⟩ aew) 62 none:=r0;have s0:Ext m3 m12:=⟨by omega,by grind⟩
  have n12:=s0.n;rw[(dP (s0.cells g1)).1,ae];refine aw λm16 N2 u0 o1=>?_;refine aD dV u0 rfl rfl (by show(one r && (one r2 && true))=true;rw[hF.sl.one,I0.one];rfl) λm17 P2 v0 p1=>?_;have gS:m17.get m12.n=.cells [r,r2] 33 none:=v0;have j0:Ext m12 m17:=⟨by omega,by grind⟩
  have n17:=j0.n;have r1:m3.n < m12.n:=by omega
  have O0:nf m3 m3.n m12.n r r2 m17:=⟨by grind,by omega,⟨_,_,j0.cells gT,.nil,aa6 4⟩,gS,r1,by omega⟩
  clear q0 l1 r0 J0 u0 o1 v0 p1;have Ae:∀{mm:M},nf m3 m3.n m12.n r r2 mm->mm.get m1.n=m3.get m1.n:=λh=>h.x _ (by omega);have b0:∀{mm:M},nf m3 m3.n m12.n r r2 mm->Ext m mm:=λh=>⟨by have:=h.n;omega,λc hc=>by rw[h.x c (by omega),c2.get c hc]⟩
  have k2:∀{mm:M},nf m3 m3.n m12.n r r2 mm->mm.get m.n=.cells (yc r r2 st rc mo) 38 none:=λh=>(h.x _ (by omega)).trans g1;have Q2:m.n<=min (min m.n m3.n) m12.n:=by omega
  refine bA (λvs mm lo=>vs=[]/\m.n<=lo/\nf m3 m3.n m12.n r r2 mm) (λQ hQ=>?_) ?_
  ·rw[(lQ (j0.cells gT)).1,ae,aW,ae,ak];refine av (λ_=>?_) (λ_=>?_)
   ·rw[ld (i:=1) (Ae O0) rfl,ae,ld (i:=2) (Ae O0) rfl,ae,ld (i:=3) (Ae O0) rfl,ae,ld (i:=4) (Ae O0) rfl,ae,ae,kh (by decide),ae,ld (i:=5) (Ae O0) rfl,ae];rw[show aK TE 89 [(0,.int .i64 i2),(1,.int .i64 i3),(2,.int .i64 i4),(3,.int .i64 (IntKind.i64.wrap (i4.tdiv 4))),(4,.int .i64 0),(5,.int .i64 i5)]=some (.agg #[.int .i64 i2,.int .i64 i3,.int .i64 i4,.int .i64 (IntKind.i64.wrap (i4.tdiv 4)),.int .i64 0,.int .i64 i5]) by kernel_rfl,ae];obtain⟨u,w,K3,l2,u1,hs,hl⟩:=Em (m:=m17) (i4:=0) hX h1 h2 h3 h4 (mh (i4.tdiv 4)) (by unfold ka;omega) h5;refine aH l2 ?_;have n41:=u1.n;refine(O0.aG u1).stu hs hl λL3 O2 n44 N3=>?_;rw[ld (i:=5) (Ae O2) rfl,ae];refine aH (dH hX h5 (by decide)) ?_;rw[aS,ae];exact O2.stk λa4 O3 b4 c4=>hQ _ _ _ ⟨rfl,by omega,O3⟩
   rw[aW,ae,ak];refine av (λ_=>?_) (λ_=>?_)
   ·rw[(kj O0.s).2.2.2,ae,ld (i:=1) (Ae O0) rfl,ae];obtain⟨z,hc⟩:=pU (m:=m17) hX (hF.aG (b0 O0)) (v:=r2) (by omega) h1;refine aH hc ?_;refine O0.st (j:=7) (by omega) (by omega) λm64 O1 v1 w1=>?_;have K0:=(hK.aG (b0 O1)).sl;rw[(dP (k2 O1)).2.1,ae,K0.len ff,aA,bX,ae,ak];refine av (λc=>?_) (λc=>hQ _ _ _ ⟨rfl,by omega,O1⟩);have c:=aa1 c;rw[ae,ld (i:=1) (Ae O1) rfl,ae,ae,K0.len ff,aA];obtain⟨k,hk,e⟩:=fQ (c:=i1) (n:=kl.length) (by omega);refine aH (dH hX h1 (by omega)) ⟨aaV _,?_⟩;rw[e];obtain⟨x,hx⟩:∃x,kl[k]?=some x:=⟨_,aaW hk⟩
    obtain⟨b,o,f1,f2, -⟩:=AA K0 hx;rw[f1,ae,cz,ae,bD,ae,f2,ae];exact O1.st (j:=7) (by omega) (by omega) λo2 O2 u2 v2=>hQ _ _ _ ⟨rfl,by omega,O2⟩
   rw[aW,ae,ak];refine av (λ_=>?_) (λ_=>?_)
   ·rw[(kj O0.s).2.2.2,ae,ld (i:=1) (Ae O0) rfl,ae];obtain⟨z,hc⟩:=pU (m:=m17) hX (hF.aG (b0 O0)) (v:=r2) (by omega) h1;refine aH hc ?_;exact O0.st (j:=7) (by omega) (by omega) λm64 O1 v1 w1=>hQ _ _ _ ⟨rfl,by omega,O1⟩
   rw[aW,ae,ak];refine av (λ_=>?_) (λ_=>?_)
   ·rw[(kj O0.s).2.2.2,ae,ld (i:=1) (Ae O0) rfl,ae];obtain⟨z,hc⟩:=pU (m:=m17) hX (hF.aG (b0 O0)) (v:=r2) (by omega) h1;refine aH hc ?_;refine O0.st (j:=7) (by omega) (by omega) λm64 O1 v1 w1=>?_;rw[ld (i:=2) (Ae O1) rfl,ae];refine aH (dH hX h2 (by decide)) ?_;exact O1.st (j:=10) (by omega) (by omega) λo2 O2 u2 v2=>hQ _ _ _ ⟨rfl,by omega,O2⟩
   refine bA (λvs mm lo=>∃b,vs=[.bool b]/\m17=mm/\m.n<=lo) (λQ' a0=>?_) ?_
   ·rw[aW,ae,ak];refine av (λ_=>a0 _ _ _ ⟨_,rfl,rfl,by omega⟩) (λ_=>?_);rw[aW,ae];exact a0 _ _ _ ⟨_,rfl,rfl,by omega⟩
   rintro _ _ gh ⟨b2,rfl,rfl,T2⟩;rw[aE,ak];refine av (λ_=>?_) (λ_=>?_)
   ·rw[(kj O0.s).2.2.2,ae,ld (i:=1) (Ae O0) rfl,ae];obtain⟨z,hc⟩:=pU (m:=m17) hX (hF.aG (b0 O0)) (v:=r2) (by omega) h1;refine aH hc ?_;refine O0.st (j:=7) (by omega) (by omega) λc3 O1 n130 d3=>?_;rw[ld (i:=2) (Ae O1) rfl,ae];refine aH (dH hX h2 (by decide)) ?_;rw[dJ,ae];refine O1.st (j:=9) (by omega) (by omega) λg0 O2 n139 g3=>?_;have hM:=I0.aG (b0 O2);refine bA (λvs mm lo=>∃b,vs=[.bool b]/\g0=mm/\m.n<=lo/\(b=true->0 < y.ms.length)) (λQ' a0=>?_) ?_
    ·rw[Bs O2.s,ae,hM.len dQ,aA,bX,ae,ak];refine av (λc=>?_) (λ_=>a0 _ _ _ ⟨_,rfl,rfl,by omega,λh=>by cases h⟩);have c:=aa1 c;rw[ld (i:=3) (Ae O2) rfl,ae];refine aH (dH hX h3 (by decide)) ?_;rw[aW,ae];exact a0 _ _ _ ⟨_,rfl,rfl,by omega,λ_=>by omega⟩
    rintro _ _ w2 ⟨b3,rfl,rfl,y0,y2⟩;rw[aE,ak];refine av (λc=>?_) (λ_=>hQ _ _ _ ⟨rfl,y0,O2⟩);have c:=y2 c;rw[Bs O2.s,ae,ld (i:=2) (Ae O2) rfl,ae,ae,hM.len dQ,aA];obtain⟨k,hk,e⟩:=fQ (c:=i2) (n:=y.ms.length) (by omega);refine aH (dH hX h2 (by omega)) ⟨aaV _,?_⟩;rw[e];obtain⟨x,hx⟩:∃x,y.ms[k]?=some x:=⟨_,aaW hk⟩
    obtain⟨b,o,f1, -,f3⟩:=Sj hM hx;rw[f1,ae,f3,ae];refine aw λj3 z2 L0 A2=>?_;refine aD tI L0 rfl rfl rfl λA0 B2 N0 C2=>?_;have y1:A0.get g0.n=.cells x.c 137 none:=N0;have B0:Ext g0 A0:=⟨by omega,by grind⟩
    have O3:=O2.aG B0;have n170:=B0.n;have sn:=O2.sn;rw[dq,ae,(CE y1).2.1,ae];refine O3.st (j:=7) (by omega) (by omega) λA1 O4 n175 k3=>?_;have B1:A1.get g0.n=.cells x.c 137 none:=by grind
    rw[eH,ae,(CE B1).2.2.1,ae];exact O4.st (j:=9) (by omega) (by omega) λl3 O5 n180 n3=>hQ _ _ _ ⟨rfl,by omega,O5⟩
   refine bA (λvs mm lo=>∃b,vs=[.bool b]/\m17=mm/\m.n<=lo) (λQ' a0=>?_) ?_
   ·rw[aW,ae,ak];refine av (λ_=>a0 _ _ _ ⟨_,rfl,rfl,by omega⟩) (λ_=>?_);rw[aW,ae];exact a0 _ _ _ ⟨_,rfl,rfl,by omega⟩
   rintro _ _ w2 ⟨b3,rfl,rfl,y0⟩;rw[aE,ak];refine av (λ_=>?_) (λ_=>?_)
   ·rw[ld (i:=1) (Ae O0) rfl,ae];refine aH (dH hX h1 (by decide)) ?_;refine O0.st (j:=7) (by omega) (by omega) λo3 O1 n196 r3=>?_;have hM:=I0.aG (b0 O1);rw[Bs O1.s,ae,hM.len dQ,aA,bX,ae,ak];refine av (λc=>?_) (λc=>hQ _ _ _ ⟨rfl,by omega,O1⟩);have c:=aa1 c;rw[ae,ld (i:=1) (Ae O1) rfl,ae,ae,hM.len dQ,aA];obtain⟨k,hk,e⟩:=fQ (c:=i1) (n:=y.ms.length) (by omega);refine aH (dH hX h1 (by omega)) ⟨aaV _,?_⟩;rw[e];obtain⟨x,hx⟩:∃x,y.ms[k]?=some x:=⟨_,aaW hk⟩
    have⟨b,o,f1,f2⟩:=Ng hM hx;rw[f1,ae,cg,ae,f2,ae];exact O1.st (j:=7) (by omega) (by omega) λu3 O2 n216 v3=>hQ _ _ _ ⟨rfl,by omega,O2⟩
   rw[ld (i:=3) (Ae O0) rfl,ae];refine aH (dH hX h3 (by decide)) ⟨aaV _,?_⟩;generalize dO i3 8=z3;rw[DJ,aA];obtain⟨k0,d0⟩:∃q,q=m17.push (.cells ([5,5,z3].map (.int .i64)) 3 none):=⟨_,rfl⟩
   rw[<-d0];have C0:Ext m17 k0:=d0 ▸ Ext.refl.push;have C1:k0.get m17.n=.cells ([5,5,z3].map (.int .i64)) 3 none:=by rw[d0];exact M.aY
   have O1:=O0.aG C0;have n224:=C0.n;rw[ld (i:=2) (Ae O1) rfl,ae];obtain⟨k,hk,e⟩:=fQ (c:=i2) (n:=3) (by omega);refine aH (dH hX h2 (by decide)) ⟨aaV _,?_⟩;rw[show dO i2 3=(k:Int)from e];obtain⟨z4,D2⟩:∃z,[5,5,z3][k]?=some z:=⟨_,aaW (by exact hk)⟩
   have⟨p,cs,f1,f2,f3⟩:=(nq C1).index je (k:=.i64) D2;obtain rfl:cs=[.int .i64 z4]:=f3;have f1:an TE 26 (.slice (some ⟨m17.n,0,none⟩) 3 3) (.int .i64 k)=some p:=f1;have f2:ah TE k0 3 p=some (.int .i64 z4):=f2;rw[f1,ae,f2,ae];refine O1.st (j:=10) (by omega) (by omega) λw3 O2 n233 y3=>?_;refine O2.st (j:=8) (by omega) (by omega) λD1 O3 n236 A3=>?_;rw[Qd O3.s,ae];obtain⟨cv,B3,E1,D0,F1⟩:=Bx (m:=D1) hX (hF.aG (b0 O3)) (by omega);refine aH E1 ?_;have O4:=O3.aG D0;have n241:=D0.n
   have hL:(tW (bR l)).length<=156:=by
    unfold tW;split
    ·have h1:=oW (bR l) (bR l).length;rw[cI]at h1⊢;have:l.length*(l.length+1)<=12*13:=ad9 k1 (by omega);omega
    simp
   have G1:=F1.sl;generalize tW (bR l)=L at hL G1;obtain⟨tq,wq,d4, -, -⟩:=O4.t;refine Lp.intro (γ:=Nat) (λi=>L.length-i) (λi vs mm lo=>vs=[.int .i64 i]/\i<=L.length/\m.n<=lo/\nf m3 m3.n m12.n r r2 mm/\Sl mm L cv) 0 ⟨rfl,aa6 _,by omega,O4,G1⟩ ?_;rintro i vs mm lo ⟨rfl,hi,o0,O,hc⟩;rw[aE,hc.len ES,aA,aQ,ae,ak];refine av (λE2=>?_) (λ_=>hQ _ _ _ ⟨rfl,o0,O⟩);have E2:i < L.length:=by grind
   refine bA (λvs m' H1=>vs=[]/\m.n<=H1/\nf m3 m3.n m12.n r r2 m'/\Sl m' L cv) (λQ' a0=>?_) ?_
   ·rw[ld (i:=1) (Ae O) rfl,ae,aA];obtain⟨k,hk,e⟩:=fQ (c:=i1) (n:=L.length) (by omega);refine aH (dH hX h1 (by omega)) ?_;rw[e,aS,ae,wrap64,hc.len ES,aA,tw (by omega),ae];rw[show((i:Int)+(k:Int)).tmod (L.length:Int)=(((i+k)%L.length:Nat):Int) by grind];have hj:(i+k)%L.length < L.length:=acI _ (by omega);generalize (i+k)%L.length=j at hj;obtain⟨x,hx⟩:∃x,L[j]?=some x:=⟨_,aaW hj⟩
    have⟨p,f1,f2⟩:=hc.Yh (k:=.i64) hx;rw[f1,ae,f2,ae];refine aw λC3 F2 P0 G2=>?_;refine aD oS P0 rfl rfl rfl λE0 H2 S0 I2=>?_;have F0:E0.get mm.n=.cells x.c' 145 none:=S0;have l0:Ext mm E0:=⟨by omega,by grind⟩
    have Oa:=O.aG l0;have n267:=l0.n;have I1:=hc.aG l0;have nO:=O.n;have ts:=O.ts;have sn:=O.sn
    have J1:∀{ma mb:M},nf m3 m3.n m12.n r r2 ma->Sl ma L cv->(∀c,c≠m3.n->mb.get c=ma.get c)->Sl mb L cv:=λho hs hk=>by
     obtain⟨t,w,gt, -, -⟩:=ho.t;refine hs.bs λc cs t g hc ht=>?_;have ht:t=145:=by simpa[aZ.ty,aZ.dd]using ht
     subst ht;rw[hk c (by grind),hc]
    rw[wg,ae,(YY F0).2.1,ae,bZ,ae,ak];refine av (λ_=>?_) (λ_=>a0 _ _ _ ⟨rfl,by omega,Oa,I1⟩);rw[wi,ae,(YY F0).1,ae];refine Oa.st (j:=7) (by omega) (by omega) λK1 Ob n275 L1=>?_;have N1:K1.get mm.n=.cells x.c' 145 none:=by grind
    rw[ae,(YY N1).2.1,ae];exact Ob.st (j:=8) (by omega) (by omega) λD3 Oc n280 P1=>a0 _ _ _ ⟨rfl,by omega,Oc,J1 Ob (J1 Oa I1 L1) P1⟩
   rintro _ m' H1 ⟨rfl,a1,a2,a3⟩;rw[aS,ae,wrap64];exact⟨i+1,by omega,rfl,by omega,a1,a2,a3⟩
  rintro _ mm lo ⟨rfl,o0,h⟩;have⟨t,w,gt,hs,p0⟩:=h.t;rw[fL gt,ae];refine aD nT ((h.x _ (by omega)).trans gz) rfl rfl (Tk.cM hs.one) λJ2 E3 n0 G0=>?_;have n0:J2.get m2.n=.cells (t.c w) 62 none:=n0;rw[fL n0,ae];refine hR _ _ _ _ (by omega) ⟨by have:=h.n;omega,λc hc=>by rw[G0 c (by omega),(b0 h).get c hc]⟩ (mI hs ((h.x _ (by omega)).trans gz) G0) p0
 refine H _ λt w m' lo o0 hx hs p0=>?_;show(bF (t.v w)=true/\m.n<=lo/\(m.n=m.n/\∃(t':Tk) (w':aes),t.v w=t'.v w'/\Ext m m/\Sl m t'.un.shape w'/\t'.un.shape.length<=4))\/((bF (t.v w)=false\/lo < m.n)/\(min m.n lo=m.n/\∃(t':Tk) (w':aes),t.v w=t'.v w'/\Ext m m'/\Sl m' t'.un.shape w'/\t'.un.shape.length<=4));cases hf:bF (t.v w);·exact .inr ⟨.inl rfl,by omega,t,w,rfl,hx,hs,p0⟩
 refine .inl ⟨rfl,o0,rfl,t,w,rfl,.refl,?_,p0⟩;rcases hs with h |⟨b,o,c,bc,g,rfl, -⟩;·exact .inl h
 exfalso;simp[bF,dw,bI]at hf
end
section
variable {X:aM} {m:M}
def ED{α:Type}[aZ α](m:M)(l:List α)(v:aes):Prop:=(l=[]/\v=.slice none 0 0)\/Yv m l v
theorem ED.aG{α:Type}[aZ α]{l:List α}{v:aes}{m':M}(h:ED m l v)(hx:Ext m m'):ED m' l v:=h.imp id λh=>h.aG hx
theorem ED.r{α:Type}[aZ α]{l:List α}{v:aes}(h:ED m l v):oG m l v:=by
 rcases h with⟨rfl,rfl⟩ |h;·exact .inl .nil
 exact h.1
theorem ED.to{α:Type}[aZ α]{T t:TypeId}(hT:oO TE T t α){l:List α}{v:aes}(h:ED m l v)(h0:slice? TE m T aew none (some (aev (0:Nat))) none=some aew){i:Nat}(hi:i<=l.length):
  ∃v',slice? TE m T v none (some (aev i)) none=some v'/\ED m (l.take i) v'/\cells v'=[v']/\one v':=by
 rcases h with⟨rfl,rfl⟩ |⟨h1,b,o,c,rfl,h2,h3⟩
 ·obtain rfl:i=0:=by grind
  exact⟨_,h0,.inl ⟨rfl,rfl⟩,rfl,rfl⟩
 have⟨ti,te,t1,⟨e,t2⟩,t3,_⟩:=hT;refine⟨_,IV t1 t2 (by rw[t3];exact aZ.pos) (by grind) h2 (by omega),.inr ⟨?_,b,o,c,by grind,by grind,h3⟩,rfl,rfl⟩;have:=h1.part (i:=0) (k:=i) (c':=c) (by omega);rwa[abM,acW,acO]at this
theorem BE{x:TW}:aI TE m 39 1 [(0,x.v)]=some (.slice (some ⟨m.n,0,none⟩) 1 1,m.push (.cells x.c 62 none)):=by kernel_rfl
def KB(m:M)(b:Nat)(y:Yd):Prop:=oL y/\∃r r2 st rc mo,m.get b=.cells (yc r r2 st rc mo) 38 none/\lM m y r r2 st rc mo
theorem KB.bs{b:Nat}{y:Yd}{m':M}(h:KB m b y)(hb:m'.get b=m.get b)(hk:∀c cs t g,m.get c=.cells cs t g->t≠38->t≠62->m'.get c=.cells cs t g):KB m' b y:=by have⟨h1,r,r2,st,rc,mo,h2,h3⟩:=h;exact⟨h1,r,r2,st,rc,mo,hb.trans h2,h3.bs λc cs t g hc ht=>hk c cs t g hc (by grind) (by grind)⟩
theorem KB.aG{b:Nat}{y:Yd}{m':M}(h:KB m b y)(hx:Ext m m'):KB m' b y:=by have⟨h1,r,r2,st,rc,mo,h2,h3⟩:=h;exact⟨h1,r,r2,st,rc,mo,hx.cells h2,h3.aG hx⟩
def CG(m:M)(l:List TW):Prop:=∀x∈l,Sl m x.t.un.shape x.w/\x.t.un.shape.length<=4/\dI x.t=true
theorem CG.bs{l:List TW}{m':M}(h:CG m l)(hk:∀c cs g,m.get c=.cells cs 141 g->m'.get c=.cells cs 141 g):CG m' l:=λx hx=>
 ⟨(h x hx).1.bs λc cs t g hc ht=>by
  have ht:t=141:=by simpa[aZ.ty,aZ.dd]using ht
  subst ht
  exact hk c cs g hc,(h x hx).2⟩
theorem KL{us:List Un}{ms:List Mk}(h1:cx us)(h2:im us ms):oL ⟨us,ms,[],[],[]⟩:=
 ⟨h1,h2,aa6 _,aa6 _,aa6 _,.nil,λk hk=>(by cases hk),λk hk=>(by cases hk),λk hk=>(by cases hk),by
  show((ms++ []).map Mk.id).Nodup
  rw[abJ];exact adi.2 (h2.uS.imp λh e=>by omega),by
  show(ms++ []).length<=20
  rw[abJ];exact h2.len,λf hf=>(by cases hf),.nil,λx hx=>(by cases hx),.nil⟩
theorem KM{rv:aes}{m':M}{D:Option Yd}(h:lI D m' rv):∃a b c d e k,rv=.tuple #[yv a b c d e,aev k]/\(yc a b c d e).all one/\(∀z,D=some z->k=0/\lM m' z a b c d e)/\(D=none->k=270):=by
 unfold lI at h
 cases D with
 |none=>exact⟨_,_,_,_,_,_,h,rfl,λz e=>(by cases e),λ_=>rfl⟩
 |some z=>obtain⟨r,r2,st,rc,mo,rfl,h⟩:=h;exact⟨_,_,_,_,_,_,rfl,h.ee,λz' e=>(by grind),λe=>(by cases e)⟩
theorem ML{y:Yd}{t:Tk}:(Fe y t).length<=y.rc.length+1:=by
 unfold Fe;split
 ·have h2:=rL (p:=λf:Fc=>decide (fa f ⟨t.id,t.side⟩)) (q:=λf:Fc=>decide (fa ⟨t.id,t.side⟩ f)) (λx h1 h2=>by
   have h1:fa x ⟨t.id,t.side⟩:=aa1 h1
   have h2:fa ⟨t.id,t.side⟩ x:=aa1 h2
   unfold fa at h1 h2
   grind) y.rc
  grind
 omega
theorem PZ{y z:Yd}{t:Tk}(hy:oL y)(h:vR y t=some z):z.rc.length<=y.rc.length+1:=by rw[Bm]at h;obtain⟨p, -,rfl⟩:=abl.1 h;exact ML
set_option maxHeartbeats 2000000 in
theorem Jq(hX:cy X){xs:List I6}{ks:List I4}{vb vk va:aes}(hv:ED m xs vb)(Q2:∀x∈xs,x.ok)(hlen:xs.length < 9223372036854775808)(hk:oG m ks vk)(K1:∀x∈ks,x.ok)(A1:ks.length < 9223372036854775808)(l4:one va=true)
  {ws:List I6} {vw:aes} (hw:oG m ws vw) (L1:∀x∈ws,x.ok) (T2:ws.length < 9223372036854775808):
  ∃y r r2 st rc mo l v m',C X (.func 25) [.agg #[vb,vk,va],vw] m m.n (.tuple #[yv r r2 st rc mo,v]) m'/\Ext m m'/\oL y/\lM m' y r r2 st rc mo/\Sl m' l v/\CG m' l/\(l.length<=9/\y.rc.length<=9):=by
 refine Cl.Tv hX (aaU func25) (R:=λrv m'=>∃y r r2 st rc mo l v,rv=.tuple #[yv r r2 st rc mo,v]/\Ext m m'/\oL y/\lM m' y r r2 st rc mo/\Sl m' l v/\CG m' l/\(l.length<=9/\y.rc.length<=9)) ?_ λrv m' hc ⟨y,r,r2,st,rc,mo,l,v,e,h⟩=>⟨y,r,r2,st,rc,mo,l,v,m',e ▸ hc,h⟩
 have H:∀R:aet->M->Nat->Prop,(∀(y:Yd) (r r2 st rc mo:aes) (l:List TW) (v:aes) (m':M) (lo:Nat),m.n<=lo->Ext m m'->oL y->lM m' y r r2 st rc mo->Sl m' l v->CG m' l->(l.length<=9/\y.rc.length<=9)->R [yv r r2 st rc mo,v] m' lo)->dp TE (aO TE X) f25 [.agg #[vb,vk,va],vw] m R:=by
  intro R hR;rw[F25];dsimp only[δ,ε,ζ,η,θ,ι,κ,ν,ξ,ρ,ς,υ,χ,ψ,Δ,Λ];refine aw λm1 m4 N1 c3=>?_;refine aw λm2 n4 O1 P1=>?_;have T1:Ext m m2:=⟨by omega,by grind⟩
  have g1:m2.get m.n=.cells [vb,vk,va] 25 none:=by rw[P1 _ (by omega)];exact N1
  have gz:m2.get m1.n=.cells (yc aew aew aew aew aew) 38 none:=O1;clear N1 c3 O1 P1;unfold ptrTo;simp only[pF,ae];have e3:ah TE m2 22 (.pointer (some ⟨m.n,0+0,none⟩))=some vb:=by rw[Hv,aL g1];rfl
  have c2:=hv.aG T1;rw[e3,ae,ae,c2.r.len np,aA,ke,aA];obtain⟨kr,o4⟩:∃kr:Nat,kr=min xs.length 5:=⟨_,rfl⟩
  rw[show min (xs.length:Int) 5=(kr:Int) by omega];obtain⟨v9,e9,s9,c9,o9⟩:=c2.to np (by kernel_rfl) (i:=kr) (by omega);rw[e9,ae];refine bY R0 g1 (by rw[c9];rfl) (by grind) (by grind) λm11 A3 B3 O0=>?_;have g11:m11.get m.n=.cells [v9,vk,va] 25 none:=by grind
  have e2:m11.get m1.n=.cells (yc aew aew aew aew aew) 38 none:=by grind
  have n0:Ext m m11:=⟨by omega,λc hc=>by rw[O0 c (by omega),T1.get c hc]⟩
  have g3:oG m11 (xs.take kr) v9:=by refine s9.r.WQ (λb hb h3=>O0 b (λe=>?_)) rfl;subst e;have:=h3 _ _ _ g1;simp[aZ.ty,aZ.dd]at this
  rw[show ah TE m11 25 (.pointer (some ⟨m.n,0,none⟩))=some (.agg #[v9,vk,va]) by rw[BN,aP (n:=3) g11 (by grind)];rfl,ae];obtain⟨l,r,ms,vm,m15,i3,F0,hF,hP,hM,j3⟩:=Jr (m:=m11) (va:=va) hX g3 (λx hx=>Q2 x (ado hx)) (by grind) (hk.aG n0) K1 A1;refine aH i3 ?_;have n15:=F0.n;rw[OZ,ae];have o0:(yc r vm aew aew aew).all one=true:=by show(one r && (one vm && true))=true;rw[hF.sl.one,hM.one];rfl
  refine aw λm18 C3 P0 g2=>?_;refine aD gQ P0 rfl rfl o0 λm19 D3 S0 i2=>?_;have gY:m19.get m15.n=.cells (yc r vm aew aew aew) 38 none:=S0;have c1:Ext m15 m19:=⟨by omega,by grind⟩
  rw[(dP gY).2.2.2.2,ae];refine aw λm22 E3 i1 j2=>?_;refine aD gQ i1 rfl rfl o0 λm23 F3 j1 o2=>?_;have gN:m23.get m19.n=.cells (yc r vm aew aew aew) 38 none:=j1;have p0:Ext m19 m23:=⟨by omega,by grind⟩
  have n19:=c1.n;have n23:=p0.n;have h0:=c1.trans p0;have G3:m15.n < m19.n:=by omega
  have H3:m19.n < m23.n:=by omega
  have r0:lM m23 ⟨bR l,ms,[],[],[]⟩ r vm aew aew aew:=⟨⟨l,rfl,hF.aG h0⟩,hM.aG h0,⟨[],rfl,CH.nil⟩,.nil,.nil⟩
  have hyp:=KL hP j3;have u2:=(hw.aG n0).aG F0;have I3:=F0.cells e2;clear P0 g2 S0 i2 i1 j2 j1 o2;refine Lp.intro (γ:=Nat) (λi=>9-i) (λi vs mm lo=>∃l v y z,vs=[v,.int .i64 i]/\i<=9/\m.n<=lo/\(∀c,c < m15.n->mm.get c=m15.get c)/\m23.n<=mm.n/\KB mm m15.n y/\KB mm m19.n z/\Ow m23.n mm l v/\CG mm l/\(l.length<=i/\y.rc.length<=i/\z.rc.length<=i)) 0 ⟨[],_,_,_,rfl,by omega,by omega,λc hc=>h0.get c hc,aaV _,⟨hyp,_,_,_,_,_,p0.cells gY,r0⟩,⟨hyp,_,_,_,_,_,gN,r0⟩,.nil,λx hx=>(by cases hx),⟨aa6 _,aaV 0,aaV 0⟩⟩ ?_;rintro i vs mm lo ⟨l,v,y,z,rfl,hi,B1,G0,r4,hy,hz,C1,s0,D1⟩;have v2:oG mm ws vw:=u2.aG ⟨by omega,G0⟩;rw[aE,aE];refine bA (λvs m' H0=>∃b:Bool,vs=[.bool b]/\mm=m'/\m.n<=H0/\(b=true->i < ws.length/\i < 9)) (λQ hQ=>?_) ?_
  ·rw[v2.len np,aA,aQ,ae,ak]
   refine av (λc=>?_) (λ_=>hQ _ _ _ ⟨_,rfl,rfl,B1,λh=>by cases h⟩)
   have c:(i:Int)< (ws.length:Int):=aa1 c
   rw[aQ,ae]
   grind
  rintro _ _ gh ⟨b,rfl,rfl,J3,hb⟩;rw[aE,ak];refine av (λc=>?_) (λ_=>?_)
  ·have⟨k3,u4⟩:=hb c;refine bA (λvs m' H0=>∃l v y z,vs=[v]/\m.n<=H0/\(∀c,c < m15.n->m'.get c=m15.get c)/\m23.n<=m'.n/\KB m' m15.n y/\KB m' m19.n z/\Ow m23.n m' l v/\CG m' l/\(l.length<=i+1/\y.rc.length<=i+1/\z.rc.length<=i+1)) (λQ hQ=>?_) ?_
   ·have⟨I0,a1,a2,a3,a4,a5,J0,y2⟩:=id hz
    obtain⟨x,hx⟩:∃x,ws[i]?=some x:=⟨_,aaW k3⟩
    obtain⟨bb,o,f1,f2, -⟩:=NH v2 hx
    rw[(dP J0).2.2.2.2,ae,f1,ae,f2,ae]
    have⟨q0,q1,q2,q3,q4,q5⟩:=L1 x (aa2 hx)
    have⟨t,w,K0,l3,A2,hs,m3⟩:=Dr (m:=mm) hX y2 I0 q0 q1 q2 q3 q4 q5
    refine aH l3 ⟨aaV _,?_⟩
    have n50:=A2.n
    refine aw λv4 K3 k1 B2=>?_
    refine aD nT k1 rfl rfl (Tk.cM hs.one) λL0 L3 l1 C2=>?_
    have gt:L0.get K0.n=.cells (t.c w) 62 none:=l1
    have k0:Ext K0 L0:=⟨by omega,by grind⟩
    have w4:=k0.n
    have N3:K0.n < L0.n:=by omega
    have E1:=A2.trans k0
    clear k1 B2 l1 C2
    rw[(dP (E1.cells J0)).2.2.2.2,ae,fL gt,ae]
    obtain⟨rv,F1,n3,N0,o3⟩:=zY (m:=L0) (t:=t) hX (y2.aG E1) I0 (hs.aG k0) (by omega)
    refine aH n3 ?_
    have y4:=N0.n
    obtain⟨b1,b2,b3,b4,b5,k,rfl,ob,D2,r3⟩:=KM o3
    rw[aJ,aJ]
    simp only[aaY,aaX,ae]
    refine aw λz4 O3 o1 E2=>?_
    refine aD gQ o1 rfl rfl ob λG1 c4 p1 F2=>?_
    have gn:G1.get F1.n=.cells (yc b1 b2 b3 b4 b5) 38 none:=p1
    have e0:Ext F1 G1:=⟨by omega,by grind⟩
    have A4:=e0.n
    have b0:=E1.trans (N0.trans e0)
    clear o1 E2 p1 F2
    rw[bZ,ae,ak]
    refine av (λc=>?_) (λc=>?_)
    ·exact hQ _ _ _ ⟨l,v,y,z,rfl,by omega,λc hc=>by rw[b0.get c (by omega),G0 c hc],by omega,hy.aG b0,hz.aG b0,C1.aG b0,s0.bs λc cs g hc=>b0.cells hc,by omega⟩
    rw[abj]at c
    have c:k=0:=aa1 c
    subst c
    cases hD:vR z t with
    |none=>exact absurd (r3 hD) (by decide)
    |some z2=>
    obtain⟨-,u3⟩:=D2 z2 hD
    have i0:dI t=true:=by
     unfold vR at hD;split at hD;·rename_i h;exact h
     cases hD
    have u0:oL z2:=by unfold vR at hD;rw[aa5 i0]at hD;exact CV I0 i0 hD
    have e4:=PZ I0 hD
    rw[(dP gn).2.2.2.2,ae]
    refine aD gQ (b0.cells J0) rfl rfl ob λa0 f4 G2 l0=>?_
    have g4:a0.get m19.n=.cells (yc b1 b2 b3 b4 b5) 38 none:=G2
    have d0:∀c cs t' g,G1.get c=.cells cs t' g->t'≠38->a0.get c=.cells cs t' g:=λc cs t' g hc ht=>by rw[l0 c (λe=>by subst e;rw[b0.cells J0]at hc;cases hc;exact ht rfl),hc]
    have H2:a0.get F1.n=.cells (yc b1 b2 b3 b4 b5) 38 none:=by grind
    have r1:lM a0 z2 b1 b2 b3 b4 b5:=(u3.aG e0).bs λc cs t' g hc ht=>d0 c cs t' g hc (by grind)
    have u1:KB a0 m15.n y:=(hy.aG b0).bs (l0 _ (by omega)) λc cs t' g hc h1 h2=>d0 c cs t' g hc h1
    have v0:Ow m23.n a0 l v:=(C1.aG b0).pk rfl λc h1 h2=>l0 c (by omega)
    have y0:CG a0 l:=(s0.bs λc cs g hc=>b0.cells hc).bs λc cs g hc=>d0 c cs _ g hc (by decide)
    have h4:∀c,c < m15.n->a0.get c=m15.get c:=λc hc=>by rw[l0 c (by omega),b0.get c (by omega),G0 c hc]
    rw[aQ,ae,ak]
    refine av (λc=>?_) (λc=>?_)
    ·have⟨v1,d1,d2,d3,d4,d5,H1,z0⟩:=id u1;rw[(dP H2).2.2.2.2,ae];refine aD gQ H1 rfl rfl ob λI1 j4 I2 w1=>?_;have J2:I1.get m15.n=.cells (yc b1 b2 b3 b4 b5) 38 none:=I2
     have A0:∀c cs t' g,a0.get c=.cells cs t' g->t'≠38->I1.get c=.cells cs t' g:=λc cs t' g hc ht=>by rw[w1 c (by grind),hc]
     have y1:lM I1 z2 b1 b2 b3 b4 b5:=r1.bs λc cs t' g hc ht=>A0 c cs t' g hc (by grind);refine hQ _ _ _ ⟨l,v,z2,z2,rfl,by omega,by grind,by omega,⟨u0,_,_,_,_,_,J2,y1⟩,⟨u0,_,_,_,_,_,by grind,y1⟩,v0.pk rfl λc h1 h2=>w1 c (by omega),y0.bs λc cs g hc=>A0 c cs _ g hc (by decide),by omega⟩
    ·have K2:a0.get K0.n=.cells (t.c w) 62 none:=d0 _ _ _ _ ((N0.trans e0).cells gt) (by decide);rw[fL K2,ae]
     have L2:Sl a0 t.un.shape w:=(hs.aG (k0.trans (N0.trans e0))).bs λc cs t' g hc ht=>d0 c cs t' g hc (by
      have ht:t'=141:=by simpa[aZ.ty,aZ.dd]using ht
      subst ht;decide)
     refine fP (T:=39) (x:=(⟨t,w⟩:TW)) Pf rfl v0 (by omega) (by omega) BE (λ_=>⟨rfl,hs.one⟩) λr' J1 w2 n2 k2 v3 l2=>?_
     have j0:∀c cs t' g,a0.get c=.cells cs t' g->t'≠62->J1.get c=.cells cs t' g:=λc cs t' g hc ht=>by rw[v3 c (M.bk hc) λB4 g' e=>by rw[hc]at e;cases e;exact ht rfl,hc]
     have M2:lM J1 z2 b1 b2 b3 b4 b5:=r1.bs λc cs t' g hc ht=>j0 c cs t' g hc (by grind);have N2:∀(c:Nat) (cs:aet) (g:Option Nat),a0.get c=.cells cs 141 g->J1.get c=.cells cs 141 g:=λc cs g hc=>j0 c cs _ g hc (by decide)
     have w3:CG a0 (l++ [⟨t,w⟩]):=λx hx=>by
      rcases abp.1 hx with hx |hx;·exact y0 x hx
      rw[abr.1 hx];exact⟨L2,m3,i0⟩
     refine hQ _ _ _ ⟨_,r',y,z2,rfl,by omega,by grind,by omega,u1.bs (k2 _ (by omega)) λc cs t' g hc h1 h2=>j0 c cs t' g hc h2,⟨u0,_,_,_,_,_,by grind,M2⟩,w2,w3.bs N2,by grind⟩
   rintro _ m' H0 ⟨l',v',y',z',rfl,a1,a2,a3,a4,a5,a6,a7,a8⟩;rw[aE,aS,ae,wrap64];exact⟨i+1,by omega,l',v',y',z',rfl,by omega,a1,a2,a3,a4,a5,a6,a7,a8⟩
  have⟨v1,d1,d2,d3,d4,d5,H1,z0⟩:=hy;rw[(dP H1).2.2.2.2,ae];have y3:mm.get m1.n=.cells (yc aew aew aew aew aew) 38 none:=by grind
  refine aD gQ y3 rfl rfl z0.ee λO2 k4 P2 z1=>?_;have z3:O2.get m1.n=.cells (yc d1 d2 d3 d4 d5) 38 none:=P2;rw[(dP z3).2.2.2.2,ae]
  have eZ:∀c cs t' g,mm.get c=.cells cs t' g->t'≠38->O2.get c=.cells cs t' g:=λc cs t' g hc ht=>by rw[z1 c (by grind),hc]
  refine hR y _ _ _ _ _ l _ _ _ (by omega) ⟨by omega,λc hc=>by rw[z1 c (by omega),G0 c (by omega),F0.get c (by omega),n0.get c hc]⟩ v1 (z0.bs λc cs t' g hc ht=>eZ c cs t' g hc (by grind)) (C1.sl.bs λc cs t' g hc ht=>eZ c cs t' g hc (by simp only[aZ.ty,aZ.dd,abc,abn,or_false]at ht;subst ht;decide)) (s0.bs λc cs g hc=>eZ c cs _ g hc (by decide)) (by omega)
 refine H _ λy r r2 st rc mo l v m' lo B1 hx hy r0 hl s0 D1=>?_;show(bF (.tuple #[yv r r2 st rc mo,v])=true/\m.n<=lo/\(m.n=m.n/\∃y' r' B0 C0 D0 E0 l' v',(.tuple #[yv r r2 st rc mo,v]:aes)=.tuple #[yv r' B0 C0 D0 E0,v']/\Ext m m/\oL y'/\lM m y' r' B0 C0 D0 E0/\Sl m l' v'/\CG m l'/\(l'.length<=9/\y'.rc.length<=9)))\/((bF (.tuple #[yv r r2 st rc mo,v])=false\/lo < m.n)/\(min m.n lo=m.n/\∃y' r' B0 C0 D0 E0 l' v',(.tuple #[yv r r2 st rc mo,v]:aes)=.tuple #[yv r' B0 C0 D0 E0,v']/\Ext m m'/\oL y'/\lM m' y' r' B0 C0 D0 E0/\Sl m' l' v'/\CG m' l'/\(l'.length<=9/\y'.rc.length<=9)));cases hf:bF (.tuple #[yv r r2 st rc mo,v]);·exact .inr ⟨.inl rfl,by omega,y,r,r2,st,rc,mo,l,v,rfl,hx,hy,r0,hl,s0,D1⟩
 have g0:((D.bI r && (D.bI r2 && (D.bI st && (D.bI rc && (D.bI mo && true))))) && (D.dw v && true))=true:=hf;simp only[aa3]at g0
 obtain⟨e1,rfl⟩:l=[]/\v=aew:=by
  rcases hl with⟨h1,h2⟩ |⟨b,o,c,bc,g,h1,_⟩;·exact⟨h2,h1⟩
  rw[h1]at g0;simp[D.dw,D.bI]at g0
 exact .inl ⟨rfl,B1,rfl,y,r,r2,st,rc,mo,[],_,rfl,.refl,hy,r0.flat ⟨g0.1.1,g0.1.2.1,g0.1.2.2.1,g0.1.2.2.2.1,g0.1.2.2.2.2.1⟩ m,.nil,λx hx=>(by cases hx),⟨aa6 _,D1.2⟩⟩
end
section
open Go Go.D Go.ChangeShapes Go.WideShapes Go.ChangeAt Go.RowKit Go.Proofs.Tryz
section
variable {H:Type} {enc:TypeId×aes->H} {W W':World} {sp:Nat->Bool} {held:Bool} {base:Nat}
theorem HX{t e:TypeId}{v:aes}{fuel:Nat}{x:DataW H×List MemPlace}(ht:Tryz.prog.underlying t=some (.slice e))(h:DataW.trod enc Tryz.prog W 0 sp held fuel t [v]=some x):∀a n c,v=.slice a n c->n<=c:=by
 rintro a n c rfl;rcases DataW.trod_slice ht h with⟨hv,_⟩ |⟨a',len,cap,elems,rest,k,_,hv,_,_,hl,_⟩
 ·grind
 ·grind
theorem Mr{α:Type}[aZ α]{m:M}{v:aes}{Py:α->Prop}(h:∃l:List α,GA m l v/\l.length < 9223372036854775808/\∀y∈l,Py y)(hc:∀a n c,v=.slice a n c->n<=c):∃l:List α,ED m l v/\l.length < 9223372036854775808/\∀y∈l,Py y:=by
 have⟨l,hs,h⟩:=h;refine⟨l,?_,h⟩;have a0:=hs;rcases hs with⟨rfl,rfl⟩ |⟨b,o,c,bc,rfl,h2,h4⟩;·exact .inl ⟨rfl,rfl⟩
 exact .inr ⟨.inr a0,b,o,c,rfl,hc _ _ _ rfl,.inr ⟨_,h2⟩⟩
theorem vn{t e:TypeId}{v:aes}(hu:Tryz.prog.underlying t=some (.slice e))(a0:Cell.okWide Tryz.prog W .any base t v):v.cells.toList=[v]:=by
 cases v with
 |agg cs=>exfalso;revert a0;simp[Cell.okWide,Cell.ok,hu]
 |_=>rfl
theorem Dv{v:aes}{d:DataW H}{ps:List MemPlace}(j0:Value.okWide Tryz.prog W .any base 25 v)(h:DataW.Trod enc Tryz.prog W 0 sp held 25 v d ps):
  bK (rU W) v v/\∃vb vk va,v=.agg #[vb,vk,va]/\one va/\(∃l:List I6,ED (eo W) l vb/\l.length < 9223372036854775808/\∀y∈l,y.ok)/\(∃l:List I4,GA (eo W) l vk/\l.length < 9223372036854775808/\∀y∈l,y.ok):=by
 have hu:=underlying25
 have o0:Tryz.prog.cellTypes Tryz.prog.depth 25=some [22,23,22]:=by kernel_rfl
 have p0:Tryz.prog.cellsOf 25=3:=by kernel_rfl
 have c1:Tryz.prog.cellsOf 22=1:=by kernel_rfl
 have c2:Tryz.prog.cellsOf 23=1:=by kernel_rfl
 simp only[Value.okWide,hu]at j0
 obtain⟨cs,rfl,g0,ts,l0, -,d0⟩:=j0
 rw[o0]at l0
 cases l0
 rw[p0]at g0
 have⟨cs⟩:=cs
 have g0:cs.length=3:=g0
 have⟨fuel,h⟩:=h
 obtain⟨xs,n,_,_,_,n0,i0⟩:=DataW.trod_struct hu h
 match cs,g0 with
 |[vb,vk,va],_=>
  have e0:=i0 0 _ rfl
  have e1:=i0 1 _ rfl
  have e2:=i0 2 _ rfl
  have n0:xs.length=3:=n0
  obtain⟨y0,q0⟩:∃y,xs[0]?=some y:=⟨_,qz⟩
  obtain⟨y1,r0⟩:∃y,xs[1]?=some y:=⟨_,qz⟩
  obtain⟨y2,s0⟩:∃y,xs[2]?=some y:=⟨_,qz⟩
  rw[q0]at e0
  rw[r0]at e1
  rw[s0]at e2
  replace e0:DataW.trod enc Tryz.prog W 0 sp held n 22 (([vb,vk,va].drop 0).take (Tryz.prog.cellsOf 22))=some y0:=e0
  rw[c1]at e0
  replace e0:DataW.trod enc Tryz.prog W 0 sp held n 22 [vb]=some y0:=e0
  replace e1:DataW.trod enc Tryz.prog W 0 sp held n 23 (([vb,vk,va].drop 1).take (Tryz.prog.cellsOf 23))=some y1:=e1
  rw[c2]at e1
  replace e1:DataW.trod enc Tryz.prog W 0 sp held n 23 [vk]=some y1:=e1
  replace e2:DataW.trod enc Tryz.prog W 0 sp held n 22 (([vb,vk,va].drop 2).take (Tryz.prog.cellsOf 22))=some y2:=e2
  rw[c1]at e2
  replace e2:DataW.trod enc Tryz.prog W 0 sp held n 22 [va]=some y2:=e2
  have⟨t0,h0,k0⟩:=d0 0 vb rfl
  have⟨t1,h1,k1⟩:=d0 1 vk rfl
  have⟨t2,h2,k2⟩:=d0 2 va rfl
  cases h0;cases h1;cases h2
  obtain⟨a0,b0⟩:=tR (α:=I6) (v:=vb) nh (by kernel_rfl) FT k0 e0
  obtain⟨a1,b1⟩:=tR (α:=I4) (v:=vk) wD (by kernel_rfl) HM k1 e1
  obtain⟨a2,b2⟩:=tR (α:=I6) (v:=va) nh (by kernel_rfl) FT k2 e2
  have o2:one va:=by obtain⟨l,s, -⟩:=b2;obtain⟨a,c,rfl⟩:=s.form;rfl
  refine⟨.agg _ _ rfl λj x y hx hy=>?_,vb,vk,va,rfl,o2,Mr b0 (HX nh e0),b1⟩
  rw[hx]at hy
  cases hy
  match j,hx with
  |0,hx=>cases hx;exact a0
  |1,hx=>cases hx;exact a1
  |2,hx=>cases hx;exact a2
  |j+3,hx=>simp at hx
theorem IZ{v:aes}{d:DataW H}{ps:List MemPlace}(a0:Value.okWide Tryz.prog W .any base 22 v)(h:DataW.Trod enc Tryz.prog W 0 sp held 22 v d ps):
  bK (rU W) v v/\∃l:List I6,ED (eo W) l v/\l.length < 9223372036854775808/\∀y∈l,y.ok:=by simp only[Value.okWide,nh]at a0;have⟨fuel,h⟩:=h;rw[vn nh a0]at h;obtain⟨a,b⟩:=tR (α:=I6) (v:=v) nh (by kernel_rfl) FT a0 h;exact⟨a,Mr b (HX nh h)⟩
theorem NK{v:aes}{d:DataW H}{ps:List MemPlace}(a0:Value.okWide Tryz.prog W .any base 23 v)(h:DataW.Trod enc Tryz.prog W 0 sp held 23 v d ps):
  bK (rU W) v v/\∃l:List I4,GA (eo W) l v/\l.length < 9223372036854775808/\∀y∈l,y.ok:=by simp only[Value.okWide,wD]at a0;have⟨fuel,h⟩:=h;rw[vn wD a0]at h;exact tR (α:=I4) (v:=v) wD (by kernel_rfl) HM a0 h
theorem P6{v:aes}{d:DataW H}{ps:List MemPlace}(hb:Below W.heap.size W W')(h:DataW.Trod enc Tryz.prog W 0 (λ_=>true) true 23 v d ps)(a0:∀x∈ps,x.block < W.heap.size)(sp:Nat->Bool)(hs:∀x∈ps,sp x.block):DataW.Trod enc Tryz.prog W' 0 sp true 23 v d ps:=
 WideElems.Trod_stays laidOut (by kernel_rfl) (aa1 (by kernel_rfl)) h (λx hx=>hb.same (a0 x hx)) hs
end
end
section
section
variable {X:aM}{x0 x1 x2 x3:aes}{m:M}{R:aet->M->Nat->Prop}{W:Words}
theorem F28:dp TE (aO TE X) f28 [x0,x1] m R=ρ m x0 38 λa=>ρ a x1 62 λb=>ε 38 (υ m) 0 λc=>δ b 33 c λc=>ε 62 (υ a) 2 λd=>δ b 3 d λd=>ψ X 71 [c,d] b λb c d=>ξ b 0 λf=>ξ b 1 λb=>ς c [χ 0,χ 0,χ 0,aew,χ 0,χ 0] 60 λg=>ι g 60 (υ c) f λc f=>ε 38 (υ m) 0 λg=>δ c 33 g λg=>ε 62 (υ a) 3 λh=>δ c 3 h λh=>ψ X 71 [g,h] c λc g h=>ξ c 0 λi=>ξ c 1 λc=>ς g [χ 0,χ 0,χ 0,aew,χ 0,χ 0] 60 λj=>ι j 60 (υ g) i λg i=>ε 62 (υ a) 0 λj=>δ g 3 j λj=>η .eql 3 j (χ 9) λj=>aU j (jn (λa=>aU b (a [c] g (Δ m.n d f h i)) (a [aey] g (Δ m.n d f h i))) (λa b c=>un a λa _=>R [a] b c)) (jn (λc=>aU b (c [aex] g (Δ m.n d f h i)) (ε 62 (υ a) 0 λb=>δ g 3 b λb=>η .neq 3 b (χ 4) λb=>aU b (ε 62 (υ a) 0 λa=>δ g 3 a λa=>η .neq 3 a (χ 5) λa=>c [a] g (Δ m.n d f h i)) (c [aey] g (Δ m.n d f h i)))) (λa b c=>un a λa _=>R [a] b c)):=by kernel_rfl
theorem F10:dp TE (aO TE X) f10 [x0,x1] m R=ρ m x1 53 λa=>Lp (λa b c d=>un b λb f=>un f λf _=>κ c .len [35] [x0] λg _=>η .lss 3 f g λg=>aU g (ζ 35 x0 f λg=>δ c 53 g λg=>δ c 53 (υ m) λh=>η .eql 53 g h λg=>aU g (R [aex] c d) (η .add 3 f (χ 1) λf=>a [b,f] c d)) (R [aey] c d)) [aey,χ 0] a m.n:=by kernel_rfl
theorem F74:dp TE (aO TE X) f74 [x0,x1] m R=ρ m x0 53 λa=>ρ a x1 53 λb=>jn (λc=>ε 53 (υ m) 0 λd=>δ b 3 d λd=>ε 53 (υ a) 0 λf=>δ b 3 f λf=>η .lss 3 d f λd=>aU d (c [aex] b m.n) (ε 53 (υ m) 0 λd=>δ b 3 d λd=>ε 53 (υ a) 0 λf=>δ b 3 f λf=>η .eql 3 d f λd=>aU d (ε 53 (υ m) 1 λd=>δ b 3 d λd=>ε 53 (υ a) 1 λa=>δ b 3 a λa=>η .lss 3 d a λa=>c [a] b m.n) (c [aey] b m.n))) (λa b c=>un a λa _=>R [a] b c):=by kernel_rfl
theorem F30:dp TE (aO TE X) f30 [x0,x1] m R=jn (λa=>η .lss 3 x0 (χ 0) λb=>aU b (η .add 3 x0 (χ 1) λb=>ο .neg b λb=>a [b] m m.n) (a [x0] m m.n)) (λa b c=>un a λa _=>η .rem 3 a x1 λa=>R [a] b c):=by kernel_rfl
theorem F29:dp TE (aO TE X) f29 [x0,x1] m R=ρ m x0 33 λa=>Lp (λa b c d=>un b λb f=>un f λf _=>jn (λa=>κ c .len [23] [x1] λb _=>η .lss 3 f b λb=>aU b (η .lss 3 f (χ 4) λb=>a [b] c d) (a [aey] c d)) (λc d g=>un c λc _=>aU c (η .mul 3 (χ 10) f λc=>θ 79 [(0,c)] λc=>ς d [χ 0,aew] 79 λh=>ι h 79 (υ d) c λc h=>Lp (λc g h i=>un g λg _=>η .lss 3 g (χ 4) λj=>aU j (jn (λa=>ζ 23 x1 f λb=>ζ 153 b g λb=>δ h 3 b λb=>ψ X 30 [b,χ 100] h λb c j=>(h.n<=j)/\(ζ 23 x1 f λh=>ζ 153 h g λh=>δ c 3 h λh=>η .quo 3 h (χ 16) λh=>ψ X 30 [h,χ 6] c λh k l=>(c.n<=l)/\(η .sub 3 h (χ 2) λc=>θ 53 [(0,b),(1,c)] λb=>ς k [χ 0,χ 0] 53 λc=>ι c 53 (υ k) b λb c=>jn (λa=>ε 33 (υ m) 0 λd=>ε 30 d 0 λd=>δ b 28 d λd=>κ b .len [28] [d] λd _=>η .gtr 3 d (χ 0) λd=>aU d (ε 33 (υ m) 0 λd=>ε 30 d 0 λd=>δ b 28 d λd=>ζ 23 x1 f λf=>ζ 153 f g λf=>δ b 3 f λf=>ε 33 (υ m) 0 λg=>ε 30 g 0 λg=>δ b 28 g λg=>κ b .len [28] [g] λg _=>ψ X 30 [f,g] b λf g h=>(b.n<=h)/\(ζ 28 d f λb=>ε 60 b 0 λb=>δ g 3 b λb=>ε 53 (υ k) 0 λd=>ι g 3 d b λb d=>a [] b (Θ i j l c h d))) (a [] b (Γ i j l c))) (λ_ b c=>jn (λa=>ε 79 (υ d) 1 λd=>δ b 35 d λd=>δ b 53 (υ k) λh=>ψ X 10 [d,h] b λb d h=>aU b (a [aex] d (min c h)) (ζ 23 x1 f λb=>ζ 153 b g λb=>δ d 3 b λb=>η .quo 3 b (χ 128) λb=>ψ X 30 [b,χ 4] d λb d f=>η .eql 3 b (χ 3) λb=>a [b] d (ω c h f))) (λb c f=>un b λb _=>aU b (a [] c f) (Lp (λb c f g=>un c λc _=>jn (λa=>ε 79 (υ d) 1 λb=>δ f 35 b λb=>κ f .len [35] [b] λb _=>η .lss 3 c b λb=>aU b (ε 79 (υ d) 1 λb=>δ f 35 b λb=>ζ 35 b c λb=>δ f 53 b λb=>δ f 53 (υ k) λc=>ψ X 74 [b,c] f λb c d=>a [b] c (min g d)) (a [aey] f g)) (λf g h=>un f λf _=>aU f (η .add 3 c (χ 1) λa=>b [a] g h) (ε 79 (υ d) 1 λb=>δ g 35 b λb=>aj (slice? TE g 35 b none (some c) (some c)) λb=>δ g 53 (υ k) λf=>ν g 35 1 [(0,f)] λf g=>ε 79 (υ d) 1 λi=>δ g 35 i λi=>aj (slice? TE g 35 i (some c) none none) λc=>κ (M.wl g g.n) .append [35,35] [f,c] λc f=>(g.n<=M.low f)/\(κ (M.wl f f.n) .append [35,35] [b,c] λb c=>ε 79 (υ d) 1 λd=>ι c 35 d b λb d=>a [] b (Γ h (M.low f) (M.low c) d))))) [χ 0] c f)))))) (λ_ a b=>η .add 3 g (χ 1) λd=>c [d] a b)) (δ h 79 (υ d) λc=>ν h 41 1 [(0,c)] λc d=>κ (M.wl d d.n) .append [41,41] [b,c] λb c=>η .add 3 f (χ 1) λd=>a [b,d] c (min i (M.low c)))) [χ 0] c (min g h)) (R [b] d g))) [aew,χ 0] a m.n:=by kernel_rfl
theorem F7:dp TE W Tryz.f7 [x0,x1,x2,x3] m R=W.bJ (M.push m (.cells (cells x0) 25 none)) λa=>W.bJ (M.push a (.cells [aew,aew,aew,aew,aew,aew,aew,aew] 43 none)) λb=>W.aj (ah TE b 25 (ptrTo m.n)) λc=>W.aR (az TE b .len [22] [x1]) λd _=>W.aR (az TE b .min [3,3] [d,.int .i64 3]) λd _=>W.aj (slice? TE b 22 x1 none (some d) none) λd=>W.bB (.func 25) [c,d] b λc d f=>(b.n<=f)/\(W.aj (bC c 0) λb=>W.aj (bC c 1) λ_=>W.bJ (M.push d (.cells [aew,aew,aew,aew,aew] 38 none)) λc=>W.aR (aF TE c 38 (ptrTo d.n) b) λb c=>W.aj (ah TE b 38 (ptrTo d.n)) λg=>W.bJ (M.push b (.cells [aew,aew,aew,aew,aew] 38 none)) λh=>W.aR (aF TE h 38 (ptrTo b.n) g) λg h=>W.Lp (λc f g h=>W.un f λf i=>W.un i λi _=>W.jn (λa=>W.aR (az TE g .len [22] [x1]) λb _=>W.aj (aC TE .lss 3 i b) λb=>aU b (W.aj (aC TE .lss 3 i (.int .i64 9)) λb=>a [b] g h) (a [aey] g h)) (λg h j=>W.un g λg _=>aU g (W.jn (λa=>W.aj (ah TE h 38 (ptrTo b.n)) λc=>W.aj (an TE 22 x1 i) λg=>W.aj (ah TE h 89 g) λg=>W.bB (.func 26) [c,g] h λc g i=>(h.n<=i)/\(W.bJ (M.push g (.cells [.int .i64 0,.int .i64 0,.int .i64 0,.int .i64 0,aew,.int .i64 0,.int .i64 0,.int .i64 0,.int .i64 0,.int .i64 0,.int .i64 0] 62 none)) λh=>W.aR (aF TE h 62 (ptrTo g.n) c) λc h=>W.aj (ah TE c 38 (ptrTo b.n)) λk=>W.aj (ah TE c 62 (ptrTo g.n)) λl=>W.bB (.func 27) [k,l] c λc k l=>W.aj (bC c 0) λn=>W.aj (bC c 1) λc=>W.bJ (M.push k (.cells [aew,aew,aew,aew,aew] 38 none)) λo=>W.aR (aF TE o 38 (ptrTo k.n) n) λn o=>W.jn (λa=>W.aj (aC TE .eql 46 c (.int .i64 0)) λb=>aU b (W.aj (ah TE n 38 (ptrTo d.n)) λb=>W.aj (ah TE n 62 (ptrTo g.n)) λc=>W.bB (.func 28) [b,c] n λb c d=>a [b] c (min (min (min (min (min j i) h) l) o) d)) (a [aey] n (min (min (min (min j i) h) l) o))) (λc d h=>W.un c λc _=>aU c (W.aj (ah TE d 38 (ptrTo k.n)) λc=>W.aR (aF TE d 38 (ptrTo b.n) c) λb c=>W.aj (ah TE b 62 (ptrTo g.n)) λd=>W.aR (aI TE b 39 1 [(0,d)]) λb d=>W.aR (az TE (M.wl d d.n) .append [39,39] [f,b]) λb d=>a [b] d (min (min h c) (M.low d))) (a [f] d h)))) (λa b d=>W.un a λa _=>W.aj (aC TE .add 3 i (.int .i64 1)) λf=>c [a,f] b d)) (W.aj (ah TE h 38 (ptrTo d.n)) λb=>W.aj (af TE 38 (ptrTo d.n) 0) λc=>W.aj (ah TE h 33 c) λc=>W.bB (.func 29) [c,x3] h λc d g=>(h.n<=g)/\(W.aj (aK TE 43 [(0,b),(1,f),(3,c)]) λb=>W.bJ (M.push d (.cells [aew,aew,aew,aew,aew,aew,aew,aew] 43 none)) λc=>W.aR (aF TE c 43 (ptrTo d.n) b) λb c=>W.Lp (λb c g h=>W.un c λc i=>W.un i λi _=>W.aR (az TE g .len [39] [f]) λf _=>W.aj (aC TE .lss 3 i f) λf=>aU f (W.Lp (λa c f g=>W.un c λc h=>W.un h λh _=>W.aj (aC TE .lss 3 h i) λj=>aU j (W.jn (λa=>W.jn (λa=>W.aR (az TE f .len [26] [x2]) λb _=>W.aj (aC TE .lss 3 c b) λb=>aU b (W.aj (an TE 26 x2 c) λb=>W.aj (ah TE f 3 b) λb=>W.bB (.func 30) [b,.int .i64 2] f λb c d=>W.aj (aC TE .eql 3 b (.int .i64 0)) λb=>a [b] c (min g d)) (a [aey] f g)) (λb c f=>W.un b λb _=>aU b (W.aj (af TE 43 (ptrTo d.n) 2) λb=>W.aj (ah TE c 40 b) λb=>W.aj (aK TE 69 [(0,h),(1,i)]) λg=>W.aR (aI TE c 40 1 [(0,g)]) λc g=>W.aR (az TE (M.wl g g.n) .append [40,40] [b,c]) λb c=>W.aj (af TE 43 (ptrTo d.n) 2) λd=>W.aR (aF TE c 40 d b) λb d=>a [] b (min (min f (M.low c)) d)) (a [] c f))) (λ_ b d=>W.aj (aC TE .add 3 c (.int .i64 1)) λc=>W.aj (aC TE .add 3 h (.int .i64 1)) λf=>a [c,f] b d)) (W.aj (aC TE .add 3 i (.int .i64 1)) λa=>b [c,a] f g)) [c,.int .i64 0] g h) (W.aj (ah TE g 43 (ptrTo d.n)) λb=>W.aR (aF TE g 43 (ptrTo a.n) b) λb c=>aj (ah TE b 43 (ptrTo a.n)) λa=>R [a] b (min h c))) [.int .i64 0,.int .i64 0] b (min (min j g) c))))) [aew,.int .i64 3] g (min (min (min m.n f) c) h)):=by kernel_rfl
end
end
section
def iK(t:List Nat)(b a:Nat):Bool:=(t.getD b 0).testBit a
def nW(t:List Nat)(p:Nat×Nat):List Nat:=t.set p.2 (t.getD p.2 0 |||2 ^ p.1)
def oU:List Nat:=List.replicate 8 0
def lN(ps:List (Nat×Nat)):List Nat:=ps.foldl nW oU
def sj(k:Nat)(t:List Nat)(b:Nat):List Nat:=if(t.getD b 0).testBit k=true then t.set b (t.getD b 0 |||t.getD k 0)else t
def nV(n:Nat)(t:List Nat)(k:Nat):List Nat:=(List.range n).foldl (sj k) t
def lG(n:Nat)(t:List Nat):List Nat:=(List.range n).foldl (nV n) t
theorem uc(t:List Nat)(p:Nat×Nat):(nW t p).length=t.length:=by unfold nW;rw[List.length_set]
theorem yf(k:Nat)(t:List Nat)(b:Nat):(sj k t b).length=t.length:=by unfold sj;split <;>simp
theorem jB{β:Type}(f:List Nat->β->List Nat)(h:∀t x,(f t x).length=t.length):∀(l:List β) (t:List Nat),(l.foldl f t).length=t.length
 |[],_=>rfl
 |x::r,t=>by rw[ade,jB f h r,h]
theorem mD(ps:List (Nat×Nat)):(lN ps).length=8:=by unfold lN;rw[jB _ uc];rfl
theorem ua(n:Nat)(t:List Nat)(k:Nat):(nV n t k).length=t.length:=by unfold nV;rw[jB _ (yf k)]
theorem Ga(n:Nat)(t:List Nat):(lG n t).length=t.length:=by unfold lG;rw[jB _ (ua n)]
theorem yM(t:List Nat)(i j x:Nat)(hi:i < t.length):(t.set i x).getD j 0=if i=j then x else t.getD j 0:=by
 grind
theorem RG{t:List Nat}{p:Nat×Nat}(h:p.2 < t.length)(b a:Nat):iK (nW t p) b a=(iK t b a ||(decide (p.2=b) && decide (p.1=a))):=by
 unfold iK nW
 grind
theorem zs:∀(ps:List (Nat×Nat)) (t:List Nat),(∀p∈ps,p.2 < t.length)->∀b a,iK (ps.foldl nW t) b a=(iK t b a ||ps.any λp=>decide (p.2=b) && decide (p.1=a))
 |[],t,_,b,a=>by simp
 |p::r,t,h,b,a=>by
  rw[ade,zs r _ (λq hq=>by rw[uc];exact h q (abS _ hq)),RG (h p abT),List.any_cons,Bool.or_assoc]
theorem wW(b a:Nat):iK oU b a=false:=by
 unfold iK oU
 grind
theorem V1{k:Nat}{t:List Nat}{i:Nat}(hi:i < t.length)(b a:Nat):iK (sj k t i) b a=(iK t b a ||(decide (i=b) && iK t i k && iK t k a)):=by
 unfold sj;split
 ·rename_i h
  unfold iK
  grind
 ·rename_i h
  unfold iK
  grind
theorem Ia{k:Nat}{t:List Nat}:∀n:Nat,n<=t.length->∀b a,iK ((List.range n).foldl (sj k) t) b a=(iK t b a ||(decide (b < n) && iK t b k && iK t k a))
 |0,_,b,a=>by simp
 |n+1,hn,b,a=>by
  have ih:=Ia (k:=k) (t:=t) n (by omega)
  rw[acG,adj,ade,List.foldl_nil,V1 (by rw[jB _ (yf k)];omega),ih,ih,ih]
  grind
theorem Ib{n k:Nat}{t:List Nat}(hn:n<=t.length)(b a:Nat):iK (nV n t k) b a=(iK t b a ||(decide (b < n) && iK t b k && iK t k a)):=Ia n hn b a
def SG(n:Nat)(t:List Nat):Prop:=∀b a,iK t b a=true->b < n/\a < n
theorem SG.pass{n k:Nat}{t:List Nat}(hn:n<=t.length)(h:SG n t):SG n (nV n t k):=by
 intro b a e;rw[Ib hn,acA,aa3,aa3]at e;rcases e with e |⟨⟨_,e1⟩,e2⟩;·exact h b a e
 exact⟨(h b k e1).1,(h k a e2).2⟩
structure ClT(n:Nat)(t c:List Nat):Prop where
 len:c.length=t.length
 bd:SG n c
 sub:∀b a,iK t b a=true->iK c b a=true
 tr:∀b j a,iK c b j=true->iK c j a=true->iK c b a=true
 least:∀S:Nat->Nat->Prop,(∀b a,iK t b a=true->S b a)->(∀b j a,S b j->S j a->S b a)->∀b a,iK c b a=true->S b a
theorem qp{n:Nat}{t:List Nat}(hn:n<=t.length)(hb:SG n t):ClT n t (lG n t):=by
 have key:∀m,m<=n->∃c,c=(List.range m).foldl (nV n) t/\c.length=t.length/\SG n c/\(∀b a,iK t b a->iK c b a)/\(∀b j a,j < m->iK c b j->iK c j a->iK c b a)/\∀S:Nat->Nat->Prop,(∀b a,iK t b a->S b a)->(∀b j a,S b j->S j a->S b a)->∀b a,iK c b a->S b a:=by
  intro m
  induction m with
  |zero=>exact λ_=>⟨t,rfl,rfl,hb,λ_ _ h=>h,λb j a h=>absurd h (by omega),λS h _ b a e=>h b a e⟩
  |succ k ih=>
   intro hk;obtain⟨c,hc,h1,h2,h3,h4,h5⟩:=ih (by omega)
   have hp:∀b a,iK (nV n c k) b a↔(iK c b a\/(iK c b k/\iK c k a)):=by
    intro b a;rw[Ib (by omega),acA,aa3,aa3,abm];constructor
    ·grind
    rintro(e |⟨e1,e2⟩)
    ·grind
    exact .inr ⟨⟨(h2 b k e1).1,e1⟩,e2⟩
   refine⟨nV n c k,?_,by rw[ua,h1],h2.pass (by omega),λb a e=>(hp b a).2 (.inl (h3 b a e)),λb j a hj e1 e2=>?_,λS s1 s2 b a e=>?_⟩;·rw[acG,adj,<-hc];rfl
   ·grind
   rw[hp]at e;rcases e with e |⟨e1,e2⟩;·exact h5 S s1 s2 b a e
   exact s2 b k a (h5 S s1 s2 b k e1) (h5 S s1 s2 k a e2)
 have⟨c,hc,h1,h2,h3,h4,h5⟩:=key n (aaV n);have hc:lG n t=c:=hc.symm;rw[hc];exact⟨h1,h2,h3,λb j a e1 e2=>h4 b j a (h2 b j e1).2 e1 e2,h5⟩
theorem wX{n:Nat}{ps:List (Nat×Nat)}(hn:n<=8)(h:∀p∈ps,p.1 < n/\p.2 < n):SG n (lN ps):=by
 intro b a e
 unfold lN at e
 rw[zs ps oU (λp hp=>by have:=h p hp;show p.2 < 8;omega),wW,ac0,ab8]at e
 grind
theorem FZ{n:Nat}{ps qs:List (Nat×Nat)}(hn:n<=8)(hp:∀p∈ps,p.1 < n/\p.2 < n)(hq:∀p∈qs,p.1 < n/\p.2 < n)(hs:∀p∈ps,p∈qs)(b a:Nat)(h:iK (lG n (lN ps)) b a):iK (lG n (lN qs)) b a:=by
 have c1:=qp (n:=n) (t:=lN ps) (by rw[mD];exact hn) (wX hn hp)
 have c2:=qp (n:=n) (t:=lN qs) (by rw[mD];exact hn) (wX hn hq)
 refine c1.least (λb a=>iK (lG n (lN qs)) b a=true) (λb a hb=>c2.sub b a ?_) c2.tr b a h
 unfold lN at hb⊢
 rw[zs ps oU (λp a0=>by have:=hp p a0;show p.2 < 8;omega),wW,ac0,ab8]at hb
 rw[zs qs oU (λp a0=>by have:=hq p a0;show p.2 < 8;omega),wW,ac0,ab8]
 grind
structure GD(n:Nat)(ps:List (Nat×Nat)):Prop where
 le:n<=8
 len:ps.length<=28
 ok:∀p∈ps,p.1 < n/\p.2 < n/\p.1≠p.2
 ir:∀a,iK (lG n (lN ps)) a a=false
theorem GD.Qu{n:Nat}{ps:List (Nat×Nat)}(r:Nat->Nat)(h1:n<=8)(h2:ps.length<=28)(h3:∀p∈ps,p.1 < n/\p.2 < n/\r p.1 < r p.2):GD n ps:=by
 have hb:∀p∈ps,p.1 < n/\p.2 < n:=by grind
 refine⟨h1,h2,λp hp=>?_,λa=>?_⟩
 ·grind
 ·cases e:iK (lG n (lN ps)) a a with
  |false=>rfl
  |true=>
   have:=(qp (n:=n) (t:=lN ps) (by rw[mD];exact h1) (wX h1 hb)).least (λb a=>r a < r b) (λb a e=>?_) (λb j a h1 h2=>Nat.lt_trans h2 h1) a a e;·omega
   ·unfold lN at e
    rw[zs ps oU (λp hp=>by have:=hb p hp;show p.2 < 8;omega),wW,ac0,ab8]at e
    grind
theorem GD.of_lt{n:Nat}{ps:List (Nat×Nat)}(h1:n<=8)(h2:ps.length<=28)(h3:∀p∈ps,p.1 < p.2/\p.2 < n):GD n ps:=
 .Qu id h1 h2 λp hp=>by grind
end
section
end
section
end
section
structure Qn where
 id:Int
 mS:List Fc
structure nR where
 y:Yd
 ts:List Tk
 ps:List (Nat×Nat)
 qs:List Qn
structure Ls where
 task:Int
 f:Fc
 q:Int
deriving DecidableEq
def M6(a b p:Pl):Bool:= !decide (GJ (GJ (b.x-a.x)*GJ (p.y-a.y))=GJ (GJ (b.y-a.y)*GJ (p.x-a.x)))
def vo(u:Un)(p q:Pl):Fc:=match(List.range u.shape.length).find? λi=> !M6 (gd u.shape i) (KH u.shape i) p && !M6 (gd u.shape i) (KH u.shape i) q with
 |some i=>⟨u.id,i⟩
 |none=>⟨u.id,0⟩
def me(sf:List Fc->List Fc)(us:List Un)(t:Tk):List Fc:=match cf us t.id with
 |none=> []
 |some u=>
  if t.kind=4 then sf (eR u)
  else if t.kind=5 then(if(⟨t.id,t.side⟩:Fc)∈eR u then [⟨t.id,t.side⟩]else [])
  else if t.kind=9 then(match cf us t.other with
   |none=> []
   |some v=>match jG u v with
    |some c=> [vo u c.p c.q,vo v c.p c.q]
    |none=> [])
  else []
def wV(s:nR):List Nat:=lG s.ts.length (lN s.ps)
def EY(t:Tk)(f:Fc):Bool:=decide (t.kind=8) && decide (t.id=f.un) && decide (t.side=f.side)
def oV(s:nR)(T:List Nat)(i:Nat)(f:Fc)(k:Nat):Bool:=match s.ts[k]? with
 |some t=>EY t f && iK T i k
 |none=>false
def xX(s:nR)(T:List Nat)(i:Nat)(f:Fc):Bool:=decide (f∈s.y.rc) ||(List.range s.ts.length).any (oV s T i f)
def yx(s:nR)(i:Nat)(f:Fc):List Ls:=(List.range s.qs.length).filterMap λq=>match s.qs[q]? with
 |some x=>if f∈x.mS then some ⟨i,f,q⟩else none
 |none=>none
def pj(sf:List Fc->List Fc)(s:nR)(T:List Nat)(i:Nat):List Ls:=match s.ts[i]? with
 |some t=>(me sf s.y.us t).flatMap λf=>if xX s T i f=true then []else yx s i f
 |none=> []
def eB(sf:List Fc->List Fc)(s:nR):List Ls:=(List.range s.ts.length).flatMap (pj sf s (wV s))
theorem Ay{sf:List Fc->List Fc}{s:nR}{x:Ls}(h:x∈eB sf s):∃(i q:Nat) (t:Tk) (y:Qn),x.task=i/\x.q=q/\s.ts[i]?=some t/\s.qs[q]?=some y/\x.f∈me sf s.y.us t/\x.f∈y.mS/\x.f∉s.y.rc/\
  ∀(k:Nat) (u:Tk),s.ts[k]?=some u->iK (wV s) i k->EY u x.f=false:=by
 unfold eB at h;obtain⟨i, -,h⟩:=adl.1 h;unfold pj at h;split at h
 ·rename_i t ht;have⟨f,hf,h⟩:=adl.1 h;split at h;·cases h
  rename_i hs;unfold yx at h;obtain⟨q, -,h⟩:=ac9.1 h;split at h
  ·rename_i y hy;split at h
   ·rename_i hn
    cases h
    unfold xX at hs
    rw[acA,abm,ab8]at hs
    refine⟨i,q,t,y,rfl,rfl,ht,hy,hf,hn,λhr=>hs (.inl hr),λk u hu hb=>?_⟩
    cases hc:EY u f with
    |false=>rfl
    |true=>
     refine absurd (.inr ⟨k,acR.2 (aa0.1 hu).1,?_⟩) hs
     unfold oV
     grind
   cases h
  cases h
 cases h
end
section
variable {X:aM} {m:M}
theorem mN(hX:cy X){c n:Int}(hc:ka c)(hn:0 < n):C X (.func 30) [aev c,aev n] m m.n (aev (dO c n)) m:=by refine Cl.fG hX (aaU func30) ?_;rw[F30];dsimp only[η,ο,χ];simp only[jn,aE];exact mM hc hn (P:=λv=>bz [v]=aev (dO c n)/\m.n<=m.n) ⟨rfl,aaV _⟩
theorem Eo(hX:cy X)(a b:Fc):C X (.func 74) [a.v,b.v] m m.n (.bool (decide (fa a b))) m:=by
 refine Cl.fG hX (aaU func74) ?_;rw[F74];dsimp only[δ,ε,η,ρ,υ];refine aw λm1 i0 d0 j0=>?_;refine aw λm2 k0 e0 g0=>?_;have g1:m2.get m.n=.cells a.c 53 none:=by rw[g0 _ (by omega)];exact d0
 have g2:m2.get m1.n=.cells b.c 53 none:=e0;obtain⟨a0,a1, -⟩:=oC g1;obtain⟨b0,b1, -⟩:=oC g2;unfold ptrTo;simp only[cT,dm,ae];refine bA (λvs mm lo=>vs=[.bool (decide (fa a b))]/\m.n<=lo/\m2=mm) (λQ hQ=>?_) ?_
 ·rw[a0,ae,b0,ae,aQ,ae,ak];refine av (λc=>hQ _ _ _ ⟨?_,aaV _,rfl⟩) (λc=>?_);·rw[abb (show fa a b from .inl (aa1 c))]
  have c:=aaZ c;rw[ae,ae,aW,ae,ak];refine av (λc1=>?_) (λc1=>hQ _ _ _ ⟨?_,aaV _,rfl⟩)
  ·have c1:=aa1 c1
   rw[a1,ae,b1,ae,aQ,ae]
   refine hQ _ _ _ ⟨?_,aaV _,rfl⟩
   congr 2
   apply decide_eq_decide.2
   unfold fa
   omega
  have c1:=aaZ c1;rw[abt (by unfold fa;omega)]
 rintro _ mm lo ⟨rfl,h0,rfl⟩;rw[aE];exact⟨rfl,h0⟩
theorem NJ(hX:cy X){l:List Fc}{v:aes}(h:Sl m l v)(hl:l.length < 1000000)(f:Fc):C X (.func 10) [v,f.v] m m.n (.bool (decide (f∈l))) m:=by
 refine Cl.fG hX (aaU func10) ?_;rw[F10];dsimp only[δ,ζ,η,κ,ρ,υ,χ];refine aw λm1 j0 e0 g0=>?_;have g1:m1.get m.n=.cells f.c 53 none:=e0;have h1:=h.aG (m':=m1) ⟨by omega,g0⟩;unfold ptrTo;refine Lp.intro (γ:=Nat) (λi=>l.length-i) (λi vs mm lo=>∃z,vs=[z,aev i]/\i<=l.length/\m1=mm/\m.n<=lo/\f∉l.take i) 0 ⟨_,rfl,aa6 _,rfl,aaV _,by simp⟩ ?_;rintro i vs mm lo ⟨z,rfl,hi,rfl,a0,b0⟩;rw[aE,aE,h1.len dZ,aA,aQ,ae,ak];refine av (λd0=>?_) (λh0=>?_)
 ·have d0:i < l.length:=by grind
  obtain⟨x,hx⟩:∃x,l[i]?=some x:=⟨_,aaW d0⟩
  have⟨p,e1,e2⟩:=sX h1 hx;rw[e1,ae,e2,ae,(oC g1).2.2,ae,HK,ae,ak];refine av (λc=>⟨?_,a0⟩) (λc=>?_)
  ·have c:=aa1 c;subst c;rw[abb (aa2 hx)];rfl
  rw[aS,ae,wrap64];refine⟨i+1,by omega,z,rfl,by omega,rfl,a0,?_⟩;rw[abg,hx];simp only[ab3,abp,abr,not_or];exact⟨b0,λe=>aaZ c e.symm⟩
 have i0:i=l.length:=by have:¬(i:Int)< (l.length:Int):=aaZ h0;omega
 subst i0;rw[abD]at b0;exact⟨by rw[abt b0];rfl,a0⟩
def uh(us:List Un)(t:Tk):Bool:=if t.kind=9 then(cf us t.id).isSome && (cf us t.other).isSome else(cf us t.id).isSome ||(!decide (t.kind=4) && !decide (t.kind=5))
theorem KD.is{us:List Un}{id:Int}{m':M}{u:Un}{w:aes}{b:Bool}(h:KD us id m' u w b):(cf us id).isSome=b:=by rw[h.eq];cases b <;>rfl
theorem Ds(hX:cy X){y:Yd}{r r2 st rc mo:aes}{t:Tk}{w:aes}(hV:lM m y r r2 st rc mo)(hP:oL y)(hw:one w):
  C X (.func 28) [yv r r2 st rc mo,t.v w] m m.n (.bool (uh y.us t)) m:=by
 refine Cl.fG hX (aaU func28) ?_;have⟨⟨l,d0,hF⟩,g0,⟨kl,I0,hK⟩,J0,K0⟩:=hV;have h0:cx (bR l):=by rw[d0];exact hP.qk
 have y0:l.length<=12:=by have:=hP.qk.len;rwa[<-d0,cI]at this
 rw[F28];dsimp only[δ,ε,η,ι,ξ,ρ,ς,υ,χ,ψ,Δ];refine aw λm1 L0 o0 N0=>?_;refine aw λm2 O0 p0 q0=>?_;have i0:Ext m m2:=⟨by omega,by grind⟩
 have g1:m2.get m.n=.cells (yc r r2 st rc mo) 38 none:=by rw[q0 _ (by omega)];exact o0
 have g2:m2.get m1.n=.cells (t.c w) 62 none:=p0;unfold ptrTo;simp only[cH,cC,cp,cK,ae];rw[(dP g1).1,ae,(lQ g2).2.1,ae];obtain⟨rv,m8,c8,x8,f8⟩:=iX (m:=m2) hX (hF.aG i0) (by omega) g0.one t.id;refine aH c8 ?_;obtain⟨u,wu,b,rfl,fu⟩:=f8.PF h0;have n8:=x8.n;rw[aJ,aJ];simp only[aaY,aaX,ae];refine aw λm12 z0 j0 r0=>?_;refine aD df j0 rfl rfl (Un.cM fu.sl.one) λm13 A0 B0 C0=>?_;have a0:Ext m2 m13:=x8.trans ⟨by omega,by grind⟩;have n13:=a0.n;rw[(dP (a0.cells g1)).1,ae,(lQ (a0.cells g2)).2.2.1,ae];obtain⟨rv,m20,s0,k0,f20⟩:=iX (m:=m13) hX (hF.aG (i0.trans a0)) (by omega) g0.one t.other;refine aH s0 ?_;obtain⟨u2,P0,b2,rfl,l0⟩:=f20.PF h0;have n20:=k0.n;rw[aJ,aJ];simp only[aaY,aaX,ae];refine aw λm24 D0 n0 E0=>?_
 refine aD df n0 rfl rfl (Un.cM l0.sl.one) λu0 F0 G0 H0=>?_;have v0:Ext m2 u0:=a0.trans (k0.trans ⟨by omega,by grind⟩);have i1:=fu.is;have i2:=l0.is;rw[d0]at i1 i2;have b0:uh y.us t=if t.kind=9 then b && b2 else b ||(!decide (t.kind=4) && !decide (t.kind=5)):=by unfold uh;rw[i1,i2]
 rw[(lQ (v0.cells g2)).1,ae,aW,ae,ak];refine av (λc=>?_) (λc=>?_)
 ·have c:=aa1 c;rw[aa5 c]at b0;refine bA (λvs mm lo=>vs=[.bool (b && b2)]/\m.n<=lo) (λQ hQ=>?_) ?_
  ·rw[ak];exact av (λc=>hQ _ _ _ ⟨by grind,by omega⟩) (λc=>hQ _ _ _ ⟨by grind,by omega⟩)
  rintro _ mm lo ⟨rfl,e0⟩;rw[aE];exact⟨by rw[b0];rfl,e0⟩
 have c:=aaZ c;rw[aa4 c]at b0;refine bA (λvs mm lo=>vs=[.bool (b ||(!decide (t.kind=4) && !decide (t.kind=5)))]/\m.n<=lo) (λQ hQ=>?_) ?_
 ·rw[ak];refine av (λc=>hQ _ _ _ ⟨by grind,by omega⟩) (λc=>?_);rw[ae,bZ,ae,ak];refine av (λc1=>?_) (λc1=>hQ _ _ _ ⟨by grind,by omega⟩);rw[ae,bZ,ae];exact hQ _ _ _ ⟨by grind,by omega⟩
 rintro _ mm lo ⟨rfl,e0⟩;rw[aE];exact⟨by rw[b0];rfl,e0⟩
end
section
variable {X:aM} {m:M}
section
variable {α:Type} [aZ α] {T t:TypeId}
theorem S9(hA:rH TE T α)(hT:oO TE T t α)(i0:aZ.dd α=[]){n1:Nat}{l:List α}{v:aes}(h:Ow n1 m l v)(hn:n1<=m.n)(A0:l.length < 1000000){k:Nat}(hk:k<=l.length){x:α}{xv:aes}{cs:aet}
  (d0:aI TE m T 1 [(0,xv)]=some (aer m.n 0 1 1,m.push (.cells cs (aZ.ty α) none))) (hr:∀m',aZ.rep m' x cs)
  (z1:slice? TE m T aew none (some (.int .i64 (0:Nat))) (some (.int .i64 (0:Nat)))=some aew) (z2:∀m',slice? TE m' T aew (some (aev (0:Nat))) none none=some aew):
  ∃v1 m1 v2 v3 m2 v4 m3,slice? TE m T v none (some (aev k)) (some (aev k))=some v1/\aI TE m T 1 [(0,xv)]=some (aer m.n 0 1 1,m1)/\Ext m m1/\slice? TE m1 T v (some (aev k)) none none=some v2/\
   az TE (m1.wl m1.n) .append [T,T] [aer m.n 0 1 1,v2]=some (v3,m2)/\m1.n<=m2.low/\az TE (m2.wl m2.n) .append [T,T] [v1,v3]=some (v4,m3)/\Ow n1 m3 (l.take k++x::l.drop k) v4/\m.n<=m3.n/\n1<=m3.low/\∀c,c < n1->m3.get c=m.get c:=by
 obtain⟨m1,e0⟩:∃y,y=m.push (.cells cs (aZ.ty α) none):=⟨_,rfl⟩
 rw[<-e0]at d0;have a0:Ext m m1:=e0 ▸ Ext.refl.push;have B0:m1.n=m.n+1:=by rw[e0];rfl
 have j0:m1.get m.n=.cells cs (aZ.ty α) none:=by rw[e0];exact M.aY
 have b0:Ap m1.n m1 [x] (aer m.n 0 1 1):=.inr ⟨m.n,cs,_,rfl,j0,gH j0 (hr _)⟩;have⟨ti,te,t1,⟨e,t2⟩,t3,t4⟩:=id hT;have C0:(l.drop k).length=l.length-k:=acq;rcases h with⟨rfl,rfl⟩ |⟨b,q0,rfl,k0,r0,hb,l0,s0⟩
 ·obtain rfl:k=0:=by grind
  obtain⟨v3,m2,e3,w3,n3,l3,f3⟩:=b0.wY hA i0 (y:=aew) (ys:=[]) .nil (aaV _) (by simp)
  obtain⟨v4,m3,e4,w4,f4,l4, -⟩:=(Ow.nil (α:=α) (n1:=n1) (m:=m2)).append hA (by grind) w3.sl (by omega) (by simp)
  refine⟨_,m1,_,v3,m2,v4,m3,z1,d0,a0,z2 m1,e3,l3,e4,?_,by have:=f4.n;omega,l4,λc hc=>by rw[f4.get c hc,f3 c (by omega),a0.get c (by omega)]⟩
  grind
 have n0:m1.get b=_:=a0.cells hb;have hlen:=l0;have D0:=M.bk hb;have s1:=IW (E:=TE) (n:=l.length) (i:=k) t1 t2 t3 aZ.pos hb hk;obtain⟨a',s2,u0⟩:=jr (E:=TE) (o:=0) (n:=l.length) (c:=l.length) (j:=k) t1 t2 (by rw[t3];exact aZ.pos) n0 (.inr (by rw[t3])) (aaV _) hk;have g0:Ow n1 m l (aer b 0 l.length l.length):=.inr ⟨b,q0,rfl,k0,r0,hb,l0,s0⟩
 have o0:∃v3 m2,az TE (m1.wl m1.n) .append [T,T] [aer m.n 0 1 1,.slice (some a') (l.length-k) (l.length-k)]=some (v3,m2)/\Sl m2 (x::l.drop k) v3/\m1.n<=m2.low/\m1.n<=m2.n/\∀c,c < m1.n->m2.get c=m1.get c:=by
  by_cases h0:k < l.length
  ·have hy:Sl m1 (l.drop k) (.slice (some a') (l.length-k) (l.length-k)):=by rw[u0 h0,t3];have:=(g0.aG a0).sl.part (i:=k) (k:=l.length-k) (c':=l.length-k) (by omega);rwa[abk (by omega)]at this
   obtain⟨v3,m2,e3,w3,n3,l3,f3⟩:=b0.wY hA i0 hy (aaV _) (by grind);exact⟨v3,m2,e3,w3.sl,l3,n3,f3⟩
  obtain rfl:k=l.length:=by omega
  rw[aeo];refine⟨_,m1.wl m1.n,append_nil hA (aaV _) (by decide) (.inl ⟨_,_,rfl⟩),?_,aaV _,aaV _,λ_ _=>rfl⟩;rw[adm];exact b0.sl.aG Ext.refl.wl
 have⟨v3,m2,e3,w3,l3,n3,f3⟩:=o0;have v0:m2.get b=_:=(f3 b (by omega)).trans n0;have x2:Ext m m2:=a0.trans ⟨n3,f3⟩;by_cases h0:k < l.length
 ·have y0:(l.take k).length=k:=by grind
  have p0:Sl m2 (l.take k) (aer b 0 (l.take k).length k):=by
   have:=(g0.aG x2).sl.part (i:=0) (k:=k) (c':=k) (by omega)
   grind
  obtain⟨v4,m3,e4,w4,x4,l4⟩:=vP hA v0 (.inr ⟨rfl,by rw[hlen,abA];exact Nat.mul_lt_mul_of_pos_right h0 aZ.pos⟩) p0 w3 (by grind) (by grind);rw[y0]at e4;have n2:=x2.n;have n4:=x4.n;refine⟨_,m1,_,v3,m2,v4,m3,s1,d0,a0,s2,e3,l3,e4,?_,by omega,by omega,λc hc=>by rw[x4.get c (by omega),x2.get c (by omega)]⟩;rcases w4 with h |⟨b',z0,h1,h2,h3,h4⟩
  ·simp_all
  exact .inr ⟨b',z0,h1,h2,by omega,h4⟩
 ·obtain rfl:k=l.length:=by omega
  obtain⟨v4,m3,e4,w4,f4,l4, -⟩:=(g0.aG x2).append hA (by grind) w3 (by grind) (by grind)
  refine⟨_,m1,_,v3,m2,v4,m3,s1,d0,a0,s2,e3,l3,e4,?_,by have:=f4.n;have:=x2.n;omega,l4,λc hc=>by rw[f4.get c hc,x2.get c (by omega)]⟩
  grind
end
structure Yw(q:Qn):Prop where
 id:0<=q.id/\q.id<=99
 len:q.mS.length<=4
 ok:∀f∈q.mS,(0<=f.un/\f.un<=99)/\ -2<=f.side/\f.side<=7
 uS:q.mS.Pairwise fa
structure QW where
 q:Qn
 w:aes
abbrev QW.c(x:QW):aet:=[.int .i64 x.q.id,x.w]
abbrev QW.v(x:QW):aes:=.agg (x.c).toArray
instance:aZ QW where
 ty:=79
 sz:=2
 agg:=true
 dd:=[]
 rep _ x cs:=cs=x.c/\one x.w=true
 pos:=by decide
 one:=by grind
 len:=by grind
 ee:=by rintro _ x _ ⟨rfl,h⟩;show(true && (one x.w && true))=true;rw[h];rfl
 bs:=by grind
theorem nj:oO TE 41 79 QW:=⟨ag.t41,ag.t79,by kernel_rfl,⟨_,rfl⟩,rfl,by kernel_rfl,rfl,rfl⟩
theorem Gu:rH TE 41 QW:=⟨ag.t41,ag.t79,by kernel_rfl,rfl,rfl,by kernel_rfl,by decide,rfl⟩
theorem Te{x:QW}:aI TE m 41 1 [(0,x.v)]=some (.slice (some ⟨m.n,0,none⟩) 1 1,m.push (.cells x.c 79 none)):=by kernel_rfl
def Pv(m:M)(l:List QW):Prop:=∀x∈l,Sl m x.q.mS x.w/\Yw x.q
theorem Pv.bs{l:List QW}{m':M}(h:Pv m l)(hk:∀c cs g,m.get c=.cells cs 53 g->m'.get c=.cells cs 53 g):Pv m' l:=λx hx=>
 ⟨(h x hx).1.bs λc cs t g hc ht=>by
  have ht:t=53:=by simpa[aZ.ty,aZ.dd]using ht
  subst ht
  exact hk c cs g hc,(h x hx).2⟩
theorem PC{b:Nat}{x:QW}{g:Option Nat}(h:m.get b=.cells x.c 79 g):ah TE m 3 (aeq b (0+0))=some (aev x.q.id)/\ah TE m 35 (aeq b (0+1))=some x.w/\ah TE m 79 (aeq b 0)=some x.v:=by
 refine⟨?_,?_,?_⟩;·rw[bO,aL h];rfl
 ·rw[sO,aL h];rfl
 rw[QD,aP (n:=2) h (by grind)];rfl
theorem YO{l:List I4}{v:aes}(h:oG m l v){i:Nat}{x:I4}(hx:l[i]?=some x):∃b o,an TE 23 v (aev i)=some (aeq b o)/\∀(j:Nat) (z:Int),j < 4->x.c'[j]?=some (aev z)->ah TE m 3 (aeq b (o+j))=some (aev z):=by
 have⟨p,cs,e1,e2,e3⟩:=h.index xQ (k:=.i64) hx;have d0:=(aa0.1 hx).1;rcases h with h |h
 ·have⟨b,o,bc,g,cs,f1,hb,hr,hle,hj⟩:=h.gM xQ (k:=.i64) hx;have hr:cs=x.c':=hr;subst hr;refine⟨b,o,f1,λj z a0 hz=>?_⟩;rw[bO,aL hb,hj j a0,hz]
 rcases h with⟨_,rfl⟩ |⟨b,o,c,bc,rfl,hb,b0⟩
 ·grind
 have⟨hle,hr⟩:=b0 i x hx;have hr:(bc.drop (o+i*4)).take 4=x.c':=hr
 have f1:an TE 23 (aer b o l.length c) (aev i)=some (aeq b (o+i*4)):=by
  have hc:0<=(i:Int)/\(i:Int)< (l.length:Int)/\0 < ag.t23.es:=⟨by omega,by omega,by decide⟩
  have hd:ag.t23.d=.slice 153:=rfl;simp only[an,Wy,hd];rw[aa5 hc,bw rfl];rfl
 refine⟨b,o+i*4,f1,λj z a0 hz=>?_⟩
 have h5:bc[o+i*4+j]?=some (aev z):=by
  grind
 rw[bO,uP hb h5 rfl]
theorem TB{x:I4}(hx:x.ok){k:Nat}(hk:k < 4):∃z,x.c'[k]?=some (aev z)/\ka z:=by
 have⟨h1,h2,h3,h4⟩:=hx;rcases(by omega:k=0\/k=1\/k=2\/k=3)with rfl |rfl |rfl |rfl;·exact⟨_,rfl,h1⟩
 ·exact⟨_,rfl,h2⟩
 ·exact⟨_,rfl,h3⟩
 exact⟨_,rfl,h4⟩
theorem RI{l:List Fc}{f:Fc}{k:Nat}(hs:l.Pairwise fa)(hn:f∉l)(h1:∀y∈l.take k,fa y f)(h2:∀y,l[k]?=some y->¬fa y f):(l.take k++f::l.drop k).Pairwise fa:=by
 have h3:∀y∈l.drop k,fa f y:=by
  by_cases a0:k < l.length
  ·rw[abR a0];have hk:=aaW a0;have e:fa f l[k]:=(BK (a:=f) (b:=l[k]) λe=>hn (by grind)).resolve_right (h2 _ hk);intro y hy;rcases abc.1 hy with rfl |hy;·exact e
   have b0:=hs.sublist (adU k l);rw[abR a0,ab4]at b0;exact kW _ _ _ e (b0.1 y hy)
  ·rw[acp (by omega)]
   grind
 rw[ab2,ab4];refine⟨hs.sublist (List.take_sublist k l),⟨h3,hs.sublist (adU k l)⟩,λy hy z hz=>?_⟩;rcases abc.1 hz with rfl |hz
 ·grind
 exact kW _ _ _ (h1 y hy) (h3 z hz)
theorem Yc{n:Int}:aK TE 79 [(0,aev n)]=some (QW.v ⟨⟨n,[]⟩,aew⟩):=Gg rfl
end
section
variable {X:aM} {m:M}
set_option maxHeartbeats 2000000 in
theorem yh(hX:cy X){l:List UW}{r vm:aes}(hF:cY m l r)(hP:cx (bR l)){xs:List I4}{vq:aes}(hq:oG m xs vq)(E1:∀x∈xs,x.ok)(hlen:xs.length < 9223372036854775808):
  ∃qs v m',C X (.func 29) [.agg #[r,vm],vq] m m.n v m'/\Ext m m'/\xA m' qs v/\Pv m' qs/\qs.length<=4/\qs.Pairwise λa b=>a.q.id < b.q.id:=by
 have j2:l.length<=12:=by have:=hP.len;rwa[cI]at this
 have key:=Cl.FJ (E:=TE) (X:=X) (f:=29) (args:=[.agg #[r,vm],vq]) (m:=m) (R:=λrv m' b=>b=m.n/\∃qs,Ext m m'/\xA m' qs rv/\Pv m' qs/\qs.length<=4/\qs.Pairwise λa b=>a.q.id < b.q.id) (hX.no _ rfl) (aaU func29) rfl ?_
 ·obtain⟨rv,m',b,hc,rfl,qs,h⟩:=key;exact⟨qs,rv,m',hc,h⟩
 have H:∀R:aet->M->Nat->Prop,(∀(qs:List QW) (v:aes) (m':M) (lo:Nat),m.n<=lo->Ext m m'->xA m' qs v->Pv m' qs->qs.length<=4->qs.Pairwise (λa b=>a.q.id < b.q.id)->R [v] m' lo)->dp TE (aO TE X) f29 [.agg #[r,vm],vq] m R:=by
  intro R hR;rw[F29];dsimp only[δ,ε,ζ,η,θ,ι,κ,ν,ρ,ς,υ,χ,ψ,Γ,Θ,ω];refine aw λm1 I2 F1 G1=>?_;have A0:Ext m m1:=⟨by omega,G1⟩
  have gs:m1.get m.n=.cells [r,vm] 33 none:=F1;unfold ptrTo;simp only[cd,bN,ll,cT,ae];refine Lp.intro (γ:=Nat) (λi=>4-i) (λi vs mm lo=>∃qs v,vs=[v,.int .i64 i]/\i<=4/\Ext m1 mm/\m.n<=lo/\Ow m1.n mm qs v/\Pv mm qs/\qs.length<=i/\(∀x∈qs,x.q.id < 10*i)/\qs.Pairwise λa b=>a.q.id < b.q.id) 0 ⟨[],_,rfl,by omega,.refl,aaV _,.nil,λx hx=>(by cases hx),by simp,λx hx=>(by cases hx),.nil⟩ ?_;rintro i vs mm lo ⟨qs,v,rfl,hi,j0,p0,I0,J0,J2,K0,L0⟩;have N0:oG mm xs vq:=(hq.aG A0).aG j0;have nm:=j0.n;rw[aE,aE];refine bA (λvs m' b0=>∃b:Bool,vs=[.bool b]/\mm=m'/\m.n<=b0/\(b=true->i < xs.length/\i < 4)) (λQ hQ=>?_) ?_
  ·rw[N0.len xQ,aA,aQ,ae,ak];refine av (λc=>?_) (λ_=>hQ _ _ _ ⟨_,rfl,rfl,p0,λh=>by cases h⟩);have c:(i:Int)< (xs.length:Int):=aa1 c;rw[aQ,ae];refine hQ _ _ _ ⟨_,rfl,rfl,p0,λh=>?_⟩;have:=aa1 h;omega
  rintro _ _ gh ⟨b,rfl,rfl,O0,hb⟩;rw[aE,ak];refine av (λc=>?_) (λ_=>hR _ _ _ _ O0 (A0.trans j0) I0.YD J0 (by omega) L0);have⟨H1,K2⟩:=hb c;obtain⟨x,hx⟩:∃x,xs[i]?=some x:=⟨_,aaW H1⟩
  have P0:=E1 x (aa2 hx);rw[gD,ae,wrap64,Yc,ae];refine aw λm21 m2 q0 S0=>?_;refine aD RX q0 rfl rfl rfl λm22 o2 r0 b1=>?_;have gq:m22.get mm.n=.cells (QW.c ⟨⟨10*(i:Int),[]⟩,aew⟩) 79 none:=r0;have I1:Ext mm m22:=⟨by omega,by grind⟩
  have c1:mm.n < m22.n:=by omega
  clear q0 S0 r0 b1;refine Lp.intro (γ:=Nat) (λk=>4-k) (λk vs m' lo=>∃(ns:List Fc) (w:aes),vs=[.int .i64 k]/\k<=4/\Ext mm m'/\m.n<=lo/\m'.get mm.n=.cells (QW.c ⟨⟨10*(i:Int),ns⟩,w⟩) 79 none/\Ow (mm.n+1) m' ns w/\ns.length<=k/\(∀f∈ns,(0<=f.un/\f.un<=99)/\ -2<=f.side/\f.side<=7)/\ns.Pairwise fa/\mm.n < m'.n) 0 ⟨[],_,rfl,by omega,I1,by omega,gq,.nil,by simp,λf hf=>(by cases hf),.nil,c1⟩ ?_;rintro k vs h0 L2 ⟨ns,w,rfl,hk,a0,u2,gq,B0,M2,i0,C0,y2⟩;rw[aE,aQ,ae,ak];refine av (λc=>?_) (λc=>?_)
  ·have D0:k < 4:=by grind
   have⟨z,hz,s0⟩:=TB P0 D0;have n26:=a0.n
   have el:∀{ma:M},Ext mm ma->∃b o,an TE 23 vq (.int .i64 i)=some (.pointer (some ⟨b,o,none⟩))/\an TE 153 (.pointer (some ⟨b,o,none⟩)) (.int .i64 k)=some (.pointer (some ⟨b,o+k,none⟩))/\ah TE ma 3 (.pointer (some ⟨b,o+k,none⟩))=some (.int .i64 z):=λhe=>by have⟨b,o,e1,e2⟩:=YO (N0.aG he) hx;exact⟨b,o,e1,NG D0,e2 k z D0 hz⟩
   refine bA (λvs m' b0=>∃(ns:List Fc) (w:aes),vs=[]/\Ext mm m'/\m.n<=b0/\m'.get mm.n=.cells (QW.c ⟨⟨10*(i:Int),ns⟩,w⟩) 79 none/\Ow (mm.n+1) m' ns w/\ns.length<=k+1/\(∀f∈ns,(0<=f.un/\f.un<=99)/\ -2<=f.side/\f.side<=7)/\ns.Pairwise fa/\mm.n < m'.n) (λQ hQ=>?_) ?_
   ·have⟨b,o,e1,e2,e3⟩:=el a0;have p1:=kQ (c:=z) (show(0:Int)< 100 by decide);rw[e1,ae,e2,ae,e3,ae];refine aH (mN hX s0 (by decide)) ⟨aaV _,?_⟩;rw[ae,e2,ae,e3,ae,kh (by decide),ae];have p2:=kQ (c:=IntKind.i64.wrap (z.tdiv 16)) (show(0:Int)< 6 by decide);refine aH (mN hX (mh _) (by decide)) ⟨aaV _,?_⟩;rw[dJ,ae,wrap64,rE,ae];obtain⟨f0,J1⟩:∃f:Fc,f=⟨dO z 100,dO (IntKind.i64.wrap (z.tdiv 16)) 6-2⟩:=⟨_,rfl⟩
    rw[<-J1];have l0:(0<=f0.un/\f0.un<=99)/\ -2<=f0.side/\f0.side<=7:=by grind
    refine aw λN2 z2 u0 i1=>?_;refine aD oQ u0 rfl rfl rfl λE0 A2 v0 j1=>?_;have gf:E0.get h0.n=.cells f0.c 53 none:=v0;have n0:Ext h0 E0:=⟨by omega,by grind⟩
    have k1:h0.n < E0.n:=by omega
    clear u0 i1 v0 j1;refine bA (λvs m' b0=>∃f:Fc,vs=[]/\Ext h0 m'/\m.n<=b0/\m'.get h0.n=.cells f.c 53 none/\((0<=f.un/\f.un<=99)/\ -2<=f.side/\f.side<=7)/\h0.n < m'.n) (λQ2 d0=>?_) ?_
    ·have l1:=(j0.trans (a0.trans n0)).cells gs;have hu:=(hF.aG (A0.trans (j0.trans (a0.trans n0)))).sl;rw[rT l1,ae,hu.len dt,aA,bX,ae,ak];refine av (λc=>?_) (λ_=>d0 _ _ _ ⟨f0,rfl,n0,by omega,gf,l0,k1⟩);have c:=aa1 c;have⟨b',o',d1,d2,d3⟩:=el (a0.trans n0);rw[e1]at d1;cases d1;rw[ae,ae,e2,ae,d3,ae,ae,hu.len dt,aA];obtain⟨j,hj,e⟩:=fQ (c:=z) (n:=l.length) (by omega);refine aH (mN hX s0 (by omega)) ⟨aaV _,?_⟩;rw[e];obtain⟨y,hy⟩:∃y,l[j]?=some y:=⟨_,aaW hj⟩
     have⟨pb,po,g1,g2,g3⟩:=rK hu hy;rw[g1,ae,g2,ae,g3,ae];have o1:=hP.id0 (u:=y.u) (abF.2 ⟨y,aa2 hy,rfl⟩);refine bY tG gf rfl (by show 0+0+1<=2;decide) rfl λO2 B2 r1 u1=>d0 _ _ _ ⟨⟨y.u.id,f0.side⟩,rfl,⟨by omega,λc hc=>by rw[u1 c (by omega),n0.get c hc]⟩,by omega,r1,⟨o1,l0.2⟩,by omega⟩
    rintro _ F0 P2 ⟨f,rfl,k0,C2,gf,w1,D2⟩;have e0:=k0.cells gq;have g0:=B0.aG k0;have T2:=k0.n;refine bA (λvs m' b0=>∃b:Bool,vs=[.bool b]/\F0=m'/\m.n<=b0/\(b=false->f∉ns)) (λQ2 d0=>?_) ?_
    ·rw[(PC e0).2.1,ae,(oC gf).2.2,ae];refine aH (NJ hX g0.sl (by omega) f) ?_;rw[ak];refine av (λ_=>d0 _ _ _ ⟨_,rfl,rfl,by omega,λh=>by cases h⟩) (λc=>?_);have c:=aaZ c;have⟨b',o',d1,d2,d3⟩:=el (a0.trans k0);rw[e1]at d1;cases d1;rw[ae,e2,ae,d3,ae,kh (by decide),ae];refine aH (mN hX (mh _) (by decide)) ?_;rw[aW,ae];exact d0 _ _ _ ⟨_,rfl,rfl,by omega,λ_=>c⟩
    rintro _ _ b3 ⟨b5,rfl,rfl,y0,K1⟩;rw[aE,ak];refine av (λ_=>hQ _ _ _ ⟨ns,w,rfl,a0.trans k0,y0,e0,g0,by omega,i0,C0,by omega⟩) (λc=>?_);have L1:=K1 c;refine Lp.intro (γ:=Nat) (λj=>ns.length-j) (λj vs m' lo=>vs=[.int .i64 j]/\j<=ns.length/\F0=m'/\m.n<=lo/\∀y∈ns.take j,fa y f) 0 ⟨rfl,aa6 _,rfl,y0,λy hy=>by cases hy⟩ ?_;rintro j _ _ c3 ⟨rfl,hj,rfl,y1,z1⟩;rw[aE];refine bA (λvs m' b0=>∃b:Bool,vs=[.bool b]/\F0=m'/\m.n<=b0/\(b=true->∃y,ns[j]?=some y/\fa y f)/\(b=false->∀y,ns[j]?=some y->¬fa y f)) (λQ2 d0=>?_) ?_
    ·rw[(PC e0).2.1,ae,g0.sl.len dZ,aA,aQ,ae,ak];refine av (λA1=>?_) (λN1=>?_)
     ·have A1:j < ns.length:=by grind
      obtain⟨y,hy⟩:∃y,ns[j]?=some y:=⟨_,aaW A1⟩
      have⟨p,g1,g2⟩:=sX g0.sl hy;rw[ae,g1,ae,g2,ae,(oC gf).2.2,ae];refine aH (Eo hX y f) ?_;refine d0 _ _ _ ⟨_,rfl,rfl,by omega,λc=>⟨y,hy,aa1 c⟩,λc z hz=>?_⟩;rw[hy]at hz;cases hz;exact aaZ c
     refine d0 _ _ _ ⟨false,rfl,rfl,y1,λc=>(by cases c),λ_ z hz=>?_⟩;have:¬(j:Int)< (ns.length:Int):=aaZ N1;have:=(aa0.1 hz).1;omega
    rintro _ _ i3 ⟨b7,rfl,rfl,B1,O1,P1⟩;rw[aE,ak];refine av (λc=>?_) (λc=>?_)
    ·have⟨y,hy,T1⟩:=O1 c;have:=(aa0.1 hy).1;rw[aS,ae,wrap64];refine⟨j+1,by omega,rfl,by omega,rfl,B1,λz hz=>?_⟩;rw[abg,hy]at hz;rcases abp.1 hz with hz |hz;·exact z1 z hz
     simp only[ab3,abr]at hz;rw[hz];exact T1
    obtain⟨v1,E2,v2,v3,F2,v4,C1,g1,g2,z0,g3,g4,g5,g6,w4,n4,l4,k4⟩:=S9 (x:=f) (k:=j) uV dZ rfl g0 (by omega) (by omega) hj wO (λ_=>rfl) (by kernel_rfl) (λ_=>by kernel_rfl);rw[(PC e0).2.1,ae,g1,ae,(oC gf).2.2,ae,g2,aA,(PC (z0.cells e0)).2.1,ae,g3,ae,g4,aA];refine⟨g5,?_⟩;rw[g6,aA];have G0:C1.get mm.n=.cells (QW.c ⟨⟨10*(i:Int),ns⟩,w⟩) 79 none:=by grind
    refine bY GN G0 (by rw[w4.sl.cells];rfl) (by rw[w4.sl.cells];show 0+1+1<=2;decide) (by rw[w4.sl.cells];simp[w4.sl.one]) λG2 b2 H0 o0=>?_;have n131:=z0.n;refine hQ _ _ _ ⟨ns.take j++f::ns.drop j,v4,rfl,⟨by omega,λc hc=>by rw[o0 c (by omega),k4 c (by omega),k0.get c (by omega),a0.get c hc]⟩,by omega,?_,w4.pk rfl λc h1 h2=>o0 c (by omega),?_,?_,RI C0 L1 z1 (P1 c),by omega⟩;·rw[H0,w4.sl.cells];rfl
    ·rw[abq,abe,abP,acq];omega
    intro y hy;rcases abp.1 hy with hy |hy;·exact i0 y (ado hy)
    rcases abc.1 hy with rfl |hy;·exact w1
    exact i0 y (adn hy)
   rintro _ m' b0 ⟨c2,w',rfl,a1,a2,a3,a4,a5,a6,a7,a8⟩;rw[aS,ae,wrap64];exact⟨k+1,by omega,c2,w',rfl,by omega,a1,a2,a3,a4,a5,a6,a7,a8⟩
  rw[(PC gq).2.2,ae];refine fP (T:=41) (x:=(⟨⟨10*(i:Int),ns⟩,w⟩:QW)) Gu rfl (I0.aG a0) (by grind) (by omega) Te (λ_=>⟨rfl,B0.sl.one⟩) λr' H2 w2 n2 k2 i2 l2=>?_;rw[aS,ae,wrap64];have n26:=a0.n
  have D1:Pv h0 (qs++ [⟨⟨10*(i:Int),ns⟩,w⟩]):=λy hy=>by
   rcases abp.1 hy with hy |hy;·exact J0.bs (λc cs g hc=>a0.cells hc) y hy
   rw[abr.1 hy];exact⟨B0.sl,by grind,by grind,i0,C0⟩
  refine⟨i+1,by omega,_,r',rfl,by omega,⟨by omega,λc hc=>by rw[k2 c hc,a0.get c (by omega),j0.get c hc]⟩,by omega,w2,D1.bs λc cs g hc=>?_,by grind,λy hy=>?_,?_⟩;·rw[i2 c (M.bk hc) (λj3 g' e=>by rw[hc]at e;cases e),hc]
  ·rcases abp.1 hy with hy |hy;·have:=K0 y hy;omega
   rw[abr.1 hy];show 10*(i:Int)< _;omega
  rw[ab2];refine⟨L0,List.pairwise_singleton _ _,λa ha b hb=>?_⟩;rw[abr.1 hb];exact K0 a ha
 refine H _ λqs v m' lo p0 hx h1 h2 h3 h4=>?_;show(bF v=true/\m.n<=lo/\(m.n=m.n/\∃qs,Ext m m/\xA m qs v/\Pv m qs/\qs.length<=4/\qs.Pairwise λa b=>a.q.id < b.q.id))\/((bF v=false\/lo < m.n)/\(min m.n lo=m.n/\∃qs,Ext m m'/\xA m' qs v/\Pv m' qs/\qs.length<=4/\qs.Pairwise λa b=>a.q.id < b.q.id));rcases h1 with⟨rfl,rfl⟩ |h1;·exact .inl ⟨rfl,p0,rfl,[],.refl,.inl ⟨rfl,rfl⟩,λx hx=>(by cases hx),by simp,.nil⟩
 refine .inr ⟨.inl ?_,by omega,qs,hx,.inr h1,h2,h3,h4⟩;obtain⟨-,b,o,c,bc,g,rfl, -⟩:=h1;rfl
end
section
variable {X:aM} {m:M}
abbrev Hb(p:Nat×Nat):aet:=[.int .i64 p.1,.int .i64 p.2]
instance:aZ (Nat×Nat) where
 ty:=69
 sz:=2
 agg:=true
 dd:=[]
 rep _ p cs:=cs=Hb p
 pos:=by decide
 one:=by grind
 len:=by grind
 ee:=by rintro _ _ _ rfl;rfl
 bs:=by grind
theorem Bp:oO TE 40 69 (Nat×Nat):=⟨ag.t40,ag.t69,by kernel_rfl,⟨_,rfl⟩,rfl,by kernel_rfl,rfl,rfl⟩
theorem Gv:rH TE 40 (Nat×Nat):=⟨ag.t40,ag.t69,by kernel_rfl,rfl,rfl,by kernel_rfl,by decide,rfl⟩
theorem M0{p:Nat×Nat}:aI TE m 40 1 [(0,.agg (Hb p).toArray)]=some (.slice (some ⟨m.n,0,none⟩) 1 1,m.push (.cells (Hb p) 69 none)):=by kernel_rfl
abbrev scc(r r2 st rc mo tv pv qv:aes):aet:=[r,r2,st,rc,mo,tv,pv,qv]
abbrev Ai(r r2 st rc mo tv pv qv:aes):aes:=.agg (scc r r2 st rc mo tv pv qv).toArray
structure EA(s:nR):Prop where
 y:oL s.y
 ts:∀t∈s.ts,dI t=true/\uh s.y.us t=true
 od:GD s.ts.length s.ps
 qs:∀q∈s.qs,Yw q
 ql:s.qs.length<=4
 uS:s.qs.Pairwise λa b=>a.id < b.id
theorem EA.tl{s:nR}(h:EA s):s.ts.length<=8:=h.od.le
structure Yo(s:nR):Prop extends EA s where
 tl6:s.ts.length<=6
 Yu:∀p∈s.ps,p.1 < p.2/\p.2 < s.ts.length
 YF:s.ps.length<=15
 rc9:s.y.rc.length<=9
structure zD(m:M)(s:nR)(r r2 st rc mo tv pv qv:aes):Prop where
 y:lM m s.y r r2 st rc mo
 ts:∃l:List TW,l.map TW.t=s.ts/\Sl m l tv/\CG m l
 ps:Sl m s.ps pv
 qs:∃l:List QW,l.map QW.q=s.qs/\Sl m l qv/\Pv m l
theorem zD.bs{s:nR}{r r2 st rc mo tv pv qv:aes}{m':M}(h:zD m s r r2 st rc mo tv pv qv)(hk:∀c cs t g,m.get c=.cells cs t g->t≠43->t≠38->m'.get c=.cells cs t g):zD m' s r r2 st rc mo tv pv qv:=by
 have⟨h1,⟨l,h2,h3,h4⟩,h5,⟨q,h6,h7,h8⟩⟩:=h
 refine⟨h1.bs λc cs t g hc ht=>hk c cs t g hc (by grind) (by grind),⟨l,h2,h3.bs λc cs t g hc ht=>hk c cs t g hc ?_ ?_,h4.bs λc cs g hc=>hk c cs _ g hc (by decide) (by decide)⟩,h5.bs λc cs t g hc ht=>hk c cs t g hc ?_ ?_,⟨q,h6,h7.bs λc cs t g hc ht=>hk c cs t g hc ?_ ?_,h8.bs λc cs g hc=>hk c cs _ g hc (by decide) (by decide)⟩⟩ <;>
  (simp only[aZ.ty,aZ.dd,abc,abn,or_false]at ht;subst ht;decide)
theorem zD.aG{s:nR}{r r2 st rc mo tv pv qv:aes}{m':M}(h:zD m s r r2 st rc mo tv pv qv)(hx:Ext m m'):zD m' s r r2 st rc mo tv pv qv:=h.bs λ_ _ _ _ hc _ _=>hx.cells hc
theorem zD.ee{s:nR}{r r2 st rc mo tv pv qv:aes}(h:zD m s r r2 st rc mo tv pv qv):(scc r r2 st rc mo tv pv qv).all one:=by have⟨h1,⟨l,h2,h3,h4⟩,h5,⟨q,h6,h7,h8⟩⟩:=h;have⟨⟨l',_,k2⟩,k3,⟨k,_,k5⟩,k6,k7⟩:=h1;show(one r && (one r2 && (one st && (one rc && (one mo && (one tv && (one pv && (one qv && true))))))))=true;rw[k2.sl.one,k3.one,k5.sl.one,k6.one,k7.one,h3.one,h5.one,h7.one];rfl
theorem zD.flat{s:nR}{r r2 st rc mo tv pv qv:aes}{m':M}(h:zD m' s r r2 st rc mo tv pv qv)(hf:D.bI r/\D.bI r2/\D.bI st/\D.bI rc/\D.bI mo/\D.bI tv/\D.bI pv/\D.bI qv)(m:M):zD m s r r2 st rc mo tv pv qv:=by have⟨h1,⟨l,h2,h3,h4⟩,h5,⟨q,h6,h7,h8⟩⟩:=h;have⟨f1,f2,f3,f4,f5,f6,f7,f8⟩:=hf;obtain⟨e1,rfl⟩:=fy h3 f6;obtain⟨e2,rfl⟩:=fy h5 f7;obtain⟨e3,rfl⟩:=fy h7 f8;subst e1 e3;exact⟨h1.flat ⟨f1,f2,f3,f4,f5⟩ m,⟨[],h2,.nil,λx hx=>(by cases hx)⟩,e2 ▸ .nil,⟨[],h6,.nil,λx hx=>(by cases hx)⟩⟩
section
variable {b:Nat} {r r2 st rc mo tv pv qv:aes} {g:Option Nat}
theorem rX(h:m.get b=.cells (scc r r2 st rc mo tv pv qv) 43 g):
  ah TE m 38 (aeq b (0+0))=some (yv r r2 st rc mo)/\ah TE m 39 (aeq b (0+5))=some tv/\ah TE m 40 (aeq b (0+6))=some pv/\ah TE m 41 (aeq b (0+7))=some qv/\
  ah TE m 43 (aeq b 0)=some (Ai r r2 st rc mo tv pv qv):=by
 refine⟨?_,?_,?_,?_,?_⟩;·rw[Hu,aP (n:=5) h (by grind)];rfl
 ·rw[QJ,aL h];rfl
 ·rw[Ht,aL h];rfl
 ·rw[QI,aL h];rfl
 rw[wR,aP (n:=8) h (by simp_all)];rfl
end
def SV:Nat->Nat
 |0=>0
 |i+1=>SV i+i
theorem SU{i:Nat}(h:i<=6):SV i<=15:=by
 match i,h with
 |0,_=>decide
 |1,_=>decide
 |2,_=>decide
 |3,_=>decide
 |4,_=>decide
 |5,_=>decide
 |6,_=>decide
theorem VW{r r2 st rc mo tv qv:aes}(h1:cells tv=[tv])(h2:cells qv=[qv]):aK TE 43 [(0,yv r r2 st rc mo),(1,tv),(3,qv)]=some (Ai r r2 st rc mo tv aew qv):=by rw[zj rfl (by grind) (by grind),h1,h2];rfl
end
section
variable {X:aM} {m:M}
structure Yn(m:M)(s:nR)(r r2 st rc mo tv pv qv:aes):Prop extends zD m s r r2 st rc mo tv pv qv where
 cap:∃l:List QW,xA m l qv
theorem rS{l:List QW}{v:aes}{m':M}(h:xA m l v)(hk:∀c cs t g,m.get c=.cells cs t g->t≠43->m'.get c=.cells cs t g):xA m' l v:=h.bs λc cs t g hc ht=>hk c cs t g hc (by simp only[aZ.ty,aZ.dd,abc,abn,or_false]at ht;subst ht;decide)
set_option maxHeartbeats 4000000 in
theorem Jp(hX:cy X){xs:List I6}{ks:List I4}{vb vk va:aes}(hv:ED m xs vb)(H3:∀x∈xs,x.ok)(hlen:xs.length < 9223372036854775808)(hk:oG m ks vk)(A2:∀x∈ks,x.ok)(K1:ks.length < 9223372036854775808)(I3:one va=true)
  {ws:List I6} {vw:aes} (hw:ED m ws vw) (p1:∀x∈ws,x.ok) (J3:ws.length < 9223372036854775808) {ps:List Int} {vp:aes} (hp:oG m ps vp) (B2:∀x∈ps,ka x) (K3:ps.length < 9223372036854775808)
  {qs:List I4} {vq:aes} (hq:oG m qs vq) (C2:∀x∈qs,x.ok) (L1:qs.length < 9223372036854775808):
  ∃s r r2 st rc mo tv pv qv m',C X (.func 7) [.agg #[vb,vk,va],vw,vp,vq] m m.n (Ai r r2 st rc mo tv pv qv) m'/\Ext m m'/\Yo s/\Yn m' s r r2 st rc mo tv pv qv:=by
 refine Cl.Tv hX (aaU func7) (R:=λrv m'=>∃s r r2 st rc mo tv pv qv,rv=Ai r r2 st rc mo tv pv qv/\Ext m m'/\Yo s/\Yn m' s r r2 st rc mo tv pv qv) ?_ λrv m' hc ⟨s,r,r2,st,rc,mo,tv,pv,qv,e,h⟩=>⟨s,r,r2,st,rc,mo,tv,pv,qv,m',e ▸ hc,h⟩
 have H:∀R:aet->M->Nat->Prop,(∀(s:nR) (r r2 st rc mo tv pv qv:aes) (m':M) (lo:Nat),m.n<=lo->Ext m m'->Yo s->Yn m' s r r2 st rc mo tv pv qv->R [Ai r r2 st rc mo tv pv qv] m' lo)->dp TE (aO TE X) Tryz.f7 [.agg #[vb,vk,va],vw,vp,vq] m R:=by
  intro R hR;rw[F7];dsimp only[aO];refine aw λm1 l5 D2 L3=>?_;refine aw λm2 m5 E2 F2=>?_;have O0:Ext m m2:=⟨by omega,by grind⟩
  have g1:m2.get m.n=.cells [vb,vk,va] 25 none:=by rw[F2 _ (by omega)];exact D2
  have gz:m2.get m1.n=.cells (scc aew aew aew aew aew aew aew aew) 43 none:=E2;clear D2 L3 E2 F2;unfold ptrTo;simp only[cH,iH,ae];have G2:=hw.aG O0;rw[show ah TE m2 25 (.pointer (some ⟨m.n,0,none⟩))=some (.agg #[vb,vk,va]) by rw[BN,aP (n:=3) g1 (by grind)];rfl,ae,G2.r.len np,aA,ke,aA];obtain⟨kr,n5⟩:∃kr:Nat,kr=min ws.length 3:=⟨_,rfl⟩
  rw[show min (ws.length:Int) 3=(kr:Int) by omega];obtain⟨v6,e6,s6,c6,o6⟩:=G2.to np (by kernel_rfl) (i:=kr) (by omega);rw[e6,ae];obtain⟨y,r,r2,st,rc,mo,l0,v0,m8,c8,x8,hyp,y0, -, -, -,H2⟩:=Jq (m:=m2) hX (hv.aG O0) H3 hlen (hk.aG O0) A2 K1 I3 s6.r (λx hx=>p1 x (ado hx)) (by grind);refine aH c8 ⟨aaV _,?_⟩;have n8:=x8.n;rw[aJ,aJ];simp only[aaY,aaX,ae];refine aw λm12 C4 r1 N1=>?_;refine aD gQ r1 rfl rfl y0.ee λm13 D4 u1 I2=>?_;have gY:m13.get m8.n=.cells (yc r r2 st rc mo) 38 none:=u1;have v1:Ext m8 m13:=⟨by omega,by grind⟩
  rw[(dP gY).2.2.2.2,ae];refine aw λm16 E4 w1 J2=>?_;refine aD gQ w1 rfl rfl y0.ee λm17 G4 y1 K2=>?_;have gN:m17.get m13.n=.cells (yc r r2 st rc mo) 38 none:=y1;have z0:Ext m13 m17:=⟨by omega,by grind⟩
  have n13:=v1.n;have n17:=z0.n;have o5:m8.n < m13.n:=by omega
  have H4:m13.n < m17.n:=by omega
  have z1:=v1.trans z0;have P0:=O0.trans x8;have O1:=y0.aG z1;have N3:=x8.cells gz;have O3:=hw.r.aG P0;clear r1 N1 u1 I2 w1 J2 y1 K2;refine Lp.intro (γ:=Nat) (λi=>9-i) (λi vs mm lo=>∃l v z,vs=[v,.int .i64 i]/\3<=i/\i<=9/\m.n<=lo/\Ext m8 mm/\m17.n<=mm.n/\mm.get m8.n=.cells (yc r r2 st rc mo) 38 none/\KB mm m13.n z/\Ow m17.n mm l v/\CG mm l/\(∀x∈l,uh y.us x.t=true)/\l.length+3<=i) 3 ⟨[],_,y,rfl,by omega,by omega,by omega,z1,aaV _,z0.cells gY,⟨hyp,_,_,_,_,_,gN,O1⟩,.nil,λx hx=>(by cases hx),λx hx=>(by cases hx),aaV _⟩ ?_;rintro i vs mm lo ⟨l,v,z,rfl,r5,hi,P1,e0,u5,gy,hz,A0,S0,L2,v5⟩;have M2:oG mm ws vw:=O3.aG e0;rw[aE,aE];refine bA (λvs m' g0=>∃b:Bool,vs=[.bool b]/\mm=m'/\m.n<=g0/\(b=true->i < ws.length/\i < 9)) (λQ hQ=>?_) ?_
  ·rw[M2.len np,aA,aQ,ae,ak]
   refine av (λc=>?_) (λ_=>hQ _ _ _ ⟨_,rfl,rfl,P1,λh=>by cases h⟩)
   have c:(i:Int)< (ws.length:Int):=aa1 c
   rw[aQ,ae]
   grind
  rintro _ _ gh ⟨b,rfl,rfl,J4,hb⟩;rw[aE,ak];refine av (λc=>?_) (λ_=>?_)
  ·have⟨c4,w5⟩:=hb c;refine bA (λvs m' g0=>∃l v z,vs=[v]/\m.n<=g0/\Ext m8 m'/\m17.n<=m'.n/\m'.get m8.n=.cells (yc r r2 st rc mo) 38 none/\KB m' m13.n z/\Ow m17.n m' l v/\CG m' l/\(∀x∈l,uh y.us x.t=true)/\l.length+3<=i+1) (λQ hQ=>?_) ?_
   ·have⟨T1,a1,a2,a3,a4,a5,c1,N2⟩:=id hz
    obtain⟨x,hx⟩:∃x,ws[i]?=some x:=⟨_,aaW c4⟩
    obtain⟨bb,o,f1,f2, -⟩:=NH M2 hx
    rw[(dP c1).2.2.2.2,ae,f1,ae,f2,ae]
    have⟨q0,q1,q2,q3,q4,q5⟩:=p1 x (aa2 hx)
    have⟨t,w,B0,d4,O2,hs,y5⟩:=Dr (m:=mm) hX N2 T1 q0 q1 q2 q3 q4 q5
    refine aH d4 ⟨aaV _,?_⟩
    have n50:=O2.n
    refine aw λz5 K4 A1 P2=>?_
    refine aD nT A1 rfl rfl (Tk.cM hs.one) λd1 L4 B1 T2=>?_
    have gt:d1.get B0.n=.cells (t.c w) 62 none:=B1
    have r0:Ext B0 d1:=⟨by omega,by grind⟩
    have A5:=r0.n
    have N4:B0.n < d1.n:=by omega
    have c2:=O2.trans r0
    clear A1 P2 B1 T2
    rw[(dP (c2.cells c1)).2.2.2.2,ae,fL gt,ae]
    obtain⟨rv,c3,e4,e1,f4⟩:=zY (m:=d1) (t:=t) hX (N2.aG c2) T1 (hs.aG r0) (by omega)
    refine aH e4 ?_
    have B5:=e1.n
    obtain⟨b1,b2,b3,b4,b5,k,rfl,ob,d3,g4⟩:=KM f4
    rw[aJ,aJ]
    simp only[aaY,aaX,ae]
    refine aw λC5 O4 C1 e3=>?_
    refine aD gQ C1 rfl rfl ob λu0 R4 D1 g3=>?_
    have gn:u0.get c3.n=.cells (yc b1 b2 b3 b4 b5) 38 none:=D1
    have k0:Ext c3 u0:=⟨by omega,λc hc=>by grind⟩
    have D5:=k0.n
    have b0:=c2.trans (e1.trans k0)
    clear C1 e3 D1 g3
    have E1:u0.get B0.n=.cells (t.c w) 62 none:=(e1.trans k0).cells gt
    refine bA (λvs m' g0=>∃b:Bool,vs=[.bool b]/\u0=m'/\m.n<=g0/\(b=true->k=0/\uh y.us t=true)) (λQ2 i1=>?_) ?_
    ·rw[aW,ae,ak]
     refine av (λc=>?_) (λ_=>i1 _ _ _ ⟨_,rfl,rfl,by omega,λh=>by cases h⟩)
     have c:k=0:=aa1 c
     rw[(dP (b0.cells gy)).2.2.2.2,ae,fL E1,ae]
     refine aH (Ds (m:=u0) (t:=t) hX (y0.aG (e0.trans b0)) hyp hs.one) ?_
     grind
    rintro _ _ E5 ⟨G5,rfl,rfl,h3,h4⟩
    rw[aE,ak]
    refine av (λc=>?_) (λ_=>hQ _ _ _ ⟨l,v,z,rfl,h3,e0.trans b0,by omega,b0.cells gy,hz.aG b0,A0.aG b0,S0.bs λc cs g hc=>b0.cells hc,L2,by omega⟩)
    obtain⟨rfl,W4⟩:=h4 c
    cases hD:vR z t with
    |none=>exact absurd (g4 hD) (by decide)
    |some z2=>
    obtain⟨-,j4⟩:=d3 z2 hD
    have C0:dI t=true:=by
     unfold vR at hD
     grind
    have i3:oL z2:=by unfold vR at hD;rw[aa5 C0]at hD;exact CV T1 C0 hD
    rw[(dP gn).2.2.2.2,ae]
    refine aD gQ (b0.cells c1) rfl rfl ob λi0 c5 j3 s0=>?_
    have d5:i0.get m13.n=.cells (yc b1 b2 b3 b4 b5) 38 none:=j3
    have j0:∀c cs t' g,u0.get c=.cells cs t' g->t'≠38->i0.get c=.cells cs t' g:=λc cs t' g hc ht=>by rw[s0 c (λe=>by subst e;rw[b0.cells c1]at hc;cases hc;exact ht rfl),hc]
    have l3:lM i0 z2 b1 b2 b3 b4 b5:=(j4.aG k0).bs λc cs t' g hc ht=>j0 c cs t' g hc (by grind)
    have d2:Ow m17.n i0 l v:=(A0.aG b0).pk rfl λc h1 h2=>s0 c (by omega)
    have e2:CG i0 l:=(S0.bs λc cs g hc=>b0.cells hc).bs λc cs g hc=>j0 c cs _ g hc (by decide)
    have m3:i0.get B0.n=.cells (t.c w) 62 none:=j0 _ _ _ _ E1 (by decide)
    rw[fL m3,ae]
    have e5:Sl i0 t.un.shape w:=(hs.aG (r0.trans (e1.trans k0))).bs λc cs t' g hc ht=>j0 c cs t' g hc (by
     have ht:t'=141:=by simpa[aZ.ty,aZ.dd]using ht
     grind)
    refine fP (T:=39) (x:=(⟨t,w⟩:TW)) Pf rfl d2 (by omega) (by omega) BE (λ_=>⟨rfl,hs.one⟩) λr' n3 w2 n2 k2 o3 l2=>?_
    have D0:∀c cs t' g,i0.get c=.cells cs t' g->t'≠62->n3.get c=.cells cs t' g:=λc cs t' g hc ht=>by rw[o3 c (M.bk hc) λH5 g' e=>by rw[hc]at e;cases e;exact ht rfl,hc]
    have r3:lM n3 z2 b1 b2 b3 b4 b5:=l3.bs λc cs t' g hc ht=>D0 c cs t' g hc (by grind)
    have k4:CG i0 (l++ [⟨t,w⟩]):=λx hx=>by
     rcases abp.1 hx with hx |hx;·exact e2 x hx
     ·grind
    refine hQ _ _ _ ⟨_,r',z2,rfl,by omega,⟨by grind,λc hc=>by rw[k2 c (by omega),s0 c (by omega),b0.get c (by omega),e0.get c hc]⟩,by omega,by rw[k2 _ (by omega),s0 _ (by omega)];exact b0.cells gy,⟨i3,_,_,_,_,_,by grind,r3⟩,w2,k4.bs λc cs g hc=>D0 c cs _ g hc (by decide),λx hx=>?_,by grind⟩
    grind
   rintro _ m' g0 ⟨l',v',z',rfl,a1,a2,a3,a4,a5,a6,a7,a8,a9⟩;rw[aE,aS,ae,wrap64];exact⟨i+1,by omega,l',v',z',rfl,by omega,by omega,a1,a2,a3,a4,a5,a6,a7,a8,by omega⟩
  have E0:=y0.aG e0;obtain⟨⟨ul,l4,hF⟩,I5, -⟩:=id E0;rw[(dP gy).2.2.2.2,ae,(dP gy).1,ae];have m4:cx (bR ul):=by rw[l4];exact hyp.qk
  have⟨j1,qv,a0,n4,n0,k1,u3,J5,o4⟩:=yh (m:=mm) (vm:=r2) hX hF m4 ((hq.aG P0).aG e0) C2 L1;refine aH n4 ⟨aaV _,?_⟩;have K5:=n0.n;rw[VW A0.sl.cells k1.sl.cells,ae]
  have g2:(scc r r2 st rc mo v aew qv).all one=true:=by have⟨⟨_,_,k2⟩,k3,⟨_,_,k5⟩,k6,k7⟩:=E0;show(one r && (one r2 && (one st && (one rc && (one mo && (one v && (true && (one qv && true))))))))=true;rw[k2.sl.one,k3.one,k5.sl.one,k6.one,k7.one,A0.sl.one,k1.sl.one];rfl
  refine aw λL5 f5 F1 v3=>?_;refine aD Mb F1 rfl rfl g2 λi2 g5 G1 w3=>?_;have gS:i2.get a0.n=.cells (scc r r2 st rc mo v aew qv) 43 none:=G1;have r4:Ext a0 i2:=⟨by omega,λc hc=>by grind⟩
  have y3:a0.n < i2.n:=by omega
  clear F1 v3 G1 w3;have N5:l.length<=6:=by omega
  have z3:oG a0 ps vp:=((hp.aG P0).aG e0).aG n0;have j2:=(A0.sl.aG n0)
  refine Lp.intro (γ:=Nat) (λi=>l.length-i) (λi vs ma lo=>∃(n:Nat) (pl:List (Nat×Nat)) (pv:aes),vs=[.int .i64 n,.int .i64 i]/\i<=l.length/\n=SV i/\m.n<=lo/\Ext a0 ma/\ma.get a0.n=.cells (scc r r2 st rc mo v pv qv) 43 none/\Ow (a0.n+1) ma pl pv/\(∀p∈pl,p.1 < p.2/\p.2 < l.length)/\pl.length<=n/\a0.n < ma.n) 0 ⟨0,[],_,rfl,by omega,rfl,by omega,r4,gS,.nil,λp hp=>(by cases hp),aaV _,y3⟩ ?_;rintro i' vs ma O5 ⟨n,pl,pv,rfl,d6,hn,A3,d0,gS,o0,F0,l1,H1⟩;have o2:=j2.aG d0;rw[aE,aE,o2.len iy,aA,aQ,ae,ak];have h5:=SU (show i'<=6 by omega);refine av (λc=>?_) (λc=>?_)
  ·have i5:i' < l.length:=by grind
   refine Lp.intro (γ:=Nat) (λk=>i'-k) (λk vs mb lo=>∃(n:Nat) (pl:List (Nat×Nat)) (pv:aes),vs=[.int .i64 n,.int .i64 k]/\k<=i'/\n=SV i'+k/\m.n<=lo/\Ext a0 mb/\mb.get a0.n=.cells (scc r r2 st rc mo v pv qv) 43 none/\Ow (a0.n+1) mb pl pv/\(∀p∈pl,p.1 < p.2/\p.2 < l.length)/\pl.length<=n/\a0.n < mb.n) 0 ⟨n,pl,pv,rfl,by omega,by omega,A3,d0,gS,o0,F0,l1,H1⟩ ?_;clear o2 gS o0 F0 l1 d0 H1;rintro k vs mb f6 ⟨n',pl,pv,rfl,g6,u4,I1,o1,gS,o0,F0,l1,J1⟩;have B3:=z3.aG o1;rw[aE,aE,aQ,ae,ak];refine av (λc=>?_) (λc=>?_)
   ·have h6:k < i':=by grind
    refine bA (λvs mc g0=>∃(pl:List (Nat×Nat)) (pv:aes),vs=[]/\m.n<=g0/\Ext a0 mc/\mc.get a0.n=.cells (scc r r2 st rc mo v pv qv) 43 none/\Ow (a0.n+1) mc pl pv/\(∀p∈pl,p.1 < p.2/\p.2 < l.length)/\pl.length<=n'+1/\a0.n < mc.n) (λQ hQ=>?_) ?_
    ·refine bA (λvs mc g0=>∃b:Bool,vs=[.bool b]/\mb=mc/\m.n<=g0) (λQ2 i1=>?_) ?_
     ·rw[B3.len je,aA,aQ,ae,ak];refine av (λc=>?_) (λ_=>i1 _ _ _ ⟨_,rfl,rfl,I1⟩);have c:(n':Int)< (ps.length:Int):=aa1 c;obtain⟨x,hx⟩:∃x,ps[n']?=some x:=⟨_,qz⟩
      have⟨p,cs,f1,f2,f3⟩:=B3.index je (k:=.i64) hx;obtain rfl:cs=[.int .i64 x]:=f3;have f2:ah TE mb 3 p=some (.int .i64 x):=f2;rw[f1,ae,f2,ae];refine aH (mN hX (B2 x (aa2 hx)) (by decide)) ?_;rw[aW,ae];exact i1 _ _ _ ⟨_,rfl,rfl,by grind⟩
     rintro _ _ v4 ⟨b6,rfl,rfl,C3⟩
     rw[aE,ak]
     refine av (λ_=>?_) (λ_=>hQ _ _ _ ⟨pl,pv,rfl,C3,o1,gS,o0,F0,by omega,J1⟩)
     rw[(rX gS).2.2.1,ae,show aK TE 69 [(0,.int .i64 k),(1,.int .i64 i')]=some (.agg (Hb (k,i')).toArray) by kernel_rfl,ae]
     refine fP (T:=40) (x:=((k,i'):Nat×Nat)) Gv rfl o0 (by omega) (by omega) M0 (λ_=>rfl) λr' D3 w2 n2 k2 o3 l2=>?_
     have w4:D3.get a0.n=.cells (scc r r2 st rc mo v pv qv) 43 none:=by grind
     refine bY RZ w4 (by rw[w2.sl.cells];rfl) (by rw[w2.sl.cells];show 0+6+1<=8;decide) (by rw[w2.sl.cells];simp[w2.sl.one]) λj5 y4 u2 G0=>?_
     refine hQ _ _ _ ⟨_,r',rfl,by omega,⟨by grind,λc hc=>by rw[G0 c (by omega),k2 c (by omega),o1.get c hc]⟩,by rw[u2,w2.sl.cells];rfl,w2.pk rfl λc h1 h2=>G0 c (by omega),λp hp=>?_,by grind,by omega⟩
     grind
    rintro _ mc v4 ⟨z4,p0,rfl,a1,a2,a3,a4,a5,a6,a7⟩;rw[aS,ae,wrap64,aS,ae,wrap64];exact⟨k+1,by omega,n'+1,z4,p0,rfl,by omega,by omega,a1,a2,a3,a4,a5,a6,a7⟩
   obtain rfl:k=i':=by
    grind
   rw[aS,ae,wrap64];exact⟨k+1,by omega,n',pl,pv,rfl,by omega,u4,I1,o1,gS,o0,F0,l1,J1⟩
  rw[(rX gS).2.2.2.2,ae];have xz:=d0;have A4:ma.get m1.n=.cells (scc aew aew aew aew aew aew aew aew) 43 none:=(e0.trans (n0.trans d0)).cells N3;have E3:zD ma ⟨y,l.map TW.t,pl,j1.map QW.q⟩ r r2 st rc mo v pv qv:=⟨E0.aG (n0.trans d0),⟨l,rfl,o2,S0.bs λc cs g hc=>(n0.trans d0).cells hc⟩,o0.sl,⟨j1,rfl,k1.sl.aG d0,u3.bs λc cs g hc=>d0.cells hc⟩⟩
  refine aD Mb A4 rfl rfl E3.ee λF3 B4 v2 y2=>?_;have G3:F3.get m1.n=.cells (scc r r2 st rc mo v pv qv) 43 none:=v2;rw[(rX G3).2.2.2.2,ae];have i6:=d0.n;have j6:=e0.n;refine hR ⟨y,l.map TW.t,pl,j1.map QW.q⟩ _ _ _ _ _ _ _ _ _ _ (by omega) ⟨by omega,λc hc=>by rw[y2 c (by omega),d0.get c (by omega),n0.get c (by omega),e0.get c (by omega),P0.get c hc]⟩ ⟨⟨hyp,λt ht=>?_,.of_lt (by grind) (by grind) (λp hp=>by grind),λq hq=>?_,by grind,?_⟩,by grind,λp hp=>by grind,by grind,H2⟩ ⟨E3.bs λc cs t g hc h1 h2=>by grind,j1,rS (k1.bs λc cs t g hc _=>d0.cells hc) λc cs t g hc ht=>by grind⟩
  ·obtain⟨x,hx,rfl⟩:=abF.1 ht;exact⟨(S0 x hx).2.2,L2 x hx⟩
  ·obtain⟨x,hx,rfl⟩:=abF.1 hq;exact(u3 x hx).2
  exact adi.2 o4
 refine H _ λs r r2 st rc mo tv pv qv m' lo P1 hx h1 h2=>?_;show(bF (Ai r r2 st rc mo tv pv qv)=true/\m.n<=lo/\(m.n=m.n/\∃s r' H0 I0 J0 K0 L0 p0 N0,Ai r r2 st rc mo tv pv qv=Ai r' H0 I0 J0 K0 L0 p0 N0/\Ext m m/\Yo s/\Yn m s r' H0 I0 J0 K0 L0 p0 N0))\/((bF (Ai r r2 st rc mo tv pv qv)=false\/lo < m.n)/\(min m.n lo=m.n/\∃s r' H0 I0 J0 K0 L0 p0 N0,Ai r r2 st rc mo tv pv qv=Ai r' H0 I0 J0 K0 L0 p0 N0/\Ext m m'/\Yo s/\Yn m' s r' H0 I0 J0 K0 L0 p0 N0));cases hf:bF (Ai r r2 st rc mo tv pv qv);·exact .inr ⟨.inl rfl,by omega,s,r,r2,st,rc,mo,tv,pv,qv,rfl,hx,h1,h2⟩
 have h0:(D.bI r && (D.bI r2 && (D.bI st && (D.bI rc && (D.bI mo && (D.bI tv && (D.bI pv && (D.bI qv && true))))))))=true:=hf;simp only[aa3]at h0;exact .inl ⟨rfl,P1,rfl,s,r,r2,st,rc,mo,tv,pv,qv,rfl,.refl,h1,⟨h2.tozD.flat ⟨h0.1,h0.2.1,h0.2.2.1,h0.2.2.2.1,h0.2.2.2.2.1,h0.2.2.2.2.2.1,h0.2.2.2.2.2.2.1,h0.2.2.2.2.2.2.2.1⟩ m,[],.inl ⟨rfl,h2.cap.elim λ_ h=>(fy h.sl h0.2.2.2.2.2.2.2.1).2⟩⟩⟩
end
section
section
variable {X:aM}{x0 x1 x2:aes}{m:M}{R:aet->M->Nat->Prop}
theorem aav:dp TE (aO TE X) f112 [x0] m R=ρ m x0 75 λa=>jn (λb=>ε 75 (υ m) 0 λc=>δ a 3 c λc=>η .lss 3 c (χ 0) λc=>aU c (b [aex] a m.n) (ε 75 (υ m) 0 λc=>δ a 3 c λc=>η .gtr 3 c (χ 8) λc=>aU c (b [aex] a m.n) (ε 75 (υ m) 1 λc=>δ a 40 c λc=>κ a .len [40] [c] λc _=>η .gtr 3 c (χ 28) λc=>b [c] a m.n))) (λa b c=>un a λa _=>aU a (R [aey] b c) (ε 75 (υ m) 1 λa=>δ b 40 a λa=>ψ X 166 [a,.func (.func 167) #[] #[υ m]] b λa b d=>ο .not a λa=>R [a] b (min c d))):=by kernel_rfl
theorem Z0:dp TE (aO TE X) f167 [x0,x1] m R=ρ m x0 69 λa=>jn (λb=>ζ 69 (υ m) (χ 0) λc=>δ a 3 c λc=>ζ 69 (υ m) (χ 1) λd=>δ a 3 d λd=>κ a .min [3,3] [c,d] λc _=>η .lss 3 c (χ 0) λc=>aU c (b [aex] a m.n) (ζ 69 (υ m) (χ 0) λc=>δ a 3 c λc=>ζ 69 (υ m) (χ 1) λd=>δ a 3 d λd=>κ a .max [3,3] [c,d] λc _=>ε 75 x1 0 λd=>δ a 3 d λd=>η .geq 3 c d λc=>aU c (b [aex] a m.n) (ζ 69 (υ m) (χ 0) λc=>δ a 3 c λc=>ζ 69 (υ m) (χ 1) λd=>δ a 3 d λd=>η .eql 3 c d λc=>b [c] a m.n))) (λa b c=>un a λa _=>R [a] b c):=by kernel_rfl
theorem aau:dp TE (aO TE X) f113 [x0] m R=ρ m x0 75 λa=>ς a [χ 0,χ 0,χ 0,χ 0,χ 0,χ 0,χ 0,χ 0] 120 λb=>ς b [χ 0,χ 0,χ 0,χ 0,χ 0,χ 0,χ 0,χ 0] 120 λc=>ε 75 (υ m) 1 λd=>δ c 40 d λd=>κ c .len [40] [d] λf _=>Lp (λc g h i=>un g λg _=>η .lss 3 g f λf=>aU f (ζ 40 d g λa=>δ h 69 a λa=>ς h [χ 0,χ 0] 69 λd=>ι d 69 (υ h) a λa d=>ζ 69 (υ h) (χ 1) λf=>δ a 3 f λf=>ζ 120 (υ b) f λj=>δ a 3 j λj=>ζ 69 (υ h) (χ 0) λh=>δ a 3 h λh=>η .shl 3 (χ 1) h λh=>η .or 3 j h λh=>ζ 120 (υ b) f λb=>ι a 3 b h λa b=>η .add 3 g (χ 1) λf=>c [f] a (ω i d b)) (ε 75 (υ m) 0 λc=>δ h 3 c λc=>Lp (λd f g h=>un f λf _=>η .lss 3 f c λc=>aU c (ε 75 (υ m) 0 λa=>δ g 3 a λa=>Lp (λc g h i=>un g λg _=>η .lss 3 g a λa=>aU a (jn (λa=>ζ 120 (υ b) g λc=>δ h 3 c λc=>η .shr 3 c f λc=>η .and 3 c (χ 1) λc=>η .eql 3 c (χ 1) λc=>aU c (ζ 120 (υ b) g λc=>δ h 3 c λc=>ζ 120 (υ b) f λd=>δ h 3 d λd=>η .or 3 c d λc=>ζ 120 (υ b) g λb=>ι h 3 b c λb c=>a [] b (min i c)) (a [] h i)) (λ_ a b=>η .add 3 g (χ 1) λd=>c [d] a b)) (η .add 3 f (χ 1) λa=>d [a] h i)) [χ 0] g h) (ε 75 (υ m) 0 λc=>δ g 3 c λc=>Lp (λd f g h=>un f λf i=>un i λi _=>η .lss 3 i c λc=>aU c (ζ 120 (υ b) i λc=>δ g 3 c λc=>η .shr 3 c i λc=>η .and 3 c (χ 1) λc=>η .eql 3 c (χ 1) λc=>aU c (δ g 120 (υ b) λb=>ι g 120 (υ a) b λb c=>aj (ah TE b 120 (υ a)) λa=>R [a,aey] b (min h c)) (η .add 3 i (χ 1) λa=>d [f,a] g h)) (δ g 120 (υ b) λb=>ι g 120 (υ a) b λb c=>aj (ah TE b 120 (υ a)) λa=>R [a,aex] b (min h c))) [aey,χ 0] g h)) [χ 0] h i)) [χ 0] c m.n:=by kernel_rfl
theorem F50:dp TE (aO TE X) f50 [x0] m R=ρ m x0 75 λa=>ς a [χ 0,χ 0,χ 0,χ 0,χ 0,χ 0,χ 0,χ 0] 120 λb=>δ b 75 (υ m) λc=>ψ X 112 [c] b λb c d=>ο .not b λb=>aU b (θ 120 [] λb=>ι c 120 (υ a) b λb c=>aj (ah TE b 120 (υ a)) λa=>R [a,aey] b (ω m.n d c)) (δ c 75 (υ m) λb=>ψ X 113 [b] c λb c f=>ξ b 0 λg=>ξ b 1 λb=>ι c 120 (υ a) g λc g=>aj (ah TE c 120 (υ a)) λa=>R [a,b] c (Γ m.n d f g)):=by kernel_rfl
theorem F53:dp TE (aO TE X) f53 [x0] m R=ρ m x0 75 λa=>δ a 75 (υ m) λb=>ψ X 50 [b] a λa b c=>ξ a 0 λd=>ξ a 1 λa=>ς b [χ 0,χ 0,χ 0,χ 0,χ 0,χ 0,χ 0,χ 0] 120 λf=>ι f 120 (υ b) d λb d=>R [a] b (ω m.n c d):=by kernel_rfl
theorem F49:dp TE (aO TE X) f49 [x0,x1,x2] m R=ρ m x0 75 λa=>δ a 75 (υ m) λb=>ψ X 50 [b] a λa b c=>ξ a 0 λd=>ξ a 1 λa=>ς b [χ 0,χ 0,χ 0,χ 0,χ 0,χ 0,χ 0,χ 0] 120 λf=>ι f 120 (υ b) d λd f=>jn (λg=>aU a (κ d .min [3,3] [x1,x2] λa _=>η .geq 3 a (χ 0) λa=>aU a (κ d .max [3,3] [x1,x2] λa _=>ε 75 (υ m) 0 λh=>δ d 3 h λh=>η .lss 3 a h λa=>aU a (ζ 120 (υ b) x2 λa=>δ d 3 a λa=>η .shr 3 a x1 λa=>η .and 3 a (χ 1) λa=>η .eql 3 a (χ 1) λa=>g [a] d (ω m.n c f)) (g [aey] d (ω m.n c f))) (g [aey] d (ω m.n c f))) (g [aey] d (ω m.n c f))) (λa b c=>un a λa _=>R [a] b c):=by kernel_rfl
theorem Z1:dp TE (aO TE X) f166 [x0,x1] m R=ψ X 216 [x0,x1] m λa b c=>η .geq 3 a (χ 0) λa=>R [a] b (min m.n c):=by kernel_rfl
end
end
section
variable {X:aM} {m:M}
theorem Ye{t:TypeId}{k:Nat}(hk:k < 9):aC TE .shl t (aev 1) (aev k)=some (aev ((2 ^ k:Nat):Int)):=by
 show(if(k:Int)< 0 then none else some (Value.int .i64 (IntKind.i64.wrap (1*2 ^ (min (k:Int).toNat 64)))))=_;rw[jz,Int.toNat_natCast,ada (by omega)];have h1:(1*2 ^ k:Int)=((2 ^ k:Nat):Int):=by grind
 have h2:2 ^ k<=2 ^ 8:=Nat.pow_le_pow_right (by decide) (by omega);rw[h1];generalize 2 ^ k=z at h2;rw[wrap64]
theorem Yf{t:TypeId}{a b:Nat}(ha:a < 256)(hb:b < 256):aC TE .or t (aev a) (aev b)=some (aev ((a |||b:Nat):Int)):=by
 have h:(BitVec.ofInt 64 (a:Int) |||BitVec.ofInt 64 (b:Int)).toNat=a |||b:=by
  grind
 have a0:a |||b < 256:=Nat.or_lt_two_pow (n:=8) ha hb
 show(if IntKind.i64=IntKind.i64 then some (Value.int .i64 (IntKind.i64.wrap ((BitVec.ofInt 64 (a:Int) |||BitVec.ofInt 64 (b:Int)).toNat:Int)))else none)=_;rw[aa5 rfl,h,wrap64]
theorem O9{t:TypeId}{a k:Nat}(hk:k < 64):aC TE .shr t (aev a) (aev k)=some (aev ((a/2 ^ k:Nat):Int)):=by
 show(if(k:Int)< 0 then none else some (Value.int .i64 ((a:Int).fdiv (2 ^ (min (k:Int).toNat 64)))))=_
 grind
theorem Gq{t:TypeId}{a:Nat}(ha:a < 256):aC TE .and t (aev a) (aev 1)=some (aev ((a%2:Nat):Int)):=by
 have h:(BitVec.ofInt 64 (a:Int) &&& BitVec.ofInt 64 1).toNat=a%2:=by
  grind
 show(if IntKind.i64=IntKind.i64 then some (Value.int .i64 (IntKind.i64.wrap ((BitVec.ofInt 64 (a:Int) &&& BitVec.ofInt 64 1).toNat:Int)))else none)=_;rw[aa5 rfl,h,wrap64]
theorem Cv{a k:Nat}:decide (((a/2 ^ k%2:Nat):Int)=1)=a.testBit k:=by
 grind
abbrev PE(n:Nat)(pv:aes):aes:=.agg #[.int .i64 n,pv]
theorem Jl{b:Nat}{n:Nat}{pv:aes}{g:Option Nat}(h:m.get b=.cells [aev n,pv] 75 g):ah TE m 3 (aeq b (0+0))=some (aev n)/\ah TE m 40 (aeq b (0+1))=some pv/\ah TE m 75 (aeq b 0)=some (PE n pv):=by
 refine⟨?_,?_,?_⟩;·rw[bO,aL h];rfl
 ·rw[Ht,aL h];rfl
 rw[QE,aP (n:=2) h (by grind)];rfl
theorem Q3{W:Words}{x0 x1:aes}{m:M}{R:aet->M->Nat->Prop}:dU TE W f216 [x0,x1] m R=zK 40 69 W x0 x1 m R:=by kernel_rfl
theorem ppf{b:Nat}{p:Nat×Nat}{g:Option Nat}(h:m.get b=.cells (Hb p) 69 g):ah TE m 3 (aeq b 0)=some (aev p.1)/\ah TE m 3 (aeq b (0+1))=some (aev p.2):=by
 refine⟨?_,?_⟩;·rw[bO,aL h];rfl
 rw[bO,aL h];rfl
theorem ND{b o:Nat}:an TE 69 (aeq b o) (aev 0)=some (aeq b o)/\an TE 69 (aeq b o) (aev 1)=some (aeq b (o+1)):=by constructor <;>kernel_rfl
theorem Fs(hX:cy X){n:Nat}{ps:List (Nat×Nat)}{pv:aes}(hO:GD n ps)(hp:Sl m ps pv):C X (.func 112) [PE n pv] m m.n aex m:=by
 refine Cl.fG hX (aaU func112) ?_;rw[aav];dsimp only[δ,ε,η,κ,ο,ρ,υ,χ,ψ];refine aw λm1 l0 e0 g0=>?_;have g1:m1.get m.n=.cells [aev n,pv] 75 none:=e0;have h0:Ext m m1:=⟨by omega,g0⟩
 have a0:=hp.aG h0;have hle:=hO.le;have hlen:=hO.len;obtain⟨d0,d1, -⟩:=Jl g1;unfold ptrTo;simp only[iF,pC,ae];refine bA (λvs mm lo=>vs=[aey]/\m1=mm/\m.n<=lo) (λQ hQ=>?_) ?_
 ·rw[d0,ae,aQ,ae,ak,tg,aT,ae,bX,ae,ak,tg,aT,d1,ae,a0.len Bp,aA,bX,ae,tg];exact hQ _ _ _ ⟨rfl,rfl,aaV _⟩
 rintro _ _ lo ⟨rfl,rfl,n0⟩;rw[aE,ak,aT,d1,ae]
 have hc:C X (.func 166) [pv,.func (.func 167) #[] #[aeq m.n 0]] m1 m1.n aey m1:=by
  refine Cl.fG hX (aaU func166) ?_;rw[Z1];dsimp only[η,χ,ψ];refine aH (eL Bp (hX.no _ rfl) (aaU func216) rfl Q3 (λ_=>false) (by omega) a0 λp j0 cs hr=>?_) ?_
  ·have hr:cs=Hb p:=hr;subst hr;have⟨h1,h2⟩:=hO.ok p j0;refine Cl.sW (args:=[.agg (Hb p).toArray,aeq m.n 0]) (hX.no _ rfl) (aaU func167) rfl rfl ?_;rw[Z0];dsimp only[δ,ε,ζ,η,κ,ρ,υ,χ];refine aw λm2 o0 k0 p0=>?_;have g2:m2.get m1.n=.cells (Hb p) 69 none:=k0;have gO:m2.get m.n=.cells [aev n,pv] 75 none:=by grind
   have⟨q0,q1⟩:=ppf g2;have⟨i0,i1⟩:=ND (b:=m1.n) (o:=0);unfold ptrTo;refine bA (λvs mm lo=>vs=[aey]/\m2=mm/\m1.n<=lo) (λQ hQ=>?_) ?_
   ·rw[i0,ae,q0,ae,i1,ae,q1,ae,ke,aA,aQ,ae,ak,tg,aT];simp only[ae,q0,q1];rw[qe,aA,iF,ae,(Jl gO).1,ae,cO,ae,ak,tg,aT,aW,ae,tg];exact hQ _ _ _ ⟨rfl,rfl,aaV _⟩
   rintro _ _ gh ⟨rfl,rfl,b0⟩;rw[aE];exact⟨rfl,b0⟩
  rw[cO,ae,ia];refine⟨?_,by omega⟩;show Value.bool (ps.any λ_=>false)=_;rw[acP.2 λx _=>by decide]
 refine aH hc ?_;rw[bE,ae];exact⟨rfl,by omega⟩
end
section
variable {X:aM} {m:M}
abbrev xM(t:List Nat):aet:=t.map λx:Nat=>Value.int .i64 (x:Int)
abbrev Wz(t:List Nat):aes:=.agg (xM t).toArray
def B8(t:List Nat):Prop:=∀x∈t,x < 256
theorem B8.getD{t:List Nat}(h:B8 t)(i:Nat):t.getD i 0 < 256:=by
 rw[List.getD_eq_getElem?_getD]
 cases e:t[i]? with
 |none=>decide
 |some x=>exact h x (aa2 e)
theorem B8.set{t:List Nat}(h:B8 t){i v:Nat}(hv:v < 256):B8 (t.set i v):=λx hx=>by
 rcases List.mem_or_eq_of_mem_set hx with hx |rfl
 ·exact h x hx
 ·exact hv
theorem Y1:B8 oU:=by unfold B8 oU;decide
theorem Sb{a b:Nat}(ha:a < 256)(hb:b < 256):a |||b < 256:=Nat.or_lt_two_pow (n:=8) ha hb
theorem MR{k:Nat}(h:k < 8):2 ^ k < 256:=by
 have:2 ^ k < 2 ^ 8:=Nat.pow_lt_pow_right (by decide) h
 grind
theorem B8.pair{t:List Nat}(h:B8 t){p:Nat×Nat}(hp:p.1 < 8):B8 (nW t p):=h.set (Sb (h.getD _) (MR hp))
theorem B8.row{t:List Nat}(h:B8 t)(k b:Nat):B8 (sj k t b):=by
 unfold sj;split;·exact h.set (Sb (h.getD _) (h.getD _))
 exact h
theorem NF{b i:Nat}(hi:i < 8):an TE 120 (aeq b 0) (aev i)=some (aeq b i):=by rcases(by omega:i=0\/i=1\/i=2\/i=3\/i=4\/i=5\/i=6\/i=7)with rfl |rfl |rfl |rfl |rfl |rfl |rfl |rfl <;>kernel_rfl
theorem uB{T:Nat}{t:List Nat}{g:Option Nat}(h:m.get T=.cells (xM t) 120 g){i:Nat}(hi:i < t.length):ah TE m 3 (aeq T i)=some (aev (t.getD i 0:Nat)):=by
 rw[bO,aL h]
 grind
theorem Mj{T:Nat}{t:List Nat}(h:m.get T=.cells (xM t) 120 none){i v:Nat}(hi:i < t.length){P:M->Nat->Prop}
  (hP:∀m1,m1.n=m.n->m1.get T=.cells (xM (t.set i v)) 120 none->(∀c,c≠T->m1.get c=m.get c)->P m1 T):
  aR (aF TE m 3 (aeq T i) (aev (v:Int))) P:=by
 refine bY tG h rfl (by show i+1<=(xM t).length;rw[abK];omega) rfl λm1 hn hg hk=>hP m1 hn ?_ hk
 rw[hg]
 congr 1
 show(xM t).take i++(Value.int .i64 (v:Int)::(xM t).drop (i+1))=(t.set i v).map λx:Nat=>Value.int .i64 (x:Int)
 rw[List.map_set]
 exact kn (by grind)
theorem FA{T:Nat}{t:List Nat}{g:Option Nat}(h:m.get T=.cells (xM t) 120 g)(hl:t.length=8):ah TE m 120 (aeq T 0)=some (Wz t):=by rw[Np,aP (n:=8) h (by grind)];show some (Value.agg (((xM t).drop 0).take 8).toArray)=_;rw[abM,abk (by grind)]
theorem eF{t:List Nat}:cells (Wz t)=xM t:=rfl
theorem wF{t:List Nat}:(xM t).all one:=by rw[aby];intro x hx;obtain⟨y,_,rfl⟩:=abF.1 hx;rfl
def Gd(n:Nat)(ps:List (Nat×Nat)):List Nat:=lG n (lN ps)
theorem V2{n:Nat}{ps:List (Nat×Nat)}(h:GD n ps):SG n (lN ps):=wX h.le λp hp=>⟨(h.ok p hp).1,(h.ok p hp).2.1⟩
theorem X8{n:Nat}{ps:List (Nat×Nat)}(h:GD n ps):ClT n (lN ps) (Gd n ps):=qp (by rw[mD];exact h.le) (V2 h)
theorem iY{n:Nat}{ps:List (Nat×Nat)}:(Gd n ps).length=8:=by unfold Gd;rw[Ga,mD]
theorem X9{n:Nat}{ps:List (Nat×Nat)}(h:GD n ps)(a:Nat):iK (Gd n ps) a a=false:=h.ir a
theorem AI{α β:Type}(f:β->α->β)(l:List α)(x:β){i:Nat}{y:α}(h:l[i]?=some y):(l.take (i+1)).foldl f x=f ((l.take i).foldl f x) y:=by rw[abg,h,adj];rfl
theorem nG{β:Type}(f:β->Nat->β)(x:β)(i:Nat):(List.range (i+1)).foldl f x=f ((List.range i).foldl f x) i:=by rw[acG,adj];rfl
end
section
variable {X:aM} {m:M}
theorem OH{t:List Nat}{b:Bool}:bF (.tuple #[Wz t,.bool b]):=by
 have h:(xM t).all D.bI:=by rw[aby];intro x hx;obtain⟨y,_,rfl⟩:=abF.1 hx;rfl
 simp[bF,dw,bI]
set_option maxHeartbeats 1000000 in
theorem Ft(hX:cy X){n:Nat}{ps:List (Nat×Nat)}{pv:aes}(hO:GD n ps)(hp:Sl m ps pv):C X (.func 113) [PE n pv] m m.n (.tuple #[Wz (Gd n ps),aex]) m:=by
 refine Cl.sW (hX.no _ rfl) (aaU func113) rfl OH ?_;have hle:=hO.le;have hlen:=hO.len;rw[aau];dsimp only[δ,ε,ζ,η,ι,κ,ρ,ς,υ,χ,ω];refine aw λm1 d1 l0 E0=>?_;refine aw λm2 j1 n0 o0=>?_;refine aw λm3 k1 p0 h0=>?_;have r0:Ext m m3:=⟨by omega,by grind⟩
 have g1:m3.get m.n=.cells [.int .i64 n,pv] 75 none:=by rw[h0 _ (by omega),o0 _ (by omega)];exact l0
 have gz:m3.get m1.n=.cells (xM oU) 120 none:=by rw[h0 _ (by omega)];exact n0
 have gT:m3.get m2.n=.cells (xM oU) 120 none:=p0;clear l0 E0 n0 o0 p0 h0;have F0:=hp.aG r0;unfold ptrTo;simp only[iF,pC,ae];rw[(Jl g1).2.1,ae,F0.len Bp,aA];have l1:m2.n < m3.n:=by omega
 refine Lp.intro (γ:=Nat) (λi=>ps.length-i) (λi vs mm lo=>vs=[.int .i64 i]/\i<=ps.length/\m.n<=lo/\(∀c,c < m2.n->mm.get c=m3.get c)/\m3.n<=mm.n/\mm.get m2.n=.cells (xM ((ps.take i).foldl nW oU)) 120 none/\B8 ((ps.take i).foldl nW oU)) 0 ⟨rfl,aa6 _,aaV _,λ_ _=>rfl,aaV _,gT,Y1⟩ ?_;rintro i vs mm lo ⟨rfl,hi,b0,a0,d0,gT,h8⟩;have ext:∀{ma:M},(∀c,c < m2.n->ma.get c=m3.get c)->m3.n<=ma.n->Ext m ma:=λh1 h2=>⟨by omega,λc hc=>by rw[h1 c (by omega),r0.get c hc]⟩
 have s0:=hp.aG (ext a0 d0);have gO:∀{ma:M},(∀c,c < m2.n->ma.get c=m3.get c)->ma.get m.n=.cells [.int .i64 n,pv] 75 none:=λh=>(h _ (by omega)).trans g1;rw[aE,aQ,ae,ak];have o1:∀i,((ps.take i).foldl nW oU).length=8:=λi=>by rw[jB _ uc];rfl
 refine av (λc=>?_) (λc=>?_)
 ·have G0:i < ps.length:=by grind
  obtain⟨p,hx⟩:∃x,ps[i]?=some x:=⟨_,aaW G0⟩
  have p1:=hO.ok p (aa2 hx);have⟨a,cs,e1,e2,e3⟩:=s0.index Bp (k:=.i64) hx;obtain rfl:cs=Hb p:=e3;have e2:ah TE mm 69 a=some (.agg (Hb p).toArray):=e2;rw[e1,ae,e2,ae];refine aw λm16 N0 u0 O0=>?_;refine aD Wt u0 rfl rfl rfl λm17 P0 v0 S0=>?_;have g17:m17.get mm.n=.cells (Hb p) 69 none:=v0;have y0:Ext mm m17:=⟨by omega,by grind⟩
  have n17:=y0.n;have⟨q0,q1⟩:=ppf g17;have⟨i0,i1⟩:=ND (b:=mm.n) (o:=0);have g0:=y0.cells gT;rw[i1,ae,q1,ae,NF (by omega),ae,uB g0 (by grind),ae,i0,ae,q0,ae,Ye (by omega),ae,Yf (h8.getD _) (MR (by omega)),ae,ae];refine Mj g0 (by grind) λH0 z0 e0 A0=>?_;rw[aS,ae,wrap64];refine⟨i+1,by omega,rfl,by omega,by omega,by grind,by omega,?_,?_⟩;·rw[AI nW ps oU hx];exact e0
  rw[AI nW ps oU hx];exact h8.pair (by omega)
 obtain rfl:i=ps.length:=by
  grind
 rw[abD]at gT h8;clear s0 hi;rw[(Jl (gO a0)).1,ae];have r1:∀k,((List.range k).foldl (nV n) (lN ps)).length=8:=λk=>by rw[jB _ (λt x=>ua n t x),mD]
 refine Lp.intro (γ:=Nat) (λk=>n-k) (λk vs mm lo=>vs=[.int .i64 k]/\k<=n/\m.n<=lo/\(∀c,c < m2.n->mm.get c=m3.get c)/\m3.n<=mm.n/\mm.get m2.n=.cells (xM ((List.range k).foldl (nV n) (lN ps))) 120 none/\B8 ((List.range k).foldl (nV n) (lN ps))) 0 ⟨rfl,aa6 _,b0,a0,d0,gT,h8⟩ ?_;clear a0 d0 gT h8 b0;rintro k vs ma gh ⟨rfl,hk,b0,a0,d0,gT,h8⟩;rw[aE,aQ,ae,ak];refine av (λc=>?_) (λc=>?_)
 ·have u1:k < n:=by grind
  rw[(Jl (gO a0)).1,ae];obtain⟨t1,j0⟩:∃t,t=(List.range k).foldl (nV n) (lN ps):=⟨_,rfl⟩
  have I0:t1.length=8:=by grind
  rw[<-j0]at gT h8;have v1:∀b,((List.range b).foldl (sj k) t1).length=8:=λb=>by rw[jB _ (λt x=>yf k t x),I0]
  refine Lp.intro (γ:=Nat) (λb=>n-b) (λb vs mm lo=>vs=[.int .i64 b]/\b<=n/\m.n<=lo/\(∀c,c < m2.n->mm.get c=m3.get c)/\m3.n<=mm.n/\mm.get m2.n=.cells (xM ((List.range b).foldl (sj k) t1)) 120 none/\B8 ((List.range b).foldl (sj k) t1)) 0 ⟨rfl,aa6 _,b0,a0,d0,gT,h8⟩ ?_;clear a0 d0 gT h8 b0;rintro b vs mb J0 ⟨rfl,hb,b0,a0,d0,gT,h8⟩;rw[aE,aQ,ae,ak];refine av (λc=>?_) (λc=>?_)
  ·have w1:b < n:=by grind
   obtain⟨t2,k0⟩:∃t,t=(List.range b).foldl (sj k) t1:=⟨_,rfl⟩
   have y1:t2.length=8:=by grind
   rw[<-k0]at gT h8;refine bA (λvs mm lo=>vs=[]/\m.n<=lo/\(∀c,c < m2.n->mm.get c=m3.get c)/\m3.n<=mm.n/\mm.get m2.n=.cells (xM (sj k t2 b)) 120 none) (λQ hQ=>?_) ?_
   ·rw[NF (i:=b) (by omega),ae,uB gT (by omega),ae,O9 (by omega),ae,Gq (adf (ad3 _ _) (h8.getD b)),ae,aW,ae,ak,Cv];unfold sj at hQ;refine av (λe=>?_) (λe=>hQ _ _ _ ⟨rfl,b0,a0,d0,by grind⟩);rw[aa5 e]at hQ;rw[ae,uB gT (i:=b) (by omega),ae,NF (i:=k) (by omega),ae,uB gT (i:=k) (by omega),ae,Yf (h8.getD b) (h8.getD k),ae,ae];exact Mj gT (by omega) λH0 z0 e0 A0=>hQ _ _ _ ⟨rfl,by omega,by grind,by omega,e0⟩
   rintro _ mc z1 ⟨rfl,a1,a2,a3,a4⟩;rw[aS,ae,wrap64];refine⟨b+1,by omega,rfl,by omega,a1,a2,a3,?_,?_⟩;·rw[nG,<-k0];exact a4
   rw[nG,<-k0];exact h8.row k b
  obtain rfl:b=n:=by
   grind
  rw[aS,ae,wrap64];refine⟨k+1,by omega,rfl,by omega,b0,a0,d0,?_,?_⟩;·rw[nG,<-j0];exact gT
  rw[nG,<-j0];exact h8
 obtain rfl:k=n:=by
  grind
 have gT:ma.get m2.n=.cells (xM (Gd k ps)) 120 none:=gT;have h8:B8 (Gd k ps):=h8;rw[(Jl (gO a0)).1,ae];refine Lp.intro (γ:=Nat) (λa=>k-a) (λa vs mm lo=>∃z,vs=[z,.int .i64 a]/\a<=k/\ma=mm/\m.n<=lo) 0 ⟨_,rfl,aa6 _,rfl,b0⟩ ?_;rintro a vs mb J0 ⟨z,rfl,ha,rfl,B0⟩;rw[aE,aE,aQ,ae,ak];refine av (λc=>?_) (λc=>?_)
 ·have A1:a < k:=by grind
  rw[NF (i:=a) (by omega),ae,uB gT (by rw[iY];omega),ae,O9 (by omega),ae,Gq (adf (ad3 _ _) (h8.getD a)),ae,aW,ae,ak,Cv];have C0:=X9 hO a;unfold iK at C0;rw[C0,aT,aS,ae,wrap64];exact⟨a+1,by omega,z,rfl,by omega,rfl,B0⟩
 rw[FA gT iY,ae];refine aD Bk ((a0 _ (by omega)).trans gz) (by rw[eF,abK,iY];rfl) (by rw[eF,abK,abK,iY];rfl) (by rw[eF];exact wF) λK0 b1 D0 c1=>?_;have L0:K0.get m1.n=.cells (xM (Gd k ps)) 120 none:=D0;rw[FA L0 iY,ae];exact⟨rfl,by omega⟩
theorem Dm(hX:cy X){n:Nat}{ps:List (Nat×Nat)}{pv:aes}(hO:GD n ps)(hp:Sl m ps pv):C X (.func 50) [PE n pv] m m.n (.tuple #[Wz (Gd n ps),aex]) m:=by
 refine Cl.sW (hX.no _ rfl) (aaU func50) rfl OH ?_;rw[F50];dsimp only[δ,θ,ι,ξ,ο,ρ,ς,υ,χ,ψ,Γ,ω];refine aw λm1 k0 d0 l0=>?_;refine aw λm2 n0 e0 g0=>?_;have h0:Ext m m2:=⟨by omega,by grind⟩
 have g1:m2.get m.n=.cells [aev n,pv] 75 none:=by rw[g0 _ (by omega)];exact d0
 have gz:m2.get m1.n=.cells (xM oU) 120 none:=e0;have a0:=hp.aG h0;unfold ptrTo;rw[(Jl g1).2.2,ae];refine aH (Fs hX hO a0) ?_;rw[bE,ae,ak];show gG false _ _;rw[aT,(Jl g1).2.2,ae];refine aH (Ft hX hO a0) ?_;rw[aJ,aJ];simp only[aaY,aaX,ae];refine aD Bk gz (by rw[eF,abK,iY];rfl) (by rw[eF,abK,abK,iY];rfl) (by rw[eF];exact wF) λm18 i0 b0 j0=>?_;have g18:m18.get m1.n=.cells (xM (Gd n ps)) 120 none:=b0;rw[FA g18 iY,ae];exact⟨rfl,by omega⟩
theorem Jj(hX:cy X){n:Nat}{ps:List (Nat×Nat)}{pv:aes}(hO:GD n ps)(hp:Sl m ps pv):C X (.func 53) [PE n pv] m m.n aex m:=by refine Cl.fG hX (aaU func53) ?_;rw[F53];dsimp only[δ,ι,ξ,ρ,ς,υ,χ,ψ,ω];refine aw λm1 e0 a0 b0=>?_;have g1:m1.get m.n=.cells [aev n,pv] 75 none:=a0;unfold ptrTo;rw[(Jl g1).2.2,ae];refine aH (Dm hX hO (hp.aG ⟨by omega,b0⟩)) ?_;rw[aJ,aJ];simp only[aaY,aaX,ae];refine aw λm8 g0 d0 h0=>?_;refine aD Bk d0 (by rw[eF,abK,iY];rfl) (by rw[eF,abK,iY];rfl) (by rw[eF];exact wF) λm9 i0 j0 k0=>?_;exact⟨rfl,by omega⟩
theorem B8.cl{n:Nat}{ps:List (Nat×Nat)}(h:GD n ps):B8 (Gd n ps):=by
 intro x hx
 have⟨i,hi⟩:=abi hx
 have e:(Gd n ps).getD i 0=x:=by grind
 have hle:=h.le
 show x < 2 ^ 8
 refine Nat.lt_pow_two_of_testBit x λj hj=>?_
 cases hb:x.testBit j with
 |false=>rfl
 |true=>have:=((X8 h).bd i j (by unfold iK;rw[e];exact hb)).2;omega
theorem Fu(hX:cy X){n:Nat}{ps:List (Nat×Nat)}{pv:aes}(hO:GD n ps)(hp:Sl m ps pv){a b:Nat}(ha:a < n)(hb:b < n):C X (.func 49) [PE n pv,aev a,aev b] m m.n (.bool (iK (Gd n ps) b a)) m:=by
 refine Cl.fG hX (aaU func49) ?_;rw[F49];dsimp only[δ,ε,ζ,η,ι,κ,ξ,ρ,ς,υ,χ,ψ,ω];refine aw λm1 h0 a0 b0=>?_;have hle:=hO.le;have g1:m1.get m.n=.cells [aev n,pv] 75 none:=a0;unfold ptrTo;rw[(Jl g1).2.2,ae];refine aH (Dm hX hO (hp.aG ⟨by omega,b0⟩)) ?_;rw[aJ,aJ];simp only[aaY,aaX,ae];refine aw λm8 i0 d0 j0=>?_;refine aD Bk d0 (by rw[eF,abK,iY];rfl) (by rw[eF,abK,iY];rfl) (by rw[eF];exact wF) λm9 k0 e0 l0=>?_;have g9:m9.get m1.n=.cells (xM (Gd n ps)) 120 none:=e0;have gO:m9.get m.n=.cells [aev n,pv] 75 none:=by grind
 refine bA (λvs mm lo=>vs=[.bool (iK (Gd n ps) b a)]/\m.n<=lo) (λQ hQ=>?_) ?_
 ·rw[ak,bH,ke,aA,cO,ae,ak,VF,bH,qe,aA,iF,ae,(Jl gO).1,ae,aQ,ae,ak,VF,bH];rw[NF (i:=b) (by omega),ae,uB g9 (by rw[iY];omega),ae,O9 (by omega),ae,Gq (adf (ad3 _ _) ((B8.cl hO).getD b)),ae,aW,ae,Cv];exact hQ _ _ _ ⟨rfl,by omega⟩
 rintro _ mm lo ⟨rfl,g0⟩;rw[aE];exact⟨rfl,g0⟩
end
section
variable {X:aM} {m:M}
end
section
section
variable {X:aM}{x0 x1 x2:aes}{m:M}{R:aet->M->Nat->Prop}{W:Words}
theorem F96:dp TE (aO TE X) f96 [x0,x1,x2] m R=jn (λa=>η .leq 3 x1 x0 λb=>aU b (η .leq 3 x0 x2 λb=>a [b] m m.n) (a [aey] m m.n)) (λa b c=>un a λa _=>R [a] b c):=by kernel_rfl
theorem aat:dp TE (aO TE X) f114 [x0] m R=aj (eV x0) λa=>ε 62 a 0 λa=>δ m 3 a λa=>η .eql 3 a (χ 1) λb=>aU b (aj (eV x0) λa=>ε 62 a 1 λa=>ε 60 a 0 λa=>aj (eV x0) λb=>ε 62 b 1 λb=>ε 60 b 1 λb=>aj (eV x0) λc=>ε 62 c 1 λc=>ε 60 c 2 λc=>aj (eV x0) λd=>ε 62 d 1 λd=>ε 60 d 4 λd=>aj (eV x0) λf=>ε 62 f 1 λf=>ε 60 f 5 λf=>ν m 192 5 [(0,a),(1,b),(2,c),(3,d),(4,f)] λa b=>R [a] b m.n) (η .eql 3 a (χ 4) λb=>aU b (aj (eV x0) λa=>ε 62 a 2 λa=>aj (eV x0) λb=>ε 62 b 5 λb=>ν m 192 2 [(0,a),(1,b)] λa b=>R [a] b m.n) (jn (λb=>η .eql 3 a (χ 5) λc=>aU c (b [c] m m.n) (η .eql 3 a (χ 8) λa=>b [a] m m.n)) (λb c d=>un b λb _=>aU b (aj (eV x0) λa=>ε 62 a 2 λa=>aj (eV x0) λb=>ε 62 b 4 λb=>ν c 192 2 [(0,a),(1,b)] λa b=>R [a] b d) (η .eql 3 a (χ 9) λa=>aU a (aj (eV x0) λa=>ε 62 a 2 λa=>aj (eV x0) λb=>ε 62 b 3 λb=>aj (eV x0) λf=>ε 62 f 5 λf=>ν c 192 3 [(0,a),(1,b),(2,f)] λa b=>R [a] b d) (aj (eV x0) λa=>ε 62 a 2 λa=>ν c 192 1 [(0,a)] λa b=>R [a] b d))))):=by kernel_rfl
theorem aas:dp TE (aO TE X) f115 [x0,x1] m R=ρ m x0 60 λa=>ρ a x1 60 λb=>jn (λc=>ε 60 (υ m) 0 λd=>δ b 3 d λd=>ε 60 (υ a) 0 λf=>δ b 3 f λf=>η .eql 3 d f λd=>aU d (ε 60 (υ m) 1 λd=>δ b 3 d λd=>ε 60 (υ a) 1 λf=>δ b 3 f λf=>η .eql 3 d f λd=>aU d (ε 60 (υ m) 2 λd=>δ b 3 d λd=>ε 60 (υ a) 2 λf=>δ b 3 f λf=>η .eql 3 d f λd=>aU d (ε 60 (υ m) 4 λd=>δ b 3 d λd=>ε 60 (υ a) 4 λf=>δ b 3 f λf=>η .eql 3 d f λd=>aU d (ε 60 (υ m) 5 λd=>δ b 3 d λd=>ε 60 (υ a) 5 λf=>δ b 3 f λf=>η .eql 3 d f λd=>aU d (ε 60 (υ m) 3 λd=>δ b 58 d λd=>ε 60 (υ a) 3 λa=>δ b 58 a λa=>ψ X 168 [d,a] b λa b d=>c [a] b (min m.n d)) (c [aey] b m.n)) (c [aey] b m.n)) (c [aey] b m.n)) (c [aey] b m.n)) (c [aey] b m.n)) (λa b c=>un a λa _=>R [a] b c):=by kernel_rfl
theorem F51:dp TE (aO TE X) f51 [x0] m R=ρ m x0 62 λa=>ε 62 (υ m) 0 λb=>δ a 3 b λb=>ψ X 96 [b,χ 1,χ 9] a λa b c=>ο .not a λa=>aU a (R [aey] b (min m.n c)) (ε 62 (υ m) 0 λa=>δ b 3 a λa=>θ 62 [(0,a)] λa=>ς b [χ 0,χ 0,χ 0,χ 0,aew,χ 0,χ 0,χ 0,χ 0,χ 0,χ 0] 62 λd=>ι d 62 (υ b) a λa d=>ψ X 114 [υ m] a λa f g=>ψ X 114 [υ b] f λf h i=>κ h .len [192] [f] λj _=>Lp (λc d g h=>un d λd _=>η .lss 3 d j λi=>aU i (ζ 192 f d λb=>δ g 195 b λb=>ζ 192 a d λa=>δ g 195 a λa=>aj (eV a) λa=>δ g 3 a λa=>aj (eV b) λb=>ι g 3 b a λa b=>η .add 3 d (χ 1) λd=>c [d] a (min h b)) (jn (λa=>ε 62 (υ m) 0 λc=>δ g 3 c λc=>η .eql 3 c (χ 1) λc=>aU c (ε 62 (υ m) 1 λc=>ε 60 c 3 λc=>δ g 58 c λc=>ε 62 (υ b) 1 λb=>ε 60 b 3 λb=>ι g 58 b c λb c=>a [] b (min h c)) (a [] g h)) (λ_ a c=>jn (λd=>ε 62 (υ b) 2 λf=>δ a 3 f λf=>ε 62 (υ m) 2 λg=>δ a 3 g λg=>η .neq 3 f g λf=>aU f (d [aex] a c) (ε 62 (υ b) 3 λf=>δ a 3 f λf=>ε 62 (υ m) 3 λg=>δ a 3 g λg=>η .neq 3 f g λf=>aU f (d [aex] a c) (ε 62 (υ b) 4 λf=>δ a 3 f λf=>ε 62 (υ m) 4 λg=>δ a 3 g λg=>η .neq 3 f g λf=>aU f (d [aex] a c) (ε 62 (υ b) 5 λf=>δ a 3 f λf=>ε 62 (υ m) 5 λg=>δ a 3 g λg=>η .neq 3 f g λf=>aU f (d [aex] a c) (ε 62 (υ b) 1 λb=>δ a 60 b λb=>ε 62 (υ m) 1 λf=>δ a 60 f λf=>ψ X 115 [b,f] a λa b f=>ο .not a λa=>d [a] b (min c f)))))) (λa b c=>un a λa _=>aU a (R [aey] b c) (ε 62 (υ m) 0 λa=>δ b 3 a λa=>η .eql 3 a (χ 1) λa=>aU a (jn (λa=>ε 62 (υ m) 1 λd=>δ b 60 d λd=>ψ X 116 [d] b λb d f=>aU b (ε 62 (υ m) 1 λb=>ε 60 b 1 λb=>δ d 3 b λb=>ψ X 96 [b,χ 6,χ 8] d λb d g=>a [b] d (ω c f g)) (a [aey] d (min c f))) (λa b c=>un a λa _=>R [a] b c)) (jn (λa=>ε 62 (υ m) 2 λd=>δ b 3 d λd=>ψ X 96 [d,χ 0,χ 99] b λb d f=>aU b (ε 62 (υ m) 3 λb=>δ d 3 b λb=>ψ X 96 [b,χ 0,χ 99] d λb d g=>a [b] d (ω c f g)) (a [aey] d (min c f))) (λa b c=>un a λa _=>jn (λd=>aU a (ε 62 (υ m) 4 λa=>δ b 3 a λa=>ψ X 96 [a,χ (-2),χ 7] b λa b f=>aU a (ε 62 (υ m) 5 λa=>δ b 3 a λa=>ψ X 96 [a,χ 0,χ 7] b λa b g=>aU a (ε 62 (υ m) 0 λa=>δ b 3 a λa=>η .neq 3 a (χ 9) λa=>aU a (d [aex] b (ω c f g)) (ε 62 (υ m) 2 λa=>δ b 3 a λa=>ε 62 (υ m) 3 λh=>δ b 3 h λh=>η .lss 3 a h λa=>d [a] b (ω c f g))) (d [aey] b (ω c f g))) (d [aey] b (min c f))) (d [aey] b c)) (λa b c=>un a λa _=>R [a] b c)))))))) [χ 0] h (Δ m.n c d g i)):=by kernel_rfl
theorem F98:dp TE W f98 [x0,x1,x2] m R=W.aR (az TE m .len [34] [x0]) λa _=>W.Lp (λb c d f=>W.un c λc g=>W.un g λg _=>W.aj (aC TE .lss 3 g a) λa=>aU a (W.aj (an TE 34 x0 g) λa=>W.aj (ah TE d 113 a) λa=>W.bJ (M.push d (.cells [.int .i64 0,.int .i64 0,.int .i64 0,aew,.int .i64 0,.int .i64 0,aew] 113 none)) λh=>W.aR (aF TE h 113 (ptrTo d.n) a) λa h=>W.jn (λb=>W.aj (ah TE a 113 (ptrTo d.n)) λc=>gJ x2 λi j k=>W.bB i (j.toList++([c]++k.toList)) a λa c i=>W.aj (dh .not a) λa=>aU a (b [aex] c (min (min f h) i)) (W.aj (aC TE .gtr 3 g (.int .i64 0)) λa=>aU a (W.aj (aC TE .sub 3 g (.int .i64 1)) λa=>W.aj (an TE 34 x0 a) λa=>W.aj (ah TE c 113 a) λa=>W.aj (ah TE c 113 (ptrTo d.n)) λd=>gJ x1 λg j k=>W.bB g (j.toList++([a,d]++k.toList)) c λa c d=>W.aj (aC TE .geq 3 a (.int .i64 0)) λa=>b [a] c (min (min (min f h) i) d)) (b [aey] c (min (min f h) i)))) (λa d f=>W.un a λa _=>aU a (R [aey] d f) (W.aj (aC TE .add 3 g (.int .i64 1)) λa=>b [c,a] d f))) (R [aex] d f)) [aey,.int .i64 0] m m.n:=by kernel_rfl
theorem aaC:dp TE W f100 [x0,x1,x2] m R=W.aR (az TE m .len [35] [x0]) λa _=>W.Lp (λb c d f=>W.un c λc g=>W.un g λg _=>W.aj (aC TE .lss 3 g a) λa=>aU a (W.aj (an TE 35 x0 g) λa=>W.aj (ah TE d 53 a) λa=>W.bJ (M.push d (.cells [.int .i64 0,.int .i64 0] 53 none)) λh=>W.aR (aF TE h 53 (ptrTo d.n) a) λa h=>W.jn (λb=>W.aj (ah TE a 53 (ptrTo d.n)) λc=>gJ x2 λi j k=>W.bB i (j.toList++([c]++k.toList)) a λa c i=>W.aj (dh .not a) λa=>aU a (b [aex] c (min (min f h) i)) (W.aj (aC TE .gtr 3 g (.int .i64 0)) λa=>aU a (W.aj (aC TE .sub 3 g (.int .i64 1)) λa=>W.aj (an TE 35 x0 a) λa=>W.aj (ah TE c 53 a) λa=>W.aj (ah TE c 53 (ptrTo d.n)) λd=>gJ x1 λg j k=>W.bB g (j.toList++([a,d]++k.toList)) c λa c d=>W.aj (aC TE .geq 3 a (.int .i64 0)) λa=>b [a] c (min (min (min f h) i) d)) (b [aey] c (min (min f h) i)))) (λa d f=>W.un a λa _=>aU a (R [aey] d f) (W.aj (aC TE .add 3 g (.int .i64 1)) λa=>b [c,a] d f))) (R [aex] d f)) [aey,.int .i64 0] m m.n:=by kernel_rfl
theorem aaA:dp TE W f102 [x0,x1,x2] m R=W.aR (az TE m .len [36] [x0]) λa _=>W.Lp (λb c d f=>W.un c λc g=>W.un g λg _=>W.aj (aC TE .lss 3 g a) λa=>aU a (W.aj (an TE 36 x0 g) λa=>W.aj (ah TE d 109 a) λa=>W.bJ (M.push d (.cells [.int .i64 0,.int .i64 0,.int .i64 0] 109 none)) λh=>W.aR (aF TE h 109 (ptrTo d.n) a) λa h=>W.jn (λb=>W.aj (ah TE a 109 (ptrTo d.n)) λc=>gJ x2 λi j k=>W.bB i (j.toList++([c]++k.toList)) a λa c i=>W.aj (dh .not a) λa=>aU a (b [aex] c (min (min f h) i)) (W.aj (aC TE .gtr 3 g (.int .i64 0)) λa=>aU a (W.aj (aC TE .sub 3 g (.int .i64 1)) λa=>W.aj (an TE 36 x0 a) λa=>W.aj (ah TE c 109 a) λa=>W.aj (ah TE c 109 (ptrTo d.n)) λd=>gJ x1 λg j k=>W.bB g (j.toList++([a,d]++k.toList)) c λa c d=>W.aj (aC TE .geq 3 a (.int .i64 0)) λa=>b [a] c (min (min (min f h) i) d)) (b [aey] c (min (min f h) i)))) (λa d f=>W.un a λa _=>aU a (R [aey] d f) (W.aj (aC TE .add 3 g (.int .i64 1)) λa=>b [c,a] d f))) (R [aex] d f)) [aey,.int .i64 0] m m.n:=by kernel_rfl
theorem F99:dp TE (aO TE X) f99 [x0,x1] m R=ρ m x0 113 λa=>ρ a x1 113 λb=>ε 113 (υ m) 0 λc=>ε 60 c 0 λc=>δ b 3 c λc=>ε 113 (υ a) 0 λa=>ε 60 a 0 λa=>δ b 3 a λa=>ψ X 59 [c,a] b λa b c=>R [a] b (min m.n c):=by kernel_rfl
theorem aaB:dp TE (aO TE X) f101 [x0,x1] m R=ρ m x0 53 λa=>ρ a x1 53 λb=>ε 53 (υ m) 0 λc=>δ b 3 c λc=>ε 53 (υ a) 0 λd=>δ b 3 d λd=>ψ X 59 [c,d] b λc d f=>(b.n<=f)/\(ε 53 (υ m) 1 λb=>δ d 3 b λb=>ε 53 (υ a) 1 λa=>δ d 3 a λa=>ψ X 59 [b,a] d λa b d=>ν b 26 2 [(0,c),(1,a)] λa b=>ψ X 80 [a] b λa b c=>R [a] b (Γ m.n f d c)):=by kernel_rfl
theorem aaz:dp TE (aO TE X) f103 [x0,x1] m R=ρ m x0 109 λa=>ρ a x1 109 λb=>ε 109 (υ m) 0 λc=>δ b 3 c λc=>ε 109 (υ a) 0 λd=>δ b 3 d λd=>ψ X 59 [c,d] b λc d f=>(b.n<=f)/\(ε 109 (υ m) 1 λb=>δ d 3 b λb=>ε 109 (υ a) 1 λa=>δ d 3 a λa=>ψ X 59 [b,a] d λa b d=>ν b 26 2 [(0,c),(1,a)] λa b=>ψ X 80 [a] b λa b c=>R [a] b (Γ m.n f d c)):=by kernel_rfl
theorem F94:dp TE (aO TE X) f94 [x0,x1] m R=ρ m x0 33 λa=>ρ a x1 3 λb=>ς b [χ 0,χ 0,χ 0,aew,χ 0,χ 0] 60 λc=>ε 33 (υ m) 0 λd=>ε 30 d 0 λd=>δ c 28 d λd=>ψ X 145 [d,.func (.func 154) #[] #[υ a]] c λa c d=>η .lss 3 a (χ 0) λf=>aU f (θ 60 [] λa=>ι c 60 (υ b) a λa c=>aj (ah TE a 60 (υ b)) λb=>R [b,aey] a (ω m.n d c)) (ε 33 (υ m) 0 λf=>ε 30 f 0 λf=>δ c 28 f λf=>ζ 28 f a λa=>δ c 60 a λa=>ι c 60 (υ b) a λa c=>aj (ah TE a 60 (υ b)) λb=>R [b,aex] a (ω m.n d c)):=by kernel_rfl
theorem Yr:dp TE (aO TE X) f154 [x0,x1] m R=ρ m x0 60 λa=>ε 60 (υ m) 0 λb=>δ a 3 b λb=>δ a 3 x1 λc=>η .eql 3 b c λb=>R [b] a m.n:=by kernel_rfl
theorem F40:dp TE (aO TE X) f40 [x0] m R=ρ m x0 38 λa=>jn (λb=>ε 38 (υ m) 0 λc=>δ a 33 c λc=>ψ X 91 [c] a λa c d=>ο .not a λa=>aU a (b [aex] c (min m.n d)) (ε 38 (υ m) 1 λa=>δ c 34 a λa=>κ c .len [34] [a] λa _=>η .gtr 3 a (χ 12) λa=>aU a (b [aex] c (min m.n d)) (ε 38 (υ m) 2 λa=>δ c 35 a λa=>κ c .len [35] [a] λa _=>η .gtr 3 a (χ 60) λa=>aU a (b [aex] c (min m.n d)) (ε 38 (υ m) 3 λa=>δ c 36 a λa=>κ c .len [36] [a] λa _=>η .gtr 3 a (χ 20) λa=>b [a] c (min m.n d))))) (λa b c=>un a λa _=>aU a (R [aey] b c) (bJ (M.push b (.map [] 0)) λa=>ς a [.map none] 173 λd=>ι d 173 (υ a) (.map (some b.n)) λb d=>ς b [χ 0] 3 λf=>ι f 3 (υ b) (χ 0) λf g=>ς f [.nilFunc] 174 λh=>ι h 174 (υ f) (.func (.func 92) #[] #[υ a,υ b]) λh i=>δ h 174 (υ f) λj=>ε 38 (υ m) 0 λk=>ε 33 k 1 λk=>δ h 31 k λk=>gJ j λj l n=>bB TE X j (l.toList++([k]++n.toList)) h λ_ h j=>jn (λk=>ε 38 (υ m) 1 λl=>δ h 34 l λl=>ψ X 98 [l,.func (.func 99) #[] #[],.func (.func 93) #[] #[υ f,υ m]] h λf h l=>aU f (ε 38 (υ m) 2 λf=>δ h 35 f λf=>ψ X 100 [f,.func (.func 101) #[] #[],.func (.func 95) #[] #[]] h λf h n=>aU f (ε 38 (υ m) 3 λf=>δ h 36 f λf=>ψ X 102 [f,.func (.func 103) #[] #[],.func (.func 97) #[] #[]] h λf h o=>aU f (δ h 173 (υ a) λa=>κ h .len [173] [a] λa _=>δ h 3 (υ b) λf=>η .eql 3 a f λa=>aU a (δ h 3 (υ b) λa=>η .leq 3 a (χ 20) λa=>k [a] h (Ξ c d g i j l n o)) (k [aey] h (Ξ c d g i j l n o))) (k [aey] h (Ξ c d g i j l n o))) (k [aey] h (Λ c d g i j l n))) (k [aey] h (Θ c d g i j l))) (λa b c=>un a λa _=>R [a] b c))):=by kernel_rfl
theorem F92:dp TE (aO TE X) f92 [x0,x1,x2] m R=κ m .len [31] [x0] λa _=>Lp (λb c d f=>un c λc _=>η .lss 3 c a λa=>aU a (ζ 31 x0 c λa=>δ d 137 a λa=>ς d [χ 0,χ 0,χ 0,χ 0,aey] 137 λg=>ι g 137 (υ d) a λa g=>δ a 173 x1 λh=>ε 137 (υ d) 0 λd=>δ a 3 d λd=>aR (lT TE a 173 h d aex) λa d=>δ a 3 x2 λh=>η .add 3 h (χ 1) λh=>ι a 3 x2 h λa h=>η .add 3 c (χ 1) λc=>b [c] a (Γ f g d h)) (R [] d f)) [χ 0] m m.n:=by kernel_rfl
theorem F93:dp TE (aO TE X) f93 [x0,x1,x2] m R=ρ m x0 113 λa=>δ a 174 x1 λb=>ε 113 (υ m) 1 λc=>δ a 31 c λc=>gJ b λb d f=>bB TE X b (d.toList++([c]++f.toList)) a λ_ a b=>ε 38 x2 0 λc=>δ a 33 c λc=>ε 113 (υ m) 0 λd=>ε 60 d 0 λd=>δ a 3 d λd=>ψ X 94 [c,d] a λa c d=>ξ a 0 λf=>ξ a 1 λa=>ς c [χ 0,χ 0,χ 0,aew,χ 0,χ 0] 60 λg=>ι g 60 (υ c) f λc f=>jn (λg=>ο .not a λa=>aU a (ε 113 (υ m) 0 λa=>δ c 60 a λa=>ν c 28 1 [(0,a)] λa c=>θ 30 [(0,a)] λa=>ε 113 (υ m) 1 λh=>δ c 31 h λh=>θ 33 [(0,a),(1,h)] λa=>ψ X 91 [a] c λa c h=>g [a] c (Δ m.n b d f h)) (g [aey] c (Γ m.n b d f))) (λa b c=>un a λa _=>R [a] b c):=by kernel_rfl
theorem F95:dp TE (aO TE X) f95 [x0] m R=ρ m x0 53 λa=>jn (λb=>ε 53 (υ m) 0 λc=>δ a 3 c λc=>ψ X 96 [c,χ 0,χ 99] a λa c d=>aU a (ε 53 (υ m) 1 λa=>δ c 3 a λa=>ψ X 96 [a,χ (-2),χ 7] c λa c f=>b [a] c (ω m.n d f)) (b [aey] c (min m.n d))) (λa b c=>un a λa _=>R [a] b c):=by kernel_rfl
theorem F97:dp TE (aO TE X) f97 [x0] m R=ρ m x0 109 λa=>jn (λb=>ε 109 (υ m) 0 λc=>δ a 3 c λc=>η .geq 3 c (χ 0) λc=>aU c (ε 109 (υ m) 0 λc=>δ a 3 c λc=>ε 109 (υ m) 1 λd=>δ a 3 d λd=>η .lss 3 c d λc=>aU c (ε 109 (υ m) 1 λc=>δ a 3 c λc=>η .leq 3 c (χ 99) λc=>aU c (ε 109 (υ m) 2 λc=>δ a 3 c λc=>ψ X 96 [c,χ 0,χ 7] a λa c d=>b [a] c (min m.n d)) (b [aey] a m.n)) (b [aey] a m.n)) (b [aey] a m.n)) (λa b c=>un a λa _=>R [a] b c):=by kernel_rfl
theorem ZZ:dp TE (aO TE X) f168 [x0,x1] m R=κ m .len [58] [x0] λa _=>κ m .len [58] [x1] λb _=>η .neq 3 a b λa=>aU a (R [aey] m m.n) (κ m .len [58] [x0] λa _=>Lp (λb c d f=>un c λc g=>un g λg _=>η .lss 3 g a λa=>aU a (ζ 58 x0 g λa=>δ d 141 a λa=>ζ 58 x1 g λh=>δ d 141 h λh=>η .neq 141 a h λa=>aU a (R [aey] d f) (η .add 3 g (χ 1) λa=>b [c,a] d f)) (R [aex] d f)) [aey,χ 0] m m.n):=by kernel_rfl
end
end
section
variable {X:aM} {m:M}
theorem iq(hX:cy X){a lo hi:Int}:C X (.func 96) [aev a,aev lo,aev hi] m m.n (.bool (cW a lo hi)) m:=by
 refine Cl.fG hX (aaU func96) ?_;rw[F96];dsimp only[η];refine bA (λvs mm l=>vs=[.bool (cW a lo hi)]/\m.n<=l) (λQ hQ=>?_) ?_
 ·rw[cE,ae,ak];refine av (λc=>?_) (λc=>hQ _ _ _ ⟨by unfold cW;rw[c];rfl,aaV _⟩);rw[cE,ae];exact hQ _ _ _ ⟨by unfold cW;rw[c];rfl,aaV _⟩
 rintro _ mm l ⟨rfl,hl⟩;rw[aE];exact⟨rfl,hl⟩
theorem Rs(hX:cy X){l:List Pl}{v w:aes}(h1:Sl m l v)(h2:Sl m l w)(hl:l.length < 1000000):C X (.func 168) [v,w] m m.n aex m:=by
 refine Cl.fG hX (aaU func168) ?_;rw[ZZ];dsimp only[δ,ζ,η,κ,χ];rw[h1.len cF,aA,h2.len cF,aA,bZ,ae,ak,abb rfl];show gG false _ _;rw[aT,aA];refine Lp.intro (γ:=Nat) (λi=>l.length-i) (λi vs mm lo=>∃z,vs=[z,aev i]/\i<=l.length/\m=mm/\m.n<=lo) 0 ⟨_,rfl,aa6 _,rfl,aaV _⟩ ?_;rintro i vs _ lo ⟨z,rfl,hi,rfl,a0⟩;rw[aE,aE,aQ,ae,ak];refine av (λc=>?_) (λc=>⟨rfl,a0⟩);have b0:i < l.length:=by grind
 obtain⟨x,hx⟩:∃x,l[i]?=some x:=⟨_,aaW b0⟩
 have⟨a,e1,e2⟩:=h1.dW (k:=.i64) hx;have⟨b,e3,e4⟩:=h2.dW (k:=.i64) hx;rw[e1,ae,e2,ae,e3,ae,e4,ae,Nb,ae,ak,abb rfl];show gG false _ _;rw[aT,aS,ae,wrap64];exact⟨i+1,by omega,z,rfl,by omega,rfl,a0⟩
theorem De(hX:cy X){u:Un}{v w:aes}(h1:Sl m u.shape v)(h2:Sl m u.shape w)(hl:u.shape.length < 1000000):C X (.func 115) [u.v v,u.v w] m m.n aex m:=by
 refine Cl.fG hX (aaU func115) ?_;rw[aas];dsimp only[δ,ε,η,ρ,υ,ψ];refine aw λm1 i0 e0 j0=>?_;refine aw λm2 k0 g0 h0=>?_;have g1:m2.get m.n=.cells (u.c v) 60 none:=by rw[h0 _ (by omega)];exact e0
 have g2:m2.get m1.n=.cells (u.c w) 60 none:=g0;have d0:Ext m m2:=⟨by omega,by grind⟩
 have⟨a0,a1,a2,a3,a4,a5⟩:=kb g1;have⟨b0,b1,b2,b3,b4,b5⟩:=kb g2;unfold ptrTo;simp only[bD,cS,cR,bL,cQ,cP,ae];refine bA (λvs mm lo=>vs=[aex]/\m.n<=lo) (λQ hQ=>?_) ?_
 ·simp only[a0,a1,a2,a3,a4,a5,b0,b1,b2,b3,b4,b5,ae,aW,ak,decide_true,bH];refine aH (Rs hX (h1.aG d0) (h2.aG d0) hl) ?_;exact hQ _ _ _ ⟨rfl,by omega⟩
 rintro _ mm l ⟨rfl,hl⟩;rw[aE];exact⟨rfl,hl⟩
structure IP where
 b:Nat
 o:Nat
instance:aZ IP where
 ty:=195
 sz:=1
 agg:=false
 dd:=[]
 rep _ x cs:=cs=[.pointer (some ⟨x.b,x.o,none⟩)]
 pos:=by decide
 one:=by grind
 len:=by grind
 ee:=by rintro _ _ _ rfl;rfl
 bs:=by grind
theorem ER:oO TE 192 195 IP:=⟨ag.t192,ag.t195,by kernel_rfl,⟨_,rfl⟩,rfl,by kernel_rfl,rfl,rfl⟩
abbrev qF(x:IP):aes:=.pointer (some ⟨x.b,x.o,none⟩)
theorem S3{l:List IP}{b:Nat}{g:Option Nat}(h:m.get b=.cells (l.map qF) 195 g):Sl m l (aer b 0 l.length l.length):=
 .inr ⟨b,0,l.length,_,g,rfl,h,by rw[abK];show 0+l.length*1<=_;omega,λi x hi=>by
  show((l.map qF).drop (0+i*1)).take 1=[qF x]
  have a0:=(aa0.1 hi).1
  rw[abA,Nat.mul_one,abR (by grind),ab7,acx,List.getElem_map,(aa0.1 hi).2]⟩
def jv(t:Tk):List (Nat×Int):=if t.kind=1 then [(1,t.un.id),(2,t.un.kind),(3,t.un.dA),(5,t.un.back),(6,t.un.front)]
 else if t.kind=4 then [(7,t.id),(10,t.dA)]
 else if t.kind=5\/t.kind=8 then [(7,t.id),(9,t.side)]
 else if t.kind=9 then [(7,t.id),(8,t.other),(10,t.dA)]
 else [(7,t.id)]
theorem Qt{t:Tk}{w:aes}{p:Nat×Int}(h:p∈jv t):(t.c w)[p.1]?=some (aev p.2)/\p.1 < 11:=by
 unfold jv at h;split at h
 ·grind
 split at h
 ·simp only[abc,abn,or_false]at h;rcases h with rfl |rfl <;>exact⟨rfl,by simp⟩
 split at h
 ·simp only[abc,abn,or_false]at h;rcases h with rfl |rfl <;>exact⟨rfl,by simp⟩
 split at h
 ·simp only[abc,abn,or_false]at h;rcases h with rfl |rfl |rfl <;>exact⟨rfl,by simp⟩
 ·grind
abbrev PD(b:Nat)(t:Tk):List IP:=(jv t).map λp=>⟨b,p.1⟩
theorem AK(hX:cy X){t:Tk}{w:aes}{b:Nat}(g:m.get b=.cells (t.c w) 62 none):
  ∃r m',C X (.func 114) [aeq b 0] m m.n r m'/\Ext m m'/\Sl m' (PD b t) r:=by
 refine Cl.FD hX (aaU func114) ?_
 have H:∀R:aet->M->Nat->Prop,(∀(L:List IP) (m':M) (lo:Nat),L=PD b t->m'=m.push (.cells (L.map qF) 195 none)->m.n<=lo->R [aer m.n 0 L.length L.length] m' lo)->dp TE (aO TE X) f114 [aeq b 0] m R:=by
  intro R hR;unfold PD jv at hR;rw[aat];dsimp only[δ,ε,η,ν,χ];simp only[gC,cC,dD,cp,cK,cG,dk,bD,cS,cR,cQ,cP,ae];rw[(lQ g).1,ae,aW,ae,ak];have b5:∀p q r s u:IP,aI TE m 192 5 [(0,qF p),(1,qF q),(2,qF r),(3,qF s),(4,qF u)]=some (aer m.n 0 5 5,m.push (.cells ([p,q,r,s,u].map qF) 195 none)):=λ_ _ _ _ _=>by kernel_rfl
  have b3:∀p q r:IP,aI TE m 192 3 [(0,qF p),(1,qF q),(2,qF r)]=some (aer m.n 0 3 3,m.push (.cells ([p,q,r].map qF) 195 none)):=λ_ _ _=>by kernel_rfl
  have b2:∀p q:IP,aI TE m 192 2 [(0,qF p),(1,qF q)]=some (aer m.n 0 2 2,m.push (.cells ([p,q].map qF) 195 none)):=λ_ _=>by kernel_rfl
  have b1:∀p:IP,aI TE m 192 1 [(0,qF p)]=some (aer m.n 0 1 1,m.push (.cells ([p].map qF) 195 none)):=λ_=>by kernel_rfl
  refine av (λc=>?_) (λc=>?_)
  ·rw[aa5 (aa1 c)]at hR;show aR (aI TE m 192 5 [(0,qF ⟨b,1⟩),(1,qF ⟨b,2⟩),(2,qF ⟨b,3⟩),(3,qF ⟨b,5⟩),(4,qF ⟨b,6⟩)]) _;rw[b5,aA];exact hR _ _ _ rfl rfl (aaV _)
  rw[aa4 (aaZ c)]at hR;rw[aW,ae,ak];refine av (λc=>?_) (λc=>?_)
  ·rw[aa5 (aa1 c)]at hR;show aR (aI TE m 192 2 [(0,qF ⟨b,7⟩),(1,qF ⟨b,10⟩)]) _;rw[b2,aA];exact hR _ _ _ rfl rfl (aaV _)
  rw[aa4 (aaZ c)]at hR;refine bA (λvs mm lo=>vs=[.bool (decide (t.kind=5\/t.kind=8))]/\m=mm/\m.n<=lo) (λQ hQ=>?_) ?_
  ·rw[aW,ae,ak];refine av (λc=>hQ _ _ _ ⟨?_,rfl,aaV _⟩) (λc=>?_);·rw[c,abb (Or.inl (aa1 c))]
   ·rw[aW,ae]
    refine hQ _ _ _ ⟨?_,rfl,aaV _⟩
    have c:=aaZ c
    congr 2
    exact decide_eq_decide.2 ⟨λh=> .inr h,λh=>h.resolve_left c⟩
  rintro _ _ lo ⟨rfl,rfl,a0⟩;rw[aE,ak];refine av (λc=>?_) (λc=>?_)
  ·rw[aa5 (aa1 c)]at hR;show aR (aI TE m 192 2 [(0,qF ⟨b,7⟩),(1,qF ⟨b,9⟩)]) _;rw[b2,aA];exact hR _ _ _ rfl rfl a0
  rw[aa4 (aaZ c)]at hR;rw[aW,ae,ak];refine av (λc=>?_) (λc=>?_)
  ·rw[aa5 (aa1 c)]at hR;show aR (aI TE m 192 3 [(0,qF ⟨b,7⟩),(1,qF ⟨b,8⟩),(2,qF ⟨b,10⟩)]) _;rw[b3,aA];exact hR _ _ _ rfl rfl a0
  rw[aa4 (aaZ c)]at hR;show aR (aI TE m 192 1 [(0,qF ⟨b,7⟩)]) _;rw[b1,aA];exact hR _ _ _ rfl rfl a0
 refine H _ λL m' lo hL hm a0=> .inr ⟨.inl rfl,by omega,?_,?_⟩;·rw[hm];exact Ext.refl.push
 show Sl m' (PD b t) (aer m.n 0 L.length L.length);rw[<-hL,hm];exact S3 M.aY
end
end Go.Proofs.YtigpcbodmjjaiaaGreatDoor
