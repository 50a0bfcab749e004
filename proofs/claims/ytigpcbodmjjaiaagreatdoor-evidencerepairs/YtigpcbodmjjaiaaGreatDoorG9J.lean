/- putlogref27.Step. -/
import Derived.Test.YtigpcbodmjjaiaaGreatDoorG8J
set_option maxRecDepth 100000
open Go Go.D Go.Proofs.Tryz
namespace Go.Proofs.YtigpcbodmjjaiaaGreatDoor
section
variable {X:aK} {m:M}
noncomputable def vX(y:Yd)(t:Tk):Option Yd:=if dB t=true then Hc wQ dz cZ y t else none
theorem Bl{y:Yd}{t:Tk}:vX y t=(kb wQ dz cZ y t).map λp=>⟨p.1,p.2,Fe y t,Fs y t,QV y t⟩:=by
 unfold vX kb Hc;grind
abbrev W8:Φ:=yv (.slice none 0 0) (.slice none 0 0) (.slice none 0 0) (.slice none 0 0) (.slice none 0 0)
def mC(D:Option Yd)(m':M)(rv:Φ):Prop:=match D with
 |some z=>∃r r2 st rc mo,rv=.tuple #[yv r r2 st rc mo,.int .i64 0]/\lR m' z r r2 st rc mo
 |none=>rv=.tuple #[W8,.int .i64 270]
theorem dK{α:Type}[aW α]{m':M}{l:List α}{v:Φ}(h:Sl m' l v)(hf:D.bw v):l=[]/\v=YM:=by
 rcases h with⟨h1,h2⟩|⟨b,o,c,bc,g,h1,_⟩;·grind
 rw[h1]at hf;simp[D.bw]at hf
theorem lR.flat{z:Yd}{m':M}{r r2 st rc mo:Φ}(h:lR m' z r r2 st rc mo)(hf:D.bw r/\D.bw r2/\D.bw st/\D.bw rc/\D.bw mo)(m:M):lR m z r r2 st rc mo:=by have⟨⟨l,h1,h2⟩,h3,⟨k,h4,h5⟩,h6,h7⟩:=h;have⟨f1,f2,f3,f4,f5⟩:=hf;obtain⟨e1,rfl⟩:=dK h2.sl f1;obtain⟨e2,rfl⟩:=dK h3 f2;obtain⟨e3,rfl⟩:=dK h5.sl f3;obtain⟨e4,rfl⟩:=dK h6 f4;obtain⟨e5,rfl⟩:=dK h7 f5;subst e1 e3;exact⟨⟨[],h1,⟨.nil,λx hx=>(by cases hx),λx hx=>(by cases hx),.inl rfl⟩⟩,e2 ▸ .nil,⟨[],h4,EG.nil⟩,e4 ▸ .nil,e5 ▸ .nil⟩
theorem mC.flat{D:Option Yd}{m':M}{r r2 st rc mo t:Φ}(h:mC D m' (.tuple #[yv r r2 st rc mo,t]))(hf:bA (.tuple #[yv r r2 st rc mo,t]))(m:M):mC D m (.tuple #[yv r r2 st rc mo,t]):=by
 unfold mC at h⊢;split at h;·have⟨_,_,_,_,_,e,hs⟩:=h;cases e;have a0:((D.bw r && (D.bw r2 && (D.bw st && (D.bw rc && (D.bw mo && true))))) && (true && true)):=hf;simp only[JJ]at a0;exact⟨_,_,_,_,_,rfl,hs.flat ⟨a0.1.1,a0.1.2.1,a0.1.2.2.1,a0.1.2.2.2.1,a0.1.2.2.2.2.1⟩ m⟩
 exact h
theorem Wk{u:Un}{w:Φ}:aJ TE 113 [(0,u.v w)]=some (KW.v ⟨u,w,[],YM⟩):=Et rfl
theorem PC{r r2:Φ}:aJ TE 38 [(0,.agg #[r,r2])]=some (yv r r2 YM YM YM):=acz rfl
theorem Wh{a b c:Int}:aJ TE 109 [(0,YR a),(1,YR b),(2,YR c)]=some (Mo.v ⟨a,b,c⟩):=wF rfl rfl rfl
theorem RS:aJ TE 38 []=some W8:=KN
def jB{α:Type}(R:α->α->Prop)[DecidableRel R](D:Prop)[Decidable D](l:List α)(x:α)(add:Bool)(i:Nat)(acc:List α):Prop:=if D then nW R l x add i acc else add=false/\acc=l.take i
section
variable {α:Type} {R:α->α->Prop} [DecidableRel R] {D:Prop} [Decidable D] {l:List α} {x n:α} {i:Nat} {acc:List α} {add:Bool}
theorem jB.init:jB R D l x (decide D) 0 []:=by
 unfold jB;split;·rename_i h;rw[IH h];exact .nil
 ·grind
theorem jB.put(a0:∀a b c,R a b->R b c->R a c)(b0:∀a,¬R a a)(h:jB R D l x true i acc)(hn:l[i]?=some n)(d0:¬R n x):jB R D l x false (i+1) (acc++ [x]++if(D->R x n\/R n x)then [n]else []):=by
 unfold jB at h⊢;by_cases hD:D
 ·rw[Tf hD]at h⊢;have:=h.put a0 b0 hn d0;grind
 ·grind
theorem jB.on(b0:∀a b c,R a b->R b c->R a c)(d0:∀a,¬R a a)(h:jB R D l x true i acc)(hn:l[i]?=some n)(a0:R n x):jB R D l x true (i+1) (acc++if(D->R x n\/R n x)then [n]else []):=by
 unfold jB at h⊢;rw[Tf λ_=> .inr a0];by_cases hD:D;·rw[Tf hD]at h⊢;exact h.on b0 d0 hn a0
 ·grind
theorem jB.off(a0:∀a b c,R a b->R b c->R a c)(hs:l.Pairwise R)(h:jB R D l x false i acc)(hn:l[i]?=some n):jB R D l x false (i+1) (acc++if(D->R x n\/R n x)then [n]else []):=by
 unfold jB at h⊢;by_cases hD:D
 ·rw[Tf hD]at h⊢;have⟨h1,h2⟩:=h.off a0 hs hn;grind
 ·rw[QL hD]at h⊢;rw[Tf λhc=>(hD hc).elim,Q1,hn,h.2];grind
theorem jB.fin(a0:∀a,¬R a a)(b0:∀a b c,R a b->R b c->R a c)(h:jB R D l x add l.length acc):(acc++if add=true then [x]else [])=if D then DY R l x else l:=by
 unfold jB at h;by_cases hD:D
 ·rw[Tf hD]at h⊢;exact h.fin a0 b0
 ·grind
end
theorem ad4{y:Yd}{t:Tk}:Fs y t=if t.kind=8/\(⟨t.id,t.side⟩:Fc)∉y.rc then DY gZ y.rc ⟨t.id,t.side⟩else y.rc:=rfl
theorem TQ{y:Yd}{t:Tk}:QV y t=if t.kind=9 then DY lP y.mo ⟨t.id,t.other,t.du⟩else y.mo:=rfl
theorem QB{y:Yd}{t:Tk}{p:List Un×List Mk}(h:kb wQ dz cZ y t=some p)(k:t.kind=2):(ck y.us t.id).isSome:=by
 unfold kb at h;split at h
 ·obtain⟨l,hl, -⟩:=Me.1 h;unfold jA at hl;grind
 cases h
theorem gC.Xh{vs:List Un}{ns:List Mk}{m' m'':M}{v:Φ}(h:gC vs ns m' v)(hk:∀c cs t g,m'.get c=.cells cs t g->(t=60\/t=141\/t=137)->m''.get c=.cells cs t g):gC vs ns m'' v:=by
 have⟨acc,r,r2,e,h1,h2,h3⟩:=h
 exact⟨acc,r,r2,e,h1,h2.aV λc cs t g hc ht=>hk c cs t g hc (by grind),h3.aV λc cs t g hc ht=>hk c cs t g hc (by
  have:t=137:=by simpa[aW.ty,aW.cT]using ht
  grind)⟩
theorem SG{l:List Mk}{v:Φ}(h:Sl m l v){i:Nat}{x:Mk}(hx:l[i]?=some x):∃b o,ak TE 31 v (YR i)=some (Ga b o)/\ah TE m 3 (Ga b (o+1))=some (YR x.un)/\ah TE m 137 (Ga b o)=some x.v:=by
 have⟨b,o,bc,g,cs,e1,hb,hr,hle,hj⟩:=h.fa dv (k:=.i64) hx;obtain rfl:cs=x.c:=hr;refine⟨b,o,e1,?_,?_⟩;·rw[bF,aI hb];exact hj 1 (by show 1<5;decide)
 have⟨p,a0,e2,e3,e4⟩:=h.index dv (k:=.i64) hx;obtain rfl:p=Ga b o:=Option.some.inj (e2.symm.trans e1);obtain rfl:a0=x.c:=e4;exact e3
theorem QN{x:Mk}:aF TE m 31 1 [(0,x.v)]=some (.slice (some ⟨m.n,0,none⟩) 1 1,m.push (.cells x.c 137 none)):=by kernel_rfl
theorem adL:qH TE 31 Mk:=⟨ag.t31,ag.t137,by kernel_rfl,rfl,rfl,by kernel_rfl,by decide,rfl⟩
theorem Rh{b:Nat}{u:Un}{w mv:Φ}{l l':List Mk}(g:m.get b=.cells (KW.c ⟨u,w,l',mv⟩) 113 none)(ho:Ow (b+1) m l mv){x:Mk}(hl:l.length<1000000):
  ∃a m1 r' m2 m3,aF TE m 31 1 [(0,x.v)]=some (a,m1)/\av TE (M.wl m1 (M.n m1)) .append [31,31] [mv,a]=some (r',m2)/\aD TE m2 31 (Ga b (0+6)) r'=some (m3,b)/\b+1<=m2.low/\
   m3.get b=.cells (KW.c ⟨u,w,l',r'⟩) 113 none/\Ow (b+1) m3 (l++ [x]) r'/\m.n<=m3.n/\(∀c,c<b->m3.get c=m.get c):=by
 obtain⟨m1,a0⟩:∃q,q=m.push (.cells x.c 137 none):=⟨_,rfl⟩
 have b0:Ext m m1:=a0 ▸ Ext.refl.push;have d0:m1.get m.n=.cells x.c 137 none:=by rw[a0];exact M.aX
 have e0:=M.aU g;have g0:=b0.n;obtain⟨r',m2,m3,p1,p2,p3,p4,p5,p6,p7,p8⟩:=M9 (n1:=b+1) (o:=6) adL rfl Ha rfl g (by rfl) (by omega) (by omega) ho b0 (gU (x:=x) d0 rfl) hl;exact⟨_,m1,r',m2,m3,a0 ▸ QN,p1,p2,p3,p4,p5,by omega,λc hc=>p7 c (by omega) (by omega)⟩
end
section
variable {X:aK} {m:M}
theorem jZ.mob{m0:M}{O:Nat}{r r2:Φ}{k:List Kp}{rl:List Fc}{ml:List Mo}{rc mo:Φ}(h:jZ m0 O m r r2 k rl ml rc mo){a:Addr}{n c:Nat}(e:mo=.slice (some a) n c):a.block<m.n:=by
 have⟨⟨sl,st,h1,h2,h3⟩,h4,h5⟩:=h;subst e;rcases h2.mo.sl with⟨h6,_⟩|⟨b,o,c',bc,g,h6,h7,_⟩;·cases h6
 cases h6;exact M.aU h7
set_option maxHeartbeats 4000000 in
theorem zW(hX:cd X){y:Yd}{r r2 st rc mo:Φ}{t:Tk}{w:Φ}(hV:lR m y r r2 st rc mo)(hP:qG y)(hw:Sl m t.un.shape w)(g5:t.un.shape.length < 100000):
  ∃rv m',C X (.func 27) [yv r r2 st rc mo,t.v w] m m.n rv m'/\Ext m m'/\mC (vX y t) m' rv:=by
 refine Cl.EL hX (Kg func27) ?_
 have H:∀R:Bt->M->Nat->Prop,(∀(r r2 st rc mo t':Φ) (m':M) (lo:Nat),m.n<=lo->Ext m m'->mC (vX y t) m' (.tuple #[yv r r2 st rc mo,t'])->R [yv r r2 st rc mo,t'] m' lo)->dk TE (aL TE X) f27 [yv r r2 st rc mo,t.v w] m R:=by
  intro R hR;rw[F27];dsimp only[aL,Fm,Wo,Zt,LH,RW,ZC,Ke,Oq,JW,Qt,JA,Wb,IJ,Nn,RI,Γ,Λ,ω];refine aw λm1 k7 A3 i5=>?_;refine aw λm2 l7 B3 C3=>?_;refine aw λm3 o7 D3 N2=>?_;have N1:Ext m m3:=⟨by omega,by grind⟩
  have g1:m3.get m.n=.cells (yc r r2 st rc mo) 38 none:=by rw[N2 _ (by omega),C3 _ (by omega)];exact A3
  have g2:m3.get m1.n=.cells (t.c w) 62 none:=by rw[N2 _ (by omega)];exact B3
  have gz:m3.get m2.n=.cells (yc YM YM YM YM YM) 38 none:=D3;clear A3 i5 B3 C3 D3 N2;unfold ptrTo;simp only[cF,dG,dF,eV,cB,cn,bZ,cE,cD,dh,cO,dO,eF,ae];have j5:=hV.aE N1;have⟨⟨l,O1,hF⟩,E3,⟨kl,b1,hK⟩,k5,l5⟩:=j5;have m5:cq (bM l):=by rw[O1];exact hP.qE
  have s6:l.length<=12:=by have:=hP.qE.len;rwa[<-O1,cx]at this
  have u6:kl.length<=12:=by have:=hP.Qq;rwa[<-b1,qn]at this
  have v6:=hP.Ss;have w6:=hP.SF;have n5:=hP.BN.len;rw[(dW g1).2.2.2.2,ae,gI g2,ae];have⟨rv,m7,c7,x7,a7⟩:=abS (m:=m3) hX (hV.aE N1) hP (hw.aE N1) g5;refine aG c7 ?_
  obtain⟨v7,q,q2,ok,rfl,o1,o2,r0⟩:∃v7 q q2 ok,rv=.tuple #[v7,.agg #[q,q2],.bool ok]/\one q=true/\one q2=true/\(match kb wQ dz cZ y t with |some (vs,ns)=>ok=true/\gC vs ns m7 (.agg #[q,q2]) |none=>ok=false):=by
   unfold zQ at a7
   cases hs:kb wQ dz cZ y t with
   |none=>
    grind
   |some d=>have⟨vs,ns⟩:=d;rw[hs]at a7;obtain⟨v,p,p2,rfl,h1⟩:=a7;have⟨_,_,_,e,_,h2,h3⟩:=id h1;cases e;exact⟨_,_,_,_,rfl,h2.sl.one,h3.one,rfl,h1⟩
  have n7:=x7.n;rw[aH,aH,aH];simp only[zi,F9,ae];refine aw λm12 y6 d2 O2=>?_;refine aC eH d2 rfl rfl (by show(one q && (one q2 && true))=true;rw[o1,o2];rfl) λm13 z6 i2 G3=>?_;have gS:m13.get m7.n=.cells [q,q2] 33 none:=i2;have d1:Ext m7 m13:=⟨by omega,by grind⟩
  have j0:=x7.trans d1;have i1:=N1.trans j0;have n13:=d1.n;have g1:=j0.cells g1;have g2:=j0.cells g2;have gz:=j0.cells gz;clear d2 O2 i2 G3 a7 c7;have A6:m.n<=min m.n m3.n:=by omega
  rw[bk,ae,aj];refine an (λc=>?_) (λc=>?_)
  ·rw[Jd]at c
   subst c
   rw[RS,ae]
   refine aC ka gz rfl rfl rfl λm17 B6 H3 I3=>?_
   rw[(dW H3).2.2.2.2,ae]
   refine hR _ _ _ _ _ _ _ _ (by omega) ⟨by omega,λc hc=>by rw[I3 c (by omega),i1.get c hc]⟩ ?_
   rw[Bl]
   cases hs:kb wQ dz cZ y t with
   |none=>rfl
   |some d=>have⟨vs,ns⟩:=d;rw[hs]at r0;exact absurd r0.1 (by decide)
  rw[Q0]at c;subst c
  obtain⟨⟨vs,ns⟩,hs⟩:∃p,kb wQ dz cZ y t=some p:=by
   cases hs:kb wQ dz cZ y t with
   |none=>rw[hs]at r0;have r0:true=false:=r0;cases r0
   |some d=>exact⟨d,rfl⟩
  rw[hs]at r0;obtain⟨-,J3⟩:=r0;have hD:vX y t=some ⟨vs,ns,Fe y t,Fs y t,QV y t⟩:=by rw[Bl,hs];rfl
  rw[hD]at hR;rw[(jC gS).2.2.2,ae,PC,ae];refine aw λm22 C6 l2 K3=>?_;refine aC ka l2 rfl rfl (by show(one q && (one q2 && true))=true;rw[o1,o2];rfl) λm23 D6 v2 L3=>?_;have gO:m23.get m13.n=.cells (yc q q2 YM YM YM) 38 none:=v2;have y0:Ext m13 m23:=⟨by omega,by grind⟩
  have n23:=y0.n;have N3:nh m13.n m23 q q2 [] [] [] YM YM YM:=⟨gO,.nil,.nil,.nil,by omega⟩
  clear l2 K3 v2 L3;have u0:=hK.aE j0;have kx:∀{mm:M} {sl:List KW},Ext m13 mm->(∀x∈sl,x∈kl)->∀x∈sl,Sl mm x.u.shape x.w/\Sl mm x.ms x.mv/\x.u.shape.length < 1000000/\x.ms.length < 1000000:=λhe hm x hx=>⟨(u0.sh x (hm x hx)).aE he,(u0.mv x (hm x hx)).aE he,u0.ln x (hm x hx),u0.lm x (hm x hx)⟩
  refine aZ (λP2 mm lo=>P2=[]/\m.n<=lo/\jZ m13 m13.n mm q q2 (Fe y t) [] [] YM YM) (λQ hQ=>?_) ?_
  ·have⟨tk,tid,Jf,T2,a3⟩:=nq (y0.cells g2);rw[tk,ae,aS,ae,aj];refine an (λk2=>?_) (λk2=>?_)
   ·have k2:=NT k2;rw[(dW (y0.cells g1)).1,ae,tid,ae];obtain⟨p7,O3,o5,a4,f37⟩:=iW (m:=m23) hX (hF.aE (j0.trans y0)) (by omega) E3.one t.id;refine aG o5 ?_;obtain⟨u,wu,is,rfl,fu⟩:=f37.SP m5;have n37:=a4.n;rw[aH,aH];simp only[zi,F9,ae];refine aw λr7 E6 y2 b4=>?_;refine aC dm y2 rfl rfl (Un.cH fu.sl.one) λp0 F6 z2 c4=>?_;have gu:p0.get O3.n=.cells (u.c wu) 60 none:=z2;have k1:Ext O3 p0:=⟨by omega,λc hc=>by grind⟩
    rw[bU gu,ae,Wk,ae];refine aw λs7 G6 A2 d4=>?_;refine aC Bj A2 rfl rfl (KW.cH (x:=⟨u,wu,[],YM⟩) fu.sl.one rfl) λg4 H6 B2 k4=>?_;have gK:g4.get p0.n=.cells (KW.c ⟨u,wu,[],YM⟩) 113 none:=B2;have C2:Ext p0 g4:=⟨by omega,λc hc=>by grind⟩
    have n42:=k1.n;have n47:=C2.n;have l1:=a4.trans k1;have s0:=y0.trans l1;clear y2 b4 z2 c4 A2 d4 B2 k4
    have r5:is=true:=by
     have:=QB hs k2;rw[O1]at fu;rw[fu.eq]at this;cases is;·cases this
     rfl
    subst r5;have P1:ck y.us t.id=some u:=by rw[<-O1];exact fu.eq
    have u5:=E3.aE (j0.trans s0);refine Lp.intro (γ:=Nat) (λj=>y.ms.length-j) (λj vs mm lo=>∃mv,vs=[.int .i64 j]/\j<=y.ms.length/\Ext p0 mm/\m.n<=lo/\mm.get p0.n=.cells (KW.c ⟨u,wu,[],mv⟩) 113 none/\Ow (p0.n+1) mm ((y.ms.take j).filter λx=>decide (x.un=t.id)) mv/\p0.n < mm.n) 0 ⟨_,rfl,ZE _,C2,by omega,gK,.nil,by omega⟩ ?_;rintro j vs mm lo ⟨mv,rfl,hj,b0,q0,gk,v1,l4⟩;have y1:=u5.aE b0;obtain⟨-,K0, -⟩:=nq ((s0.trans b0).cells g2);rw[aB,(xB ((s0.trans b0).cells g1)).2.2,ae,y1.len dv,az,aM,ae,aj]
    have m4:((y.ms.take j).filter λx=>decide (x.un=t.id)).length<=20:=by have:=Ei (λx:Mk=>decide (x.un=t.id)) (y.ms.take j);rw[Gy]at this;omega
    refine an (λn0=>?_) (λA0=>?_)
    ·have n0:j < y.ms.length:=by grind
     obtain⟨x,hx⟩:∃x,y.ms[j]?=some x:=⟨_,Fx n0⟩
     have⟨b,o,p1,p2,p3⟩:=SG y1 hx;refine aZ (λvs m' a0=>∃T1,vs=[]/\Ext p0 m'/\m.n<=a0/\m'.get p0.n=.cells (KW.c ⟨u,wu,[],T1⟩) 113 none/\Ow (p0.n+1) m' ((y.ms.take (j+1)).filter λx=>decide (x.un=t.id)) T1/\p0.n < m'.n) (λQ' C0=>?_) ?_
     ·rw[ae,p1,ae,dn,ae,p2,ae,K0,ae,aS,ae,aj];refine an (λc=>?_) (λc=>?_)
      ·obtain⟨a,E0,r',F0,G0,e1,e2,e3,e4,e5,e6,e7,e8⟩:=Rh (x:=x) gk v1 (by omega);rw[(EJ gk).2.2.1,ae,ae,p1,ae,p3,ae,e1,az,e2,az,e3,az];refine C0 _ _ _ ⟨r',rfl,⟨by grind,λc hc=>by rw[e8 c hc,b0.get c hc]⟩,by omega,e5,?_,by omega⟩;rw[Q1,hx,WN];simp only[Gf,Lm,c,RK,Wm];exact e6
      refine C0 _ _ _ ⟨mv,rfl,b0,q0,gk,?_,l4⟩;rw[Q1,hx,WN];simp only[Gf,Lm,c,Wm,Zu];simpa using v1
     rintro _ m' a0 ⟨T1,rfl,h1,h2,h3,h4,h5⟩;rw[aP,ae,wrap64];exact⟨j+1,by omega,T1,rfl,by omega,h1,h2,h3,h4,h5⟩
    obtain rfl:j=y.ms.length:=by have:¬(j:Int)< (y.ms.length:Int):=Ja A0;omega
    rw[V9]at v1 m4;have a2:=s0.trans b0;have na:=b0.n;have b3:=u0.aE a2;refine Lp.intro (γ:=Nat) (λi=>kl.length-i) (λi vs m' lo=>vs=[.int .i64 i]/\i<=kl.length/\mm=m'/\m.n<=lo/\∀x∈kl.take i,x.u.id < t.id) 0 ⟨rfl,ZE _,rfl,q0,λx hx=>by cases hx⟩ ?_;rintro i _ _ fO ⟨rfl,hi,rfl,z0,n4⟩;rw[aB];refine aZ (λvs m' a0=>∃b:Bool,vs=[.bool b]/\mm=m'/\m.n<=a0/\(b=true->∃x,kl[i]?=some x/\x.u.id < t.id)/\(b=false->∀x,kl[i]?=some x->¬x.u.id < t.id)) (λQ' C0=>?_) ?_
    ·rw[(dW (a2.cells g1)).2.1,ae,b3.sl.len eM,az,aM,ae,aj];refine an (λn0=>?_) (λA0=>?_)
     ·have n0:i < kl.length:=by grind
      obtain⟨x,hx⟩:∃x,kl[i]?=some x:=⟨_,Fx n0⟩
      obtain⟨b,o,e1,e2, -⟩:=Az b3.sl hx;rw[ae,e1,ae,bW,ae,bz,ae,e2,ae,K0,ae,aM,ae];refine C0 _ _ _ ⟨_,rfl,rfl,z0,λc=>⟨x,hx,NT c⟩,λc z hz=>?_⟩;rw[hx]at hz;cases hz;exact Ja c
     refine C0 _ _ _ ⟨false,rfl,rfl,z0,λc=>(by cases c),λ_ z hz=>?_⟩;have:¬(i:Int)< (kl.length:Int):=Ja A0;have:=(OJ.1 hz).1;omega
    rintro _ _ c3 ⟨b,rfl,rfl,v0,v5,w5⟩;rw[aB,aj];refine an (λc=>?_) (λc=>?_)
    ·have⟨x,hx,y5⟩:=v5 c;have:=(OJ.1 hx).1;rw[aP,ae,wrap64];refine⟨i+1,by omega,rfl,by omega,rfl,v0,λz hz=>?_⟩;rw[Q1,hx]at hz;rcases OH.1 hz with hz |hz;·exact n4 z hz
     simp only[Gf,Qk]at hz;rw[hz];exact y5
    have d3:nh m13.n mm q q2 [] [] [] YM YM YM:=N3.aE (l1.trans b0);obtain⟨J6,o4,u4⟩:=b3.cap.to eM (by kernel_rfl) hi;rw[(dW d3.cell).2.1,ae,(dW (a2.cells g1)).2.1,ae,o4,ae];obtain⟨K6,L6,D2,v4,f119,w4, -⟩:=d3.st.append CE (by decide) u4 (by omega) (by grind);have⟨E2,y4,z4,j1,j2,j3,j4⟩:=d3.PO D2 v4 f119.n w4 f119.get;rw[D2,az,y4,az];have z5:E2.get p0.n=.cells (KW.c ⟨u,wu,[],mv⟩) 113 none:=by grind
    rw[(dW z4.cell).2.1,ae,(EJ z5).2.2.2,ae];obtain⟨a,A4,r',N6,B4,e1,e2,e3,e4,g3,p1,p2,p3,p4,p5⟩:=z4.qd (x:=⟨u,wu,(y.ms.filter λx=>decide (x.un=t.id)),mv⟩) ⟨fu.sl.one,v1.sl.one⟩ (by grind);have e1:aF TE E2 34 1 [(0,KW.v ⟨u,wu,[],mv⟩)]=some (a,A4):=e1;rw[e1,az,e2,az,e3,az];have z1:Ext m13 B4:=⟨by omega,λc hc=>by rw[p2 c hc,j2 c hc,a2.get c hc]⟩
    have A5:=u0.aE z1;obtain⟨v138,C4,D4⟩:=A5.cap.from eM (by kernel_rfl) hi;rw[(dW g3.cell).2.1,ae,(dW (z1.cells g1)).2.1,ae,C4,ae];obtain⟨v139,O6,F2,E4,n139,F4,f139, -⟩:=g3.st.vT CE rfl (by simp) D4 (by omega) (by grind);have⟨G2,G4,B5,r1,C5,r3,r4⟩:=g3.PO F2 E4 n139 F4 f139;rw[F2,az,G4,az];have A1:Ext m13 G2:=⟨by omega,λc hc=>by rw[C5 c hc,z1.get c hc]⟩
    have fh:∀c cs t' g,mm.get c=.cells cs t' g->t'≠113->t'≠38->G2.get c=.cells cs t' g:=λc cs t' g hc h1 h2=>r3 _ _ _ _ (p3 _ _ _ _ (j3 _ _ _ _ hc h1 h2) h1 h2) h1 h2;refine hQ _ _ _ ⟨rfl,by omega,⟨⟨_,_,?_,B5,?_⟩,A1,rfl⟩⟩
    ·have D5:=acX (f:=λk:Kp=>k.un.id) (l:=y.st) (x:=⟨u,y.ms.filter λx=>decide (x.un=t.id)⟩) (k:=i) hP.tP (by grind) ?_ ?_
     ·unfold Fe;rw[Tf k2,P1];show _=Cb _ _ _;rw[D5,<-b1];simp only[EK,Zi,Cu,Kt,Rj,RE,List.map_drop,WO,Jv]
     ·intro z hz;rw[<-b1,<-RE]at hz;obtain⟨x,hx,rfl⟩:=LY.1 hz;show x.u.id < u.id;rw[(fX P1).2];exact n4 x hx
     intro z hz;have B0:=hP.off z (LZ hz) u (fX P1).1;rw[<-b1,Z0]at hz;obtain⟨x,hx,rfl⟩:=Tq.1 hz;have h1:=w5 c x hx;rw[<-(fX P1).2]at h1;have B0:u.id≠x.u.id:=B0;show u.id < x.u.id;omega
    intro x hx;rw[Zi,WO,OH]at hx;rcases hx with hx |hx;·exact kx A1 (λz hz=>OO hz) x hx
    rcases RN.1 hx with rfl |hx
    ·refine⟨(fu.sl.aE (k1.trans b0)).aV λc cs t' g hc ht=>fh c cs t' g hc ?_ ?_,v1.sl.aV λc cs t' g hc ht=>fh c cs t' g hc ?_ ?_,fu.ln,By m4 (by decide)⟩ <;>
      (simp only[aW.ty,aW.cT,RN,ZX,or_false]at ht;subst ht;decide)
    exact kx A1 (λz hz=>ZJ hz) x hx
   have k2:=Ja k2;refine Lp.intro (γ:=Nat) (λi=>kl.length-i) (λi vs mm lo=>∃B1,vs=[.int .i64 i]/\i<=kl.length/\m.n<=lo/\Ext m13 mm/\nh m13.n mm q q2 ((kl.take i).filter λx=> !decide (t.kind=3) || !decide (x.u.id=t.id)) [] [] B1 YM YM) 0 ⟨_,rfl,ZE _,by omega,y0,N3⟩ ?_;rintro i vs mm lo ⟨B1,rfl,hi,q0,b0,hO⟩;have H4:=u0.aE b0;obtain⟨E5,K0, -⟩:=nq (b0.cells g2);have hY:=(dW (b0.cells g1)).2.1;rw[aB,hY,ae,H4.sl.len eM,az,aM,ae,aj];refine an (λn0=>?_) (λA0=>?_)
   ·have n0:i < kl.length:=by grind
    obtain⟨x,hx⟩:∃x,kl[i]?=some x:=⟨_,Fx n0⟩
    have⟨b,o,e1,e2,e3,w1,w2⟩:=Az H4.sl hx;have nm:=b0.n;refine aZ (λvs m' a0=>∃B1,vs=[]/\m.n<=a0/\Ext m13 m'/\nh m13.n m' q q2 ((kl.take (i+1)).filter λx=> !decide (t.kind=3) || !decide (x.u.id=t.id)) [] [] B1 YM YM) (λQ' C0=>?_) ?_
    ·refine aZ (λvs m' a0=>vs=[.bool (!decide (t.kind=3) || !decide (x.u.id=t.id))]/\mm=m'/\m.n<=a0) (λQ2 o0=>?_) ?_
     ·rw[E5,ae,bL,ae,aj];refine an (λc=>o0 _ _ _ ⟨by grind,rfl,q0⟩) (λc=>?_);rw[ae,e1,ae,bW,ae,bz,ae,e2,ae,K0,ae,bL,ae];exact o0 _ _ _ ⟨by grind,rfl,q0⟩
     rintro _ _ fO ⟨rfl,rfl,z0⟩;rw[aB,aj];refine an (λc=>?_) (λc=>?_)
     ·obtain⟨a,E0,r',F0,G0,f1,f2,f3,f4,G5,f5,f6, -⟩:=hO.qd (x:=x) ⟨w1,w2⟩ (By (Ei _ _) (by grind));rw[(dW hO.cell).2.1,ae,hY,ae,e1,ae,e3,ae,f1,az,f2,az,f3,az];refine C0 _ _ _ ⟨r',rfl,by omega,⟨by omega,λc hc=>by rw[f6 c hc,b0.get c hc]⟩,?_⟩;rw[Q1,hx,WN];simp only[Gf,Lm,c,RK,Wm];exact G5
     refine C0 _ _ _ ⟨B1,rfl,z0,b0,?_⟩;rw[Q1,hx,WN];simp only[Gf,Lm,c,Wm,Zu];simpa using hO
    rintro _ m' a0 ⟨J4,rfl,h1,h2,h3⟩;rw[aP,ae,wrap64];exact⟨i+1,by omega,J4,rfl,by omega,h1,h2,h3⟩
   obtain rfl:i=kl.length:=by have:¬(i:Int)< (kl.length:Int):=Ja A0;omega
   rw[V9]at hO;refine hQ _ _ _ ⟨rfl,q0,⟨⟨_,_,?_,hO,kx b0 λx hx=>(RL.1 hx).1⟩,b0,rfl⟩⟩;unfold Fe;rw[QL k2,<-b1];by_cases k3:t.kind=3
   ·rw[Tf k3]
    unfold EK
    rw[List.filter_map]
    congr 1
    apply List.filter_congr
    intro x _
    rw[IH k3];rfl
   rw[QL k3,QJ.2 λx _=>by grind]
  rintro _ P0 b7 ⟨rfl,H5,C1⟩;have K4:=C1.x;have n27:=K4.n;have d7:=C1.lt;have⟨tk,tid,Jf,T2,a3⟩:=nq (K4.cells g2);rw[tid,ae,T2,ae,zo,ae];refine aw λg7 I5 D1 i3=>?_;refine aC qI D1 rfl rfl rfl λE1 J5 F1 l3=>?_;have gf:E1.get P0.n=.cells (Fc.c ⟨t.id,t.side⟩) 53 none:=F1;have H2:Ext P0 E1:=⟨by omega,λc hc=>by grind⟩
  have n196:=H2.n;have H0:=C1.aE H2;clear D1 i3 F1 l3;have I0:=k5.aE j0;have n3:=l5.aE j0;refine aZ (λP2 mm lo=>P2=[.bool (decide (t.kind=8/\(⟨t.id,t.side⟩:Fc)∉y.rc))]/\E1=mm/\m.n<=lo) (λQ hQ=>?_) ?_
  ·rw[(nq (H0.x.cells g2)).1,ae,aS,ae,aj];refine an (λc=>?_) (λc=>?_)
   ·rw[(dW (H0.x.cells g1)).2.2.2.2,ae,(qq gf).2.2,ae];refine aG (qM hX (I0.aE H0.x) (by omega) ⟨t.id,t.side⟩) ?_;rw[bk,ae];refine hQ _ _ _ ⟨?_,rfl,by omega⟩;have c:=NT c;by_cases e:(⟨t.id,t.side⟩:Fc)∈y.rc;·rw[IH e,Dh λh=>h.2 e];rfl
    rw[Dh e,IH ⟨c,e⟩];rfl
   refine hQ _ _ _ ⟨?_,rfl,by omega⟩;rw[Dh λh=>(Ja c) h.1]
  rintro _ _ fO ⟨rfl,rfl,z0⟩;rw[aB];have K5:∀(i:Nat) (n:Fc),y.rc[i]?=some n->(t.kind=8/\(⟨t.id,t.side⟩:Fc)∉y.rc->gZ ⟨t.id,t.side⟩ n\/gZ n ⟨t.id,t.side⟩):=λi n hn hd=>HC λe=>hd.2 (e ▸ LZ hn);refine Lp.intro (γ:=Nat) (λi=>y.rc.length-i) (λi vs mm lo=>∃add acc rv,vs=[.bool add,.int .i64 i]/\i<=y.rc.length/\m.n<=lo/\jZ m13 m13.n mm q q2 (Fe y t) acc [] rv YM/\jB gZ (t.kind=8/\(⟨t.id,t.side⟩:Fc)∉y.rc) y.rc ⟨t.id,t.side⟩ add i acc/\acc.length<=2*i/\mm.get P0.n=.cells (Fc.c ⟨t.id,t.side⟩) 53 none/\(∀a n k,rv=.slice (some a) n k->P0.n≠a.block)) 0 ⟨_,[],_,rfl,ZE _,z0,H0,jB.init,Ox _,gf,λa n k e=>by cases e⟩ ?_;rintro i vs mm lo ⟨add,acc,rv,rfl,hi,q0,hW,hI,o3,gf,B0⟩;have b0:=hW.x;have L4:=I0.aE b0
  have L5:=M.aU gf;rw[aB,aB,(dW (b0.cells g1)).2.2.1,ae,L4.len dA,az,aM,ae,aj];refine an (λn0=>?_) (λA0=>?_)
  ·have n0:i < y.rc.length:=by grind
   obtain⟨x,hx⟩:∃x,y.rc[i]?=some x:=⟨_,Fx n0⟩
   have⟨p,e1,e2⟩:=lZ L4 hx;have hT:=K5 i x hx;refine aZ (λvs m' a0=>∃e0 d0 k0,vs=[.bool e0]/\m.n<=a0/\jZ m13 m13.n m' q q2 (Fe y t) d0 [] k0 YM/\jB gZ (t.kind=8/\(⟨t.id,t.side⟩:Fc)∉y.rc) y.rc ⟨t.id,t.side⟩ e0 (i+1) (d0++ [x])/\d0.length<=2*i+1/\m'.get P0.n=.cells (Fc.c ⟨t.id,t.side⟩) 53 none/\(∀a n k,k0=.slice (some a) n k->P0.n≠a.block)) (λQ hQ=>?_) ?_
   ·refine aZ (λvs m' a0=>vs=[.bool (add && decide (gZ ⟨t.id,t.side⟩ x))]/\mm=m'/\m.n<=a0) (λQ2 o0=>?_) ?_
    ·rw[aj];refine an (λc=>?_) (λc=>o0 _ _ _ ⟨by grind,rfl,q0⟩);rw[(qq gf).2.2,ae,ae,e1,ae,e2,ae];refine aG (vR hX ⟨t.id,t.side⟩ x) ?_;exact o0 _ _ _ ⟨by grind,rfl,by grind⟩
    rintro _ _ c3 ⟨rfl,rfl,v0⟩;rw[aB,aj];refine an (λc=>?_) (λc=>?_)
    ·rw[JJ]at c;obtain⟨rfl,c⟩:=c;have c:=NT c;obtain⟨a,E0,r',F0,G0,f1,f2,f3,f4,g0,f5,f6,f7⟩:=hW.sD (x:=⟨t.id,t.side⟩) (by omega);rw[hW.Zc,ae,(qq gf).2.2,ae,f1,az,f2,az,f3,az];refine hQ _ _ _ ⟨false,_,r',rfl,by omega,g0,?_,by grind,by grind,λa n k e=>by grind⟩;have:=hI.put rB BP hx λh=>BP _ (rB _ _ _ c h);rw[Tf hT]at this;exact this
    ·refine hQ _ _ _ ⟨add,acc,rv,rfl,v0,hW,?_,by omega,gf,B0⟩
     cases add with
     |true=>
      have c:¬gZ ⟨t.id,t.side⟩ x:=Ja c;by_cases hd:t.kind=8/\(⟨t.id,t.side⟩:Fc)∉y.rc
      ·have:=hI.on rB BP hx ((hT hd).resolve_left c);rw[Tf hT]at this;exact this
      unfold jB at hI;rw[QL hd]at hI;cases hI.1
     |false=>have:=hI.off rB hP.Dq hx;rw[Tf hT]at this;exact this
   rintro _ m' a0 ⟨e0,d0,k0,rfl,h1,g0,h3,h4,h5,h6⟩;have N4:=I0.aE g0.x;have⟨p',N5,O5⟩:=lZ N4 hx;obtain⟨a,E0,r',F0,G0,f1,f2,f3,f4,b2,f5,f6,f7⟩:=g0.sD (x:=x) (by omega);rw[aB,g0.Zc,ae,(dW (g0.x.cells g1)).2.2.1,ae,N5,ae,O5,ae,f1,az,f2,az,f3,az,aP,ae,wrap64];have O4:=M.aU h5;exact⟨i+1,by omega,e0,_,r',rfl,by omega,by omega,b2,h3,by grind,by grind,λa n k e=>by grind⟩
  obtain rfl:i=y.rc.length:=by have:¬(i:Int)< (y.rc.length:Int):=Ja A0;omega
  have i0:=hI.fin BP rB;rw[<-ad4]at i0;refine aZ (λvs m' a0=>vs=[]/\m.n<=a0/\∃k0,jZ m13 m13.n m' q q2 (Fe y t) (Fs y t) [] k0 YM) (λQ hQ=>?_) ?_
  ·rw[aj];refine an (λc=>?_) (λc=>?_)
   ·obtain⟨a,E0,r',F0,G0,f1,f2,f3,f4,g0,f5,f6,f7⟩:=hW.sD (x:=⟨t.id,t.side⟩) (by omega);rw[hW.Zc,ae,(qq gf).2.2,ae,f1,az,f2,az,f3,az];rw[Tf c]at i0;rw[i0]at g0;exact hQ _ _ _ ⟨rfl,by omega,r',g0⟩
   rw[QL (by grind),Zu]at i0;rw[i0]at hW;exact hQ _ _ _ ⟨rfl,q0,rv,hW⟩
  clear hW hI o3 gf B0 i0;rintro _ l0 a6 ⟨rfl,c5,a1,J0⟩;have I2:=J0.x;have n271:=I2.n;have b6:=J0.lt;have⟨tk,tid,Jf,T2,a3⟩:=nq (I2.cells g2);rw[tid,ae,Jf,ae,a3,ae,Wh,ae];refine aw λi7 c6 G1 u3=>?_;refine aC Bk G1 rfl rfl rfl λJ2 d6 H1 v3=>?_;have gf:J2.get l0.n=.cells (Mo.c ⟨t.id,t.other,t.du⟩) 109 none:=H1;have K2:Ext l0 J2:=⟨by omega,λc hc=>by grind⟩
  have n291:=K2.n;have H0:=J0.aE K2;clear G1 u3 H1 v3;rw[(nq (H0.x.cells g2)).1,ae,aS,ae];refine Lp.intro (γ:=Nat) (λi=>y.mo.length-i) (λi vs mm lo=>∃add acc rv,vs=[.bool add,.int .i64 i]/\i<=y.mo.length/\m.n<=lo/\jZ m13 m13.n mm q q2 (Fe y t) (Fs y t) acc a1 rv/\jB lP (t.kind=9) y.mo ⟨t.id,t.other,t.du⟩ add i acc/\acc.length<=2*i/\mm.get l0.n=.cells (Mo.c ⟨t.id,t.other,t.du⟩) 109 none/\(∀a n k,rv=.slice (some a) n k->l0.n≠a.block/\a.block < mm.n)) 0 ⟨_,[],_,rfl,ZE _,by omega,H0,jB.init,Ox _,gf,λa n k e=>by cases e⟩ ?_;rintro i vs mm lo ⟨add,acc,rv,rfl,hi,q0,hW,hI,o3,gf,B0⟩;have b0:=hW.x;have y1:=n3.aE b0;have L5:=M.aU gf;have u7:=b0.n;rw[aB,aB,(dW (b0.cells g1)).2.2.2.1,ae,y1.len jH,az,aM,ae,aj]
  refine an (λn0=>?_) (λA0=>?_)
  ·have n0:i < y.mo.length:=by grind
   obtain⟨x,hx⟩:∃x,y.mo[i]?=some x:=⟨_,Fx n0⟩
   obtain⟨b,o,e1,e2, -⟩:=Au y1 hx;refine aZ (λvs m' a0=>∃e0 d0 k0,vs=[.bool e0]/\m.n<=a0/\jZ m13 m13.n m' q q2 (Fe y t) (Fs y t) d0 a1 k0/\jB lP (t.kind=9) y.mo ⟨t.id,t.other,t.du⟩ e0 (i+1) d0/\d0.length<=2*(i+1)/\m'.get l0.n=.cells (Mo.c ⟨t.id,t.other,t.du⟩) 109 none/\(∀a n k,k0=.slice (some a) n k->l0.n≠a.block/\a.block < m'.n)) (λQ hQ=>?_) ?_
   ·rw[ae,e1,ae,e2,ae];refine aw λj7 g6 I1 w3=>?_;refine aC Bk I1 rfl rfl rfl λL0 i6 J1 y3=>?_;have gn:L0.get mm.n=.cells (Mo.c x) 109 none:=J1;have K1:Ext mm L0:=⟨by omega,λc hc=>by grind⟩
    have n317:=K1.n;have gf:=K1.cells gf;have hW:=hW.aE K1;have j6:mm.n < L0.n:=by omega
    clear I1 w3 J1 y3
    have cond:decide (t.id < x.a\/t.id=x.a/\t.other<=x.b)= !decide (lP x ⟨t.id,t.other,t.du⟩):=by rw[<-decide_not];apply decide_eq_decide.2;unfold lP;show _↔¬(x.a < t.id\/x.a=t.id/\x.b < t.other);omega
    refine aZ (λvs m' a0=>∃e0 d0 k0,vs=[.bool e0]/\m.n<=a0/\jZ m13 m13.n m' q q2 (Fe y t) (Fs y t) d0 a1 k0/\jB lP (t.kind=9) y.mo ⟨t.id,t.other,t.du⟩ e0 (i+1) (d0++if(t.kind=9->lP ⟨t.id,t.other,t.du⟩ x\/lP x ⟨t.id,t.other,t.du⟩)then [x]else [])/\d0.length<=2*i+1/\m'.get l0.n=.cells (Mo.c ⟨t.id,t.other,t.du⟩) 109 none/\m'.get mm.n=.cells (Mo.c x) 109 none/\(∀a n k,k0=.slice (some a) n k->l0.n≠a.block/\mm.n≠a.block/\a.block < m'.n)) (λQ hQ=>?_) ?_
    ·refine aZ (λvs m' a0=>vs=[.bool (add && decide (t.id < x.a\/t.id=x.a/\t.other<=x.b))]/\L0=m'/\m.n<=a0) (λQ2 o0=>?_) ?_
     ·rw[aj];refine an (λc=>?_) (λc=>o0 _ _ _ ⟨by grind,rfl,by omega⟩);obtain⟨f1,f2, -⟩:=NI gf;obtain⟨h1,h2, -⟩:=NI gn;rw[f1,ae,h1,ae,aM,ae,aj];refine an (λc1=>o0 _ _ _ ⟨?_,rfl,by omega⟩) (λc1=>?_)
      ·have c1:t.id < x.a:=NT c1;rw[c,IH (Or.inl c1)];rfl
      have c1:¬t.id < x.a:=Ja c1;rw[ae,ae,aS,ae,aj];refine an (λc2=>?_) (λc2=>o0 _ _ _ ⟨?_,rfl,by omega⟩)
      ·have c2:t.id=x.a:=NT c2
       rw[f2,ae,h2,ae,cz,ae]
       refine o0 _ _ _ ⟨?_,rfl,by omega⟩
       rw[c,ZD]
       congr 2
       apply decide_eq_decide.2
       show t.other<=x.b↔_
       omega
      have c2:¬t.id=x.a:=Ja c2;rw[c,tx];rfl
     rintro _ _ c3 ⟨rfl,rfl,v0⟩;rw[cond,aB,aj];refine an (λc=>?_) (λc=>?_)
     ·rw[JJ]at c;obtain⟨rfl,c⟩:=c;rw[Jd]at c;have c:¬lP x ⟨t.id,t.other,t.du⟩:=Ja c;obtain⟨a,E0,r',F0,G0,f1,f2,f3,f4,g0,f5,f6,f7⟩:=hW.sE (x:=⟨t.id,t.other,t.du⟩) (by omega);rw[hW.Zd,ae,(NI gf).2.2.2,ae,f1,az,f2,az,f3,az];refine hQ _ _ _ ⟨false,_,r',rfl,by omega,g0,hI.put BO FK hx c,by grind,?_,?_,?_⟩;·rw[f6 l0.n (by omega) (by omega) λa n k e=>(B0 a n k e).1];exact gf
      ·rw[f6 mm.n (by omega) (by omega) λa n k e=>by grind];exact gn
      intro a n k e;have:=f7 a n k e;have:=g0.mob e;omega
     refine hQ _ _ _ ⟨add,acc,rv,rfl,v0,hW,?_,by omega,gf,gn,λa n k e=>?_⟩
     ·cases add with
      |true=>
       have c:lP x ⟨t.id,t.other,t.du⟩:=by have c:(!decide (lP x ⟨t.id,t.other,t.du⟩))=false:=c;rw[Q0]at c;exact NT c
       exact hI.on BO FK hx c
      |false=>exact hI.off BO hP.DJ hx
     have:=B0 a n k e;omega
    rintro _ m' a0 ⟨e0,d0,k0,rfl,h1,g0,h3,h4,h5,h6,h7⟩;rw[aB];have w7:=g0.x.n;refine aZ (λvs m'' a0=>vs=[.bool (decide (t.kind=9->lP ⟨t.id,t.other,t.du⟩ x\/lP x ⟨t.id,t.other,t.du⟩))]/\m'=m''/\m.n<=a0) (λQ2 o0=>?_) ?_
    ·have L2:(lP ⟨t.id,t.other,t.du⟩ x\/lP x ⟨t.id,t.other,t.du⟩)↔¬(t.id=x.a/\t.other=x.b):=by
      unfold lP
      show(t.id < x.a\/t.id=x.a/\t.other < x.b)\/(x.a < t.id\/x.a=t.id/\x.b < t.other)↔_
      omega
     obtain⟨f1,f2, -⟩:=NI h5
     obtain⟨u1,u2, -⟩:=NI h6
     rw[(nq (g0.x.cells g2)).1,ae,bL,ae,aj]
     refine an (λc=>o0 _ _ _ ⟨?_,rfl,h1⟩) (λc=>?_)
     ·rw[Jd]at c;have c:=Ja c;rw[IH λh=>absurd h c]
     rw[Q0]at c
     have c:=NT c
     rw[f1,ae,u1,ae,bL,ae,aj]
     refine an (λc1=>o0 _ _ _ ⟨?_,rfl,h1⟩) (λc1=>?_)
     ·rw[Jd]at c1;have c1:¬t.id=x.a:=Ja c1;rw[IH λ_=>L2.2 λh=>c1 h.1]
     rw[Q0]at c1
     have c1:t.id=x.a:=NT c1
     rw[f2,ae,u2,ae,bL,ae]
     refine o0 _ _ _ ⟨?_,rfl,h1⟩
     congr 2
     rw[<-decide_not]
     apply decide_eq_decide.2
     rw[L2]
     show¬t.other=x.b↔_
     constructor
     ·exact λh _ h'=>h h'.2
     ·exact λh h'=>h c ⟨c1,h'⟩
    rintro _ _ c3 ⟨rfl,rfl,v0⟩;rw[aB,aj];refine an (λc=>?_) (λc=>?_)
    ·have c:=NT c;rw[Tf c]at h3;obtain⟨a,E0,r',F0,G0,f1,f2,f3,f4,b2,f5,f6,f7⟩:=g0.sE (x:=x) (by omega);rw[g0.Zd,ae,(NI h6).2.2.2,ae,f1,az,f2,az,f3,az];have O4:=M.aU h5;refine hQ _ _ _ ⟨e0,_,r',rfl,by omega,b2,h3,by grind,?_,?_⟩;·rw[f6 l0.n O4 (by omega) λa n k e=>(h7 a n k e).1];exact h5
     intro a n k e;have:=f7 a n k e;have:=b2.mob e;omega
    have c:=Ja c;rw[QL c,Zu]at h3;exact hQ _ _ _ ⟨e0,d0,k0,rfl,v0,g0,h3,by omega,h5,λa n k e=>⟨(h7 a n k e).1,(h7 a n k e).2.2⟩⟩
   rintro _ m' a0 ⟨e0,d0,k0,rfl,h1,h2,h3,h4,h5,h6⟩;rw[aB,aP,ae,wrap64];exact⟨i+1,by omega,e0,d0,k0,rfl,by omega,h1,h2,h3,h4,h5,h6⟩
  obtain rfl:i=y.mo.length:=by have:¬(i:Int)< (y.mo.length:Int):=Ja A0;omega
  have i0:=hI.fin FK BO;rw[<-TQ]at i0;refine aZ (λvs m' a0=>vs=[]/\m.n<=a0/\∃k0,jZ m13 m13.n m' q q2 (Fe y t) (Fs y t) (QV y t) a1 k0) (λQ hQ=>?_) ?_
  ·rw[aj];refine an (λc=>?_) (λc=>?_)
   ·obtain⟨a,E0,r',F0,G0,f1,f2,f3,f4,g0,f5,f6,f7⟩:=hW.sE (x:=⟨t.id,t.other,t.du⟩) (by omega);rw[hW.Zd,ae,(NI gf).2.2.2,ae,f1,az,f2,az,f3,az];rw[Tf c]at i0;rw[i0]at g0;exact hQ _ _ _ ⟨rfl,by omega,r',g0⟩
   rw[QL (by grind),Zu]at i0;rw[i0]at hW;exact hQ _ _ _ ⟨rfl,q0,rv,hW⟩
  clear hW hI o3 gf B0 i0;rintro _ M2 k6 ⟨rfl,d5,R4,W4⟩;have xZ:=W4.x;have nZ:=xZ.n;obtain⟨⟨sl,a5,l6,D0,N0⟩, -, -⟩:=W4;rw[(dW D0.cell).2.2.2.2,ae];refine aC ka (xZ.cells gz) rfl rfl (by show(one q && (one q2 && (one a5 && (one a1 && (one R4 && true)))))=true;rw[o1,o2,D0.st.sl.one,D0.rc.sl.one,D0.mo.sl.one];rfl) λO0 m6 z3 L1=>?_;have b5:O0.get m2.n=.cells (yc q q2 a5 a1 R4) 38 none:=z3;rw[(dW b5).2.2.2.2,ae]
  have fh:∀c cs t' g,M2.get c=.cells cs t' g->t'≠38->O0.get c=.cells cs t' g:=λc cs t' g hc ht=>by rw[L1 c (λe=>by subst e;rw[xZ.cells gz]at hc;cases hc;exact ht rfl),hc]
  refine hR _ _ _ _ _ _ _ _ (by omega) ⟨by omega,λc hc=>by rw[L1 c (by omega),xZ.get c (by omega),i1.get c hc]⟩ ?_;obtain⟨acc,_,_,e,n6,o6,r6⟩:=gC.Xh (m'':=O0) J3 λc cs t' g hc ht=>fh c cs t' g ((d1.trans xZ).cells hc) (by grind);cases e;have kd:∀{c:Nat} {cs:Bt} {t':TypeId} {g:Option Nat},M2.get c=.cells cs t' g->t'≠38->O0.get c=.cells cs t' g:=λhc ht=>fh _ _ _ _ hc ht;refine⟨_,_,_,_,_,rfl,⟨acc,n6,o6⟩,r6,⟨sl,l6,⟨?_,?_,?_,?_,?_,?_⟩⟩,?_,?_⟩;·exact D0.st.sl.aV λc cs t' g hc ht=>kd hc (by simp only[aW.ty,aW.cT,RN,ZX,or_false]at ht;subst ht;decide)
  ·exact D0.st.YU.aV λc cs t' g hc ht=>kd hc (by simp only[aW.ty,aW.cT,RN,ZX,or_false]at ht;subst ht;decide)
  ·exact λx hx=>(N0 x hx).1.aV λc cs t' g hc ht=>kd hc (by simp only[aW.ty,aW.cT,RN,ZX,or_false]at ht;subst ht;decide)
  ·exact λx hx=>(N0 x hx).2.1.aV λc cs t' g hc ht=>kd hc (by simp only[aW.ty,aW.cT,RN,ZX,or_false]at ht;subst ht;decide)
  ·exact λx hx=>(N0 x hx).2.2.1
  ·exact λx hx=>(N0 x hx).2.2.2
  ·exact D0.rc.sl.aV λc cs t' g hc ht=>kd hc (by simp only[aW.ty,aW.cT,RN,ZX,or_false]at ht;subst ht;decide)
  exact D0.mo.sl.aV λc cs t' g hc ht=>kd hc (by simp only[aW.ty,aW.cT,RN,ZX,or_false]at ht;subst ht;decide)
 refine H _ λr r2 st rc mo t' m' lo q0 hx hs=>?_;show(bA (.tuple #[yv r r2 st rc mo,t'])=true/\m.n<=lo/\(m.n=m.n/\Ext m m/\mC _ m (.tuple #[yv r r2 st rc mo,t'])))\/((bA (.tuple #[yv r r2 st rc mo,t'])=false\/lo < m.n)/\(min m.n lo=m.n/\Ext m m'/\mC _ m' (.tuple #[yv r r2 st rc mo,t'])));cases hf:bA (.tuple #[yv r r2 st rc mo,t']);·exact .inr ⟨.inl rfl,by omega,hx,hs⟩
 exact .inl ⟨rfl,q0,rfl,.refl,hs.flat hf m⟩
end
section
variable {X:aK} {m:M}
theorem _root_.Go.D.Sl.YJ{l:List Ct}{v:Φ}(h:Sl m l v){i:Nat}{x:Ct}(hi:l[i]?=some x){k:IntKind}:∃a,ak TE 138 v (.int k i)=some a/\ah TE m 145 a=some x.v:=by have⟨a,cs,h1,h2,h3⟩:=h.index Fh (k:=k) hi;have h3:cs=x.c':=h3;subst h3;exact⟨a,h1,h2⟩
theorem Zs{b:Nat}{x:Ct}{g:Option Nat}(h:m.get b=.cells x.c' 145 g):
  ah TE m 3 (Ga b (0+0))=some (YR x.a)/\ah TE m 3 (Ga b (0+1))=some (YR x.b)/\
  ah TE m 141 (Ga b (0+2+0))=some x.p.v/\ah TE m 141 (Ga b (0+2+2))=some x.q.v:=by
 refine⟨?_,?_,?_,?_⟩;·rw[bF,aI h];rfl
 ·rw[bF,aI h];rfl
 ·rw[ll,aQ (n:=2) h (by grind)];rfl
 rw[ll,aQ (n:=2) h (by simp_all)];rfl
end
section
variable {X:aK} {m:M}
theorem dL(hX:cd X){c n:Int}(hc:lM c)(hn:0<n):C X (.func 66) [YR c,YR n] m m.n (YR (dR c n)) m:=by refine Cl.fG hX (Kg func66) ?_;rw[F66];dsimp only[η,ο,χ];simp only[jn,aB];exact mP hc hn (P:=λv=>bh [v]=YR (dR c n)/\m.n<=m.n) ⟨rfl,Ox _⟩
theorem jq{c:Int}{n:Nat}(hn:0<n):∃k:Nat,k<n/\dR c (n:Int)=k:=by obtain⟨q1,q2⟩:=kV (c:=c) (n:=(n:Int)) (by omega);exact⟨(dR c n).toNat,by omega,by omega⟩
theorem Bq{b:Nat}{r v:Φ}{g:Option Nat}(h:m.get b=.cells [r,v] 33 g):ah TE m 28 (Ga b (0+0+0))=some r:=by rw[dT,aI h];rfl
theorem ab6{b:Nat}{r v:Φ}{g:Option Nat}(h:m.get b=.cells [r,v] 33 g):ah TE m 30 (Ga b (0+0))=some (.agg #[r]):=by rw[eo,aQ (n:=1) h (by grind)];rfl
theorem Br{b:Nat}{r v:Φ}{g:Option Nat}(h:m.get b=.cells [r,v] 33 g):ah TE m 31 (Ga b (0+1))=some v:=by rw[ki,aI h];rfl
theorem pZ(hX:cd X){l:List UW}{r v:Φ}(hF:cP m l r)(hl:l.length<1000){c:Int}(hc:lM c):∃z,C X (.func 68) [.agg #[r,v],YR c] m m.n (YR z) m:=by
 have key:=Cl.FU (E:=TE) (X:=X) (f:=68) (args:=[.agg #[r,v],YR c]) (m:=m) (R:=λrv m' b=>b=m.n/\m'=m/\∃z,rv=YR z) (hX.no _ rfl) (Kg func68) rfl ?_;·obtain⟨rv,m',b,hc,rfl,rfl,z,rfl⟩:=key;exact⟨z,hc⟩
 rw[F68];dsimp only[δ,ε,ζ,η,κ,ρ,υ,χ,ψ];refine aw λm1 g0 b0 d0=>?_;have a0:Ext m m1:=⟨by omega,d0⟩
 have g1:m1.get m.n=.cells [r,v] 33 none:=b0;unfold ptrTo;simp only[bV,bJ,ae];rw[Bq g1,ae,(hF.aE a0).sl.len dc,az,aS,ae,aj];refine an (λh=>?_) (λh=>?_);·refine aG (dL hX hc (by decide)) ?_;exact .inl ⟨rfl,by omega,trivial,trivial,_,rfl⟩
 have e0:=Ja h;rw[ae,ae,(hF.aE a0).sl.len dc,az];obtain⟨k,hk,e⟩:=jq (c:=c) (n:=l.length) (by omega);refine aG (dL hX hc (by omega)) ?_;refine⟨Ox _,?_⟩;rw[e];obtain⟨x,hx⟩:∃x,l[k]?=some x:=⟨_,Fx hk⟩
 have⟨b,o,e1,e2,e3⟩:=rV (hF.aE a0).sl hx;rw[e1,ae,e2,ae,e3,ae];exact .inl ⟨rfl,by omega,trivial,trivial,_,rfl⟩
structure ni(m0:M)(T sb:Nat)(r r2:Φ)(m:M):Prop where
 x:∀c,c < T->m.get c=m0.get c
 n:m0.n<=m.n
 t:∃t w,m.get T=.cells (Tk.c t w) 62 none/\Sl m t.un.shape w/\t.un.shape.length<=4
 s:m.get sb=.cells [r,r2] 33 none
 ts:T < sb
 sn:sb < m.n
section
variable {m0:M} {T sb:Nat} {r r2:Φ}
theorem ni.aE{m':M}(h:ni m0 T sb r r2 m)(hx:Ext m m'):ni m0 T sb r r2 m':=by have⟨h1,h2,⟨t,w,h3,h4,h5⟩,h6,h7,h8⟩:=h;have hn:=hx.n;exact⟨λc hc=>by rw[hx.get c (by omega),h1 c hc],by omega,⟨t,w,hx.cells h3,h4.aE hx,h5⟩,hx.cells h6,h7,by omega⟩
theorem mL{l:List Pl}{w:Φ}{m':M}{cs:Bt}(h:Sl m l w)(hT:m.get T=.cells cs 62 none)(hk:∀c,c≠T->m'.get c=m.get c):Sl m' l w:=
 h.aV λc cs t g hc ht=>by
  have ht:t=141:=by simpa[aW.ty,aW.cT]using ht
  grind
theorem ni.st(h:ni m0 T sb r r2 m){j:Nat}{v:Int}{P:M->Nat->Prop}(hj:7<=j)(a0:j<=10)(hP:∀m',ni m0 T sb r r2 m'->m'.n=m.n->(∀c,c≠T->m'.get c=m.get c)->P m' T):
  aO (aD TE m 3 (Ga T (0+j)) (YR v)) P:=by
 have⟨h1,h2,⟨t,w,h3,h4,h5⟩,h6,h7,h8⟩:=h;refine zX h3 hj a0 λm' hn hg hk=>hP m' ⟨by grind,by omega,?_,by grind,h7,by omega⟩ hn hk;have hs:=mL h4 h3 hk;have⟨kd,un,id,ot,sd,mt⟩:=t;rcases(by omega:j=7\/j=8\/j=9\/j=10)with rfl|rfl|rfl|rfl;·exact⟨⟨kd,un,v,ot,sd,mt⟩,w,hg,hs,h5⟩
 ·exact⟨⟨kd,un,id,v,sd,mt⟩,w,hg,hs,h5⟩
 ·exact⟨⟨kd,un,id,ot,v,mt⟩,w,hg,hs,h5⟩
 exact⟨⟨kd,un,id,ot,sd,v⟩,w,hg,hs,h5⟩
theorem ni.stk(h:ni m0 T sb r r2 m){v:Int}{P:M->Nat->Prop}(hP:∀m',ni m0 T sb r r2 m'->m'.n=m.n->(∀c,c≠T->m'.get c=m.get c)->P m' T):
  aO (aD TE m 3 (Ga T (0+1+1)) (YR v)) P:=by have⟨h1,h2,⟨t,w,h3,h4,h5⟩,h6,h7,h8⟩:=h;refine bS rf h3 rfl (by show 0+1+1+1<=11;omega) rfl λm' hn hg hk=>hP m' ⟨by grind,by omega,?_,by grind,h7,by omega⟩ hn hk;exact⟨{t with un:={t.un with kind:=v}},w,hg,mL h4 h3 hk,h5⟩
theorem ni.stu(h:ni m0 T sb r r2 m){u:Un}{w:Φ}(hs:Sl m u.shape w)(hl:u.shape.length<=4){P:M->Nat->Prop}(hP:∀m',ni m0 T sb r r2 m'->m'.n=m.n->(∀c,c≠T->m'.get c=m.get c)->P m' T):
  aO (aD TE m 60 (Ga T (0+1)) (u.v w)) P:=by have⟨h1,h2,⟨t,w',h3,h4,h5⟩,h6,h7,h8⟩:=h;refine MB h3 hs.one λm' hn hg hk=>hP m' ⟨by grind,by omega,⟨{t with un:=u},w,hg,mL hs h3 hk,hl⟩,by grind,h7,by omega⟩ hn hk
end
set_option maxHeartbeats 2000000 in
theorem DC(hX:cd X){y:Yd}{r r2 st rc mo:Φ}(hV:lR m y r r2 st rc mo)(hP:qG y){i0 i1 i2 i3 i4 i5:Int}(h0:lM i0)(h1:lM i1)(h2:lM i2)(h3:lM i3)(h4:lM i4)(h5:lM i5):
  ∃(t:Tk) (w:Φ) (m':M),C X (.func 26) [yv r r2 st rc mo,.agg #[.int .i64 i0,.int .i64 i1,.int .i64 i2,.int .i64 i3,.int .i64 i4,.int .i64 i5]] m m.n (t.v w) m'/\Ext m m'/\Sl m' t.un.shape w/\t.un.shape.length<=4:=by
 refine Cl.TY hX (Kg func26) (R:=λrv m'=>∃(t:Tk) (w:Φ),rv=t.v w/\Ext m m'/\Sl m' t.un.shape w/\t.un.shape.length<=4) ?_ λrv m' hc ⟨t,w,e,h⟩=>⟨t,w,m',e ▸ hc,h⟩
 have H:∀R:Bt->M->Nat->Prop,(∀(t:Tk) (w:Φ) (m':M) (lo:Nat),m.n<=lo->Ext m m'->Sl m' t.un.shape w->t.un.shape.length<=4->R [t.v w] m' lo)->dk TE (aL TE X) f26 [yv r r2 st rc mo,.agg #[.int .i64 i0,.int .i64 i1,.int .i64 i2,.int .i64 i3,.int .i64 i4,.int .i64 i5]] m R:=by
  intro R hR;rw[F26];dsimp only[δ,ε,ζ,η,θ,ι,κ,ν,ρ,ς,υ,χ,ψ,Γ,Δ,Θ,Ξ,ω];refine aw λm1 H3 c1 c2=>?_;refine aw λm2 I3 d1 j1=>?_;refine aw λm3 J3 k1 H0=>?_;have d2:Ext m m3:=⟨by omega,by grind⟩
  have g1:m3.get m.n=.cells (yc r r2 st rc mo) 38 none:=by rw[H0 _ (by omega),j1 _ (by omega)];exact c1
  have g6:m3.get m1.n=.cells [.int .i64 i0,.int .i64 i1,.int .i64 i2,.int .i64 i3,.int .i64 i4,.int .i64 i5] 89 none:=by rw[H0 _ (by omega)];exact d1
  have gz:m3.get m2.n=.cells (Tk.c ⟨0,⟨0,0,0,[],0,0⟩,0,0,0,0⟩ YM) 62 none:=k1;clear c1 c2 d1 j1 k1 H0;unfold ptrTo
  have ix:∀i:Nat,i < 6->ak TE 89 (.pointer (some ⟨m1.n,0,none⟩)) (.int .i64 i)=some (.pointer (some ⟨m1.n,i,none⟩)):=λi hi=>by have:=Rt (b:=m1.n) (o:=0) (k:=.i64) (i:=i) hi;rwa[Wl]at this
  have ld:∀{mm:M} {i:Nat} {x:Int},mm.get m1.n=m3.get m1.n->[i0,i1,i2,i3,i4,i5][i]?=some x->ah TE mm 3 (.pointer (some ⟨m1.n,i,none⟩))=some (.int .i64 x):=λ{mm i x} hx hi=>by
   have hc:[Value.int .i64 i0,.int .i64 i1,.int .i64 i2,.int .i64 i3,.int .i64 i4,.int .i64 i5][i]?=some (.int .i64 x):=by
    grind
   rw[bF,aI (hx.trans g6),hc]
  have e0:ak TE 89 (.pointer (some ⟨m1.n,0,none⟩)) (.int .i64 0)=some (.pointer (some ⟨m1.n,0,none⟩)):=ix 0 (by decide);have e1:ak TE 89 (.pointer (some ⟨m1.n,0,none⟩)) (.int .i64 1)=some (.pointer (some ⟨m1.n,1,none⟩)):=ix 1 (by decide);have e2:ak TE 89 (.pointer (some ⟨m1.n,0,none⟩)) (.int .i64 2)=some (.pointer (some ⟨m1.n,2,none⟩)):=ix 2 (by decide);have e3:ak TE 89 (.pointer (some ⟨m1.n,0,none⟩)) (.int .i64 3)=some (.pointer (some ⟨m1.n,3,none⟩)):=ix 3 (by decide);have e4:ak TE 89 (.pointer (some ⟨m1.n,0,none⟩)) (.int .i64 4)=some (.pointer (some ⟨m1.n,4,none⟩)):=ix 4 (by decide);have e5:ak TE 89 (.pointer (some ⟨m1.n,0,none⟩)) (.int .i64 5)=some (.pointer (some ⟨m1.n,5,none⟩)):=ix 5 (by decide)
  simp only[cF,dG,bV,cB,cn,di,bZ,cE,cD,dh,cM,e0,e1,e2,e3,e4,e5,ae];have⟨⟨l,g2,hF⟩,I0,⟨kl,j2,hK⟩,K3,L3⟩:=hV;have l1:l.length<=12:=by have:=hP.qE.len;rwa[<-g2,cx]at this
  have L2:kl.length<=12:=by have:=hP.Qq;rwa[<-j2,qn]at this
  have k2:=hP.BN.len;rw[ld (i:=0) rfl rfl,ae];refine aG (dL hX h0 (by decide)) ?_;generalize dR i0 9=z0;rw[aP,ae];generalize IntKind.i64.wrap (1+z0)=z1;have bt:aJ TE 62 [(0,.int .i64 z1)]=some (Tk.v ⟨z1,⟨0,0,0,[],0,0⟩,0,0,0,0⟩ YM):=rP rfl;rw[bt,ae];refine aw λm11 M2 q0 o1=>?_;refine aC mF q0 rfl rfl rfl λm12 N2 r0 J0=>?_;have gT:m12.get m3.n=.cells (Tk.c ⟨z1,⟨0,0,0,[],0,0⟩,0,0,0,0⟩ YM) 62 none:=r0;have s0:Ext m3 m12:=⟨by omega,by grind⟩
  have n12:=s0.n;rw[(dW (s0.cells g1)).1,ae];refine aw λm16 P2 u0 p1=>?_;refine aC eH u0 rfl rfl (by show(one r && (one r2 && true))=true;rw[hF.sl.one,I0.one];rfl) λm17 Q2 v0 r1=>?_;have gS:m17.get m12.n=.cells [r,r2] 33 none:=v0;have j0:Ext m12 m17:=⟨by omega,by grind⟩
  have n17:=j0.n;have u1:m3.n < m12.n:=by omega
  have O0:ni m3 m3.n m12.n r r2 m17:=⟨by grind,by omega,⟨_,_,j0.cells gT,.nil,ZE 4⟩,gS,u1,by omega⟩
  clear q0 o1 r0 J0 u0 p1 v0 r1;have Ab:∀{mm:M},ni m3 m3.n m12.n r r2 mm->mm.get m1.n=m3.get m1.n:=λh=>h.x _ (by omega);have b0:∀{mm:M},ni m3 m3.n m12.n r r2 mm->Ext m mm:=λh=>⟨by have:=h.n;omega,λc hc=>by rw[h.x c (by omega),d2.get c hc]⟩
  have l2:∀{mm:M},ni m3 m3.n m12.n r r2 mm->mm.get m.n=.cells (yc r r2 st rc mo) 38 none:=λh=>(h.x _ (by omega)).trans g1;have T2:m.n<=min (min m.n m3.n) m12.n:=by omega
  refine aZ (λvs mm lo=>vs=[]/\m.n<=lo/\ni m3 m3.n m12.n r r2 mm) (λQ hQ=>?_) ?_
  ·rw[(nq (j0.cells gT)).1,ae,aS,ae,aj];refine an (λ_=>?_) (λ_=>?_)
   ·rw[ld (i:=1) (Ab O0) rfl,ae,ld (i:=2) (Ab O0) rfl,ae,ld (i:=3) (Ab O0) rfl,ae,ld (i:=4) (Ab O0) rfl,ae,ae,km (by decide),ae,ld (i:=5) (Ab O0) rfl,ae];rw[show aJ TE 89 [(0,.int .i64 i2),(1,.int .i64 i3),(2,.int .i64 i4),(3,.int .i64 (IntKind.i64.wrap (i4.tdiv 4))),(4,.int .i64 0),(5,.int .i64 i5)]=some (.agg #[.int .i64 i2,.int .i64 i3,.int .i64 i4,.int .i64 (IntKind.i64.wrap (i4.tdiv 4)),.int .i64 0,.int .i64 i5]) by kernel_rfl,ae];obtain⟨u,w,N3,o2,v1,hs,hl⟩:=Eu (m:=m17) (i4:=0) hX h1 h2 h3 h4 (mj (i4.tdiv 4)) (by unfold lM;omega) h5;refine aG o2 ?_;have n41:=v1.n;refine(O0.aE v1).stu hs hl λa4 O2 n44 b4=>?_;rw[ld (i:=5) (Ab O2) rfl,ae];refine aG (dL hX h5 (by decide)) ?_;rw[aP,ae];exact O2.stk λc4 O3 d4 f4=>hQ _ _ _ ⟨rfl,by omega,O3⟩
   rw[aS,ae,aj];refine an (λ_=>?_) (λ_=>?_)
   ·rw[(jC O0.s).2.2.2,ae,ld (i:=1) (Ab O0) rfl,ae];obtain⟨z,hc⟩:=pZ (m:=m17) hX (hF.aE (b0 O0)) (v:=r2) (by omega) h1;refine aG hc ?_;refine O0.st (j:=7) (by omega) (by omega) λm64 O1 w1 y1=>?_;have K0:=(hK.aE (b0 O1)).sl;rw[(dW (l2 O1)).2.1,ae,K0.len eM,az,bP,ae,aj];refine an (λc=>?_) (λc=>hQ _ _ _ ⟨rfl,by omega,O1⟩);have c:=NT c;rw[ae,ld (i:=1) (Ab O1) rfl,ae,ae,K0.len eM,az];obtain⟨k,hk,e⟩:=jq (c:=i1) (n:=kl.length) (by omega);refine aG (dL hX h1 (by omega)) ⟨Ox _,?_⟩;rw[e];obtain⟨x,hx⟩:∃x,kl[k]?=some x:=⟨_,Fx hk⟩
    obtain⟨b,o,f1,f2, -⟩:=Az K0 hx;rw[f1,ae,bW,ae,bz,ae,f2,ae];exact O1.st (j:=7) (by omega) (by omega) λu2 O2 v2 w2=>hQ _ _ _ ⟨rfl,by omega,O2⟩
   rw[aS,ae,aj];refine an (λ_=>?_) (λ_=>?_)
   ·rw[(jC O0.s).2.2.2,ae,ld (i:=1) (Ab O0) rfl,ae];obtain⟨z,hc⟩:=pZ (m:=m17) hX (hF.aE (b0 O0)) (v:=r2) (by omega) h1;refine aG hc ?_;exact O0.st (j:=7) (by omega) (by omega) λm64 O1 w1 y1=>hQ _ _ _ ⟨rfl,by omega,O1⟩
   rw[aS,ae,aj];refine an (λ_=>?_) (λ_=>?_)
   ·rw[(jC O0.s).2.2.2,ae,ld (i:=1) (Ab O0) rfl,ae];obtain⟨z,hc⟩:=pZ (m:=m17) hX (hF.aE (b0 O0)) (v:=r2) (by omega) h1;refine aG hc ?_;refine O0.st (j:=7) (by omega) (by omega) λm64 O1 w1 y1=>?_;rw[ld (i:=2) (Ab O1) rfl,ae];refine aG (dL hX h2 (by decide)) ?_;exact O1.st (j:=10) (by omega) (by omega) λu2 O2 v2 w2=>hQ _ _ _ ⟨rfl,by omega,O2⟩
   refine aZ (λvs mm lo=>∃b,vs=[.bool b]/\m17=mm/\m.n<=lo) (λQ' a0=>?_) ?_
   ·rw[aS,ae,aj];refine an (λ_=>a0 _ _ _ ⟨_,rfl,rfl,by omega⟩) (λ_=>?_);rw[aS,ae];exact a0 _ _ _ ⟨_,rfl,rfl,by omega⟩
   rintro _ _ fO ⟨b2,rfl,rfl,c3⟩;rw[aB,aj];refine an (λ_=>?_) (λ_=>?_)
   ·rw[(jC O0.s).2.2.2,ae,ld (i:=1) (Ab O0) rfl,ae];obtain⟨z,hc⟩:=pZ (m:=m17) hX (hF.aE (b0 O0)) (v:=r2) (by omega) h1;refine aG hc ?_;refine O0.st (j:=7) (by omega) (by omega) λd3 O1 n130 g3=>?_;rw[ld (i:=2) (Ab O1) rfl,ae];refine aG (dL hX h2 (by decide)) ?_;rw[dt,ae];refine O1.st (j:=9) (by omega) (by omega) λg0 O2 n139 j3=>?_;have hM:=I0.aE (b0 O2);refine aZ (λvs mm lo=>∃b,vs=[.bool b]/\g0=mm/\m.n<=lo/\(b=true->0 < y.ms.length)) (λQ' a0=>?_) ?_
    ·rw[Br O2.s,ae,hM.len dv,az,bP,ae,aj];refine an (λc=>?_) (λ_=>a0 _ _ _ ⟨_,rfl,rfl,by omega,λh=>by cases h⟩);have c:=NT c;rw[ld (i:=3) (Ab O2) rfl,ae];refine aG (dL hX h3 (by decide)) ?_;rw[aS,ae];exact a0 _ _ _ ⟨_,rfl,rfl,by omega,λ_=>by omega⟩
    rintro _ _ y2 ⟨b3,rfl,rfl,y0,z2⟩;rw[aB,aj];refine an (λc=>?_) (λ_=>hQ _ _ _ ⟨rfl,y0,O2⟩);have c:=z2 c;rw[Br O2.s,ae,ld (i:=2) (Ab O2) rfl,ae,ae,hM.len dv,az];obtain⟨k,hk,e⟩:=jq (c:=i2) (n:=y.ms.length) (by omega);refine aG (dL hX h2 (by omega)) ⟨Ox _,?_⟩;rw[e];obtain⟨x,hx⟩:∃x,y.ms[k]?=some x:=⟨_,Fx hk⟩
    obtain⟨b,o,f1, -,f3⟩:=SG hM hx;rw[f1,ae,f3,ae];refine aw λk3 A2 L0 B2=>?_;refine aC tT L0 rfl rfl rfl λA0 C2 N0 D2=>?_;have A1:A0.get g0.n=.cells x.c 137 none:=N0;have B0:Ext g0 A0:=⟨by omega,by grind⟩
    have O3:=O2.aE B0;have n170:=B0.n;have sn:=O2.sn;rw[dn,ae,(CL A1).2.1,ae];refine O3.st (j:=7) (by omega) (by omega) λB1 O4 n175 l3=>?_;have C1:B1.get g0.n=.cells x.c 137 none:=by grind
    rw[eE,ae,(CL C1).2.2.1,ae];exact O4.st (j:=9) (by omega) (by omega) λn3 O5 n180 o3=>hQ _ _ _ ⟨rfl,by omega,O5⟩
   refine aZ (λvs mm lo=>∃b,vs=[.bool b]/\m17=mm/\m.n<=lo) (λQ' a0=>?_) ?_
   ·rw[aS,ae,aj];refine an (λ_=>a0 _ _ _ ⟨_,rfl,rfl,by omega⟩) (λ_=>?_);rw[aS,ae];exact a0 _ _ _ ⟨_,rfl,rfl,by omega⟩
   rintro _ _ y2 ⟨b3,rfl,rfl,y0⟩;rw[aB,aj];refine an (λ_=>?_) (λ_=>?_)
   ·rw[ld (i:=1) (Ab O0) rfl,ae];refine aG (dL hX h1 (by decide)) ?_;refine O0.st (j:=7) (by omega) (by omega) λr3 O1 n196 u3=>?_;have hM:=I0.aE (b0 O1);rw[Br O1.s,ae,hM.len dv,az,bP,ae,aj];refine an (λc=>?_) (λc=>hQ _ _ _ ⟨rfl,by omega,O1⟩);have c:=NT c;rw[ae,ld (i:=1) (Ab O1) rfl,ae,ae,hM.len dv,az];obtain⟨k,hk,e⟩:=jq (c:=i1) (n:=y.ms.length) (by omega);refine aG (dL hX h1 (by omega)) ⟨Ox _,?_⟩;rw[e];obtain⟨x,hx⟩:∃x,y.ms[k]?=some x:=⟨_,Fx hk⟩
    have⟨b,o,f1,f2⟩:=NJ hM hx;rw[f1,ae,bX,ae,f2,ae];exact O1.st (j:=7) (by omega) (by omega) λv3 O2 n216 w3=>hQ _ _ _ ⟨rfl,by omega,O2⟩
   rw[ld (i:=3) (Ab O0) rfl,ae];refine aG (dL hX h3 (by decide)) ⟨Ox _,?_⟩;generalize dR i3 8=z3;rw[DU,az];obtain⟨k0,d0⟩:∃q,q=m17.push (.cells ([5,5,z3].map (.int .i64)) 3 none):=⟨_,rfl⟩
   rw[<-d0];have C0:Ext m17 k0:=d0 ▸ Ext.refl.push;have D1:k0.get m17.n=.cells ([5,5,z3].map (.int .i64)) 3 none:=by rw[d0];exact M.aX
   have O1:=O0.aE C0;have n224:=C0.n;rw[ld (i:=2) (Ab O1) rfl,ae];obtain⟨k,hk,e⟩:=jq (c:=i2) (n:=3) (by omega);refine aG (dL hX h2 (by decide)) ⟨Ox _,?_⟩;rw[show dR i2 3=(k:Int)from e];obtain⟨z4,E2⟩:∃z,[5,5,z3][k]?=some z:=⟨_,Fx (by exact hk)⟩
   have⟨p,cs,f1,f2,f3⟩:=(nw D1).index je (k:=.i64) E2;obtain rfl:cs=[.int .i64 z4]:=f3;have f1:ak TE 26 (.slice (some ⟨m17.n,0,none⟩) 3 3) (.int .i64 k)=some p:=f1;have f2:ah TE k0 3 p=some (.int .i64 z4):=f2;rw[f1,ae,f2,ae];refine O1.st (j:=10) (by omega) (by omega) λy3 O2 n233 A3=>?_;refine O2.st (j:=8) (by omega) (by omega) λE1 O3 n236 B3=>?_;rw[ab6 O3.s,ae];obtain⟨cv,C3,F1,D0,G1⟩:=adx (m:=E1) hX (hF.aE (b0 O3)) (by omega);refine aG F1 ?_;have O4:=O3.aE D0;have n241:=D0.n
   have hL:(uf (bM l)).length<=156:=by
    unfold uf;split
    ·have h1:=pk (bM l) (bM l).length;rw[cx]at h1⊢;have:l.length*(l.length+1)<=12*13:=JV l1 (by omega);omega
    simp
   have H1:=G1.sl;generalize uf (bM l)=L at hL H1;obtain⟨tq,wq,g4, -, -⟩:=O4.t;refine Lp.intro (γ:=Nat) (λi=>L.length-i) (λi vs mm lo=>vs=[.int .i64 i]/\i<=L.length/\m.n<=lo/\ni m3 m3.n m12.n r r2 mm/\Sl mm L cv) 0 ⟨rfl,ZE _,by omega,O4,H1⟩ ?_;rintro i vs mm lo ⟨rfl,hi,o0,O,hc⟩;rw[aB,hc.len Fh,az,aM,ae,aj];refine an (λF2=>?_) (λ_=>hQ _ _ _ ⟨rfl,o0,O⟩);have F2:i < L.length:=by grind
   refine aZ (λvs m' I1=>vs=[]/\m.n<=I1/\ni m3 m3.n m12.n r r2 m'/\Sl m' L cv) (λQ' a0=>?_) ?_
   ·rw[ld (i:=1) (Ab O) rfl,ae,az];obtain⟨k,hk,e⟩:=jq (c:=i1) (n:=L.length) (by omega);refine aG (dL hX h1 (by omega)) ?_;rw[e,aP,ae,wrap64,hc.len Fh,az,tF (by omega),ae];rw[show((i:Int)+(k:Int)).tmod (L.length:Int)=(((i+k)%L.length:Nat):Int) by grind];have hj:(i+k)%L.length < L.length:=TH _ (by omega);generalize (i+k)%L.length=j at hj;obtain⟨x,hx⟩:∃x,L[j]?=some x:=⟨_,Fx hj⟩
    have⟨p,f1,f2⟩:=hc.YJ (k:=.i64) hx;rw[f1,ae,f2,ae];refine aw λD3 G2 P0 H2=>?_;refine aC oY P0 rfl rfl rfl λE0 I2 b1 J2=>?_;have F0:E0.get mm.n=.cells x.c' 145 none:=b1;have l0:Ext mm E0:=⟨by omega,by grind⟩
    have Oa:=O.aE l0;have n267:=l0.n;have J1:=hc.aE l0;have nO:=O.n;have ts:=O.ts;have sn:=O.sn
    have K1:∀{ma mb:M},ni m3 m3.n m12.n r r2 ma->Sl ma L cv->(∀c,c≠m3.n->mb.get c=ma.get c)->Sl mb L cv:=λho hs hk=>by
     obtain⟨t,w,gt, -, -⟩:=ho.t;refine hs.aV λc cs t g hc ht=>?_;have ht:t=145:=by simpa[aW.ty,aW.cT]using ht
     subst ht;rw[hk c (by grind),hc]
    rw[wz,ae,(Zs F0).2.1,ae,bL,ae,aj];refine an (λ_=>?_) (λ_=>a0 _ _ _ ⟨rfl,by omega,Oa,J1⟩);rw[wA,ae,(Zs F0).1,ae];refine Oa.st (j:=7) (by omega) (by omega) λL1 Ob n275 N1=>?_;have P1:L1.get mm.n=.cells x.c' 145 none:=by grind
    rw[ae,(Zs P1).2.1,ae];exact Ob.st (j:=8) (by omega) (by omega) λE3 Oc n280 T1=>a0 _ _ _ ⟨rfl,by omega,Oc,K1 Ob (K1 Oa J1 N1) T1⟩
   rintro _ m' I1 ⟨rfl,a1,a2,a3⟩;rw[aP,ae,wrap64];exact⟨i+1,by omega,rfl,by omega,a1,a2,a3⟩
  rintro _ mm lo ⟨rfl,o0,h⟩;have⟨t,w,gt,hs,p0⟩:=h.t;rw[gI gt,ae];refine aC mF ((h.x _ (by omega)).trans gz) rfl rfl (Tk.cH hs.one) λK2 G3 n0 G0=>?_;have n0:K2.get m2.n=.cells (t.c w) 62 none:=n0;rw[gI n0,ae];refine hR _ _ _ _ (by omega) ⟨by have:=h.n;omega,λc hc=>by rw[G0 c (by omega),(b0 h).get c hc]⟩ (mL hs ((h.x _ (by omega)).trans gz) G0) p0
 refine H _ λt w m' lo o0 hx hs p0=>?_;show(bA (t.v w)=true/\m.n<=lo/\(m.n=m.n/\∃(t':Tk) (w':Φ),t.v w=t'.v w'/\Ext m m/\Sl m t'.un.shape w'/\t'.un.shape.length<=4))\/((bA (t.v w)=false\/lo < m.n)/\(min m.n lo=m.n/\∃(t':Tk) (w':Φ),t.v w=t'.v w'/\Ext m m'/\Sl m' t'.un.shape w'/\t'.un.shape.length<=4));cases hf:bA (t.v w);·exact .inr ⟨.inl rfl,by omega,t,w,rfl,hx,hs,p0⟩
 refine .inl ⟨rfl,o0,rfl,t,w,rfl,.refl,?_,p0⟩;rcases hs with h |⟨b,o,c,bc,g,rfl, -⟩;·exact .inl h
 exfalso;simp[bA,dC,bw]at hf
end
section
variable {X:aK} {m:M}
def EM{α:Type}[aW α](m:M)(l:List α)(v:Φ):Prop:=(l=[]/\v=.slice none 0 0)\/YW m l v
theorem EM.aE{α:Type}[aW α]{l:List α}{v:Φ}{m':M}(h:EM m l v)(hx:Ext m m'):EM m' l v:=h.imp id λh=>h.aE hx
theorem EM.r{α:Type}[aW α]{l:List α}{v:Φ}(h:EM m l v):oK m l v:=by
 rcases h with⟨rfl,rfl⟩|h;·exact .inl .nil
 exact h.1
theorem EM.to{α:Type}[aW α]{T t:TypeId}(hT:oU TE T t α){l:List α}{v:Φ}(h:EM m l v)(h0:slice? TE m T YM none (some (YR (0:Nat))) none=some YM){i:Nat}(hi:i<=l.length):
  ∃v',slice? TE m T v none (some (YR i)) none=some v'/\EM m (l.take i) v'/\cells v'=[v']/\one v':=by
 rcases h with⟨rfl,rfl⟩|⟨h1,b,o,c,rfl,h2,h3⟩
 ·obtain rfl:i=0:=by grind
  exact⟨_,h0,.inl ⟨rfl,rfl⟩,rfl,rfl⟩
 have⟨ti,te,t1,⟨e,t2⟩,t3,_⟩:=hT;refine⟨_,Jj t1 t2 (by rw[t3];exact aW.pos) (by grind) h2 (by omega),.inr ⟨?_,b,o,c,by grind,by grind,h3⟩,rfl,rfl⟩;have:=h1.part (i:=0) (k:=i) (c':=c) (by omega);rwa[QA,JE,PD]at this
theorem BF{x:TW}:aF TE m 39 1 [(0,x.v)]=some (.slice (some ⟨m.n,0,none⟩) 1 1,m.push (.cells x.c 62 none)):=by kernel_rfl
def KU(m:M)(b:Nat)(y:Yd):Prop:=qG y/\∃r r2 st rc mo,m.get b=.cells (yc r r2 st rc mo) 38 none/\lR m y r r2 st rc mo
theorem KU.aV{b:Nat}{y:Yd}{m':M}(h:KU m b y)(hb:m'.get b=m.get b)(hk:∀c cs t g,m.get c=.cells cs t g->t≠38->t≠62->m'.get c=.cells cs t g):KU m' b y:=by have⟨h1,r,r2,st,rc,mo,h2,h3⟩:=h;exact⟨h1,r,r2,st,rc,mo,hb.trans h2,h3.aV λc cs t g hc ht=>hk c cs t g hc (by grind) (by grind)⟩
theorem KU.aE{b:Nat}{y:Yd}{m':M}(h:KU m b y)(hx:Ext m m'):KU m' b y:=by have⟨h1,r,r2,st,rc,mo,h2,h3⟩:=h;exact⟨h1,r,r2,st,rc,mo,hx.cells h2,h3.aE hx⟩
def zt(m:M)(l:List TW):Prop:=∀x∈l,Sl m x.t.un.shape x.w/\x.t.un.shape.length<=4/\dB x.t=true
theorem zt.aV{l:List TW}{m':M}(h:zt m l)(hk:∀c cs g,m.get c=.cells cs 141 g->m'.get c=.cells cs 141 g):zt m' l:=λx hx=>
 ⟨(h x hx).1.aV λc cs t g hc ht=>by
  have ht:t=141:=by simpa[aW.ty,aW.cT]using ht
  subst ht;exact hk c cs g hc,(h x hx).2⟩
theorem adT{us:List Un}{ms:List Mk}(h1:cq us)(h2:il us ms):qG ⟨us,ms,[],[],[]⟩:=
 ⟨h1,h2,ZE _,ZE _,ZE _,.nil,λk hk=>(by cases hk),λk hk=>(by cases hk),λk hk=>(by cases hk),by
  show((ms++ []).map Mk.id).Nodup;rw[Zu];exact Te.2 (h2.tP.imp λh e=>by omega),by
  show(ms++ []).length<=20;rw[Zu];exact h2.len,λf hf=>(by cases hf),.nil,λx hx=>(by cases hx),.nil⟩
theorem Lg{rv:Φ}{m':M}{D:Option Yd}(h:mC D m' rv):∃a b c d e k,rv=.tuple #[yv a b c d e,YR k]/\(yc a b c d e).all one/\(∀z,D=some z->k=0/\lR m' z a b c d e)/\(D=none->k=270):=by
 unfold mC at h;cases D with
 |none=>exact⟨_,_,_,_,_,_,h,rfl,λz e=>(by cases e),λ_=>rfl⟩
 |some z=>obtain⟨r,r2,st,rc,mo,rfl,h⟩:=h;exact⟨_,_,_,_,_,_,rfl,h.dS,λz' e=>(by grind),λe=>(by cases e)⟩
theorem M6{y:Yd}{t:Tk}:(Fs y t).length<=y.rc.length+1:=by
 unfold Fs;split
 ·have h2:=rW (p:=λf:Fc=>decide (gZ f ⟨t.id,t.side⟩)) (q:=λf:Fc=>decide (gZ ⟨t.id,t.side⟩ f)) (λx h1 h2=>by
   have h1:gZ x ⟨t.id,t.side⟩:=NT h1;have h2:gZ ⟨t.id,t.side⟩ x:=NT h2;unfold gZ at h1 h2;grind) y.rc
  grind
 omega
theorem Qp{y z:Yd}{t:Tk}(hy:qG y)(h:vX y t=some z):z.rc.length<=y.rc.length+1:=by rw[Bl]at h;obtain⟨p, -,rfl⟩:=Tq.1 h;exact M6
set_option maxHeartbeats 2000000 in
theorem acf(hX:cd X){xs:List I6}{ks:List I4}{vb vk va:Φ}(hv:EM m xs vb)(c3:∀x∈xs,x.ok)(hlen:xs.length < 9223372036854775808)(hk:oK m ks vk)(N1:∀x∈ks,x.ok)(C1:ks.length < 9223372036854775808)(o4:one va=true)
  {ws:List I6} {vw:Φ} (hw:oK m ws vw) (O1:∀x∈ws,x.ok) (e3:ws.length < 9223372036854775808):
  ∃y r r2 st rc mo l v m',C X (.func 25) [.agg #[vb,vk,va],vw] m m.n (.tuple #[yv r r2 st rc mo,v]) m'/\Ext m m'/\qG y/\lR m' y r r2 st rc mo/\Sl m' l v/\zt m' l/\(l.length<=9/\y.rc.length<=9):=by
 refine Cl.TY hX (Kg func25) (R:=λrv m'=>∃y r r2 st rc mo l v,rv=.tuple #[yv r r2 st rc mo,v]/\Ext m m'/\qG y/\lR m' y r r2 st rc mo/\Sl m' l v/\zt m' l/\(l.length<=9/\y.rc.length<=9)) ?_ λrv m' hc ⟨y,r,r2,st,rc,mo,l,v,e,h⟩=>⟨y,r,r2,st,rc,mo,l,v,m',e ▸ hc,h⟩
 have H:∀R:Bt->M->Nat->Prop,(∀(y:Yd) (r r2 st rc mo:Φ) (l:List TW) (v:Φ) (m':M) (lo:Nat),m.n<=lo->Ext m m'->qG y->lR m' y r r2 st rc mo->Sl m' l v->zt m' l->(l.length<=9/\y.rc.length<=9)->R [yv r r2 st rc mo,v] m' lo)->dk TE (aL TE X) f25 [.agg #[vb,vk,va],vw] m R:=by
  intro R hR;rw[F25];dsimp only[δ,ε,ζ,η,θ,ι,κ,ν,ξ,ρ,ς,υ,χ,ψ,Δ,Λ];refine aw λm1 r4 P1 g3=>?_;refine aw λm2 u4 T1 c2=>?_;have e2:Ext m m2:=⟨by omega,by grind⟩
  have g1:m2.get m.n=.cells [vb,vk,va] 25 none:=by rw[c2 _ (by omega)];exact P1
  have gz:m2.get m1.n=.cells (yc YM YM YM YM YM) 38 none:=T1;clear P1 g3 T1 c2;unfold ptrTo;simp only[pH,ae];have h3:ah TE m2 22 (.pointer (some ⟨m.n,0+0,none⟩))=some vb:=by rw[HJ,aI g1];rfl
  have g2:=hv.aE e2;rw[h3,ae,ae,g2.r.len nv,az,kf,az];obtain⟨kr,v4⟩:∃kr:Nat,kr=min xs.length 5:=⟨_,rfl⟩
  rw[show min (xs.length:Int) 5=(kr:Int) by omega];obtain⟨v9,e9,s9,c9,o9⟩:=g2.to nv (by kernel_rfl) (i:=kr) (by omega);rw[e9,ae];refine bS Sn g1 (by rw[c9];rfl) (by grind) (by grind) λm11 C3 D3 P0=>?_;have g11:m11.get m.n=.cells [v9,vk,va] 25 none:=by grind
  have i2:m11.get m1.n=.cells (yc YM YM YM YM YM) 38 none:=by grind
  have o0:Ext m m11:=⟨by omega,λc hc=>by rw[P0 c (by omega),e2.get c hc]⟩
  have i3:oK m11 (xs.take kr) v9:=by refine s9.r.Xg (λb hb j3=>P0 b (λe=>?_)) rfl;subst e;have:=j3 _ _ _ g1;simp[aW.ty,aW.cT]at this
  rw[show ah TE m11 25 (.pointer (some ⟨m.n,0,none⟩))=some (.agg #[v9,vk,va]) by rw[BS,aQ (n:=3) g11 (by grind)];rfl,ae];obtain⟨l,r,ms,vm,m15,k3,G0,hF,hP,hM,l3⟩:=acm (m:=m11) (va:=va) hX i3 (λx hx=>c3 x (OO hx)) (by grind) (hk.aE o0) N1 C1;refine aG k3 ?_;have n15:=G0.n;rw[PC,ae];have p0:(yc r vm YM YM YM).all one=true:=by show(one r && (one vm && true))=true;rw[hF.sl.one,hM.one];rfl
  refine aw λm18 E3 c1 j2=>?_;refine aC ka c1 rfl rfl p0 λm19 G3 i1 o2=>?_;have gY:m19.get m15.n=.cells (yc r vm YM YM YM) 38 none:=i1;have j1:Ext m15 m19:=⟨by omega,by grind⟩
  rw[(dW gY).2.2.2.2,ae];refine aw λm22 H3 k1 u2=>?_;refine aC ka k1 rfl rfl p0 λm23 I3 l1 v2=>?_;have gN:m23.get m19.n=.cells (yc r vm YM YM YM) 38 none:=l1;have r0:Ext m19 m23:=⟨by omega,by grind⟩
  have n19:=j1.n;have n23:=r0.n;have i0:=j1.trans r0;have J3:m15.n < m19.n:=by omega
  have K3:m19.n < m23.n:=by omega
  have s0:lR m23 ⟨bM l,ms,[],[],[]⟩ r vm YM YM YM:=⟨⟨l,rfl,hF.aE i0⟩,hM.aE i0,⟨[],rfl,EG.nil⟩,.nil,.nil⟩
  have hyp:=adT hP l3;have y2:=(hw.aE o0).aE G0;have L3:=G0.cells i2;clear c1 j2 i1 o2 k1 u2 l1 v2;refine Lp.intro (γ:=Nat) (λi=>9-i) (λi vs mm lo=>∃l v y z,vs=[v,.int .i64 i]/\i<=9/\m.n<=lo/\(∀c,c < m15.n->mm.get c=m15.get c)/\m23.n<=mm.n/\KU mm m15.n y/\KU mm m19.n z/\Ow m23.n mm l v/\zt mm l/\(l.length<=i/\y.rc.length<=i/\z.rc.length<=i)) 0 ⟨[],_,_,_,rfl,by omega,by omega,λc hc=>i0.get c hc,Ox _,⟨hyp,_,_,_,_,_,r0.cells gY,s0⟩,⟨hyp,_,_,_,_,_,gN,s0⟩,.nil,λx hx=>(by cases hx),⟨ZE _,Ox 0,Ox 0⟩⟩ ?_;rintro i vs mm lo ⟨l,v,y,z,rfl,hi,D1,H0,w4,hy,hz,E1,u0,F1⟩;have A2:oK mm ws vw:=y2.aE ⟨by omega,H0⟩;rw[aB,aB];refine aZ (λvs m' I0=>∃b:Bool,vs=[.bool b]/\mm=m'/\m.n<=I0/\(b=true->i < ws.length/\i < 9)) (λQ hQ=>?_) ?_
  ·rw[A2.len nv,az,aM,ae,aj]
   refine an (λc=>?_) (λ_=>hQ _ _ _ ⟨_,rfl,rfl,D1,λh=>by cases h⟩)
   have c:(i:Int)< (ws.length:Int):=NT c
   rw[aM,ae]
   grind
  rintro _ _ fO ⟨b,rfl,rfl,N3,hb⟩;rw[aB,aj];refine an (λc=>?_) (λ_=>?_)
  ·have⟨m3,y4⟩:=hb c;refine aZ (λvs m' I0=>∃l v y z,vs=[v]/\m.n<=I0/\(∀c,c < m15.n->m'.get c=m15.get c)/\m23.n<=m'.n/\KU m' m15.n y/\KU m' m19.n z/\Ow m23.n m' l v/\zt m' l/\(l.length<=i+1/\y.rc.length<=i+1/\z.rc.length<=i+1)) (λQ hQ=>?_) ?_
   ·have⟨J0,a1,a2,a3,a4,a5,K0,B2⟩:=id hz
    obtain⟨x,hx⟩:∃x,ws[i]?=some x:=⟨_,Fx m3⟩
    obtain⟨bb,o,f1,f2, -⟩:=Oi A2 hx
    rw[(dW K0).2.2.2.2,ae,f1,ae,f2,ae]
    have⟨q0,q1,q2,q3,q4,q5⟩:=O1 x (LZ hx)
    have⟨t,w,L0,n3,C2,hs,o3⟩:=DC (m:=mm) hX B2 J0 q0 q1 q2 q3 q4 q5
    refine aG n3 ⟨Ox _,?_⟩
    have n50:=C2.n
    refine aw λz4 O3 o1 D2=>?_
    refine aC mF o1 rfl rfl (Tk.cH hs.one) λN0 c4 p1 E2=>?_
    have gt:N0.get L0.n=.cells (t.c w) 62 none:=p1
    have l0:Ext L0 N0:=⟨by omega,by grind⟩
    have A4:=l0.n
    have e4:L0.n < N0.n:=by omega
    have G1:=C2.trans l0
    clear o1 D2 p1 E2
    rw[(dW (G1.cells K0)).2.2.2.2,ae,gI gt,ae]
    obtain⟨rv,H1,r3,O0,u3⟩:=zW (m:=N0) (t:=t) hX (B2.aE G1) J0 (hs.aE l0) (by omega)
    refine aG r3 ?_
    have B4:=O0.n
    obtain⟨b1,b2,b3,b4,b5,k,rfl,ob,F2,v3⟩:=Lg u3
    rw[aH,aH]
    simp only[zi,F9,ae]
    refine aw λC4 f4 r1 G2=>?_
    refine aC ka r1 rfl rfl ob λI1 g4 u1 H2=>?_
    have gn:I1.get H1.n=.cells (yc b1 b2 b3 b4 b5) 38 none:=u1
    have e0:Ext H1 I1:=⟨by omega,by grind⟩
    have D4:=e0.n
    have b0:=G1.trans (O0.trans e0)
    clear r1 G2 u1 H2
    rw[bL,ae,aj]
    refine an (λc=>?_) (λc=>?_)
    ·exact hQ _ _ _ ⟨l,v,y,z,rfl,by omega,λc hc=>by rw[b0.get c (by omega),H0 c hc],by omega,hy.aE b0,hz.aE b0,E1.aE b0,u0.aV λc cs g hc=>b0.cells hc,by omega⟩
    rw[Q0]at c
    have c:k=0:=NT c
    subst c
    cases hD:vX z t with
    |none=>exact absurd (v3 hD) (by decide)
    |some z2=>
    obtain⟨-,w3⟩:=F2 z2 hD
    have j0:dB t=true:=by
     unfold vX at hD;split at hD;·rename_i h;exact h
     cases hD
    have v0:qG z2:=by unfold vX at hD;rw[Tf j0]at hD;exact Dc J0 j0 hD
    have h4:=Qp J0 hD
    rw[(dW gn).2.2.2.2,ae]
    refine aC ka (b0.cells K0) rfl rfl ob λa0 j4 I2 n0=>?_
    have k4:a0.get m19.n=.cells (yc b1 b2 b3 b4 b5) 38 none:=I2
    have d0:∀c cs t' g,I1.get c=.cells cs t' g->t'≠38->a0.get c=.cells cs t' g:=λc cs t' g hc ht=>by rw[n0 c (λe=>by subst e;rw[b0.cells K0]at hc;cases hc;exact ht rfl),hc]
    have J2:a0.get H1.n=.cells (yc b1 b2 b3 b4 b5) 38 none:=by grind
    have v1:lR a0 z2 b1 b2 b3 b4 b5:=(w3.aE e0).aV λc cs t' g hc ht=>d0 c cs t' g hc (by grind)
    have w1:KU a0 m15.n y:=(hy.aE b0).aV (n0 _ (by omega)) λc cs t' g hc h1 h2=>d0 c cs t' g hc h1
    have y0:Ow m23.n a0 l v:=(E1.aE b0).om rfl λc h1 h2=>n0 c (by omega)
    have z0:zt a0 l:=(u0.aV λc cs g hc=>b0.cells hc).aV λc cs g hc=>d0 c cs _ g hc (by decide)
    have l4:∀c,c < m15.n->a0.get c=m15.get c:=λc hc=>by rw[n0 c (by omega),b0.get c (by omega),H0 c hc]
    rw[aM,ae,aj]
    refine an (λc=>?_) (λc=>?_)
    ·have⟨y1,d1,d2,d3,d4,d5,J1,A0⟩:=id w1;rw[(dW J2).2.2.2.2,ae];refine aC ka J1 rfl rfl ob λK1 m4 K2 z1=>?_;have L2:K1.get m15.n=.cells (yc b1 b2 b3 b4 b5) 38 none:=K2
     have B0:∀c cs t' g,a0.get c=.cells cs t' g->t'≠38->K1.get c=.cells cs t' g:=λc cs t' g hc ht=>by rw[z1 c (by grind),hc]
     have A1:lR K1 z2 b1 b2 b3 b4 b5:=v1.aV λc cs t' g hc ht=>B0 c cs t' g hc (by grind);refine hQ _ _ _ ⟨l,v,z2,z2,rfl,by omega,by grind,by omega,⟨v0,_,_,_,_,_,L2,A1⟩,⟨v0,_,_,_,_,_,by grind,A1⟩,y0.om rfl λc h1 h2=>z1 c (by omega),z0.aV λc cs g hc=>B0 c cs _ g hc (by decide),by omega⟩
    ·have M2:a0.get L0.n=.cells (t.c w) 62 none:=d0 _ _ _ _ ((O0.trans e0).cells gt) (by decide);rw[gI M2,ae]
     have N2:Sl a0 t.un.shape w:=(hs.aE (l0.trans (O0.trans e0))).aV λc cs t' g hc ht=>d0 c cs t' g hc (by
      have ht:t'=141:=by simpa[aW.ty,aW.cT]using ht
      subst ht;decide)
     refine fq (T:=39) (x:=(⟨t,w⟩:TW)) zr rfl y0 (by omega) (by omega) BF (λ_=>⟨rfl,hs.one⟩) λr' L1 w2 n2 k2 y3 l2=>?_
     have k0:∀c cs t' g,a0.get c=.cells cs t' g->t'≠62->L1.get c=.cells cs t' g:=λc cs t' g hc ht=>by rw[y3 c (M.aU hc) λE4 g' e=>by rw[hc]at e;cases e;exact ht rfl,hc]
     have O2:lR L1 z2 b1 b2 b3 b4 b5:=v1.aV λc cs t' g hc ht=>k0 c cs t' g hc (by grind);have P2:∀(c:Nat) (cs:Bt) (g:Option Nat),a0.get c=.cells cs 141 g->L1.get c=.cells cs 141 g:=λc cs g hc=>k0 c cs _ g hc (by decide)
     have z3:zt a0 (l++ [⟨t,w⟩]):=λx hx=>by
      rcases OH.1 hx with hx |hx;·exact z0 x hx
      rw[Qk.1 hx];exact⟨N2,o3,j0⟩
     refine hQ _ _ _ ⟨_,r',y,z2,rfl,by omega,by grind,by omega,w1.aV (k2 _ (by omega)) λc cs t' g hc h1 h2=>k0 c cs t' g hc h2,⟨v0,_,_,_,_,_,by grind,O2⟩,w2,z3.aV P2,by grind⟩
   rintro _ m' I0 ⟨l',v',y',z',rfl,a1,a2,a3,a4,a5,a6,a7,a8⟩;rw[aB,aP,ae,wrap64];exact⟨i+1,by omega,l',v',y',z',rfl,by omega,a1,a2,a3,a4,a5,a6,a7,a8⟩
  have⟨y1,d1,d2,d3,d4,d5,J1,A0⟩:=hy;rw[(dW J1).2.2.2.2,ae];have A3:mm.get m1.n=.cells (yc YM YM YM YM YM) 38 none:=by grind
  refine aC ka A3 rfl rfl A0.dS λQ2 n4 T2 B1=>?_;have B3:Q2.get m1.n=.cells (yc d1 d2 d3 d4 d5) 38 none:=T2;rw[(dW B3).2.2.2.2,ae]
  have fh:∀c cs t' g,mm.get c=.cells cs t' g->t'≠38->Q2.get c=.cells cs t' g:=λc cs t' g hc ht=>by rw[B1 c (by grind),hc]
  refine hR y _ _ _ _ _ l _ _ _ (by omega) ⟨by omega,λc hc=>by rw[B1 c (by omega),H0 c (by omega),G0.get c (by omega),o0.get c hc]⟩ y1 (A0.aV λc cs t' g hc ht=>fh c cs t' g hc (by grind)) (E1.sl.aV λc cs t' g hc ht=>fh c cs t' g hc (by simp only[aW.ty,aW.cT,RN,ZX,or_false]at ht;subst ht;decide)) (u0.aV λc cs g hc=>fh c cs _ g hc (by decide)) (by omega)
 refine H _ λy r r2 st rc mo l v m' lo D1 hx hy s0 hl u0 F1=>?_;show(bA (.tuple #[yv r r2 st rc mo,v])=true/\m.n<=lo/\(m.n=m.n/\∃y' r' C0 D0 E0 F0 l' v',(.tuple #[yv r r2 st rc mo,v]:Φ)=.tuple #[yv r' C0 D0 E0 F0,v']/\Ext m m/\qG y'/\lR m y' r' C0 D0 E0 F0/\Sl m l' v'/\zt m l'/\(l'.length<=9/\y'.rc.length<=9)))\/((bA (.tuple #[yv r r2 st rc mo,v])=false\/lo < m.n)/\(min m.n lo=m.n/\∃y' r' C0 D0 E0 F0 l' v',(.tuple #[yv r r2 st rc mo,v]:Φ)=.tuple #[yv r' C0 D0 E0 F0,v']/\Ext m m'/\qG y'/\lR m' y' r' C0 D0 E0 F0/\Sl m' l' v'/\zt m' l'/\(l'.length<=9/\y'.rc.length<=9)));cases hf:bA (.tuple #[yv r r2 st rc mo,v]);·exact .inr ⟨.inl rfl,by omega,y,r,r2,st,rc,mo,l,v,rfl,hx,hy,s0,hl,u0,F1⟩
 have g0:((D.bw r && (D.bw r2 && (D.bw st && (D.bw rc && (D.bw mo && true))))) && (D.dC v && true))=true:=hf;simp only[JJ]at g0
 obtain⟨e1,rfl⟩:l=[]/\v=YM:=by
  rcases hl with⟨h1,h2⟩ |⟨b,o,c,bc,g,h1,_⟩;·exact⟨h2,h1⟩
  rw[h1]at g0;simp[D.dC,D.bw]at g0
 exact .inl ⟨rfl,D1,rfl,y,r,r2,st,rc,mo,[],_,rfl,.refl,hy,s0.flat ⟨g0.1.1,g0.1.2.1,g0.1.2.2.1,g0.1.2.2.2.1,g0.1.2.2.2.2.1⟩ m,.nil,λx hx=>(by cases hx),⟨ZE _,F1.2⟩⟩
end
section
open Go Go.D Go.ChangeShapes Go.WideShapes Go.ChangeAt Go.RowKit Go.Proofs.Tryz
section
variable {H:Type} {enc:TypeId×Φ->H} {W W':World} {sp:Nat->Bool} {held:Bool} {base:Nat}
theorem Il{t e:TypeId}{v:Φ}{fuel:Nat}{x:DataW H×List MemPlace}(ht:Tryz.prog.underlying t=some (.slice e))(h:DataW.trod enc Tryz.prog W 0 sp held fuel t [v]=some x):∀a n c,v=.slice a n c->n<=c:=by
 rintro a n c rfl;rcases DataW.trod_slice ht h with⟨hv,_⟩|⟨a',len,cap,elems,rest,k,_,hv,_,_,hl,_⟩;·grind
 ·grind
theorem MK{α:Type}[aW α]{m:M}{v:Φ}{Py:α->Prop}(h:∃l:List α,GO m l v/\l.length<9223372036854775808/\∀y∈l,Py y)(hc:∀a n c,v=.slice a n c->n<=c):∃l:List α,EM m l v/\l.length<9223372036854775808/\∀y∈l,Py y:=by
 have⟨l,hs,h⟩:=h;refine⟨l,?_,h⟩;have a0:=hs;rcases hs with⟨rfl,rfl⟩|⟨b,o,c,bc,rfl,h2,h4⟩;·exact .inl ⟨rfl,rfl⟩
 exact .inr ⟨.inr a0,b,o,c,rfl,hc _ _ _ rfl,.inr ⟨_,h2⟩⟩
theorem vv{t e:TypeId}{v:Φ}(hu:Tryz.prog.underlying t=some (.slice e))(a0:Cell.okWide Tryz.prog W .any base t v):v.cells.toList=[v]:=by
 cases v with
 |agg cs=>exfalso;revert a0;simp[Cell.okWide,Cell.ok,hu]
 |_=>rfl
theorem DF{v:Φ}{d:DataW H}{ps:List MemPlace}(j0:Value.okWide Tryz.prog W .any base 25 v)(h:DataW.Trod enc Tryz.prog W 0 sp held 25 v d ps):
  bE (sj W) v v/\∃vb vk va,v=.agg #[vb,vk,va]/\one va/\(∃l:List I6,EM (ee W) l vb/\l.length<9223372036854775808/\∀y∈l,y.ok)/\(∃l:List I4,GO (ee W) l vk/\l.length<9223372036854775808/\∀y∈l,y.ok):=by
 have hu:=underlying25;have o0:Tryz.prog.cellTypes Tryz.prog.depth 25=some [22,23,22]:=by kernel_rfl
 have p0:Tryz.prog.cellsOf 25=3:=by kernel_rfl
 have c1:Tryz.prog.cellsOf 22=1:=by kernel_rfl
 have c2:Tryz.prog.cellsOf 23=1:=by kernel_rfl
 simp only[Value.okWide,hu]at j0;obtain⟨cs,rfl,g0,ts,l0, -,d0⟩:=j0;rw[o0]at l0;cases l0;rw[p0]at g0;have⟨cs⟩:=cs;have g0:cs.length=3:=g0;have⟨fuel,h⟩:=h;obtain⟨xs,n,_,_,_,n0,i0⟩:=DataW.trod_struct hu h;match cs,g0 with
 |[vb,vk,va],_=>
  have e0:=i0 0 _ rfl;have e1:=i0 1 _ rfl;have e2:=i0 2 _ rfl;have n0:xs.length=3:=n0;obtain⟨y0,q0⟩:∃y,xs[0]?=some y:=⟨_,qp⟩
  obtain⟨y1,r0⟩:∃y,xs[1]?=some y:=⟨_,qp⟩
  obtain⟨y2,s0⟩:∃y,xs[2]?=some y:=⟨_,qp⟩
  rw[q0]at e0;rw[r0]at e1;rw[s0]at e2;replace e0:DataW.trod enc Tryz.prog W 0 sp held n 22 (([vb,vk,va].drop 0).take (Tryz.prog.cellsOf 22))=some y0:=e0;rw[c1]at e0;replace e0:DataW.trod enc Tryz.prog W 0 sp held n 22 [vb]=some y0:=e0;replace e1:DataW.trod enc Tryz.prog W 0 sp held n 23 (([vb,vk,va].drop 1).take (Tryz.prog.cellsOf 23))=some y1:=e1;rw[c2]at e1;replace e1:DataW.trod enc Tryz.prog W 0 sp held n 23 [vk]=some y1:=e1;replace e2:DataW.trod enc Tryz.prog W 0 sp held n 22 (([vb,vk,va].drop 2).take (Tryz.prog.cellsOf 22))=some y2:=e2;rw[c1]at e2;replace e2:DataW.trod enc Tryz.prog W 0 sp held n 22 [va]=some y2:=e2;have⟨t0,h0,k0⟩:=d0 0 vb rfl;have⟨t1,h1,k1⟩:=d0 1 vk rfl;have⟨t2,h2,k2⟩:=d0 2 va rfl;cases h0;cases h1;cases h2;obtain⟨a0,b0⟩:=tZ (α:=I6) (v:=vb) np (by kernel_rfl) Gd k0 e0;obtain⟨a1,b1⟩:=tZ (α:=I4) (v:=vk) wJ (by kernel_rfl) HY k1 e1;obtain⟨a2,b2⟩:=tZ (α:=I6) (v:=va) np (by kernel_rfl) Gd k2 e2;have o2:one va:=by obtain⟨l,s, -⟩:=b2;obtain⟨a,c,rfl⟩:=s.form;rfl
  refine⟨.agg _ _ rfl λj x y hx hy=>?_,vb,vk,va,rfl,o2,MK b0 (Il np e0),b1⟩;rw[hx]at hy;cases hy;match j,hx with
  |0,hx=>cases hx;exact a0
  |1,hx=>cases hx;exact a1
  |2,hx=>cases hx;exact a2
  |j+3,hx=>simp at hx
theorem Jn{v:Φ}{d:DataW H}{ps:List MemPlace}(a0:Value.okWide Tryz.prog W .any base 22 v)(h:DataW.Trod enc Tryz.prog W 0 sp held 22 v d ps):
  bE (sj W) v v/\∃l:List I6,EM (ee W) l v/\l.length<9223372036854775808/\∀y∈l,y.ok:=by simp only[Value.okWide,np]at a0;have⟨fuel,h⟩:=h;rw[vv np a0]at h;obtain⟨a,b⟩:=tZ (α:=I6) (v:=v) np (by kernel_rfl) Gd a0 h;exact⟨a,MK b (Il np h)⟩
theorem Ol{v:Φ}{d:DataW H}{ps:List MemPlace}(a0:Value.okWide Tryz.prog W .any base 23 v)(h:DataW.Trod enc Tryz.prog W 0 sp held 23 v d ps):
  bE (sj W) v v/\∃l:List I4,GO (ee W) l v/\l.length<9223372036854775808/\∀y∈l,y.ok:=by simp only[Value.okWide,wJ]at a0;have⟨fuel,h⟩:=h;rw[vv wJ a0]at h;exact tZ (α:=I4) (v:=v) wJ (by kernel_rfl) HY a0 h
theorem Qu{v:Φ}{d:DataW H}{ps:List MemPlace}(hb:Below W.heap.size W W')(h:DataW.Trod enc Tryz.prog W 0 (λ_=>true) true 23 v d ps)(a0:∀x∈ps,x.block<W.heap.size)(sp:Nat->Bool)(hs:∀x∈ps,sp x.block):DataW.Trod enc Tryz.prog W' 0 sp true 23 v d ps:=
 WideElems.Trod_stays laidOut (by kernel_rfl) (NT (by kernel_rfl)) h (λx hx=>hb.same (a0 x hx)) hs
end
end
section
section
variable {X:aK}{x0 x1 x2 x3:Φ}{m:M}{R:Bt->M->Nat->Prop}{W:Words}
theorem F28:dk TE (aL TE X) f28 [x0,x1] m R=ρ m x0 38 λa=>ρ a x1 62 λb=>ε 38 (υ m) 0 λc=>δ b 33 c λc=>ε 62 (υ a) 2 λd=>δ b 3 d λd=>ψ X 71 [c,d] b λb c d=>ξ b 0 λf=>ξ b 1 λb=>ς c [χ 0,χ 0,χ 0,YM,χ 0,χ 0] 60 λg=>ι g 60 (υ c) f λc f=>ε 38 (υ m) 0 λg=>δ c 33 g λg=>ε 62 (υ a) 3 λh=>δ c 3 h λh=>ψ X 71 [g,h] c λc g h=>ξ c 0 λi=>ξ c 1 λc=>ς g [χ 0,χ 0,χ 0,YM,χ 0,χ 0] 60 λj=>ι j 60 (υ g) i λg i=>ε 62 (υ a) 0 λj=>δ g 3 j λj=>η .eql 3 j (χ 9) λj=>aR j (jn (λa=>aR b (a [c] g (Δ m.n d f h i)) (a [Zf] g (Δ m.n d f h i))) (λa b c=>un a λa _=>R [a] b c)) (jn (λc=>aR b (c [Ku] g (Δ m.n d f h i)) (ε 62 (υ a) 0 λb=>δ g 3 b λb=>η .neq 3 b (χ 4) λb=>aR b (ε 62 (υ a) 0 λa=>δ g 3 a λa=>η .neq 3 a (χ 5) λa=>c [a] g (Δ m.n d f h i)) (c [Zf] g (Δ m.n d f h i)))) (λa b c=>un a λa _=>R [a] b c)):=by kernel_rfl
theorem F10:dk TE (aL TE X) f10 [x0,x1] m R=ρ m x1 53 λa=>Lp (λa b c d=>un b λb f=>un f λf _=>κ c .len [35] [x0] λg _=>η .lss 3 f g λg=>aR g (ζ 35 x0 f λg=>δ c 53 g λg=>δ c 53 (υ m) λh=>η .eql 53 g h λg=>aR g (R [Ku] c d) (η .add 3 f (χ 1) λf=>a [b,f] c d)) (R [Zf] c d)) [Zf,χ 0] a m.n:=by kernel_rfl
theorem F74:dk TE (aL TE X) f74 [x0,x1] m R=ρ m x0 53 λa=>ρ a x1 53 λb=>jn (λc=>ε 53 (υ m) 0 λd=>δ b 3 d λd=>ε 53 (υ a) 0 λf=>δ b 3 f λf=>η .lss 3 d f λd=>aR d (c [Ku] b m.n) (ε 53 (υ m) 0 λd=>δ b 3 d λd=>ε 53 (υ a) 0 λf=>δ b 3 f λf=>η .eql 3 d f λd=>aR d (ε 53 (υ m) 1 λd=>δ b 3 d λd=>ε 53 (υ a) 1 λa=>δ b 3 a λa=>η .lss 3 d a λa=>c [a] b m.n) (c [Zf] b m.n))) (λa b c=>un a λa _=>R [a] b c):=by kernel_rfl
theorem F30:dk TE (aL TE X) f30 [x0,x1] m R=jn (λa=>η .lss 3 x0 (χ 0) λb=>aR b (η .add 3 x0 (χ 1) λb=>ο .neg b λb=>a [b] m m.n) (a [x0] m m.n)) (λa b c=>un a λa _=>η .rem 3 a x1 λa=>R [a] b c):=by kernel_rfl
theorem F29:dk TE (aL TE X) f29 [x0,x1] m R=ρ m x0 33 λa=>Lp (λa b c d=>un b λb f=>un f λf _=>jn (λa=>κ c .len [23] [x1] λb _=>η .lss 3 f b λb=>aR b (η .lss 3 f (χ 4) λb=>a [b] c d) (a [Zf] c d)) (λc d g=>un c λc _=>aR c (η .mul 3 (χ 10) f λc=>θ 79 [(0,c)] λc=>ς d [χ 0,YM] 79 λh=>ι h 79 (υ d) c λc h=>Lp (λc g h i=>un g λg _=>η .lss 3 g (χ 4) λj=>aR j (jn (λa=>ζ 23 x1 f λb=>ζ 153 b g λb=>δ h 3 b λb=>ψ X 30 [b,χ 100] h λb c j=>(h.n<=j)/\(ζ 23 x1 f λh=>ζ 153 h g λh=>δ c 3 h λh=>η .quo 3 h (χ 16) λh=>ψ X 30 [h,χ 6] c λh k l=>(c.n<=l)/\(η .sub 3 h (χ 2) λc=>θ 53 [(0,b),(1,c)] λb=>ς k [χ 0,χ 0] 53 λc=>ι c 53 (υ k) b λb c=>jn (λa=>ε 33 (υ m) 0 λd=>ε 30 d 0 λd=>δ b 28 d λd=>κ b .len [28] [d] λd _=>η .gtr 3 d (χ 0) λd=>aR d (ε 33 (υ m) 0 λd=>ε 30 d 0 λd=>δ b 28 d λd=>ζ 23 x1 f λf=>ζ 153 f g λf=>δ b 3 f λf=>ε 33 (υ m) 0 λg=>ε 30 g 0 λg=>δ b 28 g λg=>κ b .len [28] [g] λg _=>ψ X 30 [f,g] b λf g h=>(b.n<=h)/\(ζ 28 d f λb=>ε 60 b 0 λb=>δ g 3 b λb=>ε 53 (υ k) 0 λd=>ι g 3 d b λb d=>a [] b (Θ i j l c h d))) (a [] b (Γ i j l c))) (λ_ b c=>jn (λa=>ε 79 (υ d) 1 λd=>δ b 35 d λd=>δ b 53 (υ k) λh=>ψ X 10 [d,h] b λb d h=>aR b (a [Ku] d (min c h)) (ζ 23 x1 f λb=>ζ 153 b g λb=>δ d 3 b λb=>η .quo 3 b (χ 128) λb=>ψ X 30 [b,χ 4] d λb d f=>η .eql 3 b (χ 3) λb=>a [b] d (ω c h f))) (λb c f=>un b λb _=>aR b (a [] c f) (Lp (λb c f g=>un c λc _=>jn (λa=>ε 79 (υ d) 1 λb=>δ f 35 b λb=>κ f .len [35] [b] λb _=>η .lss 3 c b λb=>aR b (ε 79 (υ d) 1 λb=>δ f 35 b λb=>ζ 35 b c λb=>δ f 53 b λb=>δ f 53 (υ k) λc=>ψ X 74 [b,c] f λb c d=>a [b] c (min g d)) (a [Zf] f g)) (λf g h=>un f λf _=>aR f (η .add 3 c (χ 1) λa=>b [a] g h) (ε 79 (υ d) 1 λb=>δ g 35 b λb=>ai (slice? TE g 35 b none (some c) (some c)) λb=>δ g 53 (υ k) λf=>ν g 35 1 [(0,f)] λf g=>ε 79 (υ d) 1 λi=>δ g 35 i λi=>ai (slice? TE g 35 i (some c) none none) λc=>κ (M.wl g g.n) .append [35,35] [f,c] λc f=>(g.n<=M.low f)/\(κ (M.wl f f.n) .append [35,35] [b,c] λb c=>ε 79 (υ d) 1 λd=>ι c 35 d b λb d=>a [] b (Γ h (M.low f) (M.low c) d))))) [χ 0] c f)))))) (λ_ a b=>η .add 3 g (χ 1) λd=>c [d] a b)) (δ h 79 (υ d) λc=>ν h 41 1 [(0,c)] λc d=>κ (M.wl d d.n) .append [41,41] [b,c] λb c=>η .add 3 f (χ 1) λd=>a [b,d] c (min i (M.low c)))) [χ 0] c (min g h)) (R [b] d g))) [YM,χ 0] a m.n:=by kernel_rfl
theorem ac9:dk TE W Tryz.f7 [x0,x1,x2,x3] m R=W.bC (M.push m (.cells (cells x0) 25 none)) λa=>W.bC (M.push a (.cells [YM,YM,YM,YM,YM,YM,YM,YM] 43 none)) λb=>W.ai (ah TE b 25 (ptrTo m.n)) λc=>W.aO (av TE b .len [22] [x1]) λd _=>W.aO (av TE b .min [3,3] [d,.int .i64 3]) λd _=>W.ai (slice? TE b 22 x1 none (some d) none) λd=>W.bs (.func 25) [c,d] b λc d f=>(b.n<=f)/\(W.ai (bB c 0) λb=>W.ai (bB c 1) λ_=>W.bC (M.push d (.cells [YM,YM,YM,YM,YM] 38 none)) λc=>W.aO (aD TE c 38 (ptrTo d.n) b) λb c=>W.ai (ah TE b 38 (ptrTo d.n)) λg=>W.bC (M.push b (.cells [YM,YM,YM,YM,YM] 38 none)) λh=>W.aO (aD TE h 38 (ptrTo b.n) g) λg h=>W.Lp (λc f g h=>W.un f λf i=>W.un i λi _=>W.jn (λa=>W.aO (av TE g .len [22] [x1]) λb _=>W.ai (aA TE .lss 3 i b) λb=>aR b (W.ai (aA TE .lss 3 i (.int .i64 9)) λb=>a [b] g h) (a [Zf] g h)) (λg h j=>W.un g λg _=>aR g (W.jn (λa=>W.ai (ah TE h 38 (ptrTo b.n)) λc=>W.ai (ak TE 22 x1 i) λg=>W.ai (ah TE h 89 g) λg=>W.bs (.func 26) [c,g] h λc g i=>(h.n<=i)/\(W.bC (M.push g (.cells [.int .i64 0,.int .i64 0,.int .i64 0,.int .i64 0,YM,.int .i64 0,.int .i64 0,.int .i64 0,.int .i64 0,.int .i64 0,.int .i64 0] 62 none)) λh=>W.aO (aD TE h 62 (ptrTo g.n) c) λc h=>W.ai (ah TE c 38 (ptrTo b.n)) λk=>W.ai (ah TE c 62 (ptrTo g.n)) λl=>W.bs (.func 27) [k,l] c λc k l=>W.ai (bB c 0) λn=>W.ai (bB c 1) λc=>W.bC (M.push k (.cells [YM,YM,YM,YM,YM] 38 none)) λo=>W.aO (aD TE o 38 (ptrTo k.n) n) λn o=>W.jn (λa=>W.ai (aA TE .eql 46 c (.int .i64 0)) λb=>aR b (W.ai (ah TE n 38 (ptrTo d.n)) λb=>W.ai (ah TE n 62 (ptrTo g.n)) λc=>W.bs (.func 28) [b,c] n λb c d=>a [b] c (min (min (min (min (min j i) h) l) o) d)) (a [Zf] n (min (min (min (min j i) h) l) o))) (λc d h=>W.un c λc _=>aR c (W.ai (ah TE d 38 (ptrTo k.n)) λc=>W.aO (aD TE d 38 (ptrTo b.n) c) λb c=>W.ai (ah TE b 62 (ptrTo g.n)) λd=>W.aO (aF TE b 39 1 [(0,d)]) λb d=>W.aO (av TE (M.wl d d.n) .append [39,39] [f,b]) λb d=>a [b] d (min (min h c) (M.low d))) (a [f] d h)))) (λa b d=>W.un a λa _=>W.ai (aA TE .add 3 i (.int .i64 1)) λf=>c [a,f] b d)) (W.ai (ah TE h 38 (ptrTo d.n)) λb=>W.ai (af TE 38 (ptrTo d.n) 0) λc=>W.ai (ah TE h 33 c) λc=>W.bs (.func 29) [c,x3] h λc d g=>(h.n<=g)/\(W.ai (aJ TE 43 [(0,b),(1,f),(3,c)]) λb=>W.bC (M.push d (.cells [YM,YM,YM,YM,YM,YM,YM,YM] 43 none)) λc=>W.aO (aD TE c 43 (ptrTo d.n) b) λb c=>W.Lp (λb c g h=>W.un c λc i=>W.un i λi _=>W.aO (av TE g .len [39] [f]) λf _=>W.ai (aA TE .lss 3 i f) λf=>aR f (W.Lp (λa c f g=>W.un c λc h=>W.un h λh _=>W.ai (aA TE .lss 3 h i) λj=>aR j (W.jn (λa=>W.jn (λa=>W.aO (av TE f .len [26] [x2]) λb _=>W.ai (aA TE .lss 3 c b) λb=>aR b (W.ai (ak TE 26 x2 c) λb=>W.ai (ah TE f 3 b) λb=>W.bs (.func 30) [b,.int .i64 2] f λb c d=>W.ai (aA TE .eql 3 b (.int .i64 0)) λb=>a [b] c (min g d)) (a [Zf] f g)) (λb c f=>W.un b λb _=>aR b (W.ai (af TE 43 (ptrTo d.n) 2) λb=>W.ai (ah TE c 40 b) λb=>W.ai (aJ TE 69 [(0,h),(1,i)]) λg=>W.aO (aF TE c 40 1 [(0,g)]) λc g=>W.aO (av TE (M.wl g g.n) .append [40,40] [b,c]) λb c=>W.ai (af TE 43 (ptrTo d.n) 2) λd=>W.aO (aD TE c 40 d b) λb d=>a [] b (min (min f (M.low c)) d)) (a [] c f))) (λ_ b d=>W.ai (aA TE .add 3 c (.int .i64 1)) λc=>W.ai (aA TE .add 3 h (.int .i64 1)) λf=>a [c,f] b d)) (W.ai (aA TE .add 3 i (.int .i64 1)) λa=>b [c,a] f g)) [c,.int .i64 0] g h) (W.ai (ah TE g 43 (ptrTo d.n)) λb=>W.aO (aD TE g 43 (ptrTo a.n) b) λb c=>ai (ah TE b 43 (ptrTo a.n)) λa=>R [a] b (min h c))) [.int .i64 0,.int .i64 0] b (min (min j g) c))))) [YM,.int .i64 3] g (min (min (min m.n f) c) h)):=by kernel_rfl
theorem F21:dk TE (aL TE X) f21 [x0,x1] m R=κ m .len [35] [x0] λa _=>κ m .len [35] [x1] λb _=>η .neq 3 a b λa=>aR a (R [Zf] m m.n) (Lp (λa b c d=>un b λb f=>un f λf _=>κ c .len [35] [x0] λg _=>η .lss 3 f g λg=>aR g (ζ 35 x0 f λg=>δ c 53 g λg=>ζ 35 x1 f λh=>δ c 53 h λh=>η .neq 53 g h λg=>aR g (R [Zf] c d) (η .add 3 f (χ 1) λf=>a [b,f] c d)) (R [Ku] c d)) [Zf,χ 0] m m.n):=by kernel_rfl
end
end
section
def iK(t:List Nat)(b a:Nat):Bool:=(t.getD b 0).testBit a
def oh(t:List Nat)(p:Nat×Nat):List Nat:=t.set p.2 (t.getD p.2 0 |||2 ^ p.1)
def kc:List Nat:=List.replicate 8 0
def jF(ps:List (Nat×Nat)):List Nat:=ps.foldl oh kc
def sA(k:Nat)(t:List Nat)(b:Nat):List Nat:=if(t.getD b 0).testBit k=true then t.set b (t.getD b 0 |||t.getD k 0)else t
def og(n:Nat)(t:List Nat)(k:Nat):List Nat:=(List.range n).foldl (sA k) t
def pL(n:Nat)(t:List Nat):List Nat:=(List.range n).foldl (og n) t
theorem uq(t:List Nat)(p:Nat×Nat):(oh t p).length=t.length:=by unfold oh;rw[List.length_set]
theorem xX(k:Nat)(t:List Nat)(b:Nat):(sA k t b).length=t.length:=by unfold sA;split <;>simp
theorem jy{β:Type}(f:List Nat->β->List Nat)(h:∀t x,(f t x).length=t.length):∀(l:List β) (t:List Nat),(l.foldl f t).length=t.length
 |[],_=>rfl
 |x::r,t=>by rw[IW,jy f h r,h]
theorem iw(ps:List (Nat×Nat)):(jF ps).length=8:=by unfold jF;rw[jy _ uq];rfl
theorem uk(n:Nat)(t:List Nat)(k:Nat):(og n t k).length=t.length:=by unfold og;rw[jy _ (xX k)]
theorem adi(n:Nat)(t:List Nat):(pL n t).length=t.length:=by unfold pL;rw[jy _ (uk n)]
theorem yO(t:List Nat)(i j x:Nat)(hi:i<t.length):(t.set i x).getD j 0=if i=j then x else t.getD j 0:=by
 grind
theorem aa7{t:List Nat}{p:Nat×Nat}(h:p.2<t.length)(b a:Nat):iK (oh t p) b a=(iK t b a ||(decide (p.2=b) && decide (p.1=a))):=by
 unfold iK oh;grind
theorem pU:∀(ps:List (Nat×Nat)) (t:List Nat),(∀p∈ps,p.2<t.length)->∀b a,iK (ps.foldl oh t) b a=(iK t b a ||ps.any λp=>decide (p.2=b) && decide (p.1=a))
 |[],t,_,b,a=>by simp
 |p::r,t,h,b,a=>by
  rw[IW,pU r _ (λq hq=>by rw[uq];exact h q (W6 _ hq)),aa7 (h p zN),List.any_cons,Bool.or_assoc]
theorem nT(b a:Nat):iK kc b a=false:=by
 unfold iK kc;grind
theorem ab1{k:Nat}{t:List Nat}{i:Nat}(hi:i<t.length)(b a:Nat):iK (sA k t i) b a=(iK t b a ||(decide (i=b) && iK t i k && iK t k a)):=by
 unfold sA;split
 ·rename_i h;unfold iK;grind
 ·rename_i h;unfold iK;grind
theorem Iq{k:Nat}{t:List Nat}:∀n:Nat,n<=t.length->∀b a,iK ((List.range n).foldl (sA k) t) b a=(iK t b a ||(decide (b<n) && iK t b k && iK t k a))
 |0,_,b,a=>by simp
 |n+1,hn,b,a=>by
  have ih:=Iq (k:=k) (t:=t) n (by omega);rw[Gm,RR,IW,List.foldl_nil,ab1 (by rw[jy _ (xX k)];omega),ih,ih,ih];grind
theorem Ir{n k:Nat}{t:List Nat}(hn:n<=t.length)(b a:Nat):iK (og n t k) b a=(iK t b a ||(decide (b<n) && iK t b k && iK t k a)):=Iq n hn b a
def S5(n:Nat)(t:List Nat):Prop:=∀b a,iK t b a=true->b < n/\a < n
theorem S5.pass{n k:Nat}{t:List Nat}(hn:n<=t.length)(h:S5 n t):S5 n (og n t k):=by
 intro b a e;rw[Ir hn,Qf,JJ,JJ]at e;rcases e with e|⟨⟨_,e1⟩,e2⟩;·exact h b a e
 exact⟨(h b k e1).1,(h k a e2).2⟩
structure ClT(n:Nat)(t c:List Nat):Prop where
 len:c.length=t.length
 bd:S5 n c
 sub:∀b a,iK t b a=true->iK c b a=true
 tr:∀b j a,iK c b j=true->iK c j a=true->iK c b a=true
 least:∀S:Nat->Nat->Prop,(∀b a,iK t b a=true->S b a)->(∀b j a,S b j->S j a->S b a)->∀b a,iK c b a=true->S b a
theorem iX{n:Nat}{t:List Nat}(hn:n<=t.length)(hb:S5 n t):ClT n t (pL n t):=by
 have key:∀m,m<=n->∃c,c=(List.range m).foldl (og n) t/\c.length=t.length/\S5 n c/\(∀b a,iK t b a->iK c b a)/\(∀b j a,j<m->iK c b j->iK c j a->iK c b a)/\∀S:Nat->Nat->Prop,(∀b a,iK t b a->S b a)->(∀b j a,S b j->S j a->S b a)->∀b a,iK c b a->S b a:=by
  intro m;induction m with
  |zero=>exact λ_=>⟨t,rfl,rfl,hb,λ_ _ h=>h,λb j a h=>absurd h (by omega),λS h _ b a e=>h b a e⟩
  |succ k ih=>
   intro hk;obtain⟨c,hc,h1,h2,h3,h4,h5⟩:=ih (by omega);have hp:∀b a,iK (og n c k) b a↔(iK c b a\/(iK c b k/\iK c k a)):=by
    intro b a;rw[Ir (by omega),Qf,JJ,JJ,EU];constructor;·grind
    rintro(e|⟨e1,e2⟩);·grind
    exact .inr ⟨⟨(h2 b k e1).1,e1⟩,e2⟩
   refine⟨og n c k,?_,by rw[uk,h1],h2.pass (by omega),λb a e=>(hp b a).2 (.inl (h3 b a e)),λb j a hj e1 e2=>?_,λS s1 s2 b a e=>?_⟩;·rw[Gm,RR,<-hc];rfl
   ·grind
   rw[hp]at e;rcases e with e|⟨e1,e2⟩;·exact h5 S s1 s2 b a e
   exact s2 b k a (h5 S s1 s2 b k e1) (h5 S s1 s2 k a e2)
 have⟨c,hc,h1,h2,h3,h4,h5⟩:=key n (Ox n);have hc:pL n t=c:=hc.symm;rw[hc];exact⟨h1,h2,h3,λb j a e1 e2=>h4 b j a (h2 b j e1).2 e1 e2,h5⟩
theorem nV{n:Nat}{ps:List (Nat×Nat)}(hn:n<=8)(h:∀p∈ps,p.1<n/\p.2<n):S5 n (jF ps):=by
 intro b a e;unfold jF at e;rw[pU ps kc (λp hp=>by have:=h p hp;show p.2<8;omega),nT,Qw,JL]at e;grind
structure CO(n:Nat)(ps:List (Nat×Nat)):Prop where
 le:n<=8
 len:ps.length<=28
 ok:∀p∈ps,p.1 < n/\p.2 < n/\p.1≠p.2
 ir:∀a,iK (pL n (jF ps)) a a=false
theorem CO.BK{n:Nat}{ps:List (Nat×Nat)}(r:Nat->Nat)(h1:n<=8)(h2:ps.length<=28)(h3:∀p∈ps,p.1<n/\p.2<n/\r p.1<r p.2):CO n ps:=by
 have hb:∀p∈ps,p.1<n/\p.2<n:=by grind
 refine⟨h1,h2,λp hp=>?_,λa=>?_⟩;·grind
 ·cases e:iK (pL n (jF ps)) a a with
  |false=>rfl
  |true=>
   have:=(iX (n:=n) (t:=jF ps) (by rw[iw];exact h1) (nV h1 hb)).least (λb a=>r a<r b) (λb a e=>?_) (λb j a h1 h2=>Nat.lt_trans h2 h1) a a e;·omega
   ·unfold jF at e;rw[pU ps kc (λp hp=>by have:=hb p hp;show p.2<8;omega),nT,Qw,JL]at e;grind
theorem CO.of_lt{n:Nat}{ps:List (Nat×Nat)}(h1:n<=8)(h2:ps.length<=28)(h3:∀p∈ps,p.1<p.2/\p.2<n):CO n ps:=
 .BK id h1 h2 λp hp=>by grind
end
section
structure Qn where
 id:Int
 lg:List Fc
structure jk where
 y:Yd
 ts:List Tk
 ps:List (Nat×Nat)
 qs:List Qn
structure Ls where
 task:Int
 f:Fc
 q:Int
deriving DecidableEq
def Nz(a b p:Pl):Bool:= !decide (GV (GV (b.x-a.x)*GV (p.y-a.y))=GV (GV (b.y-a.y)*GV (p.x-a.x)))
def Ae(u:Un)(p q:Pl):Fc:=match(List.range u.shape.length).find? λi=> !Nz (gj u.shape i) (Lb u.shape i) p && !Nz (gj u.shape i) (Lb u.shape i) q with
 |some i=>⟨u.id,i⟩
 |none=>⟨u.id,0⟩
def lI(sf:List Fc->List Fc)(us:List Un)(t:Tk):List Fc:=match ck us t.id with
 |none=> []
 |some u=>
  if t.kind=4 then sf (nK u)
  else if t.kind=5 then(if(⟨t.id,t.side⟩:Fc)∈nK u then [⟨t.id,t.side⟩]else [])
  else if t.kind=9 then(match ck us t.other with
   |none=> []
   |some v=>match jE u v with
    |some c=> [Ae u c.p c.q,Ae v c.p c.q]
    |none=> [])
  else []
def vN(s:jk):List Nat:=pL s.ts.length (jF s.ps)
def yd(t:Tk)(f:Fc):Bool:=decide (t.kind=8) && decide (t.id=f.un) && decide (t.side=f.side)
def pj(s:jk)(T:List Nat)(i:Nat)(f:Fc)(k:Nat):Bool:=match s.ts[k]? with
 |some t=>yd t f && iK T i k
 |none=>false
def xT(s:jk)(T:List Nat)(i:Nat)(f:Fc):Bool:=decide (f∈s.y.rc) ||(List.range s.ts.length).any (pj s T i f)
def yw(s:jk)(i:Nat)(f:Fc):List Ls:=(List.range s.qs.length).filterMap λq=>match s.qs[q]? with
 |some x=>if f∈x.lg then some ⟨i,f,q⟩else none
 |none=>none
def pB(sf:List Fc->List Fc)(s:jk)(T:List Nat)(i:Nat):List Ls:=match s.ts[i]? with
 |some t=>(lI sf s.y.us t).flatMap λf=>if xT s T i f=true then []else yw s i f
 |none=> []
def dM(sf:List Fc->List Fc)(s:jk):List Ls:=(List.range s.ts.length).flatMap (pB sf s (vN s))
theorem uF{sf:List Fc->List Fc}{s:jk}{x:Ls}(h:x∈dM sf s):∃(i q:Nat) (t:Tk) (y:Qn),x.task=i/\x.q=q/\s.ts[i]?=some t/\s.qs[q]?=some y/\x.f∈lI sf s.y.us t/\x.f∈y.lg/\x.f∉s.y.rc/\
  ∀(k:Nat) (u:Tk),s.ts[k]?=some u->iK (vN s) i k->yd u x.f=false:=by
 unfold dM at h;obtain⟨i, -,h⟩:=KB.1 h;unfold pB at h;split at h
 ·rename_i t ht;have⟨f,hf,h⟩:=KB.1 h;split at h;·cases h
  rename_i hs;unfold yw at h;obtain⟨q, -,h⟩:=Po.1 h;split at h
  ·rename_i y hy;split at h
   ·rename_i hn;cases h;unfold xT at hs;rw[Qf,EU,JL]at hs;refine⟨i,q,t,y,rfl,rfl,ht,hy,hf,hn,λhr=>hs (.inl hr),λk u hu hb=>?_⟩;cases hc:yd u f with
    |false=>rfl
    |true=>
     refine absurd (.inr ⟨k,Bv.2 (OJ.1 hu).1,?_⟩) hs;unfold pj;grind
   cases h
  cases h
 cases h
end
section
variable {X:aK} {m:M}
theorem mQ(hX:cd X){c n:Int}(hc:lM c)(hn:0<n):C X (.func 30) [YR c,YR n] m m.n (YR (dR c n)) m:=by refine Cl.fG hX (Kg func30) ?_;rw[F30];dsimp only[η,ο,χ];simp only[jn,aB];exact mP hc hn (P:=λv=>bh [v]=YR (dR c n)/\m.n<=m.n) ⟨rfl,Ox _⟩
theorem Ey(hX:cd X)(a b:Fc):C X (.func 74) [a.v,b.v] m m.n (.bool (decide (gZ a b))) m:=by
 refine Cl.fG hX (Kg func74) ?_;rw[F74];dsimp only[δ,ε,η,ρ,υ];refine aw λm1 j0 d0 k0=>?_;refine aw λm2 l0 e0 g0=>?_;have g1:m2.get m.n=.cells a.c 53 none:=by rw[g0 _ (by omega)];exact d0
 have g2:m2.get m1.n=.cells b.c 53 none:=e0;obtain⟨a0,a1, -⟩:=qq g1;obtain⟨b0,b1, -⟩:=qq g2;unfold ptrTo;simp only[cW,dj,ae];refine aZ (λvs mm lo=>vs=[.bool (decide (gZ a b))]/\m.n<=lo/\m2=mm) (λQ hQ=>?_) ?_
 ·rw[a0,ae,b0,ae,aM,ae,aj];refine an (λc=>hQ _ _ _ ⟨?_,Ox _,rfl⟩) (λc=>?_);·rw[IH (show gZ a b from .inl (NT c))]
  have c:=Ja c;rw[ae,ae,aS,ae,aj];refine an (λc1=>?_) (λc1=>hQ _ _ _ ⟨?_,Ox _,rfl⟩)
  ·have c1:=NT c1;rw[a1,ae,b1,ae,aM,ae];refine hQ _ _ _ ⟨?_,Ox _,rfl⟩;congr 2;apply decide_eq_decide.2;unfold gZ;omega
  have c1:=Ja c1;rw[Dh (by unfold gZ;omega)]
 rintro _ mm lo ⟨rfl,i0,rfl⟩;rw[aB];exact⟨rfl,i0⟩
theorem yK(hX:cd X){l:List Fc}{v:Φ}(h:Sl m l v)(hl:l.length<1000000)(f:Fc):C X (.func 10) [v,f.v] m m.n (.bool (decide (f∈l))) m:=by
 refine Cl.fG hX (Kg func10) ?_;rw[F10];dsimp only[δ,ζ,η,κ,ρ,υ,χ];refine aw λm1 k0 e0 g0=>?_;have g1:m1.get m.n=.cells f.c 53 none:=e0;have h1:=h.aE (m':=m1) ⟨by omega,g0⟩;unfold ptrTo;refine Lp.intro (γ:=Nat) (λi=>l.length-i) (λi vs mm lo=>∃z,vs=[z,YR i]/\i<=l.length/\m1=mm/\m.n<=lo/\f∉l.take i) 0 ⟨_,rfl,ZE _,rfl,Ox _,by simp⟩ ?_;rintro i vs mm lo ⟨z,rfl,hi,rfl,a0,b0⟩;rw[aB,aB,h1.len dA,az,aM,ae,aj];refine an (λd0=>?_) (λi0=>?_)
 ·have d0:i<l.length:=by grind
  obtain⟨x,hx⟩:∃x,l[i]?=some x:=⟨_,Fx d0⟩
  have⟨p,e1,e2⟩:=lZ h1 hx;rw[e1,ae,e2,ae,(qq g1).2.2,ae,Pm,ae,aj];refine an (λc=>⟨?_,a0⟩) (λc=>?_);·have c:=NT c;subst c;rw[IH (LZ hx)];rfl
  rw[aP,ae,wrap64];refine⟨i+1,by omega,z,rfl,by omega,rfl,a0,?_⟩;rw[Q1,hx];simp only[Gf,OH,Qk,not_or];exact⟨b0,λe=>Ja c e.symm⟩
 have j0:i=l.length:=by have:¬(i:Int)< (l.length:Int):=Ja i0;omega
 subst j0;rw[V9]at b0;exact⟨by rw[Dh b0];rfl,a0⟩
def ru(us:List Un)(t:Tk):Bool:=if t.kind=9 then(ck us t.id).isSome && (ck us t.other).isSome else(ck us t.id).isSome ||(!decide (t.kind=4) && !decide (t.kind=5))
theorem KY.is{us:List Un}{id:Int}{m':M}{u:Un}{w:Φ}{b:Bool}(h:KY us id m' u w b):(ck us id).isSome=b:=by rw[h.eq];cases b <;>rfl
theorem adR(hX:cd X){y:Yd}{r r2 st rc mo:Φ}{t:Tk}{w:Φ}(hV:lR m y r r2 st rc mo)(hP:qG y)(hw:one w):
  C X (.func 28) [yv r r2 st rc mo,t.v w] m m.n (.bool (ru y.us t)) m:=by
 refine Cl.fG hX (Kg func28) ?_;have⟨⟨l,d0,hF⟩,g0,⟨kl,J0,hK⟩,K0,L0⟩:=hV;have i0:cq (bM l):=by rw[d0];exact hP.qE
 have z0:l.length<=12:=by have:=hP.qE.len;rwa[<-d0,cx]at this
 rw[F28];dsimp only[δ,ε,η,ι,ξ,ρ,ς,υ,χ,ψ,Δ];refine aw λm1 N0 p0 O0=>?_;refine aw λm2 P0 q0 r0=>?_;have j0:Ext m m2:=⟨by omega,by grind⟩
 have g1:m2.get m.n=.cells (yc r r2 st rc mo) 38 none:=by rw[r0 _ (by omega)];exact p0
 have g2:m2.get m1.n=.cells (t.c w) 62 none:=q0;unfold ptrTo;simp only[cF,cn,bZ,cE,ae];rw[(dW g1).1,ae,(nq g2).2.1,ae];obtain⟨rv,m8,c8,x8,f8⟩:=iW (m:=m2) hX (hF.aE j0) (by omega) g0.one t.id;refine aG c8 ?_;obtain⟨u,wu,b,rfl,fu⟩:=f8.SP i0;have n8:=x8.n;rw[aH,aH];simp only[zi,F9,ae];refine aw λm12 A0 k0 s0=>?_;refine aC dm k0 rfl rfl (Un.cH fu.sl.one) λm13 B0 C0 D0=>?_;have a0:Ext m2 m13:=x8.trans ⟨by omega,by grind⟩;have n13:=a0.n;rw[(dW (a0.cells g1)).1,ae,(nq (a0.cells g2)).2.2.1,ae];obtain⟨rv,m20,u0,l0,f20⟩:=iW (m:=m13) hX (hF.aE (j0.trans a0)) (by omega) g0.one t.other;refine aG u0 ?_;obtain⟨u2,a1,b2,rfl,n0⟩:=f20.SP i0;have n20:=l0.n;rw[aH,aH];simp only[zi,F9,ae];refine aw λm24 E0 o0 F0=>?_;refine aC dm o0 rfl rfl (Un.cH n0.sl.one) λv0 G0 H0 I0=>?_;have y0:Ext m2 v0:=a0.trans (l0.trans ⟨by omega,by grind⟩);have i1:=fu.is;have i2:=n0.is;rw[d0]at i1 i2;have b0:ru y.us t=if t.kind=9 then b && b2 else b ||(!decide (t.kind=4) && !decide (t.kind=5)):=by unfold ru;rw[i1,i2]
 rw[(nq (y0.cells g2)).1,ae,aS,ae,aj];refine an (λc=>?_) (λc=>?_)
 ·have c:=NT c;rw[Tf c]at b0;refine aZ (λvs mm lo=>vs=[.bool (b && b2)]/\m.n<=lo) (λQ hQ=>?_) ?_;·rw[aj];exact an (λc=>hQ _ _ _ ⟨by grind,by omega⟩) (λc=>hQ _ _ _ ⟨by grind,by omega⟩)
  rintro _ mm lo ⟨rfl,e0⟩;rw[aB];exact⟨by rw[b0];rfl,e0⟩
 have c:=Ja c;rw[QL c]at b0;refine aZ (λvs mm lo=>vs=[.bool (b ||(!decide (t.kind=4) && !decide (t.kind=5)))]/\m.n<=lo) (λQ hQ=>?_) ?_;·rw[aj];refine an (λc=>hQ _ _ _ ⟨by grind,by omega⟩) (λc=>?_);rw[ae,bL,ae,aj];refine an (λc1=>?_) (λc1=>hQ _ _ _ ⟨by grind,by omega⟩);rw[ae,bL,ae];exact hQ _ _ _ ⟨by grind,by omega⟩
 rintro _ mm lo ⟨rfl,e0⟩;rw[aB];exact⟨by rw[b0];rfl,e0⟩
end
section
variable {X:aK} {m:M}
section
variable {α:Type} [aW α] {T t:TypeId}
theorem TB(hA:qH TE T α)(hT:oU TE T t α)(j0:aW.cT α=[]){n1:Nat}{l:List α}{v:Φ}(h:Ow n1 m l v)(hn:n1<=m.n)(B0:l.length<1000000){k:Nat}(hk:k<=l.length){x:α}{xv:Φ}{cs:Bt}
  (d0:aF TE m T 1 [(0,xv)]=some (KI m.n 0 1 1,m.push (.cells cs (aW.ty α) none))) (hr:∀m',aW.rep m' x cs)
  (z1:slice? TE m T YM none (some (.int .i64 (0:Nat))) (some (.int .i64 (0:Nat)))=some YM) (z2:∀m',slice? TE m' T YM (some (YR (0:Nat))) none none=some YM):
  ∃v1 m1 v2 v3 m2 v4 m3,slice? TE m T v none (some (YR k)) (some (YR k))=some v1/\aF TE m T 1 [(0,xv)]=some (KI m.n 0 1 1,m1)/\Ext m m1/\slice? TE m1 T v (some (YR k)) none none=some v2/\
   av TE (m1.wl m1.n) .append [T,T] [KI m.n 0 1 1,v2]=some (v3,m2)/\m1.n<=m2.low/\av TE (m2.wl m2.n) .append [T,T] [v1,v3]=some (v4,m3)/\Ow n1 m3 (l.take k++x::l.drop k) v4/\m.n<=m3.n/\n1<=m3.low/\∀c,c<n1->m3.get c=m.get c:=by
 obtain⟨m1,e0⟩:∃y,y=m.push (.cells cs (aW.ty α) none):=⟨_,rfl⟩
 rw[<-e0]at d0;have a0:Ext m m1:=e0 ▸ Ext.refl.push;have C0:m1.n=m.n+1:=by rw[e0];rfl
 have k0:m1.get m.n=.cells cs (aW.ty α) none:=by rw[e0];exact M.aX
 have b0:Ap m1.n m1 [x] (KI m.n 0 1 1):=.inr ⟨m.n,cs,_,rfl,k0,gU k0 (hr _)⟩;have⟨ti,te,t1,⟨e,t2⟩,t3,t4⟩:=id hT;have D0:(l.drop k).length=l.length-k:=VY;rcases h with⟨rfl,rfl⟩|⟨b,r0,rfl,l0,s0,hb,n0,u0⟩
 ·obtain rfl:k=0:=by grind
  obtain⟨v3,m2,e3,w3,n3,l3,f3⟩:=b0.wZ hA j0 (y:=YM) (ys:=[]) .nil (Ox _) (by simp);obtain⟨v4,m3,e4,w4,f4,l4, -⟩:=(Ow.nil (α:=α) (n1:=n1) (m:=m2)).append hA (by grind) w3.sl (by omega) (by simp);refine⟨_,m1,_,v3,m2,v4,m3,z1,d0,a0,z2 m1,e3,l3,e4,?_,by have:=f4.n;omega,l4,λc hc=>by rw[f4.get c hc,f3 c (by omega),a0.get c (by omega)]⟩;grind
 have o0:m1.get b=_:=a0.cells hb;have hlen:=n0;have E0:=M.aU hb;have s1:=Jk (E:=TE) (n:=l.length) (i:=k) t1 t2 t3 aW.pos hb hk;obtain⟨a',s2,v0⟩:=ph (E:=TE) (o:=0) (n:=l.length) (c:=l.length) (j:=k) t1 t2 (by rw[t3];exact aW.pos) o0 (.inr (by rw[t3])) (Ox _) hk;have g0:Ow n1 m l (KI b 0 l.length l.length):=.inr ⟨b,r0,rfl,l0,s0,hb,n0,u0⟩;have p0:∃v3 m2,av TE (m1.wl m1.n) .append [T,T] [KI m.n 0 1 1,.slice (some a') (l.length-k) (l.length-k)]=some (v3,m2)/\Sl m2 (x::l.drop k) v3/\m1.n<=m2.low/\m1.n<=m2.n/\∀c,c<m1.n->m2.get c=m1.get c:=by
  by_cases i0:k<l.length
  ·have hy:Sl m1 (l.drop k) (.slice (some a') (l.length-k) (l.length-k)):=by rw[v0 i0,t3];have:=(g0.aE a0).sl.part (i:=k) (k:=l.length-k) (c':=l.length-k) (by omega);rwa[QM (by omega)]at this
   obtain⟨v3,m2,e3,w3,n3,l3,f3⟩:=b0.wZ hA j0 hy (Ox _) (by grind);exact⟨v3,m2,e3,w3.sl,l3,n3,f3⟩
  obtain rfl:k=l.length:=by omega
  rw[Nat.sub_self];refine⟨_,m1.wl m1.n,append_nil hA (Ox _) (by decide) (.inl ⟨_,_,rfl⟩),?_,Ox _,Ox _,λ_ _=>rfl⟩;rw[GC];exact b0.sl.aE Ext.refl.wl
 have⟨v3,m2,e3,w3,l3,n3,f3⟩:=p0;have y0:m2.get b=_:=(f3 b (by omega)).trans o0;have x2:Ext m m2:=a0.trans ⟨n3,f3⟩;by_cases i0:k<l.length
 ·have z0:(l.take k).length=k:=by grind
  have q0:Sl m2 (l.take k) (KI b 0 (l.take k).length k):=by
   have:=(g0.aE x2).sl.part (i:=0) (k:=k) (c':=k) (by omega);grind
  obtain⟨v4,m3,e4,w4,x4,l4⟩:=vU hA y0 (.inr ⟨rfl,by rw[hlen,Wl];exact Nat.mul_lt_mul_of_pos_right i0 aW.pos⟩) q0 w3 (by grind) (by grind);rw[z0]at e4;have n2:=x2.n;have n4:=x4.n;refine⟨_,m1,_,v3,m2,v4,m3,s1,d0,a0,s2,e3,l3,e4,?_,by omega,by omega,λc hc=>by rw[x4.get c (by omega),x2.get c (by omega)]⟩;rcases w4 with h|⟨b',A0,h1,h2,h3,h4⟩;·simp_all
  exact .inr ⟨b',A0,h1,h2,by omega,h4⟩
 ·obtain rfl:k=l.length:=by omega
  obtain⟨v4,m3,e4,w4,f4,l4, -⟩:=(g0.aE x2).append hA (by grind) w3 (by grind) (by grind);refine⟨_,m1,_,v3,m2,v4,m3,s1,d0,a0,s2,e3,l3,e4,?_,by have:=f4.n;have:=x2.n;omega,l4,λc hc=>by rw[f4.get c hc,x2.get c (by omega)]⟩;grind
end
structure YQ(q:Qn):Prop where
 id:0<=q.id/\q.id<=99
 len:q.lg.length<=4
 ok:∀f∈q.lg,(0<=f.un/\f.un<=99)/\ -2<=f.side/\f.side<=7
 tP:q.lg.Pairwise gZ
structure QW where
 q:Qn
 w:Φ
abbrev QW.c(x:QW):Bt:=[.int .i64 x.q.id,x.w]
abbrev QW.v(x:QW):Φ:=.agg (x.c).toArray
instance:aW QW where
 ty:=79
 sz:=2
 agg:=true
 cT:=[]
 rep _ x cs:=cs=x.c/\one x.w=true
 pos:=by decide
 one:=by grind
 len:=by grind
 dS:=by rintro _ x _ ⟨rfl,h⟩;show(true && (one x.w && true))=true;rw[h];rfl
 aV:=by grind
theorem kQ:oU TE 41 79 QW:=⟨ag.t41,ag.t79,by kernel_rfl,⟨_,rfl⟩,rfl,by kernel_rfl,rfl,rfl⟩
theorem PK:qH TE 41 QW:=⟨ag.t41,ag.t79,by kernel_rfl,rfl,rfl,by kernel_rfl,by decide,rfl⟩
theorem Ns{x:QW}:aF TE m 41 1 [(0,x.v)]=some (.slice (some ⟨m.n,0,none⟩) 1 1,m.push (.cells x.c 79 none)):=by kernel_rfl
def Iu(m:M)(l:List QW):Prop:=∀x∈l,Sl m x.q.lg x.w/\YQ x.q
theorem Iu.aV{l:List QW}{m':M}(h:Iu m l)(hk:∀c cs g,m.get c=.cells cs 53 g->m'.get c=.cells cs 53 g):Iu m' l:=λx hx=>
 ⟨(h x hx).1.aV λc cs t g hc ht=>by
  have ht:t=53:=by simpa[aW.ty,aW.cT]using ht
  subst ht;exact hk c cs g hc,(h x hx).2⟩
theorem La{b:Nat}{x:QW}{g:Option Nat}(h:m.get b=.cells x.c 79 g):ah TE m 3 (Ga b (0+0))=some (YR x.q.id)/\ah TE m 35 (Ga b (0+1))=some x.w/\ah TE m 79 (Ga b 0)=some x.v:=by
 refine⟨?_,?_,?_⟩;·rw[bF,aI h];rfl
 ·rw[nG,aI h];rfl
 rw[Q3,aQ (n:=2) h (by grind)];rfl
theorem aeV{l:List I4}{v:Φ}(h:oK m l v){i:Nat}{x:I4}(hx:l[i]?=some x):∃b o,ak TE 23 v (YR i)=some (Ga b o)/\∀(j:Nat) (z:Int),j<4->x.c'[j]?=some (YR z)->ah TE m 3 (Ga b (o+j))=some (YR z):=by
 have⟨p,cs,e1,e2,e3⟩:=h.index xL (k:=.i64) hx;have d0:=(OJ.1 hx).1;rcases h with h|h;·have⟨b,o,bc,g,cs,f1,hb,hr,hle,hj⟩:=h.fa xL (k:=.i64) hx;have hr:cs=x.c':=hr;subst hr;refine⟨b,o,f1,λj z a0 hz=>?_⟩;rw[bF,aI hb,hj j a0,hz]
 rcases h with⟨_,rfl⟩|⟨b,o,c,bc,rfl,hb,b0⟩;·grind
 have⟨hle,hr⟩:=b0 i x hx;have hr:(bc.drop (o+i*4)).take 4=x.c':=hr;have f1:ak TE 23 (KI b o l.length c) (YR i)=some (Ga b (o+i*4)):=by
  have hc:0<=(i:Int)/\(i:Int)< (l.length:Int)/\0<ag.t23.es:=⟨by omega,by omega,by decide⟩
  have hd:ag.t23.d=.slice 153:=rfl;simp only[ak,WS,hd];rw[Tf hc,bj rfl];rfl
 refine⟨b,o+i*4,f1,λj z a0 hz=>?_⟩;have h5:bc[o+i*4+j]?=some (YR z):=by
  grind
 rw[bF,uW hb h5 rfl]
theorem T5{x:I4}(hx:x.ok){k:Nat}(hk:k<4):∃z,x.c'[k]?=some (YR z)/\lM z:=by
 have⟨h1,h2,h3,h4⟩:=hx;rcases(by omega:k=0\/k=1\/k=2\/k=3)with rfl|rfl|rfl|rfl;·exact⟨_,rfl,h1⟩
 ·exact⟨_,rfl,h2⟩
 ·exact⟨_,rfl,h3⟩
 exact⟨_,rfl,h4⟩
theorem RY{l:List Fc}{f:Fc}{k:Nat}(hs:l.Pairwise gZ)(hn:f∉l)(h1:∀y∈l.take k,gZ y f)(h2:∀y,l[k]?=some y->¬gZ y f):(l.take k++f::l.drop k).Pairwise gZ:=by
 have h3:∀y∈l.drop k,gZ f y:=by
  by_cases a0:k<l.length
  ·rw[JK a0];have hk:=Fx a0;have e:gZ f l[k]:=(HC (a:=f) (b:=l[k]) λe=>hn (by grind)).resolve_right (h2 _ hk);intro y hy;rcases RN.1 hy with rfl|hy;·exact e
   have b0:=hs.sublist (Ee k l);rw[JK a0,Zv]at b0;exact rB _ _ _ e (b0.1 y hy)
  ·rw[Gl (by omega)];grind
 rw[Y7,Zv];refine⟨hs.sublist (List.take_sublist k l),⟨h3,hs.sublist (Ee k l)⟩,λy hy z hz=>?_⟩;rcases RN.1 hz with rfl|hz;·grind
 exact rB _ _ _ (h1 y hy) (h3 z hz)
theorem YF{n:Int}:aJ TE 79 [(0,YR n)]=some (QW.v ⟨⟨n,[]⟩,YM⟩):=Gt rfl
end
section
variable {X:aK} {m:M}
set_option maxHeartbeats 2000000 in
theorem ye(hX:cd X){l:List UW}{r vm:Φ}(hF:cP m l r)(hP:cq (bM l)){xs:List I4}{vq:Φ}(hq:oK m xs vq)(G1:∀x∈xs,x.ok)(hlen:xs.length < 9223372036854775808):
  ∃qs v m',C X (.func 29) [.agg #[r,vm],vq] m m.n v m'/\Ext m m'/\tJ m' qs v/\Iu m' qs/\qs.length<=4/\qs.Pairwise λa b=>a.q.id < b.q.id:=by
 have o2:l.length<=12:=by have:=hP.len;rwa[cx]at this
 have key:=Cl.FU (E:=TE) (X:=X) (f:=29) (args:=[.agg #[r,vm],vq]) (m:=m) (R:=λrv m' b=>b=m.n/\∃qs,Ext m m'/\tJ m' qs rv/\Iu m' qs/\qs.length<=4/\qs.Pairwise λa b=>a.q.id < b.q.id) (hX.no _ rfl) (Kg func29) rfl ?_
 ·obtain⟨rv,m',b,hc,rfl,qs,h⟩:=key;exact⟨qs,rv,m',hc,h⟩
 have H:∀R:Bt->M->Nat->Prop,(∀(qs:List QW) (v:Φ) (m':M) (lo:Nat),m.n<=lo->Ext m m'->tJ m' qs v->Iu m' qs->qs.length<=4->qs.Pairwise (λa b=>a.q.id < b.q.id)->R [v] m' lo)->dk TE (aL TE X) f29 [.agg #[r,vm],vq] m R:=by
  intro R hR;rw[F29];dsimp only[δ,ε,ζ,η,θ,ι,κ,ν,ρ,ς,υ,χ,ψ,Γ,Θ,ω];refine aw λm1 K2 H1 I1=>?_;have B0:Ext m m1:=⟨by omega,I1⟩
  have gs:m1.get m.n=.cells [r,vm] 33 none:=H1;unfold ptrTo;simp only[bV,bJ,eT,cW,ae];refine Lp.intro (γ:=Nat) (λi=>4-i) (λi vs mm lo=>∃qs v,vs=[v,.int .i64 i]/\i<=4/\Ext m1 mm/\m.n<=lo/\Ow m1.n mm qs v/\Iu mm qs/\qs.length<=i/\(∀x∈qs,x.q.id < 10*i)/\qs.Pairwise λa b=>a.q.id < b.q.id) 0 ⟨[],_,rfl,by omega,.refl,Ox _,.nil,λx hx=>(by cases hx),by simp,λx hx=>(by cases hx),.nil⟩ ?_;rintro i vs mm lo ⟨qs,v,rfl,hi,k0,q0,J0,K0,L2,L0,N0⟩;have O0:oK mm xs vq:=(hq.aE B0).aE k0;have nm:=k0.n;rw[aB,aB];refine aZ (λvs m' b0=>∃b:Bool,vs=[.bool b]/\mm=m'/\m.n<=b0/\(b=true->i < xs.length/\i < 4)) (λQ hQ=>?_) ?_
  ·rw[O0.len xL,az,aM,ae,aj];refine an (λc=>?_) (λ_=>hQ _ _ _ ⟨_,rfl,rfl,q0,λh=>by cases h⟩);have c:(i:Int)< (xs.length:Int):=NT c;rw[aM,ae];refine hQ _ _ _ ⟨_,rfl,rfl,q0,λh=>?_⟩;have:=NT h;omega
  rintro _ _ fO ⟨b,rfl,rfl,P0,hb⟩;rw[aB,aj];refine an (λc=>?_) (λ_=>hR _ _ _ _ P0 (B0.trans k0) J0.YU K0 (by omega) N0);have⟨J1,M2⟩:=hb c;obtain⟨x,hx⟩:∃x,xs[i]?=some x:=⟨_,Fx J1⟩
  have b1:=G1 x (LZ hx);rw[fH,ae,wrap64,YF,ae];refine aw λm21 u2 r0 c1=>?_;refine aC LF r0 rfl rfl rfl λm22 y2 s0 i1=>?_;have gq:m22.get mm.n=.cells (QW.c ⟨⟨10*(i:Int),[]⟩,YM⟩) 79 none:=s0;have K1:Ext mm m22:=⟨by omega,by grind⟩
  have j1:mm.n < m22.n:=by omega
  clear r0 c1 s0 i1;refine Lp.intro (γ:=Nat) (λk=>4-k) (λk vs m' lo=>∃(ns:List Fc) (w:Φ),vs=[.int .i64 k]/\k<=4/\Ext mm m'/\m.n<=lo/\m'.get mm.n=.cells (QW.c ⟨⟨10*(i:Int),ns⟩,w⟩) 79 none/\Ow (mm.n+1) m' ns w/\ns.length<=k/\(∀f∈ns,(0<=f.un/\f.un<=99)/\ -2<=f.side/\f.side<=7)/\ns.Pairwise gZ/\mm.n < m'.n) 0 ⟨[],_,rfl,by omega,K1,by omega,gq,.nil,by simp,λf hf=>(by cases hf),.nil,j1⟩ ?_;rintro k vs i0 N2 ⟨ns,w,rfl,hk,a0,z2,gq,C0,O2,j0,D0,A2⟩;rw[aB,aM,ae,aj];refine an (λc=>?_) (λc=>?_)
  ·have E0:k < 4:=by grind
   have⟨z,hz,u0⟩:=T5 b1 E0;have n26:=a0.n
   have el:∀{ma:M},Ext mm ma->∃b o,ak TE 23 vq (.int .i64 i)=some (.pointer (some ⟨b,o,none⟩))/\ak TE 153 (.pointer (some ⟨b,o,none⟩)) (.int .i64 k)=some (.pointer (some ⟨b,o+k,none⟩))/\ah TE ma 3 (.pointer (some ⟨b,o+k,none⟩))=some (.int .i64 z):=λhe=>by have⟨b,o,e1,e2⟩:=aeV (O0.aE he) hx;exact⟨b,o,e1,Oh E0,e2 k z E0 hz⟩
   refine aZ (λvs m' b0=>∃(ns:List Fc) (w:Φ),vs=[]/\Ext mm m'/\m.n<=b0/\m'.get mm.n=.cells (QW.c ⟨⟨10*(i:Int),ns⟩,w⟩) 79 none/\Ow (mm.n+1) m' ns w/\ns.length<=k+1/\(∀f∈ns,(0<=f.un/\f.un<=99)/\ -2<=f.side/\f.side<=7)/\ns.Pairwise gZ/\mm.n < m'.n) (λQ hQ=>?_) ?_
   ·have⟨b,o,e1,e2,e3⟩:=el a0;have p1:=kV (c:=z) (show(0:Int)< 100 by decide);rw[e1,ae,e2,ae,e3,ae];refine aG (mQ hX u0 (by decide)) ⟨Ox _,?_⟩;rw[ae,e2,ae,e3,ae,km (by decide),ae];have p2:=kV (c:=IntKind.i64.wrap (z.tdiv 16)) (show(0:Int)< 6 by decide);refine aG (mQ hX (mj _) (by decide)) ⟨Ox _,?_⟩;rw[dt,ae,wrap64,zo,ae];obtain⟨f0,L1⟩:∃f:Fc,f=⟨dR z 100,dR (IntKind.i64.wrap (z.tdiv 16)) 6-2⟩:=⟨_,rfl⟩
    rw[<-L1];have n0:(0<=f0.un/\f0.un<=99)/\ -2<=f0.side/\f0.side<=7:=by grind
    refine aw λP2 B2 v0 k1=>?_;refine aC qI v0 rfl rfl rfl λF0 C2 y0 l1=>?_;have gf:F0.get i0.n=.cells f0.c 53 none:=y0;have o0:Ext i0 F0:=⟨by omega,by grind⟩
    have o1:i0.n < F0.n:=by omega
    clear v0 k1 y0 l1;refine aZ (λvs m' b0=>∃f:Fc,vs=[]/\Ext i0 m'/\m.n<=b0/\m'.get i0.n=.cells f.c 53 none/\((0<=f.un/\f.un<=99)/\ -2<=f.side/\f.side<=7)/\i0.n < m'.n) (λQ2 d0=>?_) ?_
    ·have r1:=(k0.trans (a0.trans o0)).cells gs;have hu:=(hF.aE (B0.trans (k0.trans (a0.trans o0)))).sl;rw[Bq r1,ae,hu.len dc,az,bP,ae,aj];refine an (λc=>?_) (λ_=>d0 _ _ _ ⟨f0,rfl,o0,by omega,gf,n0,o1⟩);have c:=NT c;have⟨b',o',d1,d2,d3⟩:=el (a0.trans o0);rw[e1]at d1;cases d1;rw[ae,ae,e2,ae,d3,ae,ae,hu.len dc,az];obtain⟨j,hj,e⟩:=jq (c:=z) (n:=l.length) (by omega);refine aG (mQ hX u0 (by omega)) ⟨Ox _,?_⟩;rw[e];obtain⟨y,hy⟩:∃y,l[j]?=some y:=⟨_,Fx hj⟩
     have⟨pb,po,g1,g2,g3⟩:=rV hu hy;rw[g1,ae,g2,ae,g3,ae];have u1:=hP.id0 (u:=y.u) (LY.2 ⟨y,LZ hy,rfl⟩);refine bS rf gf rfl (by show 0+0+1<=2;decide) rfl λT2 D2 w1 y1=>d0 _ _ _ ⟨⟨y.u.id,f0.side⟩,rfl,⟨by omega,λc hc=>by rw[y1 c (by omega),o0.get c hc]⟩,by omega,w1,⟨u1,n0.2⟩,by omega⟩
    rintro _ G0 b3 ⟨f,rfl,l0,E2,gf,z1,F2⟩;have e0:=l0.cells gq;have g0:=C0.aE l0;have c3:=l0.n;refine aZ (λvs m' b0=>∃b:Bool,vs=[.bool b]/\G0=m'/\m.n<=b0/\(b=false->f∉ns)) (λQ2 d0=>?_) ?_
    ·rw[(La e0).2.1,ae,(qq gf).2.2,ae];refine aG (yK hX g0.sl (by omega) f) ?_;rw[aj];refine an (λ_=>d0 _ _ _ ⟨_,rfl,rfl,by omega,λh=>by cases h⟩) (λc=>?_);have c:=Ja c;have⟨b',o',d1,d2,d3⟩:=el (a0.trans l0);rw[e1]at d1;cases d1;rw[ae,e2,ae,d3,ae,km (by decide),ae];refine aG (mQ hX (mj _) (by decide)) ?_;rw[aS,ae];exact d0 _ _ _ ⟨_,rfl,rfl,by omega,λ_=>c⟩
    rintro _ _ i3 ⟨b5,rfl,rfl,z0,N1⟩;rw[aB,aj];refine an (λ_=>hQ _ _ _ ⟨ns,w,rfl,a0.trans l0,z0,e0,g0,by omega,j0,D0,by omega⟩) (λc=>?_);have O1:=N1 c;refine Lp.intro (γ:=Nat) (λj=>ns.length-j) (λj vs m' lo=>vs=[.int .i64 j]/\j<=ns.length/\G0=m'/\m.n<=lo/\∀y∈ns.take j,gZ y f) 0 ⟨rfl,ZE _,rfl,z0,λy hy=>by cases hy⟩ ?_;rintro j _ _ j3 ⟨rfl,hj,rfl,A1,B1⟩;rw[aB];refine aZ (λvs m' b0=>∃b:Bool,vs=[.bool b]/\G0=m'/\m.n<=b0/\(b=true->∃y,ns[j]?=some y/\gZ y f)/\(b=false->∀y,ns[j]?=some y->¬gZ y f)) (λQ2 d0=>?_) ?_
    ·rw[(La e0).2.1,ae,g0.sl.len dA,az,aM,ae,aj];refine an (λC1=>?_) (λP1=>?_)
     ·have C1:j < ns.length:=by grind
      obtain⟨y,hy⟩:∃y,ns[j]?=some y:=⟨_,Fx C1⟩
      have⟨p,g1,g2⟩:=lZ g0.sl hy;rw[ae,g1,ae,g2,ae,(qq gf).2.2,ae];refine aG (Ey hX y f) ?_;refine d0 _ _ _ ⟨_,rfl,rfl,by omega,λc=>⟨y,hy,NT c⟩,λc z hz=>?_⟩;rw[hy]at hz;cases hz;exact Ja c
     refine d0 _ _ _ ⟨false,rfl,rfl,A1,λc=>(by cases c),λ_ z hz=>?_⟩;have:¬(j:Int)< (ns.length:Int):=Ja P1;have:=(OJ.1 hz).1;omega
    rintro _ _ k3 ⟨b7,rfl,rfl,D1,T1,b2⟩;rw[aB,aj];refine an (λc=>?_) (λc=>?_)
    ·have⟨y,hy,c2⟩:=T1 c;have:=(OJ.1 hy).1;rw[aP,ae,wrap64];refine⟨j+1,by omega,rfl,by omega,rfl,D1,λz hz=>?_⟩;rw[Q1,hy]at hz;rcases OH.1 hz with hz |hz;·exact B1 z hz
     simp only[Gf,Qk]at hz;rw[hz];exact c2
    obtain⟨v1,G2,v2,v3,H2,v4,E1,g1,g2,A0,g3,g4,g5,g6,w4,n4,l4,k4⟩:=TB (x:=f) (k:=j) ve dA rfl g0 (by omega) (by omega) hj BG (λ_=>rfl) (by kernel_rfl) (λ_=>by kernel_rfl);rw[(La e0).2.1,ae,g1,ae,(qq gf).2.2,ae,g2,az,(La (A0.cells e0)).2.1,ae,g3,ae,g4,az];refine⟨g5,?_⟩;rw[g6,az];have H0:E1.get mm.n=.cells (QW.c ⟨⟨10*(i:Int),ns⟩,w⟩) 79 none:=by grind
    refine bS CZ H0 (by rw[w4.sl.cells];rfl) (by rw[w4.sl.cells];show 0+1+1<=2;decide) (by rw[w4.sl.cells];simp[w4.sl.one]) λI2 i2 I0 p0=>?_;have n131:=A0.n;refine hQ _ _ _ ⟨ns.take j++f::ns.drop j,v4,rfl,⟨by omega,λc hc=>by rw[p0 c (by omega),k4 c (by omega),l0.get c (by omega),a0.get c hc]⟩,by omega,?_,w4.om rfl λc h1 h2=>p0 c (by omega),?_,?_,RY D0 O1 B1 (b2 c),by omega⟩;·rw[I0,w4.sl.cells];rfl
    ·rw[NN,zG,Gy,VY];omega
    intro y hy;rcases OH.1 hy with hy |hy;·exact j0 y (OO hy)
    rcases RN.1 hy with rfl |hy;·exact z1
    exact j0 y (ZJ hy)
   rintro _ m' b0 ⟨j2,w',rfl,a1,a2,a3,a4,a5,a6,a7,a8⟩;rw[aP,ae,wrap64];exact⟨k+1,by omega,j2,w',rfl,by omega,a1,a2,a3,a4,a5,a6,a7,a8⟩
  rw[(La gq).2.2,ae];refine fq (T:=41) (x:=(⟨⟨10*(i:Int),ns⟩,w⟩:QW)) PK rfl (J0.aE a0) (by grind) (by omega) Ns (λ_=>⟨rfl,C0.sl.one⟩) λr' J2 w2 n2 k2 m2 l2=>?_;rw[aP,ae,wrap64];have n26:=a0.n
  have F1:Iu i0 (qs++ [⟨⟨10*(i:Int),ns⟩,w⟩]):=λy hy=>by
   rcases OH.1 hy with hy |hy;·exact K0.aV (λc cs g hc=>a0.cells hc) y hy
   rw[Qk.1 hy];exact⟨C0.sl,by grind,by grind,j0,D0⟩
  refine⟨i+1,by omega,_,r',rfl,by omega,⟨by omega,λc hc=>by rw[k2 c hc,a0.get c (by omega),k0.get c hc]⟩,by omega,w2,F1.aV λc cs g hc=>?_,by grind,λy hy=>?_,?_⟩;·rw[m2 c (M.aU hc) (λl3 g' e=>by rw[hc]at e;cases e),hc]
  ·rcases OH.1 hy with hy |hy;·have:=L0 y hy;omega
   rw[Qk.1 hy];show 10*(i:Int)< _;omega
  rw[Y7];refine⟨N0,List.pairwise_singleton _ _,λa ha b hb=>?_⟩;rw[Qk.1 hb];exact L0 a ha
 refine H _ λqs v m' lo q0 hx h1 h2 h3 h4=>?_;show(bA v=true/\m.n<=lo/\(m.n=m.n/\∃qs,Ext m m/\tJ m qs v/\Iu m qs/\qs.length<=4/\qs.Pairwise λa b=>a.q.id < b.q.id))\/((bA v=false\/lo < m.n)/\(min m.n lo=m.n/\∃qs,Ext m m'/\tJ m' qs v/\Iu m' qs/\qs.length<=4/\qs.Pairwise λa b=>a.q.id < b.q.id));rcases h1 with⟨rfl,rfl⟩ |h1;·exact .inl ⟨rfl,q0,rfl,[],.refl,.inl ⟨rfl,rfl⟩,λx hx=>(by cases hx),by simp,.nil⟩
 refine .inr ⟨.inl ?_,by omega,qs,hx,.inr h1,h2,h3,h4⟩;obtain⟨-,b,o,c,bc,g,rfl, -⟩:=h1;rfl
end
section
variable {X:aK} {m:M}
abbrev yi(p:Nat×Nat):Bt:=[.int .i64 p.1,.int .i64 p.2]
instance:aW (Nat×Nat) where
 ty:=69
 sz:=2
 agg:=true
 cT:=[]
 rep _ p cs:=cs=yi p
 pos:=by decide
 one:=by grind
 len:=by grind
 dS:=by rintro _ _ _ rfl;rfl
 aV:=by grind
theorem iM:oU TE 40 69 (Nat×Nat):=⟨ag.t40,ag.t69,by kernel_rfl,⟨_,rfl⟩,rfl,by kernel_rfl,rfl,rfl⟩
theorem GI:qH TE 40 (Nat×Nat):=⟨ag.t40,ag.t69,by kernel_rfl,rfl,rfl,by kernel_rfl,by decide,rfl⟩
theorem Nt{p:Nat×Nat}:aF TE m 40 1 [(0,.agg (yi p).toArray)]=some (.slice (some ⟨m.n,0,none⟩) 1 1,m.push (.cells (yi p) 69 none)):=by kernel_rfl
abbrev scc(r r2 st rc mo tv pv qv:Φ):Bt:=[r,r2,st,rc,mo,tv,pv,qv]
abbrev nj(r r2 st rc mo tv pv qv:Φ):Φ:=.agg (scc r r2 st rc mo tv pv qv).toArray
structure EN(s:jk):Prop where
 y:qG s.y
 ts:∀t∈s.ts,dB t=true/\ru s.y.us t=true
 od:CO s.ts.length s.ps
 qs:∀q∈s.qs,YQ q
 ql:s.qs.length<=4
 tP:s.qs.Pairwise λa b=>a.id < b.id
theorem EN.tl{s:jk}(h:EN s):s.ts.length<=8:=h.od.le
structure It(s:jk):Prop extends EN s where
 tl6:s.ts.length<=6
 Y5:∀p∈s.ps,p.1 < p.2/\p.2 < s.ts.length
 W3:s.ps.length<=15
 rc9:s.y.rc.length<=9
structure oQ(m:M)(s:jk)(r r2 st rc mo tv pv qv:Φ):Prop where
 y:lR m s.y r r2 st rc mo
 ts:∃l:List TW,l.map TW.t=s.ts/\Sl m l tv/\zt m l
 ps:Sl m s.ps pv
 qs:∃l:List QW,l.map QW.q=s.qs/\Sl m l qv/\Iu m l
theorem oQ.aV{s:jk}{r r2 st rc mo tv pv qv:Φ}{m':M}(h:oQ m s r r2 st rc mo tv pv qv)(hk:∀c cs t g,m.get c=.cells cs t g->t≠43->t≠38->m'.get c=.cells cs t g):oQ m' s r r2 st rc mo tv pv qv:=by
 have⟨h1,⟨l,h2,h3,h4⟩,h5,⟨q,h6,h7,h8⟩⟩:=h
 refine⟨h1.aV λc cs t g hc ht=>hk c cs t g hc (by grind) (by grind),⟨l,h2,h3.aV λc cs t g hc ht=>hk c cs t g hc ?_ ?_,h4.aV λc cs g hc=>hk c cs _ g hc (by decide) (by decide)⟩,h5.aV λc cs t g hc ht=>hk c cs t g hc ?_ ?_,⟨q,h6,h7.aV λc cs t g hc ht=>hk c cs t g hc ?_ ?_,h8.aV λc cs g hc=>hk c cs _ g hc (by decide) (by decide)⟩⟩ <;>
  (simp only[aW.ty,aW.cT,RN,ZX,or_false]at ht;subst ht;decide)
theorem oQ.aE{s:jk}{r r2 st rc mo tv pv qv:Φ}{m':M}(h:oQ m s r r2 st rc mo tv pv qv)(hx:Ext m m'):oQ m' s r r2 st rc mo tv pv qv:=h.aV λ_ _ _ _ hc _ _=>hx.cells hc
theorem oQ.dS{s:jk}{r r2 st rc mo tv pv qv:Φ}(h:oQ m s r r2 st rc mo tv pv qv):(scc r r2 st rc mo tv pv qv).all one:=by have⟨h1,⟨l,h2,h3,h4⟩,h5,⟨q,h6,h7,h8⟩⟩:=h;have⟨⟨l',_,k2⟩,k3,⟨k,_,k5⟩,k6,k7⟩:=h1;show(one r && (one r2 && (one st && (one rc && (one mo && (one tv && (one pv && (one qv && true))))))))=true;rw[k2.sl.one,k3.one,k5.sl.one,k6.one,k7.one,h3.one,h5.one,h7.one];rfl
theorem oQ.flat{s:jk}{r r2 st rc mo tv pv qv:Φ}{m':M}(h:oQ m' s r r2 st rc mo tv pv qv)(hf:D.bw r/\D.bw r2/\D.bw st/\D.bw rc/\D.bw mo/\D.bw tv/\D.bw pv/\D.bw qv)(m:M):oQ m s r r2 st rc mo tv pv qv:=by have⟨h1,⟨l,h2,h3,h4⟩,h5,⟨q,h6,h7,h8⟩⟩:=h;have⟨f1,f2,f3,f4,f5,f6,f7,f8⟩:=hf;obtain⟨e1,rfl⟩:=dK h3 f6;obtain⟨e2,rfl⟩:=dK h5 f7;obtain⟨e3,rfl⟩:=dK h7 f8;subst e1 e3;exact⟨h1.flat ⟨f1,f2,f3,f4,f5⟩ m,⟨[],h2,.nil,λx hx=>(by cases hx)⟩,e2 ▸ .nil,⟨[],h6,.nil,λx hx=>(by cases hx)⟩⟩
section
variable {b:Nat} {r r2 st rc mo tv pv qv:Φ} {g:Option Nat}
theorem fK(h:m.get b=.cells (scc r r2 st rc mo tv pv qv) 43 g):
  ah TE m 38 (Ga b (0+0))=some (yv r r2 st rc mo)/\ah TE m 39 (Ga b (0+5))=some tv/\ah TE m 40 (Ga b (0+6))=some pv/\ah TE m 41 (Ga b (0+7))=some qv/\
  ah TE m 43 (Ga b 0)=some (nj r r2 st rc mo tv pv qv):=by
 refine⟨?_,?_,?_,?_,?_⟩;·rw[HI,aQ (n:=5) h (by grind)];rfl
 ·rw[Rb,aI h];rfl
 ·rw[HH,aI h];rfl
 ·rw[Ra,aI h];rfl
 rw[Q9,aQ (n:=8) h (by simp_all)];rfl
end
def Tm:Nat->Nat
 |0=>0
 |i+1=>Tm i+i
theorem Tl{i:Nat}(h:i<=6):Tm i<=15:=by
 match i,h with
 |0,_=>decide
 |1,_=>decide
 |2,_=>decide
 |3,_=>decide
 |4,_=>decide
 |5,_=>decide
 |6,_=>decide
theorem ab4{r r2 st rc mo tv qv:Φ}(h1:cells tv=[tv])(h2:cells qv=[qv]):aJ TE 43 [(0,yv r r2 st rc mo),(1,tv),(3,qv)]=some (nj r r2 st rc mo tv YM qv):=by rw[abo rfl (by grind) (by grind),h1,h2];rfl
end
section
variable {X:aK} {m:M}
structure YN(m:M)(s:jk)(r r2 st rc mo tv pv qv:Φ):Prop extends oQ m s r r2 st rc mo tv pv qv where
 cap:∃l:List QW,tJ m l qv
theorem MN{l:List QW}{v:Φ}{m':M}(h:tJ m l v)(hk:∀c cs t g,m.get c=.cells cs t g->t≠43->m'.get c=.cells cs t g):tJ m' l v:=h.aV λc cs t g hc ht=>hk c cs t g hc (by simp only[aW.ty,aW.cT,RN,ZX,or_false]at ht;subst ht;decide)
set_option maxHeartbeats 4000000 in
theorem abr(hX:cd X){xs:List I6}{ks:List I4}{vb vk va:Φ}(hv:EM m xs vb)(K3:∀x∈xs,x.ok)(hlen:xs.length < 9223372036854775808)(hk:oK m ks vk)(C2:∀x∈ks,x.ok)(N1:ks.length < 9223372036854775808)(L3:one va=true)
  {ws:List I6} {vw:Φ} (hw:EM m ws vw) (u1:∀x∈ws,x.ok) (N3:ws.length < 9223372036854775808) {ps:List Int} {vp:Φ} (hp:oK m ps vp) (D2:∀x∈ps,lM x) (O3:ps.length < 9223372036854775808)
  {qs:List I4} {vq:Φ} (hq:oK m qs vq) (E2:∀x∈qs,x.ok) (O1:qs.length < 9223372036854775808):
  ∃s r r2 st rc mo tv pv qv m',C X (.func 7) [.agg #[vb,vk,va],vw,vp,vq] m m.n (nj r r2 st rc mo tv pv qv) m'/\Ext m m'/\It s/\YN m' s r r2 st rc mo tv pv qv:=by
 refine Cl.TY hX (Kg func7) (R:=λrv m'=>∃s r r2 st rc mo tv pv qv,rv=nj r r2 st rc mo tv pv qv/\Ext m m'/\It s/\YN m' s r r2 st rc mo tv pv qv) ?_ λrv m' hc ⟨s,r,r2,st,rc,mo,tv,pv,qv,e,h⟩=>⟨s,r,r2,st,rc,mo,tv,pv,qv,m',e ▸ hc,h⟩
 have H:∀R:Bt->M->Nat->Prop,(∀(s:jk) (r r2 st rc mo tv pv qv:Φ) (m':M) (lo:Nat),m.n<=lo->Ext m m'->It s->YN m' s r r2 st rc mo tv pv qv->R [nj r r2 st rc mo tv pv qv] m' lo)->dk TE (aL TE X) Tryz.f7 [.agg #[vb,vk,va],vw,vp,vq] m R:=by
  intro R hR;rw[ac9];dsimp only[aL];refine aw λm1 n5 F2 c4=>?_;refine aw λm2 o5 G2 H2=>?_;have P0:Ext m m2:=⟨by omega,by grind⟩
  have g1:m2.get m.n=.cells [vb,vk,va] 25 none:=by rw[H2 _ (by omega)];exact F2
  have gz:m2.get m1.n=.cells (scc YM YM YM YM YM YM YM YM) 43 none:=G2;clear F2 c4 G2 H2;unfold ptrTo;simp only[cF,dZ,ae];have I2:=hw.aE P0;rw[show ah TE m2 25 (.pointer (some ⟨m.n,0,none⟩))=some (.agg #[vb,vk,va]) by rw[BS,aQ (n:=3) g1 (by grind)];rfl,ae,I2.r.len nv,az,kf,az];obtain⟨kr,r5⟩:∃kr:Nat,kr=min ws.length 3:=⟨_,rfl⟩
  rw[show min (ws.length:Int) 3=(kr:Int) by omega];obtain⟨v6,e6,s6,c6,o6⟩:=I2.to nv (by kernel_rfl) (i:=kr) (by omega);rw[e6,ae];obtain⟨y,r,r2,st,rc,mo,l0,v0,m8,c8,x8,hyp,z0, -, -, -,J2⟩:=acf (m:=m2) hX (hv.aE P0) K3 hlen (hk.aE P0) C2 N1 L3 s6.r (λx hx=>u1 x (OO hx)) (by grind);refine aG c8 ⟨Ox _,?_⟩;have n8:=x8.n;rw[aH,aH];simp only[zi,F9,ae];refine aw λm12 F4 v1 P1=>?_;refine aC ka v1 rfl rfl z0.dS λm13 G4 w1 K2=>?_;have gY:m13.get m8.n=.cells (yc r r2 st rc mo) 38 none:=w1;have y1:Ext m8 m13:=⟨by omega,by grind⟩
  rw[(dW gY).2.2.2.2,ae];refine aw λm16 H4 z1 L2=>?_;refine aC ka z1 rfl rfl z0.dS λm17 J4 A1 M2=>?_;have gN:m17.get m13.n=.cells (yc r r2 st rc mo) 38 none:=A1;have A0:Ext m13 m17:=⟨by omega,by grind⟩
  have n13:=y1.n;have n17:=A0.n;have u5:m8.n < m13.n:=by omega
  have K4:m13.n < m17.n:=by omega
  have B1:=y1.trans A0;have c1:=P0.trans x8;have T1:=z0.aE B1;have d4:=x8.cells gz;have e4:=hw.r.aE c1;clear v1 P1 w1 K2 z1 L2 A1 M2;refine Lp.intro (γ:=Nat) (λi=>9-i) (λi vs mm lo=>∃l v z,vs=[v,.int .i64 i]/\3<=i/\i<=9/\m.n<=lo/\Ext m8 mm/\m17.n<=mm.n/\mm.get m8.n=.cells (yc r r2 st rc mo) 38 none/\KU mm m13.n z/\Ow m17.n mm l v/\zt mm l/\(∀x∈l,ru y.us x.t=true)/\l.length+3<=i) 3 ⟨[],_,y,rfl,by omega,by omega,by omega,B1,Ox _,A0.cells gY,⟨hyp,_,_,_,_,_,gN,T1⟩,.nil,λx hx=>(by cases hx),λx hx=>(by cases hx),Ox _⟩ ?_;rintro i vs mm lo ⟨l,v,z,rfl,v5,hi,c2,e0,w5,gy,hz,B0,d1,N2,y5⟩;have O2:oK mm ws vw:=e4.aE e0;rw[aB,aB];refine aZ (λvs m' g0=>∃b:Bool,vs=[.bool b]/\mm=m'/\m.n<=g0/\(b=true->i < ws.length/\i < 9)) (λQ hQ=>?_) ?_
  ·rw[O2.len nv,az,aM,ae,aj]
   refine an (λc=>?_) (λ_=>hQ _ _ _ ⟨_,rfl,rfl,c2,λh=>by cases h⟩)
   have c:(i:Int)< (ws.length:Int):=NT c
   rw[aM,ae]
   grind
  rintro _ _ fO ⟨b,rfl,rfl,L4,hb⟩;rw[aB,aj];refine an (λc=>?_) (λ_=>?_)
  ·have⟨f4,z5⟩:=hb c;refine aZ (λvs m' g0=>∃l v z,vs=[v]/\m.n<=g0/\Ext m8 m'/\m17.n<=m'.n/\m'.get m8.n=.cells (yc r r2 st rc mo) 38 none/\KU m' m13.n z/\Ow m17.n m' l v/\zt m' l/\(∀x∈l,ru y.us x.t=true)/\l.length+3<=i+1) (λQ hQ=>?_) ?_
   ·have⟨d2,a1,a2,a3,a4,a5,e1,P2⟩:=id hz
    obtain⟨x,hx⟩:∃x,ws[i]?=some x:=⟨_,Fx f4⟩
    obtain⟨bb,o,f1,f2, -⟩:=Oi O2 hx
    rw[(dW e1).2.2.2.2,ae,f1,ae,f2,ae]
    have⟨q0,q1,q2,q3,q4,q5⟩:=u1 x (LZ hx)
    have⟨t,w,C0,g4,T2,hs,A5⟩:=DC (m:=mm) hX P2 d2 q0 q1 q2 q3 q4 q5
    refine aG g4 ⟨Ox _,?_⟩
    have n50:=T2.n
    refine aw λB5 N4 C1 c3=>?_
    refine aC mF C1 rfl rfl (Tk.cH hs.one) λi1 O4 D1 d3=>?_
    have gt:i1.get C0.n=.cells (t.c w) 62 none:=D1
    have s0:Ext C0 i1:=⟨by omega,by grind⟩
    have C5:=s0.n
    have R4:C0.n < i1.n:=by omega
    have e2:=T2.trans s0
    clear C1 c3 D1 d3
    rw[(dW (e2.cells e1)).2.2.2.2,ae,gI gt,ae]
    obtain⟨rv,e3,h4,j1,j4⟩:=zW (m:=i1) (t:=t) hX (P2.aE e2) d2 (hs.aE s0) (by omega)
    refine aG h4 ?_
    have D5:=j1.n
    obtain⟨b1,b2,b3,b4,b5,k,rfl,ob,g3,k4⟩:=Lg j4
    rw[aH,aH]
    simp only[zi,F9,ae]
    refine aw λE5 W4 E1 h3=>?_
    refine aC ka E1 rfl rfl ob λy0 c5 F1 i3=>?_
    have gn:y0.get e3.n=.cells (yc b1 b2 b3 b4 b5) 38 none:=F1
    have n0:Ext e3 y0:=⟨by omega,λc hc=>by grind⟩
    have G5:=n0.n
    have b0:=e2.trans (j1.trans n0)
    clear E1 h3 F1 i3
    have G1:y0.get C0.n=.cells (t.c w) 62 none:=(j1.trans n0).cells gt
    refine aZ (λvs m' g0=>∃b:Bool,vs=[.bool b]/\y0=m'/\m.n<=g0/\(b=true->k=0/\ru y.us t=true)) (λQ2 k1=>?_) ?_
    ·rw[aS,ae,aj]
     refine an (λc=>?_) (λ_=>k1 _ _ _ ⟨_,rfl,rfl,by omega,λh=>by cases h⟩)
     have c:k=0:=NT c
     rw[(dW (b0.cells gy)).2.2.2.2,ae,gI G1,ae]
     refine aG (adR (m:=y0) (t:=t) hX (z0.aE (e0.trans b0)) hyp hs.one) ?_
     grind
    rintro _ _ H5 ⟨I5,rfl,rfl,j3,l4⟩
    rw[aB,aj]
    refine an (λc=>?_) (λ_=>hQ _ _ _ ⟨l,v,z,rfl,j3,e0.trans b0,by omega,b0.cells gy,hz.aE b0,B0.aE b0,d1.aV λc cs g hc=>b0.cells hc,N2,by omega⟩)
    obtain⟨rfl,d5⟩:=l4 c
    cases hD:vX z t with
    |none=>exact absurd (k4 hD) (by decide)
    |some z2=>
    obtain⟨-,m4⟩:=g3 z2 hD
    have D0:dB t=true:=by
     unfold vX at hD
     grind
    have l3:qG z2:=by unfold vX at hD;rw[Tf D0]at hD;exact Dc d2 D0 hD
    rw[(dW gn).2.2.2.2,ae]
    refine aC ka (b0.cells e1) rfl rfl ob λj0 e5 m3 u0=>?_
    have f5:j0.get m13.n=.cells (yc b1 b2 b3 b4 b5) 38 none:=m3
    have k0:∀c cs t' g,y0.get c=.cells cs t' g->t'≠38->j0.get c=.cells cs t' g:=λc cs t' g hc ht=>by rw[u0 c (λe=>by subst e;rw[b0.cells e1]at hc;cases hc;exact ht rfl),hc]
    have n3:lR j0 z2 b1 b2 b3 b4 b5:=(m4.aE n0).aV λc cs t' g hc ht=>k0 c cs t' g hc (by grind)
    have g2:Ow m17.n j0 l v:=(B0.aE b0).om rfl λc h1 h2=>u0 c (by omega)
    have i2:zt j0 l:=(d1.aV λc cs g hc=>b0.cells hc).aV λc cs g hc=>k0 c cs _ g hc (by decide)
    have o3:j0.get C0.n=.cells (t.c w) 62 none:=k0 _ _ _ _ G1 (by decide)
    rw[gI o3,ae]
    have g5:Sl j0 t.un.shape w:=(hs.aE (s0.trans (j1.trans n0))).aV λc cs t' g hc ht=>k0 c cs t' g hc (by
     have ht:t'=141:=by simpa[aW.ty,aW.cT]using ht
     grind)
    refine fq (T:=39) (x:=(⟨t,w⟩:TW)) zr rfl g2 (by omega) (by omega) BF (λ_=>⟨rfl,hs.one⟩) λr' r3 w2 n2 k2 u3 l2=>?_
    have E0:∀c cs t' g,j0.get c=.cells cs t' g->t'≠62->r3.get c=.cells cs t' g:=λc cs t' g hc ht=>by rw[u3 c (M.aU hc) λJ5 g' e=>by rw[hc]at e;cases e;exact ht rfl,hc]
    have v3:lR r3 z2 b1 b2 b3 b4 b5:=n3.aV λc cs t' g hc ht=>E0 c cs t' g hc (by grind)
    have n4:zt j0 (l++ [⟨t,w⟩]):=λx hx=>by
     rcases OH.1 hx with hx |hx;·exact i2 x hx
     ·grind
    refine hQ _ _ _ ⟨_,r',z2,rfl,by omega,⟨by grind,λc hc=>by rw[k2 c (by omega),u0 c (by omega),b0.get c (by omega),e0.get c hc]⟩,by omega,by rw[k2 _ (by omega),u0 _ (by omega)];exact b0.cells gy,⟨l3,_,_,_,_,_,by grind,v3⟩,w2,n4.aV λc cs g hc=>E0 c cs _ g hc (by decide),λx hx=>?_,by grind⟩
    grind
   rintro _ m' g0 ⟨l',v',z',rfl,a1,a2,a3,a4,a5,a6,a7,a8,a9⟩;rw[aB,aP,ae,wrap64];exact⟨i+1,by omega,l',v',z',rfl,by omega,by omega,a1,a2,a3,a4,a5,a6,a7,a8,by omega⟩
  have F0:=z0.aE e0;obtain⟨⟨ul,o4,hF⟩,K5, -⟩:=id F0;rw[(dW gy).2.2.2.2,ae,(dW gy).1,ae];have r4:cq (bM ul):=by rw[o4];exact hyp.qE
  have⟨l1,qv,a0,u4,o0,o1,w3,L5,v4⟩:=ye (m:=mm) (vm:=r2) hX hF r4 ((hq.aE c1).aE e0) E2 O1;refine aG u4 ⟨Ox _,?_⟩;have N5:=o0.n;rw[ab4 B0.sl.cells o1.sl.cells,ae]
  have j2:(scc r r2 st rc mo v YM qv).all one=true:=by have⟨⟨_,_,k2⟩,k3,⟨_,_,k5⟩,k6,k7⟩:=F0;show(one r && (one r2 && (one st && (one rc && (one mo && (one v && (true && (one qv && true))))))))=true;rw[k2.sl.one,k3.one,k5.sl.one,k6.one,k7.one,B0.sl.one,o1.sl.one];rfl
  refine aw λO5 h5 H1 y3=>?_;refine aC oW H1 rfl rfl j2 λo2 i5 I1 z3=>?_;have gS:o2.get a0.n=.cells (scc r r2 st rc mo v YM qv) 43 none:=I1;have w4:Ext a0 o2:=⟨by omega,λc hc=>by grind⟩
  have A3:a0.n < o2.n:=by omega
  clear H1 y3 I1 z3;have d6:l.length<=6:=by omega
  have B3:oK a0 ps vp:=((hp.aE c1).aE e0).aE o0;have u2:=(B0.sl.aE o0)
  refine Lp.intro (γ:=Nat) (λi=>l.length-i) (λi vs ma lo=>∃(n:Nat) (pl:List (Nat×Nat)) (pv:Φ),vs=[.int .i64 n,.int .i64 i]/\i<=l.length/\n=Tm i/\m.n<=lo/\Ext a0 ma/\ma.get a0.n=.cells (scc r r2 st rc mo v pv qv) 43 none/\Ow (a0.n+1) ma pl pv/\(∀p∈pl,p.1 < p.2/\p.2 < l.length)/\pl.length<=n/\a0.n < ma.n) 0 ⟨0,[],_,rfl,by omega,rfl,by omega,w4,gS,.nil,λp hp=>(by cases hp),Ox _,A3⟩ ?_;rintro i' vs ma f6 ⟨n,pl,pv,rfl,g6,hn,C3,d0,gS,p0,G0,p1,J1⟩;have v2:=u2.aE d0;rw[aB,aB,v2.len cV,az,aM,ae,aj];have j5:=Tl (show i'<=6 by omega);refine an (λc=>?_) (λc=>?_)
  ·have l5:i' < l.length:=by grind
   refine Lp.intro (γ:=Nat) (λk=>i'-k) (λk vs mb lo=>∃(n:Nat) (pl:List (Nat×Nat)) (pv:Φ),vs=[.int .i64 n,.int .i64 k]/\k<=i'/\n=Tm i'+k/\m.n<=lo/\Ext a0 mb/\mb.get a0.n=.cells (scc r r2 st rc mo v pv qv) 43 none/\Ow (a0.n+1) mb pl pv/\(∀p∈pl,p.1 < p.2/\p.2 < l.length)/\pl.length<=n/\a0.n < mb.n) 0 ⟨n,pl,pv,rfl,by omega,by omega,C3,d0,gS,p0,G0,p1,J1⟩ ?_;clear v2 gS p0 G0 p1 d0 J1;rintro k vs mb h6 ⟨n',pl,pv,rfl,i6,y4,K1,r1,gS,p0,G0,p1,L1⟩;have D3:=B3.aE r1;rw[aB,aB,aM,ae,aj];refine an (λc=>?_) (λc=>?_)
   ·have j6:k < i':=by grind
    refine aZ (λvs mc g0=>∃(pl:List (Nat×Nat)) (pv:Φ),vs=[]/\m.n<=g0/\Ext a0 mc/\mc.get a0.n=.cells (scc r r2 st rc mo v pv qv) 43 none/\Ow (a0.n+1) mc pl pv/\(∀p∈pl,p.1 < p.2/\p.2 < l.length)/\pl.length<=n'+1/\a0.n < mc.n) (λQ hQ=>?_) ?_
    ·refine aZ (λvs mc g0=>∃b:Bool,vs=[.bool b]/\mb=mc/\m.n<=g0) (λQ2 k1=>?_) ?_
     ·rw[D3.len je,az,aM,ae,aj];refine an (λc=>?_) (λ_=>k1 _ _ _ ⟨_,rfl,rfl,K1⟩);have c:(n':Int)< (ps.length:Int):=NT c;obtain⟨x,hx⟩:∃x,ps[n']?=some x:=⟨_,qp⟩
      have⟨p,cs,f1,f2,f3⟩:=D3.index je (k:=.i64) hx;obtain rfl:cs=[.int .i64 x]:=f3;have f2:ah TE mb 3 p=some (.int .i64 x):=f2;rw[f1,ae,f2,ae];refine aG (mQ hX (D2 x (LZ hx)) (by decide)) ?_;rw[aS,ae];exact k1 _ _ _ ⟨_,rfl,rfl,by grind⟩
     rintro _ _ z4 ⟨b6,rfl,rfl,E3⟩
     rw[aB,aj]
     refine an (λ_=>?_) (λ_=>hQ _ _ _ ⟨pl,pv,rfl,E3,r1,gS,p0,G0,by omega,L1⟩)
     rw[(fK gS).2.2.1,ae,show aJ TE 69 [(0,.int .i64 k),(1,.int .i64 i')]=some (.agg (yi (k,i')).toArray) by kernel_rfl,ae]
     refine fq (T:=40) (x:=((k,i'):Nat×Nat)) GI rfl p0 (by omega) (by omega) Nt (λ_=>rfl) λr' G3 w2 n2 k2 u3 l2=>?_
     have A4:G3.get a0.n=.cells (scc r r2 st rc mo v pv qv) 43 none:=by grind
     refine bS Sk A4 (by rw[w2.sl.cells];rfl) (by rw[w2.sl.cells];show 0+6+1<=8;decide) (by rw[w2.sl.cells];simp[w2.sl.one]) λm5 B4 y2 H0=>?_
     refine hQ _ _ _ ⟨_,r',rfl,by omega,⟨by grind,λc hc=>by rw[H0 c (by omega),k2 c (by omega),r1.get c hc]⟩,by rw[y2,w2.sl.cells];rfl,w2.om rfl λc h1 h2=>H0 c (by omega),λp hp=>?_,by grind,by omega⟩
     grind
    rintro _ mc z4 ⟨C4,r0,rfl,a1,a2,a3,a4,a5,a6,a7⟩;rw[aP,ae,wrap64,aP,ae,wrap64];exact⟨k+1,by omega,n'+1,C4,r0,rfl,by omega,by omega,a1,a2,a3,a4,a5,a6,a7⟩
   obtain rfl:k=i':=by
    grind
   rw[aP,ae,wrap64];exact⟨k+1,by omega,n',pl,pv,rfl,by omega,y4,K1,r1,gS,p0,G0,p1,L1⟩
  rw[(fK gS).2.2.2.2,ae];have xz:=d0;have D4:ma.get m1.n=.cells (scc YM YM YM YM YM YM YM YM) 43 none:=(e0.trans (o0.trans d0)).cells d4;have H3:oQ ma ⟨y,l.map TW.t,pl,l1.map QW.q⟩ r r2 st rc mo v pv qv:=⟨F0.aE (o0.trans d0),⟨l,rfl,v2,d1.aV λc cs g hc=>(o0.trans d0).cells hc⟩,p0.sl,⟨l1,rfl,o1.sl.aE d0,w3.aV λc cs g hc=>d0.cells hc⟩⟩
  refine aC oW D4 rfl rfl H3.dS λI3 E4 A2 B2=>?_;have J3:I3.get m1.n=.cells (scc r r2 st rc mo v pv qv) 43 none:=A2;rw[(fK J3).2.2.2.2,ae];have l6:=d0.n;have m6:=e0.n;refine hR ⟨y,l.map TW.t,pl,l1.map QW.q⟩ _ _ _ _ _ _ _ _ _ _ (by omega) ⟨by omega,λc hc=>by rw[B2 c (by omega),d0.get c (by omega),o0.get c (by omega),e0.get c (by omega),c1.get c hc]⟩ ⟨⟨hyp,λt ht=>?_,.of_lt (by grind) (by grind) (λp hp=>by grind),λq hq=>?_,by grind,?_⟩,by grind,λp hp=>by grind,by grind,J2⟩ ⟨H3.aV λc cs t g hc h1 h2=>by grind,l1,MN (o1.aV λc cs t g hc _=>d0.cells hc) λc cs t g hc ht=>by grind⟩
  ·obtain⟨x,hx,rfl⟩:=LY.1 ht;exact⟨(d1 x hx).2.2,N2 x hx⟩
  ·obtain⟨x,hx,rfl⟩:=LY.1 hq;exact(w3 x hx).2
  exact Te.2 v4
 refine H _ λs r r2 st rc mo tv pv qv m' lo c2 hx h1 h2=>?_;show(bA (nj r r2 st rc mo tv pv qv)=true/\m.n<=lo/\(m.n=m.n/\∃s r' I0 J0 K0 L0 N0 r0 O0,nj r r2 st rc mo tv pv qv=nj r' I0 J0 K0 L0 N0 r0 O0/\Ext m m/\It s/\YN m s r' I0 J0 K0 L0 N0 r0 O0))\/((bA (nj r r2 st rc mo tv pv qv)=false\/lo < m.n)/\(min m.n lo=m.n/\∃s r' I0 J0 K0 L0 N0 r0 O0,nj r r2 st rc mo tv pv qv=nj r' I0 J0 K0 L0 N0 r0 O0/\Ext m m'/\It s/\YN m' s r' I0 J0 K0 L0 N0 r0 O0));cases hf:bA (nj r r2 st rc mo tv pv qv);·exact .inr ⟨.inl rfl,by omega,s,r,r2,st,rc,mo,tv,pv,qv,rfl,hx,h1,h2⟩
 have i0:(D.bw r && (D.bw r2 && (D.bw st && (D.bw rc && (D.bw mo && (D.bw tv && (D.bw pv && (D.bw qv && true))))))))=true:=hf;simp only[JJ]at i0;exact .inl ⟨rfl,c2,rfl,s,r,r2,st,rc,mo,tv,pv,qv,rfl,.refl,h1,⟨h2.tooQ.flat ⟨i0.1,i0.2.1,i0.2.2.1,i0.2.2.2.1,i0.2.2.2.2.1,i0.2.2.2.2.2.1,i0.2.2.2.2.2.2.1,i0.2.2.2.2.2.2.2.1⟩ m,[],.inl ⟨rfl,h2.cap.elim λ_ h=>(dK h.sl i0.2.2.2.2.2.2.2.1).2⟩⟩⟩
end
section
section
variable {X:aK}{x0 x1 x2:Φ}{m:M}{R:Bt->M->Nat->Prop}
theorem YS:dk TE (aL TE X) f112 [x0] m R=ρ m x0 75 λa=>jn (λb=>ε 75 (υ m) 0 λc=>δ a 3 c λc=>η .lss 3 c (χ 0) λc=>aR c (b [Ku] a m.n) (ε 75 (υ m) 0 λc=>δ a 3 c λc=>η .gtr 3 c (χ 8) λc=>aR c (b [Ku] a m.n) (ε 75 (υ m) 1 λc=>δ a 40 c λc=>κ a .len [40] [c] λc _=>η .gtr 3 c (χ 28) λc=>b [c] a m.n))) (λa b c=>un a λa _=>aR a (R [Zf] b c) (ε 75 (υ m) 1 λa=>δ b 40 a λa=>ψ X 166 [a,.func (.func 167) #[] #[υ m]] b λa b d=>ο .not a λa=>R [a] b (min c d))):=by kernel_rfl
theorem aat:dk TE (aL TE X) f167 [x0,x1] m R=ρ m x0 69 λa=>jn (λb=>ζ 69 (υ m) (χ 0) λc=>δ a 3 c λc=>ζ 69 (υ m) (χ 1) λd=>δ a 3 d λd=>κ a .min [3,3] [c,d] λc _=>η .lss 3 c (χ 0) λc=>aR c (b [Ku] a m.n) (ζ 69 (υ m) (χ 0) λc=>δ a 3 c λc=>ζ 69 (υ m) (χ 1) λd=>δ a 3 d λd=>κ a .max [3,3] [c,d] λc _=>ε 75 x1 0 λd=>δ a 3 d λd=>η .geq 3 c d λc=>aR c (b [Ku] a m.n) (ζ 69 (υ m) (χ 0) λc=>δ a 3 c λc=>ζ 69 (υ m) (χ 1) λd=>δ a 3 d λd=>η .eql 3 c d λc=>b [c] a m.n))) (λa b c=>un a λa _=>R [a] b c):=by kernel_rfl
theorem aaW:dk TE (aL TE X) f113 [x0] m R=ρ m x0 75 λa=>ς a [χ 0,χ 0,χ 0,χ 0,χ 0,χ 0,χ 0,χ 0] 120 λb=>ς b [χ 0,χ 0,χ 0,χ 0,χ 0,χ 0,χ 0,χ 0] 120 λc=>ε 75 (υ m) 1 λd=>δ c 40 d λd=>κ c .len [40] [d] λf _=>Lp (λc g h i=>un g λg _=>η .lss 3 g f λf=>aR f (ζ 40 d g λa=>δ h 69 a λa=>ς h [χ 0,χ 0] 69 λd=>ι d 69 (υ h) a λa d=>ζ 69 (υ h) (χ 1) λf=>δ a 3 f λf=>ζ 120 (υ b) f λj=>δ a 3 j λj=>ζ 69 (υ h) (χ 0) λh=>δ a 3 h λh=>η .shl 3 (χ 1) h λh=>η .or 3 j h λh=>ζ 120 (υ b) f λb=>ι a 3 b h λa b=>η .add 3 g (χ 1) λf=>c [f] a (ω i d b)) (ε 75 (υ m) 0 λc=>δ h 3 c λc=>Lp (λd f g h=>un f λf _=>η .lss 3 f c λc=>aR c (ε 75 (υ m) 0 λa=>δ g 3 a λa=>Lp (λc g h i=>un g λg _=>η .lss 3 g a λa=>aR a (jn (λa=>ζ 120 (υ b) g λc=>δ h 3 c λc=>η .shr 3 c f λc=>η .and 3 c (χ 1) λc=>η .eql 3 c (χ 1) λc=>aR c (ζ 120 (υ b) g λc=>δ h 3 c λc=>ζ 120 (υ b) f λd=>δ h 3 d λd=>η .or 3 c d λc=>ζ 120 (υ b) g λb=>ι h 3 b c λb c=>a [] b (min i c)) (a [] h i)) (λ_ a b=>η .add 3 g (χ 1) λd=>c [d] a b)) (η .add 3 f (χ 1) λa=>d [a] h i)) [χ 0] g h) (ε 75 (υ m) 0 λc=>δ g 3 c λc=>Lp (λd f g h=>un f λf i=>un i λi _=>η .lss 3 i c λc=>aR c (ζ 120 (υ b) i λc=>δ g 3 c λc=>η .shr 3 c i λc=>η .and 3 c (χ 1) λc=>η .eql 3 c (χ 1) λc=>aR c (δ g 120 (υ b) λb=>ι g 120 (υ a) b λb c=>ai (ah TE b 120 (υ a)) λa=>R [a,Zf] b (min h c)) (η .add 3 i (χ 1) λa=>d [f,a] g h)) (δ g 120 (υ b) λb=>ι g 120 (υ a) b λb c=>ai (ah TE b 120 (υ a)) λa=>R [a,Ku] b (min h c))) [Zf,χ 0] g h)) [χ 0] h i)) [χ 0] c m.n:=by kernel_rfl
theorem F50:dk TE (aL TE X) f50 [x0] m R=ρ m x0 75 λa=>ς a [χ 0,χ 0,χ 0,χ 0,χ 0,χ 0,χ 0,χ 0] 120 λb=>δ b 75 (υ m) λc=>ψ X 112 [c] b λb c d=>ο .not b λb=>aR b (θ 120 [] λb=>ι c 120 (υ a) b λb c=>ai (ah TE b 120 (υ a)) λa=>R [a,Zf] b (ω m.n d c)) (δ c 75 (υ m) λb=>ψ X 113 [b] c λb c f=>ξ b 0 λg=>ξ b 1 λb=>ι c 120 (υ a) g λc g=>ai (ah TE c 120 (υ a)) λa=>R [a,b] c (Γ m.n d f g)):=by kernel_rfl
theorem F53:dk TE (aL TE X) f53 [x0] m R=ρ m x0 75 λa=>δ a 75 (υ m) λb=>ψ X 50 [b] a λa b c=>ξ a 0 λd=>ξ a 1 λa=>ς b [χ 0,χ 0,χ 0,χ 0,χ 0,χ 0,χ 0,χ 0] 120 λf=>ι f 120 (υ b) d λb d=>R [a] b (ω m.n c d):=by kernel_rfl
theorem F49:dk TE (aL TE X) f49 [x0,x1,x2] m R=ρ m x0 75 λa=>δ a 75 (υ m) λb=>ψ X 50 [b] a λa b c=>ξ a 0 λd=>ξ a 1 λa=>ς b [χ 0,χ 0,χ 0,χ 0,χ 0,χ 0,χ 0,χ 0] 120 λf=>ι f 120 (υ b) d λd f=>jn (λg=>aR a (κ d .min [3,3] [x1,x2] λa _=>η .geq 3 a (χ 0) λa=>aR a (κ d .max [3,3] [x1,x2] λa _=>ε 75 (υ m) 0 λh=>δ d 3 h λh=>η .lss 3 a h λa=>aR a (ζ 120 (υ b) x2 λa=>δ d 3 a λa=>η .shr 3 a x1 λa=>η .and 3 a (χ 1) λa=>η .eql 3 a (χ 1) λa=>g [a] d (ω m.n c f)) (g [Zf] d (ω m.n c f))) (g [Zf] d (ω m.n c f))) (g [Zf] d (ω m.n c f))) (λa b c=>un a λa _=>R [a] b c):=by kernel_rfl
theorem aau:dk TE (aL TE X) f166 [x0,x1] m R=ψ X 216 [x0,x1] m λa b c=>η .geq 3 a (χ 0) λa=>R [a] b (min m.n c):=by kernel_rfl
end
end
section
variable {X:aK} {m:M}
theorem YG{t:TypeId}{k:Nat}(hk:k<9):aA TE .shl t (YR 1) (YR k)=some (YR ((2 ^ k:Nat):Int)):=by
 show(if(k:Int)< 0 then none else some (Value.int .i64 (IntKind.i64.wrap (1*2 ^ (min (k:Int).toNat 64)))))=_;rw[im,Int.toNat_natCast,BT (by omega)];have h1:(1*2 ^ k:Int)=((2 ^ k:Nat):Int):=by grind
 have h2:2 ^ k<=2 ^ 8:=Nat.pow_le_pow_right (by decide) (by omega);rw[h1];generalize 2 ^ k=z at h2;rw[wrap64]
theorem YH{t:TypeId}{a b:Nat}(ha:a<256)(hb:b<256):aA TE .or t (YR a) (YR b)=some (YR ((a |||b:Nat):Int)):=by
 have h:(BitVec.ofInt 64 (a:Int) |||BitVec.ofInt 64 (b:Int)).toNat=a |||b:=by
  grind
 have a0:a |||b<256:=Nat.or_lt_two_pow (n:=8) ha hb
 show(if IntKind.i64=IntKind.i64 then some (Value.int .i64 (IntKind.i64.wrap ((BitVec.ofInt 64 (a:Int) |||BitVec.ofInt 64 (b:Int)).toNat:Int)))else none)=_;rw[Tf rfl,h,wrap64]
theorem PE{t:TypeId}{a k:Nat}(hk:k<64):aA TE .shr t (YR a) (YR k)=some (YR ((a/2 ^ k:Nat):Int)):=by
 show(if(k:Int)< 0 then none else some (Value.int .i64 ((a:Int).fdiv (2 ^ (min (k:Int).toNat 64)))))=_;grind
theorem GD{t:TypeId}{a:Nat}(ha:a<256):aA TE .and t (YR a) (YR 1)=some (YR ((a%2:Nat):Int)):=by
 have h:(BitVec.ofInt 64 (a:Int) &&& BitVec.ofInt 64 1).toNat=a%2:=by
  grind
 show(if IntKind.i64=IntKind.i64 then some (Value.int .i64 (IntKind.i64.wrap ((BitVec.ofInt 64 (a:Int) &&& BitVec.ofInt 64 1).toNat:Int)))else none)=_;rw[Tf rfl,h,wrap64]
theorem CB{a k:Nat}:decide (((a/2 ^ k%2:Nat):Int)=1)=a.testBit k:=by
 grind
abbrev JF(n:Nat)(pv:Φ):Φ:=.agg #[.int .i64 n,pv]
theorem EI{b:Nat}{n:Nat}{pv:Φ}{g:Option Nat}(h:m.get b=.cells [YR n,pv] 75 g):ah TE m 3 (Ga b (0+0))=some (YR n)/\ah TE m 40 (Ga b (0+1))=some pv/\ah TE m 75 (Ga b 0)=some (JF n pv):=by
 refine⟨?_,?_,?_⟩;·rw[bF,aI h];rfl
 ·rw[HH,aI h];rfl
 rw[Q4,aQ (n:=2) h (by grind)];rfl
theorem Rq{W:Words}{x0 x1:Φ}{m:M}{R:Bt->M->Nat->Prop}:dP TE W f216 [x0,x1] m R=zH 40 69 W x0 x1 m R:=by kernel_rfl
theorem ppf{b:Nat}{p:Nat×Nat}{g:Option Nat}(h:m.get b=.cells (yi p) 69 g):ah TE m 3 (Ga b 0)=some (YR p.1)/\ah TE m 3 (Ga b (0+1))=some (YR p.2):=by
 refine⟨?_,?_⟩;·rw[bF,aI h];rfl
 rw[bF,aI h];rfl
theorem uL{b o:Nat}:ak TE 69 (Ga b o) (YR 0)=some (Ga b o)/\ak TE 69 (Ga b o) (YR 1)=some (Ga b (o+1)):=by constructor <;>kernel_rfl
theorem FG(hX:cd X){n:Nat}{ps:List (Nat×Nat)}{pv:Φ}(hO:CO n ps)(hp:Sl m ps pv):C X (.func 112) [JF n pv] m m.n Ku m:=by
 refine Cl.fG hX (Kg func112) ?_;rw[YS];dsimp only[δ,ε,η,κ,ο,ρ,υ,χ,ψ];refine aw λm1 n0 e0 g0=>?_;have g1:m1.get m.n=.cells [YR n,pv] 75 none:=e0;have j0:Ext m m1:=⟨by omega,g0⟩
 have a0:=hp.aE j0;have hle:=hO.le;have hlen:=hO.len;obtain⟨d0,d1, -⟩:=EI g1;unfold ptrTo;simp only[fZ,lC,ae];refine aZ (λvs mm lo=>vs=[Zf]/\m1=mm/\m.n<=lo) (λQ hQ=>?_) ?_;·rw[d0,ae,aM,ae,aj,tx,aN,ae,bP,ae,aj,tx,aN,d1,ae,a0.len iM,az,bP,ae,tx];exact hQ _ _ _ ⟨rfl,rfl,Ox _⟩
 rintro _ _ lo ⟨rfl,rfl,o0⟩;rw[aB,aj,aN,d1,ae];have hc:C X (.func 166) [pv,.func (.func 167) #[] #[Ga m.n 0]] m1 m1.n Zf m1:=by
  refine Cl.fG hX (Kg func166) ?_;rw[aau];dsimp only[η,χ,ψ];refine aG (eZ iM (hX.no _ rfl) (Kg func216) rfl Rq (λ_=>false) (by omega) a0 λp k0 cs hr=>?_) ?_
  ·have hr:cs=yi p:=hr;subst hr;have⟨h1,h2⟩:=hO.ok p k0;refine Cl.th (args:=[.agg (yi p).toArray,Ga m.n 0]) (hX.no _ rfl) (Kg func167) rfl rfl ?_;rw[aat];dsimp only[δ,ε,ζ,η,κ,ρ,υ,χ];refine aw λm2 p0 l0 r0=>?_;have g2:m2.get m1.n=.cells (yi p) 69 none:=l0;have gO:m2.get m.n=.cells [YR n,pv] 75 none:=by grind
   have⟨q0,q1⟩:=ppf g2;have⟨i0,i1⟩:=uL (b:=m1.n) (o:=0);unfold ptrTo;refine aZ (λvs mm lo=>vs=[Zf]/\m2=mm/\m1.n<=lo) (λQ hQ=>?_) ?_;·rw[i0,ae,q0,ae,i1,ae,q1,ae,kf,az,aM,ae,aj,tx,aN];simp only[ae,q0,q1];rw[qi,az,fZ,ae,(EI gO).1,ae,cI,ae,aj,tx,aN,aS,ae,tx];exact hQ _ _ _ ⟨rfl,rfl,Ox _⟩
   rintro _ _ fO ⟨rfl,rfl,b0⟩;rw[aB];exact⟨rfl,b0⟩
  rw[cI,ae,hU];refine⟨?_,by omega⟩;show Value.bool (ps.any λ_=>false)=_;rw[VS.2 λx _=>by decide]
 refine aG hc ?_;rw[bk,ae];exact⟨rfl,by omega⟩
end
section
variable {X:aK} {m:M}
abbrev vW(t:List Nat):Bt:=t.map λx:Nat=>Value.int .i64 (x:Int)
abbrev Tn(t:List Nat):Φ:=.agg (vW t).toArray
def B8(t:List Nat):Prop:=∀x∈t,x < 256
theorem B8.getD{t:List Nat}(h:B8 t)(i:Nat):t.getD i 0<256:=by
 rw[List.getD_eq_getElem?_getD];cases e:t[i]? with
 |none=>decide
 |some x=>exact h x (LZ e)
theorem B8.set{t:List Nat}(h:B8 t){i v:Nat}(hv:v<256):B8 (t.set i v):=λx hx=>by
 rcases List.mem_or_eq_of_mem_set hx with hx|rfl;·exact h x hx
 ·exact hv
theorem acx:B8 kc:=by unfold B8 kc;decide
theorem Sz{a b:Nat}(ha:a<256)(hb:b<256):a |||b<256:=Nat.or_lt_two_pow (n:=8) ha hb
theorem Nc{k:Nat}(h:k<8):2 ^ k<256:=by
 have:2 ^ k<2 ^ 8:=Nat.pow_lt_pow_right (by decide) h;grind
theorem B8.pair{t:List Nat}(h:B8 t){p:Nat×Nat}(hp:p.1<8):B8 (oh t p):=h.set (Sz (h.getD _) (Nc hp))
theorem B8.row{t:List Nat}(h:B8 t)(k b:Nat):B8 (sA k t b):=by
 unfold sA;split;·exact h.set (Sz (h.getD _) (h.getD _))
 exact h
theorem Og{b i:Nat}(hi:i<8):ak TE 120 (Ga b 0) (YR i)=some (Ga b i):=by rcases(by omega:i=0\/i=1\/i=2\/i=3\/i=4\/i=5\/i=6\/i=7)with rfl|rfl|rfl|rfl|rfl|rfl|rfl|rfl <;>kernel_rfl
theorem uI{T:Nat}{t:List Nat}{g:Option Nat}(h:m.get T=.cells (vW t) 120 g){i:Nat}(hi:i<t.length):ah TE m 3 (Ga T i)=some (YR (t.getD i 0:Nat)):=by
 rw[bF,aI h];grind
theorem MD{T:Nat}{t:List Nat}(h:m.get T=.cells (vW t) 120 none){i v:Nat}(hi:i<t.length){P:M->Nat->Prop}
  (hP:∀m1,m1.n=m.n->m1.get T=.cells (vW (t.set i v)) 120 none->(∀c,c≠T->m1.get c=m.get c)->P m1 T):
  aO (aD TE m 3 (Ga T i) (YR (v:Int))) P:=by
 refine bS rf h rfl (by show i+1<=(vW t).length;rw[Gv];omega) rfl λm1 hn hg hk=>hP m1 hn ?_ hk;rw[hg];congr 1;show(vW t).take i++(Value.int .i64 (v:Int)::(vW t).drop (i+1))=(t.set i v).map λx:Nat=>Value.int .i64 (x:Int);rw[List.map_set];exact iO (by grind)
theorem BW{T:Nat}{t:List Nat}{g:Option Nat}(h:m.get T=.cells (vW t) 120 g)(hl:t.length=8):ah TE m 120 (Ga T 0)=some (Tn t):=by rw[acJ,aQ (n:=8) h (by grind)];show some (Value.agg (((vW t).drop 0).take 8).toArray)=_;rw[QA,QM (by grind)]
theorem eD{t:List Nat}:cells (Tn t)=vW t:=rfl
theorem wL{t:List Nat}:(vW t).all one:=by rw[Jl];intro x hx;obtain⟨y,_,rfl⟩:=LY.1 hx;rfl
def Gq(n:Nat)(ps:List (Nat×Nat)):List Nat:=pL n (jF ps)
theorem acW{n:Nat}{ps:List (Nat×Nat)}(h:CO n ps):S5 n (jF ps):=nV h.le λp hp=>⟨(h.ok p hp).1,(h.ok p hp).2.1⟩
theorem acy{n:Nat}{ps:List (Nat×Nat)}(h:CO n ps):ClT n (jF ps) (Gq n ps):=iX (by rw[iw];exact h.le) (acW h)
theorem iY{n:Nat}{ps:List (Nat×Nat)}:(Gq n ps).length=8:=by unfold Gq;rw[adi,iw]
theorem YC{n:Nat}{ps:List (Nat×Nat)}(h:CO n ps)(a:Nat):iK (Gq n ps) a a=false:=h.ir a
theorem AI{α β:Type}(f:β->α->β)(l:List α)(x:β){i:Nat}{y:α}(h:l[i]?=some y):(l.take (i+1)).foldl f x=f ((l.take i).foldl f x) y:=by rw[Q1,h,RR];rfl
theorem nH{β:Type}(f:β->Nat->β)(x:β)(i:Nat):(List.range (i+1)).foldl f x=f ((List.range i).foldl f x) i:=by rw[Gm,RR];rfl
end
section
variable {X:aK} {m:M}
theorem FX{t:List Nat}{b:Bool}:bA (.tuple #[Tn t,.bool b]):=by
 have h:(vW t).all D.bw:=by rw[Jl];intro x hx;obtain⟨y,_,rfl⟩:=LY.1 hx;rfl
 simp[bA,dC,bw]
set_option maxHeartbeats 1000000 in
theorem aeC(hX:cd X){n:Nat}{ps:List (Nat×Nat)}{pv:Φ}(hO:CO n ps)(hp:Sl m ps pv):C X (.func 113) [JF n pv] m m.n (.tuple #[Tn (Gq n ps),Ku]) m:=by
 refine Cl.th (hX.no _ rfl) (Kg func113) rfl FX ?_;have hle:=hO.le;have hlen:=hO.len;rw[aaW];dsimp only[δ,ε,ζ,η,ι,κ,ρ,ς,υ,χ,ω];refine aw λm1 k1 n0 F0=>?_;refine aw λm2 l1 o0 p0=>?_;refine aw λm3 o1 r0 j0=>?_;have s0:Ext m m3:=⟨by omega,by grind⟩
 have g1:m3.get m.n=.cells [.int .i64 n,pv] 75 none:=by rw[j0 _ (by omega),p0 _ (by omega)];exact n0
 have gz:m3.get m1.n=.cells (vW kc) 120 none:=by rw[j0 _ (by omega)];exact o0
 have gT:m3.get m2.n=.cells (vW kc) 120 none:=r0;clear n0 F0 o0 p0 r0 j0;have G0:=hp.aE s0;unfold ptrTo;simp only[fZ,lC,ae];rw[(EI g1).2.1,ae,G0.len iM,az];have p1:m2.n < m3.n:=by omega
 refine Lp.intro (γ:=Nat) (λi=>ps.length-i) (λi vs mm lo=>vs=[.int .i64 i]/\i<=ps.length/\m.n<=lo/\(∀c,c < m2.n->mm.get c=m3.get c)/\m3.n<=mm.n/\mm.get m2.n=.cells (vW ((ps.take i).foldl oh kc)) 120 none/\B8 ((ps.take i).foldl oh kc)) 0 ⟨rfl,ZE _,Ox _,λ_ _=>rfl,Ox _,gT,acx⟩ ?_;rintro i vs mm lo ⟨rfl,hi,b0,a0,d0,gT,h8⟩;have ext:∀{ma:M},(∀c,c < m2.n->ma.get c=m3.get c)->m3.n<=ma.n->Ext m ma:=λh1 h2=>⟨by omega,λc hc=>by rw[h1 c (by omega),s0.get c hc]⟩
 have u0:=hp.aE (ext a0 d0);have gO:∀{ma:M},(∀c,c < m2.n->ma.get c=m3.get c)->ma.get m.n=.cells [.int .i64 n,pv] 75 none:=λh=>(h _ (by omega)).trans g1;rw[aB,aM,ae,aj];have r1:∀i,((ps.take i).foldl oh kc).length=8:=λi=>by rw[jy _ uq];rfl
 refine an (λc=>?_) (λc=>?_)
 ·have H0:i < ps.length:=by grind
  obtain⟨p,hx⟩:∃x,ps[i]?=some x:=⟨_,Fx H0⟩
  have u1:=hO.ok p (LZ hx);have⟨a,cs,e1,e2,e3⟩:=u0.index iM (k:=.i64) hx;obtain rfl:cs=yi p:=e3;have e2:ah TE mm 69 a=some (.agg (yi p).toArray):=e2;rw[e1,ae,e2,ae];refine aw λm16 O0 v0 P0=>?_;refine aC Si v0 rfl rfl rfl λm17 b1 y0 c1=>?_;have g17:m17.get mm.n=.cells (yi p) 69 none:=y0;have z0:Ext mm m17:=⟨by omega,by grind⟩
  have n17:=z0.n;have⟨q0,q1⟩:=ppf g17;have⟨i0,i1⟩:=uL (b:=mm.n) (o:=0);have g0:=z0.cells gT;rw[i1,ae,q1,ae,Og (by omega),ae,uI g0 (by grind),ae,i0,ae,q0,ae,YG (by omega),ae,YH (h8.getD _) (Nc (by omega)),ae,ae];refine MD g0 (by grind) λI0 A0 e0 B0=>?_;rw[aP,ae,wrap64];refine⟨i+1,by omega,rfl,by omega,by omega,by grind,by omega,?_,?_⟩;·rw[AI oh ps kc hx];exact e0
  rw[AI oh ps kc hx];exact h8.pair (by omega)
 obtain rfl:i=ps.length:=by
  grind
 rw[V9]at gT h8;clear u0 hi;rw[(EI (gO a0)).1,ae];have v1:∀k,((List.range k).foldl (og n) (jF ps)).length=8:=λk=>by rw[jy _ (λt x=>uk n t x),iw]
 refine Lp.intro (γ:=Nat) (λk=>n-k) (λk vs mm lo=>vs=[.int .i64 k]/\k<=n/\m.n<=lo/\(∀c,c < m2.n->mm.get c=m3.get c)/\m3.n<=mm.n/\mm.get m2.n=.cells (vW ((List.range k).foldl (og n) (jF ps))) 120 none/\B8 ((List.range k).foldl (og n) (jF ps))) 0 ⟨rfl,ZE _,b0,a0,d0,gT,h8⟩ ?_;clear a0 d0 gT h8 b0;rintro k vs ma fO ⟨rfl,hk,b0,a0,d0,gT,h8⟩;rw[aB,aM,ae,aj];refine an (λc=>?_) (λc=>?_)
 ·have w1:k < n:=by grind
  rw[(EI (gO a0)).1,ae];obtain⟨t1,k0⟩:∃t,t=(List.range k).foldl (og n) (jF ps):=⟨_,rfl⟩
  have J0:t1.length=8:=by grind
  rw[<-k0]at gT h8;have y1:∀b,((List.range b).foldl (sA k) t1).length=8:=λb=>by rw[jy _ (λt x=>xX k t x),J0]
  refine Lp.intro (γ:=Nat) (λb=>n-b) (λb vs mm lo=>vs=[.int .i64 b]/\b<=n/\m.n<=lo/\(∀c,c < m2.n->mm.get c=m3.get c)/\m3.n<=mm.n/\mm.get m2.n=.cells (vW ((List.range b).foldl (sA k) t1)) 120 none/\B8 ((List.range b).foldl (sA k) t1)) 0 ⟨rfl,ZE _,b0,a0,d0,gT,h8⟩ ?_;clear a0 d0 gT h8 b0;rintro b vs mb K0 ⟨rfl,hb,b0,a0,d0,gT,h8⟩;rw[aB,aM,ae,aj];refine an (λc=>?_) (λc=>?_)
  ·have z1:b < n:=by grind
   obtain⟨t2,l0⟩:∃t,t=(List.range b).foldl (sA k) t1:=⟨_,rfl⟩
   have A1:t2.length=8:=by grind
   rw[<-l0]at gT h8;refine aZ (λvs mm lo=>vs=[]/\m.n<=lo/\(∀c,c < m2.n->mm.get c=m3.get c)/\m3.n<=mm.n/\mm.get m2.n=.cells (vW (sA k t2 b)) 120 none) (λQ hQ=>?_) ?_
   ·rw[Og (i:=b) (by omega),ae,uI gT (by omega),ae,PE (by omega),ae,GD (By (V5 _ _) (h8.getD b)),ae,aS,ae,aj,CB];unfold sA at hQ;refine an (λe=>?_) (λe=>hQ _ _ _ ⟨rfl,b0,a0,d0,by grind⟩);rw[Tf e]at hQ;rw[ae,uI gT (i:=b) (by omega),ae,Og (i:=k) (by omega),ae,uI gT (i:=k) (by omega),ae,YH (h8.getD b) (h8.getD k),ae,ae];exact MD gT (by omega) λI0 A0 e0 B0=>hQ _ _ _ ⟨rfl,by omega,by grind,by omega,e0⟩
   rintro _ mc B1 ⟨rfl,a1,a2,a3,a4⟩;rw[aP,ae,wrap64];refine⟨b+1,by omega,rfl,by omega,a1,a2,a3,?_,?_⟩;·rw[nH,<-l0];exact a4
   rw[nH,<-l0];exact h8.row k b
  obtain rfl:b=n:=by
   grind
  rw[aP,ae,wrap64];refine⟨k+1,by omega,rfl,by omega,b0,a0,d0,?_,?_⟩;·rw[nH,<-k0];exact gT
  rw[nH,<-k0];exact h8
 obtain rfl:k=n:=by
  grind
 have gT:ma.get m2.n=.cells (vW (Gq k ps)) 120 none:=gT;have h8:B8 (Gq k ps):=h8;rw[(EI (gO a0)).1,ae];refine Lp.intro (γ:=Nat) (λa=>k-a) (λa vs mm lo=>∃z,vs=[z,.int .i64 a]/\a<=k/\ma=mm/\m.n<=lo) 0 ⟨_,rfl,ZE _,rfl,b0⟩ ?_;rintro a vs mb K0 ⟨z,rfl,ha,rfl,C0⟩;rw[aB,aB,aM,ae,aj];refine an (λc=>?_) (λc=>?_)
 ·have C1:a < k:=by grind
  rw[Og (i:=a) (by omega),ae,uI gT (by rw[iY];omega),ae,PE (by omega),ae,GD (By (V5 _ _) (h8.getD a)),ae,aS,ae,aj,CB];have D0:=YC hO a;unfold iK at D0;rw[D0,aN,aP,ae,wrap64];exact⟨a+1,by omega,z,rfl,by omega,rfl,C0⟩
 rw[BW gT iY,ae];refine aC tU ((a0 _ (by omega)).trans gz) (by rw[eD,Gv,iY];rfl) (by rw[eD,Gv,Gv,iY];rfl) (by rw[eD];exact wL) λL0 d1 E0 j1=>?_;have N0:L0.get m1.n=.cells (vW (Gq k ps)) 120 none:=E0;rw[BW N0 iY,ae];exact⟨rfl,by omega⟩
theorem Dx(hX:cd X){n:Nat}{ps:List (Nat×Nat)}{pv:Φ}(hO:CO n ps)(hp:Sl m ps pv):C X (.func 50) [JF n pv] m m.n (.tuple #[Tn (Gq n ps),Ku]) m:=by
 refine Cl.th (hX.no _ rfl) (Kg func50) rfl FX ?_;rw[F50];dsimp only[δ,θ,ι,ξ,ο,ρ,ς,υ,χ,ψ,Γ,ω];refine aw λm1 l0 d0 n0=>?_;refine aw λm2 o0 e0 g0=>?_;have i0:Ext m m2:=⟨by omega,by grind⟩
 have g1:m2.get m.n=.cells [YR n,pv] 75 none:=by rw[g0 _ (by omega)];exact d0
 have gz:m2.get m1.n=.cells (vW kc) 120 none:=e0;have a0:=hp.aE i0;unfold ptrTo;rw[(EI g1).2.2,ae];refine aG (FG hX hO a0) ?_;rw[bk,ae,aj];show gH false _ _;rw[aN,(EI g1).2.2,ae];refine aG (aeC hX hO a0) ?_;rw[aH,aH];simp only[zi,F9,ae];refine aC tU gz (by rw[eD,Gv,iY];rfl) (by rw[eD,Gv,Gv,iY];rfl) (by rw[eD];exact wL) λm18 j0 b0 k0=>?_;have g18:m18.get m1.n=.cells (vW (Gq n ps)) 120 none:=b0;rw[BW g18 iY,ae];exact⟨rfl,by omega⟩
theorem abd(hX:cd X){n:Nat}{ps:List (Nat×Nat)}{pv:Φ}(hO:CO n ps)(hp:Sl m ps pv):C X (.func 53) [JF n pv] m m.n Ku m:=by refine Cl.fG hX (Kg func53) ?_;rw[F53];dsimp only[δ,ι,ξ,ρ,ς,υ,χ,ψ,ω];refine aw λm1 e0 a0 b0=>?_;have g1:m1.get m.n=.cells [YR n,pv] 75 none:=a0;unfold ptrTo;rw[(EI g1).2.2,ae];refine aG (Dx hX hO (hp.aE ⟨by omega,b0⟩)) ?_;rw[aH,aH];simp only[zi,F9,ae];refine aw λm8 g0 d0 i0=>?_;refine aC tU d0 (by rw[eD,Gv,iY];rfl) (by rw[eD,Gv,iY];rfl) (by rw[eD];exact wL) λm9 j0 k0 l0=>?_;exact⟨rfl,by omega⟩
theorem B8.cl{n:Nat}{ps:List (Nat×Nat)}(h:CO n ps):B8 (Gq n ps):=by
 intro x hx;have⟨i,hi⟩:=ZZ hx;have e:(Gq n ps).getD i 0=x:=by grind
 have hle:=h.le;show x<2 ^ 8;refine Nat.lt_pow_two_of_testBit x λj hj=>?_;cases hb:x.testBit j with
 |false=>rfl
 |true=>have:=((acy h).bd i j (by unfold iK;rw[e];exact hb)).2;omega
theorem FJ(hX:cd X){n:Nat}{ps:List (Nat×Nat)}{pv:Φ}(hO:CO n ps)(hp:Sl m ps pv){a b:Nat}(ha:a<n)(hb:b<n):C X (.func 49) [JF n pv,YR a,YR b] m m.n (.bool (iK (Gq n ps) b a)) m:=by
 refine Cl.fG hX (Kg func49) ?_;rw[F49];dsimp only[δ,ε,ζ,η,ι,κ,ξ,ρ,ς,υ,χ,ψ,ω];refine aw λm1 i0 a0 b0=>?_;have hle:=hO.le;have g1:m1.get m.n=.cells [YR n,pv] 75 none:=a0;unfold ptrTo;rw[(EI g1).2.2,ae];refine aG (Dx hX hO (hp.aE ⟨by omega,b0⟩)) ?_;rw[aH,aH];simp only[zi,F9,ae];refine aw λm8 j0 d0 k0=>?_;refine aC tU d0 (by rw[eD,Gv,iY];rfl) (by rw[eD,Gv,iY];rfl) (by rw[eD];exact wL) λm9 l0 e0 n0=>?_;have g9:m9.get m1.n=.cells (vW (Gq n ps)) 120 none:=e0;have gO:m9.get m.n=.cells [YR n,pv] 75 none:=by grind
 refine aZ (λvs mm lo=>vs=[.bool (iK (Gq n ps) b a)]/\m.n<=lo) (λQ hQ=>?_) ?_;·rw[aj,bH,kf,az,cI,ae,aj,CM,bH,qi,az,fZ,ae,(EI gO).1,ae,aM,ae,aj,CM,bH];rw[Og (i:=b) (by omega),ae,uI g9 (by rw[iY];omega),ae,PE (by omega),ae,GD (By (V5 _ _) ((B8.cl hO).getD b)),ae,aS,ae,CB];exact hQ _ _ _ ⟨rfl,by omega⟩
 rintro _ mm lo ⟨rfl,g0⟩;rw[aB];exact⟨rfl,g0⟩
end
section
section
variable {X:aK}{x0 x1 x2:Φ}{m:M}{R:Bt->M->Nat->Prop}{W:Words}
theorem F96:dk TE (aL TE X) f96 [x0,x1,x2] m R=jn (λa=>η .leq 3 x1 x0 λb=>aR b (η .leq 3 x0 x2 λb=>a [b] m m.n) (a [Zf] m m.n)) (λa b c=>un a λa _=>R [a] b c):=by kernel_rfl
theorem aaV:dk TE (aL TE X) f114 [x0] m R=ai (eS x0) λa=>ε 62 a 0 λa=>δ m 3 a λa=>η .eql 3 a (χ 1) λb=>aR b (ai (eS x0) λa=>ε 62 a 1 λa=>ε 60 a 0 λa=>ai (eS x0) λb=>ε 62 b 1 λb=>ε 60 b 1 λb=>ai (eS x0) λc=>ε 62 c 1 λc=>ε 60 c 2 λc=>ai (eS x0) λd=>ε 62 d 1 λd=>ε 60 d 4 λd=>ai (eS x0) λf=>ε 62 f 1 λf=>ε 60 f 5 λf=>ν m 192 5 [(0,a),(1,b),(2,c),(3,d),(4,f)] λa b=>R [a] b m.n) (η .eql 3 a (χ 4) λb=>aR b (ai (eS x0) λa=>ε 62 a 2 λa=>ai (eS x0) λb=>ε 62 b 5 λb=>ν m 192 2 [(0,a),(1,b)] λa b=>R [a] b m.n) (jn (λb=>η .eql 3 a (χ 5) λc=>aR c (b [c] m m.n) (η .eql 3 a (χ 8) λa=>b [a] m m.n)) (λb c d=>un b λb _=>aR b (ai (eS x0) λa=>ε 62 a 2 λa=>ai (eS x0) λb=>ε 62 b 4 λb=>ν c 192 2 [(0,a),(1,b)] λa b=>R [a] b d) (η .eql 3 a (χ 9) λa=>aR a (ai (eS x0) λa=>ε 62 a 2 λa=>ai (eS x0) λb=>ε 62 b 3 λb=>ai (eS x0) λf=>ε 62 f 5 λf=>ν c 192 3 [(0,a),(1,b),(2,f)] λa b=>R [a] b d) (ai (eS x0) λa=>ε 62 a 2 λa=>ν c 192 1 [(0,a)] λa b=>R [a] b d))))):=by kernel_rfl
theorem aaU:dk TE (aL TE X) f115 [x0,x1] m R=ρ m x0 60 λa=>ρ a x1 60 λb=>jn (λc=>ε 60 (υ m) 0 λd=>δ b 3 d λd=>ε 60 (υ a) 0 λf=>δ b 3 f λf=>η .eql 3 d f λd=>aR d (ε 60 (υ m) 1 λd=>δ b 3 d λd=>ε 60 (υ a) 1 λf=>δ b 3 f λf=>η .eql 3 d f λd=>aR d (ε 60 (υ m) 2 λd=>δ b 3 d λd=>ε 60 (υ a) 2 λf=>δ b 3 f λf=>η .eql 3 d f λd=>aR d (ε 60 (υ m) 4 λd=>δ b 3 d λd=>ε 60 (υ a) 4 λf=>δ b 3 f λf=>η .eql 3 d f λd=>aR d (ε 60 (υ m) 5 λd=>δ b 3 d λd=>ε 60 (υ a) 5 λf=>δ b 3 f λf=>η .eql 3 d f λd=>aR d (ε 60 (υ m) 3 λd=>δ b 58 d λd=>ε 60 (υ a) 3 λa=>δ b 58 a λa=>ψ X 168 [d,a] b λa b d=>c [a] b (min m.n d)) (c [Zf] b m.n)) (c [Zf] b m.n)) (c [Zf] b m.n)) (c [Zf] b m.n)) (c [Zf] b m.n)) (λa b c=>un a λa _=>R [a] b c):=by kernel_rfl
theorem F51:dk TE (aL TE X) f51 [x0] m R=ρ m x0 62 λa=>ε 62 (υ m) 0 λb=>δ a 3 b λb=>ψ X 96 [b,χ 1,χ 9] a λa b c=>ο .not a λa=>aR a (R [Zf] b (min m.n c)) (ε 62 (υ m) 0 λa=>δ b 3 a λa=>θ 62 [(0,a)] λa=>ς b [χ 0,χ 0,χ 0,χ 0,YM,χ 0,χ 0,χ 0,χ 0,χ 0,χ 0] 62 λd=>ι d 62 (υ b) a λa d=>ψ X 114 [υ m] a λa f g=>ψ X 114 [υ b] f λf h i=>κ h .len [192] [f] λj _=>Lp (λc d g h=>un d λd _=>η .lss 3 d j λi=>aR i (ζ 192 f d λb=>δ g 195 b λb=>ζ 192 a d λa=>δ g 195 a λa=>ai (eS a) λa=>δ g 3 a λa=>ai (eS b) λb=>ι g 3 b a λa b=>η .add 3 d (χ 1) λd=>c [d] a (min h b)) (jn (λa=>ε 62 (υ m) 0 λc=>δ g 3 c λc=>η .eql 3 c (χ 1) λc=>aR c (ε 62 (υ m) 1 λc=>ε 60 c 3 λc=>δ g 58 c λc=>ε 62 (υ b) 1 λb=>ε 60 b 3 λb=>ι g 58 b c λb c=>a [] b (min h c)) (a [] g h)) (λ_ a c=>jn (λd=>ε 62 (υ b) 2 λf=>δ a 3 f λf=>ε 62 (υ m) 2 λg=>δ a 3 g λg=>η .neq 3 f g λf=>aR f (d [Ku] a c) (ε 62 (υ b) 3 λf=>δ a 3 f λf=>ε 62 (υ m) 3 λg=>δ a 3 g λg=>η .neq 3 f g λf=>aR f (d [Ku] a c) (ε 62 (υ b) 4 λf=>δ a 3 f λf=>ε 62 (υ m) 4 λg=>δ a 3 g λg=>η .neq 3 f g λf=>aR f (d [Ku] a c) (ε 62 (υ b) 5 λf=>δ a 3 f λf=>ε 62 (υ m) 5 λg=>δ a 3 g λg=>η .neq 3 f g λf=>aR f (d [Ku] a c) (ε 62 (υ b) 1 λb=>δ a 60 b λb=>ε 62 (υ m) 1 λf=>δ a 60 f λf=>ψ X 115 [b,f] a λa b f=>ο .not a λa=>d [a] b (min c f)))))) (λa b c=>un a λa _=>aR a (R [Zf] b c) (ε 62 (υ m) 0 λa=>δ b 3 a λa=>η .eql 3 a (χ 1) λa=>aR a (jn (λa=>ε 62 (υ m) 1 λd=>δ b 60 d λd=>ψ X 116 [d] b λb d f=>aR b (ε 62 (υ m) 1 λb=>ε 60 b 1 λb=>δ d 3 b λb=>ψ X 96 [b,χ 6,χ 8] d λb d g=>a [b] d (ω c f g)) (a [Zf] d (min c f))) (λa b c=>un a λa _=>R [a] b c)) (jn (λa=>ε 62 (υ m) 2 λd=>δ b 3 d λd=>ψ X 96 [d,χ 0,χ 99] b λb d f=>aR b (ε 62 (υ m) 3 λb=>δ d 3 b λb=>ψ X 96 [b,χ 0,χ 99] d λb d g=>a [b] d (ω c f g)) (a [Zf] d (min c f))) (λa b c=>un a λa _=>jn (λd=>aR a (ε 62 (υ m) 4 λa=>δ b 3 a λa=>ψ X 96 [a,χ (-2),χ 7] b λa b f=>aR a (ε 62 (υ m) 5 λa=>δ b 3 a λa=>ψ X 96 [a,χ 0,χ 7] b λa b g=>aR a (ε 62 (υ m) 0 λa=>δ b 3 a λa=>η .neq 3 a (χ 9) λa=>aR a (d [Ku] b (ω c f g)) (ε 62 (υ m) 2 λa=>δ b 3 a λa=>ε 62 (υ m) 3 λh=>δ b 3 h λh=>η .lss 3 a h λa=>d [a] b (ω c f g))) (d [Zf] b (ω c f g))) (d [Zf] b (min c f))) (d [Zf] b c)) (λa b c=>un a λa _=>R [a] b c)))))))) [χ 0] h (Δ m.n c d g i)):=by kernel_rfl
theorem F98:dk TE W f98 [x0,x1,x2] m R=W.aO (av TE m .len [34] [x0]) λa _=>W.Lp (λb c d f=>W.un c λc g=>W.un g λg _=>W.ai (aA TE .lss 3 g a) λa=>aR a (W.ai (ak TE 34 x0 g) λa=>W.ai (ah TE d 113 a) λa=>W.bC (M.push d (.cells [.int .i64 0,.int .i64 0,.int .i64 0,YM,.int .i64 0,.int .i64 0,YM] 113 none)) λh=>W.aO (aD TE h 113 (ptrTo d.n) a) λa h=>W.jn (λb=>W.ai (ah TE a 113 (ptrTo d.n)) λc=>gL x2 λi j k=>W.bs i (j.toList++([c]++k.toList)) a λa c i=>W.ai (cU .not a) λa=>aR a (b [Ku] c (min (min f h) i)) (W.ai (aA TE .gtr 3 g (.int .i64 0)) λa=>aR a (W.ai (aA TE .sub 3 g (.int .i64 1)) λa=>W.ai (ak TE 34 x0 a) λa=>W.ai (ah TE c 113 a) λa=>W.ai (ah TE c 113 (ptrTo d.n)) λd=>gL x1 λg j k=>W.bs g (j.toList++([a,d]++k.toList)) c λa c d=>W.ai (aA TE .geq 3 a (.int .i64 0)) λa=>b [a] c (min (min (min f h) i) d)) (b [Zf] c (min (min f h) i)))) (λa d f=>W.un a λa _=>aR a (R [Zf] d f) (W.ai (aA TE .add 3 g (.int .i64 1)) λa=>b [c,a] d f))) (R [Ku] d f)) [Zf,.int .i64 0] m m.n:=by kernel_rfl
theorem aa1:dk TE W f100 [x0,x1,x2] m R=W.aO (av TE m .len [35] [x0]) λa _=>W.Lp (λb c d f=>W.un c λc g=>W.un g λg _=>W.ai (aA TE .lss 3 g a) λa=>aR a (W.ai (ak TE 35 x0 g) λa=>W.ai (ah TE d 53 a) λa=>W.bC (M.push d (.cells [.int .i64 0,.int .i64 0] 53 none)) λh=>W.aO (aD TE h 53 (ptrTo d.n) a) λa h=>W.jn (λb=>W.ai (ah TE a 53 (ptrTo d.n)) λc=>gL x2 λi j k=>W.bs i (j.toList++([c]++k.toList)) a λa c i=>W.ai (cU .not a) λa=>aR a (b [Ku] c (min (min f h) i)) (W.ai (aA TE .gtr 3 g (.int .i64 0)) λa=>aR a (W.ai (aA TE .sub 3 g (.int .i64 1)) λa=>W.ai (ak TE 35 x0 a) λa=>W.ai (ah TE c 53 a) λa=>W.ai (ah TE c 53 (ptrTo d.n)) λd=>gL x1 λg j k=>W.bs g (j.toList++([a,d]++k.toList)) c λa c d=>W.ai (aA TE .geq 3 a (.int .i64 0)) λa=>b [a] c (min (min (min f h) i) d)) (b [Zf] c (min (min f h) i)))) (λa d f=>W.un a λa _=>aR a (R [Zf] d f) (W.ai (aA TE .add 3 g (.int .i64 1)) λa=>b [c,a] d f))) (R [Ku] d f)) [Zf,.int .i64 0] m m.n:=by kernel_rfl
theorem aaZ:dk TE W f102 [x0,x1,x2] m R=W.aO (av TE m .len [36] [x0]) λa _=>W.Lp (λb c d f=>W.un c λc g=>W.un g λg _=>W.ai (aA TE .lss 3 g a) λa=>aR a (W.ai (ak TE 36 x0 g) λa=>W.ai (ah TE d 109 a) λa=>W.bC (M.push d (.cells [.int .i64 0,.int .i64 0,.int .i64 0] 109 none)) λh=>W.aO (aD TE h 109 (ptrTo d.n) a) λa h=>W.jn (λb=>W.ai (ah TE a 109 (ptrTo d.n)) λc=>gL x2 λi j k=>W.bs i (j.toList++([c]++k.toList)) a λa c i=>W.ai (cU .not a) λa=>aR a (b [Ku] c (min (min f h) i)) (W.ai (aA TE .gtr 3 g (.int .i64 0)) λa=>aR a (W.ai (aA TE .sub 3 g (.int .i64 1)) λa=>W.ai (ak TE 36 x0 a) λa=>W.ai (ah TE c 109 a) λa=>W.ai (ah TE c 109 (ptrTo d.n)) λd=>gL x1 λg j k=>W.bs g (j.toList++([a,d]++k.toList)) c λa c d=>W.ai (aA TE .geq 3 a (.int .i64 0)) λa=>b [a] c (min (min (min f h) i) d)) (b [Zf] c (min (min f h) i)))) (λa d f=>W.un a λa _=>aR a (R [Zf] d f) (W.ai (aA TE .add 3 g (.int .i64 1)) λa=>b [c,a] d f))) (R [Ku] d f)) [Zf,.int .i64 0] m m.n:=by kernel_rfl
theorem F99:dk TE (aL TE X) f99 [x0,x1] m R=ρ m x0 113 λa=>ρ a x1 113 λb=>ε 113 (υ m) 0 λc=>ε 60 c 0 λc=>δ b 3 c λc=>ε 113 (υ a) 0 λa=>ε 60 a 0 λa=>δ b 3 a λa=>ψ X 59 [c,a] b λa b c=>R [a] b (min m.n c):=by kernel_rfl
theorem aa0:dk TE (aL TE X) f101 [x0,x1] m R=ρ m x0 53 λa=>ρ a x1 53 λb=>ε 53 (υ m) 0 λc=>δ b 3 c λc=>ε 53 (υ a) 0 λd=>δ b 3 d λd=>ψ X 59 [c,d] b λc d f=>(b.n<=f)/\(ε 53 (υ m) 1 λb=>δ d 3 b λb=>ε 53 (υ a) 1 λa=>δ d 3 a λa=>ψ X 59 [b,a] d λa b d=>ν b 26 2 [(0,c),(1,a)] λa b=>ψ X 80 [a] b λa b c=>R [a] b (Γ m.n f d c)):=by kernel_rfl
theorem aaY:dk TE (aL TE X) f103 [x0,x1] m R=ρ m x0 109 λa=>ρ a x1 109 λb=>ε 109 (υ m) 0 λc=>δ b 3 c λc=>ε 109 (υ a) 0 λd=>δ b 3 d λd=>ψ X 59 [c,d] b λc d f=>(b.n<=f)/\(ε 109 (υ m) 1 λb=>δ d 3 b λb=>ε 109 (υ a) 1 λa=>δ d 3 a λa=>ψ X 59 [b,a] d λa b d=>ν b 26 2 [(0,c),(1,a)] λa b=>ψ X 80 [a] b λa b c=>R [a] b (Γ m.n f d c)):=by kernel_rfl
theorem F94:dk TE (aL TE X) f94 [x0,x1] m R=ρ m x0 33 λa=>ρ a x1 3 λb=>ς b [χ 0,χ 0,χ 0,YM,χ 0,χ 0] 60 λc=>ε 33 (υ m) 0 λd=>ε 30 d 0 λd=>δ c 28 d λd=>ψ X 145 [d,.func (.func 154) #[] #[υ a]] c λa c d=>η .lss 3 a (χ 0) λf=>aR f (θ 60 [] λa=>ι c 60 (υ b) a λa c=>ai (ah TE a 60 (υ b)) λb=>R [b,Zf] a (ω m.n d c)) (ε 33 (υ m) 0 λf=>ε 30 f 0 λf=>δ c 28 f λf=>ζ 28 f a λa=>δ c 60 a λa=>ι c 60 (υ b) a λa c=>ai (ah TE a 60 (υ b)) λb=>R [b,Ku] a (ω m.n d c)):=by kernel_rfl
theorem aav:dk TE (aL TE X) f154 [x0,x1] m R=ρ m x0 60 λa=>ε 60 (υ m) 0 λb=>δ a 3 b λb=>δ a 3 x1 λc=>η .eql 3 b c λb=>R [b] a m.n:=by kernel_rfl
theorem F40:dk TE (aL TE X) f40 [x0] m R=ρ m x0 38 λa=>jn (λb=>ε 38 (υ m) 0 λc=>δ a 33 c λc=>ψ X 91 [c] a λa c d=>ο .not a λa=>aR a (b [Ku] c (min m.n d)) (ε 38 (υ m) 1 λa=>δ c 34 a λa=>κ c .len [34] [a] λa _=>η .gtr 3 a (χ 12) λa=>aR a (b [Ku] c (min m.n d)) (ε 38 (υ m) 2 λa=>δ c 35 a λa=>κ c .len [35] [a] λa _=>η .gtr 3 a (χ 60) λa=>aR a (b [Ku] c (min m.n d)) (ε 38 (υ m) 3 λa=>δ c 36 a λa=>κ c .len [36] [a] λa _=>η .gtr 3 a (χ 20) λa=>b [a] c (min m.n d))))) (λa b c=>un a λa _=>aR a (R [Zf] b c) (bC (M.push b (.map [] 0)) λa=>ς a [.map none] 173 λd=>ι d 173 (υ a) (.map (some b.n)) λb d=>ς b [χ 0] 3 λf=>ι f 3 (υ b) (χ 0) λf g=>ς f [.nilFunc] 174 λh=>ι h 174 (υ f) (.func (.func 92) #[] #[υ a,υ b]) λh i=>δ h 174 (υ f) λj=>ε 38 (υ m) 0 λk=>ε 33 k 1 λk=>δ h 31 k λk=>gL j λj l n=>bs TE X j (l.toList++([k]++n.toList)) h λ_ h j=>jn (λk=>ε 38 (υ m) 1 λl=>δ h 34 l λl=>ψ X 98 [l,.func (.func 99) #[] #[],.func (.func 93) #[] #[υ f,υ m]] h λf h l=>aR f (ε 38 (υ m) 2 λf=>δ h 35 f λf=>ψ X 100 [f,.func (.func 101) #[] #[],.func (.func 95) #[] #[]] h λf h n=>aR f (ε 38 (υ m) 3 λf=>δ h 36 f λf=>ψ X 102 [f,.func (.func 103) #[] #[],.func (.func 97) #[] #[]] h λf h o=>aR f (δ h 173 (υ a) λa=>κ h .len [173] [a] λa _=>δ h 3 (υ b) λf=>η .eql 3 a f λa=>aR a (δ h 3 (υ b) λa=>η .leq 3 a (χ 20) λa=>k [a] h (Ξ c d g i j l n o)) (k [Zf] h (Ξ c d g i j l n o))) (k [Zf] h (Ξ c d g i j l n o))) (k [Zf] h (Λ c d g i j l n))) (k [Zf] h (Θ c d g i j l))) (λa b c=>un a λa _=>R [a] b c))):=by kernel_rfl
theorem F92:dk TE (aL TE X) f92 [x0,x1,x2] m R=κ m .len [31] [x0] λa _=>Lp (λb c d f=>un c λc _=>η .lss 3 c a λa=>aR a (ζ 31 x0 c λa=>δ d 137 a λa=>ς d [χ 0,χ 0,χ 0,χ 0,Zf] 137 λg=>ι g 137 (υ d) a λa g=>δ a 173 x1 λh=>ε 137 (υ d) 0 λd=>δ a 3 d λd=>aO (iE TE a 173 h d Ku) λa d=>δ a 3 x2 λh=>η .add 3 h (χ 1) λh=>ι a 3 x2 h λa h=>η .add 3 c (χ 1) λc=>b [c] a (Γ f g d h)) (R [] d f)) [χ 0] m m.n:=by kernel_rfl
theorem F93:dk TE (aL TE X) f93 [x0,x1,x2] m R=ρ m x0 113 λa=>δ a 174 x1 λb=>ε 113 (υ m) 1 λc=>δ a 31 c λc=>gL b λb d f=>bs TE X b (d.toList++([c]++f.toList)) a λ_ a b=>ε 38 x2 0 λc=>δ a 33 c λc=>ε 113 (υ m) 0 λd=>ε 60 d 0 λd=>δ a 3 d λd=>ψ X 94 [c,d] a λa c d=>ξ a 0 λf=>ξ a 1 λa=>ς c [χ 0,χ 0,χ 0,YM,χ 0,χ 0] 60 λg=>ι g 60 (υ c) f λc f=>jn (λg=>ο .not a λa=>aR a (ε 113 (υ m) 0 λa=>δ c 60 a λa=>ν c 28 1 [(0,a)] λa c=>θ 30 [(0,a)] λa=>ε 113 (υ m) 1 λh=>δ c 31 h λh=>θ 33 [(0,a),(1,h)] λa=>ψ X 91 [a] c λa c h=>g [a] c (Δ m.n b d f h)) (g [Zf] c (Γ m.n b d f))) (λa b c=>un a λa _=>R [a] b c):=by kernel_rfl
theorem F95:dk TE (aL TE X) f95 [x0] m R=ρ m x0 53 λa=>jn (λb=>ε 53 (υ m) 0 λc=>δ a 3 c λc=>ψ X 96 [c,χ 0,χ 99] a λa c d=>aR a (ε 53 (υ m) 1 λa=>δ c 3 a λa=>ψ X 96 [a,χ (-2),χ 7] c λa c f=>b [a] c (ω m.n d f)) (b [Zf] c (min m.n d))) (λa b c=>un a λa _=>R [a] b c):=by kernel_rfl
theorem F97:dk TE (aL TE X) f97 [x0] m R=ρ m x0 109 λa=>jn (λb=>ε 109 (υ m) 0 λc=>δ a 3 c λc=>η .geq 3 c (χ 0) λc=>aR c (ε 109 (υ m) 0 λc=>δ a 3 c λc=>ε 109 (υ m) 1 λd=>δ a 3 d λd=>η .lss 3 c d λc=>aR c (ε 109 (υ m) 1 λc=>δ a 3 c λc=>η .leq 3 c (χ 99) λc=>aR c (ε 109 (υ m) 2 λc=>δ a 3 c λc=>ψ X 96 [c,χ 0,χ 7] a λa c d=>b [a] c (min m.n d)) (b [Zf] a m.n)) (b [Zf] a m.n)) (b [Zf] a m.n)) (λa b c=>un a λa _=>R [a] b c):=by kernel_rfl
theorem aas:dk TE (aL TE X) f168 [x0,x1] m R=κ m .len [58] [x0] λa _=>κ m .len [58] [x1] λb _=>η .neq 3 a b λa=>aR a (R [Zf] m m.n) (κ m .len [58] [x0] λa _=>Lp (λb c d f=>un c λc g=>un g λg _=>η .lss 3 g a λa=>aR a (ζ 58 x0 g λa=>δ d 141 a λa=>ζ 58 x1 g λh=>δ d 141 h λh=>η .neq 141 a h λa=>aR a (R [Zf] d f) (η .add 3 g (χ 1) λa=>b [c,a] d f)) (R [Ku] d f)) [Zf,χ 0] m m.n):=by kernel_rfl
end
end
section
variable {X:aK} {m:M}
theorem iq(hX:cd X){a lo hi:Int}:C X (.func 96) [YR a,YR lo,YR hi] m m.n (.bool (cR a lo hi)) m:=by
 refine Cl.fG hX (Kg func96) ?_;rw[F96];dsimp only[η];refine aZ (λvs mm l=>vs=[.bool (cR a lo hi)]/\m.n<=l) (λQ hQ=>?_) ?_;·rw[cz,ae,aj];refine an (λc=>?_) (λc=>hQ _ _ _ ⟨by unfold cR;rw[c];rfl,Ox _⟩);rw[cz,ae];exact hQ _ _ _ ⟨by unfold cR;rw[c];rfl,Ox _⟩
 rintro _ mm l ⟨rfl,hl⟩;rw[aB];exact⟨rfl,hl⟩
theorem aby(hX:cd X){l:List Pl}{v w:Φ}(h1:Sl m l v)(h2:Sl m l w)(hl:l.length<1000000):C X (.func 168) [v,w] m m.n Ku m:=by
 refine Cl.fG hX (Kg func168) ?_;rw[aas];dsimp only[δ,ζ,η,κ,χ];rw[h1.len cA,az,h2.len cA,az,bL,ae,aj,IH rfl];show gH false _ _;rw[aN,az];refine Lp.intro (γ:=Nat) (λi=>l.length-i) (λi vs mm lo=>∃z,vs=[z,YR i]/\i<=l.length/\m=mm/\m.n<=lo) 0 ⟨_,rfl,ZE _,rfl,Ox _⟩ ?_;rintro i vs _ lo ⟨z,rfl,hi,rfl,a0⟩;rw[aB,aB,aM,ae,aj];refine an (λc=>?_) (λc=>⟨rfl,a0⟩);have b0:i<l.length:=by grind
 obtain⟨x,hx⟩:∃x,l[i]?=some x:=⟨_,Fx b0⟩
 have⟨a,e1,e2⟩:=h1.dX (k:=.i64) hx;have⟨b,e3,e4⟩:=h2.dX (k:=.i64) hx;rw[e1,ae,e2,ae,e3,ae,e4,ae,NF,ae,aj,IH rfl];show gH false _ _;rw[aN,aP,ae,wrap64];exact⟨i+1,by omega,z,rfl,by omega,rfl,a0⟩
theorem Dl(hX:cd X){u:Un}{v w:Φ}(h1:Sl m u.shape v)(h2:Sl m u.shape w)(hl:u.shape.length<1000000):C X (.func 115) [u.v v,u.v w] m m.n Ku m:=by
 refine Cl.fG hX (Kg func115) ?_;rw[aaU];dsimp only[δ,ε,η,ρ,υ,ψ];refine aw λm1 j0 e0 k0=>?_;refine aw λm2 l0 g0 i0=>?_;have g1:m2.get m.n=.cells (u.c v) 60 none:=by rw[i0 _ (by omega)];exact e0
 have g2:m2.get m1.n=.cells (u.c w) 60 none:=g0;have d0:Ext m m2:=⟨by omega,by grind⟩
 have⟨a0,a1,a2,a3,a4,a5⟩:=kz g1;have⟨b0,b1,b2,b3,b4,b5⟩:=kz g2;unfold ptrTo;simp only[bz,cM,cL,bD,cK,cJ,ae];refine aZ (λvs mm lo=>vs=[Ku]/\m.n<=lo) (λQ hQ=>?_) ?_;·simp only[a0,a1,a2,a3,a4,a5,b0,b1,b2,b3,b4,b5,ae,aS,aj,decide_true,bH];refine aG (aby hX (h1.aE d0) (h2.aE d0) hl) ?_;exact hQ _ _ _ ⟨rfl,by omega⟩
 rintro _ mm l ⟨rfl,hl⟩;rw[aB];exact⟨rfl,hl⟩
structure IP where
 b:Nat
 o:Nat
instance:aW IP where
 ty:=195
 sz:=1
 agg:=false
 cT:=[]
 rep _ x cs:=cs=[.pointer (some ⟨x.b,x.o,none⟩)]
 pos:=by decide
 one:=by grind
 len:=by grind
 dS:=by rintro _ _ _ rfl;rfl
 aV:=by grind
theorem Fg:oU TE 192 195 IP:=⟨ag.t192,ag.t195,by kernel_rfl,⟨_,rfl⟩,rfl,by kernel_rfl,rfl,rfl⟩
abbrev qN(x:IP):Φ:=.pointer (some ⟨x.b,x.o,none⟩)
theorem adC{l:List IP}{b:Nat}{g:Option Nat}(h:m.get b=.cells (l.map qN) 195 g):Sl m l (KI b 0 l.length l.length):=
 .inr ⟨b,0,l.length,_,g,rfl,h,by rw[Gv];show 0+l.length*1<=_;omega,λi x hi=>by
  show((l.map qN).drop (0+i*1)).take 1=[qN x]
  have a0:=(OJ.1 hi).1;rw[Wl,Nat.mul_one,JK (by grind),Wa,zI,List.getElem_map,(OJ.1 hi).2]⟩
def jt(t:Tk):List (Nat×Int):=if t.kind=1 then [(1,t.un.id),(2,t.un.kind),(3,t.un.du),(5,t.un.back),(6,t.un.front)]
 else if t.kind=4 then [(7,t.id),(10,t.du)]
 else if t.kind=5\/t.kind=8 then [(7,t.id),(9,t.side)]
 else if t.kind=9 then [(7,t.id),(8,t.other),(10,t.du)]
 else [(7,t.id)]
theorem QQ{t:Tk}{w:Φ}{p:Nat×Int}(h:p∈jt t):(t.c w)[p.1]?=some (YR p.2)/\p.1<11:=by
 unfold jt at h;split at h;·grind
 split at h;·simp only[RN,ZX,or_false]at h;rcases h with rfl|rfl <;>exact⟨rfl,by simp⟩
 split at h;·simp only[RN,ZX,or_false]at h;rcases h with rfl|rfl <;>exact⟨rfl,by simp⟩
 split at h;·simp only[RN,ZX,or_false]at h;rcases h with rfl|rfl|rfl <;>exact⟨rfl,by simp⟩
 ·grind
abbrev P6(b:Nat)(t:Tk):List IP:=(jt t).map λp=>⟨b,p.1⟩
theorem AK(hX:cd X){t:Tk}{w:Φ}{b:Nat}(g:m.get b=.cells (t.c w) 62 none):
  ∃r m',C X (.func 114) [Ga b 0] m m.n r m'/\Ext m m'/\Sl m' (P6 b t) r:=by
 refine Cl.EL hX (Kg func114) ?_;have H:∀R:Bt->M->Nat->Prop,(∀(L:List IP) (m':M) (lo:Nat),L=P6 b t->m'=m.push (.cells (L.map qN) 195 none)->m.n<=lo->R [KI m.n 0 L.length L.length] m' lo)->dk TE (aL TE X) f114 [Ga b 0] m R:=by
  intro R hR;unfold P6 jt at hR;rw[aaV];dsimp only[δ,ε,η,ν,χ];simp only[gB,cn,di,bZ,cE,cD,dh,bz,cM,cL,cK,cJ,ae];rw[(nq g).1,ae,aS,ae,aj];have b5:∀p q r s u:IP,aF TE m 192 5 [(0,qN p),(1,qN q),(2,qN r),(3,qN s),(4,qN u)]=some (KI m.n 0 5 5,m.push (.cells ([p,q,r,s,u].map qN) 195 none)):=λ_ _ _ _ _=>by kernel_rfl
  have b3:∀p q r:IP,aF TE m 192 3 [(0,qN p),(1,qN q),(2,qN r)]=some (KI m.n 0 3 3,m.push (.cells ([p,q,r].map qN) 195 none)):=λ_ _ _=>by kernel_rfl
  have b2:∀p q:IP,aF TE m 192 2 [(0,qN p),(1,qN q)]=some (KI m.n 0 2 2,m.push (.cells ([p,q].map qN) 195 none)):=λ_ _=>by kernel_rfl
  have b1:∀p:IP,aF TE m 192 1 [(0,qN p)]=some (KI m.n 0 1 1,m.push (.cells ([p].map qN) 195 none)):=λ_=>by kernel_rfl
  refine an (λc=>?_) (λc=>?_);·rw[Tf (NT c)]at hR;show aO (aF TE m 192 5 [(0,qN ⟨b,1⟩),(1,qN ⟨b,2⟩),(2,qN ⟨b,3⟩),(3,qN ⟨b,5⟩),(4,qN ⟨b,6⟩)]) _;rw[b5,az];exact hR _ _ _ rfl rfl (Ox _)
  rw[QL (Ja c)]at hR;rw[aS,ae,aj];refine an (λc=>?_) (λc=>?_);·rw[Tf (NT c)]at hR;show aO (aF TE m 192 2 [(0,qN ⟨b,7⟩),(1,qN ⟨b,10⟩)]) _;rw[b2,az];exact hR _ _ _ rfl rfl (Ox _)
  rw[QL (Ja c)]at hR;refine aZ (λvs mm lo=>vs=[.bool (decide (t.kind=5\/t.kind=8))]/\m=mm/\m.n<=lo) (λQ hQ=>?_) ?_
  ·rw[aS,ae,aj];refine an (λc=>hQ _ _ _ ⟨?_,rfl,Ox _⟩) (λc=>?_);·rw[c,IH (Or.inl (NT c))]
   ·rw[aS,ae];refine hQ _ _ _ ⟨?_,rfl,Ox _⟩;have c:=Ja c;congr 2;exact decide_eq_decide.2 ⟨λh=> .inr h,λh=>h.resolve_left c⟩
  rintro _ _ lo ⟨rfl,rfl,a0⟩;rw[aB,aj];refine an (λc=>?_) (λc=>?_);·rw[Tf (NT c)]at hR;show aO (aF TE m 192 2 [(0,qN ⟨b,7⟩),(1,qN ⟨b,9⟩)]) _;rw[b2,az];exact hR _ _ _ rfl rfl a0
  rw[QL (Ja c)]at hR;rw[aS,ae,aj];refine an (λc=>?_) (λc=>?_);·rw[Tf (NT c)]at hR;show aO (aF TE m 192 3 [(0,qN ⟨b,7⟩),(1,qN ⟨b,8⟩),(2,qN ⟨b,10⟩)]) _;rw[b3,az];exact hR _ _ _ rfl rfl a0
  rw[QL (Ja c)]at hR;show aO (aF TE m 192 1 [(0,qN ⟨b,7⟩)]) _;rw[b1,az];exact hR _ _ _ rfl rfl a0
 refine H _ λL m' lo hL hm a0=> .inr ⟨.inl rfl,by omega,?_,?_⟩;·rw[hm];exact Ext.refl.push
 show Sl m' (P6 b t) (KI m.n 0 L.length L.length);rw[<-hL,hm];exact adC M.aX
end
end Go.Proofs.YtigpcbodmjjaiaaGreatDoor
