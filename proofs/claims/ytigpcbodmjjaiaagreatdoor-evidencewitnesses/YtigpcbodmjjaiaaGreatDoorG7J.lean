/- putlogref12.Add. -/
import Derived.Test.YtigpcbodmjjaiaaGreatDoorG6J
import Derived.Test.YtigpcbodmjjaiaaGreatDoorBtJ
import Derived.Sort.Grow
set_option maxRecDepth 100000
noncomputable section
open Go Go.D Go.Proofs.Tryz
namespace Go.Proofs.YtigpcbodmjjaiaaGreatDoor
section
variable {X:aK} {m:M}
def gJ(u:Un):List Un->List Un
 |[]=> [u]
 |a::r=>if u.id < a.id then u::a::r else a::gJ u r
theorem Cs{u:Un}:∀{p q:List Un},(∀x∈p,¬u.id < x.id)->gJ u (p++q)=p++gJ u q
 |[],q,_=>rfl
 |a::p,q,h=>by
  rw[aci,gJ,abd (h a (by simp)),Cs λx hx=>h x (by grind)];rfl
theorem Em{u x:Un}:∀{p:List Un},(∃y∈p,u.id < y.id)->gJ u (p++ [x])=gJ u p++ [x]
 |[],h=>by grind
 |a::p,h=>by
  rw[aci,gJ,gJ]
  by_cases e:u.id < a.id
  ·grind
  ·rw[abd e,abd e,Em]
   ·rfl
   ·grind
structure KeU(oc:Nat)(m m1:M):Prop where
 n:m.n<=m1.n
 lo:∀c,c < oc->m1.get c=m.get c
 get:∀c,c < m.n->c≠oc->(∀cs g,m.get c≠.cells cs 60 g)->m1.get c=m.get c
structure Fb(oc:Nat)(mm:M)(acc:List UW)(r:aeM):Prop where
 cell:mm.get oc=.cells [r] 30 none
 ow:Ow (oc+1) mm acc r
 sh:∀x∈acc,Sl mm x.u.shape x.w
 ln:∀x∈acc,x.u.shape.length < 1000000
theorem Fb.tR{oc:Nat}{mm:M}{acc:List UW}{r:aeM}(h:Fb oc mm acc r):dg mm acc r:=
 ⟨h.ow.sl,h.sh,h.ln,by
  rcases h.ow with⟨_,h⟩ |⟨b,cs,h1,h2,h3,h4,h5,h6⟩
  ·grind
  ·exact .inr ⟨b,0,_,cs,_,h1,aa4 _,h4,.inr rfl⟩⟩
theorem Fb.aF{oc:Nat}{mm m':M}{acc:List UW}{r:aeM}(h:Fb oc mm acc r)(hx:Ext mm m'):Fb oc m' acc r:=⟨hx.cells h.cell,h.ow.aF hx,λx a0=>(h.sh x a0).aF hx,h.ln⟩
theorem pz{α:Type}[aZ α]{n1:Nat}{l:List α}{v:aeM}(h:Ow n1 m l v){a:Addr}{n k:Nat}(e:v=.slice (some a) n k):∃cs g,m.get a.block=.cells cs (aZ.ty α) g/\n1<=a.block:=by
 rcases h with⟨rfl,_⟩ |⟨b,cs,rfl,h2,h3,h4,_⟩;·cases e
 ·grind
theorem QZ{oc:Nat}{mm:M}{acc:List UW}{r w:aeM}{u:Un}(h:Fb oc mm acc r)(hw:Sl mm u.shape w)(hl:u.shape.length < 1000000)(A0:acc.length < 1000000):
  ∃b0 r' a0 g0,aG TE mm 28 1 [(0,u.v w)]=some (aeL mm.n 0 1 1,b0)/\aw TE (M.wl b0 (M.n b0)) .append [28,28] [r,aeL mm.n 0 1 1]=some (r',a0)/\
   aD TE a0 28 (aeK oc (0+0)) r'=some (g0,oc)/\oc+1<=a0.low/\Fb oc g0 (acc++ [⟨u,w⟩]) r'/\KeU oc mm g0:=by
 have B0:=M.bk h.cell;have r0:one w:=hw.one;have e0:Ext mm (mm.push (.cells (UW.c ⟨u,w⟩) 60 none)):=Ext.refl.push;refine⟨mm.push (.cells (UW.c ⟨u,w⟩) 60 none),?_⟩;have s0:aG TE mm 28 1 [(0,u.v w)]=some (aeL mm.n 0 1 1,mm.push (.cells (UW.c ⟨u,w⟩) 60 none)):=HD (x:=⟨u,w⟩);generalize j0:mm.push (.cells (UW.c ⟨u,w⟩) 60 none)=b0 at*;have o0:b0.get mm.n=.cells (UW.c ⟨u,w⟩) 60 none:=by rw[<-j0];exact M.aU
 have C0:b0.n=mm.n+1:=by rw[<-j0];rfl
 have h0:=h.aF e0;obtain⟨r',a0,ha,d0,i0,p0,z0⟩:=Ow.append (y:=aeL mm.n 0 1 1) (ys:=[(⟨u,w⟩:UW)]) WA (by simp[aZ.eB]) h0.ow (JH o0 r0) (by omega) (by grind);have D0:=i0.n;have q0:a0.get oc=.cells [r] 30 none:=by rw[i0.get _ (by omega),h0.cell]
 have u0:=sG (E:=TE) (o:=0+0) (x:=r') SH q0 (by rw[d0.sl.cells];rfl) (by rw[d0.sl.cells];simp) (by rw[d0.sl.cells];simp[d0.sl.one]);refine⟨r',a0,_,s0,ha,u0,p0,?_⟩;have k0:∀c,c≠oc->(a0.set oc (.cells (([r]:aeN).take (0+0)++(cells r'++([r]:aeN).drop (0+0+(cells r').length))) 30 none)).get c=a0.get c:=λc hc=>M.dP hc
 have v0:(a0.set oc (.cells (([r]:aeN).take (0+0)++(cells r'++([r]:aeN).drop (0+0+(cells r').length))) 30 none)).get oc=.cells [r'] 30 none:=by rw[M.eK (M.bk q0),d0.sl.cells];rfl
 have y0:(a0.set oc (.cells (([r]:aeN).take (0+0)++(cells r'++([r]:aeN).drop (0+0+(cells r').length))) 30 none)).n=a0.n:=rfl;generalize a0.set oc (.cells (([r]:aeN).take (0+0)++(cells r'++([r]:aeN).drop (0+0+(cells r').length))) 30 none)=g0 at*
 have aY:∀c,c < b0.n->c≠oc->(∀cs g,b0.get c≠.cells cs 60 g)->g0.get c=b0.get c:=λc hc l0 ht=>by rw[k0 c l0,fx ha hc λa n k e he=>?_];have⟨cs,g,hg,_⟩:=pz h0.ow e;rw[<-he]at hg;exact ht _ _ hg
 have S3:∀(n0:List Pl) (v:aeM),Sl b0 n0 v->Sl g0 n0 v:=λn0 v hs=>hs.aY λb cs t g hb ht=>by
  have ht:t=141:=by simpa[aZ.ty,aZ.eB]using ht
  subst ht;rw[aY b (M.bk hb) (λe=>by subst e;rw[h0.cell]at hb;cases hb) (by grind),hb]
 refine⟨⟨v0,d0.aY λb c t g hb ht=>?_,λx hx=>?_,λx hx=>?_⟩,⟨by omega,λc hc=>?_,λc hc l0 ht=>?_⟩⟩
 ·have ht:t=60:=by simpa[aZ.ty,aZ.eB]using ht
  grind
 ·rcases abC.1 hx with hx |hx;·exact S3 _ _ (h0.sh x hx)
  rw[abE]at hx;subst hx;exact S3 _ _ (hw.aF e0)
 ·rcases abC.1 hx with hx |hx;·exact h.ln x hx
  ·grind
 ·rw[k0 c (by omega),i0.get c (by omega),e0.get c (by omega)]
 rw[aY c (by omega) l0 (λcs g e=>ht cs g (by rw[<-e,e0.get c (by omega)])),e0.get c (by omega)]
theorem mR(hX:cC X){oc:Nat}{mm:M}{acc:List UW}{r w:aeM}{u:Un}(h:Fb oc mm acc r)(hw:Sl mm u.shape w)(hl:u.shape.length < 1000000)(i0:acc.length < 1000000):
  ∃w' b0 d0 r' e0 g0,C X (.func 219) [u.v w] mm mm.n (u.v w') b0/\aG TE b0 28 1 [(0,u.v w')]=some (aeL b0.n 0 1 1,d0)/\
   aw TE (M.wl d0 (M.n d0)) .append [28,28] [r,aeL b0.n 0 1 1]=some (r',e0)/\
   aD TE e0 28 (aeK oc (0+0)) r'=some (g0,oc)/\oc+1<=e0.low/\Fb oc g0 (acc++ [⟨u,w'⟩]) r'/\KeU oc mm g0:=by have k0:=M.bk h.cell;have⟨w',b0,hc,a0,h0⟩:=Bk hX hw hl;have l0:=a0.n;have⟨d0,r',e0,g0,h1,h2,h3,h4,h5,h6⟩:=QZ (h.aF a0) h0 hl i0;exact⟨w',b0,d0,r',e0,g0,hc,h1,h2,h3,h4,h5,⟨by have:=h6.n;omega,λc hc=>by rw[h6.lo c hc,a0.get c (by omega)],λc hc j0 ht=>by rw[h6.get c (by omega) j0 (λcs g e=>ht cs g (by rw[<-e,a0.get c hc])),a0.get c hc]⟩⟩
open Classical in
def oM(l:List UW)(u:Un)(m':M)(rv:aeM):Prop:=
 if fQ (bP l)=true/\fQ (gJ u (bP l))=true then∃l' r,rv=.tuple #[.agg #[r],.int .i64 0]/\bP l'=gJ u (bP l)/\dg m' l' r else rv=.tuple #[.agg #[.slice none 0 0],.int .i64 120]
theorem oM.no{l:List UW}{u:Un}{m':M}(h:¬(fQ (bP l)/\fQ (gJ u (bP l)))):oM l u m' (.tuple #[.agg #[aeQ],aeP 120]):=by unfold oM;rw[abd h]
theorem oM.yes{l l':List UW}{u:Un}{m':M}{r:aeM}(h1:fQ (bP l))(h2:fQ (gJ u (bP l)))(h3:bP l'=gJ u (bP l))(h4:dg m' l' r):oM l u m' (.tuple #[.agg #[r],aeP 0]):=by unfold oM;rw[abe ⟨h1,h2⟩];exact⟨l',r,rfl,h3,h4⟩
theorem Ii(u:Un)(l:List Un):gJ u l≠ []:=by
 cases l with
 |nil=>simp[gJ]
 |cons a r=>rw[gJ];split <;>simp
theorem Qc(hX:cC X){l:List UW}{v w:aeM}{u:Un}(h:dg m l v)(hlen:l.length < 1000)(hw:Sl m u.shape w)(d1:u.shape.length < 1000000):
  ∃rv m',C X (.func 171) [.agg #[v],u.v w] m m.n rv m'/\Ext m m'/\oM l u m' rv:=by
 have key:∃rv m' b,C X (.func 171) [.agg #[v],u.v w] m b rv m'/\b=m.n/\Ext m m'/\oM l u m' rv:=by
  refine Cl.gen (R:=λrv m' b=>b=m.n/\Ext m m'/\oM l u m' rv) (hX.no _ rfl) (aa3 func171) rfl ?_;rw[Z9];dsimp only[δ,ε,ζ,η,θ,ι,κ,ν,ο,ρ,ς,υ,φ,χ,Δ,Θ,ψ,ω];refine av λm1 L1 v1 N1=>?_;refine av λm2 O1 w1 P1=>?_;refine av λm3 T1 c2 d2=>?_;simp only[aT]at v1 w1;have y1:Ext m m3:=⟨by omega,by grind⟩
  have g1:m3.get m.n=.cells [v] 30 none:=by grind
  have g2:m3.get m1.n=.cells (u.c w) 60 none:=by grind
  unfold ptrTo;rw[ez,aN g1 (by simp)];show ai (some (Value.agg #[v])) _;rw[ae];refine aE (kX hX (h.aF y1) (by omega)) ?_;rw[bj,ae,aj]
  have g0:∀(mm:M) (lo:Nat),(∀c,c < m3.n->mm.get c=m3.get c)->¬(fQ (bP l)/\fQ (gJ u (bP l)))->m.n<=lo->
    aP (aD TE mm 30 (aeK m2.n 0) (.agg #[aeQ])) λm10 J0=>ai (ah TE m10 30 (aeK m2.n 0)) λv12=>
     (bB (bC [v12,aeP 120])/\m.n<=min lo J0/\m.n=m.n/\Ext m m/\oM l u m (bC [v12,aeP 120]))\/
     ((bB (bC [v12,aeP 120])=false\/min lo J0 < m.n)/\min m.n (min lo J0)=m.n/\Ext m m10/\oM l u m10 (bC [v12,aeP 120])):=by
   intro mm lo hk z1 A1
   have g3:mm.get m2.n=.cells [aeQ] 30 none:=by grind
   refine aC oS g3 rfl rfl rfl λm10 i1 b0 E0=>?_
   have b0:m10.get m2.n=.cells [aeQ] 30 none:=b0
   rw[ez,aN b0 (by simp)]
   show ai (some (Value.agg #[aeQ])) _
   rw[ae]
   exact .inl ⟨rfl,by omega,rfl,.refl,.no z1⟩
  have K0:aJ TE 30 []=some (.agg #[aeQ]):=Bn;refine ak (λhb=>?_) (λhb=>?_)
  ·have hb:fQ (bP l)=false:=by grind
   rw[K0,ae];exact g0 m3 (min m.n m3.n) (λ_ _=>rfl) (by grind) (by omega)
  have B1:fQ (bP l):=by grind
  refine av λm13 H1 F0 G0=>?_;obtain⟨oc,C1⟩:∃oc,oc=m3.n:=⟨_,rfl⟩
  rw[<-C1]at F0⊢;have I1:Ext m3 m13:=⟨by omega,λc hc=>G0 c hc⟩
  refine Lp.intro (γ:=Nat) (λi=>l.length-i) (λi vs mm lo=>∃(done:Bool) (acc:List UW) (r:aeM),vs=[.bool done,aeP i]/\i<=l.length/\Fb oc mm acc r/\(∀c,c < oc->mm.get c=m3.get c)/\m.n<=lo/\m13.n<=mm.n/\(done=false->bP acc=(bP l).take i/\∀x∈(bP l).take i,¬u.id < x.id)/\(done->bP acc=gJ u ((bP l).take i)/\∃x∈(bP l).take i,u.id < x.id)/\acc.length<=i+1) 0 ⟨false,[],_,rfl,abh _,⟨F0,.nil,λx hx=>(by cases hx),λx hx=>(by cases hx)⟩,λc hc=>G0 c (by omega),by omega,aa4 _,λ_=>⟨rfl,λx hx=>(by grind)⟩,λh=>(by cases h),abh _⟩ ?_;rintro i vs mm p0 ⟨done,acc,r,rfl,hi,h0,hk,A1,j1,z0,L0,i2⟩;have gf:mm.get m.n=.cells [v] 30 none:=by grind
  have gu:mm.get m1.n=.cells (u.c w) 60 none:=by grind
  have N0:Ext m mm:=⟨by omega,by grind⟩
  have hF:=h.aF N0;have A0:∀m':M,m'.get m.n=.cells [v] 30 none->ah TE m' 28 (aeK m.n (0+0))=some v:=λm' h=>by rw[eO,aI h];rfl
  have B0:∀(m':M) acc r,Fb oc m' acc r->ah TE m' 28 (aeK oc (0+0))=some r:=λm' acc r h=>by rw[eO,aI h.cell];rfl
  rw[aB,aB,bO,ae,A0 mm gf,ae,hF.sl.len dF,aA,aM,ae,aj];refine ak (λk1=>?_) (λj2=>?_)
  ·have k1:i < l.length:=by grind
   obtain⟨x,hx⟩:∃x,l[i]?=some x:=⟨_,aa5 k1⟩
   have H0:=abb hx;have C0:(bP l).take (i+1)=(bP l).take i++ [x.u]:=by rw[abt,ja hx];rfl
   refine aW (λvs m' lo=>vs=[.bool (!done && decide (u.id < x.u.id))]/\mm=m'/\p0=lo) (λR hR=>?_) ?_
   ·rw[bj,ae,aj];refine ak (λh1=>?_) (λh1=>?_)
    ·have⟨q,q0,f1,f2,f3⟩:=sy hF.sl hx;obtain⟨l0, -⟩:=kU gu;rw[ae,A0 mm gf,ae,f1,ae,f2,ae,f3,ae,bs,ae,l0,ae,bV,ae];exact hR _ _ _ ⟨by grind,rfl,rfl⟩
    exact hR _ _ _ ⟨by grind,rfl,rfl⟩
   rintro _ _ _ ⟨rfl,rfl,rfl⟩;rw[aB,aj]
   have step:∀(m':M) (a0:List UW) (r':aeM),Fb oc m' a0 r'->(∀c,c < oc->m'.get c=m3.get c)->m13.n<=m'.n->a0.length < 100000->
     ∃q w' i0 k0 r0 n0 j0,an TE 28 v (aeP i)=some q/\ah TE m' 60 q=some x.v/\C X (.func 219) [x.v] m' m'.n (x.u.v w') i0/\aG TE i0 28 1 [(0,x.u.v w')]=some (aeL i0.n 0 1 1,k0)/\
      aw TE (M.wl k0 (M.n k0)) .append [28,28] [r',aeL i0.n 0 1 1]=some (r0,n0)/\
      aD TE n0 28 (aeK oc (0+0)) r0=some (j0,oc)/\oc+1<=n0.low/\Fb oc j0 (a0++ [⟨x.u,w'⟩]) r0/\(∀c,c < oc->j0.get c=m3.get c)/\m13.n<=j0.n:=by
    intro m' a0 r' hg l1 D1 o1
    have I0:Ext m m':=⟨by omega,by grind⟩
    have⟨q,q1,q2,_⟩:=(h.aF I0).sl.gj (k:=.i64) hx
    obtain⟨w',i0,k0,r0,n0,j0,h1,h2,h3,h4,h5,h6,h7⟩:=mR hX hg ((h.aF I0).sh x H0) (h.ln x H0) (by omega)
    exact⟨q,w',i0,k0,r0,n0,j0,q1,q2,h1,h2,h3,h4,h5,h6,λc hc=>by rw[h7.lo c hc,l1 c hc],by have:=h7.n;omega⟩
   refine ak (λh1=>?_) (λh1=>?_)
   ·rw[abc]at h1;have⟨h1,h2⟩:=h1;have d0:done=false:=by grind
    have e0:u.id < x.u.id:=by grind
    have⟨e1,e2⟩:=z0 d0
    have J1:acc.length<=i:=by have:=congrArg List.length e1;rw[cS,acr]at this;omega
    obtain⟨wa,k2,l2,ra,o2,D0,a1,a2,a3,a4,a5,a6,a7⟩:=mR hX h0 (hw.aF N0) d1 (by omega);obtain⟨q,wb,u2,m64,rb,v2,w2,b1,b2,b3,b4,b5,b6,b7,b8,b9,O0⟩:=step D0 _ ra a6 (λc hc=>by rw[a7.lo c hc,hk c hc]) (by have:=a7.n;omega) (by grind);have p1:D0.get m.n=.cells [v] 30 none:=by rw[a7.lo _ (by omega),gf]
    rw[bO,ae,B0 mm acc r h0,ae,bT gu,ae];refine aE a1 ⟨aa4 _,?_⟩;rw[a2,aA,a3,aA,ae,a4,aA,ae,B0 D0 _ _ a6,ae,ae,A0 D0 p1,ae,b1,ae,b2,ae];refine aE b3 ⟨aa4 _,?_⟩;rw[b4,aA,b5,aA,ae,b6,aA,aQ,ae,wrap64 (by omega) (by omega)];have:=a7.n;refine⟨i+1,by omega,true,_,rb,rfl,by omega,b8,b9,by omega,O0,(λh=>by cases h),λ_=>⟨?_,x.u,by grind,e0⟩,by grind⟩;rw[C0,Cs e2];show bP ((acc++ [⟨u,wa⟩])++ [⟨x.u,wb⟩])=_;unfold bP at e1⊢;rw[abM,abM,e1];simp[gJ,e0]
   obtain⟨q,wb,i0,k0,rb,n0,j0,b1,b2,b3,b4,b5,b6,b7,b8,b9,O0⟩:=step mm _ r h0 hk j1 (by omega);rw[bO,ae,B0 mm acc r h0,ae,ae,A0 mm gf,ae,b1,ae,b2,ae];refine aE b3 ⟨aa4 _,?_⟩;rw[b4,aA,b5,aA,ae,b6,aA,aQ,ae,wrap64 (by omega) (by omega)];refine⟨i+1,by omega,done,_,rb,rfl,by omega,b8,b9,by omega,O0,λhd=>?_,λhd=>?_,by grind⟩
   ·have⟨e1,e2⟩:=z0 hd
    have hn:¬u.id < x.u.id:=by rw[hd,acx,abG]at h1;simpa using h1
    refine⟨?_,λy hy=>?_⟩
    ·rw[C0];unfold bP at e1⊢;rw[abM,e1];rfl
    rw[C0]at hy;rcases abC.1 hy with hy |hy;·exact e2 y hy
    rw[abE]at hy;subst hy;exact hn
   have⟨e1,y,hy,e0⟩:=L0 hd;refine⟨?_,y,by grind,e0⟩;rw[C0,Em ⟨y,hy,e0⟩];unfold bP at e1⊢;rw[abM,e1];rfl
  have E1:i=l.length:=by
   have:¬(i:Int)< (l.length:Int):=by grind
   omega
  subst E1;rw[aby (by rw[cS];exact aa4 _)]at z0 L0
  have fin:∀(m':M) (a0:List UW) (r':aeM) (s0:Nat),Fb oc m' a0 r'->(∀c,c < oc->m'.get c=m3.get c)->m13.n<=m'.n->m.n<=s0->bP a0=gJ u (bP l)->a0.length < 100000->
    C X (.func 128) [.agg #[r']] m' m'.n (.bool (fQ (gJ u (bP l)))) m'/\ah TE m' 30 (aeK oc 0)=some (.agg #[r'])/\
    (fQ (gJ u (bP l))->aP (aD TE m' 30 (aeK m2.n 0) (.agg #[r'])) λu0 v0=>ai (ah TE u0 30 (aeK m2.n 0)) λv12=>
     (bB (bC [v12,aeP 0])/\m.n<=min s0 v0/\m.n=m.n/\Ext m m/\oM l u m (bC [v12,aeP 0]))\/
     ((bB (bC [v12,aeP 0])=false\/min s0 v0 < m.n)/\min m.n (min s0 v0)=m.n/\Ext m u0/\oM l u u0 (bC [v12,aeP 0]))):=by
   intro m' a0 r' s0 hg l1 D1 K1 o0 o1
   refine⟨by rw[<-o0];exact kX hX hg.tR (by omega),by rw[ez,aN hg.cell (by simp)];rfl,λhv=>?_⟩
   have g3:m'.get m2.n=.cells [aeQ] 30 none:=by grind
   refine aC oS g3 rfl rfl (by show(one r' && true)=true;rw[hg.ow.sl.one];rfl) λm10 i1 b0 E0=>?_
   have b0:m10.get m2.n=.cells [r'] 30 none:=b0
   rw[ez,aN b0 (by simp)]
   show ai (some (Value.agg #[r'])) _
   rw[ae]
   have r1:dg m10 a0 r':=hg.tR.aY λc cs t g hb ht=>by rw[E0 c (by grind),hb]
   refine .inr ⟨.inl ?_,by omega,⟨by omega,by grind⟩,.yes B1 hv o0 r1⟩
   have F1:a0≠ []:=λe=>by rw[e]at o0;exact Ii u (bP l) o0.symm
   have⟨bb,G1,_⟩:=Own.of hg.ow F1
   rw[G1]
   simp[bC,bB,dG,bF]
  rw[bj,ae,aj];refine ak (λh1=>?_) (λh1=>?_)
  ·have d0:done=false:=by grind
   have⟨e1,e2⟩:=z0 d0
   obtain⟨wa,y2,z2,ra,Q0,y0,a1,a2,a3,a4,a5,a6,a7⟩:=mR hX h0 (hw.aF N0) d1 (by omega)
   have o0:bP (acc++ [⟨u,wa⟩])=gJ u (bP l):=by have:gJ u (bP l++ [])=bP l++gJ u []:=Cs e2;rw[abJ]at this;rw[this];unfold bP at e1⊢;rw[abM,e1];rfl
   have n7:=a7.n
   obtain⟨f1,f2,f3⟩:=fin y0 _ ra (min (min (min p0 mm.n) Q0.low) oc) a6 (λc hc=>by rw[a7.lo c hc,hk c hc]) (by omega) (by omega) o0 (by grind)
   rw[bO,ae,B0 mm acc r h0,ae,bT gu,ae]
   refine aE a1 ⟨aa4 _,?_⟩
   rw[a2,aA,a3,aA,ae,a4,aA,f2,ae]
   refine aE f1 ?_
   rw[bj,ae,aj]
   have u1:min (min (min (min p0 mm.n) Q0.low) oc) y0.n=min (min (min p0 mm.n) Q0.low) oc:=by grind
   rw[u1]
   cases c1:fQ (gJ u (bP l))with
   |false=>rw[acx,bL,K0,ae];exact g0 y0 _ (λc hc=>by rw[a7.lo c (by omega),hk c (by omega)]) (by grind) (by omega)
   |true=>rw[ab7,aO,f2,ae];exact f3 c1
  ·have d0:done:=by grind
   have⟨e1,_⟩:=L0 d0
   obtain⟨f1,f2,f3⟩:=fin mm acc r (min p0 mm.n) h0 hk j1 (by omega) e1 (by omega)
   rw[f2,ae]
   refine aE f1 ?_
   rw[bj,ae,aj]
   cases c1:fQ (gJ u (bP l))with
   |false=>rw[acx,bL,K0,ae];exact g0 mm _ (λc hc=>hk c (by omega)) (by grind) (by omega)
   |true=>rw[ab7,aO,f2,ae];exact f3 c1
 obtain⟨rv,m',b,hc,rfl,h1,h2⟩:=key;exact⟨rv,m',hc,h1,h2⟩
end
section
variable {X:aK} {m:M}
structure I6 where
 a:Int
 b:Int
 c:Int
 d:Int
 e:Int
 f:Int
def I6.c'(x:I6):aeN:=[.int .i64 x.a,.int .i64 x.b,.int .i64 x.c,.int .i64 x.d,.int .i64 x.e,.int .i64 x.f]
def I6.ok(x:I6):Prop:=lN x.a/\lN x.b/\lN x.c/\lN x.d/\lN x.e/\lN x.f
instance:aZ I6 where
 ty:=89
 sz:=6
 agg:=true
 eB:=[]
 rep _ x cs:=cs=x.c'
 pos:=by decide
 one:=by grind
 len:=by rintro _ _ _ rfl;rfl
 fB:=by rintro _ _ _ rfl;rfl
 aY:=by grind
theorem nz:oP TE 22 89 I6:=⟨ag.t22,ag.t89,by kernel_rfl,⟨_,rfl⟩,rfl,by kernel_rfl,rfl,rfl⟩
theorem OD{l:List I6}{v:aeM}(h:oJ m l v){i:Nat}{x:I6}(hx:l[i]?=some x):∃b o,an TE 22 v (aeP i)=some (aeK b o)/\ah TE m 89 (aeK b o)=some (.agg x.c'.toArray)/\ah TE m 3 (aeK b (o+5))=some (aeP x.f):=by
 have⟨p,cs,e1,e2,e3⟩:=h.index nz (k:=.i64) hx;have e3:cs=x.c':=e3;subst e3;have b0:=(aa9.1 hx).1;rcases h with h |h
 ·have⟨b,o,bc,g,cs,f1,hb,hr,hle,hj⟩:=h.gM nz (k:=.i64) hx;have hr:cs=x.c':=hr;subst hr;rw[e1]at f1;cases f1;refine⟨b,o,e1,e2,?_⟩;rw[bI,aI hb,hj 5 (by decide)];rfl
 rcases h with⟨_,rfl⟩ |⟨b,o,c,bc,rfl,hb,a0⟩
 ·grind
 have⟨hle,hr⟩:=a0 i x hx;have hr:(bc.drop (o+i*6)).take 6=x.c':=hr
 have f1:an TE 22 (aeL b o l.length c) (aeP i)=some (aeK b (o+i*6)):=by
  have hc:0<=(i:Int)/\(i:Int)< (l.length:Int)/\0 < ag.t22.es:=⟨by omega,by omega,by decide⟩
  have hd:ag.t22.d=.slice 89:=rfl;simp only[an,SI,hd];rw[abe hc,aV rfl];rfl
 rw[e1]at f1;cases f1;refine⟨b,o+i*6,e1,e2,?_⟩
 have h5:bc[o+i*6+5]?=some (aeP x.f):=by
  have:=congrArg (·[5]?) hr
  simp only[acy (show 5 < 6 by decide),acz]at this;rw[this];rfl
 rw[bI,vH hb h5 rfl]
theorem Kg(hX:cC X){xs:List I6}{v:aeM}(hv:oJ m xs v)(O0:∀x∈xs,x.ok)(hlen:xs.length < 9223372036854775808):
  ∃l r m',C X (.func 124) [v] m m.n (.agg #[r]) m'/\Ext m m'/\dg m' l r/\cn (bP l):=by
 have key:∃rv m' b,C X (.func 124) [v] m b rv m'/\b=m.n/\Ext m m'/\∃l r,rv=.agg #[r]/\dg m' l r/\cn (bP l):=by
  refine Cl.gen (R:=λrv m' b=>b=m.n/\Ext m m'/\∃l r,rv=.agg #[r]/\dg m' l r/\cn (bP l)) (hX.no _ rfl) (aa3 func124) rfl ?_;rw[aax];dsimp only[δ,ζ,η,ι,κ,ξ,ς,υ,φ,χ,Γ,Δ];refine av λm1 u1 v1 w1=>?_;refine av λm2 y1 Q0 z1=>?_;have a1:Ext m m2:=⟨by omega,by grind⟩
  have g1:m2.get m.n=.cells [aeQ] 30 none:=by grind
  have s0:∀mm:M,dg mm [] aeQ:=λmm=>⟨.nil,λx hx=>(by cases hx),λx hx=>(by cases hx),.inl rfl⟩
  have h0:cn (bP []):=⟨by simp[bP],λu hu=>(by simp[bP]at hu),λi a b ha=>(by simp[bP]at ha),λi k a b _ ha=>(by simp[bP]at ha)⟩
  unfold ptrTo;refine Lp.intro (γ:=Nat) (λi=>12-i) (λi vs mm lo=>∃l r,vs=[aeP i]/\i<=12/\Ext m mm/\m2.n<=mm.n/\mm.get m.n=.cells [aeQ] 30 none/\mm.get m1.n=.cells [r] 30 none/\dg mm l r/\cn (bP l)/\m.n<=lo/\(l=[]->r=aeQ)) 0 ⟨[],_,rfl,by omega,a1,aa4 _,g1,Q0,s0 _,h0,aa4 _,λ_=>rfl⟩ ?_;rintro i vs mm lo ⟨l,r,rfl,hi,hx,A1,ga,gb,hF,hP,B1,u0⟩;have C1:l.length<=12:=by have:=hP.len;rwa[cS]at this
  rw[aB];refine aW (λvs m' b1=>vs=[.bool (decide (i < xs.length) && decide (i < 12))]/\mm=m'/\lo=b1) (λR hR=>?_) ?_
  ·rw[(hv.aF hx).len nz,aA,aM,ae,aj];refine ak (λh=>?_) (λh=>?_)
   ·have h:i < xs.length:=by grind
    rw[aM,ae]
    refine hR _ _ _ ⟨?_,rfl,rfl⟩
    rw[abl h,abG]
    congr 2
    rw[decide_eq_decide];omega
   have h:¬i < xs.length:=by grind
   exact hR _ _ _ ⟨by grind,rfl,rfl⟩
  rintro _ _ _ ⟨rfl,rfl,rfl⟩;rw[aB,aj];have p0:∀(m':M) (b:Nat) (r:aeM),m'.get b=.cells [r] 30 none->ah TE m' 30 (aeK b 0)=some (.agg #[r]):=λm' b r h=>by rw[ez,aN h (by simp)];rfl
  refine ak (λh=>?_) (λh=>?_)
  ·simp only[abc,abv]at h;have⟨c1,l1⟩:=h;obtain⟨x,B0⟩:∃x,xs[i]?=some x:=⟨_,aa5 c1⟩
   have⟨k0,k1,k2,k3,k4,k5⟩:=O0 x (abb B0);have⟨b,o,e1,e2,e3⟩:=OD (hv.aF hx) B0;have e4:an TE 89 (aeK b o) (aeP 5)=some (aeK b (o+5)):=RK (i:=5) (by decide);rw[p0 mm _ _ gb,ae,gE,ae,e1,ae,e4,ae,e3,ae];refine aE (ed hX k5 (by decide)) ⟨aa4 _,?_⟩;rw[aQ,ae,ae,e2,ae];obtain⟨u,w,d1,C0,i0,D0,o1⟩:=EO (m:=mm) hX (mn _) k0 k1 k2 k3 k4 k5;refine aE C0 ⟨aa4 _,?_⟩;obtain⟨rv,z0,E0,v0,a0⟩:=Qc (m:=d1) hX (hF.aF i0) (by omega) D0 (by omega);refine aE E0 ⟨aa4 _,?_⟩;have n30:=i0.n;have n33:=v0.n;have d0:=i0.trans v0;by_cases hc:fQ (bP l)/\fQ (gJ u (bP l))=true
   ·unfold oM at a0;rw[abe hc]at a0;obtain⟨l',r',rfl,A0,F0⟩:=a0;rw[aH,aH];simp only[aa8,aa7,ae];refine av λi1 G0 j0 H0=>?_;have or:one r':=F0.sl.one;refine aC oS j0 rfl rfl (by show(one r' && true)=true;rw[or];rfl) λg0 I0 e0 J0=>?_;have e0:g0.get z0.n=.cells [r'] 30 none:=e0;have b0:Ext z0 g0:=⟨by omega,by grind⟩
    rw[aS,ae,aj,abl rfl,bL,p0 g0 _ _ e0,ae];have K0:g0.get m1.n=.cells [r] 30 none:=b0.cells (d0.cells gb);refine aC oS K0 rfl rfl (by grind) λj1 p1 l0 n0=>?_;have l0:j1.get m1.n=.cells [r'] 30 none:=l0;rw[aQ,ae,wrap64 (by omega) (by omega)];refine⟨i+1,by omega,l',r',rfl,by omega,⟨by grind,λc hc=>by rw[n0 c (by omega),b0.get c (by have:=hx.n;omega),d0.get c (by have:=hx.n;omega),hx.get c hc]⟩,by omega,?_,l0,?_,?_,by grind,λe=>?_⟩;·rw[n0 _ (by omega),b0.get _ (by omega),d0.get _ (by omega),ga]
    ·exact(F0.aF b0).aY λc cs t g hb ht=>by rw[n0 c (by grind),hb]
    ·rw[A0];exact ng.1 hc.2
    rw[e]at A0;exact absurd A0.symm (Ii u _)
   unfold oM at a0;rw[abd hc]at a0;subst a0;rw[aH,aH];simp only[aa8,aa7,ae];refine av λi1 G0 j0 H0=>?_;refine aC oS j0 rfl rfl rfl λg0 I0 e0 J0=>?_;have b0:Ext z0 g0:=⟨by omega,by grind⟩
   rw[aS,ae,aj,show decide ((120:Int)=0)=false from rfl,aO,aQ,ae,wrap64 (by omega) (by omega)];have q0:=d0.trans b0;exact⟨i+1,by omega,l,r,rfl,by omega,hx.trans q0,by grind,q0.cells ga,q0.cells gb,hF.aF q0,hP,by grind,u0⟩
  rw[p0 mm _ _ gb,ae];have or:one r:=hF.sl.one;refine aC oS ga rfl rfl (by show(one r && true)=true;rw[or];rfl) λr0 r1 o0 y0=>?_;have o0:r0.get m.n=.cells [r] 30 none:=o0;rw[p0 r0 _ _ o0,ae]
  have L0:dg r0 l r:=hF.aY λc cs t g hb ht=>by rw[y0 c (by grind),hb]
  have N0:Ext m r0:=⟨by grind,λc hc=>by rw[y0 c (by omega),hx.get c hc]⟩
  by_cases hl:l=[]
  ·have hr:=u0 hl;subst hl;subst hr;exact .inl ⟨rfl,by omega,rfl,.refl,[],_,rfl,s0 m,h0⟩
  refine .inr ⟨.inl ?_,by omega,N0,l,r,rfl,L0,hP⟩;rcases hF.cap with h |⟨bb,o,c,bc,g,rfl,_⟩;·exact absurd h hl
  simp[bC,bB,dG,bF]
 obtain⟨rv,m',b,hc,rfl,h1,l,r,rfl,h2,h3⟩:=key;exact⟨l,r,m',hc,h1,h2,h3⟩
end
section
open Go Go.D Go.ChangeShapes Go.WideShapes Go.ChangeAt Go.RowKit
theorem nu:Tryz.prog.underlying 22=some (.slice 89):=by kernel_rfl
theorem WW:Tryz.prog.underlying 89=some (.array 6 3):=by kernel_rfl
section
variable {H:Type} {enc:TypeId×aeM->H} {W W':World} {sp:Nat->Bool} {held:Bool} {base:Nat}
theorem Gu:∀fuel cs x,DataW.trod enc Tryz.prog W 0 sp held fuel 89 cs=some x->∃y:I6,y.ok/\(∀m,aZ.rep m y cs)/\∀u∈cs,bF u:=by
 intro fuel cs x h
 obtain⟨l,rfl,hl,hr⟩:=Ih WW (by kernel_rfl) h
 match l,hl,hr with
 |[a,b,c,d,e,f],_,hr=>refine⟨⟨a,b,c,d,e,f⟩,⟨hr _ (by simp),hr _ (by simp),hr _ (by simp),hr _ (by simp),hr _ (by simp),hr _ (by simp)⟩,λm=>rfl,λu hu=>?_⟩;obtain⟨z,_,rfl⟩:=abQ.1 hu;rfl
theorem QL{v:aeM}{d:DataW H}{ps:List MemPlace}(hb:Below W.heap.size W W')(h:DataW.Trod enc Tryz.prog W 0 (λ_=>true) true 22 v d ps)(a0:∀x∈ps,x.block < W.heap.size)(sp:Nat->Bool)(hs:∀x∈ps,sp x.block):DataW.Trod enc Tryz.prog W' 0 sp true 22 v d ps:=
 WideElems.Trod_stays laidOut (by kernel_rfl) (aba (by kernel_rfl)) h (λx hx=>hb.same (a0 x hx)) hs
end
end
section
section
variable {X:aK}{x0 x1 x2 x3:aeM}{m:M}{R:aeN->M->Nat->Prop}
theorem ZQ:eL TE (aL TE X) f195 [x0,x1] m R=ρ m x0 141 λa=>ρ a x1 141 λb=>ε 141 (υ m) 0 λc=>δ b 3 c λc=>ε 141 (υ a) 0 λd=>δ b 3 d λd=>χ X 59 [c,d] b λc d f=>(b.n<=f)/\(ε 141 (υ m) 1 λb=>δ d 3 b λb=>ε 141 (υ a) 1 λa=>δ d 3 a λa=>χ X 59 [b,a] d λa b d=>ν b 26 2 [(0,c),(1,a)] λa b=>χ X 80 [a] b λa b c=>R [a] b (ω m.n f d c)):=by kernel_rfl
theorem ZR:eL TE (aL TE X) f194 [x0,x1,x2,x3] m R=ρ m x0 141 λa=>ρ a x1 141 λb=>ρ b x2 141 λc=>ρ c x3 141 λd=>ς d [φ 0,φ 0] 141 λf=>ς f [φ 0,φ 0] 141 λg=>δ g 141 (υ m) λh=>δ g 141 (υ a) λa=>ν g 58 2 [(0,h),(1,a)] λa g=>δ g 141 (υ b) λb=>δ g 141 (υ c) λc=>ν g 58 2 [(0,b),(1,c)] λb c=>χ X 233 [a,.func (.func 195) #[] #[]] c λ_ c g=>χ X 233 [b,.func (.func 195) #[] #[]] c λ_ c h=>ζ 58 a (φ 0) λi=>δ c 141 i λi=>ζ 58 b (φ 0) λj=>δ c 141 j λj=>ν c 58 2 [(0,i),(1,j)] λc i=>χ X 234 [c,.func (.func 195) #[] #[]] i λc j k=>(i.n<=k)/\(ζ 58 a (φ 1) λa=>δ j 141 a λa=>ζ 58 b (φ 1) λb=>δ j 141 b λb=>ν j 58 2 [(0,a),(1,b)] λa b=>χ X 235 [a,.func (.func 195) #[] #[]] b λa b i=>ι b 141 (υ d) c λb c=>ι b 141 (υ f) a λa b=>ai (ah TE a 141 (υ d)) λd=>ai (ah TE a 141 (υ f)) λf=>R [d,f] a (Θ m.n g h k i c b)):=by kernel_rfl
theorem Zw:eL TE (aL TE X) f234 [x0,x1] m R=ς m [φ 0,φ 0] 141 λa=>κ a .len [58] [x0] λb _=>η .lss 3 b (φ 1) λb=>aR b False (ζ 58 x0 (φ 0) λb=>δ a 141 b λb=>ς a [φ 0,φ 0] 141 λc=>ι c 141 (υ a) b λb c=>Lp (λb c d f=>un c λc _=>κ d .len [58] [x0] λg _=>η .lss 3 c g λg=>aR g (ζ 58 x0 c λg=>δ d 141 g λg=>δ d 141 (υ a) λh=>ia x1 λi j k=>bh TE X i (j.toList++([g,h]++k.toList)) d λd g h=>η .gtr 3 d (φ 0) λd=>aR d (ζ 58 x0 c λd=>δ g 141 d λd=>ι g 141 (υ a) d λa d=>η .add 3 c (φ 1) λc=>b [c] a (ψ f h d)) (η .add 3 c (φ 1) λa=>b [a] g (min f h))) (δ d 141 (υ a) λa=>ι d 141 (υ m) a λa b=>ai (ah TE a 141 (υ m)) λc=>R [c] a (min f b))) [φ 1] b (min m.n c)):=by kernel_rfl
theorem Zv:eL TE (aL TE X) f235 [x0,x1] m R=ς m [φ 0,φ 0] 141 λa=>κ a .len [58] [x0] λb _=>η .lss 3 b (φ 1) λb=>aR b False (ζ 58 x0 (φ 0) λb=>δ a 141 b λb=>ς a [φ 0,φ 0] 141 λc=>ι c 141 (υ a) b λb c=>Lp (λb c d f=>un c λc _=>κ d .len [58] [x0] λg _=>η .lss 3 c g λg=>aR g (ζ 58 x0 c λg=>δ d 141 g λg=>δ d 141 (υ a) λh=>ia x1 λi j k=>bh TE X i (j.toList++([g,h]++k.toList)) d λd g h=>η .lss 3 d (φ 0) λd=>aR d (ζ 58 x0 c λd=>δ g 141 d λd=>ι g 141 (υ a) d λa d=>η .add 3 c (φ 1) λc=>b [c] a (ψ f h d)) (η .add 3 c (φ 1) λa=>b [a] g (min f h))) (δ d 141 (υ a) λa=>ι d 141 (υ m) a λa b=>ai (ah TE a 141 (υ m)) λc=>R [c] a (min f b))) [φ 1] b (min m.n c)):=by kernel_rfl
theorem F80:eL TE (aL TE X) f80 [x0] m R=κ m .len [26] [x0] λa _=>Lp (λb c d f=>un c λc g=>un g λg _=>η .lss 3 g a λa=>aR a (ζ 26 x0 g λa=>δ d 3 a λa=>η .neq 3 a (φ 0) λh=>aR h (R [a] d f) (η .add 3 g (φ 1) λa=>b [c,a] d f)) (R [φ 0] d f)) [φ 0,φ 0] m m.n:=by kernel_rfl
theorem aaj:eL TE (aL TE X) f149 [x0,x1] m R=ρ m x1 58 λa=>ς a [φ 0,φ 0,φ 0,φ 0] 143 λb=>ς b [aeS] 4 λc=>jn (λa=>χ X 170 [x0] c λb c d=>ο .not b λb=>aR b (a [aeR] c (min m.n d)) (δ c 58 (υ m) λb=>χ X 170 [b] c λb c f=>ο .not b λb=>aR b (a [aeR] c (ψ m.n d f)) (δ c 58 (υ m) λb=>χ X 191 [x0,b] c λb c g=>a [b] c (ω m.n d f g)))) (λc d f=>un c λc _=>aR c (θ 143 [] λc=>ι d 143 (υ a) c λc d=>ι c 4 (υ b) aeS λc g=>ai (ah TE c 143 (υ a)) λa=>ai (ah TE c 4 (υ b)) λb=>R [a,b] c (ψ f d g)) (χ X 192 [x0] d λc d g=>ia c λc h i=>RF TE X c h.toList i.toList d (min f g) (λc f g=>un c λc h=>un h λh i=>IW i (ς f [φ 0,φ 0] 141 λi=>ι i 141 (υ f) c λc i=>ς c [φ 0,φ 0] 141 λj=>ι j 141 (υ c) h λh j=>Q8 d.n f h λh=>δ h 58 (υ m) λk=>χ X 192 [k] h λk l n=>ia k λk o p=>RF TE X k o.toList p.toList l (Γ f.n i j d.n n) (λd g h=>un d λd i=>un i λi j=>IW j (ς g [φ 0,φ 0] 141 λj=>ι j 141 (υ g) d λd j=>ς d [φ 0,φ 0] 141 λk=>ι k 141 (υ d) i λi k=>Q8 l.n g i λi=>jn (λa=>δ i 141 (υ f) λb=>δ i 141 (υ c) λh=>δ i 141 (υ g) λn=>χ X 193 [b,h,n] i λb h i=>η .neq 3 b (φ 0) λb=>aR b (a [aeR] h (Γ g.n j k l.n i)) (δ h 141 (υ f) λb=>δ h 141 (υ c) λc=>δ h 141 (υ d) λd=>χ X 193 [b,c,d] h λb c d=>η .neq 3 b (φ 0) λb=>a [b] c (Δ g.n j k l.n i d))) (λj k l=>un j λj _=>aR j (h i .normal k l) (δ k 141 (υ f) λj=>δ k 141 (υ c) λn=>δ k 141 (υ g) λg=>δ k 141 (υ d) λd=>χ X 194 [j,n,g,d] k λd g j=>ξ d 0 λk=>ξ d 1 λd=>ς g [φ 0,φ 0] 141 λn=>ς n [φ 0,φ 0] 141 λo=>ι o 141 (υ g) k λk o=>ι k 141 (υ n) d λd k=>jn (λa=>δ d 141 (υ g) λb=>δ d 141 (υ n) λc=>η .eql 141 b c λb=>aR b (a [aeR] d (ω l j o k)) (δ d 141 (υ g) λb=>δ d 141 (υ n) λc=>χ X 195 [b,c] d λb c d=>η .gtr 3 b (φ 0) λb=>a [b] c (Γ l j o k d))) (λd j k=>un d λd _=>aR d (h i .normal j k) (δ j 141 (υ f) λd=>δ j 141 (υ c) λc=>χ X 195 [d,c] j λc d f=>η .gtr 3 c (φ 0) λc=>aR c (δ d 141 (υ n) λc=>δ d 141 (υ g) λj=>ι d 141 (υ g) c λc d=>ι c 141 (υ n) j λc j=>δ c 141 (υ g) λg=>δ c 141 (υ n) λl=>θ 143 [(0,g),(1,l)] λg=>ι c 143 (υ a) g λa c=>ι a 4 (υ b) aeR λa b=>h i .ret a (Δ k f d j c b)) (δ d 141 (υ g) λc=>δ d 141 (υ n) λg=>θ 143 [(0,c),(1,g)] λc=>ι d 143 (υ a) c λa c=>ι a 4 (υ b) aeR λa b=>h i .ret a (ω k f c b)))))))) (λa b=>g h .normal a b) [(.ret,λa b=>g h .ret a b)])) (λc d=>θ 143 [] λf=>ι c 143 (υ a) f λc f=>ι c 4 (υ b) aeS λc g=>ai (ah TE c 143 (υ a)) λa=>ai (ah TE c 4 (υ b)) λb=>R [a,b] c (ψ d f g)) [(.ret,λc d=>ai (ah TE c 143 (υ a)) λa=>ai (ah TE c 4 (υ b)) λb=>R [a,b] c d)])):=by kernel_rfl
end
end
section
variable {X:aK} {m:M}
theorem cn.lt{us:List Un}(h:cn us):∀(d i:Nat) (a b:Un),us[i]?=some a->us[i+d+1]?=some b->a.id < b.id
 |0,i,a,b,ha,hb=>h.xN i a b ha hb
 |d+1,i,a,b,ha,hb=>by
  obtain⟨c,hc⟩:∃c,us[i+d+1]?=some c:=⟨_,aa5 (by grind)⟩
  have h1:=h.lt d i a c ha hc
  have h2:=h.xN (i+d+1) c b hc (by grind)
  omega
theorem cn.S0{us:List Un}(h:cn us){i k:Nat}{a b:Un}(a0:i < k)(ha:us[i]?=some a)(hb:us[k]?=some b):a.id < b.id:=
 h.lt (k-i-1) i a b ha (by grind)
theorem IG(hX:cC X)(u:Un)(w:aeM)(id:Int):C X (.func 238) [u.v w,aeP id] m m.n (aeP (dt u.id id)) m:=by refine Cl.flat (hX.no _ rfl) (aa3 func238) rfl rfl ?_;rw[Zs];dsimp only[δ,ε,ρ,υ,χ];refine av λm1 b0 a0 d0=>?_;simp only[aT]at a0;have a0:m1.get m.n=.cells (u.c w) 60 none:=a0;have⟨l0,_⟩:=kU a0;unfold ptrTo;rw[bs,ae,l0,ae];refine aE (eo hX _ _) ?_;exact⟨rfl,by omega⟩
theorem W5{a:Int}:az TE .shr 159 (.int .u64 a) (.int .u64 1)=some (.int .u64 (a.fdiv 2)):=by kernel_rfl
theorem W6{n:Nat}:az TE .shr 159 (.int .u64 (n:Int)) (.int .u64 1)=some (.int .u64 ((n/2:Nat):Int)):=by rw[W5,Int.fdiv_eq_ediv_of_nonneg _ (by omega)];rfl
theorem WT{n:Nat}(h:n < 1000):IntKind.wrap .u64 (n:Int)=n:=by
 have e:IntKind.u64.wrap (n:Int)=(n:Int)%18446744073709551616:=by unfold IntKind.wrap;simp[IntKind.bits,IntKind.signed]
 grind
theorem JL(hX:cC X){l:List UW}{v:aeM}(h:Sl m l v)(hP:cn (bP l))(id:Int):
  ∃(i:Nat) (is:Bool),C X (.func 237) [v,aeP id,.func (.func 238) #[] #[]] m m.n (.tuple #[aeP i,.bool is]) m/\(is->∃x,l[i]?=some x/\x.u.id=id)/\(is=false->∀x∈l,x.u.id≠id):=by
 have hl:l.length<=12:=by have:=hP.len;rwa[cS]at this
 have key:∃rv m' b,C X (.func 237) [v,aeP id,.func (.func 238) #[] #[]] m b rv m'/\(m'=m/\b=m.n/\∃(i:Nat) (is:Bool),rv=.tuple #[aeP i,.bool is]/\(is->∃x,l[i]?=some x/\x.u.id=id)/\(is=false->∀x∈l,x.u.id≠id)):=by
  refine Cl.gen (R:=λrv m' b=>m'=m/\b=m.n/\∃(i:Nat) (is:Bool),rv=.tuple #[aeP i,.bool is]/\(is->∃x,l[i]?=some x/\x.u.id=id)/\(is=false->∀x∈l,x.u.id≠id)) (hX.no _ rfl) (aa3 func237) rfl ?_;rw[Zt];dsimp only[δ,ζ,η,κ,φ];rw[h.len dF,aA];refine Lp.intro (γ:=Nat×Nat) (λs=>s.2-s.1) (λs vs mm lo=>vs=[aeP s.1,aeP s.2]/\s.1<=s.2/\s.2<=l.length/\m=mm/\m.n<=lo/\(∀k x,k < s.1->l[k]?=some x->x.u.id < id)/\∀k x,s.2<=k->l[k]?=some x->id<=x.u.id) (0,l.length) ⟨rfl,abh _,aa4 _,rfl,aa4 _,λk x hk=>by omega,by grind⟩ ?_;rintro⟨i,j⟩ vs mm lo ⟨rfl,l0,hj,rfl,n0,d0,b0⟩;dsimp only at l0 hj d0 b0⊢;rw[aB,aB,aM,ae,aj];refine ak (λa0=>?_) (λg0=>?_)
  ·have a0:i < j:=by grind
   obtain⟨x,hx⟩:∃x,l[(i+j)/2]?=some x:=⟨_,aa5 (by omega)⟩
   have⟨a,e1,e2,_⟩:=h.gj (k:=.i64) hx;have h0:=ja hx;rw[aQ,ae,wrap64 (by omega) (by omega),show(i:Int)+(j:Int)=((i+j:Nat):Int) by omega,Gz,WT (by omega),ae,W6,ae,GA,wrap64 (by omega) (by omega),ae,e1,ae,e2,ae,cf];refine aE (IG hX x.u x.w id) ?_;rw[aM,ae,aj];have e0:∀k y,l[k]?=some y->(k < (i+j)/2->y.u.id < x.u.id)/\((i+j)/2 < k->x.u.id < y.u.id):=λk y hk=>⟨λa0=>hP.S0 a0 (ja hk) h0,λa0=>hP.S0 a0 h0 (ja hk)⟩
   refine ak (λhc=>?_) (λhc=>?_)
   ·have hc:x.u.id < id:=by
     unfold dt at hc;by_cases h1:x.u.id < id;·exact h1
     rw[abd h1]at hc;split at hc <;>simp at hc
    rw[aQ,ae,wrap64 (by omega) (by omega)];refine⟨((i+j)/2+1,j),by grind,by grind,by grind,hj,rfl,by omega,λk y hk hy=>?_,b0⟩;by_cases e:k=(i+j)/2;·subst e;rw[hx]at hy;cases hy;exact hc
    have:=(e0 k y hy).1 (by grind);omega
   have hc:id<=x.u.id:=by
    unfold dt at hc;by_cases h1:x.u.id < id;·rw[abe h1]at hc;simp at hc
    omega
   refine⟨(i,(i+j)/2),by grind,rfl,by grind,by grind,rfl,by omega,d0,λk y hk hy=>?_⟩;by_cases e:k=(i+j)/2;·subst e;rw[hx]at hy;cases hy;exact hc
   have:=(e0 k y hy).2 (by grind);omega
  have i0:i=j:=by
   have:¬(i:Int)< (j:Int):=by grind
   omega
  subst i0;refine aW (λvs m' j0=>∃is,vs=[aeP i,.bool is]/\m=m'/\m.n<=j0/\(is->∃x,l[i]?=some x/\x.u.id=id)/\(is=false->∀x∈l,x.u.id≠id)) (λR hR=>?_) ?_
  ·rw[aM,ae,aj];refine ak (λa0=>?_) (λg0=>?_)
   ·have a0:i < l.length:=by grind
    obtain⟨x,hx⟩:∃x,l[i]?=some x:=⟨_,aa5 a0⟩
    have⟨a,e1,e2,_⟩:=h.gj (k:=.i64) hx;rw[e1,ae,e2,ae,cf];refine aE (IG hX x.u x.w id) ?_;rw[aS,ae];refine hR _ _ _ ⟨_,rfl,rfl,by omega,λhe=>⟨x,hx,?_⟩,λhe y hy o0=>?_⟩
    ·have he:dt x.u.id id=0:=by grind
     unfold dt at he;by_cases h1:x.u.id < id;·rw[abe h1]at he;omega
     rw[abd h1]at he;by_cases h2:id < x.u.id;·rw[abe h2]at he;omega
     omega
    have he:¬dt x.u.id id=0:=by grind
    have⟨k,hk⟩:=abx hy;by_cases e:k=i
    ·subst e;rw[hx]at hk;cases hk;apply he;unfold dt;rw[abd (by omega),abd (by omega)]
    by_cases e2:k < i;·have:=d0 k y e2 hk;omega
    have:=b0 i x (aa4 _) hx;have:=hP.S0 (show i < k by omega) (ja hx) (ja hk);omega
   have g0:l.length<=i:=by
    have:¬(i:Int)< (l.length:Int):=by grind
    omega
   refine hR _ _ _ ⟨false,rfl,rfl,n0,λh=>(by cases h),λ_ y hy o0=>?_⟩;have⟨k,hk⟩:=abx hy;have:=d0 k y (by grind) hk;omega
  rintro _ _ j0 ⟨is,rfl,rfl,k0,h1,h2⟩;rw[aB,aB];exact .inl ⟨rfl,k0,rfl,rfl,i,is,rfl,h1,h2⟩
 obtain⟨rv,m',b,hc,rfl,rfl,i,is,rfl,h1,h2⟩:=key;exact⟨i,is,hc,h1,h2⟩
end
section
variable {X:aK} {m:M}
theorem Hl{u:Un}(h:jO u):bJ u.shape:=by
 simp only[jO,abc]at h
 grind
def cj(us:List Un)(id:Int):Option Un:=us.find? λu=>decide (u.id=id)
theorem pK{us:List Un}(hP:cn us){i:Nat}{a:Un}(h:us[i]?=some a):cj us a.id=some a:=by
 unfold cj
 cases e:us.find? λu=>decide (u.id=a.id)with
 |none=>
  grind
 |some b=>
  have h1:=adO e;have h1:b.id=a.id:=by grind
  have⟨k,hk⟩:=abx (acV e);rcases adn i k with a0 |rfl |a0;·have:=hP.S0 a0 h hk;omega
  ·grind
  have:=hP.S0 a0 hk h;omega
theorem rV{us:List Un}{id:Int}(h:∀u∈us,u.id≠id):cj us id=none:=by
 unfold cj
 grind
theorem gd{us:List Un}{id:Int}{u:Un}(h:cj us id=some u):u∈us/\u.id=id:=by
 unfold cj at h
 grind
theorem PA(hX:cC X){l:List UW}{v:aeM}(h:dg m l v)(hP:cn (bP l))(id:Int):
  ∃ov m',C X (.func 198) [.agg #[v],aeP id] m m.n (.tuple #[ov,.bool (cj (bP l) id).isSome]) m'/\Ext m m'/\Sv m' (cj (bP l) id) ov/\(∀u,cj (bP l) id=some u->∃w,ov=u.v w/\Ow m.n m' u.shape w):=by
 have hl:l.length<=12:=by have:=hP.len;rwa[cS]at this
 have key:∃rv m' b,C X (.func 198) [.agg #[v],aeP id] m b rv m'/\b=m.n/\∃ov,rv=.tuple #[ov,.bool (cj (bP l) id).isSome]/\Ext m m'/\Sv m' (cj (bP l) id) ov/\(∀u,cj (bP l) id=some u->∃w,ov=u.v w/\Ow m.n m' u.shape w):=by
  refine Cl.gen (R:=λrv m' b=>b=m.n/\∃ov,rv=.tuple #[ov,.bool (cj (bP l) id).isSome]/\Ext m m'/\Sv m' (cj (bP l) id) ov/\(∀u,cj (bP l) id=some u->∃w,ov=u.v w/\Ow m.n m' u.shape w)) (hX.no _ rfl) (aa3 func198) rfl ?_;rw[ZN];dsimp only[δ,ε,ζ,θ,ι,ξ,ο,ρ,ς,υ,φ,χ,Θ,ψ,ω];refine av λm1 i1 E0 j1=>?_;refine av λm2 k1 s0 F0=>?_;have u0:Ext m m2:=⟨by omega,by grind⟩
  have g1:m2.get m.n=.cells [v] 30 none:=by rw[F0 _ (by omega)];exact E0
  have hF:=h.aF u0;unfold ptrTo;rw[ez,aN g1 (by simp)];simp only[abU,acf,acF,abi,ae];refine aE (AU hX hF (by omega)) ?_;rw[fH hP,bj,ae,aj,ab7,aO,bO,ae,eO,aI g1];simp only[abV,aa8,ae];have⟨i,is,hc,v0,G0⟩:=JL (m:=m2) hX hF.sl hP id;refine aE hc ?_;rw[aH,aH];simp only[aa8,aa7,ae];rw[bj,ae,aj];refine ak (λhb=>?_) (λhb=>?_)
  ·have o0:is=false:=by grind
   have e:cj (bP l) id=none:=rV λu hu=>by obtain⟨x,hx,rfl⟩:=By hu;exact G0 o0 x hx
   rw[e];have H0:aJ TE 60 []=some (.agg Un.zc.toArray):=ni;rw[H0,ae];refine aC du s0 rfl rfl rfl λm9 l1 I0 o1=>?_;rw[qB,aN I0 (by simp[aT])];refine .inl ⟨by kernel_rfl,by omega,trivial,_,rfl,.refl,rfl,λu h=>by cases h⟩
  have o0:is:=by grind
  obtain⟨x,hx,rfl⟩:=v0 o0;rw[pK hP (ja hx)];have⟨a,e1,e2,y0⟩:=hF.sl.gj (k:=.i64) hx;have z0:=abb hx;have hv:=(Hl (hP.val x.u (abQ.2 ⟨x,z0,rfl⟩)))
  have A0:=eR hv;have J0:ah TE m2 28 (aeK m.n 0)=some v:=by rw[eO,aI g1];rfl
  rw[J0,ae,e1,ae,e2,ae];refine av λp1 O0 B0 Q0=>?_;refine aC du B0 rfl rfl (Un.cR y0) λp0 a1 d0 b1=>?_;have d0:p0.get m2.n=.cells x.c 60 none:=d0;have g0:Ext m2 p0:=⟨by omega,by grind⟩
  obtain⟨-, -, -,l3, -, -⟩:=kU d0;rw[bH,ae,l3,ae];obtain⟨w',K0,C0,a0,e0⟩:=GD (m:=p0) hX ((hF.sh x z0).aF g0) (by grind) (by omega);refine aE C0 ?_;have n34:=e0.n;have o7:one w':=a0.sl.one;have q0:=e0.cells d0;rw[ae];refine cg Dr q0 (by rw[a0.sl.cells];rfl) (by rw[a0.sl.cells];show 3+1<=6;omega) (by rw[a0.sl.cells];simp[o7]) λD0 c1 i0 b0=>?_;have i0:D0.get m2.n=.cells (x.u.c w') 60 none:=by rw[i0,a0.sl.cells];rfl
  rw[bT i0,ae];have j0:D0.get m1.n=.cells Un.zc 60 none:=by rw[b0 _ (by omega),e0.get _ (by omega),g0.get _ (by omega),s0]
  refine aC du j0 rfl rfl (Un.cR o7) λk0 d1 l0 n0=>?_;have l0:k0.get m1.n=.cells (x.u.c w') 60 none:=l0;rw[bT l0,ae]
  have L0:Sl k0 x.u.shape w':=a0.sl.aY λb c t g hb ht=>by
   have h1:b≠m2.n:=λe=>by subst e;rw[q0]at hb;cases hb;simp[aZ.ty,aZ.eB]at ht
   rw[n0 b (λe=>by subst e;rw[<-b0 _ h1,j0]at hb;cases hb;simp[aZ.ty,aZ.eB]at ht),b0 b h1,hb]
  have r0:∀b c t g,K0.get b=.cells c t g->t∈aZ.ty Pl::aZ.eB Pl->k0.get b=.cells c t g:=λb c t g hb ht=>by
   have h1:b≠m2.n:=λe=>by subst e;rw[q0]at hb;cases hb;simp[aZ.ty,aZ.eB]at ht
   rw[n0 b (λe=>by subst e;rw[<-b0 _ h1,j0]at hb;cases hb;simp[aZ.ty,aZ.eB]at ht),b0 b h1,hb]
  have r1:Ow m.n k0 x.u.shape w':=(a0.mono (by grind)).aY r0;have N0:Ext m k0:=⟨by grind,λc hc=>by rw[n0 c (by omega),b0 c (by omega),e0.get c (by grind),g0.get c (by omega),u0.get c hc]⟩
  rcases a0 with⟨_,h0⟩ |⟨b,cs,rfl,_⟩;·rw[h0]at A0;simp at A0
  exact .inr ⟨.inl (by simp[bC,bB,dG,bF]),by omega,_,rfl,N0,⟨_,rfl,L0⟩,by grind⟩
 obtain⟨rv,m',b,hc,rfl,ov,rfl,h1,h2,h3⟩:=key;exact⟨ov,m',hc,h1,h2,h3⟩
theorem R1(hX:cC X){l:List UW}{v:aeM}(h:dg m l v)(hP:cn (bP l))(id:Int):
  ∃ov m',C X (.func 198) [.agg #[v],aeP id] m m.n (.tuple #[ov,.bool (cj (bP l) id).isSome]) m'/\Ext m m'/\Sv m' (cj (bP l) id) ov:=by
 obtain⟨ov,m',h1,h2,h3, -⟩:=PA hX h hP id
 grind
end
section
open Go Go.D Go.uk
theorem cn.pair{us:List Un}(h:cn us):us.Pairwise (λa b=>a.id < b.id):=by rw[abF];intro i j hi hj a0;exact h.S0 a0 (aa5 hi) (aa5 hj)
theorem cn.find{us:List Un}(h:cn us){u:Un}(hu:u∈us):cj us u.id=some u:=by have⟨i,hi⟩:=abx hu;exact pK h hi
theorem cn.id0{us:List Un}(h:cn us){u:Un}(hu:u∈us):0<=u.id/\u.id<=99:=by have:=h.val u hu;simp only[jO,cQ,abc,abv]at this;omega
end
section
variable {X:aK} {m:M}
section
variable {α:Type} [aZ α] {T:TypeId} {ti:TI}
theorem iD{x:α}{cs:aeN}{b:Nat}{g:Option Nat}(h:m.get b=.cells cs (aZ.ty α) g)(hr:aZ.rep m x cs):Sl m [x] (aeL b 0 1 1):=
 .inr ⟨b,0,1,_,g,rfl,h,by rw[aZ.len hr];simp,λi y hi=>by
  match i with
  |0=>
   cases hi
   have hl:=aZ.len hr
   grind
  |i+1=>cases hi⟩
theorem Er{m m1:M}{e k sl sc a0:Nat}{base:Option Addr}{news:aeN}{v':aeM}(h:lZ m e k base sl sc a0 news=some (v',m1)):v'=aeL m.n 0 a0 a0:=by
 unfold lZ at h
 grind
theorem iU{E:Env}{m m1:M}{T U:TypeId}{sl sc n:Nat}{base:Option Addr}{x v':aeM}(h:aw E (m.wl m.n) .append [T,U] [.slice base sl sc,x]=some (v',m1))(hn:lY x=some n)(d0:sc < sl+n):
  v'=aeL m.n 0 (sl+n) (sl+n):=by
 have h:eA E (m.wl m.n) T U (.slice base sl sc) x=some (v',m1):=h;unfold eA at h;rw[hn]at h;split at h
 ·rename_i ti ui a0 e0 g0 n' _ _ hs b0;cases hs;cases b0;split at h;·cases h
  ·rename_i e _ _
   cases h1:E.ty.get e with
   |none=>simp only[h1]at h;cases h
   |some ei=>
    cases h2:first? (m.wl m.n) ti.es n x with
    |none=>simp only[h1,h2]at h;cases h
    |some news=>
     simp only[h1,h2]at h
     cases h3:(Nat.beq ti.es 0 ||Nat.blt 65536 ei.bytes || !news.all one ||Nat.blt 268435456 (sl+n) || !Nat.beq news.length (n*ti.es) || !gV ei.zero ti.es)with
     |true=>rw[h3,cond_true]at h;cases h
     |false=>
      rw[h3,abm]at h
      have h4:Nat.ble (sl+n) sc=false:=by
       cases hb:Nat.ble (sl+n) sc with
       |false=>rfl
       |true=>have:=abB hb;omega
      rw[h4,abm]at h;exact(Er h).trans rfl
  cases h
 cases h
theorem BT(hT:ur TE T α)(j0:aZ.eB α=[])(t1:TE.ty.get T=some ti)(t2:ti.size=1){n1 oc o:Nat}{cs:aeN}{tc:TypeId}{g:Option Nat}{r a:aeM}{x:α}{m1:M}{acc:List α}
  (hc:m.get oc=.cells cs tc g) (ho:cs[o]?=some r) (k0:oc < n1) (hn:n1<=m.n) (hw:Ow n1 m acc r) (hx:Ext m m1) (hs:Sl m1 [x] a) (o0:acc.length < 1000000):
  ∃r' m2 m3,((∃k,r'=aeL m1.n 0 k k)/\∀c,c < m1.n->c≠oc->(∀ad n k,r=.slice (some ad) n k->c≠ad.block)->m3.get c=m1.get c)/\aw TE (M.wl m1 (M.n m1)) .append [T,T] [r,a]=some (r',m2)/\aD TE m2 T (aeK oc o) r'=some (m3,oc)/\n1<=m2.low/\m3.get oc=.cells (cs.set o r') tc g/\Ow n1 m3 (acc++ [x]) r'/\m1.n<=m3.n/\(∀c,c < n1->c≠oc->m3.get c=m.get c)/\(∀c,c < m1.n->c≠oc->(∀cs g,m1.get c≠.cells cs (aZ.ty α) g)->m3.get c=m1.get c):=by
 have p0:=M.bk hc;have q0:=hx.n;have d0:=hw.aF hx;obtain⟨r',m2,e1,h1,h2,h3,h4⟩:=d0.append hT (by grind) hs (by omega) (by grind);have r0:=h2.n;have g2:m2.get oc=.cells cs tc g:=by rw[h2.get _ k0,hx.cells hc]
 have e0:o < cs.length:=(aa9.1 ho).1;have g0:=sG (E:=TE) (o:=o) (x:=r') t1 g2 (by rw[h1.sl.cells,t2];rfl) (by rw[h1.sl.cells];simp;omega) (by rw[h1.sl.cells];simp[h1.sl.one])
 have h0:cs.take o++(cells r'++cs.drop (o+(cells r').length))=cs.set o r':=by rw[h1.sl.cells];exact kG e0
 rw[h0]at g0;have hk:∀c,c≠oc->(m2.set oc (.cells (cs.set o r') tc g)).get c=m2.get c:=λc hc=>M.dP hc
 have l0:∃k,r'=aeL m1.n 0 k k:=by
  obtain⟨ba,bc,rfl⟩:=hs.form;rcases hw with⟨rfl,_⟩ |⟨b,n0,rfl,_⟩;·exact⟨_,iU e1 rfl (by simp)⟩
  exact⟨_,iU e1 rfl (by simp)⟩
 refine⟨r',m2,_,⟨l0,λc a0 b0 i0=>by rw[hk c b0,fx e1 a0 i0]⟩,e1,g0,h3,M.eK (M.bk g2),h1.tH j0 λc a0 b0=>hk c (by omega),?_,λc a0 b0=>?_,λc a0 b0 i0=>?_⟩
 ·show m1.n<=m2.n
  grind
 ·rw[hk c b0,h2.get c a0,hx.get c (by omega)]
 ·rw[hk c b0,fx e1 a0 λad n k e he=>?_]
  have⟨n0,g',s0,_⟩:=pz d0 e
  grind
theorem SM(hT:ur TE T α)(a0:aZ.eB α=[])(t1:TE.ty.get T=some ti)(t2:ti.size=1){n1 oc o:Nat}{cs:aeN}{tc:TypeId}{g:Option Nat}{r a:aeM}{x:α}{m1:M}{acc:List α}
  (hc:m.get oc=.cells cs tc g) (ho:cs[o]?=some r) (b0:oc < n1) (hn:n1<=m.n) (hw:Ow n1 m acc r) (hx:Ext m m1) (hs:Sl m1 [x] a) (d0:acc.length < 1000000):
  ∃r' m2 m3,aw TE (M.wl m1 (M.n m1)) .append [T,T] [r,a]=some (r',m2)/\aD TE m2 T (aeK oc o) r'=some (m3,oc)/\n1<=m2.low/\m3.get oc=.cells (cs.set o r') tc g/\Ow n1 m3 (acc++ [x]) r'/\m1.n<=m3.n/\(∀c,c < n1->c≠oc->m3.get c=m.get c)/\(∀c,c < m1.n->c≠oc->(∀cs g,m1.get c≠.cells cs (aZ.ty α) g)->m3.get c=m1.get c):=by
 have⟨r',m2,m3,_,h⟩:=BT hT a0 t1 t2 hc ho b0 hn hw hx hs d0
 grind
end
structure Fc where
 un:Int
 side:Int
deriving DecidableEq
abbrev Fc.c(f:Fc):aeN:=[.int .i64 f.un,.int .i64 f.side]
abbrev Fc.v(f:Fc):aeM:=.agg (f.c).toArray
instance:aZ Fc where
 ty:=53
 sz:=2
 agg:=true
 eB:=[]
 rep _ f cs:=cs=f.c
 pos:=by decide
 one:=by grind
 len:=by grind
 fB:=by rintro _ _ _ rfl;rfl
 aY:=by grind
theorem gH:oP TE 35 53 Fc:=⟨ag.t35,ag.t53,by kernel_rfl,⟨_,rfl⟩,rfl,by kernel_rfl,rfl,rfl⟩
theorem Hb:ur TE 35 Fc:=⟨ag.t35,ag.t53,by kernel_rfl,rfl,rfl,by kernel_rfl,by decide,rfl⟩
end
section
def tm(p q:Pl):Int:=if dt p.x q.x=0 then dt p.y q.y else dt p.x q.x
def fS(p q:Pl):Pl:=if tm q p < 0 then q else p
def yS(p q:Pl):Pl:=if tm q p < 0 then p else q
def Eb(p q:Pl):Pl:=if 0 < tm q p then q else p
def DZ(p q:Pl):Pl:=if tm q p < 0 then q else p
def oy(p q r s:Pl):Pl:=Eb (fS p q) (fS r s)
def Ly(p q r s:Pl):Pl:=DZ (yS p q) (yS r s)
def LC(l:List Pl)(i:Nat):Pl:=gA l ((i+1)%l.length)
theorem CS{l:List Pl}{i:Nat}{p:Pl}(h:l[i]?=some p):gA l i=p:=by unfold gA;rw[h];rfl
theorem IN{l:List Pl}{i:Nat}(h:i < l.length):l[i]?=some (gA l i):=by unfold gA;rw[aa5 h];rfl
theorem Re{l:List Pl}{i:Nat}(h:i < l.length):l[(i+1)%l.length]?=some (LC l i):=IN (acQ _ (by omega))
def sK(p q r s:Pl):Option (Pl×Pl):=
 if di p q r≠0\/di p q s≠0 then none
 else if oy p q r s=Ly p q r s\/0 < tm (oy p q r s) (Ly p q r s)then none
 else if 0 < tm p q then some (Ly p q r s,oy p q r s)else some (oy p q r s,Ly p q r s)
def Hu(a b:List Pl)(i:Nat):Option (Pl×Pl):=(List.range b.length).findSome? λk=>sK (gA a i) (LC a i) (gA b k) (LC b k)
def yl(a b:List Pl):Option (Pl×Pl):=(List.range a.length).findSome? λi=>Hu a b i
def mO(a b:List Pl):Option (Pl×Pl):=if bJ a && bJ b && !fA a b then yl a b else none
structure Ct where
 a:Int
 b:Int
 p:Pl
 q:Pl
 back:Int
 front:Int
deriving DecidableEq
def jP(u v:Un):Option Ct:=if ke u v then(mO u.shape v.shape).map λs=>⟨u.id,v.id,s.1,s.2,max u.back v.back,min u.front v.front⟩else none
end
section
section
variable (us:List Un) (cts:List Ct) (u:Un)
end
section
variable {us:List Un} {cts:List Ct} {u v:Un}
end
end
section
variable {X:aK} {m:M}
abbrev Ct.c'(x:Ct):aeN:=[.int .i64 x.a,.int .i64 x.b,.int .i64 x.p.x,.int .i64 x.p.y,.int .i64 x.q.x,.int .i64 x.q.y,.int .i64 x.back,.int .i64 x.front]
abbrev Ct.v(x:Ct):aeM:=.agg (x.c').toArray
abbrev Ct.zc:aeN:=[.int .i64 0,.int .i64 0,.int .i64 0,.int .i64 0,.int .i64 0,.int .i64 0,.int .i64 0,.int .i64 0]
instance:aZ Ct where
 ty:=145
 sz:=8
 agg:=true
 eB:=[]
 rep _ x cs:=cs=x.c'
 pos:=by decide
 one:=by grind
 len:=by simp_all
 fB:=by rintro _ _ _ rfl;rfl
 aY:=by grind
theorem Fx:oP TE 138 145 Ct:=⟨ag.t138,ag.t145,by kernel_rfl,⟨_,rfl⟩,rfl,by kernel_rfl,rfl,rfl⟩
theorem Hc:ur TE 138 Ct:=⟨ag.t138,ag.t145,by kernel_rfl,rfl,rfl,by kernel_rfl,by decide,rfl⟩
structure Mk where
 id:Int
 un:Int
 side:Int
 kind:Int
 LB:Bool
deriving DecidableEq
abbrev Mk.c(x:Mk):aeN:=[.int .i64 x.id,.int .i64 x.un,.int .i64 x.side,.int .i64 x.kind,.bool x.LB]
abbrev Mk.v(x:Mk):aeM:=.agg (x.c).toArray
instance:aZ Mk where
 ty:=137
 sz:=5
 agg:=true
 eB:=[]
 rep _ x cs:=cs=x.c
 pos:=by decide
 one:=by grind
 len:=by simp_all
 fB:=by rintro _ _ _ rfl;rfl
 aY:=by grind
theorem dU:oP TE 31 137 Mk:=⟨ag.t31,ag.t137,by kernel_rfl,⟨_,rfl⟩,rfl,by kernel_rfl,rfl,rfl⟩
theorem zD:ur TE 31 Mk:=⟨ag.t31,ag.t137,by kernel_rfl,rfl,rfl,by kernel_rfl,by decide,rfl⟩
end
end Go.Proofs.YtigpcbodmjjaiaaGreatDoor
namespace Go.D
open Go
section
section
variable {P:Program} {σ:Sg} {m:M} {w w':World}
theorem Ev.kept(h:eN P σ m w)(hk:∀B,B < w.heap.size->w'.heap[B]?=w.heap[B]?)(hle:w.heap.size<=w'.heap.size)(ho:w'.os=w.os)(ht:w'.tape=w.tape)(hu:w'.output=w.output):Ev P σ m w σ m w':=⟨λ_ _ x=>x,⟨h.sw,λb i hb=>(h.obj b i hb).aY (λ_ _ x=>x) (hk _ (h.lt b i hb)),λb i hb=>acL (h.lt b i hb) hle,h.inj,h.kz⟩,aa4 _,aa4 _,hle,λb i x y=>(by grind),λ_ _ _=>rfl,λB hB _=>hk B hB,ho,ht,hu⟩
end
end
section
section
variable {P:Program} {σ:Sg} {m m':M} {w w':World}
theorem bK.Tz{c c':aeN}{new:aeN}{off:Nat}(h:bK σ c c')(hn:bK σ new new)(hl:off+new.length<=c.length):
  bK σ (c.take off++(new++c.drop (off+new.length))) (c'.take off++(new++c'.drop (off+new.length))):=
 (h.take off).append (hn.append (h.drop _))
theorem JP{a:Addr}{i:BI}{cs:aeN}{e:TypeId}{g:Option Nat}{F:aeN}(hs:eN P σ m w)(hi:σ a.block=some i)(hg:m.get a.block=.cells cs e g)(hF:(cs.drop a.off).take F.length=F)(b0:F.all bF)(hle:a.off+F.length<=cs.length):
  Sort.Holds id w i.cI a.off F.toArray:=by
 have⟨row,a0,g0,d0,h0⟩:=hs.cells hi hg
 intro j hj
 have hj:j < F.length:=by grind
 have e1:cs[a.off+j]?=some F[j]:=by
  grind
 have⟨u,i0,e0⟩:=d0.get e1
 have hf:=e0.bM (abw.1 b0 _ (List.getElem_mem hj))
 refine⟨?_,by simp[World.frozen?,a0]⟩
 simp only[World.cell?,a0]
 grind
theorem QX{a:Addr}{i:BI}{cs:aeN}{e:TypeId}{g:Option Nat}{F:aeN}(hs:eN P σ m w)(hi:σ a.block=some i)(hg:m.get a.block=.cells cs e g)(e0:F.all bF)(hle:a.off+F.length<=cs.length)(k:Nat)(os:Array Obj):
  Ev P σ m w σ (m.set a.block (.cells (cs.take a.off++(F++cs.drop (a.off+F.length))) e g)) (Sort.grow (Sort.putRow id (Sort.ahead w k) i.cI a.off F.toArray) os):=by
 have⟨row,g0,j0,h0,k0⟩:=hs.cells hi hg
 have a0:∀B,(Sort.putRow id (Sort.ahead w k) i.cI a.off F.toArray).heap[B]?=if B=i.cI then some (.cells (Sort.putCells id a.off F.toArray row) e (0,0))else w.heap[B]?:=by
  intro B;simp only[Sort.putRow,Sort.mapBlock,adN,Sort.ahead];by_cases hB:i.cI=B;·subst hB;simp only[acU,g0,abi,Sort.onCells]
  ·grind
 have i0:(Sort.putCells id a.off F.toArray row).toList=row.toList.take a.off++(F++row.toList.drop (a.off+F.length)):=by
  apply aco
  simp only[Sort.putCells,acT,Array.getElem?_mapIdx,adG]
  grind
 have b0:Ev P σ m w σ (m.set a.block (.cells (cs.take a.off++(F++cs.drop (a.off+F.length))) e g)) (Sort.putRow id (Sort.ahead w k) i.cI a.off F.toArray):=by
  refine Ev.write hs hi (by grind) ?_ (by grind) (by simp_all) rfl rfl rfl
  have d0:(cs.take a.off++(F++cs.drop (a.off+F.length))).length=cs.length:=by
   grind
  have l0:(Sort.putCells id a.off F.toArray row).size=row.size:=by simp[Sort.putCells]
  refine⟨_,(by rw[a0,abe rfl]),by grind,?_,by grind⟩
  have n0:=bK.Tz (σ:=σ) (off:=a.off) (new:=F) h0 (bK.of_flat e0) hle
  have hA:(row.toList.take a.off).length=a.off:=by grind
  have e2:(row.toList.take cs.length).take a.off++(F++(row.toList.take cs.length).drop (a.off+F.length))=(row.toList.take a.off++(F++row.toList.drop (a.off+F.length))).take cs.length:=by
   rw[adM,adM,hA]
   congr 1
   ·grind
   ·congr 1
    ·rw[aby (by omega)]
    ·rw[List.drop_take]
     grind
  grind
 exact b0.trans (Ev.kept b0.sH (λB hB=>by simp only[Sort.grow];rw[Array.getElem?_append_left hB]) (by simp_all) rfl rfl rfl)
theorem LK.JK{b:Nat}{cs:aeN}{e:TypeId}{g:Option Nat}{o:Ob}(h:m.get b=.cells cs e g):LK m (m.set b o):=λc r hc=>by
 have hb:b < m.n:=M.ll (by grind)
 have a0:c≠b:=by grind
 exact⟨r,by rw[M.bX _ _ _ _ hb,abd a0];exact hc⟩
variable {α:Type}
def La(dec:aeN->Option α)(k:Nat):Nat->aeN->Option (List α)
 |0,_=>some []
 |n+1,cs=>match dec (cs.take k)with
  |some x=>match La dec k n (cs.drop k)with |some l=>some (x::l) |none=>none
  |none=>none
theorem Bi{dec:aeN->Option α}{enc:α->aeN}{k:Nat}(hd:∀cs x,dec cs=some x->cs=enc x):∀(n:Nat) (cs:aeN) (l:List α),La dec k n cs=some l->l.length=n/\cs.take (n*k)=l.flatMap enc
 |0,cs,l,h=>by cases h;simp
 |n+1,cs,l,h=>by
  unfold La at h
  split at h
  ·rename_i x hx
   split at h
   ·rename_i l' hl
    cases h
    obtain⟨h1,h2⟩:=Bi hd n _ _ hl
    refine⟨by grind,?_⟩
    rw[acw,<-hd _ _ hx,<-h2,acg,acW,adT,List.take_add]
   ·cases h
  ·cases h
theorem EI{dec:aeN->Option α}{enc:α->aeN}{k:Nat}(hd:∀x,dec (enc x)=some x)(hk:∀x,(enc x).length=k):∀(l:List α),La dec k l.length (l.flatMap enc)=some l
 |[]=>rfl
 |x::l=>by
  simp only[abr,La,acw]
  rw[List.take_append_of_le_length (by grind),aby (by grind),hd]
  rw[List.drop_append_of_le_length (by grind),ael (by grind),ab6,EI hd hk l]
structure Qr(α:Type) where
 S:Nat
 k:Nat
 dec:aeN->Option α
 enc:α->aeN
 res:List α->List α
 ok:aeN->Bool
def oW(N:Qr α):aK:=λfn args m=>
 match fn with
 |.func f=>
  bif Nat.beq f N.S then
   match args with
   |.slice (some a) n _::more=>
    match m.get a.block with
    |.cells cs e g=>
     bif N.ok more && (a.spot.isNone && Nat.ble 1 (n*N.k) && Nat.ble (a.off+n*N.k) cs.length && Nat.ble n 1048576)then
      match La N.dec N.k n ((cs.drop a.off).take (n*N.k))with
      |some l=>some (.tuple #[],m.set a.block (.cells (cs.take a.off++((N.res l).flatMap N.enc++cs.drop (a.off+n*N.k))) e g))
      |none=>none
     else none
    |_=>none
   |.slice none 0 0::more=>bif N.ok more then some (.tuple #[],m)else none
   |_=>none
  else none
 |_=>none
structure Qg(P:Program)(N:Qr α):Prop where
 Za:∀args w,(callFunc N.S args).run P w=.ok (.enter N.S args) w
 dec:∀cs x,N.dec cs=some x->cs=N.enc x
 flat:∀x,(N.enc x).all bF=true
 len:∀x,(N.enc x).length=N.k
 res:∀l,(N.res l).length=l.length
 more:∀more,N.ok more=true->more.all bF=true
 go:∀(more:aeN) (cI off cap:Nat) (l:List α) (w:World),N.ok more=true->Sort.Holds id w cI off (l.flatMap N.enc).toArray->cI < w.heap.size->l.length<=1048576->
  Calls P N.S (.slice (some ⟨cI,off,none⟩) l.length cap::more).toArray w λe w'=>e=.returned (.tuple #[])/\∃n os,w'=Sort.grow (Sort.putRow id (Sort.ahead w n) cI off ((N.res l).flatMap N.enc).toArray) os
 none:∀(more:aeN) (w:World),N.ok more=true->Calls P N.S (.slice none 0 0::more).toArray w λe w'=>e=.returned (.tuple #[])/\w'=w
theorem bK.Is{l l':aeN}(h:bK σ l l')(hf:l.all bF):l'=l:=by
 apply aco
 intro j
 cases hj:l[j]? with
 |none=>exact ace (by rw[<-h.1];exact adw.1 hj)
 |some u=>have⟨u',hu,hr⟩:=h.get hj;rw[hu,hr.bM (abw.1 hf u (abb hj))]
theorem iw{enc:α->aeN}{k:Nat}(h:∀x,(enc x).length=k):∀l:List α,(l.flatMap enc).length=l.length*k
 |[]=>by simp
 |x::l=>by rw[acw,abO,h,iw h l,abr,acg,acW,adT]
theorem tO{enc:α->aeN}(h:∀x,(enc x).all bF)(l:List α):(l.flatMap enc).all bF:=by
 grind
theorem JD(N:Qr α):ki (oW N):=λfn args m v m' h=>by
 unfold oW at h
 split at h
 ·rename_i f
  cases hf:Nat.beq f N.S with
  |false=>rw[hf]at h;cases h
  |true=>
   rw[hf,cond_true]at h
   split at h
   ·rename_i a n c more
    split at h
    ·rename_i cs e g hg
     cases hc:(N.ok more && (a.spot.isNone && Nat.ble 1 (n*N.k) && Nat.ble (a.off+n*N.k) cs.length && Nat.ble n 1048576))with
     |false=>rw[hc]at h;cases h
     |true=>
      rw[hc,cond_true]at h
      split at h
      ·cases h
       exact LK.JK hg
      ·cases h
    ·cases h
   ·rename_i more
    cases hc:N.ok more with
    |false=>rw[hc]at h;cases h
    |true=>rw[hc,cond_true]at h;cases h;exact LK.refl
   ·cases h
 ·cases h
theorem Hr{N:Qr α}(h:Qg P N)(hS:Nat.beq Dw N.S=false):dc P (oW N):=by
 refine⟨λf args m v m' hx σ w a0 hs hl=>?_,λl args m v m' hx=>by simp[oW]at hx,JD N,λa m v m' b hx=>by
  unfold oW at hx
  grind⟩
 unfold oW at hx
 dsimp only at hx
 cases hf:Nat.beq f N.S with
 |false=>rw[hf]at hx;cases hx
 |true=>
  obtain rfl:=abn hf;rw[hf,cond_true]at hx;refine⟨?_,h.Za a0 w⟩;refine callsIn_wide.2 ?_;split at hx
  ·rename_i a n cap more;split at hx
   ·rename_i cs e g hg
    cases hc:(N.ok more && (a.spot.isNone && Nat.ble 1 (n*N.k) && Nat.ble (a.off+n*N.k) cs.length && Nat.ble n 1048576))with
    |false=>rw[hc]at hx;cases hx
    |true=>
     rw[hc,cond_true]at hx;simp only[abc]at hc;have⟨h0,⟨⟨c1,c2⟩,c3⟩,c4⟩:=hc;have c2:=abB c2;have c4:=abB c4;split at hx
     ·rename_i l hz;cases hx;obtain⟨hlen,n0⟩:=Bi (enc:=N.enc) h.dec _ _ _ hz;have o0:=iw h.len l;have⟨x',l1,e0,hv,g0⟩:=hl.cases;have b0:=g0.Is (h.more more h0);subst b0;obtain⟨i,a',c',hi,rfl,j0⟩:=hv.dL
      have p0:n≠0:=by
       grind
      have k0:a'=⟨i.cI,a.off,none⟩:=by
       grind
      subst k0
      have d0:a0=(Value.slice (some ⟨i.cI,a.off,none⟩) l.length c'::l1).toArray:=by
       grind
      subst d0;have hF:(cs.drop a.off).take (l.flatMap N.enc).length=l.flatMap N.enc:=by grind
      have hH:=JP hs hi hg hF (tO h.flat l) (by grind);refine(h.go l1 i.cI a.off c' l w h0 hH (hs.lt _ _ hi) (by omega)).mono ?_;rintro en w2 ⟨rfl,k,os,rfl⟩;have l0:((N.res l).flatMap N.enc).length=n*N.k:=by rw[iw h.len,h.res,hlen]
      have i0:=QX (F:=(N.res l).flatMap N.enc) hs hi hg (tO h.flat _) (by grind) k os;rw[l0]at i0;exact⟨_,σ,rfl,.undef,i0⟩
     cases hx
   cases hx
  ·rename_i more
   cases hc:N.ok more with
   |false=>rw[hc]at hx;cases hx
   |true=>
    rw[hc,cond_true]at hx;cases hx;have⟨x',l1,e0,hv,g0⟩:=hl.cases;have b0:=g0.Is (h.more more hc);subst b0;obtain⟨_,_,rfl⟩:=hv.eS;have d0:a0=(Value.slice none 0 0::l1).toArray:=by grind
    subst d0;refine(h.none l1 w hc).mono ?_;rintro en w2 ⟨rfl,rfl⟩;exact⟨_,σ,rfl,.undef,.refl hs⟩
  cases hx
end
end
end Go.D
namespace Go.Proofs.YtigpcbodmjjaiaaGreatDoor
section
variable {X:aK} {m:M}
def JW(l:List Int):Int:=match l.find? (λx=> !(decide (x=0)))with |some x=>x |none=>0
theorem DM{l:List Int}(h:∀(j:Nat) x,l[j]?=some x->x=0):JW l=0:=by
 unfold JW
 have:l.find? (λx=> !(decide (x=0)))=none:=adA.2 λx hx=>by
  have⟨j,hj⟩:=ac8.1 hx
  grind
 grind
theorem tn:∀{l:List Int} {i:Nat} {x:Int},l[i]?=some x->x≠0->(∀(j:Nat) y,j < i->l[j]?=some y->y=0)->JW l=x
 |[],i,x,h,_,_=>by grind
 |a::l,0,x,h,hx,_=>by
  cases h
  unfold JW
  grind
 |a::l,i+1,x,h,hx,hz=>by
  have ha:=hz 0 a (by omega) rfl
  subst ha
  have:=tn (l:=l) (i:=i) (x:=x) (by grind) hx λj y hj hy=>hz (j+1) y (by omega) (by grind)
  unfold JW at this⊢
  grind
theorem HC(hX:cC X){l:List Int}{v:aeM}(hl:Sl m l v)(hb:l.length < 1000000):C X (.func 80) [v] m m.n (aeP (JW l)) m:=by
 refine Cl.flat (hX.no _ rfl) (aa3 func80) rfl rfl ?_;rw[F80];dsimp only[δ,ζ,η,κ,φ];rw[hl.len dV,aA];refine Lp.intro (γ:=Nat) (λi=>l.length-i) (λi vs mm lo=>vs=[aeP 0,aeP i]/\mm=m/\lo=m.n/\i<=l.length/\∀(j:Nat) y,j < i->l[j]?=some y->y=0) 0 ⟨rfl,rfl,rfl,abh _,λj y hj=>by omega⟩ ?_;rintro i vs mm lo ⟨rfl,rfl,rfl,hi,hz⟩;rw[aB,aB,aM,ae,aj];refine ak (λh=>?_) (λh=>?_)
 ·have h:i < l.length:=by grind
  obtain⟨x,hx⟩:∃x,l[i]?=some x:=⟨_,aa5 h⟩
  have⟨p,cs,e1,e2,e3⟩:=hl.index dV (k:=.i64) hx;obtain rfl:cs=[aeP x]:=e3;rw[e1,ae,e2,ae];show ai (az TE .neq 3 (aeP x) (aeP 0)) _;rw[bR,ae,aj];refine ak (λhb=>?_) (λhb=>?_)
  ·have a0:x≠0:=by grind
   refine⟨?_,aa4 _⟩;rw[tn hx a0 hz];rfl
  have a0:x=0:=by grind
  rw[aQ,ae,wrap64 (by omega) (by omega)];refine⟨i+1,by omega,rfl,rfl,rfl,by omega,λj y hj hy=>?_⟩;by_cases e:j=i;·subst e;rw[hx]at hy;cases hy;exact a0
  exact hz j y (by omega) hy
 have b0:i=l.length:=by
  have:¬(i:Int)< (l.length:Int):=by grind
  omega
 refine⟨?_,aa4 _⟩;rw[DM λj y hy=>hz j y (by grind) hy];rfl
theorem S5{x y:Int}:aG TE m 26 2 [(0,.int .i64 x),(1,.int .i64 y)]=some (.slice (some ⟨m.n,0,none⟩) 2 2,m.push (.cells [.int .i64 x,.int .i64 y] 3 none)):=by kernel_rfl
theorem Dz{x y:Int}{b:Nat}{g:Option Nat}(h:m.get b=.cells [aeP x,aeP y] 3 g):Sl m [x,y] (aeL b 0 2 2):=
 .inr ⟨b,0,2,_,g,rfl,h,aa4 _,λi z hi=>by
  match i with
  |0=>cases hi;rfl
  |1=>cases hi;rfl
  |i+2=>simp at hi⟩
theorem Q4(p q:Pl):JW [dt p.x q.x,dt p.y q.y]=tm p q:=by
 unfold tm;by_cases h:dt p.x q.x=0
 ·rw[abe h];by_cases h2:dt p.y q.y=0
  ·rw[DM (by
    intro j x hj
    match j with
    |0=>cases hj;exact h
    |1=>cases hj;exact h2
    |j+2=>simp at hj),h2]
  exact tn (i:=1) rfl h2 (by
   intro j y hj hy
   match j with
   |0=>cases hy;exact h
   |j+1=>omega)
 rw[abd h];exact tn (i:=0) rfl h λj y hj=>by omega
theorem HX{b:Nat}{p:Pl}{e:TypeId}{g:Option Nat}(h:m.get b=.cells p.c e g):ah TE m 3 (aeK b (0+0))=some (aeP p.x):=by rw[bI,aI h];rfl
theorem HW{b:Nat}{p:Pl}{e:TypeId}{g:Option Nat}(h:m.get b=.cells p.c e g):ah TE m 3 (aeK b (0+1))=some (aeP p.y):=by rw[bI,aI h];rfl
theorem th(hX:cC X)(p q:Pl):C X (.func 195) [p.v,q.v] m m.n (aeP (tm p q)) m:=by
 refine Cl.flat (hX.no _ rfl) (aa3 func195) rfl rfl ?_;rw[ZQ];dsimp only[δ,ε,ν,ρ,υ,χ,ω];refine av λm1 e0 a0 g0=>?_;refine av λm2 h0 b0 d0=>?_;have g1:m2.get m.n=.cells p.c 141 none:=by rw[d0 _ (by omega)];exact a0
 have g2:m2.get m1.n=.cells q.c 141 none:=b0;unfold ptrTo;rw[bY,ae,HX g1,ae,bY,ae,HX g2,ae];refine aE (eo hX _ _) ⟨aa4 _,?_⟩;rw[cO,ae,HW g1,ae,cO,ae,HW g2,ae];refine aE (eo hX _ _) ?_;rw[S5,aA];have hg:(m2.push (.cells [.int .i64 (dt p.x q.x),.int .i64 (dt p.y q.y)] 3 none)).get m2.n=.cells [.int .i64 (dt p.x q.x),.int .i64 (dt p.y q.y)] 3 none:=M.aU;have hn:(m2.push (.cells [.int .i64 (dt p.x q.x),.int .i64 (dt p.y q.y)] 3 none)).n=m2.n+1:=rfl;refine aE (HC hX (Dz hg) (by grind)) ?_;refine⟨?_,by omega⟩;rw[Q4];rfl
end
section
variable {X:aK} {m:M}
theorem Ri(hX:cC X){p q:Pl}{v:aeM}(hl:Sl m [p,q] v):C X (.func 234) [v,.func (.func 195) #[] #[]] m m.n (Eb p q).v m:=by
 refine Cl.flat (hX.no _ rfl) (aa3 func234) rfl rfl ?_;rw[Zw];dsimp only[δ,ζ,η,ι,κ,ς,υ,φ,ψ];refine av λm1 s0 u0 j0=>?_;have b0:=hl.aF (m':=m1) ⟨by omega,j0⟩;rw[b0.len cx,aA,aM,ae,aj];show iW (decide (((2:Nat):Int)< 1)) _ _;rw[show decide (((2:Nat):Int)< 1)=false from rfl,aO];have⟨a,e1,e2⟩:=b0.dZ (k:=.i64) (i:=0) rfl;have e1:an TE 58 v (aeP 0)=some a:=e1;rw[e1,ae,e2,ae];refine av λm6 v0 k0 y0=>?_;unfold ptrTo;refine aC dh k0 rfl rfl rfl λm7 z0 d0 A0=>?_;have d0:m7.get m1.n=.cells p.c 141 none:=d0;have e0:∀c,c < m1.n->m7.get c=m1.get c:=by grind
 refine Lp.intro (γ:=Nat) (λi=>2-i) (λi vs mm lo=>vs=[aeP i]/\(i=1/\mm.get m1.n=.cells p.c 141 none\/i=2/\mm.get m1.n=.cells (Eb p q).c 141 none)/\mm.n=m7.n/\(∀c,c < m1.n->mm.get c=m1.get c)/\m.n<=lo) 1 ⟨rfl,.inl ⟨rfl,d0⟩,rfl,e0,by omega⟩ ?_;rintro i vs mm lo ⟨rfl,hi,l0,hk,B0⟩;have h0:Sl mm [p,q] v:=b0.aY λb c t g hb _=>by rw[hk b (M.bk hb),hb]
 rw[aB,h0.len cx,aA,aM,ae,aj];rcases hi with⟨rfl,hc⟩ |⟨rfl,hc⟩
 ·show iW (decide (((1:Nat):Int)< ((2:Nat):Int))) _ _;rw[show decide (((1:Nat):Int)< ((2:Nat):Int))=true from rfl,bL];have⟨a,e1,e2⟩:=h0.dZ (k:=.i64) (i:=1) rfl;rw[e1,ae,e2,ae,bS hc,ae,cf];refine aE (th hX q p) ?_;rw[bV,ae,aj];refine ak (λhb=>?_) (λhb=>?_)
  ·have hb:=aba hb;rw[ae,e2,ae];refine aC dh hc rfl rfl rfl λC0 o0 i0 p0=>?_;refine⟨2,by omega,rfl,.inr ⟨rfl,?_⟩,by omega,by grind,by omega⟩;rw[i0,show Eb p q=q by unfold Eb;rw[abe hb]];rfl
  have hb:=aa6 hb;refine⟨2,by omega,rfl,.inr ⟨rfl,?_⟩,l0,hk,by omega⟩;rw[hc,show Eb p q=p by unfold Eb;rw[abd hb]]
 show iW (decide (((2:Nat):Int)< ((2:Nat):Int))) _ _;rw[show decide (((2:Nat):Int)< ((2:Nat):Int))=false from rfl,aO,bS hc,ae];have g0:mm.get m.n=.cells [aeP 0,aeP 0] 141 none:=by grind
 refine aC dh g0 rfl rfl rfl λn0 q0 a0 r0=>?_;have a0:n0.get m.n=.cells (Eb p q).c 141 none:=a0;rw[bS a0,ae];exact⟨rfl,by omega⟩
theorem Rh(hX:cC X){p q:Pl}{v:aeM}(hl:Sl m [p,q] v):C X (.func 235) [v,.func (.func 195) #[] #[]] m m.n (DZ p q).v m:=by
 refine Cl.flat (hX.no _ rfl) (aa3 func235) rfl rfl ?_;rw[Zv];dsimp only[δ,ζ,η,ι,κ,ς,υ,φ,ψ];refine av λm1 s0 u0 j0=>?_;have b0:=hl.aF (m':=m1) ⟨by omega,j0⟩;rw[b0.len cx,aA,aM,ae,aj];show iW (decide (((2:Nat):Int)< 1)) _ _;rw[show decide (((2:Nat):Int)< 1)=false from rfl,aO];have⟨a,e1,e2⟩:=b0.dZ (k:=.i64) (i:=0) rfl;have e1:an TE 58 v (aeP 0)=some a:=e1;rw[e1,ae,e2,ae];refine av λm6 v0 k0 y0=>?_;unfold ptrTo;refine aC dh k0 rfl rfl rfl λm7 z0 d0 A0=>?_;have d0:m7.get m1.n=.cells p.c 141 none:=d0;have e0:∀c,c < m1.n->m7.get c=m1.get c:=by grind
 refine Lp.intro (γ:=Nat) (λi=>2-i) (λi vs mm lo=>vs=[aeP i]/\(i=1/\mm.get m1.n=.cells p.c 141 none\/i=2/\mm.get m1.n=.cells (DZ p q).c 141 none)/\mm.n=m7.n/\(∀c,c < m1.n->mm.get c=m1.get c)/\m.n<=lo) 1 ⟨rfl,.inl ⟨rfl,d0⟩,rfl,e0,by omega⟩ ?_;rintro i vs mm lo ⟨rfl,hi,l0,hk,B0⟩;have h0:Sl mm [p,q] v:=b0.aY λb c t g hb _=>by rw[hk b (M.bk hb),hb]
 rw[aB,h0.len cx,aA,aM,ae,aj];rcases hi with⟨rfl,hc⟩ |⟨rfl,hc⟩
 ·show iW (decide (((1:Nat):Int)< ((2:Nat):Int))) _ _;rw[show decide (((1:Nat):Int)< ((2:Nat):Int))=true from rfl,bL];have⟨a,e1,e2⟩:=h0.dZ (k:=.i64) (i:=1) rfl;rw[e1,ae,e2,ae,bS hc,ae,cf];refine aE (th hX q p) ?_;rw[aM,ae,aj];refine ak (λhb=>?_) (λhb=>?_)
  ·have hb:=aba hb;rw[ae,e2,ae];refine aC dh hc rfl rfl rfl λC0 o0 i0 p0=>?_;refine⟨2,by omega,rfl,.inr ⟨rfl,?_⟩,by omega,by grind,by omega⟩;rw[i0,show DZ p q=q by unfold DZ;rw[abe hb]];rfl
  have hb:=aa6 hb;refine⟨2,by omega,rfl,.inr ⟨rfl,?_⟩,l0,hk,by omega⟩;rw[hc,show DZ p q=p by unfold DZ;rw[abd hb]]
 show iW (decide (((2:Nat):Int)< ((2:Nat):Int))) _ _;rw[show decide (((2:Nat):Int)< ((2:Nat):Int))=false from rfl,aO,bS hc,ae];have g0:mm.get m.n=.cells [aeP 0,aeP 0] 141 none:=by grind
 refine aC dh g0 rfl rfl rfl λn0 q0 a0 r0=>?_;have a0:n0.get m.n=.cells (DZ p q).c 141 none:=a0;rw[bS a0,ae];exact⟨rfl,by omega⟩
structure Sq(X:aK):Prop where
 pl:∀(m:M) (b:Nat) (p q:Pl),m.get b=.cells (p.c++q.c) 141 none->C X (.func 233) [.slice (some ⟨b,0,none⟩) 2 2,.func (.func 195) #[] #[]] m b (.tuple #[]) (m.set b (.cells ((fS p q).c++(yS p q).c) 141 none))
theorem Q1{p q:Pl}:aG TE m 58 2 [(0,p.v),(1,q.v)]=some (.slice (some ⟨m.n,0,none⟩) 2 2,m.push (.cells (p.c++q.c) 141 none)):=by kernel_rfl
theorem xE{p q:Pl}{b:Nat}{g:Option Nat}(h:m.get b=.cells (p.c++q.c) 141 g):Sl m [p,q] (aeL b 0 2 2):=
 .inr ⟨b,0,2,_,g,rfl,h,aa4 _,λi z hi=>by
  match i with
  |0=>cases hi;rfl
  |1=>cases hi;rfl
  |i+2=>simp at hi⟩
theorem Lc(hX:cC X)(hS:Sq X)(p q r s:Pl):C X (.func 194) [p.v,q.v,r.v,s.v] m m.n (.tuple #[(oy p q r s).v,(Ly p q r s).v]) m:=by
 refine Cl.flat (hX.no _ rfl) (aa3 func194) rfl rfl ?_;rw[ZR];dsimp only[δ,ζ,ι,ν,ρ,ς,υ,φ,χ,Θ];refine av λm1 p1 G0 r1=>?_;refine av λm2 u1 H0 I0=>?_;refine av λm3 v1 J0 u0=>?_;refine av λm4 w1 K0 s0=>?_;refine av λm5 z1 A1 p0=>?_;refine av λm6 B1 L0 q0=>?_;have g0:m6.get m.n=.cells p.c 141 none:=by rw[q0 _ (by omega),p0 _ (by omega),s0 _ (by omega),u0 _ (by omega),I0 _ (by omega)];exact G0
 have g1:m6.get m1.n=.cells q.c 141 none:=by rw[q0 _ (by omega),p0 _ (by omega),s0 _ (by omega),u0 _ (by omega)];exact H0
 have g2:m6.get m2.n=.cells r.c 141 none:=by rw[q0 _ (by omega),p0 _ (by omega),s0 _ (by omega)];exact J0
 have g3:m6.get m3.n=.cells s.c 141 none:=by rw[q0 _ (by omega),p0 _ (by omega)];exact K0
 have g4:m6.get m4.n=.cells [aeP 0,aeP 0] 141 none:=by grind
 have g5:m6.get m5.n=.cells [aeP 0,aeP 0] 141 none:=L0;unfold ptrTo;rw[bS g0,ae,bS g1,ae,Q1,aA];obtain⟨m10,b0⟩:∃x,x=m6.push (.cells (p.c++q.c) 141 none):=⟨_,rfl⟩
 rw[<-b0];have Q0:m10.n=m6.n+1:=by rw[b0];rfl
 have b1:m10.get m6.n=.cells (p.c++q.c) 141 none:=by rw[b0];exact M.aU
 have k0:∀c,c < m6.n->m10.get c=m6.get c:=λc hc=>by rw[b0];exact M.cD hc
 rw[bS (by rw[k0 _ (by omega)];exact g2),ae,bS (by rw[k0 _ (by omega)];exact g3),ae,Q1,aA];obtain⟨m14,d0⟩:∃x,x=m10.push (.cells (r.c++s.c) 141 none):=⟨_,rfl⟩
 rw[<-d0];have c1:m14.n=m10.n+1:=by rw[d0];rfl
 have d1:m14.get m10.n=.cells (r.c++s.c) 141 none:=by rw[d0];exact M.aU
 have v0:∀c,c < m10.n->m14.get c=m10.get c:=λc hc=>by rw[d0];exact M.cD hc
 have ga:m14.get m6.n=.cells (p.c++q.c) 141 none:=by grind
 refine aE (hS.pl m14 m6.n p q ga) ?_;obtain⟨m16,e0⟩:∃x,x=m14.set m6.n (.cells ((fS p q).c++(yS p q).c) 141 none):=⟨_,rfl⟩
 rw[<-e0];have e1:m16.n=m14.n:=by rw[e0];rfl
 have h1:m16.get m6.n=.cells ((fS p q).c++(yS p q).c) 141 none:=by rw[e0];exact M.eK (by omega)
 have y0:∀c,c≠m6.n->m16.get c=m14.get c:=λc hc=>by rw[e0];exact M.dP hc
 have gb:m16.get m10.n=.cells (r.c++s.c) 141 none:=by grind
 refine aE (hS.pl m16 m10.n r s gb) ?_;obtain⟨m19,h0⟩:∃x,x=m16.set m10.n (.cells ((fS r s).c++(yS r s).c) 141 none):=⟨_,rfl⟩
 rw[<-h0];have i1:m19.n=m16.n:=by rw[h0];rfl
 have z0:m19.get m10.n=.cells ((fS r s).c++(yS r s).c) 141 none:=by rw[h0];exact M.eK (by omega)
 have A0:∀c,c≠m10.n->m19.get c=m16.get c:=λc hc=>by rw[h0];exact M.dP hc
 have s1:=xE (m:=m19) (p:=fS p q) (q:=yS p q) (b:=m6.n) (g:=none) (by grind);have s2:=xE (m:=m19) (p:=fS r s) (q:=yS r s) (b:=m10.n) (g:=none) z0;have⟨a1,x1,y1⟩:=s1.dZ (k:=.i64) (i:=0) rfl;have⟨a2,x2,y2⟩:=s2.dZ (k:=.i64) (i:=0) rfl;have⟨a3,x3,y3⟩:=s1.dZ (k:=.i64) (i:=1) rfl;have⟨a4,x4,y4⟩:=s2.dZ (k:=.i64) (i:=1) rfl;have x1:an TE 58 (aeL m6.n 0 2 2) (aeP 0)=some a1:=x1;have x2:an TE 58 (aeL m10.n 0 2 2) (aeP 0)=some a2:=x2;have x3:an TE 58 (aeL m6.n 0 2 2) (aeP 1)=some a3:=x3;have x4:an TE 58 (aeL m10.n 0 2 2) (aeP 1)=some a4:=x4;rw[x1,ae,y1,ae,x2,ae,y2,ae,Q1,aA];obtain⟨a0,i0⟩:∃x,x=m19.push (.cells ((fS p q).c++(fS r s).c) 141 none):=⟨_,rfl⟩
 rw[<-i0];have l0:Ext m19 a0:=by rw[i0];exact Ext.refl.push
 have j1:a0.n=m19.n+1:=by rw[i0];rfl
 have B0:a0.get m19.n=.cells ((fS p q).c++(fS r s).c) 141 none:=by rw[i0];exact M.aU
 refine aE (Ri hX (xE B0)) ⟨aa4 _,?_⟩;have t1:=s1.aF l0;have t2:=s2.aF l0;have⟨a5,x5,y5⟩:=t1.dZ (k:=.i64) (i:=1) rfl;have⟨a6,x6,y6⟩:=t2.dZ (k:=.i64) (i:=1) rfl;have x5:an TE 58 (aeL m6.n 0 2 2) (aeP 1)=some a5:=x5;have x6:an TE 58 (aeL m10.n 0 2 2) (aeP 1)=some a6:=x6;rw[x5,ae,y5,ae,x6,ae,y6,ae,Q1,aA];obtain⟨r0,j0⟩:∃x,x=a0.push (.cells ((yS p q).c++(yS r s).c) 141 none):=⟨_,rfl⟩
 rw[<-j0];have C0:Ext a0 r0:=by rw[j0];exact Ext.refl.push
 have k1:r0.n=a0.n+1:=by rw[j0];rfl
 have D0:r0.get a0.n=.cells ((yS p q).c++(yS r s).c) 141 none:=by rw[j0];exact M.aU
 refine aE (Rh hX (xE D0)) ?_
 have fR:∀c,c < m6.n->r0.get c=m6.get c:=λc hc=>by rw[C0.get c (by omega),l0.get c (by omega),A0 c (by omega),y0 c (by omega),v0 c (by omega),k0 c hc]
 have k4:=(fR m4.n (by omega)).trans g4;have k5:=(fR m5.n (by omega)).trans g5;refine aC dh k4 rfl rfl rfl λN0 l1 n0 E0=>?_;have n0:N0.get m4.n=.cells (oy p q r s).c 141 none:=n0;refine aC dh ((E0 m5.n (by omega)).trans k5) rfl rfl rfl λO0 o1 o0 F0=>?_;have o0:O0.get m5.n=.cells (Ly p q r s).c 141 none:=o0;rw[bS (by rw[F0 _ (by omega)];exact n0),ae,bS o0,ae];exact⟨rfl,by omega⟩
end
section
variable {X:aK} {m:M}
end
section
variable {X:aK} {m:M}
theorem V5{p q:Pl}:az TE .eql 141 p.v q.v=some (.bool (decide (p=q))):=by
 have e:az TE .eql 141 p.v q.v=(eq? TE 141 p.v q.v).map (λb=> .bool b):=by kernel_rfl
 rw[e,Ta];rfl
abbrev jB(p q:Pl):aeN:=[.int .i64 p.x,.int .i64 p.y,.int .i64 q.x,.int .i64 q.y]
abbrev sJ:aeN:=[.int .i64 0,.int .i64 0,.int .i64 0,.int .i64 0]
def iE:Option (Pl×Pl)->aeN
 |some x=>jB x.1 x.2
 |none=>sJ
theorem lL{p q:Pl}:aJ TE 143 [(0,p.v),(1,q.v)]=some (.agg (jB p q).toArray):=by kernel_rfl
theorem pV:aJ TE 143 []=some (.agg sJ.toArray):=by kernel_rfl
theorem rj{α:Type}{f:Nat->Option α}:∀{n:Nat},(∀j,j < n->f j=none)->(List.range n).findSome? f=none:=by
 grind
theorem pL{α:Type}{f:Nat->Option α}{x:α}:∀{n k:Nat},k < n->(∀j,j < k->f j=none)->f k=some x->(List.range n).findSome? f=some x
 |n+1,k,hk,h,hx=>by
  rw[acO,List.findSome?_append]
  by_cases e:k < n
  ·rw[pL e h hx];rfl
  ·grind
theorem yj{m1 m2:Nat}{mm:M}{o:Option (Pl×Pl)}{b:Bool}(h1:mm.get m1=.cells (iE o) 143 none)(h2:mm.get m2=.cells [.bool b] 4 none){P:aeM->aeM->Prop}(hP:P (.agg (iE o).toArray) (.bool b)):
  ai (ah TE mm 143 (aeK m1 0)) λv=>ai (ah TE mm 4 (aeK m2 0)) λw=>P v w:=by
 have hl:(iE o).length=4:=by cases o <;>rfl
 rw[mY,aN h1 (by grind)];have e:((iE o).drop 0).take 4=iE o:=by grind
 rw[e];show ai (some (Value.agg (iE o).toArray)) _;rw[ae,vg,aI h2];exact hP
theorem BB{P:Prop}:IW [] P=P:=rfl
theorem QU(hX:cC X)(hS:Sq X){a b:List Pl}{va vb:aeM}(ha:Sl m a va)(hb:Sl m b vb)(la:a.length < 1000000)(lb:b.length < 1000000):
  C X (.func 149) [va,vb] m m.n (.tuple #[.agg (iE (mO a b)).toArray,.bool (mO a b).isSome]) m:=by
 refine Cl.flat (hX.no _ rfl) (aa3 func149) rfl (by cases mO a b <;>rfl) ?_;rw[aaj];dsimp only[δ,η,θ,ι,ξ,ο,ρ,ς,υ,φ,χ,Γ,Δ,ψ,ω];refine av λm1 m4 C2 n4=>?_;refine av λm2 o4 r4 u4=>?_;refine av λm3 v4 D2 w4=>?_;rw[hb.cells]at C2;unfold ptrTo;have G0:Ext m m3:=⟨by omega,by grind⟩
 have g0:m3.get m.n=.cells [vb] 58 none:=by grind
 have g1:m3.get m1.n=.cells sJ 143 none:=by grind
 have g2:m3.get m2.n=.cells [aeS] 4 none:=D2;have ld:∀mm:M,mm.get m.n=.cells [vb] 58 none->ah TE mm 58 (aeK m.n 0)=some vb:=λmm h=>by rw[tD,aI h];rfl
 have u1:=ha.aF G0;have v1:=hb.aF G0;refine aW (λvs m' lo=>vs=[.bool (!(bJ a && bJ b && !fA a b))]/\m'=m3/\m.n<=lo) (λR hR=>?_) ?_
 ·refine aE (jz hX u1 (by omega)) ?_;rw[bj,ae,aj];refine ak (λh=>?_) (λh=>?_)
  ·have h:bJ a=false:=by grind
   exact hR _ _ _ ⟨by grind,rfl,by omega⟩
  have h:bJ a:=by grind
  rw[ld m3 g0,ae];refine aE (jz hX v1 (by omega)) ?_;rw[bj,ae,aj];refine ak (λh'=>?_) (λh'=>?_)
  ·have h':bJ b=false:=by grind
   exact hR _ _ _ ⟨by grind,rfl,by omega⟩
  have h':bJ b:=by grind
  rw[ld m3 g0,ae];refine aE (vW hX u1 v1 la lb) ?_;exact hR _ _ _ ⟨by simp_all,rfl,by omega⟩
 rintro _ m6 y4 ⟨rfl,rfl,r3⟩;rw[aB,aj];refine ak (λh=>?_) (λh=>?_)
 ·have h:(bJ a && bJ b && !fA a b)=false:=by
   cases h':(bJ a && bJ b && !fA a b)with
   |false=>rfl
   |true=>rw[h']at h;cases h
  have e:mO a b=none:=by unfold mO;rw[abd (by grind)]
  rw[pV,ae];refine aC oU g1 rfl rfl rfl λm24 u3 w1 y1=>?_;refine aC Fp (by rw[y1 _ (by omega)];exact g2) rfl rfl rfl λz4 v3 z1 A1=>?_;refine yj (o:=none) (b:=false) (by rw[A1 _ (by omega)];exact w1) z1 ⟨by rw[e];rfl,by omega⟩
 have hv:(bJ a && bJ b && !fA a b):=by
  cases h':(bJ a && bJ b && !fA a b)with
  |true=>rfl
  |false=>rw[h']at h;cases h
 have B1:=hv;simp only[abc]at B1;obtain⟨⟨E2,F2⟩, -⟩:=B1;have e:mO a b=yl a b:=by unfold mO;rw[abe hv]
 have sa:=jy E2;have sb:=jy F2;have⟨a0,hc,i0,w3,y3⟩:=zi (m:=m6) hX ha.cells;refine aE hc ?_;rw[cf];have k0:a0.get m.n=.cells [vb] 58 none:=i0.cells g0;have k1:a0.get m1.n=.cells sJ 143 none:=i0.cells g1;have k2:a0.get m2.n=.cells [aeS] 4 none:=i0.cells g2;have hx:Ext m a0:=G0.trans i0;have A4:=i0.n
 refine⟨λ_=>False,kc a,_,λi mm=>a0.n<=mm.n/\(∀c,c < a0.n->mm.get c=a0.get c)/\∀j,j < i->Hu a b j=none,
  λe mm=>e=.ret/\∃x,yl a b=some x/\mm.get m1.n=.cells (jB x.1 x.2) 143 none/\mm.get m2.n=.cells [aeR] 4 none,m.n,⟨_,rfl⟩,vB hX (v:=va) (b:=m6.n) (by omega),by omega,?_,?_,?_,⟨aa4 _,λ_ _=>rfl,λj hj=>by omega⟩,?_,?_,?_⟩
 ·rintro i mm ⟨h1,h2,h3⟩;refine⟨by grind,?_⟩
  exact ha.aY λb c t g hb ht=>by have:=M.bk hb;rw[h2 b (by omega),hx.get b this,hb]
 ·rintro i mm H0 ⟨h1,h2,h3⟩ hk;exact⟨by have:=hk.n;omega,λc hc=>by rw[hk.get c (by omega) (by omega),h2 c hc],h3⟩
 ·rintro e mm H0 ⟨h,x,h1,h2,h3⟩ hk;have l1:=M.bk h2;have l2:=M.bk h3;exact⟨h,x,h1,by rw[hk.get _ l1 (by omega),h2],by rw[hk.get _ l2 (by omega),h3]⟩
 ·
  rintro i args y0 z3 G2 ⟨h1,h2,h3⟩
  obtain⟨pa,pb,I0,C1,rfl⟩:=vA G2
  have H2:i < a.length:=(aa9.1 I0).1
  have ea:gA a i=pa:=CS I0
  have eb:LC a i=pb:=CS C1
  rw[aB,aB,BB]
  refine av λB4 A3 D1 B3=>?_
  refine aC dh D1 rfl rfl rfl λE1 C3 F1 D3=>?_
  refine av λC4 E3 G1 H1=>?_
  refine aC dh G1 rfl rfl rfl λI2 F3 I1 J1=>?_
  have J0:∀c,c < y0.n->I2.get c=y0.get c:=by grind
  refine⟨λc _ hc=>J0 c hc,λj0 G3 D0=>?_⟩
  dsimp only
  have J2:∀c,c < a0.n->j0.get c=a0.get c:=by grind
  have ra:j0.get y0.n=.cells pa.c 141 none:=by rw[D0 _ (by omega),J1 _ (by omega),H1 _ (by omega),F1];rfl
  have rb:j0.get E1.n=.cells pb.c 141 none:=by rw[D0 _ (by omega),I1];rfl
  rw[ld j0 (by grind),ae]
  have⟨b0,K1,e0,H3,I3⟩:=zi (m:=j0) hX hb.cells
  refine aE K1 ?_
  rw[cf]
  have K2:=e0.n
  have L2:∀c,c < a0.n->b0.get c=a0.get c:=λc hc=>by rw[e0.get c (by omega),J2 c hc]
  refine⟨λ_=>False,kc b,_,λk mm=>b0.n<=mm.n/\(∀c,c < b0.n->mm.get c=b0.get c)/\∀j,j < k->sK pa pb (gA b j) (LC b j)=none,
   λe mm=>b0.n<=mm.n/\e=.ret/\∃x,yl a b=some x/\mm.get m1.n=.cells (jB x.1 x.2) 143 none/\mm.get m2.n=.cells [aeR] 4 none/\mm.get a0.n=j0.get a0.n,m.n,⟨_,rfl⟩,vB hX (v:=vb) (b:=j0.n) (by omega),by omega,?_,?_,?_,⟨aa4 _,λ_ _=>rfl,λj hj=>by omega⟩,?_,?_,?_⟩
  ·rintro k mm ⟨q1,q2,q3⟩;refine⟨by grind,?_⟩
   exact hb.aY λb c t g hb ht=>by have:=M.bk hb;rw[q2 b (by omega),L2 b (by omega),hx.get b this,hb]
  ·rintro k mm H0 ⟨q1,q2,q3⟩ hk;exact⟨by have:=hk.n;omega,λc hc=>by rw[hk.get c (by omega) (by omega),q2 c hc],q3⟩
  ·rintro e mm H0 ⟨q0,h,x,q1,q2,q3,q4⟩ hk;exact⟨by have:=hk.n;omega,h,x,q1,by rw[hk.get _ (by omega) (by omega),q2],by rw[hk.get _ (by omega) (by omega),q3],by rw[hk.get _ (by omega) (by omega),q4]⟩
  ·
   rintro k args r0 J3 M2 ⟨q1,q2,q3⟩
   obtain⟨pr,ps,K0,L1,rfl⟩:=vA M2
   have N2:k < b.length:=(aa9.1 K0).1
   have er:gA b k=pr:=CS K0
   have es:LC b k=ps:=CS L1
   have da:=sa _ (abb I0)
   have db:=sa _ (abb C1)
   have dr:=sb _ (abb K0)
   have ds:=sb _ (abb L1)
   rw[aB,aB,BB]
   refine av λD4 K3 N1 L3=>?_
   refine aC dh N1 rfl rfl rfl λO2 N3 O1 O3=>?_
   refine av λE4 a4 P1 T1=>?_
   refine aC dh P1 rfl rfl rfl λP2 b4 a2 b2=>?_
   have L0:∀c,c < r0.n->P2.get c=r0.get c:=by grind
   refine⟨λc _ hc=>L0 c hc,λm64 c4 E0=>?_⟩
   dsimp only
   have N0:∀c,c < b0.n->m64.get c=b0.get c:=by grind
   have ta:m64.get y0.n=.cells pa.c 141 none:=by rw[N0 _ (by omega),e0.get _ (by omega),ra]
   have tb:m64.get E1.n=.cells pb.c 141 none:=by rw[N0 _ (by omega),e0.get _ (by omega),rb]
   have tr:m64.get r0.n=.cells pr.c 141 none:=by rw[E0 _ (by omega),b2 _ (by omega),T1 _ (by omega),O1];rfl
   have ts:m64.get O2.n=.cells ps.c 141 none:=by rw[E0 _ (by omega),a2];rfl
   have skip:sK pa pb pr ps=none->∀(mm:M) (lo:Nat),m64.n<=mm.n->(∀c,c < m64.n->mm.get c=m64.get c)->m.n<=lo->
     m.n<=lo/\(∀c,b0.n<=c->c < r0.n->(c=b0.n\/False)->mm.get c=m64.get c)/\(b0.n<=mm.n/\(∀c,c < b0.n->mm.get c=b0.get c)/\∀j,j < k+1->sK pa pb (gA b j) (LC b j)=none):=by
    intro Q2 mm lo T2 s0 n0
    refine⟨n0,λc _ hc _=>s0 c (by omega),by omega,by grind,λj hj=>?_⟩
    by_cases e:j=k
    ·rw[e,er,es];exact Q2
    ·exact q3 j (by omega)
   refine aW (λvs m' lo=>vs=[.bool (decide (di pa pb pr≠0\/di pa pb ps≠0))]/\m'=m64/\m.n<=lo) (λR hR=>?_) ?_
   ·rw[bS ta,ae,bS tb,ae,bS tr,ae];refine aE (xC hX da db dr) ?_;rw[bR,ae,aj];refine ak (λh=>?_) (λh=>?_)
    ·have h:di pa pb pr≠0:=by grind
     exact hR _ _ _ ⟨by grind,rfl,by omega⟩
    ·have h:di pa pb pr=0:=by grind
     rw[bS ta,ae,bS tb,ae,bS ts,ae]
     refine aE (xC hX da db ds) ?_
     rw[bR,ae]
     refine hR _ _ _ ⟨?_,rfl,by omega⟩
     congr 2
     rw[adv]
     simp[h]
   rintro _ l0 c2 ⟨rfl,rfl,O0⟩
   rw[aB,aj]
   refine ak (λh=>?_) (λh=>?_)
   ·have h:=aba h;exact skip (by unfold sK;rw[abe h]) l0 c2 (aa4 _) (λ_ _=>rfl) O0
   have o0:=aa6 h
   rw[bS ta,ae,bS tb,ae,bS tr,ae,bS ts,ae]
   refine aE (Lc hX hS pa pb pr ps) ?_
   rw[aH,aH]
   simp only[aa8,aa7,ae]
   refine av λz0 d4 d2 e4=>?_
   refine av λF4 f4 i2 j2=>?_
   refine aC dh ((j2 l0.n (by omega)).trans d2) rfl rfl rfl λG4 g4 o2 u2=>?_
   refine aC dh ((u2 z0.n (by omega)).trans i2) rfl rfl rfl λA0 h4 v2 w2=>?_
   have tf:A0.get l0.n=.cells (oy pa pb pr ps).c 141 none:=by rw[w2 _ (by omega)];exact o2
   have tt:A0.get z0.n=.cells (Ly pa pb pr ps).c 141 none:=v2
   have B0:∀c,c < l0.n->A0.get c=l0.get c:=by grind
   refine aW (λvs m' lo=>vs=[.bool (decide (oy pa pb pr ps=Ly pa pb pr ps\/0 < tm (oy pa pb pr ps) (Ly pa pb pr ps)))]/\m'=A0/\m.n<=lo) (λR hR=>?_) ?_
   ·rw[bS tf,ae,bS tt,ae,V5,ae,aj];refine ak (λh=>?_) (λh=>?_)
    ·have h:=aba h;exact hR _ _ _ ⟨by grind,rfl,by omega⟩
    ·have h:=aa6 h
     refine aE (th hX _ _) ?_
     rw[bV,ae]
     refine hR _ _ _ ⟨?_,rfl,by omega⟩
     congr 2
     rw[decide_eq_decide]
     exact⟨λq=> .inr q,λq=>q.resolve_left h⟩
   rintro _ d0 p0 ⟨rfl,rfl,C0⟩
   rw[aB,aj]
   refine ak (λh=>?_) (λh=>?_)
   ·have h:=aba h;exact skip (by unfold sK;rw[abd o0,abe h]) d0 p0 (by omega) (λc hc=>B0 c hc) C0
   have y2:=aa6 h
   rw[bS (by rw[B0 _ (by omega)];exact ta),ae,bS (by rw[B0 _ (by omega)];exact tb),ae]
   refine aE (th hX _ _) ?_
   rw[bV,ae,aj]
   have a3:d0.get m1.n=.cells sJ 143 none:=by grind
   have b3:d0.get m2.n=.cells [aeS] 4 none:=by grind
   have fin:∀(x:Pl×Pl) (mm:M) (F:Nat->Nat->Nat),sK pa pb pr ps=some x->mm.n=d0.n->(∀c,c < l0.n->mm.get c=d0.get c)->m.n<=F m1.n m2.n->
     aP (aD TE mm 143 (aeK m1.n 0) (.agg (jB x.1 x.2).toArray)) λF0 z2=>aP (aD TE F0 4 (aeK m2.n 0) aeR) λh0 A2=>
      m.n<=F z2 A2/\(∀c,b0.n<=c->c < r0.n->(c=b0.n\/False)->h0.get c=l0.get c)/\(b0.n<=h0.n/\True/\∃x,yl a b=some x/\h0.get m1.n=.cells (jB x.1 x.2) 143 none/\h0.get m2.n=.cells [aeR] 4 none/\h0.get a0.n=j0.get a0.n):=by
    intro x mm F c3 T2 s0 n0
    refine aC oU ((s0 m1.n (by omega)).trans a3) rfl rfl rfl λF0 d3 Q0 u0=>?_
    refine aC Fp ((u0 m2.n (by omega)).trans ((s0 m2.n (by omega)).trans b3)) rfl rfl rfl λh0 e3 a1 v0=>?_
    refine⟨n0,by grind,by omega,trivial,x,?_,by rw[v0 _ (by omega)];exact Q0,a1,?_⟩
    ·unfold yl;refine pL H2 h3 ?_;unfold Hu;rw[ea,eb];refine pL N2 (λj hj=>q3 j hj) ?_;rw[er,es];exact c3
    ·rw[v0 _ (by omega),u0 _ (by omega),s0 _ (by omega),B0 _ (by omega),N0 _ (by omega),e0.get _ (by omega)]
   refine ak (λh=>?_) (λh=>?_)
   ·have h:=aba h;rw[bS tt,ae,bS tf,ae];refine aC dh tf rfl rfl rfl λj4 g3 b1 c1=>?_;refine aC dh ((c1 z0.n (by omega)).trans tt) rfl rfl rfl λB2 i3 d1 e1=>?_;rw[bS (p:=Ly pa pb pr ps) (by rw[e1 _ (by omega)];exact b1),ae,bS (p:=oy pa pb pr ps) d1,ae,lL,ae];exact fin (Ly pa pb pr ps,oy pa pb pr ps) B2 (λa b=>min (min (min (min (min p0 d0.n) l0.n) z0.n) a) b) (by unfold sK;rw[abd o0,abd y2,abe h]) (by omega) (by grind) (by omega)
   ·have h:=aa6 h;rw[bS tf,ae,bS tt,ae,lL,ae];exact fin (oy pa pb pr ps,Ly pa pb pr ps) d0 (λa b=>min (min (min p0 d0.n) a) b) (by unfold sK;rw[abd o0,abd y2,abd h]) rfl (λ_ _=>rfl) (by omega)
  ·rintro mm fS ⟨q1,q2,q3⟩ n0;refine⟨by omega,λc j3 k3 i1=>?_,by omega,by grind,λj hj=>?_⟩
   ·rcases i1 with rfl |h;·rw[q2 _ (by omega),e0.get _ (by omega)]
    exact h.elim
   by_cases e:j=i
   ·subst e;unfold Hu;rw[ea,eb];rw[qG]at q3;exact rj q3
   exact h3 j (by omega)
  ·rintro e mm fS l3 ⟨q0,rfl,x,q1,q2,q3,q4⟩ n0;refine⟨_,abE.2 rfl,rfl,?_⟩;dsimp only;refine⟨by omega,λc j3 k3 i1=>?_,rfl,x,q1,q2,q3⟩;rcases i1 with rfl |h;·exact q4
   exact h.elim
 ·rintro mm fS ⟨h1,h2,h3⟩ n0;rw[qG]at h3;have e':mO a b=none:=by rw[e];unfold yl;exact rj h3
  rw[pV,ae];refine aC oU ((h2 m1.n (by omega)).trans k1) rfl rfl rfl λk4 n3 j1 o1=>?_;refine aC Fp ((o1 m2.n (by omega)).trans ((h2 m2.n (by omega)).trans k2)) rfl rfl rfl λl4 o3 p1 r1=>?_;refine yj (o:=none) (b:=false) (by rw[r1 _ (by omega)];exact j1) p1 ⟨by rw[e'];rfl,by omega⟩
 rintro e2 mm fS l3 ⟨rfl,x,q1,q2,q3⟩ n0;refine⟨_,abE.2 rfl,rfl,?_⟩;dsimp only;have e':mO a b=some x:=by grind
 refine yj (o:=some x) (b:=true) q2 q3 ⟨by rw[e'];rfl,by omega⟩
end
section
section
variable {X:aK}{x0 x1 x2:aeM}{m:M}{R:aeN->M->Nat->Prop}
theorem F86:eL TE (aL TE X) f86 [x0,x1] m R=ρ m x0 60 λa=>ρ a x1 60 λb=>ς b [φ 0,φ 0,φ 0,φ 0,φ 0,φ 0,φ 0,φ 0] 145 λc=>δ c 60 (υ m) λd=>δ c 60 (υ a) λf=>χ X 148 [d,f] c λc d f=>ξ c 0 λg=>ξ c 1 λh=>ξ c 2 λc=>ο .not c λc=>aR c (θ 145 [] λa=>ι d 145 (υ b) a λa c=>ai (ah TE a 145 (υ b)) λb=>R [b,aeS] a (ψ m.n f c)) (ε 60 (υ m) 3 λc=>δ d 58 c λc=>ε 60 (υ a) 3 λi=>δ d 58 i λi=>χ X 149 [c,i] d λc d i=>ξ c 0 λj=>ξ c 1 λc=>ς d [φ 0,φ 0,φ 0,φ 0] 143 λk=>ι k 143 (υ d) j λj k=>ο .not c λc=>aR c (θ 145 [] λa=>ι j 145 (υ b) a λa c=>ai (ah TE a 145 (υ b)) λb=>R [b,aeS] a (Γ m.n f i k c)) (ε 60 (υ m) 0 λc=>δ j 3 c λc=>ε 60 (υ a) 0 λa=>δ j 3 a λa=>δ j 143 (υ d) λd=>θ 145 [(0,c),(1,a),(2,d),(3,g),(4,h)] λa=>ι j 145 (υ b) a λa c=>ai (ah TE a 145 (υ b)) λb=>R [b,aeR] a (Γ m.n f i k c))):=by kernel_rfl
theorem F85:eL TE (aL TE X) f85 [x0] m R=ρ m x0 60 λa=>δ a 60 (υ m) λb=>χ X 116 [b] a λa b c=>ο .not a λa=>aR a (R [aeQ] b (min m.n c)) (ς b [aeQ] 35 λa=>ε 60 (υ m) 3 λd=>δ a 58 d λd=>κ a .len [58] [d] λd _=>Lp (λa c f g=>un c λc _=>η .lss 3 c d λd=>aR d (ν f 26 1 [(0,c)] λd f=>χ X 147 [d,υ b,υ m] f λ_ b d=>η .add 3 c (φ 1) λc=>a [c] b (min g d)) (ν f 26 2 [(0,(φ (-1))),(1,(φ (-2)))] λa c=>χ X 147 [a,υ b,υ m] c λ_ a c=>δ a 35 (υ b) λb=>R [b] a (min g c))) [φ 0] a (min m.n c)):=by kernel_rfl
theorem aal:eL TE (aL TE X) f147 [x0,x1,x2] m R=κ m .len [26] [x0] λa _=>Lp (λb c d f=>un c λc _=>η .lss 3 c a λa=>aR a (ζ 26 x0 c λa=>δ d 3 a λa=>δ d 35 x1 λg=>ε 60 x2 0 λh=>δ d 3 h λh=>θ 53 [(0,h),(1,a)] λa=>ν d 35 1 [(0,a)] λa d=>κ (M.wl d d.n) .append [35,35] [g,a] λa d=>ι d 35 x1 a λa g=>η .add 3 c (φ 1) λc=>b [c] a (ψ f (M.low d) g)) (R [] d f)) [φ 0] m m.n:=by kernel_rfl
end
end
section
variable {X:aK} {m:M}
def Dc:Option Ct->aeN
 |some x=>x.c'
 |none=>Ct.zc
theorem eP(o:Option Ct):(Dc o).length=8:=by cases o <;>rfl
theorem nW(o:Option Ct):(Dc o).all one:=by cases o <;>rfl
theorem mB{mm:M}{bl:Nat}{cs:aeN}{g:Option Nat}{o:Option Ct}(h0:mm.get bl=.cells cs 145 g)(hl:cs.length=8){P:aeM->M->Nat->Prop}(hP:∀m',m'.n=mm.n->P (.agg (Dc o).toArray) m' bl):
  aP (aD TE mm 145 (aeK bl 0) (.agg (Dc o).toArray)) λm' b=>ai (ah TE m' 145 (aeK bl 0)) λv=>P v m' b:=by
 refine aC oT h0 (by rw[aT];show(Dc o).length=8;exact eP o) (by rw[aT,hl];exact eP o) (by rw[aT];exact nW o) λm' hn hg hk=>?_
 rw[aT]at hg
 have hg:m'.get bl=.cells (Dc o) 145 g:=hg
 rw[Ee,aN hg (by rw[eP];exact aa4 _)]
 have e:((Dc o).drop 0).take 8=Dc o:=by rw[abU,aby (by rw[eP];exact aa4 _)]
 rw[e]
 show ai (some (Value.agg (Dc o).toArray)) _
 rw[ae]
 grind
theorem kS:aJ TE 145 []=some (.agg (Dc none).toArray):=by kernel_rfl
theorem tZ{a b x y:Int}{p q:Pl}:aJ TE 145 [(0,.int .i64 a),(1,.int .i64 b),(2,.agg (jB p q).toArray),(3,.int .i64 x),(4,.int .i64 y)]=some (.agg (Dc (some ⟨a,b,p,q,x,y⟩)).toArray):=by kernel_rfl
theorem fG(o:Option (Pl×Pl)):(iE o).length=4:=by cases o <;>rfl
theorem uL(o:Option (Pl×Pl)):(iE o).all one:=by cases o <;>rfl
theorem Sa{a b:Un}(h:ke a b):jO a/\jO b:=by
 unfold ke at h
 grind
theorem IV(hX:cC X)(hS:Sq X){a b:Un}{va vb:aeM}(ha:Sl m a.shape va)(hb:Sl m b.shape vb)(la:a.shape.length < 1000000)(lb:b.shape.length < 1000000):
  C X (.func 86) [a.v va,b.v vb] m m.n (.tuple #[.agg (Dc (jP a b)).toArray,.bool (jP a b).isSome]) m:=by
 refine Cl.flat (hX.no _ rfl) (aa3 func86) rfl (by cases jP a b <;>rfl) ?_
 rw[F86];dsimp only[δ,ε,θ,ι,ξ,ο,ρ,ς,υ,φ,χ,Γ,ψ]
 refine av λm1 s0 k0 u0=>?_
 refine av λm2 v0 l0 y0=>?_
 refine av λm3 z0 n0 A0=>?_
 simp only[aT]at k0 l0
 have g0:Ext m m3:=⟨by omega,by grind⟩
 have g1:m3.get m.n=.cells (a.c va) 60 none:=by grind
 have g2:m3.get m1.n=.cells (b.c vb) 60 none:=by grind
 have g3:m3.get m2.n=.cells Ct.zc 145 none:=n0
 obtain⟨a0, -, -,a3,a4,a5⟩:=kU g1
 obtain⟨b0, -, -,b3,b4,b5⟩:=kU g2
 have h0:=ha.aF g0
 have i0:=hb.aF g0
 unfold ptrTo
 rw[bT g1,ae,bT g2,ae]
 refine aE (vJ (m:=m3) hX h0 i0 (by omega) (by omega)) ?_
 rw[aH,aH,aH]
 simp only[aa8,aa7,ae]
 rw[bj,ae,aj]
 refine ak (λh=>?_) (λh=>?_)
 ·have h:ke a b=false:=by grind
  have e:jP a b=none:=by unfold jP;rw[abd (by grind)]
  rw[kS,ae];refine mB g3 rfl λm' hn=>?_;rw[e];exact⟨rfl,by omega⟩
 have h:ke a b:=by grind
 have B0:=Sa h
 have e:jP a b=(mO a.shape b.shape).map λs=>⟨a.id,b.id,s.1,s.2,max a.back b.back,min a.front b.front⟩:=by unfold jP;rw[abe h]
 rw[bH,ae,a3,ae,bH,ae,b3,ae]
 refine aE (QU hX hS h0 i0 la lb) ?_
 rw[aH,aH]
 simp only[aa8,aa7,ae]
 refine av λC0 o0 j0 p0=>?_
 refine aC oU j0 (by rw[aT];exact fG _) (by rw[aT];exact fG _) (by rw[aT];exact uL _) λe0 q0 d0 r0=>?_
 rw[aT]at d0
 have d0:e0.get m3.n=.cells (iE (mO a.shape b.shape)) 143 none:=d0
 have D0:∀c,c < m3.n->e0.get c=m3.get c:=by grind
 have r3:e0.get m2.n=.cells Ct.zc 145 none:=by grind
 rw[bj,ae,aj]
 cases hs:mO a.shape b.shape with
 |none=>show iW true _ _;rw[bL,kS,ae];refine mB r3 rfl λm' hn=>?_;rw[e,hs];exact⟨rfl,by omega⟩
 |some s=>
  show iW false _ _;rw[aO];have r1:e0.get m.n=.cells (a.c va) 60 none:=by grind
  have r2:e0.get m1.n=.cells (b.c vb) 60 none:=by grind
  rw[hs]at d0;rw[bs,ae,(kU r1).1,ae,bs,ae,(kU r2).1,ae];rw[show ah TE e0 143 (aeK m3.n 0)=some (.agg (jB s.1 s.2).toArray) by rw[mY,aN d0 (by rw[fG];exact aa4 _)];rfl,ae,tZ,ae];refine mB r3 rfl λm' hn=>?_;rw[e,hs];exact⟨rfl,by omega⟩
end
section
variable {X:aK} {m:M}
theorem _root_.Go.D.Sl.P3{l:List Int}{v:aeM}(h:Sl m l v){i:Nat}{n:Int}(hi:l[i]?=some n){k:IntKind}:∃a,an TE 26 v (.int k i)=some a/\ah TE m 3 a=some (aeP n):=by have⟨a,cs,h1,h2,h3⟩:=h.index dV (k:=k) hi;rw[show cs=[aeP n]from h3]at h2;exact⟨a,h1,h2⟩
theorem Gc{α:Type}{l l':List α}(hl:l.length=l'.length)(h:∀j x y,j < l.length->l[j]?=some x->l'[j]?=some y->x=y):l=l':=by
 refine aco λi=>?_
 grind
theorem NU{p q:Pl}:az TE .neq 141 p.v q.v=some (.bool (!(decide (p=q)))):=by
 have e:az TE .neq 141 p.v q.v=(eq? TE 141 p.v q.v).map (λb=> .bool (!b)):=by kernel_rfl
 rw[e,Ta];rfl
end
section
variable {X:aK} {m:M}
theorem PW{a b:Int}:aJ TE 53 [(0,.int .i64 a),(1,.int .i64 b)]=some (Fc.mk a b).v:=by kernel_rfl
theorem T3{x:Fc}:aG TE m 35 1 [(0,x.v)]=some (.slice (some ⟨m.n,0,none⟩) 1 1,m.push (.cells x.c 53 none)):=by kernel_rfl
theorem Bb(hX:cC X){n1 oc uo:Nat}{u:Un}{w r x0:aeM}{acc:List Fc}{ss:List Int}(k0:m.get oc=.cells [r] 35 none)(hu:m.get uo=.cells (u.c w) 60 none)
  (h1:oc < n1) (h2:uo < n1) (s0:uo≠oc) (hn:n1<=m.n) (hw:Ow n1 m acc r) (hs:Sl m ss x0) (u0:acc.length+ss.length < 1000000) (v0:0 < ss.length):
  ∃m' b r',C X (.func 147) [x0,aeK oc 0,aeK uo 0] m b (.tuple #[]) m'/\oc<=b/\m'.get oc=.cells [r'] 35 none/\Ow n1 m' (acc++ss.map (Fc.mk u.id)) r'/\m.n<=m'.n/\∀c,c < n1->c≠oc->m'.get c=m.get c:=by
 have key:=Cl.heap (E:=TE) (X:=X) (f:=147) (args:=[x0,aeK oc 0,aeK uo 0]) (m:=m) (R:=λv' m' b=>v'=.tuple #[]/\oc<=b/\∃r',m'.get oc=.cells [r'] 35 none/\Ow n1 m' (acc++ss.map (Fc.mk u.id)) r'/\m.n<=m'.n/\∀c,c < n1->c≠oc->m'.get c=m.get c) (hX.no _ rfl) (aa3 func147) rfl ?_
 ·obtain⟨v',m',b,hc,rfl,hb,r',k1,k2,k3,k4⟩:=key;exact⟨m',b,r',hc,hb,k1,k2,k3,k4⟩
 rw[aal];dsimp only[δ,ε,ζ,η,θ,ι,κ,ν,φ,ψ];rw[hs.len dV,aA];refine Lp.intro (γ:=Nat) (λi=>ss.length-i) (λi vs mm lo=>vs=[aeP i]/\i<=ss.length/\(i=0\/lo<=oc)/\oc<=lo/\m.n<=mm.n/\Sl mm ss x0/\(∀c,c < n1->c≠oc->mm.get c=m.get c)/\∃r',mm.get oc=.cells [r'] 35 none/\Ow n1 mm (acc++(ss.take i).map (Fc.mk u.id)) r') 0 ⟨rfl,abh _,.inl rfl,by omega,aa4 _,hs,λ_ _ _=>rfl,r,k0,by grind⟩ ?_;rintro i vs mm lo ⟨rfl,hi,q0,y0,l0,e0,n0,r',hr,d0⟩;rw[aB,aM,ae,aj];refine ak (λg0=>?_) (λz0=>?_)
 ·have g0:i < ss.length:=by grind
  obtain⟨s,h0⟩:∃s,ss[i]?=some s:=⟨_,aa5 g0⟩
  have⟨q,e1,e2⟩:=e0.P3 (k:=.i64) h0;have o0:mm.get uo=.cells (u.c w) 60 none:=by grind
  rw[e1,ae,e2,ae,show ah TE mm 35 (aeK oc 0)=some r' by rw[qC,aI hr];rfl,ae,bs,ae,(kU o0).1,ae,PW,ae,T3,aA];obtain⟨m16,a0⟩:∃x,x=mm.push (.cells (Fc.mk u.id s).c 53 none):=⟨_,rfl⟩
  rw[<-a0];have b0:Ext mm m16:=by rw[a0];exact Ext.refl.push
  have r0:m16.n=mm.n+1:=by rw[a0];rfl
  have i0:m16.get mm.n=.cells (Fc.mk u.id s).c 53 none:=by rw[a0];exact M.aU
  have j0:=iD (m:=m16) (x:=Fc.mk u.id s) i0 rfl;obtain⟨r2,m18,m19,a1,a2,a3,a4,a5,a6,a7,a8⟩:=SM (T:=35) Hb rfl MR rfl (m:=mm) (m1:=m16) (x:=Fc.mk u.id s) hr (o:=0) rfl h1 (by omega) d0 b0 j0 (by grind);rw[a1,aA,a2,aA,aQ,ae,wrap64 (by omega) (by omega)];refine⟨i+1,by omega,rfl,by omega,.inr (by omega),by omega,by omega,?_,by grind,r2,a4,?_⟩
  ·refine(e0.aF b0).aY λb c t g hb ht=>?_;have ht:t=3:=abE.1 ht;subst ht;rw[a8 b (M.bk hb) (λe=>?_) (λcs g' h'=>?_),hb]
   ·rw[e,b0.cells hr]at hb;cases hb
   rw[h']at hb;cases hb
  rw[abt,h0];simp only[ab9,abM,acN,adp];rw[<-abL];exact a5
 have p0:i=ss.length:=by
  have:¬(i:Int)< (ss.length:Int):=by grind
  omega
 subst p0;rw[abR]at d0;exact⟨.inr (by omega),rfl,by omega,r',hr,d0,l0,n0⟩
def nT(u:Un):List Fc:=if jO u then(List.range u.shape.length).map (λi=>Fc.mk u.id (i:Nat))++ [⟨u.id, -1⟩,⟨u.id, -2⟩]else []
theorem EC(hX:cC X){u:Un}{w:aeM}(ha:Sl m u.shape w)(la:u.shape.length < 1000000):
  ∃m' v,C X (.func 85) [u.v w] m m.n v m'/\Ext m m'/\Ow m.n m' (nT u) v:=by
 have key:=Cl.gen (E:=TE) (X:=X) (f:=85) (args:=[u.v w]) (m:=m) (R:=λv' m' b=>b=m.n/\Ext m m'/\Ow m.n m' (nT u) v') (hX.no _ rfl) (aa3 func85) rfl ?_
 ·obtain⟨v',m',b,hc,rfl,hx,hw⟩:=key;exact⟨m',v',hc,hx,hw⟩
 rw[F85];dsimp only[δ,ε,η,κ,ν,ο,ρ,ς,υ,φ,χ];refine av λm1 D0 i0 E0=>?_;simp only[aT]at i0;have j0:Ext m m1:=⟨by omega,by grind⟩
 have g1:m1.get m.n=.cells (u.c w) 60 none:=i0;have k0:=ha.aF j0;unfold ptrTo;rw[bT g1,ae];refine aE (mI hX k0 (by omega)) ?_;rw[bj,ae,aj];refine ak (λh=>?_) (λh=>?_)
 ·have h:jO u=false:=by grind
  refine .inl ⟨rfl,by omega,rfl,.refl,?_⟩;unfold nT;rw[abd (by grind)];exact Ow.nil
 have h:jO u:=by grind
 have h8:=jt h;refine av λm7 F0 u0 v0=>?_;have h0:Ext m1 m7:=⟨by omega,v0⟩
 have g7:m7.get m.n=.cells (u.c w) 60 none:=h0.cells g1;rw[bH,ae,(kU g7).2.2.2.1,ae,(k0.aF h0).len cx,aA];refine Lp.intro (γ:=Nat) (λi=>u.shape.length-i) (λi vs mm lo=>vs=[aeP i]/\i<=u.shape.length/\m.n<=lo/\m7.n<=mm.n/\(∀c,c < m7.n->c≠m1.n->mm.get c=m7.get c)/\∃r',mm.get m1.n=.cells [r'] 35 none/\Ow m7.n mm ((List.range i).map λi=>Fc.mk u.id (i:Nat)) r') 0 ⟨rfl,abh _,by omega,aa4 _,λ_ _ _=>rfl,_,u0,Ow.nil⟩ ?_;rintro i vs mm lo ⟨rfl,hi,G0,H0,l0,r',hr,n0⟩;have o0:mm.get m.n=.cells (u.c w) 60 none:=by grind
 rw[aB,aM,ae,aj];refine ak (λy0=>?_) (λI0=>?_)
 ·have y0:i < u.shape.length:=by grind
  rw[Q6,aA];obtain⟨m19,a0⟩:∃x,x=mm.push (.cells [.int .i64 (i:Int)] 3 none):=⟨_,rfl⟩
  rw[<-a0];have b0:Ext mm m19:=by rw[a0];exact Ext.refl.push
  have B0:m19.n=mm.n+1:=by rw[a0];rfl
  have p0:m19.get mm.n=.cells [aeP (i:Int)] 3 none:=by rw[a0];exact M.aU
  obtain⟨m21,J0,r2,hc,hb,q1,q2,q3,q4⟩:=Bb (m:=m19) hX (n1:=m7.n) (ss:=[(i:Int)]) (b0.cells hr) (b0.cells o0) (by omega) (by omega) (by omega) (by omega) (n0.aF b0) (Fy p0) (by grind) (by simp);refine aE hc ?_;rw[aQ,ae,wrap64 (by omega) (by omega)];refine⟨i+1,by omega,rfl,by omega,by omega,by omega,λc q0 r0=>by rw[q4 c q0 r0,b0.get c (by omega),l0 c q0 r0],r2,q1,?_⟩;rw[acO,abM];exact q2
 have z0:i=u.shape.length:=by
  have:¬(i:Int)< (u.shape.length:Int):=by grind
  omega
 subst z0;rw[S5,aA];obtain⟨g0,d0⟩:∃x,x=mm.push (.cells [.int .i64 (-1),.int .i64 (-2)] 3 none):=⟨_,rfl⟩
 rw[<-d0];have e0:Ext mm g0:=by rw[d0];exact Ext.refl.push
 have C0:g0.n=mm.n+1:=by rw[d0];rfl
 have s0:g0.get mm.n=.cells [aeP (-1),aeP (-2)] 3 none:=by rw[d0];exact M.aU
 obtain⟨A0,K0,r2,hc,hb,q1,q2,q3,q4⟩:=Bb (m:=g0) hX (n1:=m7.n) (ss:=[-1, -2]) (e0.cells hr) (e0.cells o0) (by omega) (by omega) (by omega) (by omega) (n0.aF e0) (Dz s0) (by grind) (by simp);refine aE hc ?_;rw[show ah TE A0 35 (aeK m1.n 0)=some r2 by rw[qC,aI q1];rfl,ae];refine .inr ⟨.inl (q2.flat (by simp)),by omega,⟨by omega,λc hc=>by rw[q4 c (by omega) (by omega),e0.get c (by omega),l0 c (by omega) (by omega),h0.get c (by omega),j0.get c hc]⟩,?_⟩;unfold nT;rw[abe h];exact q2.mono (by omega)
end
section
variable {X:aK} {m:M}
theorem SP{α:Type}[aZ α](a0:aZ.eB α=[]){n1:Nat}{m m':M}{l:List α}{r:aeM}(h:Ow n1 m l r)(hk:∀a n k,r=.slice (some a) n k->m'.get a.block=m.get a.block):Ow n1 m' l r:=by
 rcases h with h |⟨b,cs,rfl,h2,h3,h4,h5,h6⟩;·exact .inl h
 ·refine .inr ⟨b,cs,rfl,h2,h3,by grind,h5,λi x hi=>aZ.aY (h6 i x hi) λb c t g _ ht=>?_⟩
  grind
theorem Cj{x:Ct}{b:Nat}{g:Option Nat}(h:m.get b=.cells x.c' 145 g):ah TE m 145 (aeK b 0)=some x.v:=by rw[Ee,aN (o:=0) (n:=8) h (by simp_all)];rfl
theorem FT{x:Ct}:aG TE m 138 1 [(0,x.v)]=some (.slice (some ⟨m.n,0,none⟩) 1 1,m.push (.cells x.c' 145 none)):=by kernel_rfl
end
section
section
variable {X:aK}{x0 x1 x2:aeM}{m:M}{R:aeN->M->Nat->Prop}
theorem Zr:eL TE (aL TE X) f239 [x0,x1,x2] m R=jn (λa=>η .leq 3 x1 x0 λb=>aR b (η .leq 3 x0 x2 λb=>a [b] m m.n) (a [aeS] m m.n)) (λa b c=>un a λa _=>R [a] b c):=by kernel_rfl
theorem Zq:eL TE (aL TE X) f240 [x0] m R=χ X 239 [x0,φ 0,φ 99] m λa b c=>R [a] b (min m.n c):=by kernel_rfl
theorem ZM:eL TE (aL TE X) f199 [x0] m R=ρ m x0 137 λa=>jn (λb=>ε 137 (υ m) 0 λc=>δ a 3 c λc=>χ X 239 [c,φ 0,φ 99] a λa c d=>aR a (ε 137 (υ m) 1 λa=>δ c 3 a λa=>χ X 240 [a] c λa c f=>aR a (ε 137 (υ m) 2 λa=>δ c 3 a λa=>χ X 239 [a,φ (-2),φ 7] c λa c g=>aR a (ε 137 (υ m) 3 λa=>δ c 3 a λa=>χ X 239 [a,φ 1,φ 5] c λa c h=>b [a] c (Γ m.n d f g h)) (b [aeS] c (ω m.n d f g))) (b [aeS] c (ψ m.n d f))) (b [aeS] c (min m.n d))) (λa b c=>un a λa _=>R [a] b c):=by kernel_rfl
theorem aag:eL TE (aL TE X) f153 [x0] m R=ρ m x0 33 λa=>ε 33 (υ m) 1 λb=>δ a 31 b λb=>κ a .len [31] [b] λc _=>Lp (λa d f g=>un d λd h=>un h λh i=>un i λi _=>η .lss 3 i c λc=>aR c (ζ 31 b i λb=>δ f 137 b λb=>ς f [φ 0,φ 0,φ 0,φ 0,aeS] 137 λc=>ι c 137 (υ f) b λb c=>ε 33 (υ m) 0 λj=>δ b 30 j λj=>ε 137 (υ f) 1 λk=>δ b 3 k λk=>χ X 198 [j,k] b λb j k=>ξ b 0 λl=>ξ b 1 λb=>ς j [φ 0,φ 0,φ 0,aeQ,φ 0,φ 0] 60 λn=>ι n 60 (υ j) l λl n=>jn (λa=>ο .not b λb=>aR b (a [aeR] l (ω g c k n)) (δ l 137 (υ f) λb=>χ X 199 [b] l λb d i=>ο .not b λb=>aR b (a [aeR] d (Γ g c k n i)) (ε 137 (υ f) 0 λb=>δ d 3 b λb=>η .leq 3 b h λb=>aR b (a [aeR] d (Γ g c k n i)) (ε 137 (υ f) 2 λb=>δ d 3 b λb=>ε 60 (υ j) 3 λf=>δ d 58 f λf=>κ d .len [58] [f] λf _=>η .geq 3 b f λb=>a [b] d (Γ g c k n i))))) (λb c g=>un b λb _=>aR b (R [aeS] c g) (ε 137 (υ f) 0 λb=>δ c 3 b λb=>η .add 3 i (φ 1) λf=>a [d,b,f] c g))) (ε 33 (υ m) 1 λa=>δ f 31 a λa=>κ f .len [31] [a] λa _=>η .leq 3 a (φ 20) λa=>R [a] f g)) [aeS,φ (-1),φ 0] a m.n:=by kernel_rfl
theorem F91:eL TE (aL TE X) f91 [x0] m R=ρ m x0 33 λa=>jn (λb=>ε 33 (υ m) 0 λc=>δ a 30 c λc=>χ X 152 [c] a λa c d=>aR a (δ c 33 (υ m) λa=>χ X 153 [a] c λa c f=>b [a] c (ψ m.n d f)) (b [aeS] c (min m.n d))) (λa b c=>un a λa _=>R [a] b c):=by kernel_rfl
theorem aaw:eL TE (aL TE X) f125 [x0,x1] m R=η .lss 3 x0 (φ 0) λa=>aR a (η .add 3 x0 (φ 1) λa=>ο .neg a λa=>η .rem 3 a x1 λa=>R [a] m m.n) (η .rem 3 x0 x1 λa=>R [a] m m.n):=by kernel_rfl
theorem aav:eL TE (aL TE X) f126 [x0,x1] m R=ρ m x1 137 λa=>Lp (λa b c d=>un b λb f=>un f λf g=>un g λg h=>un h λh i=>un i λi _=>κ c .len [31] [x0] λj _=>η .lss 3 i j λj=>aR j (ζ 31 x0 i λj=>ε 137 j 0 λj=>δ c 3 j λj=>ε 137 (υ m) 0 λk=>δ c 3 k λk=>η .eql 3 j k λj=>aR j (R [aeQ,aeS] c d) (jn (λa=>ο .not h λb=>aR b (ζ 31 x0 i λb=>ε 137 b 0 λb=>δ c 3 b λb=>ε 137 (υ m) 0 λf=>δ c 3 f λf=>η .gtr 3 b f λb=>a [b] c d) (a [aeS] c d)) (λc d j=>un c λc _=>aR c (δ d 137 (υ m) λc=>ν d 31 1 [(0,c)] λc d=>κ (M.wl d d.n) .append [31,31] [g,c] λc d=>ζ 31 x0 i λg=>δ d 137 g λg=>ν d 31 1 [(0,g)] λg h=>κ (M.wl h h.n) .append [31,31] [c,g] λc g=>η .add 3 i (φ 1) λh=>a [b,f,c,aeR,h] g (ψ j (M.low d) (M.low g))) (ζ 31 x0 i λc=>δ d 137 c λc=>ν d 31 1 [(0,c)] λc d=>κ (M.wl d d.n) .append [31,31] [g,c] λc d=>η .add 3 i (φ 1) λg=>a [b,f,c,h,g] d (min j (M.low d)))))) (ο .not h λa=>aR a (δ c 137 (υ m) λa=>ν c 31 1 [(0,a)] λa b=>κ (M.wl b b.n) .append [31,31] [g,a] λa b=>R [a,aeR] b (min d (M.low b))) (R [g,aeR] c d))) [aeQ,aeS,aeQ,aeS,φ 0] a m.n:=by kernel_rfl
theorem F65:eL TE (aL TE X) f65 [x0] m R=ρ m x0 25 λa=>ς a [aeQ,aeQ] 33 λb=>ε 25 (υ m) 0 λc=>δ b 22 c λc=>χ X 124 [c] b λb c d=>θ 33 [(0,b)] λb=>ς c [aeQ,aeQ] 33 λf=>ι f 33 (υ c) b λb f=>Lp (λb d f g=>un d λd _=>jn (λa=>ε 25 (υ m) 1 λb=>δ f 23 b λb=>κ f .len [23] [b] λb _=>η .lss 3 d b λb=>aR b (η .lss 3 d (φ 8) λb=>aR b (ε 33 (υ c) 0 λb=>ε 30 b 0 λb=>δ f 28 b λb=>κ f .len [28] [b] λb _=>η .gtr 3 b (φ 0) λb=>a [b] f g) (a [aeS] f g)) (a [aeS] f g)) (λf g h=>un f λf _=>aR f (ε 25 (υ m) 1 λa=>δ g 23 a λa=>ζ 23 a d λa=>δ g 153 a λa=>ς g [φ 0,φ 0,φ 0,φ 0] 153 λf=>ι f 153 (υ g) a λa f=>ε 33 (υ c) 0 λi=>ε 30 i 0 λi=>δ a 28 i λi=>ζ 153 (υ g) (φ 1) λj=>δ a 3 j λj=>ε 33 (υ c) 0 λk=>ε 30 k 0 λk=>δ a 28 k λk=>κ a .len [28] [k] λk _=>χ X 125 [j,k] a λj k l=>(a.n<=l)/\(ζ 28 i j λa=>δ k 60 a λa=>ς k [φ 0,φ 0,φ 0,aeQ,φ 0,φ 0] 60 λi=>ι i 60 (υ k) a λa i=>ζ 153 (υ g) (φ 0) λj=>δ a 3 j λj=>χ X 125 [j,φ 12] a λj n o=>(a.n<=o)/\(ε 60 (υ k) 0 λa=>δ n 3 a λa=>ζ 153 (υ g) (φ 2) λp=>δ n 3 p λp=>ε 60 (υ k) 3 λk=>δ n 58 k λk=>κ n .len [58] [k] λk _=>η .add 3 k (φ 2) λk=>χ X 125 [p,k] n λk p q=>(n.n<=q)/\(η .sub 3 k (φ 2) λk=>ζ 153 (υ g) (φ 3) λn=>δ p 3 n λn=>χ X 125 [n,φ 5] p λn r s=>(p.n<=s)/\(η .add 3 (φ 1) n λn=>ζ 153 (υ g) (φ 3) λg=>δ r 3 g λg=>χ X 125 [g,φ 2] r λg p t=>(r.n<=t)/\(η .eql 3 g (φ 0) λg=>θ 137 [(0,j),(1,a),(2,k),(3,n),(4,g)] λa=>ς p [φ 0,φ 0,φ 0,φ 0,aeS] 137 λg=>ι g 137 (υ p) a λa g=>ε 33 (υ c) 1 λj=>δ a 31 j λj=>δ a 137 (υ p) λk=>χ X 126 [j,k] a λa j k=>ξ a 0 λn=>ξ a 1 λa=>aR a (ε 33 (υ c) 1 λa=>ι j 31 a n λa c=>η .add 3 d (φ 1) λd=>b [d] a (Ψ h f l i o q s t g k c)) (η .add 3 d (φ 1) λa=>b [a] j (Φ h f l i o q s t g k)))))))) (δ g 33 (υ c) λb=>ι g 33 (υ a) b λb c=>ai (ah TE b 33 (υ a)) λa=>R [a] b (min h c)))) [φ 0] b (ψ m.n d f):=by kernel_rfl
end
end
section
variable {X:aK} {m:M}
theorem qE(hX:cC X)(n lo hi:Int):C X (.func 239) [aeP n,aeP lo,aeP hi] m m.n (.bool (cQ n lo hi)) m:=by
 refine Cl.flat (hX.no _ rfl) (aa3 func239) rfl rfl ?_;rw[Zr];dsimp only[η];refine aW (λvs m2 a0=>vs=[.bool (cQ n lo hi)]/\m.n<=a0) (λR hR=>?_) ?_
 ·simp only[cp,ae,aj];refine ak (λh=>hR _ _ _ ⟨by simp[cQ,h],aa4 _⟩) (λh=>hR _ _ _ ⟨by simp[cQ,h],aa4 _⟩)
 rintro _ m2 a0 ⟨rfl,hl⟩;rw[aB];exact⟨rfl,hl⟩
theorem Kl(hX:cC X)(n:Int):C X (.func 240) [aeP n] m m.n (.bool (cQ n 0 99)) m:=by refine Cl.flat (hX.no _ rfl) (aa3 func240) rfl rfl ?_;rw[Zq];dsimp only[φ,χ];refine aE (qE hX _ _ _) ?_;exact⟨rfl,by omega⟩
theorem Db{b:Nat}{x:Mk}{g:Option Nat}(h:m.get b=.cells x.c 137 g):
  ah TE m 3 (aeK b (0+0))=some (aeP x.id)/\ah TE m 3 (aeK b (0+1))=some (aeP x.un)/\ah TE m 3 (aeK b (0+2))=some (aeP x.side)/\
  ah TE m 3 (aeK b (0+3))=some (aeP x.kind)/\ah TE m 137 (aeK b 0)=some x.v:=by
 refine⟨?_,?_,?_,?_,?_⟩;·rw[bI,aI h];rfl
 ·rw[bI,aI h];rfl
 ·rw[bI,aI h];rfl
 ·rw[bI,aI h];rfl
 rw[Ef,aN (o:=0) (n:=5) h (by grind)];rfl
def AK(x:Mk):Bool:=cQ x.id 0 99 && cQ x.un 0 99 && cQ x.side (-2) 7 && cQ x.kind 1 5
theorem Km(hX:cC X)(x:Mk):C X (.func 199) [x.v] m m.n (.bool (AK x)) m:=by
 refine Cl.flat (hX.no _ rfl) (aa3 func199) rfl rfl ?_;rw[ZM];dsimp only[δ,ε,ρ,υ,φ,χ,Γ,ψ,ω];refine av λm1 d0 b0 e0=>?_;have g1:m1.get m.n=.cells x.c 137 none:=b0;obtain⟨k0,k1,k2,k3, -⟩:=Db g1;unfold ptrTo;refine aW (λvs m2 a0=>vs=[.bool (AK x)]/\m.n<=a0) (λR hR=>?_) ?_
 ·rw[bW,ae,k0,ae];refine aE (qE hX _ _ _) ?_;rw[aj];refine ak (λh0=>?_) (λh0=>hR _ _ _ ⟨by unfold AK;rw[h0];rfl,by omega⟩);rw[dp,ae,k1,ae];refine aE (Kl hX _) ?_;rw[aj];refine ak (λh1=>?_) (λh1=>hR _ _ _ ⟨by unfold AK;rw[h0,h1];rfl,by omega⟩);rw[eF,ae,k2,ae];refine aE (qE hX _ _ _) ?_;rw[aj];refine ak (λh2=>?_) (λh2=>hR _ _ _ ⟨by unfold AK;rw[h0,h1,h2];rfl,by omega⟩);rw[kb,ae,k3,ae];refine aE (qE hX _ _ _) ?_;exact hR _ _ _ ⟨by unfold AK;rw[h0,h1,h2];rfl,by omega⟩
 rintro _ m2 a0 ⟨rfl,hl⟩;rw[aB];exact⟨rfl,hl⟩
structure iV(us:List Un)(ms:List Mk):Prop where
 len:ms.length<=20
 xN:ms.Pairwise λa b=>a.id < b.id
 ok:∀x∈ms,AK x=true
 un:∀x∈ms,∃u∈us,u.id=x.un/\x.side < u.shape.length
theorem _root_.Go.D.Sl.wE{l:List Mk}{v:aeM}(h:Sl m l v){i:Nat}{x:Mk}(hi:l[i]?=some x){k:IntKind}:∃a,an TE 31 v (.int k i)=some a/\ah TE m 137 a=some x.v:=by have⟨a,cs,h1,h2,h3⟩:=h.index dU (k:=k) hi;have h3:cs=x.c:=h3;subst h3;exact⟨a,h1,h2⟩
def Ic(ms:List Mk):Nat->Int
 |0=> -1
 |i+1=>match ms[i]? with |some x=>x.id |none=> -1
theorem Kb(hX:cC X){l:List UW}{v vm:aeM}{ms:List Mk}(h:dg m l v)(hP:cn (bP l))(hm:Sl m ms vm)(hM:iV (bP l) ms):C X (.func 153) [.agg #[v,vm]] m m.n aeR m:=by
 have i1:=hM.len;refine Cl.flat (hX.no _ rfl) (aa3 func153) rfl rfl ?_;rw[aag];dsimp only[δ,ε,ζ,η,ι,κ,ξ,ο,ρ,ς,υ,φ,χ,Γ,ω];refine av λm1 j1 B0 C0=>?_;have g1:m1.get m.n=.cells [v,vm] 33 none:=B0;have g0:Ext m m1:=⟨by omega,C0⟩
 unfold ptrTo;have p0:∀mm:M,mm.get m.n=.cells [v,vm] 33 none->ah TE mm 31 (aeK m.n (0+1))=some vm:=λmm hh=>by rw[nN,aI hh];rfl
 have D0:∀mm:M,mm.get m.n=.cells [v,vm] 33 none->ah TE mm 30 (aeK m.n (0+0))=some (.agg #[v]):=λmm hh=>by rw[ez,aN (n:=1) hh (by show 0+0+1<=2;decide)];rfl
 rw[cN,ae,p0 m1 g1,ae,(hm.aF g0).len dU,aA];refine Lp.intro (γ:=Nat) (λi=>ms.length-i) (λi vs mm lo=>vs=[aeS,aeP (Ic ms i),aeP i]/\i<=ms.length/\Ext m1 mm/\m.n<=lo) 0 ⟨rfl,abh _,.refl,aa4 _⟩ ?_;rintro i vs mm lo ⟨rfl,hi,hx,E0⟩;rw[aB,aB,aB,aM,ae,aj];have k1:=hx.n;refine ak (λj0=>?_) (λl1=>?_)
 ·have j0:i < ms.length:=by grind
  obtain⟨x,h0⟩:∃a,ms[i]?=some a:=⟨_,aa5 j0⟩
  have k0:=abb h0;have⟨u,hu,F0,G0⟩:=hM.un x k0
  have H0:cj (bP l) x.un=some u:=by have⟨j,hj⟩:=abx hu;rw[<-F0];exact pK hP hj
  have⟨q,e1,e2⟩:=((hm.aF g0).aF hx).wE (k:=.i64) h0;rw[e1,ae,e2,ae];refine av λm18 K0 q0 L0=>?_;refine aC uB q0 rfl rfl rfl λm19 N0 r0 O0=>?_;have b0:Ext mm m19:=⟨by omega,by grind⟩
  have i0:m19.get mm.n=.cells x.c 137 none:=r0;have s0:=b0.cells (hx.cells g1);rw[bZ,ae,D0 m19 s0,ae,dp,ae,(Db i0).2.1,ae];have⟨ov,u0,hc,d0,v0⟩:=R1 (m:=m19) hX (h.aF ((g0.trans hx).trans b0)) hP x.un;refine aE hc ?_;rw[H0]at v0⊢;obtain⟨w,rfl,hw⟩:=v0;rw[aH,aH];simp only[aa8,aa7,ae];refine av λo1 Q0 y0 a1=>?_;refine aC du y0 rfl rfl (Un.cR hw.one) λl0 b1 z0 c1=>?_;have e0:Ext u0 l0:=⟨by omega,by grind⟩
  have A0:l0.get u0.n=.cells (u.c w) 60 none:=z0;have a0:=e0.cells (d0.cells i0);have I0:=d0.n;refine aW (λvs m' lo=>vs=[aeS]/\m'=l0/\m.n<=lo) (λR hR=>?_) ?_
  ·rw[bj,ae,aj];show iW false _ _;rw[aO,(Db a0).2.2.2.2,ae];refine aE (Km hX x) ?_;rw[hM.ok x k0,bj,ae,aj];show iW false _ _;rw[aO,bW,ae,(Db a0).1,ae,cp,ae,aj]
   have n0:¬x.id<=Ic ms i:=by
    cases i with
    |zero=>have:=hM.ok x k0;unfold AK cQ at this;simp only[abc,abv]at this;show¬x.id<= -1;omega
    |succ j=>
     obtain⟨y,hy⟩:∃a,ms[j]?=some a:=⟨_,aa5 (by omega)⟩
     have e:Ic ms (j+1)=y.id:=by show(match ms[j]? with |some x=>x.id |none=> -1)=y.id;rw[hy]
     rw[e];have h1:=(aa9.1 hy)
     have h2:=(aa9.1 h0)
     have:=abF.1 hM.xN j (j+1) (by omega) j0 (by omega);rw[h1.2,h2.2]at this;omega
   rw[abk n0,aO,eF,ae,(Db a0).2.2.1,ae,bH,ae,(kU A0).2.2.2.1,ae,(hw.aF e0).len cx,aA,cB,ae];exact hR _ _ _ ⟨by grind,rfl,by omega⟩
  rintro _ p1 d1 ⟨rfl,rfl,o0⟩;rw[aB,aj,aO,bW,ae,(Db a0).1,ae,aQ,ae,wrap64 (by omega) (by omega)];exact⟨i+1,by omega,by simp[Ic,h0],by omega,((hx.trans b0).trans d0).trans e0,o0⟩
 have J0:i=ms.length:=by
  have:¬(i:Int)< (ms.length:Int):=by grind
  omega
 subst J0;rw[ae,p0 mm (hx.cells g1),ae,((hm.aF g0).aF hx).len dU,aA,cp,ae];refine⟨?_,E0⟩;rw[abl (by omega)];rfl
theorem Bp(hX:cC X){l:List UW}{v vm:aeM}{ms:List Mk}(h:dg m l v)(hP:cn (bP l))(hm:Sl m ms vm)(hM:iV (bP l) ms):C X (.func 91) [.agg #[v,vm]] m m.n aeR m:=by
 have hlen:l.length<=12:=by have:=hP.len;rw[cS]at this;exact this
 refine Cl.flat (hX.no _ rfl) (aa3 func91) rfl rfl ?_;rw[F91];dsimp only[δ,ε,ρ,υ,χ,ψ];refine av λm1 g0 b0 d0=>?_;have g1:m1.get m.n=.cells [v,vm] 33 none:=b0;have a0:Ext m m1:=⟨by omega,d0⟩
 unfold ptrTo;refine aW (λvs m' lo=>vs=[aeR]/\m.n<=lo) (λR hR=>?_) ?_
 ·rw[bZ,ae,show ah TE m1 30 (aeK m.n (0+0))=some (.agg #[v]) by rw[ez,aN (n:=1) g1 (by show 0+0+1<=2;decide)];rfl,ae];refine aE (AU hX (h.aF a0) (by omega)) ?_;rw[fH hP,aj,bL,show ah TE m1 33 (aeK m.n 0)=some (.agg #[v,vm]) by rw[tE,aN (n:=2) g1 (by show 0+2<=2;decide)];rfl,ae];refine aE (Kb hX (h.aF a0) hP (hm.aF a0) hM) ?_;exact hR _ _ _ ⟨rfl,by omega⟩
 rintro _ m' lo ⟨rfl,e0⟩;rw[aB];exact⟨rfl,e0⟩
end
section
variable {X:aK} {m:M}
theorem mU(hX:cC X){c n:Int}(hc:lN c)(hn:0 < n):C X (.func 125) [aeP c,aeP n] m m.n (aeP (dR c n)) m:=by refine Cl.flat (hX.no _ rfl) (aa3 func125) rfl rfl ?_;rw[aaw];dsimp only[η,ο,φ];exact mS hc hn (P:=λv=>bC [v]=aeP (dR c n)/\m.n<=m.n) ⟨rfl,aa4 _⟩
structure I4 where
 a:Int
 b:Int
 c:Int
 d:Int
def I4.c'(x:I4):aeN:=[.int .i64 x.a,.int .i64 x.b,.int .i64 x.c,.int .i64 x.d]
def I4.ok(x:I4):Prop:=lN x.a/\lN x.b/\lN x.c/\lN x.d
instance:aZ I4 where
 ty:=153
 sz:=4
 agg:=true
 eB:=[]
 rep _ x cs:=cs=x.c'
 pos:=by decide
 one:=by grind
 len:=by rintro _ _ _ rfl;rfl
 fB:=by rintro _ _ _ rfl;rfl
 aY:=by grind
theorem ye:oP TE 23 153 I4:=⟨ag.t23,ag.t153,by kernel_rfl,⟨_,rfl⟩,rfl,by kernel_rfl,rfl,rfl⟩
theorem Xi{l:List I4}{v:aeM}(h:oJ m l v){i:Nat}{x:I4}(hx:l[i]?=some x):∃p,an TE 23 v (aeP i)=some p/\ah TE m 153 p=some (.agg x.c'.toArray):=by have⟨p,cs,e1,e2,e3⟩:=h.index ye (k:=.i64) hx;have e3:cs=x.c':=e3;subst e3;exact⟨p,e1,e2⟩
theorem OC{b o:Nat}{k:IntKind}{i:Nat}(hi:i < 4):an TE 153 (aeK b o) (.int k i)=some (aeK b (o+i)):=by rcases(show i=0\/i=1\/i=2\/i=3 by omega)with rfl |rfl |rfl |rfl <;>kernel_rfl
def nc(ms:List Mk)(x:Mk):List Mk:=(ms.filter λy=>decide (y.id < x.id))++x::(ms.filter λy=>decide (x.id < y.id))
def jx(ms:List Mk)(x:Mk):List Mk:=(ms.filter λy=>decide (y.id < x.id))++(if(ms.filter λy=>decide (x.id < y.id))=[]then []else x::(ms.filter λy=>decide (x.id < y.id)))
theorem CX{ms:List Mk}{x y:Mk}(b0:y.id≠x.id)(a0:∀z∈ms,z.id < y.id):
  jx (ms++ [y]) x=if(ms.filter λz=>decide (x.id < z.id))=[]/\x.id < y.id then jx ms x++ [x]++ [y]else jx ms x++ [y]:=by
 unfold jx;rw[abK,abK];by_cases h:x.id < y.id
 ·have h2:¬y.id < x.id:=by omega
  simp_all
 ·have h2:y.id < x.id:=by omega
  have he:(ms.filter λz=>decide (x.id < z.id))=[]:=by
   rw[adI]
   grind
  grind
theorem Fa(ms:List Mk)(x:Mk):(jx ms x).length<=ms.length+1:=by
 unfold jx
 have:(ms.filter λy=>decide (y.id < x.id)).length+(ms.filter λy=>decide (x.id < y.id)).length<=ms.length:=by
  induction ms with
  |nil=>simp
  |cons a r ih=>
   grind
 grind
theorem RA{ms:List Mk}{x:Mk}:nc ms x=if(ms.filter λy=>decide (x.id < y.id))=[]then jx ms x++ [x]else jx ms x:=by
 unfold nc jx
 grind
theorem yR(ms:List Mk)(x:Mk):(nc ms x).length<=ms.length+1:=by
 have:(ms.filter λy=>decide (y.id < x.id)).length+(ms.filter λy=>decide (x.id < y.id)).length<=ms.length:=by
  induction ms with
  |nil=>simp
  |cons a r ih=>
   grind
 unfold nc
 grind
theorem Rz{us:List Un}{ms:List Mk}{x:Mk}(h:iV us ms)(hl:ms.length < 20)(hx:AK x)(hu:∃u∈us,u.id=x.un/\x.side < u.shape.length):iV us (nc ms x):=by
 have hm:∀y∈nc ms x,y=x\/y∈ms:=by
  intro y hy
  unfold nc at hy
  grind
 refine⟨by have:=yR ms x;omega,?_,λy hy=>?_,λy hy=>?_⟩
 ·unfold nc
  rw[ab8,aca]
  refine⟨h.xN.filter _,⟨by grind,h.xN.filter _⟩,λa ha b hb=>?_⟩
  grind
 ·rcases hm y hy with rfl |hy;·exact hx
  exact h.ok y hy
 rcases hm y hy with rfl |hy;·exact hu
 exact h.un y hy
theorem TY{x:Mk}:aG TE m 31 1 [(0,x.v)]=some (.slice (some ⟨m.n,0,none⟩) 1 1,m.push (.cells x.c 137 none)):=by kernel_rfl
theorem push_mk{n1:Nat}{acc:List Mk}{r:aeM}{x:Mk}(hw:Ow n1 m acc r)(hn:n1<=m.n)(e0:acc.length < 1000){P:M->aeM->Prop}
  (hP:∀r' m2,Ow n1 m2 (acc++ [x]) r'->m.n<=m2.n->(∀c,c < n1->m2.get c=m.get c)->n1<=m2.low->P m2 r'):
  aP (aG TE m 31 1 [(0,x.v)]) λa m1=>aP (aw TE (M.wl m1 (M.n m1)) .append [31,31] [r,a]) λr' m2=>P m2 r':=by
 rw[TY,aA];obtain⟨m1,a0⟩:∃y,y=m.push (.cells x.c 137 none):=⟨_,rfl⟩
 rw[<-a0];have b0:Ext m m1:=by rw[a0];exact Ext.refl.push
 have g0:m1.n=m.n+1:=by rw[a0];rfl
 have d0:m1.get m.n=.cells x.c 137 none:=by rw[a0];exact M.aU
 obtain⟨r',m2,e1,h1,h2,h3,h4⟩:=(hw.aF b0).append zD (by simp[aZ.eB]) (iD d0 rfl) (by omega) (by grind);rw[e1,aA];exact hP r' m2 h1 (by have:=h2.n;omega) (λc hc=>by rw[h2.get c hc,b0.get c (by omega)]) h3
theorem Br(hX:cC X){ms:List Mk}{vm:aeM}{x:Mk}(hm:Sl m ms vm)(F0:ms.Pairwise λa b=>a.id < b.id)(hl:ms.length<=20):
  ∃m' r b,C X (.func 126) [vm,x.v] m m.n (.tuple #[r,.bool b]) m'/\Ext m m'/\((b=false/\r=aeQ/\(ms.any λy=>decide (y.id=x.id)))\/(b/\(ms.any λy=>decide (y.id=x.id))=false/\Ow m.n m' (nc ms x) r)):=by
 have key:=Cl.gen (E:=TE) (X:=X) (f:=126) (args:=[vm,x.v]) (m:=m) (R:=λv' m' b=>b=m.n/\Ext m m'/\∃r b,v'=.tuple #[r,.bool b]/\((b=false/\r=aeQ/\(ms.any λy=>decide (y.id=x.id)))\/(b/\(ms.any λy=>decide (y.id=x.id))=false/\Ow m.n m' (nc ms x) r))) (hX.no _ rfl) (aa3 func126) rfl ?_
 ·obtain⟨v',m',b,hc,rfl,hx,r,b',rfl,h⟩:=key;exact⟨m',r,b',hc,hx,h⟩
 rw[aav];dsimp only[δ,ε,ζ,η,κ,ν,ο,ρ,υ,φ,ψ];refine av λm1 y1 Q0 b1=>?_;have g1:m1.get m.n=.cells x.c 137 none:=Q0;have v0:Ext m m1:=⟨by omega,b1⟩
 unfold ptrTo;refine Lp.intro (γ:=Nat) (λi=>ms.length-i) (λi vs mm lo=>∃r,vs=[aeQ,aeS,r,.bool (!decide (((ms.take i).filter λy=>decide (x.id < y.id))=[])),aeP i]/\i<=ms.length/\m1.n<=mm.n/\(∀c,c < m1.n->mm.get c=m1.get c)/\m.n<=lo/\Ow m1.n mm (jx (ms.take i) x) r/\∀y∈ms.take i,y.id≠x.id) 0 ⟨_,rfl,abh _,aa4 _,λ_ _=>rfl,aa4 _,Ow.nil,λy hy=>(by grind)⟩ ?_;rintro i vs mm lo ⟨r,rfl,hi,j0,G0,y0,k0,c1⟩;have z0:Sl mm ms vm:=(hm.aF v0).aF ⟨j0,G0⟩;have gx:mm.get m.n=.cells x.c 137 none:=by grind
 rw[aB,aB,aB,aB,aB,z0.len dU,aA,aM,ae,aj];have H0:=Fa (ms.take i) x;rw[acr]at H0;refine ak (λA0=>?_) (λz1=>?_)
 ·have A0:i < ms.length:=by grind
  obtain⟨y,l0⟩:∃a,ms[i]?=some a:=⟨_,aa5 A0⟩
  have⟨b0,o0,bc,g0,cs,e0,I0,B0,_,d1⟩:=z0.gM dU (k:=.i64) l0;have B0:cs=y.c:=B0;subst B0
  have C0:∀z∈ms.take i,z.id < y.id:=by
   intro z hz
   have⟨j,hj⟩:=abx hz
   have J0:j < i:=by
    grind
   rw[acy J0]at hj
   have h1:=aa9.1 hj
   have h2:=aa9.1 l0
   have:=abF.1 F0 j i h1.1 A0 J0
   grind
  have⟨a0,i1,ly⟩:=z0.wE (k:=.i64) l0;obtain rfl:a0=aeK b0 o0:=Option.some.inj (i1.symm.trans e0);have K0:bc[o0+0]?=some (aeP y.id):=by rw[d1 0 (by decide)];rfl
  have L0:ms.take (i+1)=ms.take i++ [y]:=by rw[abt,l0];rfl
  rw[e0,ae,bW,ae,show ah TE mm 3 (aeK b0 (o0+0))=some (aeP y.id) by rw[bI,aI I0,K0],ae,bW,ae,(Db gx).1,ae,aS,ae,aj];refine ak (λheq=>?_) (λheq=>?_);·exact .inl ⟨rfl,y0,rfl,.refl,_,_,rfl,.inl ⟨rfl,rfl,acA.2 ⟨y,abb l0,heq⟩⟩⟩
  have heq:y.id≠x.id:=aa6 heq;have h0:=CX heq C0;rw[<-L0]at h0;refine aW (λvs m' j1=>vs=[.bool (decide (((ms.take i).filter λz=>decide (x.id < z.id))=[]/\x.id < y.id))]/\m'=mm/\m.n<=j1) (λR hR=>?_) ?_
  ·rw[bj,ae,aj,aeC];refine ak (λh=>?_) (λh=>?_)
   ·have h:=aba h
    rw[ae,bW,ae,show ah TE mm 3 (aeK b0 (o0+0))=some (aeP y.id) by rw[bI,aI I0,K0],ae,ae,(Db gx).1,ae,bV,ae]
    refine hR _ _ _ ⟨?_,rfl,y0⟩
    congr 2
    rw[decide_eq_decide]
    exact⟨λq=>⟨h,q⟩,λq=>q.2⟩
   have h:=aa6 h;refine hR _ _ _ ⟨?_,rfl,y0⟩;rw[abk λq=>h q.1]
  rintro _ N0 w1 ⟨rfl,rfl,k1⟩;rw[aB,aj]
  have p0:∀d0:M,(∀c,c < m1.n->d0.get c=N0.get c)->m1.n<=d0.n->ah TE d0 137 (aeK b0 o0)=some y.v:=λd0 hk D0=>by
   have o1:Sl d0 ms vm:=(hm.aF v0).aF ⟨D0,by grind⟩
   have⟨a1,e1,l1⟩:=o1.wE (k:=.i64) l0
   grind
  have u0:∀z∈ms.take (i+1),z.id≠x.id:=by
   grind
  refine ak (λh=>?_) (λh=>?_)
  ·have h:=aba h;rw[abe h]at h0;rw[(Db gx).2.2.2.2,ae];refine push_mk (x:=x) k0 j0 (by omega) λr0 s0 n0 n41 E0 O0=>?_;rw[ae,p0 s0 E0 (by omega),ae];refine push_mk (x:=y) n0 (by omega) (by grind) λp1 A1 r1 n47 B1 C1=>?_;rw[aQ,ae,wrap64 (by omega) (by omega)];refine⟨i+1,by omega,p1,?_,by omega,by omega,by grind,by omega,?_,u0⟩;·rw[L0,abK,abk (by grind)];rfl
   rw[h0];exact r1
  have h:=aa6 h;rw[abd h]at h0;rw[ae,p0 N0 (λ_ _=>rfl) j0,ae];refine push_mk (x:=y) k0 j0 (by omega) λr0 s0 n0 n41 E0 O0=>?_;rw[aQ,ae,wrap64 (by omega) (by omega)];refine⟨i+1,by omega,r0,?_,by omega,by omega,λc hc=>by grind,by omega,?_,u0⟩
  ·have e:decide (((ms.take (i+1)).filter λy=>decide (x.id < y.id))=[])=decide (((ms.take i).filter λy=>decide (x.id < y.id))=[]):=by
    simp_all
   rw[e];rfl
  rw[h0];exact n0
 have u1:i=ms.length:=by
  grind
 subst u1;rw[abR]at k0 c1⊢;rw[abR]at H0;have i0:= @RA ms x;have q0:(ms.any λy=>decide (y.id=x.id))=false:=ac1.2 λy hy=>by grind
 have fin:∀(d0:M) (r':aeM),Ow m1.n d0 (nc ms x) r'->m1.n<=d0.n->(∀c,c < m1.n->d0.get c=m1.get c)->bB (bC [r',aeR])=false/\Ext m d0/\Ow m.n d0 (nc ms x) r':=λd0 r' hw D0 v1=>by
  refine⟨?_,v0.trans ⟨D0,v1⟩,hw.mono (by omega)⟩;rcases hw with⟨rfl,he⟩ |⟨b,cs,rfl,_⟩;·unfold nc at he;simp at he
  simp[bC,bB,dG,bF]
 rw[bj,ae,aj,aeC];refine ak (λh=>?_) (λh=>?_)
 ·have h:=aba h;rw[abe h]at i0;rw[(Db gx).2.2.2.2,ae];refine push_mk (x:=x) k0 j0 (by omega) λr0 s0 n0 n41 E0 O0=>?_;rw[<-i0]at n0;obtain⟨f1,f2,f3⟩:=fin s0 r0 n0 (by omega) (λc hc=>by grind);exact .inr ⟨.inl f1,by omega,f2,_,_,rfl,.inr ⟨rfl,q0,f3⟩⟩
 have h:=aa6 h;rw[abd h]at i0;rw[<-i0]at k0;have⟨f1,f2,f3⟩:=fin mm r k0 j0 G0;exact .inr ⟨.inl f1,by omega,f2,_,_,rfl,.inr ⟨rfl,q0,f3⟩⟩
theorem Qa(hX:cC X){ms:List Mk}{vm:aeM}{x:Mk}(hm:Sl m ms vm)(a0:ms.Pairwise λa b=>a.id < b.id)(hl:ms.length<=20):
  ∃m' r b,C X (.func 126) [vm,x.v] m m.n (.tuple #[r,.bool b]) m'/\Ext m m'/\(b->Ow m.n m' (nc ms x) r):=by
 have⟨m',r,b,hc,hx,h⟩:=Br (x:=x) hX hm a0 hl
 grind
end
section
open Go Go.D Go.ChangeShapes Go.WideShapes Go.ChangeAt Go.RowKit
theorem xB:Tryz.prog.underlying 23=some (.slice 153):=by kernel_rfl
theorem Ti:Tryz.prog.underlying 153=some (.array 4 3):=by kernel_rfl
section
variable {H:Type} {enc:TypeId×aeM->H} {W W':World} {sp:Nat->Bool} {held:Bool} {base:Nat}
theorem Iu:∀fuel cs x,DataW.trod enc Tryz.prog W 0 sp held fuel 153 cs=some x->∃y:I4,y.ok/\(∀m,aZ.rep m y cs)/\∀u∈cs,bF u:=by
 intro fuel cs x h
 obtain⟨l,rfl,hl,hr⟩:=Ih Ti (by kernel_rfl) h
 match l,hl,hr with
 |[a,b,c,d],_,hr=>refine⟨⟨a,b,c,d⟩,⟨hr _ (by simp),hr _ (by simp),hr _ (by simp),hr _ (by simp)⟩,λm=>rfl,λu hu=>?_⟩;obtain⟨z,_,rfl⟩:=abQ.1 hu;rfl
theorem QJ{v:aeM}{d:DataW H}{ps:List MemPlace}(hb:Below W.heap.size W W')(h:DataW.Trod enc Tryz.prog W 0 (λ_=>true) true 25 v d ps)(a0:∀x∈ps,x.block < W.heap.size)(sp:Nat->Bool)(hs:∀x∈ps,sp x.block):DataW.Trod enc Tryz.prog W' 0 sp true 25 v d ps:=
 WideElems.Trod_stays laidOut (by kernel_rfl) (aba (by kernel_rfl)) h (λx hx=>hb.same (a0 x hx)) hs
end
end
section
section
variable {X:aK}{x0 x1 x2:aeM}{m:M}{R:aeN->M->Nat->Prop}{W:Words}
theorem ZE:eL TE (aL TE X) f224 [x0] m R=ρ m x0 137 λa=>jn (λb=>ε 137 (υ m) 0 λc=>δ a 3 c λc=>χ X 301 [c,φ 0,φ 99] a λa c d=>aR a (ε 137 (υ m) 1 λa=>δ c 3 a λa=>χ X 301 [a,φ 0,φ 99] c λa c f=>aR a (ε 137 (υ m) 2 λa=>δ c 3 a λa=>χ X 301 [a,φ (-2),φ 7] c λa c g=>aR a (ε 137 (υ m) 3 λa=>δ c 3 a λa=>χ X 301 [a,φ 1,φ 5] c λa c h=>b [a] c (Γ m.n d f g h)) (b [aeS] c (ω m.n d f g))) (b [aeS] c (ψ m.n d f))) (b [aeS] c (min m.n d))) (λa b c=>un a λa _=>R [a] b c):=by kernel_rfl
theorem Zm:eL TE (aL TE X) f301 [x0,x1,x2] m R=jn (λa=>η .geq 3 x0 x1 λb=>aR b (η .leq 3 x0 x2 λb=>a [b] m m.n) (a [aeS] m m.n)) (λa b c=>un a λa _=>R [a] b c):=by kernel_rfl
theorem Zl:eL TE (aL TE X) f302 [x0] m R=ρ m x0 60 λa=>jn (λb=>ε 60 (υ m) 1 λc=>δ a 3 c λc=>η .eql 3 c (φ 0) λc=>aR c (ε 60 (υ m) 2 λc=>δ a 3 c λc=>η .eql 3 c (φ 0) λc=>aR c (ε 60 (υ m) 3 λc=>δ a 58 c λc=>κ a .len [58] [c] λc _=>η .eql 3 c (φ 0) λc=>aR c (ε 60 (υ m) 4 λc=>δ a 3 c λc=>η .eql 3 c (φ 0) λc=>aR c (ε 60 (υ m) 5 λc=>δ a 3 c λc=>η .eql 3 c (φ 0) λc=>b [c] a m.n) (b [aeS] a m.n)) (b [aeS] a m.n)) (b [aeS] a m.n)) (b [aeS] a m.n)) (λa b c=>un a λa _=>R [a] b c):=by kernel_rfl
theorem ZB:eL TE W f227 [x0] m R=aaY W m x0 184 λa=>W.jn (λb=>aaP W 184 (aa0 m) 1 λc=>aaO W a 60 c λc=>aa2 W 302 [c] a λa c d=>aR a (aaP W 184 (aa0 m) 1 λa=>aaP W 60 a 0 λa=>aaO W c 3 a λa=>aaR W .eql 3 a (aa1 0) λa=>b [a] c (min m.n d)) (b [aeS] c (min m.n d))) (λa b c=>W.un a λa _=>W.jn (λa=>aaP W 184 (aa0 m) 3 λd=>aaO W b 3 d λd=>aaR W .eql 3 d (aa1 0) λd=>aR d (aaP W 184 (aa0 m) 4 λd=>aaO W b 3 d λd=>aaR W .eql 3 d (aa1 0) λd=>a [d] b c) (a [aeS] b c)) (λb c d=>W.un b λb _=>aaP W 184 (aa0 m) 5 λf=>aaO W c 137 f λf=>aaS W 137 [] λg=>aaR W .eql 137 f g λf=>aaP W 184 (aa0 m) 0 λg=>aaO W c 3 g λg=>aaR W .eql 3 g (aa1 1) λh=>aR h (W.jn (λa=>aaP W 184 (aa0 m) 1 λg=>aaO W c 60 g λg=>aa2 W 172 [g] c λc g h=>aR c (aaP W 184 (aa0 m) 2 λc=>aaO W g 3 c λc=>aaR W .eql 3 c (aa1 0) λc=>aR c (aR b (a [f] g (min d h)) (a [aeS] g (min d h))) (a [aeS] g (min d h))) (a [aeS] g (min d h))) (λa b c=>W.un a λa _=>R [a] b c)) (aaR W .eql 3 g (aa1 2) λh=>aR h (W.jn (λg=>aaP W 184 (aa0 m) 2 λh=>aaO W c 3 h λh=>aa2 W 301 [h,aa1 0,aa1 99] c λc h i=>aR c (aR a (aR b (g [f] h (min d i)) (g [aeS] h (min d i))) (g [aeS] h (min d i))) (g [aeS] h (min d i))) (λa b c=>W.un a λa _=>R [a] b c)) (aaR W .eql 3 g (aa1 3) λh=>aR h (W.jn (λa=>aaP W 184 (aa0 m) 2 λb=>aaO W c 3 b λb=>aa2 W 301 [b,aa1 0,aa1 99] c λb c g=>aR b (aaP W 184 (aa0 m) 1 λb=>aaO W c 60 b λb=>aa2 W 302 [b] c λb c h=>aR b (aaP W 184 (aa0 m) 1 λb=>aaP W 60 b 0 λb=>aaO W c 3 b λb=>aa2 W 301 [b,aa1 0,aa1 99] c λb c i=>aR b (aaP W 184 (aa0 m) 1 λb=>aaP W 60 b 0 λb=>aaO W c 3 b λb=>aaP W 184 (aa0 m) 2 λj=>aaO W c 3 j λj=>aaR W .neq 3 b j λb=>aR b (aaP W 184 (aa0 m) 3 λb=>aaO W c 3 b λb=>aa2 W 301 [b,aa1 0,aa1 7] c λb c j=>aR b (aaP W 184 (aa0 m) 4 λb=>aaO W c 3 b λb=>aa2 W 301 [b,aa1 0,aa1 7] c λb c k=>aR b (aaP W 184 (aa0 m) 3 λb=>aaO W c 3 b λb=>aaP W 184 (aa0 m) 4 λl=>aaO W c 3 l λl=>aaR W .neq 3 b l λb=>aR b (a [f] c (Δ d g h i j k)) (a [aeS] c (Δ d g h i j k))) (a [aeS] c (Δ d g h i j k))) (a [aeS] c (Γ d g h i j))) (a [aeS] c (ω d g h i))) (a [aeS] c (ω d g h i))) (a [aeS] c (ψ d g h))) (a [aeS] c (min d g))) (λa b c=>W.un a λa _=>R [a] b c)) (aaR W .eql 3 g (aa1 4) λh=>aR h (W.jn (λg=>aaP W 184 (aa0 m) 2 λh=>aaO W c 3 h λh=>aa2 W 301 [h,aa1 0,aa1 99] c λc h i=>aR c (aR a (aaP W 184 (aa0 m) 3 λa=>aaO W h 3 a λa=>aa2 W 301 [a,aa1 (-40),aa1 40] h λa c h=>aR a (aaP W 184 (aa0 m) 4 λa=>aaO W c 3 a λa=>aa2 W 301 [a,aa1 (-40),aa1 40] c λa c j=>aR a (aaX W .not b λa=>aR a (g [f] c (ω d i h j)) (g [aeS] c (ω d i h j))) (g [aeS] c (ω d i h j))) (g [aeS] c (ψ d i h))) (g [aeS] h (min d i))) (g [aeS] h (min d i))) (λa b c=>W.un a λa _=>R [a] b c)) (aaR W .eql 3 g (aa1 5) λh=>aR h (W.jn (λf=>aaP W 184 (aa0 m) 5 λg=>aaO W c 137 g λg=>aa2 W 224 [g] c λc g h=>aR c (aaP W 184 (aa0 m) 2 λc=>aaO W g 3 c λc=>aaR W .eql 3 c (aa1 0) λc=>aR c (aR a (f [b] g (min d h)) (f [aeS] g (min d h))) (f [aeS] g (min d h))) (f [aeS] g (min d h))) (λa b c=>W.un a λa _=>R [a] b c)) (aaR W .eql 3 g (aa1 6) λh=>aR h (aR h (W.jn (λg=>aaP W 184 (aa0 m) 2 λh=>aaO W c 3 h λh=>aa2 W 301 [h,aa1 0,aa1 99] c λc h i=>aR c (aR a (aR b (g [f] h (min d i)) (g [aeS] h (min d i))) (g [aeS] h (min d i))) (g [aeS] h (min d i))) (λa b c=>W.un a λa _=>R [a] b c)) (R [aeS] c d)) (aaR W .eql 3 g (aa1 7) λg=>aR g (W.jn (λg=>aaP W 184 (aa0 m) 2 λh=>aaO W c 3 h λh=>aa2 W 301 [h,aa1 0,aa1 99] c λc h i=>aR c (aR a (aR b (g [f] h (min d i)) (g [aeS] h (min d i))) (g [aeS] h (min d i))) (g [aeS] h (min d i))) (λa b c=>W.un a λa _=>R [a] b c)) (R [aeS] c d))))))))):=by kernel_rfl
theorem Z4:eL TE (aL TE X) f176 [x0] m R=ρ m x0 33 λa=>jn (λb=>ε 33 (υ m) 0 λc=>δ a 30 c λc=>χ X 128 [c] a λa c d=>ο .not a λa=>aR a (b [aeR] c (min m.n d)) (ε 33 (υ m) 1 λa=>δ c 31 a λa=>κ c .len [31] [a] λa _=>η .gtr 3 a (φ 20) λa=>b [a] c (min m.n d))) (λa b c=>un a λa _=>aR a (R [aeS] b c) (Lp (λa b c d=>un b λb f=>un f λf _=>ε 33 (υ m) 1 λg=>δ c 31 g λg=>κ c .len [31] [g] λg _=>η .lss 3 f g λg=>aR g (ε 33 (υ m) 1 λg=>δ c 31 g λg=>ζ 31 g f λg=>δ c 137 g λg=>ς c [φ 0,φ 0,φ 0,φ 0,aeS] 137 λh=>ι h 137 (υ c) g λg h=>jn (λa=>δ g 137 (υ c) λb=>χ X 224 [b] g λb g i=>ο .not b λb=>aR b (a [aeR] g (ψ d h i)) (η .gtr 3 f (φ 0) λb=>aR b (ε 137 (υ c) 0 λb=>δ g 3 b λb=>ε 33 (υ m) 1 λc=>δ g 31 c λc=>η .sub 3 f (φ 1) λf=>ζ 31 c f λc=>ε 137 c 0 λc=>δ g 3 c λc=>η .leq 3 b c λb=>a [b] g (ψ d h i)) (a [aeS] g (ψ d h i)))) (λd g h=>un d λd _=>aR d (R [aeS] g h) (Lp (λd g h i=>un g λg j=>un j λj _=>ε 33 (υ m) 0 λk=>ε 30 k 0 λk=>δ h 28 k λk=>κ h .len [28] [k] λk _=>η .lss 3 j k λk=>aR k (ε 33 (υ m) 0 λa=>ε 30 a 0 λa=>δ h 28 a λa=>ζ 28 a j λa=>δ h 60 a λa=>ς h [φ 0,φ 0,φ 0,aeQ,φ 0,φ 0] 60 λb=>ι b 60 (υ h) a λa b=>aR g (η .add 3 j (φ 1) λc=>d [aeR,c] a (min i b)) (ε 60 (υ h) 0 λf=>δ a 3 f λf=>ε 137 (υ c) 1 λg=>δ a 3 g λg=>η .eql 3 f g λf=>aR f (ε 137 (υ c) 2 λc=>δ a 3 c λc=>ε 60 (υ h) 3 λf=>δ a 58 f λf=>κ a .len [58] [f] λf _=>η .lss 3 c f λc=>η .add 3 j (φ 1) λf=>d [c,f] a (min i b)) (η .add 3 j (φ 1) λc=>d [aeS,c] a (min i b)))) (ο .not g λc=>aR c (R [aeS] h i) (η .add 3 f (φ 1) λc=>a [b,c] h i))) [aeS,φ 0] g h))) (R [aeR] c d)) [aeS,φ 0] b c)):=by kernel_rfl
theorem Zi:eL TE (aL TE X) f305 [x0,x1] m R=Lp (λa b c d=>un b λb f=>un f λf _=>κ c .len [31] [x0] λg _=>η .lss 3 f g λg=>aR g (ζ 31 x0 f λg=>ε 137 g 1 λg=>δ c 3 g λg=>η .neq 3 g x1 λg=>aR g (ζ 31 x0 f λg=>δ c 137 g λg=>ν c 31 1 [(0,g)] λc g=>κ (M.wl g g.n) .append [31,31] [b,c] λb c=>η .add 3 f (φ 1) λf=>a [b,f] c (min d (M.low c))) (η .add 3 f (φ 1) λf=>a [b,f] c d)) (R [b] c d)) [aeQ,φ 0] m m.n:=by kernel_rfl
theorem ZA:eL TE (aL TE X) f228 [x0,x1,x2] m R=ν m 31 0 [] λa b=>κ (M.wl b b.n) .append [31,31] [a,x0] λa b=>Lp (λb c d f=>un c λc g=>un g λg h=>un h λh _=>κ d .len [31] [a] λi _=>η .lss 3 h i λi=>aR i (ζ 31 a h λi=>ε 137 i 0 λi=>δ d 3 i λi=>η .eql 3 i x1 λi=>aR i (ζ 31 a h λb=>ε 137 b 4 λb=>δ d 4 b λb=>η .neq 4 b x2 λb=>ζ 31 a h λc=>ε 137 c 4 λc=>ι d 4 c x2 λc d=>R [a,b] c (min f d)) (η .add 3 h (φ 1) λa=>b [c,g,a] d f)) (R [aeQ,aeS] d f)) [aeQ,aeS,φ 0] b (min m.n (M.low b)):=by kernel_rfl
theorem Zz:eL TE (aL TE X) f229 [x0,x1] m R=ρ m x0 33 λa=>ρ a x1 184 λb=>ς b [aeQ,aeQ] 33 λc=>ν c 31 0 [] λc d=>ε 33 (υ m) 1 λf=>δ d 31 f λf=>κ (M.wl d d.n) .append [31,31] [c,f] λc d=>θ 33 [(1,c)] λc=>ς d [aeQ,aeQ] 33 λf=>ι f 33 (υ d) c λc f=>ε 184 (υ a) 0 λg=>δ c 3 g λg=>η .eql 3 g (φ 1) λg=>aR g (ε 33 (υ m) 0 λg=>δ c 30 g λg=>ε 184 (υ a) 1 λa=>δ c 60 a λa=>χ X 171 [g,a] c λa c g=>ξ a 0 λh=>ξ a 1 λa=>ε 33 (υ d) 0 λi=>ι c 30 i h λc h=>δ c 33 (υ d) λi=>η .eql 46 a (φ 0) λa=>ι c 33 (υ b) i λc i=>ai (ah TE c 33 (υ b)) λb=>R [b,a] c (Δ m.n (M.low d) f g h i)) (ε 33 (υ m) 0 λg=>δ c 30 g λg=>ε 184 (υ a) 2 λh=>δ c 3 h λh=>χ X 303 [g,h] c λc g h=>ξ c 0 λi=>ξ c 1 λc=>ς g [φ 0,φ 0,φ 0,aeQ,φ 0,φ 0] 60 λj=>ι j 60 (υ g) i λi j=>ο .not c λc=>aR c (δ i 33 (υ d) λa=>ι i 33 (υ b) a λa c=>ai (ah TE a 33 (υ b)) λb=>R [b,aeS] a (Δ m.n (M.low d) f h j c)) (ε 33 (υ m) 0 λc=>δ i 30 c λc=>ε 184 (υ a) 2 λk=>δ i 3 k λk=>χ X 304 [c,k] i λc i k=>ξ c 0 λl=>ξ c 1 λ_=>ς i [aeQ] 30 λc=>ι c 30 (υ i) l λc l=>ε 184 (υ a) 0 λn=>δ c 3 n λn=>η .eql 3 n (φ 2) λo=>aR o (ε 33 (υ m) 1 λg=>δ c 31 g λg=>ε 184 (υ a) 2 λa=>δ c 3 a λa=>χ X 305 [g,a] c λa c g=>ε 33 (υ d) 1 λn=>ι c 31 n a λa c=>δ a 30 (υ i) λi=>ε 33 (υ d) 0 λn=>ι a 30 n i λa i=>δ a 33 (υ d) λn=>ι a 33 (υ b) n λa n=>ai (ah TE a 33 (υ b)) λb=>R [b,aeR] a (Ψ m.n (M.low d) f h j k l g c i n)) (η .eql 3 n (φ 4) λn=>aR n (δ c 60 (υ g) λg=>ε 184 (υ a) 3 λn=>δ c 3 n λn=>ε 184 (υ a) 4 λa=>δ c 3 a λa=>χ X 306 [g,n,a] c λa c g=>ξ a 0 λn=>ξ a 1 λa=>ς c [φ 0,φ 0,φ 0,aeQ,φ 0,φ 0] 60 λo=>ι o 60 (υ c) n λn o=>η .neq 46 a (φ 0) λa=>aR a (δ n 33 (υ d) λa=>ι n 33 (υ b) a λa c=>ai (ah TE a 33 (υ b)) λb=>R [b,aeS] a (Φ m.n (M.low d) f h j k l g o c)) (δ n 30 (υ i) λa=>δ n 60 (υ c) λc=>χ X 171 [a,c] n λa c i=>ξ a 0 λn=>ξ a 1 λa=>ε 33 (υ d) 0 λp=>ι c 30 p n λc n=>δ c 33 (υ d) λp=>η .eql 46 a (φ 0) λa=>ι c 33 (υ b) p λc p=>ai (ah TE c 33 (υ b)) λb=>R [b,a] c (Ω m.n (M.low d) f h j k l g o i n p))) (δ c 60 (υ g) λn=>ς c [φ 0,φ 0,φ 0,aeQ,φ 0,φ 0] 60 λo=>ι o 60 (υ c) n λn o=>δ n 60 (υ g) λp=>ς n [φ 0,φ 0,φ 0,aeQ,φ 0,φ 0] 60 λq=>ι q 60 (υ n) p λp q=>ε 184 (υ a) 1 λr=>ε 60 r 0 λr=>δ p 3 r λr=>ε 60 (υ n) 0 λs=>ι p 3 s r λp r=>ε 60 (υ g) 3 λg=>δ p 58 g λg=>ε 184 (υ a) 3 λs=>δ p 3 s λs=>ε 184 (υ a) 4 λt=>δ p 3 t λt=>χ X 307 [g,s,t] p λg p s=>ξ g 0 λt=>ξ g 1 λu=>ξ g 2 λg=>ε 60 (υ c) 3 λv=>ι p 58 v t λp t=>ε 60 (υ n) 3 λv=>ι p 58 v u λp u=>η .neq 46 g (φ 0) λg=>aR g (δ p 33 (υ d) λa=>ι p 33 (υ b) a λa c=>ai (ah TE a 33 (υ b)) λb=>R [b,aeS] a (aaN m.n (M.low d) f h j k l o q r s t u c)) (ε 33 (υ m) 1 λg=>δ p 31 g λg=>ε 184 (υ a) 2 λa=>δ p 3 a λa=>χ X 305 [g,a] p λa g p=>ε 33 (υ d) 1 λv=>ι g 31 v a λa g=>δ a 30 (υ i) λi=>δ a 60 (υ c) λc=>χ X 171 [i,c] a λa c i=>ξ a 0 λv=>ξ a 1 λa=>ς c [aeQ] 30 λw=>ι w 30 (υ c) v λv w=>η .neq 46 a (φ 0) λa=>aR a (δ v 33 (υ d) λa=>ι v 33 (υ b) a λa c=>ai (ah TE a 33 (υ b)) λb=>R [b,aeS] a (Γ (aaN m.n (M.low d) f h j k l o q r s t u p) g i w c)) (δ v 30 (υ c) λa=>δ v 60 (υ n) λc=>χ X 171 [a,c] v λa c n=>ξ a 0 λv=>ξ a 1 λa=>ε 33 (υ d) 0 λy=>ι c 30 y v λc v=>δ c 33 (υ d) λy=>η .eql 46 a (φ 0) λa=>ι c 33 (υ b) y λc y=>ai (ah TE c 33 (υ b)) λb=>R [b,a] c (Θ (aaN m.n (M.low d) f h j k l o q r s t u p) g i w n v y))))))):=by kernel_rfl
theorem ZV:eL TE (aL TE X) f185 [x0,x1] m R=ρ m x0 33 λa=>ρ a x1 184 λb=>ς b [aeQ,aeQ] 33 λc=>jn (λb=>δ c 33 (υ m) λd=>χ X 176 [d] c λc d f=>ο .not c λc=>aR c (b [aeR] d (min m.n f)) (δ d 184 (υ a) λa=>χ X 227 [a] d λa c d=>ο .not a λa=>b [a] c (ψ m.n f d))) (λc d f=>un c λc _=>aR c (θ 33 [] λa=>ι d 33 (υ b) a λa c=>ai (ah TE a 33 (υ b)) λb=>R [b,φ 170] a (min f c)) (ε 33 (υ m) 0 λc=>δ d 30 c λc=>θ 33 [(0,c)] λc=>ς d [aeQ,aeQ] 33 λg=>ι g 33 (υ d) c λc g=>ε 184 (υ a) 0 λh=>δ c 3 h λh=>η .eql 3 h (φ 5) λi=>aR i (ε 33 (υ m) 1 λh=>δ c 31 h λh=>ε 184 (υ a) 5 λa=>δ c 137 a λa=>χ X 126 [h,a] c λa c h=>ξ a 0 λi=>ξ a 1 λa=>ε 33 (υ d) 1 λj=>ι c 31 j i λc i=>jn (λb=>ο .not a λa=>aR a (b [aeR] c (ω f g h i)) (δ c 33 (υ d) λa=>χ X 176 [a] c λa c d=>ο .not a λa=>b [a] c (Γ f g h i d))) (λa c f=>un a λa _=>aR a (θ 33 [] λa=>ι c 33 (υ b) a λa c=>ai (ah TE a 33 (υ b)) λb=>R [b,φ 170] a (min f c)) (δ c 33 (υ d) λa=>χ X 184 [a] c λa c d=>ι c 33 (υ b) a λa c=>ai (ah TE a 33 (υ b)) λb=>R [b,φ 0] a (ψ f d c)))) (η .eql 3 h (φ 6) λi=>aR i (ε 33 (υ m) 1 λh=>δ c 31 h λh=>ε 184 (υ a) 2 λa=>δ c 3 a λa=>χ X 228 [h,a,aeS] c λa c h=>ξ a 0 λi=>ξ a 1 λa=>ε 33 (υ d) 1 λj=>ι c 31 j i λc i=>jn (λb=>ο .not a λa=>aR a (b [aeR] c (ω f g h i)) (δ c 33 (υ d) λa=>χ X 176 [a] c λa c d=>ο .not a λa=>b [a] c (Γ f g h i d))) (λa c f=>un a λa _=>aR a (θ 33 [] λa=>ι c 33 (υ b) a λa c=>ai (ah TE a 33 (υ b)) λb=>R [b,φ 170] a (min f c)) (δ c 33 (υ d) λa=>χ X 184 [a] c λa c d=>ι c 33 (υ b) a λa c=>ai (ah TE a 33 (υ b)) λb=>R [b,φ 0] a (ψ f d c)))) (η .eql 3 h (φ 7) λh=>aR h (ε 33 (υ m) 1 λh=>δ c 31 h λh=>ε 184 (υ a) 2 λa=>δ c 3 a λa=>χ X 228 [h,a,aeR] c λa c h=>ξ a 0 λi=>ξ a 1 λa=>ε 33 (υ d) 1 λj=>ι c 31 j i λc i=>jn (λb=>ο .not a λa=>aR a (b [aeR] c (ω f g h i)) (δ c 33 (υ d) λa=>χ X 176 [a] c λa c d=>ο .not a λa=>b [a] c (Γ f g h i d))) (λa c f=>un a λa _=>aR a (θ 33 [] λa=>ι c 33 (υ b) a λa c=>ai (ah TE a 33 (υ b)) λb=>R [b,φ 170] a (min f c)) (δ c 33 (υ d) λa=>χ X 184 [a] c λa c d=>ι c 33 (υ b) a λa c=>ai (ah TE a 33 (υ b)) λb=>R [b,φ 0] a (ψ f d c)))) (δ c 33 (υ m) λh=>δ c 184 (υ a) λa=>χ X 229 [h,a] c λa c h=>ξ a 0 λi=>ξ a 1 λa=>ι c 33 (υ d) i λc i=>jn (λb=>ο .not a λa=>aR a (b [aeR] c (ω f g h i)) (δ c 33 (υ d) λa=>χ X 176 [a] c λa c d=>ο .not a λa=>b [a] c (Γ f g h i d))) (λa c f=>un a λa _=>aR a (θ 33 [] λa=>ι c 33 (υ b) a λa c=>ai (ah TE a 33 (υ b)) λb=>R [b,φ 170] a (min f c)) (δ c 33 (υ d) λa=>χ X 184 [a] c λa c d=>ι c 33 (υ b) a λa c=>ai (ah TE a 33 (υ b)) λb=>R [b,φ 0] a (ψ f d c)))))))):=by kernel_rfl
theorem ZW:eL TE (aL TE X) f184 [x0] m R=ρ m x0 33 λa=>ς a [aeQ,aeQ] 33 λb=>ε 33 (υ m) 0 λc=>δ b 30 c λc=>χ X 226 [c] b λc d f=>(b.n<=f)/\(ν d 31 0 [] λb d=>ε 33 (υ m) 1 λg=>δ d 31 g λg=>κ (M.wl d d.n) .append [31,31] [b,g] λb d=>θ 33 [(0,c),(1,b)] λb=>ι d 33 (υ a) b λb c=>ai (ah TE b 33 (υ a)) λa=>R [a] b (ω m.n f (M.low d) c)):=by kernel_rfl
theorem Zk:eL TE (aL TE X) f303 [x0,x1] m R=ρ m x0 30 λa=>ς a [φ 0,φ 0,φ 0,aeQ,φ 0,φ 0] 60 λb=>Lp (λb c d f=>un c λc g=>un g λg _=>ε 30 (υ m) 0 λh=>δ d 28 h λh=>κ d .len [28] [h] λh _=>η .lss 3 g h λh=>aR h (jn (λa=>ε 30 (υ m) 0 λb=>δ d 28 b λb=>ζ 28 b g λb=>ε 60 b 0 λb=>δ d 3 b λb=>η .eql 3 b x1 λb=>aR b (δ d 30 (υ m) λb=>χ X 128 [b] d λb c d=>a [b] c (min f d)) (a [aeS] d f)) (λd f h=>un d λd _=>aR d (ε 30 (υ m) 0 λb=>δ f 28 b λb=>ζ 28 b g λb=>δ f 60 b λb=>χ X 219 [b] f λb c d=>ι c 60 (υ a) b λb c=>ai (ah TE b 60 (υ a)) λa=>R [a,aeR] b (ψ h d c)) (η .add 3 g (φ 1) λa=>b [c,a] f h))) (θ 60 [] λb=>ι d 60 (υ a) b λb c=>ai (ah TE b 60 (υ a)) λa=>R [a,aeS] b (min f c))) [aeS,φ 0] b m.n:=by kernel_rfl
theorem Zj:eL TE (aL TE X) f304 [x0,x1] m R=ρ m x0 30 λa=>ς a [aeQ] 30 λb=>δ b 30 (υ m) λc=>χ X 303 [c,x1] b λb c d=>ξ b 0 λf=>ξ b 1 λb=>ς c [φ 0,φ 0,φ 0,aeQ,φ 0,φ 0] 60 λg=>ι g 60 (υ c) f λc f=>ο .not b λb=>aR b (θ 30 [] λb=>ι c 30 (υ a) b λb c=>ai (ah TE b 30 (υ a)) λa=>R [a,φ 120] b (ω m.n d f c)) (ς c [aeQ] 30 λb=>Lp (λb d f g=>un d λd _=>ε 30 (υ m) 0 λh=>δ f 28 h λh=>κ f .len [28] [h] λh _=>η .lss 3 d h λh=>aR h (ε 30 (υ m) 0 λa=>δ f 28 a λa=>ζ 28 a d λa=>ε 60 a 0 λa=>δ f 3 a λa=>η .neq 3 a x1 λa=>aR a (ε 30 (υ c) 0 λa=>δ f 28 a λa=>ε 30 (υ m) 0 λh=>δ f 28 h λh=>ζ 28 h d λh=>δ f 60 h λh=>χ X 219 [h] f λh i j=>(f.n<=j)/\(ν i 28 1 [(0,h)] λf h=>κ (M.wl h h.n) .append [28,28] [a,f] λa f=>ε 30 (υ c) 0 λc=>ι f 28 c a λa c=>η .add 3 d (φ 1) λd=>b [d] a (ω g j (M.low f) c))) (η .add 3 d (φ 1) λa=>b [a] f g)) (δ f 30 (υ c) λb=>ι f 30 (υ a) b λb c=>ai (ah TE b 30 (υ a)) λa=>R [a,φ 0] b (min g c))) [φ 0] b (ψ m.n d f)):=by kernel_rfl
theorem aar:eL TE (aL TE X) f130 [x0,x1] m R=ρ m x0 60 λa=>ρ a x1 60 λb=>ς b [φ 0,φ 0,φ 0,φ 0,φ 0,φ 0,φ 0,φ 0] 145 λc=>δ c 60 (υ m) λd=>δ c 60 (υ a) λf=>χ X 174 [d,f] c λc d f=>ο .not c λc=>aR c (θ 145 [] λa=>ι d 145 (υ b) a λa c=>ai (ah TE a 145 (υ b)) λb=>R [b,aeS] a (ψ m.n f c)) (ε 60 (υ m) 3 λc=>δ d 58 c λc=>ε 60 (υ a) 3 λg=>δ d 58 g λg=>χ X 175 [c,g] d λc d g=>ξ c 0 λh=>ξ c 1 λc=>ς d [φ 0,φ 0,φ 0,φ 0] 143 λi=>ι i 143 (υ d) h λh i=>ο .not c λc=>aR c (θ 145 [] λa=>ι h 145 (υ b) a λa c=>ai (ah TE a 145 (υ b)) λb=>R [b,aeS] a (Γ m.n f g i c)) (ε 60 (υ m) 0 λc=>δ h 3 c λc=>ε 60 (υ a) 0 λj=>δ h 3 j λj=>δ h 143 (υ d) λd=>ε 60 (υ m) 4 λk=>δ h 3 k λk=>ε 60 (υ a) 4 λl=>δ h 3 l λl=>κ h .max [3,3] [k,l] λk _=>ε 60 (υ m) 5 λl=>δ h 3 l λl=>ε 60 (υ a) 5 λa=>δ h 3 a λa=>κ h .min [3,3] [l,a] λa _=>θ 145 [(0,c),(1,j),(2,d),(3,k),(4,a)] λa=>ι h 145 (υ b) a λa c=>ai (ah TE a 145 (υ b)) λb=>R [b,aeR] a (Γ m.n f g i c))):=by kernel_rfl
theorem aas:eL TE (aL TE X) f129 [x0] m R=ρ m x0 60 λa=>ς a [φ 0,φ 0,φ 0,φ 0,φ 0,φ 0,φ 0,φ 0] 145 λb=>δ b 60 (υ m) λc=>χ X 172 [c] b λb c d=>ο .not b λb=>aR b (θ 145 [] λb=>ι c 145 (υ a) b λb c=>ai (ah TE b 145 (υ a)) λa=>R [a,aeS] b (ψ m.n d c)) (Lp (λb c d f=>un c λc g=>un g λg _=>ε 60 (υ m) 3 λh=>δ d 58 h λh=>κ d .len [58] [h] λh _=>η .lss 3 g h λh=>aR h (ε 60 (υ m) 3 λa=>δ d 58 a λa=>ζ 58 a g λa=>ε 141 a 1 λa=>δ d 3 a λa=>η .eql 3 a (φ 0) λa=>aR a (ε 60 (υ m) 3 λa=>δ d 58 a λa=>ζ 58 a g λa=>δ d 141 a λa=>ν d 58 1 [(0,a)] λa d=>κ (M.wl d d.n) .append [58,58] [c,a] λa c=>η .add 3 g (φ 1) λd=>b [a,d] c (min f (M.low c))) (η .add 3 g (φ 1) λa=>b [c,a] d f)) (κ d .len [58] [c] λb _=>η .neq 3 b (φ 2) λb=>aR b (θ 145 [] λb=>ι d 145 (υ a) b λb c=>ai (ah TE b 145 (υ a)) λa=>R [a,aeS] b (min f c)) (ζ 58 c (φ 0) λb=>δ d 141 b λb=>ζ 58 c (φ 1) λg=>δ d 141 g λg=>θ 143 [(0,b),(1,g)] λb=>ς d [φ 0,φ 0,φ 0,φ 0] 143 λg=>ι g 143 (υ d) b λb g=>ζ 58 c (φ 0) λh=>ε 141 h 0 λh=>δ b 3 h λh=>ζ 58 c (φ 1) λi=>ε 141 i 0 λi=>δ b 3 i λi=>η .gtr 3 h i λh=>aR h (ζ 58 c (φ 1) λh=>δ b 141 h λh=>ζ 58 c (φ 0) λc=>δ b 141 c λc=>θ 143 [(0,h),(1,c)] λc=>ι b 143 (υ d) c λb c=>ε 60 (υ m) 0 λh=>δ b 3 h λh=>δ b 143 (υ d) λd=>ε 60 (υ m) 4 λi=>δ b 3 i λi=>ε 60 (υ m) 5 λj=>δ b 3 j λj=>θ 145 [(0,h),(1,(φ (-1))),(2,d),(3,i),(4,j)] λd=>ι b 145 (υ a) d λb d=>ai (ah TE b 145 (υ a)) λa=>R [a,aeR] b (ω f g c d)) (ε 60 (υ m) 0 λc=>δ b 3 c λc=>δ b 143 (υ d) λd=>ε 60 (υ m) 4 λh=>δ b 3 h λh=>ε 60 (υ m) 5 λi=>δ b 3 i λi=>θ 145 [(0,c),(1,(φ (-1))),(2,d),(3,h),(4,i)] λc=>ι b 145 (υ a) c λb c=>ai (ah TE b 145 (υ a)) λa=>R [a,aeR] b (ψ f g c))))) [aeQ,φ 0] c (min m.n d)):=by kernel_rfl
theorem Z5:eL TE (aL TE X) f175 [x0,x1] m R=ς m [φ 0,φ 0,φ 0,φ 0] 143 λa=>jn (λb=>χ X 220 [x0] a λa c d=>ο .not a λa=>aR a (b [aeR] c (min m.n d)) (χ X 220 [x1] c λa c f=>ο .not a λa=>aR a (b [aeR] c (ψ m.n d f)) (χ X 221 [x0,x1] c λa c g=>b [a] c (ω m.n d f g)))) (λa b c=>un a λa _=>aR a (θ 143 [] λa=>ι b 143 (υ m) a λa b=>ai (ah TE a 143 (υ m)) λd=>R [d,aeS] a (min c b)) (Lp (λa b c d=>un b λb f=>un f λf _=>η .leq 3 f (φ 40) λg=>aR g (Lp (λb c d g=>un c λc h=>un h λh _=>η .leq 3 h (φ 40) λi=>aR i (θ 141 [(0,f),(1,h)] λa=>ς d [φ 0,φ 0] 141 λf=>ι f 141 (υ d) a λa f=>jn (λb=>δ a 141 (υ d) λc=>χ X 222 [x0,c] a λa c h=>η .eql 3 a (φ 0) λa=>aR a (δ c 141 (υ d) λa=>χ X 222 [x1,a] c λa c d=>η .eql 3 a (φ 0) λa=>b [a] c (ω g f h d)) (b [aeS] c (ψ g f h))) (λa f g=>un a λa _=>aR a (δ f 141 (υ d) λa=>ν f 58 1 [(0,a)] λa d=>κ (M.wl d d.n) .append [58,58] [c,a] λa c=>η .add 3 h (φ 1) λd=>b [a,d] c (min g (M.low c))) (η .add 3 h (φ 1) λa=>b [c,a] f g))) (η .add 3 f (φ 1) λb=>a [c,b] d g)) [b,φ 0] c d) (κ c .len [58] [b] λa _=>η .lss 3 a (φ 2) λa=>aR a (θ 143 [] λa=>ι c 143 (υ m) a λa b=>ai (ah TE a 143 (υ m)) λc=>R [c,aeS] a (min d b)) (ζ 58 b (φ 0) λa=>δ c 141 a λa=>ς c [φ 0,φ 0] 141 λf=>ι f 141 (υ c) a λa f=>κ a .len [58] [b] λg _=>η .sub 3 g (φ 1) λg=>ζ 58 b g λb=>δ a 141 b λb=>ς a [φ 0,φ 0] 141 λg=>ι g 141 (υ a) b λb g=>Lp (λb d f g=>un d λd h=>un h λh _=>κ f .len [58] [x0] λi _=>η .lss 3 h i λi=>aR i (δ f 141 (υ c) λi=>δ f 141 (υ a) λj=>ζ 58 x0 h λk=>δ f 141 k λk=>χ X 223 [i,j,k] f λf i j=>η .lss 3 f (φ 0) λf=>aR f (δ i 141 (υ a) λa=>δ i 141 (υ c) λb=>θ 143 [(0,a),(1,b)] λa=>ι i 143 (υ m) a λa b=>ai (ah TE a 143 (υ m)) λc=>R [c,aeR] a (ψ g j b)) (η .add 3 h (φ 1) λa=>b [d,a] i (min g j))) (δ f 141 (υ c) λb=>δ f 141 (υ a) λa=>θ 143 [(0,b),(1,a)] λa=>ι f 143 (υ m) a λa b=>ai (ah TE a 143 (υ m)) λc=>R [c,aeR] a (min g b))) [aeS,φ 0] b (ψ d f g)))) [aeQ,φ 0] b c)):=by kernel_rfl
theorem F69:eL TE (aL TE X) f69 [x0] m R=ρ m x0 30 λa=>δ a 30 (υ m) λb=>χ X 128 [b] a λa b c=>ο .not a λa=>aR a (R [aeQ] b (min m.n c)) (Lp (λa b c d=>un b λb f=>un f λf _=>ε 30 (υ m) 0 λg=>δ c 28 g λg=>κ c .len [28] [g] λg _=>η .lss 3 f g λg=>aR g (ε 30 (υ m) 0 λg=>δ c 28 g λg=>ζ 28 g f λg=>δ c 60 g λg=>χ X 129 [g] c λc g h=>ξ c 0 λi=>ξ c 1 λc=>ς g [φ 0,φ 0,φ 0,φ 0,φ 0,φ 0,φ 0,φ 0] 145 λj=>ι j 145 (υ g) i λi j=>aR c (δ i 145 (υ g) λc=>ν i 138 1 [(0,c)] λc g=>κ (M.wl g g.n) .append [138,138] [b,c] λb c=>η .add 3 f (φ 1) λg=>Lp (λb c d g=>un c λc h=>un h λh _=>ε 30 (υ m) 0 λi=>δ d 28 i λi=>κ d .len [28] [i] λi _=>η .lss 3 h i λi=>aR i (ε 30 (υ m) 0 λa=>δ d 28 a λa=>ζ 28 a f λa=>δ d 60 a λa=>ε 30 (υ m) 0 λf=>δ d 28 f λf=>ζ 28 f h λf=>δ d 60 f λf=>χ X 130 [a,f] d λa f i=>(d.n<=i)/\(ξ a 0 λd=>ξ a 1 λa=>ς f [φ 0,φ 0,φ 0,φ 0,φ 0,φ 0,φ 0,φ 0] 145 λj=>ι j 145 (υ f) d λd j=>aR a (δ d 145 (υ f) λa=>ν d 138 1 [(0,a)] λa d=>κ (M.wl d d.n) .append [138,138] [c,a] λa c=>η .add 3 h (φ 1) λd=>b [a,d] c (ω g i j (M.low c))) (η .add 3 h (φ 1) λa=>b [c,a] d (ψ g i j)))) (η .add 3 f (φ 1) λb=>a [c,b] d g)) [b,g] c (ω d h j (M.low c))) (η .add 3 f (φ 1) λc=>Lp (λb c d g=>un c λc h=>un h λh _=>ε 30 (υ m) 0 λi=>δ d 28 i λi=>κ d .len [28] [i] λi _=>η .lss 3 h i λi=>aR i (ε 30 (υ m) 0 λa=>δ d 28 a λa=>ζ 28 a f λa=>δ d 60 a λa=>ε 30 (υ m) 0 λf=>δ d 28 f λf=>ζ 28 f h λf=>δ d 60 f λf=>χ X 130 [a,f] d λa f i=>(d.n<=i)/\(ξ a 0 λd=>ξ a 1 λa=>ς f [φ 0,φ 0,φ 0,φ 0,φ 0,φ 0,φ 0,φ 0] 145 λj=>ι j 145 (υ f) d λd j=>aR a (δ d 145 (υ f) λa=>ν d 138 1 [(0,a)] λa d=>κ (M.wl d d.n) .append [138,138] [c,a] λa c=>η .add 3 h (φ 1) λd=>b [a,d] c (ω g i j (M.low c))) (η .add 3 h (φ 1) λa=>b [c,a] d (ψ g i j)))) (η .add 3 f (φ 1) λb=>a [c,b] d g)) [b,c] i (ψ d h j))) (R [b] c d)) [aeQ,φ 0] b (min m.n c)):=by kernel_rfl
theorem F89:eL TE (aL TE X) f89 [x0,x1] m R=ρ m x0 60 λa=>ρ a x1 60 λb=>jn (λc=>ε 60 (υ m) 0 λd=>δ b 3 d λd=>ε 60 (υ a) 0 λf=>δ b 3 f λf=>η .neq 3 d f λd=>aR d (c [aeR] b m.n) (ε 60 (υ m) 1 λd=>δ b 3 d λd=>ε 60 (υ a) 1 λf=>δ b 3 f λf=>η .neq 3 d f λd=>aR d (c [aeR] b m.n) (ε 60 (υ m) 2 λd=>δ b 3 d λd=>ε 60 (υ a) 2 λf=>δ b 3 f λf=>η .neq 3 d f λd=>aR d (c [aeR] b m.n) (ε 60 (υ m) 4 λd=>δ b 3 d λd=>ε 60 (υ a) 4 λf=>δ b 3 f λf=>η .neq 3 d f λd=>aR d (c [aeR] b m.n) (ε 60 (υ m) 5 λd=>δ b 3 d λd=>ε 60 (υ a) 5 λf=>δ b 3 f λf=>η .neq 3 d f λd=>aR d (c [aeR] b m.n) (ε 60 (υ m) 3 λd=>δ b 58 d λd=>κ b .len [58] [d] λd _=>ε 60 (υ a) 3 λa=>δ b 58 a λa=>κ b .len [58] [a] λa _=>η .neq 3 d a λa=>c [a] b m.n)))))) (λb c d=>un b λb _=>aR b (R [aeS] c d) (Lp (λb c d f=>un c λc g=>un g λg _=>ε 60 (υ m) 3 λh=>δ d 58 h λh=>κ d .len [58] [h] λh _=>η .lss 3 g h λh=>aR h (ε 60 (υ m) 3 λh=>δ d 58 h λh=>ζ 58 h g λh=>δ d 141 h λh=>ε 60 (υ a) 3 λa=>δ d 58 a λa=>ζ 58 a g λa=>δ d 141 a λa=>η .neq 141 h a λa=>aR a (R [aeS] d f) (η .add 3 g (φ 1) λa=>b [c,a] d f)) (R [aeR] d f)) [aeS,φ 0] c d)):=by kernel_rfl
end
end
section
end
section
variable {X:aK} {m:M}
end
section
end
section
def Pl.mv(dx dy:Int)(p:Pl):Pl:=⟨p.x+dx,p.y+dy⟩
def Un.mv(dx dy:Int)(u:Un):Un:={u with shape:=u.shape.map (Pl.mv dx dy)}
end
section
variable {X:aK} {m:M}
theorem PV{a b c d:Int}{e:Bool}:aJ TE 137 [(0,.int .i64 a),(1,.int .i64 b),(2,.int .i64 c),(3,.int .i64 d),(4,.bool e)]=some (Mk.mk a b c d e).v:=by kernel_rfl
theorem R2(mm:M):dg mm [] aeQ:=⟨.nil,λx hx=>(by cases hx),λx hx=>(by cases hx),.inl rfl⟩
theorem PB{l:List UW}{n c:Nat}(h:dg m l (.slice none n c)):l=[]/\n=0/\c=0:=by
 rcases h.sl with⟨h1,h2⟩ |⟨b,o,c,bc,g,h2,_⟩
 ·grind
 cases h2
theorem Kf(hX:cC X){xs:List I6}{ks:List I4}{vb vk va:aeM}(hv:oJ m xs vb)(E1:∀x∈xs,x.ok)(hlen:xs.length < 9223372036854775808)(hk:oJ m ks vk)(c1:∀x∈ks,x.ok)(F1:ks.length < 9223372036854775808):
  ∃l r ms vm m',C X (.func 65) [.agg #[vb,vk,va]] m m.n (.agg #[r,vm]) m'/\Ext m m'/\dg m' l r/\cn (bP l)/\Sl m' ms vm/\iV (bP l) ms:=by
 have key:∃rv m' b,C X (.func 65) [.agg #[vb,vk,va]] m b rv m'/\b=m.n/\Ext m m'/\∃l r ms vm,rv=.agg #[r,vm]/\dg m' l r/\cn (bP l)/\Sl m' ms vm/\iV (bP l) ms:=by
  refine Cl.gen (R:=λrv m' b=>b=m.n/\Ext m m'/\∃l r ms vm,rv=.agg #[r,vm]/\dg m' l r/\cn (bP l)/\Sl m' ms vm/\iV (bP l) ms) (hX.no _ rfl) (aa3 func65) rfl ?_;rw[F65];dsimp only[δ,ε,ζ,η,θ,ι,κ,ξ,ρ,ς,υ,φ,χ,Φ,Ψ,ψ];refine av λm1 J2 G1 K2=>?_;refine av λm2 L2 H1 I1=>?_;have L0:Ext m m2:=⟨by omega,by grind⟩
  have g1:m2.get m.n=.cells [vb,vk,va] 25 none:=by rw[I1 _ (by omega)];exact G1
  unfold ptrTo;have J1:∀mm:M,mm.get m.n=.cells [vb,vk,va] 25 none->ah TE mm 22 (aeK m.n (0+0))=some vb:=λmm hh=>by rw[Ia,aI hh];rfl
  have d1:∀mm:M,mm.get m.n=.cells [vb,vk,va] 25 none->ah TE mm 23 (aeK m.n (0+1))=some vk:=λmm hh=>by rw[Ru,aI hh];rfl
  rw[pO,ae,J1 m2 g1,ae];have⟨l,r,m6,K1,j1,hF,hP⟩:=Kg (m:=m2) hX (hv.aF L0) E1 hlen;refine aE K1 ?_;have M2:=j1.n;have l2:l.length<=12:=by have:=hP.len;rwa[cS]at this
  have or:one r:=hF.sl.one;have cr:=hF.sl.cells;rw[show aJ TE 33 [(0,.agg #[r])]=some (.agg #[r,aeQ]) by rw[zs rfl];rfl,ae];refine av λm9 N2 L1 O2=>?_;refine aC fJ L1 rfl rfl (by show(one r && true)=true;rw[or];rfl) λm10 o2 o0 u2=>?_;have o0:m10.get m6.n=.cells [r,aeQ] 33 none:=o0;have D0:Ext m6 m10:=⟨by omega,by grind⟩
  have u0:Ext m2 m10:=j1.trans D0;have P2:m10.get m.n=.cells [vb,vk,va] 25 none:=u0.cells g1;have Q2:m10.get m1.n=.cells [aeQ,aeQ] 33 none:=u0.cells H1;have k1:iV (bP l) []:=⟨by simp,.nil,λx hx=>(by cases hx),λx hx=>(by cases hx)⟩
  refine Lp.intro (γ:=Nat) (λi=>8-i) (λi vs mm lo=>∃ms vm,vs=[aeP i]/\i<=8/\m10.n<=mm.n/\(∀c,c < m10.n->c≠m6.n->mm.get c=m10.get c)/\m.n<=lo/\mm.get m6.n=.cells [r,vm] 33 none/\Sl mm ms vm/\iV (bP l) ms/\ms.length<=i/\(l=[]->ms=[]/\vm=aeQ)) 0 ⟨[],_,rfl,by omega,aa4 _,λ_ _ _=>rfl,by omega,o0,Sl.nil,k1,abh _,λ_=>⟨rfl,rfl⟩⟩ ?_;rintro i vs mm lo ⟨ms,vm,rfl,hi,T2,p0,a3,gS,v0,hM,b3,E0⟩;have gN:mm.get m.n=.cells [vb,vk,va] 25 none:=by grind
  have z0:dg mm l r:=hF.aY λc cs t g hb _=>by have:=M.bk hb;rw[p0 c (by omega) (by omega),D0.get c this,hb]
  have F0:oJ mm ks vk:=(hk.aF L0).aF ⟨by omega,λc hc=>by rw[p0 c (by omega) (by omega),u0.get c hc]⟩;have l1:∀(m':M) (w:aeM),m'.get m6.n=.cells [r,w] 33 none->ah TE m' 28 (aeK m6.n (0+0+0))=some r:=λm' w hh=>by rw[eO,aI hh];rfl
  rw[aB];refine aW (λvs m' N1=>vs=[.bool (decide (i < ks.length) && decide (i < 8) && decide (0 < l.length))]/\mm=m'/\lo=N1) (λR hR=>?_) ?_
  ·rw[pN,ae,d1 mm gN,ae,F0.len ye,aA,aM,ae,aj];refine ak (λh=>?_) (λh=>?_)
   ·have h:i < ks.length:=by grind
    rw[aM,ae,aj];refine ak (λh8=>?_) (λh8=>?_)
    ·have h8:i < 8:=by
      have:=aba h8
      omega
     rw[bZ,ae,bO,ae,l1 mm _ gS,ae,z0.sl.len dF,aA,bV,ae]
     refine hR _ _ _ ⟨?_,rfl,rfl⟩
     rw[abl h,abl h8,abG,abG]
     congr 2
     rw[decide_eq_decide];omega
    have h8:¬i < 8:=by have:=aa6 h8;omega
    exact hR _ _ _ ⟨by grind,rfl,rfl⟩
   have h:¬i < ks.length:=by grind
   exact hR _ _ _ ⟨by grind,rfl,rfl⟩
  rintro _ _ _ ⟨rfl,rfl,rfl⟩;rw[aB,aj];refine ak (λh=>?_) (λh=>?_)
  ·simp only[abc,abv]at h;have⟨⟨O1,c3⟩,d3⟩:=h;obtain⟨y,o1⟩:∃x,ks[i]?=some x:=⟨_,aa5 O1⟩
   have⟨y0,y1,y2,y3⟩:=c1 y (abb o1);rw[pN,ae,d1 mm gN,ae];have⟨p,e1,e2⟩:=Xi F0 o1;rw[e1,ae,e2,ae];refine av λe3 v2 p1 w2=>?_;refine aC Tq p1 rfl rfl rfl λn0 z2 r1 A2=>?_;have j0:Ext mm n0:=⟨by omega,by grind⟩
   have gy:n0.get mm.n=.cells y.c' 153 none:=r1;have G0:=j0.cells gS;have q0:∀(m':M) (j:Nat) (z:Int),m'.get mm.n=.cells y.c' 153 none->y.c'[j]?=some (aeP z)->ah TE m' 3 (aeK mm.n (0+j))=some (aeP z):=λm' j z hh hj=>by rw[bI,aI hh,abV,hj]
   have i0:an TE 153 (aeK mm.n 0) (aeP 0)=some (aeK mm.n (0+0)):=OC (i:=0) (by decide);have i1:an TE 153 (aeK mm.n 0) (aeP 1)=some (aeK mm.n (0+1)):=OC (i:=1) (by decide);have i2:an TE 153 (aeK mm.n 0) (aeP 2)=some (aeK mm.n (0+2)):=OC (i:=2) (by decide);have i3:an TE 153 (aeK mm.n 0) (aeP 3)=some (aeK mm.n (0+3)):=OC (i:=3) (by decide);have H0:=z0.aF j0;simp only[bZ,bO,cN,i0,i1,i2,i3,ae];rw[l1 n0 _ G0,ae,q0 n0 1 y.b gy rfl,ae,ae,H0.sl.len dF,aA];have P1:=kY (c:=y.b) (show(0:Int)< (l.length:Int) by omega);refine aE (mU hX y1 (show(0:Int)< (l.length:Int) by omega)) ⟨aa4 _,?_⟩;obtain⟨j,hj⟩:∃j:Nat,dR y.b (l.length:Int)=(j:Int):=⟨(dR y.b (l.length:Int)).toNat,by omega⟩
   rw[hj];rw[hj]at P1;obtain⟨u,hu⟩:∃x,l[j]?=some x:=⟨_,aa5 (by omega)⟩
   have N0:=abb hu;have⟨q,q1,q2,ou⟩:=H0.sl.gj (k:=.i64) hu;rw[q1,ae,q2,ae];refine av λg3 B2 u1 C2=>?_;refine aC du u1 rfl rfl (Un.cR ou) λd0 D2 v1 E2=>?_;have k0:Ext n0 d0:=⟨by omega,by grind⟩
   have gu:d0.get n0.n=.cells (u.u.c u.w) 60 none:=v1;have l0:=k0.cells gy;have w1:=k0.cells G0;have I0:=hP.val u.u (by unfold bP;exact acP N0);have j3:=jt I0;have r0:=I0;unfold jO cQ at r0;simp only[abc,abv]at r0;have T1:=((z0.sh u N0).aF j0).aF k0;rw[q0 d0 0 y.a l0 rfl,ae];refine aE (mU hX y0 (by decide)) ⟨aa4 _,?_⟩;rw[bs,ae,(kU gu).1,ae,q0 d0 2 y.c l0 rfl,ae,bH,ae,(kU gu).2.2.2.1,ae,T1.len cx,aA,aQ,ae,wrap64 (by omega) (by omega)];have pa:=kY (c:=y.a) (show(0:Int)< 12 by decide);have pc:=kY (c:=y.c) (show(0:Int)< (u.u.shape.length:Int)+2 by omega);have pd:=kY (c:=y.d) (show(0:Int)< 5 by decide);refine aE (mU hX y2 (by omega)) ⟨aa4 _,?_⟩;rw[dD,ae,wrap64 (by omega) (by omega),q0 d0 3 y.d l0 rfl,ae]
   refine aE (mU hX y3 (by decide)) ⟨aa4 _,?_⟩;rw[aQ,ae,wrap64 (by omega) (by omega),q0 d0 3 y.d l0 rfl,ae];refine aE (mU hX y3 (by decide)) ⟨aa4 _,?_⟩;rw[aS,ae,PV,ae];refine av λk3 F2 z1 G2=>?_;refine aC uB z1 rfl rfl rfl λA0 H2 A1 I2=>?_;have J0:Ext d0 A0:=⟨by omega,by grind⟩
   obtain⟨x,hx⟩:∃x:Mk,x=⟨dR y.a 12,u.u.id,dR y.c ((u.u.shape.length:Int)+2)-2,1+dR y.d 5,decide (dR y.d 2=0)⟩:=⟨_,rfl⟩
   have gm:A0.get d0.n=.cells x.c 137 none:=by rw[hx];exact A1
   have B1:=J0.cells w1;have O0:Ext mm A0:=(j0.trans k0).trans J0;have Q0:=v0.aF O0;rw[show ah TE A0 31 (aeK m6.n (0+1))=some vm by rw[nN,aI B1];rfl,ae,(Db gm).2.2.2.2,ae];obtain⟨a2,r',b,hc,K0,hw⟩:=Qa (x:=x) hX Q0 hM.xN (by grind);refine aE hc ?_;rw[aH,aH];simp only[aa8,aa7,ae];rw[aj];have l3:=O0.n;have b2:=K0.n;have a0:Ext mm a2:=O0.trans K0;refine ak (λhb=>?_) (λhb=>?_)
   ·have hw:=hw hb;refine cg MS (a0.cells gS) (by rw[hw.sl.cells];rfl) (by rw[hw.sl.cells];simp) (by rw[hw.sl.cells];simp[hw.sl.one]) λC1 c2 b0 s0=>?_;rw[hw.sl.cells]at b0;have b0:C1.get m6.n=.cells [r,r'] 33 none:=b0;rw[aQ,ae,wrap64 (by omega) (by omega)]
    have d2:iV (bP l) (nc ms x):=by refine Rz hM (by omega) ?_ ⟨u.u,by unfold bP;exact acP N0,by rw[hx],by grind⟩;rw[hx];unfold AK cQ;simp only[abc,abv];omega
    refine⟨i+1,by omega,nc ms x,r',rfl,by omega,by omega,λc a1 B0=>by rw[s0 c B0,a0.get c (by omega),p0 c a1 B0],by omega,b0,?_,d2,by have:=yR ms x;omega,by grind⟩;refine hw.sl.aY λb c t g hb ht=>?_;have ht:t=137:=abE.1 ht;subst ht;rw[s0 b (λe=>by rw[e,a0.cells gS]at hb;cases hb),hb]
   rw[aQ,ae,wrap64 (by omega) (by omega)];exact⟨i+1,by omega,ms,vm,rfl,by omega,by omega,λc a1 B0=>by rw[a0.get c (by omega),p0 c a1 B0],by omega,a0.cells gS,v0.aF a0,hM,by omega,E0⟩
  ·rw[show ah TE mm 33 (aeK m6.n 0)=some (.agg #[r,vm]) by rw[tE,aN (n:=2) gS (by show 0+2<=2;decide)];rfl,ae]
   have g2:mm.get m1.n=.cells [aeQ,aeQ] 33 none:=by grind
   have j2:one vm:=v0.one
   refine aC fJ g2 rfl rfl (by show(one r && (one vm && true))=true;rw[or,j2];rfl) λe0 k2 g0 h0=>?_
   have g0:e0.get m1.n=.cells [r,vm] 33 none:=g0
   rw[show ah TE e0 33 (aeK m1.n 0)=some (.agg #[r,vm]) by rw[tE,aN (n:=2) g0 (by show 0+2<=2;decide)];rfl,ae]
   have D1:∀(α:Type) [aZ α] (L:List α) (w:aeM),(∀t∈aZ.ty α::aZ.eB α,t≠33)->Sl mm L w->Sl e0 L w:=λα _ L w ht hs=>hs.aY λb c t g hb hm=>by rw[h0 b (by grind),hb]
   have b1:dg e0 l r:=z0.aY λc cs t g hb ht=>by rw[h0 c (by grind),hb]
   have C0:Sl e0 ms vm:=D1 Mk ms vm (by intro t ht;rw[abE.1 ht];decide) v0
   obtain⟨ra,rc,rfl⟩:=hF.sl.form
   cases ra with
   |none=>obtain⟨rfl, -,rfl⟩:=PB hF;obtain⟨rfl,rfl⟩:=E0 rfl;exact .inl ⟨rfl,by omega,rfl,.refl,[],_,[],_,rfl,R2 m,hP,Sl.nil,hM⟩
   |some ad=>
    refine .inr ⟨.inl ?_,by omega,⟨by grind,λc hc=>?_⟩,l,_,ms,vm,rfl,b1,hP,C0,hM⟩;·simp[bC,bB,dG,bF]
    rw[h0 c (by omega),p0 c (by omega) (by omega),u0.get c (by omega),L0.get c hc]
 obtain⟨rv,m',b,hc,rfl,h1,l,r,ms,vm,rfl,h2,h3,h4,h5⟩:=key;exact⟨l,r,ms,vm,m',hc,h1,h2,h3,h4,h5⟩
end
section
variable {X:aK} {m:M}
end
section
variable {X:aK} {m:M}
theorem FR{p:Pl}:aG TE m 58 1 [(0,p.v)]=some (.slice (some ⟨m.n,0,none⟩) 1 1,m.push (.cells p.c 141 none)):=by kernel_rfl
end
section
end
section
structure Ac where
 kind:Int
 un:Un
 id:Int
 i:Int
 k:Int
 zN:Mk
def eX(u:Un):Bool:=decide (u.kind=0) && decide (u.dA=0) && decide (u.shape=[]) && decide (u.back=0) && decide (u.front=0)
def wD(k:Mk):Bool:=decide (k=⟨0,0,0,0,false⟩)
def uR(a:Ac):Bool:=decide (a.i=0) && decide (a.k=0) && eX a.un && decide (a.un.id=0)
def nB(a:Ac):Bool:=
 if a.kind=1 then jO a.un && decide (a.id=0) && decide (a.i=0) && decide (a.k=0)
 else if a.kind=2 then cQ a.id 0 99 && uR a
 else if a.kind=3 then cQ a.id 0 99 && cQ a.un.id 0 99 && !decide (a.id=a.un.id) && eX a.un && cQ a.i 0 7 && cQ a.k 0 7 && !decide (a.i=a.k)
 else if a.kind=4 then cQ a.id 0 99 && cQ a.i (-40) 40 && cQ a.k (-40) 40 && (!decide (a.i=0) || !decide (a.k=0)) && eX a.un && decide (a.un.id=0)
 else if a.kind=5 then AK a.zN && decide (a.id=0) && uR a
 else if a.kind=6\/a.kind=7 then cQ a.id 0 99 && uR a
 else false
def eC(a:Ac):Bool:=nB a && (decide (a.kind=5) ||wD a.zN)
def vE(us:List Un)(id:Int):List Un:=us.filter λy=> !decide (y.id=id)
def uO(us:List Un)(u:Un):List Un:=(us.filter λy=>decide (y.id < u.id))++u::(us.filter λy=>decide (u.id < y.id))
def He(us:List Un)(u:Un):Bool:=jO u && !decide (us.length=12) && us.all (λv=> !decide (v.id=u.id)) && us.all (λv=> !iq u v)
def qO(us:List Un)(u:Un):Option (List Un):=if He us u=true then some (uO us u)else none
def HB(l:List Pl)(a b:Nat):List Pl:=if a<=b then(l.drop a).take (b+1-a)else l.drop a++l.take (b+1)
def Zb(l:List Pl)(i k:Int):Option (List Pl×List Pl):=
 if(bJ l && decide (0<=min i k) && decide (max i k < (l.length:Nat)) && decide (3<=(HB l i.toNat k.toNat).length) && decide (3<=(HB l k.toNat i.toNat).length))=true then some (HB l i.toNat k.toNat,HB l k.toNat i.toNat)else none
def YW(u:Un)(dx dy:Int):Option Un:=if(u.mv dx dy).shape.any Pl.off=true then none else some (u.mv dx dy)
def fI(ms:List Mk)(id:Int):List Mk:=ms.filter λy=> !decide (y.un=id)
def mK(ms:List Mk)(id:Int)(o:Bool):Option (List Mk):=
 match ms.findIdx? λy=>decide (y.id=id)with
 |some k=>match ms[k]? with
  |some y=>if y.LB=o then none else some (ms.set k {y with LB:=o})
  |none=>none
 |none=>none
def oN(us:List Un)(ms:List Mk)(a:Ac):Option (List Un×List Mk):=
 if a.kind=1 then(qO us a.un).map (·,ms)
 else if a.kind=2 then(if(cj us a.id).isSome=true then some (vE us a.id,fI ms a.id)else none)
 else if a.kind=3 then
  match cj us a.id with
  |none=>none
  |some u=>match Zb u.shape a.i a.k with
   |none=>none
   |some (p,q)=>match qO (vE us a.id) {u with shape:=p}with
    |none=>none
    |some vs=>(qO vs {u with shape:=q,id:=a.un.id}).map (·,fI ms a.id)
 else if a.kind=4 then
  match cj us a.id with
  |none=>none
  |some u=>match YW u a.i a.k with
   |none=>none
   |some v=>(qO (vE us a.id) v).map (·,ms)
 else if a.kind=5 then(if(ms.any λy=>decide (y.id=a.zN.id))=true then none else some (us,nc ms a.zN))
 else(mK ms a.id (decide (a.kind=7))).map (us,·)
open Classical in
def iI(us:List Un)(ms:List Mk):Bool:=decide (iV us ms)
def Hp(us:List Un)(ms:List Mk)(a:Ac):Option (List Un×List Mk):=
 if eC a=true then(match oN us ms a with
  |some (vs,ns)=>if iI vs ns=true then some (vs,ns)else none
  |none=>none)else none
theorem cn.Ll{us:List Un}(h:cn us):us.Pairwise λa b=>a.id < b.id:=by rw[abF];intro i j hi hj a0;exact h.S0 a0 (aa5 hi) (aa5 hj)
theorem CC{us:List Un}(h1:us.length<=12)(h2:∀u∈us,jO u)(h3:us.Pairwise λa b=>a.id < b.id)(h4:us.Pairwise λa b=>iq a b=false):cn us:=by
 rw[abF]at h3 h4;refine⟨h1,h2,λi a b ha hb=>?_,λi k a b a0 ha hb=>?_⟩
 ·grind
 ·grind
theorem cn.CW{us:List Un}(h:cn us):us.Pairwise λa b=>iq a b=false:=by rw[abF];intro i j hi hj a0;exact h.apart i j _ _ a0 (aa5 hi) (aa5 hj)
theorem cn.del{us:List Un}(h:cn us)(id:Int):cn (vE us id):=by unfold vE;exact CC (acb (acn _ _) h.len) (λu hu=>h.val u (abW.1 hu).1) (h.Ll.filter _) (h.CW.filter _)
theorem Nv{us:List Un}{u:Un}(h:∀v∈us,v.id≠u.id):(uO us u).length=us.length+1:=by
 unfold uO;rw[abO,abr]
 have:(us.filter λy=>decide (y.id < u.id)).length+(us.filter λy=>decide (u.id < y.id)).length=us.length:=by
  induction us with
  |nil=>rfl
  |cons a r ih=>
   grind
 omega
theorem sS{us:List Un}{u v:Un}(h:v∈uO us u):v=u\/v∈us:=by
 unfold uO at h
 grind
theorem qf{us:List Un}{u:Un}:He us u↔jO u/\us.length≠12/\(∀v∈us,v.id≠u.id)/\∀v∈us,iq u v=false:=by
 unfold He
 grind
theorem cn.ins{us:List Un}(h:cn us){u:Un}(ha:He us u):cn (uO us u):=by
 have⟨h1,h2,h3,h4⟩:=qf.1 ha;have hl:=h.len;refine CC (by rw[Nv h3];omega) (λv hv=>?_) ?_ ?_
 ·rcases sS hv with rfl |hv;·exact h1
  exact h.val v hv
 ·unfold uO
  rw[ab8,aca]
  refine⟨h.Ll.filter _,⟨by grind,h.Ll.filter _⟩,λa ha b hb=>?_⟩
  grind
 unfold uO;rw[ab8,aca];refine⟨h.CW.filter _,⟨λz hz=>h4 z (abW.1 hz).1,h.CW.filter _⟩,λa ha b hb=>?_⟩;have a0:=(abW.1 ha).1;have ha:a.id < u.id:=by grind
 rcases abp.1 hb with rfl |hb;·rw[nG];exact h4 a a0
 have b0:=(abW.1 hb).1;have hb:u.id < b.id:=by grind
 have⟨i,hi⟩:=abx a0;have⟨k,hk⟩:=abx b0
 have d0:i < k:=by
  rcases adn i k with h |rfl |h';·exact h
  ·grind
  have:=h.S0 h' hk hi;omega
 exact h.apart i k _ _ d0 hi hk
theorem xP{us vs:List Un}{u:Un}(h:cn us)(ha:qO us u=some vs):cn vs/\vs=uO us u/\jO u:=by
 unfold qO at ha;split at ha
 ·rename_i hb;cases ha;exact⟨h.ins hb,rfl,(qf.1 hb).1⟩
 cases ha
theorem Iy{us vs:List Un}{ms ns:List Mk}{a:Ac}(h:cn us)(hd:oN us ms a=some (vs,ns)):cn vs:=by
 unfold oN at hd;split at hd
 ·cases h1:qO us a.un with
  |none=>rw[h1]at hd;cases hd
  |some l=>rw[h1]at hd;cases hd;exact(xP h h1).1
 split at hd
 ·split at hd;·cases hd;exact h.del _
  cases hd
 split at hd
 ·split at hd;·cases hd
  rename_i u hu;split at hd;·cases hd
  rename_i p q hc;split at hd;·cases hd
  ·rename_i l hl
   cases h1:qO l {u with shape:=q,id:=a.un.id}with
   |none=>rw[h1]at hd;cases hd
   |some l'=>rw[h1]at hd;cases hd;exact(xP (xP (h.del _) hl).1 h1).1
 split at hd
 ·split at hd;·cases hd
  rename_i u hu;split at hd;·cases hd
  ·rename_i v hv
   cases h1:qO (vE us a.id) v with
   |none=>rw[h1]at hd;cases hd
   |some l'=>rw[h1]at hd;cases hd;exact(xP (h.del _) h1).1
 split at hd
 ·grind
 ·cases h1:mK ms a.id (decide (a.kind=7))with
  |none=>rw[h1]at hd;cases hd
  |some l=>rw[h1]at hd;cases hd;exact h
end
section
end
section
variable {X:aK} {m:M}
end
section
end
section
end
section
variable {X:aK} {m:M}
section
variable {α:Type} [aZ α]
end
end
end Go.Proofs.YtigpcbodmjjaiaaGreatDoor
