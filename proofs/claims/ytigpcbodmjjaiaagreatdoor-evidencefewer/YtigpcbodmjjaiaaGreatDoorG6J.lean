/- putlogref12.Add. -/
import Derived.Test.YtigpcbodmjjaiaaGreatDoorG5J
import Derived.Test.YtigpcbodmjjaiaaGreatDoorBtJ
import Derived.Sort.Grow
set_option maxRecDepth 100000
noncomputable section
open Go Go.D Go.Proofs.Tryz
namespace Go.Proofs.YtigpcbodmjjaiaaGreatDoor
section
variable {X:aM} {m:M}
def gL(u:Un):List Un->List Un
 |[]=> [u]
 |a::r=>if u.id < a.id then u::a::r else a::gL u r
theorem BU{u:Un}:∀{p q:List Un},(∀x∈p,¬u.id < x.id)->gL u (p++q)=p++gL u q
 |[],q,_=>rfl
 |a::p,q,h=>by
  rw[acw,gL,aa4 (h a (by simp)),BU λx hx=>h x (by grind)];rfl
theorem DQ{u x:Un}:∀{p:List Un},(∃y∈p,u.id < y.id)->gL u (p++ [x])=gL u p++ [x]
 |[],h=>by grind
 |a::p,h=>by
  rw[acw,gL,gL]
  by_cases e:u.id < a.id
  ·grind
  ·rw[aa4 e,aa4 e,DQ]
   ·rfl
   ·grind
structure KeU(oc:Nat)(m m1:M):Prop where
 n:m.n<=m1.n
 lo:∀c,c < oc->m1.get c=m.get c
 get:∀c,c < m.n->c≠oc->(∀cs g,m.get c≠.cells cs 60 g)->m1.get c=m.get c
structure EB(oc:Nat)(mm:M)(acc:List UW)(r:aes):Prop where
 cell:mm.get oc=.cells [r] 30 none
 ow:Ow (oc+1) mm acc r
 sh:∀x∈acc,Sl mm x.u.shape x.w
 ln:∀x∈acc,x.u.shape.length < 1000000
theorem EB.qk{oc:Nat}{mm:M}{acc:List UW}{r:aes}(h:EB oc mm acc r):cY mm acc r:=
 ⟨h.ow.sl,h.sh,h.ln,by
  rcases h.ow with⟨_,h⟩ |⟨b,cs,h1,h2,h3,h4,h5,h6⟩
  ·grind
  ·exact .inr ⟨b,0,_,cs,_,h1,aaV _,h4,.inr rfl⟩⟩
theorem EB.aG{oc:Nat}{mm m':M}{acc:List UW}{r:aes}(h:EB oc mm acc r)(hx:Ext mm m'):EB oc m' acc r:=⟨hx.cells h.cell,h.ow.aG hx,λx a0=>(h.sh x a0).aG hx,h.ln⟩
theorem mQ{α:Type}[aZ α]{n1:Nat}{l:List α}{v:aes}(h:Ow n1 m l v){a:Addr}{n k:Nat}(e:v=.slice (some a) n k):∃cs g,m.get a.block=.cells cs (aZ.ty α) g/\n1<=a.block:=by
 rcases h with⟨rfl,_⟩ |⟨b,cs,rfl,h2,h3,h4,_⟩;·cases e
 ·grind
theorem Qj{oc:Nat}{mm:M}{acc:List UW}{r w:aes}{u:Un}(h:EB oc mm acc r)(hw:Sl mm u.shape w)(hl:u.shape.length < 1000000)(z0:acc.length < 1000000):
  ∃b0 r' a0 g0,aI TE mm 28 1 [(0,u.v w)]=some (aer mm.n 0 1 1,b0)/\az TE (M.wl b0 (M.n b0)) .append [28,28] [r,aer mm.n 0 1 1]=some (r',a0)/\
   aF TE a0 28 (aeq oc (0+0)) r'=some (g0,oc)/\oc+1<=a0.low/\EB oc g0 (acc++ [⟨u,w⟩]) r'/\KeU oc mm g0:=by
 have A0:=M.bk h.cell;have q0:one w:=hw.one;have e0:Ext mm (mm.push (.cells (UW.c ⟨u,w⟩) 60 none)):=Ext.refl.push;refine⟨mm.push (.cells (UW.c ⟨u,w⟩) 60 none),?_⟩;have r0:aI TE mm 28 1 [(0,u.v w)]=some (aer mm.n 0 1 1,mm.push (.cells (UW.c ⟨u,w⟩) 60 none)):=BD (x:=⟨u,w⟩);generalize j0:mm.push (.cells (UW.c ⟨u,w⟩) 60 none)=b0 at*;have n0:b0.get mm.n=.cells (UW.c ⟨u,w⟩) 60 none:=by rw[<-j0];exact M.aY
 have B0:b0.n=mm.n+1:=by rw[<-j0];rfl
 have h0:=h.aG e0;obtain⟨r',a0,ha,d0,i0,o0,y0⟩:=Ow.append (y:=aer mm.n 0 1 1) (ys:=[(⟨u,w⟩:UW)]) Pe (by simp[aZ.dd]) h0.ow (Ad n0 q0) (by omega) (by grind);have C0:=i0.n;have p0:a0.get oc=.cells [r] 30 none:=by rw[i0.get _ (by omega),h0.cell]
 have s0:=rP (E:=TE) (o:=0+0) (x:=r') Md p0 (by rw[d0.sl.cells];rfl) (by rw[d0.sl.cells];simp) (by rw[d0.sl.cells];simp[d0.sl.one]);refine⟨r',a0,_,r0,ha,s0,o0,?_⟩;have k0:∀c,c≠oc->(a0.set oc (.cells (([r]:aet).take (0+0)++(cells r'++([r]:aet).drop (0+0+(cells r').length))) 30 none)).get c=a0.get c:=λc hc=>M.dz hc
 have u0:(a0.set oc (.cells (([r]:aet).take (0+0)++(cells r'++([r]:aet).drop (0+0+(cells r').length))) 30 none)).get oc=.cells [r'] 30 none:=by rw[M.eN (M.bk p0),d0.sl.cells];rfl
 have v0:(a0.set oc (.cells (([r]:aet).take (0+0)++(cells r'++([r]:aet).drop (0+0+(cells r').length))) 30 none)).n=a0.n:=rfl;generalize a0.set oc (.cells (([r]:aet).take (0+0)++(cells r'++([r]:aet).drop (0+0+(cells r').length))) 30 none)=g0 at*
 have bs:∀c,c < b0.n->c≠oc->(∀cs g,b0.get c≠.cells cs 60 g)->g0.get c=b0.get c:=λc hc l0 ht=>by rw[k0 c l0,eP ha hc λa n k e he=>?_];have⟨cs,g,hg,_⟩:=mQ h0.ow e;rw[<-he]at hg;exact ht _ _ hg
 have Sn:∀(m0:List Pl) (v:aes),Sl b0 m0 v->Sl g0 m0 v:=λm0 v hs=>hs.bs λb cs t g hb ht=>by
  have ht:t=141:=by simpa[aZ.ty,aZ.dd]using ht
  subst ht;rw[bs b (M.bk hb) (λe=>by subst e;rw[h0.cell]at hb;cases hb) (by grind),hb]
 refine⟨⟨u0,d0.bs λb c t g hb ht=>?_,λx hx=>?_,λx hx=>?_⟩,⟨by omega,λc hc=>?_,λc hc l0 ht=>?_⟩⟩
 ·have ht:t=60:=by simpa[aZ.ty,aZ.dd]using ht
  grind
 ·rcases abp.1 hx with hx |hx;·exact Sn _ _ (h0.sh x hx)
  rw[abr]at hx;subst hx;exact Sn _ _ (hw.aG e0)
 ·rcases abp.1 hx with hx |hx;·exact h.ln x hx
  ·grind
 ·rw[k0 c (by omega),i0.get c (by omega),e0.get c (by omega)]
 rw[bs c (by omega) l0 (λcs g e=>ht cs g (by rw[<-e,e0.get c (by omega)])),e0.get c (by omega)]
theorem mL(hX:cy X){oc:Nat}{mm:M}{acc:List UW}{r w:aes}{u:Un}(h:EB oc mm acc r)(hw:Sl mm u.shape w)(hl:u.shape.length < 1000000)(i0:acc.length < 1000000):
  ∃w' b0 d0 r' e0 g0,C X (.func 219) [u.v w] mm mm.n (u.v w') b0/\aI TE b0 28 1 [(0,u.v w')]=some (aer b0.n 0 1 1,d0)/\
   az TE (M.wl d0 (M.n d0)) .append [28,28] [r,aer b0.n 0 1 1]=some (r',e0)/\
   aF TE e0 28 (aeq oc (0+0)) r'=some (g0,oc)/\oc+1<=e0.low/\EB oc g0 (acc++ [⟨u,w'⟩]) r'/\KeU oc mm g0:=by have k0:=M.bk h.cell;have⟨w',b0,hc,a0,h0⟩:=AU hX hw hl;have l0:=a0.n;have⟨d0,r',e0,g0,h1,h2,h3,h4,h5,h6⟩:=Qj (h.aG a0) h0 hl i0;exact⟨w',b0,d0,r',e0,g0,hc,h1,h2,h3,h4,h5,⟨by have:=h6.n;omega,λc hc=>by rw[h6.lo c hc,a0.get c (by omega)],λc hc j0 ht=>by rw[h6.get c (by omega) j0 (λcs g e=>ht cs g (by rw[<-e,a0.get c hc])),a0.get c hc]⟩⟩
open Classical in
def oM(l:List UW)(u:Un)(m':M)(rv:aes):Prop:=
 if fJ (bR l)=true/\fJ (gL u (bR l))=true then∃l' r,rv=.tuple #[.agg #[r],.int .i64 0]/\bR l'=gL u (bR l)/\cY m' l' r else rv=.tuple #[.agg #[.slice none 0 0],.int .i64 120]
theorem oM.no{l:List UW}{u:Un}{m':M}(h:¬(fJ (bR l)/\fJ (gL u (bR l)))):oM l u m' (.tuple #[.agg #[aew],aev 120]):=by unfold oM;rw[aa4 h]
theorem oM.yes{l l':List UW}{u:Un}{m':M}{r:aes}(h1:fJ (bR l))(h2:fJ (gL u (bR l)))(h3:bR l'=gL u (bR l))(h4:cY m' l' r):oM l u m' (.tuple #[.agg #[r],aev 0]):=by unfold oM;rw[aa5 ⟨h1,h2⟩];exact⟨l',r,rfl,h3,h4⟩
theorem HB(u:Un)(l:List Un):gL u l≠ []:=by
 cases l with
 |nil=>simp[gL]
 |cons a r=>rw[gL];split <;>simp
theorem Pn(hX:cy X){l:List UW}{v w:aes}{u:Un}(h:cY m l v)(hlen:l.length < 1000)(hw:Sl m u.shape w)(S0:u.shape.length < 1000000):
  ∃rv m',C X (.func 171) [.agg #[v],u.v w] m m.n rv m'/\Ext m m'/\oM l u m' rv:=by
 have key:∃rv m' b,C X (.func 171) [.agg #[v],u.v w] m b rv m'/\b=m.n/\Ext m m'/\oM l u m' rv:=by
  refine Cl.gen (R:=λrv m' b=>b=m.n/\Ext m m'/\oM l u m' rv) (hX.no _ rfl) (aaU func171) rfl ?_;rw[ZW];dsimp only[δ,ε,ζ,η,θ,ι,κ,ν,ο,ρ,ς,υ,χ,ψ,Γ,Θ,Λ,ω];refine aw λm1 J1 r1 K1=>?_;refine aw λm2 L1 u1 N1=>?_;refine aw λm3 O1 P1 T1=>?_;simp only[aX]at r1 u1;have v1:Ext m m3:=⟨by omega,by grind⟩
  have g1:m3.get m.n=.cells [v] 30 none:=by grind
  have g2:m3.get m1.n=.cells (u.c w) 60 none:=by grind
  unfold ptrTo;rw[ew,aP g1 (by simp)];show aj (some (Value.agg #[v])) _;rw[ae];refine aH (kP hX (h.aG v1) (by omega)) ?_;rw[bE,ae,ak]
  have g0:∀(mm:M) (lo:Nat),(∀c,c < m3.n->mm.get c=m3.get c)->¬(fJ (bR l)/\fJ (gL u (bR l)))->m.n<=lo->
    aR (aF TE mm 30 (aeq m2.n 0) (.agg #[aew])) λm10 I0=>aj (ah TE m10 30 (aeq m2.n 0)) λv12=>
     (bF (bz [v12,aev 120])/\m.n<=min lo I0/\m.n=m.n/\Ext m m/\oM l u m (bz [v12,aev 120]))\/
     ((bF (bz [v12,aev 120])=false\/min lo I0 < m.n)/\min m.n (min lo I0)=m.n/\Ext m m10/\oM l u m10 (bz [v12,aev 120])):=by
   intro mm lo hk w1 y1
   have g3:mm.get m2.n=.cells [aew] 30 none:=by grind
   refine aD oR g3 rfl rfl rfl λm10 c1 b0 D0=>?_
   have b0:m10.get m2.n=.cells [aew] 30 none:=b0
   rw[ew,aP b0 (by simp)]
   show aj (some (Value.agg #[aew])) _
   rw[ae]
   exact .inl ⟨rfl,by omega,rfl,.refl,.no w1⟩
  have J0:aK TE 30 []=some (.agg #[aew]):=AX;refine av (λhb=>?_) (λhb=>?_)
  ·have hb:fJ (bR l)=false:=by grind
   rw[J0,ae];exact g0 m3 (min m.n m3.n) (λ_ _=>rfl) (by grind) (by omega)
  have z1:fJ (bR l):=by grind
  refine aw λm13 F1 E0 F0=>?_;obtain⟨oc,A1⟩:∃oc,oc=m3.n:=⟨_,rfl⟩
  rw[<-A1]at E0⊢;have G1:Ext m3 m13:=⟨by omega,λc hc=>F0 c hc⟩
  refine Lp.intro (γ:=Nat) (λi=>l.length-i) (λi vs mm lo=>∃(done:Bool) (acc:List UW) (r:aes),vs=[.bool done,aev i]/\i<=l.length/\EB oc mm acc r/\(∀c,c < oc->mm.get c=m3.get c)/\m.n<=lo/\m13.n<=mm.n/\(done=false->bR acc=(bR l).take i/\∀x∈(bR l).take i,¬u.id < x.id)/\(done->bR acc=gL u ((bR l).take i)/\∃x∈(bR l).take i,u.id < x.id)/\acc.length<=i+1) 0 ⟨false,[],_,rfl,aa6 _,⟨E0,.nil,λx hx=>(by cases hx),λx hx=>(by cases hx)⟩,λc hc=>F0 c (by omega),by omega,aaV _,λ_=>⟨rfl,λx hx=>(by grind)⟩,λh=>(by cases h),aa6 _⟩ ?_;rintro i vs mm o0 ⟨done,acc,r,rfl,hi,h0,hk,y1,d1,y0,K0,c2⟩;have gf:mm.get m.n=.cells [v] 30 none:=by grind
  have gu:mm.get m1.n=.cells (u.c w) 60 none:=by grind
  have L0:Ext m mm:=⟨by omega,by grind⟩
  have hF:=h.aG L0;have z0:∀m':M,m'.get m.n=.cells [v] 30 none->ah TE m' 28 (aeq m.n (0+0))=some v:=λm' h=>by rw[ez,aL h];rfl
  have A0:∀(m':M) acc r,EB oc m' acc r->ah TE m' 28 (aeq oc (0+0))=some r:=λm' acc r h=>by rw[ez,aL h.cell];rfl
  rw[aE,aE,bN,ae,z0 mm gf,ae,hF.sl.len dt,aA,aQ,ae,ak];refine av (λi1=>?_) (λd2=>?_)
  ·have i1:i < l.length:=by grind
   obtain⟨x,hx⟩:∃x,l[i]?=some x:=⟨_,aaW i1⟩
   have G0:=aa2 hx;have B0:(bR l).take (i+1)=(bR l).take i++ [x.u]:=by rw[abg,iw hx];rfl
   refine bA (λvs m' lo=>vs=[.bool (!done && decide (u.id < x.u.id))]/\mm=m'/\o0=lo) (λR hR=>?_) ?_
   ·rw[bE,ae,ak];refine av (λh1=>?_) (λh1=>?_)
    ·have⟨q,q0,f1,f2,f3⟩:=rK hF.sl hx;obtain⟨l0, -⟩:=kb gu;rw[ae,z0 mm gf,ae,f1,ae,f2,ae,f3,ae,bD,ae,l0,ae,bX,ae];exact hR _ _ _ ⟨by grind,rfl,rfl⟩
    exact hR _ _ _ ⟨by grind,rfl,rfl⟩
   rintro _ _ _ ⟨rfl,rfl,rfl⟩;rw[aE,ak]
   have step:∀(m':M) (a0:List UW) (r':aes),EB oc m' a0 r'->(∀c,c < oc->m'.get c=m3.get c)->m13.n<=m'.n->a0.length < 100000->
     ∃q w' i0 k0 p0 m0 j0,an TE 28 v (aev i)=some q/\ah TE m' 60 q=some x.v/\C X (.func 219) [x.v] m' m'.n (x.u.v w') i0/\aI TE i0 28 1 [(0,x.u.v w')]=some (aer i0.n 0 1 1,k0)/\
      az TE (M.wl k0 (M.n k0)) .append [28,28] [r',aer i0.n 0 1 1]=some (p0,m0)/\
      aF TE m0 28 (aeq oc (0+0)) p0=some (j0,oc)/\oc+1<=m0.low/\EB oc j0 (a0++ [⟨x.u,w'⟩]) p0/\(∀c,c < oc->j0.get c=m3.get c)/\m13.n<=j0.n:=by
    intro m' a0 r' hg j1 B1 k1
    have H0:Ext m m':=⟨by omega,by grind⟩
    have⟨q,q1,q2,_⟩:=(h.aG H0).sl.fx (k:=.i64) hx
    obtain⟨w',i0,k0,p0,m0,j0,h1,h2,h3,h4,h5,h6,h7⟩:=mL hX hg ((h.aG H0).sh x G0) (h.ln x G0) (by omega)
    exact⟨q,w',i0,k0,p0,m0,j0,q1,q2,h1,h2,h3,h4,h5,h6,λc hc=>by rw[h7.lo c hc,j1 c hc],by have:=h7.n;omega⟩
   refine av (λh1=>?_) (λh1=>?_)
   ·rw[aa3]at h1;have⟨h1,h2⟩:=h1;have d0:done=false:=by grind
    have e0:u.id < x.u.id:=by grind
    have⟨e1,e2⟩:=y0 d0
    have H1:acc.length<=i:=by have:=congrArg List.length e1;rw[cI,abP]at this;omega
    obtain⟨wa,i2,j2,ra,k2,C0,a1,a2,a3,a4,a5,a6,a7⟩:=mL hX h0 (hw.aG L0) S0 (by omega);obtain⟨q,wb,l2,m64,rb,o2,u2,b1,b2,b3,b4,b5,b6,b7,b8,b9,N0⟩:=step C0 _ ra a6 (λc hc=>by rw[a7.lo c hc,hk c hc]) (by have:=a7.n;omega) (by grind);have l1:C0.get m.n=.cells [v] 30 none:=by rw[a7.lo _ (by omega),gf]
    rw[bN,ae,A0 mm acc r h0,ae,bV gu,ae];refine aH a1 ⟨aaV _,?_⟩;rw[a2,aA,a3,aA,ae,a4,aA,ae,A0 C0 _ _ a6,ae,ae,z0 C0 l1,ae,b1,ae,b2,ae];refine aH b3 ⟨aaV _,?_⟩;rw[b4,aA,b5,aA,ae,b6,aA,aS,ae,wrap64];have:=a7.n;refine⟨i+1,by omega,true,_,rb,rfl,by omega,b8,b9,by omega,N0,(λh=>by cases h),λ_=>⟨?_,x.u,by grind,e0⟩,by grind⟩;rw[B0,BU e2];show bR ((acc++ [⟨u,wa⟩])++ [⟨x.u,wb⟩])=_;unfold bR at e1⊢;rw[abE,abE,e1];simp[gL,e0]
   obtain⟨q,wb,i0,k0,rb,m0,j0,b1,b2,b3,b4,b5,b6,b7,b8,b9,N0⟩:=step mm _ r h0 hk d1 (by omega);rw[bN,ae,A0 mm acc r h0,ae,ae,z0 mm gf,ae,b1,ae,b2,ae];refine aH b3 ⟨aaV _,?_⟩;rw[b4,aA,b5,aA,ae,b6,aA,aS,ae,wrap64];refine⟨i+1,by omega,done,_,rb,rfl,by omega,b8,b9,by omega,N0,λhd=>?_,λhd=>?_,by grind⟩
   ·have⟨e1,e2⟩:=y0 hd
    have hn:¬u.id < x.u.id:=by rw[hd,acL,abG]at h1;simpa using h1
    refine⟨?_,λy hy=>?_⟩
    ·rw[B0];unfold bR at e1⊢;rw[abE,e1];rfl
    rw[B0]at hy;rcases abp.1 hy with hy |hy;·exact e2 y hy
    rw[abr]at hy;subst hy;exact hn
   have⟨e1,y,hy,e0⟩:=K0 hd;refine⟨?_,y,by grind,e0⟩;rw[B0,DQ ⟨y,hy,e0⟩];unfold bR at e1⊢;rw[abE,e1];rfl
  have C1:i=l.length:=by
   have:¬(i:Int)< (l.length:Int):=by grind
   omega
  subst C1;rw[abk (by rw[cI];exact aaV _)]at y0 K0
  have fin:∀(m':M) (a0:List UW) (r':aes) (r0:Nat),EB oc m' a0 r'->(∀c,c < oc->m'.get c=m3.get c)->m13.n<=m'.n->m.n<=r0->bR a0=gL u (bR l)->a0.length < 100000->
    C X (.func 128) [.agg #[r']] m' m'.n (.bool (fJ (gL u (bR l)))) m'/\ah TE m' 30 (aeq oc 0)=some (.agg #[r'])/\
    (fJ (gL u (bR l))->aR (aF TE m' 30 (aeq m2.n 0) (.agg #[r'])) λs0 u0=>aj (ah TE s0 30 (aeq m2.n 0)) λv12=>
     (bF (bz [v12,aev 0])/\m.n<=min r0 u0/\m.n=m.n/\Ext m m/\oM l u m (bz [v12,aev 0]))\/
     ((bF (bz [v12,aev 0])=false\/min r0 u0 < m.n)/\min m.n (min r0 u0)=m.n/\Ext m s0/\oM l u s0 (bz [v12,aev 0]))):=by
   intro m' a0 r' r0 hg j1 B1 I1 n0 k1
   refine⟨by rw[<-n0];exact kP hX hg.qk (by omega),by rw[ew,aP hg.cell (by simp)];rfl,λhv=>?_⟩
   have g3:m'.get m2.n=.cells [aew] 30 none:=by grind
   refine aD oR g3 rfl rfl (by show(one r' && true)=true;rw[hg.ow.sl.one];rfl) λm10 c1 b0 D0=>?_
   have b0:m10.get m2.n=.cells [r'] 30 none:=b0
   rw[ew,aP b0 (by simp)]
   show aj (some (Value.agg #[r'])) _
   rw[ae]
   have o1:cY m10 a0 r':=hg.qk.bs λc cs t g hb ht=>by rw[D0 c (by grind),hb]
   refine .inr ⟨.inl ?_,by omega,⟨by omega,by grind⟩,.yes z1 hv n0 o1⟩
   have D1:a0≠ []:=λe=>by rw[e]at n0;exact HB u (bR l) n0.symm
   have⟨bb,E1,_⟩:=Own.of hg.ow D1
   rw[E1]
   simp[bz,bF,dw,bI]
  rw[bE,ae,ak];refine av (λh1=>?_) (λh1=>?_)
  ·have d0:done=false:=by grind
   have⟨e1,e2⟩:=y0 d0
   obtain⟨wa,v2,w2,ra,O0,v0,a1,a2,a3,a4,a5,a6,a7⟩:=mL hX h0 (hw.aG L0) S0 (by omega)
   have n0:bR (acc++ [⟨u,wa⟩])=gL u (bR l):=by have:gL u (bR l++ [])=bR l++gL u []:=BU e2;rw[abJ]at this;rw[this];unfold bR at e1⊢;rw[abE,e1];rfl
   have n7:=a7.n
   obtain⟨f1,f2,f3⟩:=fin v0 _ ra (min (min (min o0 mm.n) O0.low) oc) a6 (λc hc=>by rw[a7.lo c hc,hk c hc]) (by omega) (by omega) n0 (by grind)
   rw[bN,ae,A0 mm acc r h0,ae,bV gu,ae]
   refine aH a1 ⟨aaV _,?_⟩
   rw[a2,aA,a3,aA,ae,a4,aA,f2,ae]
   refine aH f1 ?_
   rw[bE,ae,ak]
   have p1:min (min (min (min o0 mm.n) O0.low) oc) v0.n=min (min (min o0 mm.n) O0.low) oc:=by grind
   rw[p1]
   cases P0:fJ (gL u (bR l))with
   |false=>rw[acL,bH,J0,ae];exact g0 v0 _ (λc hc=>by rw[a7.lo c (by omega),hk c (by omega)]) (by grind) (by omega)
   |true=>rw[aca,aT,f2,ae];exact f3 P0
  ·have d0:done:=by grind
   have⟨e1,_⟩:=K0 d0
   obtain⟨f1,f2,f3⟩:=fin mm acc r (min o0 mm.n) h0 hk d1 (by omega) e1 (by omega)
   rw[f2,ae]
   refine aH f1 ?_
   rw[bE,ae,ak]
   cases P0:fJ (gL u (bR l))with
   |false=>rw[acL,bH,J0,ae];exact g0 mm _ (λc hc=>hk c (by omega)) (by grind) (by omega)
   |true=>rw[aca,aT,f2,ae];exact f3 P0
 obtain⟨rv,m',b,hc,rfl,h1,h2⟩:=key;exact⟨rv,m',hc,h1,h2⟩
end
section
variable {X:aM} {m:M}
structure I6 where
 a:Int
 b:Int
 c:Int
 d:Int
 e:Int
 f:Int
def I6.c'(x:I6):aet:=[.int .i64 x.a,.int .i64 x.b,.int .i64 x.c,.int .i64 x.d,.int .i64 x.e,.int .i64 x.f]
def I6.ok(x:I6):Prop:=ka x.a/\ka x.b/\ka x.c/\ka x.d/\ka x.e/\ka x.f
instance:aZ I6 where
 ty:=89
 sz:=6
 agg:=true
 dd:=[]
 rep _ x cs:=cs=x.c'
 pos:=by decide
 one:=by grind
 len:=by rintro _ _ _ rfl;rfl
 ee:=by rintro _ _ _ rfl;rfl
 bs:=by grind
theorem np:oO TE 22 89 I6:=⟨ag.t22,ag.t89,by kernel_rfl,⟨_,rfl⟩,rfl,by kernel_rfl,rfl,rfl⟩
theorem NH{l:List I6}{v:aes}(h:oG m l v){i:Nat}{x:I6}(hx:l[i]?=some x):∃b o,an TE 22 v (aev i)=some (aeq b o)/\ah TE m 89 (aeq b o)=some (.agg x.c'.toArray)/\ah TE m 3 (aeq b (o+5))=some (aev x.f):=by
 have⟨p,cs,e1,e2,e3⟩:=h.index np (k:=.i64) hx;have e3:cs=x.c':=e3;subst e3;have b0:=(aa0.1 hx).1;rcases h with h |h
 ·have⟨b,o,bc,g,cs,f1,hb,hr,hle,hj⟩:=h.gM np (k:=.i64) hx;have hr:cs=x.c':=hr;subst hr;rw[e1]at f1;cases f1;refine⟨b,o,e1,e2,?_⟩;rw[bO,aL hb,hj 5 (by decide)];rfl
 rcases h with⟨_,rfl⟩ |⟨b,o,c,bc,rfl,hb,a0⟩
 ·grind
 have⟨hle,hr⟩:=a0 i x hx;have hr:(bc.drop (o+i*6)).take 6=x.c':=hr
 have f1:an TE 22 (aer b o l.length c) (aev i)=some (aeq b (o+i*6)):=by
  have hc:0<=(i:Int)/\(i:Int)< (l.length:Int)/\0 < ag.t22.es:=⟨by omega,by omega,by decide⟩
  have hd:ag.t22.d=.slice 89:=rfl;simp only[an,R0,hd];rw[aa5 hc,bw rfl];rfl
 rw[e1]at f1;cases f1;refine⟨b,o+i*6,e1,e2,?_⟩
 have h5:bc[o+i*6+5]?=some (aev x.f):=by
  have:=congrArg (·[5]?) hr
  simp only[acb (show 5 < 6 by decide),ab0]at this;rw[this];rfl
 rw[bO,uP hb h5 rfl]
theorem Js(hX:cy X){xs:List I6}{v:aes}(hv:oG m xs v)(N0:∀x∈xs,x.ok)(hlen:xs.length < 9223372036854775808):
  ∃l r m',C X (.func 124) [v] m m.n (.agg #[r]) m'/\Ext m m'/\cY m' l r/\cx (bR l):=by
 have key:∃rv m' b,C X (.func 124) [v] m b rv m'/\b=m.n/\Ext m m'/\∃l r,rv=.agg #[r]/\cY m' l r/\cx (bR l):=by
  refine Cl.gen (R:=λrv m' b=>b=m.n/\Ext m m'/\∃l r,rv=.agg #[r]/\cY m' l r/\cx (bR l)) (hX.no _ rfl) (aaU func124) rfl ?_;rw[aam];dsimp only[δ,ζ,η,ι,κ,ξ,ς,υ,χ,ψ,Δ,Θ];refine aw λm1 p1 r1 u1=>?_;refine aw λm2 v1 O0 w1=>?_;have P0:Ext m m2:=⟨by omega,by grind⟩
  have g1:m2.get m.n=.cells [aew] 30 none:=by grind
  have r0:∀mm:M,cY mm [] aew:=λmm=>⟨.nil,λx hx=>(by cases hx),λx hx=>(by cases hx),.inl rfl⟩
  have h0:cx (bR []):=⟨by simp[bR],λu hu=>(by simp[bR]at hu),λi a b ha=>(by simp[bR]at ha),λi k a b _ ha=>(by simp[bR]at ha)⟩
  unfold ptrTo;refine Lp.intro (γ:=Nat) (λi=>12-i) (λi vs mm lo=>∃l r,vs=[aev i]/\i<=12/\Ext m mm/\m2.n<=mm.n/\mm.get m.n=.cells [aew] 30 none/\mm.get m1.n=.cells [r] 30 none/\cY mm l r/\cx (bR l)/\m.n<=lo/\(l=[]->r=aew)) 0 ⟨[],_,rfl,by omega,P0,aaV _,g1,O0,r0 _,h0,aaV _,λ_=>rfl⟩ ?_;rintro i vs mm lo ⟨l,r,rfl,hi,hx,y1,ga,gb,hF,hP,z1,s0⟩;have A1:l.length<=12:=by have:=hP.len;rwa[cI]at this
  rw[aE];refine bA (λvs m' S0=>vs=[.bool (decide (i < xs.length) && decide (i < 12))]/\mm=m'/\lo=S0) (λR hR=>?_) ?_
  ·rw[(hv.aG hx).len np,aA,aQ,ae,ak];refine av (λh=>?_) (λh=>?_)
   ·have h:i < xs.length:=by grind
    rw[aQ,ae]
    refine hR _ _ _ ⟨?_,rfl,rfl⟩
    rw[abb h,abG]
    congr 2
    rw[decide_eq_decide];omega
   have h:¬i < xs.length:=by grind
   exact hR _ _ _ ⟨by grind,rfl,rfl⟩
  rintro _ _ _ ⟨rfl,rfl,rfl⟩;rw[aE,ak];have o0:∀(m':M) (b:Nat) (r:aes),m'.get b=.cells [r] 30 none->ah TE m' 30 (aeq b 0)=some (.agg #[r]):=λm' b r h=>by rw[ew,aP h (by simp)];rfl
  refine av (λh=>?_) (λh=>?_)
  ·simp only[aa3,abm]at h;have⟨a1,i1⟩:=h;obtain⟨x,A0⟩:∃x,xs[i]?=some x:=⟨_,aaW a1⟩
   have⟨k0,k1,k2,k3,k4,k5⟩:=N0 x (aa2 A0);have⟨b,o,e1,e2,e3⟩:=NH (hv.aG hx) A0;have e4:an TE 89 (aeq b o) (aev 5)=some (aeq b (o+5)):=Q6 (i:=5) (by decide);rw[o0 mm _ _ gb,ae,gD,ae,e1,ae,e4,ae,e3,ae];refine aH (ed hX k5 (by decide)) ⟨aaV _,?_⟩;rw[aS,ae,ae,e2,ae];obtain⟨u,w,b1,B0,i0,C0,j1⟩:=Em (m:=mm) hX (mh _) k0 k1 k2 k3 k4 k5;refine aH B0 ⟨aaV _,?_⟩;obtain⟨rv,y0,D0,u0,a0⟩:=Pn (m:=b1) hX (hF.aG i0) (by omega) C0 (by omega);refine aH D0 ⟨aaV _,?_⟩;have n30:=i0.n;have n33:=u0.n;have d0:=i0.trans u0;by_cases hc:fJ (bR l)/\fJ (gL u (bR l))=true
   ·unfold oM at a0;rw[aa5 hc]at a0;obtain⟨l',r',rfl,z0,E0⟩:=a0;rw[aJ,aJ];simp only[aaY,aaX,ae];refine aw λc1 F0 j0 G0=>?_;have or:one r':=E0.sl.one;refine aD oR j0 rfl rfl (by show(one r' && true)=true;rw[or];rfl) λg0 H0 e0 I0=>?_;have e0:g0.get y0.n=.cells [r'] 30 none:=e0;have b0:Ext y0 g0:=⟨by omega,by grind⟩
    rw[aW,ae,ak,abb rfl,bH,o0 g0 _ _ e0,ae];have J0:g0.get m1.n=.cells [r] 30 none:=b0.cells (d0.cells gb);refine aD oR J0 rfl rfl (by grind) λd1 l1 l0 m0=>?_;have l0:d1.get m1.n=.cells [r'] 30 none:=l0;rw[aS,ae,wrap64];refine⟨i+1,by omega,l',r',rfl,by omega,⟨by grind,λc hc=>by rw[m0 c (by omega),b0.get c (by have:=hx.n;omega),d0.get c (by have:=hx.n;omega),hx.get c hc]⟩,by omega,?_,l0,?_,?_,by grind,λe=>?_⟩;·rw[m0 _ (by omega),b0.get _ (by omega),d0.get _ (by omega),ga]
    ·exact(E0.aG b0).bs λc cs t g hb ht=>by rw[m0 c (by grind),hb]
    ·rw[z0];exact mZ.1 hc.2
    rw[e]at z0;exact absurd z0.symm (HB u _)
   unfold oM at a0;rw[aa4 hc]at a0;subst a0;rw[aJ,aJ];simp only[aaY,aaX,ae];refine aw λc1 F0 j0 G0=>?_;refine aD oR j0 rfl rfl rfl λg0 H0 e0 I0=>?_;have b0:Ext y0 g0:=⟨by omega,by grind⟩
   rw[aW,ae,ak,show decide ((120:Int)=0)=false from rfl,aT,aS,ae,wrap64];have p0:=d0.trans b0;exact⟨i+1,by omega,l,r,rfl,by omega,hx.trans p0,by grind,p0.cells ga,p0.cells gb,hF.aG p0,hP,by grind,s0⟩
  rw[o0 mm _ _ gb,ae];have or:one r:=hF.sl.one;refine aD oR ga rfl rfl (by show(one r && true)=true;rw[or];rfl) λq0 o1 n0 v0=>?_;have n0:q0.get m.n=.cells [r] 30 none:=n0;rw[o0 q0 _ _ n0,ae]
  have K0:cY q0 l r:=hF.bs λc cs t g hb ht=>by rw[v0 c (by grind),hb]
  have L0:Ext m q0:=⟨by grind,λc hc=>by rw[v0 c (by omega),hx.get c hc]⟩
  by_cases hl:l=[]
  ·have hr:=s0 hl;subst hl;subst hr;exact .inl ⟨rfl,by omega,rfl,.refl,[],_,rfl,r0 m,h0⟩
  refine .inr ⟨.inl ?_,by omega,L0,l,r,rfl,K0,hP⟩;rcases hF.cap with h |⟨bb,o,c,bc,g,rfl,_⟩;·exact absurd h hl
  simp[bz,bF,dw,bI]
 obtain⟨rv,m',b,hc,rfl,h1,l,r,rfl,h2,h3⟩:=key;exact⟨l,r,m',hc,h1,h2,h3⟩
end
section
open Go Go.D Go.ChangeShapes Go.WideShapes Go.ChangeAt Go.RowKit Go.Proofs.Tryz
theorem nh:Tryz.prog.underlying 22=some (.slice 89):=by kernel_rfl
theorem Ws:Tryz.prog.underlying 89=some (.array 6 3):=by kernel_rfl
section
variable {H:Type} {enc:TypeId×aes->H} {W W':World} {sp:Nat->Bool} {held:Bool} {base:Nat}
theorem FT:∀fuel cs x,DataW.trod enc Tryz.prog W 0 sp held fuel 89 cs=some x->∃y:I6,y.ok/\(∀m,aZ.rep m y cs)/\∀u∈cs,bI u:=by
 intro fuel cs x h
 obtain⟨l,rfl,hl,hr⟩:=HA Ws (by kernel_rfl) h
 match l,hl,hr with
 |[a,b,c,d,e,f],_,hr=>refine⟨⟨a,b,c,d,e,f⟩,⟨hr _ (by simp),hr _ (by simp),hr _ (by simp),hr _ (by simp),hr _ (by simp),hr _ (by simp)⟩,λm=>rfl,λu hu=>?_⟩;obtain⟨z,_,rfl⟩:=abF.1 hu;rfl
theorem P7{v:aes}{d:DataW H}{ps:List MemPlace}(hb:Below W.heap.size W W')(h:DataW.Trod enc Tryz.prog W 0 (λ_=>true) true 22 v d ps)(a0:∀x∈ps,x.block < W.heap.size)(sp:Nat->Bool)(hs:∀x∈ps,sp x.block):DataW.Trod enc Tryz.prog W' 0 sp true 22 v d ps:=
 WideElems.Trod_stays laidOut (by kernel_rfl) (aa1 (by kernel_rfl)) h (λx hx=>hb.same (a0 x hx)) hs
end
end
section
section
variable {X:aM}{x0 x1 x2 x3:aes}{m:M}{R:aet->M->Nat->Prop}
theorem ZD:dU TE (aO TE X) f195 [x0,x1] m R=ρ m x0 141 λa=>ρ a x1 141 λb=>ε 141 (υ m) 0 λc=>δ b 3 c λc=>ε 141 (υ a) 0 λd=>δ b 3 d λd=>ψ X 59 [c,d] b λc d f=>(b.n<=f)/\(ε 141 (υ m) 1 λb=>δ d 3 b λb=>ε 141 (υ a) 1 λa=>δ d 3 a λa=>ψ X 59 [b,a] d λa b d=>ν b 26 2 [(0,c),(1,a)] λa b=>ψ X 80 [a] b λa b c=>R [a] b (Γ m.n f d c)):=by kernel_rfl
theorem ZE:dU TE (aO TE X) f194 [x0,x1,x2,x3] m R=ρ m x0 141 λa=>ρ a x1 141 λb=>ρ b x2 141 λc=>ρ c x3 141 λd=>ς d [χ 0,χ 0] 141 λf=>ς f [χ 0,χ 0] 141 λg=>δ g 141 (υ m) λh=>δ g 141 (υ a) λa=>ν g 58 2 [(0,h),(1,a)] λa g=>δ g 141 (υ b) λb=>δ g 141 (υ c) λc=>ν g 58 2 [(0,b),(1,c)] λb c=>ψ X 233 [a,.func (.func 195) #[] #[]] c λ_ c g=>ψ X 233 [b,.func (.func 195) #[] #[]] c λ_ c h=>ζ 58 a (χ 0) λi=>δ c 141 i λi=>ζ 58 b (χ 0) λj=>δ c 141 j λj=>ν c 58 2 [(0,i),(1,j)] λc i=>ψ X 234 [c,.func (.func 195) #[] #[]] i λc j k=>(i.n<=k)/\(ζ 58 a (χ 1) λa=>δ j 141 a λa=>ζ 58 b (χ 1) λb=>δ j 141 b λb=>ν j 58 2 [(0,a),(1,b)] λa b=>ψ X 235 [a,.func (.func 195) #[] #[]] b λa b i=>ι b 141 (υ d) c λb c=>ι b 141 (υ f) a λa b=>aj (ah TE a 141 (υ d)) λd=>aj (ah TE a 141 (υ f)) λf=>R [d,f] a (Λ m.n g h k i c b)):=by kernel_rfl
theorem Zi:dU TE (aO TE X) f234 [x0,x1] m R=ς m [χ 0,χ 0] 141 λa=>κ a .len [58] [x0] λb _=>η .lss 3 b (χ 1) λb=>aU b False (ζ 58 x0 (χ 0) λb=>δ a 141 b λb=>ς a [χ 0,χ 0] 141 λc=>ι c 141 (υ a) b λb c=>Lp (λb c d f=>un c λc _=>κ d .len [58] [x0] λg _=>η .lss 3 c g λg=>aU g (ζ 58 x0 c λg=>δ d 141 g λg=>δ d 141 (υ a) λh=>gJ x1 λi j k=>bB TE X i (j.toList++([g,h]++k.toList)) d λd g h=>η .gtr 3 d (χ 0) λd=>aU d (ζ 58 x0 c λd=>δ g 141 d λd=>ι g 141 (υ a) d λa d=>η .add 3 c (χ 1) λc=>b [c] a (ω f h d)) (η .add 3 c (χ 1) λa=>b [a] g (min f h))) (δ d 141 (υ a) λa=>ι d 141 (υ m) a λa b=>aj (ah TE a 141 (υ m)) λc=>R [c] a (min f b))) [χ 1] b (min m.n c)):=by kernel_rfl
theorem Zh:dU TE (aO TE X) f235 [x0,x1] m R=ς m [χ 0,χ 0] 141 λa=>κ a .len [58] [x0] λb _=>η .lss 3 b (χ 1) λb=>aU b False (ζ 58 x0 (χ 0) λb=>δ a 141 b λb=>ς a [χ 0,χ 0] 141 λc=>ι c 141 (υ a) b λb c=>Lp (λb c d f=>un c λc _=>κ d .len [58] [x0] λg _=>η .lss 3 c g λg=>aU g (ζ 58 x0 c λg=>δ d 141 g λg=>δ d 141 (υ a) λh=>gJ x1 λi j k=>bB TE X i (j.toList++([g,h]++k.toList)) d λd g h=>η .lss 3 d (χ 0) λd=>aU d (ζ 58 x0 c λd=>δ g 141 d λd=>ι g 141 (υ a) d λa d=>η .add 3 c (χ 1) λc=>b [c] a (ω f h d)) (η .add 3 c (χ 1) λa=>b [a] g (min f h))) (δ d 141 (υ a) λa=>ι d 141 (υ m) a λa b=>aj (ah TE a 141 (υ m)) λc=>R [c] a (min f b))) [χ 1] b (min m.n c)):=by kernel_rfl
theorem F80:dU TE (aO TE X) f80 [x0] m R=κ m .len [26] [x0] λa _=>Lp (λb c d f=>un c λc g=>un g λg _=>η .lss 3 g a λa=>aU a (ζ 26 x0 g λa=>δ d 3 a λa=>η .neq 3 a (χ 0) λh=>aU h (R [a] d f) (η .add 3 g (χ 1) λa=>b [c,a] d f)) (R [χ 0] d f)) [χ 0,χ 0] m m.n:=by kernel_rfl
theorem Z8:dU TE (aO TE X) f149 [x0,x1] m R=ρ m x1 58 λa=>ς a [χ 0,χ 0,χ 0,χ 0] 143 λb=>ς b [aey] 4 λc=>jn (λa=>ψ X 170 [x0] c λb c d=>ο .not b λb=>aU b (a [aex] c (min m.n d)) (δ c 58 (υ m) λb=>ψ X 170 [b] c λb c f=>ο .not b λb=>aU b (a [aex] c (ω m.n d f)) (δ c 58 (υ m) λb=>ψ X 191 [x0,b] c λb c g=>a [b] c (Γ m.n d f g)))) (λc d f=>un c λc _=>aU c (θ 143 [] λc=>ι d 143 (υ a) c λc d=>ι c 4 (υ b) aey λc g=>aj (ah TE c 143 (υ a)) λa=>aj (ah TE c 4 (υ b)) λb=>R [a,b] c (ω f d g)) (ψ X 192 [x0] d λc d g=>gJ c λc h i=>RF TE X c h.toList i.toList d (min f g) (λc f g=>un c λc h=>un h λh i=>Ik i (ς f [χ 0,χ 0] 141 λi=>ι i 141 (υ f) c λc i=>ς c [χ 0,χ 0] 141 λj=>ι j 141 (υ c) h λh j=>Qr d.n f h λh=>δ h 58 (υ m) λk=>ψ X 192 [k] h λk l n=>gJ k λk o p=>RF TE X k o.toList p.toList l (Δ f.n i j d.n n) (λd g h=>un d λd i=>un i λi j=>Ik j (ς g [χ 0,χ 0] 141 λj=>ι j 141 (υ g) d λd j=>ς d [χ 0,χ 0] 141 λk=>ι k 141 (υ d) i λi k=>Qr l.n g i λi=>jn (λa=>δ i 141 (υ f) λb=>δ i 141 (υ c) λh=>δ i 141 (υ g) λn=>ψ X 193 [b,h,n] i λb h i=>η .neq 3 b (χ 0) λb=>aU b (a [aex] h (Δ g.n j k l.n i)) (δ h 141 (υ f) λb=>δ h 141 (υ c) λc=>δ h 141 (υ d) λd=>ψ X 193 [b,c,d] h λb c d=>η .neq 3 b (χ 0) λb=>a [b] c (Θ g.n j k l.n i d))) (λj k l=>un j λj _=>aU j (h i .normal k l) (δ k 141 (υ f) λj=>δ k 141 (υ c) λn=>δ k 141 (υ g) λg=>δ k 141 (υ d) λd=>ψ X 194 [j,n,g,d] k λd g j=>ξ d 0 λk=>ξ d 1 λd=>ς g [χ 0,χ 0] 141 λn=>ς n [χ 0,χ 0] 141 λo=>ι o 141 (υ g) k λk o=>ι k 141 (υ n) d λd k=>jn (λa=>δ d 141 (υ g) λb=>δ d 141 (υ n) λc=>η .eql 141 b c λb=>aU b (a [aex] d (Γ l j o k)) (δ d 141 (υ g) λb=>δ d 141 (υ n) λc=>ψ X 195 [b,c] d λb c d=>η .gtr 3 b (χ 0) λb=>a [b] c (Δ l j o k d))) (λd j k=>un d λd _=>aU d (h i .normal j k) (δ j 141 (υ f) λd=>δ j 141 (υ c) λc=>ψ X 195 [d,c] j λc d f=>η .gtr 3 c (χ 0) λc=>aU c (δ d 141 (υ n) λc=>δ d 141 (υ g) λj=>ι d 141 (υ g) c λc d=>ι c 141 (υ n) j λc j=>δ c 141 (υ g) λg=>δ c 141 (υ n) λl=>θ 143 [(0,g),(1,l)] λg=>ι c 143 (υ a) g λa c=>ι a 4 (υ b) aex λa b=>h i .ret a (Θ k f d j c b)) (δ d 141 (υ g) λc=>δ d 141 (υ n) λg=>θ 143 [(0,c),(1,g)] λc=>ι d 143 (υ a) c λa c=>ι a 4 (υ b) aex λa b=>h i .ret a (Γ k f c b)))))))) (λa b=>g h .normal a b) [(.ret,λa b=>g h .ret a b)])) (λc d=>θ 143 [] λf=>ι c 143 (υ a) f λc f=>ι c 4 (υ b) aey λc g=>aj (ah TE c 143 (υ a)) λa=>aj (ah TE c 4 (υ b)) λb=>R [a,b] c (ω d f g)) [(.ret,λc d=>aj (ah TE c 143 (υ a)) λa=>aj (ah TE c 4 (υ b)) λb=>R [a,b] c d)])):=by kernel_rfl
end
end
section
variable {X:aM} {m:M}
theorem cx.lt{us:List Un}(h:cx us):∀(d i:Nat) (a b:Un),us[i]?=some a->us[i+d+1]?=some b->a.id < b.id
 |0,i,a,b,ha,hb=>h.uS i a b ha hb
 |d+1,i,a,b,ha,hb=>by
  obtain⟨c,hc⟩:∃c,us[i+d+1]?=some c:=⟨_,aaW (by grind)⟩
  have h1:=h.lt d i a c ha hc
  have h2:=h.uS (i+d+1) c b hc (by grind)
  omega
theorem cx.Sk{us:List Un}(h:cx us){i k:Nat}{a b:Un}(a0:i < k)(ha:us[i]?=some a)(hb:us[k]?=some b):a.id < b.id:=
 h.lt (k-i-1) i a b ha (by grind)
theorem HY(hX:cy X)(u:Un)(w:aes)(id:Int):C X (.func 238) [u.v w,aev id] m m.n (aev (cZ u.id id)) m:=by refine Cl.fl hX (aaU func238) ?_;rw[Ze];dsimp only[δ,ε,ρ,υ,ψ];refine aw λm1 b0 a0 d0=>?_;simp only[aX]at a0;have a0:m1.get m.n=.cells (u.c w) 60 none:=a0;have⟨l0,_⟩:=kb a0;unfold ptrTo;rw[bD,ae,l0,ae];refine aH (eh hX _ _) ?_;exact⟨rfl,by omega⟩
theorem WE{a:Int}:aC TE .shr 159 (.int .u64 a) (.int .u64 1)=some (.int .u64 (a.fdiv 2)):=by kernel_rfl
theorem R2{n:Nat}:aC TE .shr 159 (.int .u64 (n:Int)) (.int .u64 1)=some (.int .u64 ((n/2:Nat):Int)):=by rw[WE,Int.fdiv_eq_ediv_of_nonneg _ (by omega)];rfl
theorem RW{n:Nat}(h:n < 1000):IntKind.wrap .u64 (n:Int)=n:=by
 have e:IntKind.u64.wrap (n:Int)=(n:Int)%18446744073709551616:=by unfold IntKind.wrap;simp[IntKind.bits,IntKind.signed]
 grind
theorem Ja(hX:cy X){l:List UW}{v:aes}(h:Sl m l v)(hP:cx (bR l))(id:Int):
  ∃(i:Nat) (is:Bool),C X (.func 237) [v,aev id,.func (.func 238) #[] #[]] m m.n (.tuple #[aev i,.bool is]) m/\(is->∃x,l[i]?=some x/\x.u.id=id)/\(is=false->∀x∈l,x.u.id≠id):=by
 have hl:l.length<=12:=by have:=hP.len;rwa[cI]at this
 have key:∃rv m' b,C X (.func 237) [v,aev id,.func (.func 238) #[] #[]] m b rv m'/\(m'=m/\b=m.n/\∃(i:Nat) (is:Bool),rv=.tuple #[aev i,.bool is]/\(is->∃x,l[i]?=some x/\x.u.id=id)/\(is=false->∀x∈l,x.u.id≠id)):=by
  refine Cl.gen (R:=λrv m' b=>m'=m/\b=m.n/\∃(i:Nat) (is:Bool),rv=.tuple #[aev i,.bool is]/\(is->∃x,l[i]?=some x/\x.u.id=id)/\(is=false->∀x∈l,x.u.id≠id)) (hX.no _ rfl) (aaU func237) rfl ?_;rw[Zf];dsimp only[δ,ζ,η,κ,χ];rw[h.len dt,aA];refine Lp.intro (γ:=Nat×Nat) (λs=>s.2-s.1) (λs vs mm lo=>vs=[aev s.1,aev s.2]/\s.1<=s.2/\s.2<=l.length/\m=mm/\m.n<=lo/\(∀k x,k < s.1->l[k]?=some x->x.u.id < id)/\∀k x,s.2<=k->l[k]?=some x->id<=x.u.id) (0,l.length) ⟨rfl,aa6 _,aaV _,rfl,aaV _,λk x hk=>by omega,by grind⟩ ?_;rintro⟨i,j⟩ vs mm lo ⟨rfl,l0,hj,rfl,m0,d0,b0⟩;dsimp only at l0 hj d0 b0⊢;rw[aE,aE,aQ,ae,ak];refine av (λa0=>?_) (λg0=>?_)
  ·have a0:i < j:=by grind
   obtain⟨x,hx⟩:∃x,l[(i+j)/2]?=some x:=⟨_,qz⟩
   have⟨a,e1,e2,_⟩:=h.fx (k:=.i64) hx;have h0:=iw hx;rw[aS,ae,wrap64,show(i:Int)+(j:Int)=((i+j:Nat):Int) by omega,zd,RW (by omega),ae,R2,ae,ze,wrap64,ae,e1,ae,e2,ae,cj];refine aH (HY hX x.u x.w id) ?_;rw[aQ,ae,ak];have e0:∀k y,l[k]?=some y->(k < (i+j)/2->y.u.id < x.u.id)/\((i+j)/2 < k->x.u.id < y.u.id):=λk y hk=>⟨λa0=>hP.Sk a0 (iw hk) h0,λa0=>hP.Sk a0 h0 (iw hk)⟩
   refine av (λhc=>?_) (λhc=>?_)
   ·have hc:x.u.id < id:=by
     unfold cZ at hc;by_cases h1:x.u.id < id;·exact h1
     rw[aa4 h1]at hc;split at hc <;>simp at hc
    rw[aS,ae,wrap64];refine⟨((i+j)/2+1,j),by grind,by grind,by grind,hj,rfl,by omega,λk y hk hy=>?_,b0⟩;by_cases e:k=(i+j)/2;·subst e;rw[hx]at hy;cases hy;exact hc
    have:=(e0 k y hy).1 (by grind);omega
   have hc:id<=x.u.id:=by
    unfold cZ at hc;by_cases h1:x.u.id < id;·rw[aa5 h1]at hc;simp at hc
    omega
   refine⟨(i,(i+j)/2),by grind,rfl,by grind,by grind,rfl,by omega,d0,λk y hk hy=>?_⟩;by_cases e:k=(i+j)/2;·subst e;rw[hx]at hy;cases hy;exact hc
   have:=(e0 k y hy).2 (by grind);omega
  have i0:i=j:=by
   have:¬(i:Int)< (j:Int):=by grind
   omega
  subst i0;refine bA (λvs m' j0=>∃is,vs=[aev i,.bool is]/\m=m'/\m.n<=j0/\(is->∃x,l[i]?=some x/\x.u.id=id)/\(is=false->∀x∈l,x.u.id≠id)) (λR hR=>?_) ?_
  ·rw[aQ,ae,ak];refine av (λa0=>?_) (λg0=>?_)
   ·have a0:i < l.length:=by grind
    obtain⟨x,hx⟩:∃x,l[i]?=some x:=⟨_,aaW a0⟩
    have⟨a,e1,e2,_⟩:=h.fx (k:=.i64) hx;rw[e1,ae,e2,ae,cj];refine aH (HY hX x.u x.w id) ?_;rw[aW,ae];refine hR _ _ _ ⟨_,rfl,rfl,by omega,λhe=>⟨x,hx,?_⟩,λhe y hy n0=>?_⟩
    ·have he:cZ x.u.id id=0:=by grind
     unfold cZ at he;by_cases h1:x.u.id < id;·rw[aa5 h1]at he;omega
     rw[aa4 h1]at he;by_cases h2:id < x.u.id;·rw[aa5 h2]at he;omega
     omega
    have he:¬cZ x.u.id id=0:=by grind
    have⟨k,hk⟩:=abi hy;by_cases e:k=i
    ·subst e;rw[hx]at hk;cases hk;apply he;unfold cZ;rw[jz,jz]
    by_cases e2:k < i;·have:=d0 k y e2 hk;omega
    have:=b0 i x (aaV _) hx;have:=hP.Sk (show i < k by omega) (iw hx) (iw hk);omega
   have g0:l.length<=i:=by
    have:¬(i:Int)< (l.length:Int):=by grind
    omega
   refine hR _ _ _ ⟨false,rfl,rfl,m0,λh=>(by cases h),λ_ y hy n0=>?_⟩;have⟨k,hk⟩:=abi hy;have:=d0 k y (by grind) hk;omega
  rintro _ _ j0 ⟨is,rfl,rfl,k0,h1,h2⟩;rw[aE,aE];exact .inl ⟨rfl,k0,rfl,rfl,i,is,rfl,h1,h2⟩
 obtain⟨rv,m',b,hc,rfl,rfl,i,is,rfl,h1,h2⟩:=key;exact⟨i,is,hc,h1,h2⟩
end
section
variable {X:aM} {m:M}
theorem GL{u:Un}(h:jF u):bM u.shape:=by
 simp only[jF,aa3]at h
 grind
def cf(us:List Un)(id:Int):Option Un:=us.find? λu=>decide (u.id=id)
theorem pA{us:List Un}(hP:cx us){i:Nat}{a:Un}(h:us[i]?=some a):cf us a.id=some a:=by
 unfold cf
 cases e:us.find? λu=>decide (u.id=a.id)with
 |none=>
  grind
 |some b=>
  have h1:=List.find?_some e;have h1:b.id=a.id:=by grind
  have⟨k,hk⟩:=abi (ac2 e);rcases adh i k with a0 |rfl |a0;·have:=hP.Sk a0 h hk;omega
  ·grind
  have:=hP.Sk a0 hk h;omega
theorem rk{us:List Un}{id:Int}(h:∀u∈us,u.id≠id):cf us id=none:=by
 unfold cf
 grind
theorem dK{us:List Un}{id:Int}{u:Un}(h:cf us id=some u):u∈us/\u.id=id:=by
 unfold cf at h
 grind
theorem OI(hX:cy X){l:List UW}{v:aes}(h:cY m l v)(hP:cx (bR l))(id:Int):
  ∃ov m',C X (.func 198) [.agg #[v],aev id] m m.n (.tuple #[ov,.bool (cf (bR l) id).isSome]) m'/\Ext m m'/\RR m' (cf (bR l) id) ov/\(∀u,cf (bR l) id=some u->∃w,ov=u.v w/\Ow m.n m' u.shape w):=by
 have hl:l.length<=12:=by have:=hP.len;rwa[cI]at this
 have key:∃rv m' b,C X (.func 198) [.agg #[v],aev id] m b rv m'/\b=m.n/\∃ov,rv=.tuple #[ov,.bool (cf (bR l) id).isSome]/\Ext m m'/\RR m' (cf (bR l) id) ov/\(∀u,cf (bR l) id=some u->∃w,ov=u.v w/\Ow m.n m' u.shape w):=by
  refine Cl.gen (R:=λrv m' b=>b=m.n/\∃ov,rv=.tuple #[ov,.bool (cf (bR l) id).isSome]/\Ext m m'/\RR m' (cf (bR l) id) ov/\(∀u,cf (bR l) id=some u->∃w,ov=u.v w/\Ow m.n m' u.shape w)) (hX.no _ rfl) (aaU func198) rfl ?_;rw[ZA];dsimp only[δ,ε,ζ,θ,ι,ξ,ο,ρ,ς,υ,χ,ψ,Γ,Λ,ω];refine aw λm1 c1 D0 d1=>?_;refine aw λm2 i1 r0 E0=>?_;have s0:Ext m m2:=⟨by omega,by grind⟩
  have g1:m2.get m.n=.cells [v] 30 none:=by rw[E0 _ (by omega)];exact D0
  have hF:=h.aG s0;unfold ptrTo;rw[ew,aP g1 (by simp)];simp only[abM,ab7,acx,aa8,ae];refine aH (AH hX hF (by omega)) ?_;rw[fB hP,bE,ae,ak,aca,aT,bN,ae,ez,aL g1];simp only[abA,aaY,ae];have⟨i,is,hc,u0,F0⟩:=Ja (m:=m2) hX hF.sl hP id;refine aH hc ?_;rw[aJ,aJ];simp only[aaY,aaX,ae];rw[bE,ae,ak];refine av (λhb=>?_) (λhb=>?_)
  ·have n0:is=false:=by grind
   have e:cf (bR l) id=none:=rk λu hu=>by obtain⟨x,hx,rfl⟩:=Bf hu;exact F0 n0 x hx
   rw[e];have G0:aK TE 60 []=some (.agg Un.zc.toArray):=kL;rw[G0,ae];refine aD df r0 rfl rfl rfl λm9 j1 H0 k1=>?_;rw[qg,aP H0 (by simp[aX])];refine .inl ⟨by kernel_rfl,by omega,trivial,_,rfl,.refl,rfl,λu h=>by cases h⟩
  have n0:is:=by grind
  obtain⟨x,hx,rfl⟩:=u0 n0;rw[pA hP (iw hx)];have⟨a,e1,e2,v0⟩:=hF.sl.fx (k:=.i64) hx;have y0:=aa2 hx;have hv:=(GL (hP.val x.u (abF.2 ⟨x,y0,rfl⟩)))
  have z0:=dX hv;have I0:ah TE m2 28 (aeq m.n 0)=some v:=by rw[ez,aL g1];rfl
  rw[I0,ae,e1,ae,e2,ae];refine aw λl1 N0 A0 O0=>?_;refine aD df A0 rfl rfl (Un.cM v0) λo0 P0 d0 S0=>?_;have d0:o0.get m2.n=.cells x.c 60 none:=d0;have g0:Ext m2 o0:=⟨by omega,by grind⟩
  obtain⟨-, -, -,l3, -, -⟩:=kb d0;rw[bL,ae,l3,ae];obtain⟨w',J0,B0,a0,e0⟩:=zf (m:=o0) hX ((hF.sh x y0).aG g0) (by grind) (by omega);refine aH B0 ?_;have n34:=e0.n;have o7:one w':=a0.sl.one;have p0:=e0.cells d0;rw[ae];refine bY xI p0 (by rw[a0.sl.cells];rfl) (by rw[a0.sl.cells];show 3+1<=6;omega) (by rw[a0.sl.cells];simp[o7]) λC0 a1 i0 b0=>?_;have i0:C0.get m2.n=.cells (x.u.c w') 60 none:=by rw[i0,a0.sl.cells];rfl
  rw[bV i0,ae];have j0:C0.get m1.n=.cells Un.zc 60 none:=by rw[b0 _ (by omega),e0.get _ (by omega),g0.get _ (by omega),r0]
  refine aD df j0 rfl rfl (Un.cM o7) λk0 b1 l0 m0=>?_;have l0:k0.get m1.n=.cells (x.u.c w') 60 none:=l0;rw[bV l0,ae]
  have K0:Sl k0 x.u.shape w':=a0.sl.bs λb c t g hb ht=>by
   have h1:b≠m2.n:=λe=>by subst e;rw[p0]at hb;cases hb;simp[aZ.ty,aZ.dd]at ht
   rw[m0 b (λe=>by subst e;rw[<-b0 _ h1,j0]at hb;cases hb;simp[aZ.ty,aZ.dd]at ht),b0 b h1,hb]
  have q0:∀b c t g,J0.get b=.cells c t g->t∈aZ.ty Pl::aZ.dd Pl->k0.get b=.cells c t g:=λb c t g hb ht=>by
   have h1:b≠m2.n:=λe=>by subst e;rw[p0]at hb;cases hb;simp[aZ.ty,aZ.dd]at ht
   rw[m0 b (λe=>by subst e;rw[<-b0 _ h1,j0]at hb;cases hb;simp[aZ.ty,aZ.dd]at ht),b0 b h1,hb]
  have o1:Ow m.n k0 x.u.shape w':=(a0.mono (by grind)).bs q0;have L0:Ext m k0:=⟨by grind,λc hc=>by rw[m0 c (by omega),b0 c (by omega),e0.get c (by grind),g0.get c (by omega),s0.get c hc]⟩
  rcases a0 with⟨_,h0⟩ |⟨b,cs,rfl,_⟩;·rw[h0]at z0;simp at z0
  exact .inr ⟨.inl (by simp[bz,bF,dw,bI]),by omega,_,rfl,L0,⟨_,rfl,K0⟩,by grind⟩
 obtain⟨rv,m',b,hc,rfl,ov,rfl,h1,h2,h3⟩:=key;exact⟨ov,m',hc,h1,h2,h3⟩
theorem Ro(hX:cy X){l:List UW}{v:aes}(h:cY m l v)(hP:cx (bR l))(id:Int):
  ∃ov m',C X (.func 198) [.agg #[v],aev id] m m.n (.tuple #[ov,.bool (cf (bR l) id).isSome]) m'/\Ext m m'/\RR m' (cf (bR l) id) ov:=by
 obtain⟨ov,m',h1,h2,h3, -⟩:=OI hX h hP id
 grind
end
section
open Go Go.D Go.tB Go.Proofs.Tryz
theorem cx.pair{us:List Un}(h:cx us):us.Pairwise (λa b=>a.id < b.id):=by rw[abw];intro i j hi hj a0;exact h.Sk a0 (aaW hi) (aaW hj)
theorem cx.find{us:List Un}(h:cx us){u:Un}(hu:u∈us):cf us u.id=some u:=by have⟨i,hi⟩:=abi hu;exact pA h hi
theorem cx.id0{us:List Un}(h:cx us){u:Un}(hu:u∈us):0<=u.id/\u.id<=99:=by have:=h.val u hu;simp only[jF,cW,aa3,abm]at this;omega
end
section
variable {X:aM} {m:M}
section
variable {α:Type} [aZ α] {T:TypeId} {ti:TI}
theorem gH{x:α}{cs:aet}{b:Nat}{g:Option Nat}(h:m.get b=.cells cs (aZ.ty α) g)(hr:aZ.rep m x cs):Sl m [x] (aer b 0 1 1):=
 .inr ⟨b,0,1,_,g,rfl,h,by rw[aZ.len hr];simp,λi y hi=>by
  match i with
  |0=>
   cases hi
   have hl:=aZ.len hr
   grind
  |i+1=>cases hi⟩
theorem DV{m m1:M}{e k sl sc a0:Nat}{base:Option Addr}{news:aet}{v':aes}(h:lX m e k base sl sc a0 news=some (v',m1)):v'=aer m.n 0 a0 a0:=by
 unfold lX at h
 grind
theorem ki{E:Env}{m m1:M}{T U:TypeId}{sl sc n:Nat}{base:Option Addr}{x v':aes}(h:az E (m.wl m.n) .append [T,U] [.slice base sl sc,x]=some (v',m1))(hn:lW x=some n)(d0:sc < sl+n):
  v'=aer m.n 0 (sl+n) (sl+n):=by
 have h:dR E (m.wl m.n) T U (.slice base sl sc) x=some (v',m1):=h;unfold dR at h;rw[hn]at h;split at h
 ·rename_i ti ui a0 e0 g0 n' _ _ hs b0;cases hs;cases b0;split at h;·cases h
  ·rename_i e _ _
   cases h1:E.ty.get e with
   |none=>simp only[h1]at h;cases h
   |some ei=>
    cases h2:first? (m.wl m.n) ti.es n x with
    |none=>simp only[h1,h2]at h;cases h
    |some news=>
     simp only[h1,h2]at h
     cases h3:(Nat.beq ti.es 0 ||Nat.blt 65536 ei.bytes || !news.all one ||Nat.blt 268435456 (sl+n) || !Nat.beq news.length (n*ti.es) || !gj ei.zero ti.es)with
     |true=>rw[h3,cond_true]at h;cases h
     |false=>
      rw[h3,abf]at h
      have h4:Nat.ble (sl+n) sc=false:=by
       cases hb:Nat.ble (sl+n) sc with
       |false=>rfl
       |true=>have:=abz hb;omega
      rw[h4,abf]at h;exact(DV h).trans rfl
  cases h
 cases h
theorem yi(hT:rH TE T α)(j0:aZ.dd α=[])(t1:TE.ty.get T=some ti)(t2:ti.size=1){n1 oc o:Nat}{cs:aet}{tc:TypeId}{g:Option Nat}{r a:aes}{x:α}{m1:M}{acc:List α}
  (hc:m.get oc=.cells cs tc g) (ho:cs[o]?=some r) (k0:oc < n1) (hn:n1<=m.n) (hw:Ow n1 m acc r) (hx:Ext m m1) (hs:Sl m1 [x] a) (n0:acc.length < 1000000):
  ∃r' m2 m3,((∃k,r'=aer m1.n 0 k k)/\∀c,c < m1.n->c≠oc->(∀ad n k,r=.slice (some ad) n k->c≠ad.block)->m3.get c=m1.get c)/\az TE (M.wl m1 (M.n m1)) .append [T,T] [r,a]=some (r',m2)/\aF TE m2 T (aeq oc o) r'=some (m3,oc)/\n1<=m2.low/\m3.get oc=.cells (cs.set o r') tc g/\Ow n1 m3 (acc++ [x]) r'/\m1.n<=m3.n/\(∀c,c < n1->c≠oc->m3.get c=m.get c)/\(∀c,c < m1.n->c≠oc->(∀cs g,m1.get c≠.cells cs (aZ.ty α) g)->m3.get c=m1.get c):=by
 have o0:=M.bk hc;have p0:=hx.n;have d0:=hw.aG hx;obtain⟨r',m2,e1,h1,h2,h3,h4⟩:=d0.append hT (by grind) hs (by omega) (by grind);have q0:=h2.n;have g2:m2.get oc=.cells cs tc g:=by rw[h2.get _ k0,hx.cells hc]
 have e0:o < cs.length:=(aa0.1 ho).1;have g0:=rP (E:=TE) (o:=o) (x:=r') t1 g2 (by rw[h1.sl.cells,t2];rfl) (by rw[h1.sl.cells];simp;omega) (by rw[h1.sl.cells];simp[h1.sl.one])
 have h0:cs.take o++(cells r'++cs.drop (o+(cells r').length))=cs.set o r':=by rw[h1.sl.cells];exact kn e0
 rw[h0]at g0;have hk:∀c,c≠oc->(m2.set oc (.cells (cs.set o r') tc g)).get c=m2.get c:=λc hc=>M.dz hc
 have l0:∃k,r'=aer m1.n 0 k k:=by
  obtain⟨ba,bc,rfl⟩:=hs.form;rcases hw with⟨rfl,_⟩ |⟨b,m0,rfl,_⟩;·exact⟨_,ki e1 rfl (by simp)⟩
  exact⟨_,ki e1 rfl (by simp)⟩
 refine⟨r',m2,_,⟨l0,λc a0 b0 i0=>by rw[hk c b0,eP e1 a0 i0]⟩,e1,g0,h3,M.eN (M.bk g2),h1.pk j0 λc a0 b0=>hk c (by omega),?_,λc a0 b0=>?_,λc a0 b0 i0=>?_⟩
 ·show m1.n<=m2.n
  grind
 ·rw[hk c b0,h2.get c a0,hx.get c (by omega)]
 ·rw[hk c b0,eP e1 a0 λad n k e he=>?_]
  have⟨m0,g',r0,_⟩:=mQ d0 e
  grind
theorem MO(hT:rH TE T α)(a0:aZ.dd α=[])(t1:TE.ty.get T=some ti)(t2:ti.size=1){n1 oc o:Nat}{cs:aet}{tc:TypeId}{g:Option Nat}{r a:aes}{x:α}{m1:M}{acc:List α}
  (hc:m.get oc=.cells cs tc g) (ho:cs[o]?=some r) (b0:oc < n1) (hn:n1<=m.n) (hw:Ow n1 m acc r) (hx:Ext m m1) (hs:Sl m1 [x] a) (d0:acc.length < 1000000):
  ∃r' m2 m3,az TE (M.wl m1 (M.n m1)) .append [T,T] [r,a]=some (r',m2)/\aF TE m2 T (aeq oc o) r'=some (m3,oc)/\n1<=m2.low/\m3.get oc=.cells (cs.set o r') tc g/\Ow n1 m3 (acc++ [x]) r'/\m1.n<=m3.n/\(∀c,c < n1->c≠oc->m3.get c=m.get c)/\(∀c,c < m1.n->c≠oc->(∀cs g,m1.get c≠.cells cs (aZ.ty α) g)->m3.get c=m1.get c):=by
 have⟨r',m2,m3,_,h⟩:=yi hT a0 t1 t2 hc ho b0 hn hw hx hs d0
 grind
end
structure Fc where
 un:Int
 side:Int
deriving DecidableEq
abbrev Fc.c(f:Fc):aet:=[.int .i64 f.un,.int .i64 f.side]
abbrev Fc.v(f:Fc):aes:=.agg (f.c).toArray
instance:aZ Fc where
 ty:=53
 sz:=2
 agg:=true
 dd:=[]
 rep _ f cs:=cs=f.c
 pos:=by decide
 one:=by grind
 len:=by grind
 ee:=by rintro _ _ _ rfl;rfl
 bs:=by grind
theorem dZ:oO TE 35 53 Fc:=⟨ag.t35,ag.t53,by kernel_rfl,⟨_,rfl⟩,rfl,by kernel_rfl,rfl,rfl⟩
theorem uV:rH TE 35 Fc:=⟨ag.t35,ag.t53,by kernel_rfl,rfl,rfl,by kernel_rfl,by decide,rfl⟩
end
section
def sG(p q:Pl):Int:=if cZ p.x q.x=0 then cZ p.y q.y else cZ p.x q.x
def gh(p q:Pl):Pl:=if sG q p < 0 then q else p
def yI(p q:Pl):Pl:=if sG q p < 0 then p else q
def DD(p q:Pl):Pl:=if 0 < sG q p then q else p
def DB(p q:Pl):Pl:=if sG q p < 0 then q else p
def og(p q r s:Pl):Pl:=DD (gh p q) (gh r s)
def KF(p q r s:Pl):Pl:=DB (yI p q) (yI r s)
def KH(l:List Pl)(i:Nat):Pl:=gd l ((i+1)%l.length)
theorem Cw{l:List Pl}{i:Nat}{p:Pl}(h:l[i]?=some p):gd l i=p:=by unfold gd;rw[h];rfl
theorem Ic{l:List Pl}{i:Nat}(h:i < l.length):l[i]?=some (gd l i):=by unfold gd;rw[aaW h];rfl
theorem Qx{l:List Pl}{i:Nat}(h:i < l.length):l[(i+1)%l.length]?=some (KH l i):=Ic (acI _ (by omega))
def rW(p q r s:Pl):Option (Pl×Pl):=
 if dj p q r≠0\/dj p q s≠0 then none
 else if og p q r s=KF p q r s\/0 < sG (og p q r s) (KF p q r s)then none
 else if 0 < sG p q then some (KF p q r s,og p q r s)else some (og p q r s,KF p q r s)
def GV(a b:List Pl)(i:Nat):Option (Pl×Pl):=(List.range b.length).findSome? λk=>rW (gd a i) (KH a i) (gd b k) (KH b k)
def xW(a b:List Pl):Option (Pl×Pl):=(List.range a.length).findSome? λi=>GV a b i
def mJ(a b:List Pl):Option (Pl×Pl):=if bM a && bM b && !fo a b then xW a b else none
structure Ct where
 a:Int
 b:Int
 p:Pl
 q:Pl
 back:Int
 front:Int
deriving DecidableEq
def jG(u v:Un):Option Ct:=if jW u v then(mJ u.shape v.shape).map λs=>⟨u.id,v.id,s.1,s.2,max u.back v.back,min u.front v.front⟩else none
end
section
section
variable (us:List Un) (cts:List Ct) (u:Un)
end
section
variable {us:List Un} {cts:List Ct} {u v:Un}
end
end
section
variable {X:aM} {m:M}
abbrev Ct.c'(x:Ct):aet:=[.int .i64 x.a,.int .i64 x.b,.int .i64 x.p.x,.int .i64 x.p.y,.int .i64 x.q.x,.int .i64 x.q.y,.int .i64 x.back,.int .i64 x.front]
abbrev Ct.v(x:Ct):aes:=.agg (x.c').toArray
abbrev Ct.zc:aet:=[.int .i64 0,.int .i64 0,.int .i64 0,.int .i64 0,.int .i64 0,.int .i64 0,.int .i64 0,.int .i64 0]
instance:aZ Ct where
 ty:=145
 sz:=8
 agg:=true
 dd:=[]
 rep _ x cs:=cs=x.c'
 pos:=by decide
 one:=by grind
 len:=by simp_all
 ee:=by rintro _ _ _ rfl;rfl
 bs:=by grind
theorem ES:oO TE 138 145 Ct:=⟨ag.t138,ag.t145,by kernel_rfl,⟨_,rfl⟩,rfl,by kernel_rfl,rfl,rfl⟩
theorem Gw:rH TE 138 Ct:=⟨ag.t138,ag.t145,by kernel_rfl,rfl,rfl,by kernel_rfl,by decide,rfl⟩
structure Mk where
 id:Int
 un:Int
 side:Int
 kind:Int
 KG:Bool
deriving DecidableEq
abbrev Mk.c(x:Mk):aet:=[.int .i64 x.id,.int .i64 x.un,.int .i64 x.side,.int .i64 x.kind,.bool x.KG]
abbrev Mk.v(x:Mk):aes:=.agg (x.c).toArray
instance:aZ Mk where
 ty:=137
 sz:=5
 agg:=true
 dd:=[]
 rep _ x cs:=cs=x.c
 pos:=by decide
 one:=by grind
 len:=by simp_all
 ee:=by rintro _ _ _ rfl;rfl
 bs:=by grind
theorem dQ:oO TE 31 137 Mk:=⟨ag.t31,ag.t137,by kernel_rfl,⟨_,rfl⟩,rfl,by kernel_rfl,rfl,rfl⟩
theorem uU:rH TE 31 Mk:=⟨ag.t31,ag.t137,by kernel_rfl,rfl,rfl,by kernel_rfl,by decide,rfl⟩
end
end Go.Proofs.YtigpcbodmjjaiaaGreatDoor
namespace Go.D
open Go
section
section
variable {P:Program} {σ:Sg} {m:M} {w w':World}
theorem Ev.kept(h:fK P σ m w)(hk:∀B,B < w.heap.size->w'.heap[B]?=w.heap[B]?)(hle:w.heap.size<=w'.heap.size)(ho:w'.os=w.os)(ht:w'.tape=w.tape)(hu:w'.output=w.output):Ev P σ m w σ m w':=⟨λ_ _ x=>x,⟨h.rI,λb i hb=>(h.obj b i hb).bs (λ_ _ x=>x) (hk _ (h.lt b i hb)),λb i hb=>acK (h.lt b i hb) hle,h.inj,h.kY⟩,aaV _,aaV _,hle,λb i x y=>(by grind),λ_ _ _=>rfl,λB hB _=>hk B hB,ho,ht,hu⟩
end
end
section
section
variable {P:Program} {σ:Sg} {m m':M} {w w':World}
theorem bQ.SY{c c':aet}{new:aet}{off:Nat}(h:bQ σ c c')(hn:bQ σ new new)(hl:off+new.length<=c.length):
  bQ σ (c.take off++(new++c.drop (off+new.length))) (c'.take off++(new++c'.drop (off+new.length))):=
 (h.take off).append (hn.append (h.drop _))
theorem Je{a:Addr}{i:BI}{cs:aet}{e:TypeId}{g:Option Nat}{F:aet}(hs:fK P σ m w)(hi:σ a.block=some i)(hg:m.get a.block=.cells cs e g)(hF:(cs.drop a.off).take F.length=F)(b0:F.all bI)(hle:a.off+F.length<=cs.length):
  Sort.Holds id w i.cX a.off F.toArray:=by
 have⟨row,a0,g0,d0,h0⟩:=hs.cells hi hg
 intro j hj
 have hj:j < F.length:=by grind
 have e1:cs[a.off+j]?=some F[j]:=by
  grind
 have⟨u,i0,e0⟩:=d0.get e1
 have hf:=e0.bT (aby.1 b0 _ (List.getElem_mem hj))
 refine⟨?_,by simp[World.frozen?,a0]⟩
 simp only[World.cell?,a0]
 grind
theorem Qh{a:Addr}{i:BI}{cs:aet}{e:TypeId}{g:Option Nat}{F:aet}(hs:fK P σ m w)(hi:σ a.block=some i)(hg:m.get a.block=.cells cs e g)(e0:F.all bI)(hle:a.off+F.length<=cs.length)(k:Nat)(os:Array Obj):
  Ev P σ m w σ (m.set a.block (.cells (cs.take a.off++(F++cs.drop (a.off+F.length))) e g)) (Sort.grow (Sort.putRow id (Sort.ahead w k) i.cX a.off F.toArray) os):=by
 have⟨row,g0,j0,h0,k0⟩:=hs.cells hi hg
 have a0:∀B,(Sort.putRow id (Sort.ahead w k) i.cX a.off F.toArray).heap[B]?=if B=i.cX then some (.cells (Sort.putCells id a.off F.toArray row) e (0,0))else w.heap[B]?:=by
  intro B;simp only[Sort.putRow,Sort.mapBlock,acY,Sort.ahead];by_cases hB:i.cX=B;·subst hB;simp only[acZ,g0,aa8,Sort.onCells]
  ·grind
 have i0:(Sort.putCells id a.off F.toArray row).toList=row.toList.take a.off++(F++row.toList.drop (a.off+F.length)):=by
  apply ab9
  simp only[Sort.putCells,ace,Array.getElem?_mapIdx,acF]
  grind
 have b0:Ev P σ m w σ (m.set a.block (.cells (cs.take a.off++(F++cs.drop (a.off+F.length))) e g)) (Sort.putRow id (Sort.ahead w k) i.cX a.off F.toArray):=by
  refine Ev.write hs hi (by grind) ?_ (by grind) (by simp_all) rfl rfl rfl
  have d0:(cs.take a.off++(F++cs.drop (a.off+F.length))).length=cs.length:=by
   grind
  have l0:(Sort.putCells id a.off F.toArray row).size=row.size:=by simp[Sort.putCells]
  refine⟨_,(by rw[a0,aa5 rfl]),by grind,?_,by grind⟩
  have m0:=bQ.SY (σ:=σ) (off:=a.off) (new:=F) h0 (bQ.of_flat e0) hle
  have hA:(row.toList.take a.off).length=a.off:=by grind
  have e2:(row.toList.take cs.length).take a.off++(F++(row.toList.take cs.length).drop (a.off+F.length))=(row.toList.take a.off++(F++row.toList.drop (a.off+F.length))).take cs.length:=by
   rw[adD,adD,hA]
   congr 1
   ·grind
   ·congr 1
    ·rw[abk (by omega)]
    ·rw[List.drop_take]
     grind
  grind
 exact b0.trans (Ev.kept b0.tS (λB hB=>by simp only[Sort.grow];rw[Array.getElem?_append_left hB]) (by simp_all) rfl rfl rfl)
theorem LK.Ag{b:Nat}{cs:aet}{e:TypeId}{g:Option Nat}{o:Ob}(h:m.get b=.cells cs e g):LK m (m.set b o):=λc r hc=>by
 have hb:b < m.n:=M.lg (by grind)
 have a0:c≠b:=by grind
 exact⟨r,by rw[M.cA _ _ _ _ hb,aa4 a0];exact hc⟩
variable {α:Type}
def Kj(dec:aet->Option α)(k:Nat):Nat->aet->Option (List α)
 |0,_=>some []
 |n+1,cs=>match dec (cs.take k)with
  |some x=>match Kj dec k n (cs.drop k)with |some l=>some (x::l) |none=>none
  |none=>none
theorem AS{dec:aet->Option α}{enc:α->aet}{k:Nat}(hd:∀cs x,dec cs=some x->cs=enc x):∀(n:Nat) (cs:aet) (l:List α),Kj dec k n cs=some l->l.length=n/\cs.take (n*k)=l.flatMap enc
 |0,cs,l,h=>by cases h;simp
 |n+1,cs,l,h=>by
  unfold Kj at h
  split at h
  ·rename_i x hx
   split at h
   ·rename_i l' hl
    cases h
    obtain⟨h1,h2⟩:=AS hd n _ _ hl
    refine⟨by grind,?_⟩
    rw[acu,<-hd _ _ hx,<-h2,abx,aco,adE,List.take_add]
   ·cases h
  ·cases h
theorem Ej{dec:aet->Option α}{enc:α->aet}{k:Nat}(hd:∀x,dec (enc x)=some x)(hk:∀x,(enc x).length=k):∀(l:List α),Kj dec k l.length (l.flatMap enc)=some l
 |[]=>rfl
 |x::l=>by
  simp only[abe,Kj,acu]
  rw[adg (by grind),abk (by grind),hd]
  rw[adL (by grind),ad4 (by grind),abZ,Ej hd hk l]
structure PH(α:Type) where
 S:Nat
 k:Nat
 dec:aet->Option α
 enc:α->aet
 res:List α->List α
 ok:aet->Bool
def qw(N:PH α):aM:=λfn args m=>
 match fn with
 |.func f=>
  bif Nat.beq f N.S then
   match args with
   |.slice (some a) n _::more=>
    match m.get a.block with
    |.cells cs e g=>
     bif N.ok more && (a.spot.isNone && Nat.ble 1 (n*N.k) && Nat.ble (a.off+n*N.k) cs.length && Nat.ble n 1048576)then
      match Kj N.dec N.k n ((cs.drop a.off).take (n*N.k))with
      |some l=>some (.tuple #[],m.set a.block (.cells (cs.take a.off++((N.res l).flatMap N.enc++cs.drop (a.off+n*N.k))) e g))
      |none=>none
     else none
    |_=>none
   |.slice none 0 0::more=>bif N.ok more then some (.tuple #[],m)else none
   |_=>none
  else none
 |_=>none
structure Ps(P:Program)(N:PH α):Prop where
 Wk:∀args w,(callFunc N.S args).run P w=.ok (.enter N.S args) w
 dec:∀cs x,N.dec cs=some x->cs=N.enc x
 flat:∀x,(N.enc x).all bI=true
 len:∀x,(N.enc x).length=N.k
 res:∀l,(N.res l).length=l.length
 more:∀more,N.ok more=true->more.all bI=true
 go:∀(more:aet) (cX off cap:Nat) (l:List α) (w:World),N.ok more=true->Sort.Holds id w cX off (l.flatMap N.enc).toArray->cX < w.heap.size->l.length<=1048576->
  Calls P N.S (.slice (some ⟨cX,off,none⟩) l.length cap::more).toArray w λe w'=>e=.returned (.tuple #[])/\∃n os,w'=Sort.grow (Sort.putRow id (Sort.ahead w n) cX off ((N.res l).flatMap N.enc).toArray) os
 none:∀(more:aet) (w:World),N.ok more=true->Calls P N.S (.slice none 0 0::more).toArray w λe w'=>e=.returned (.tuple #[])/\w'=w
theorem bQ.HJ{l l':aet}(h:bQ σ l l')(hf:l.all bI):l'=l:=by
 apply ab9
 intro j
 cases hj:l[j]? with
 |none=>exact ab5 (by rw[<-h.1];exact adq.1 hj)
 |some u=>have⟨u',hu,hr⟩:=h.get hj;rw[hu,hr.bT (aby.1 hf u (aa2 hj))]
theorem ig{enc:α->aet}{k:Nat}(h:∀x,(enc x).length=k):∀l:List α,(l.flatMap enc).length=l.length*k
 |[]=>by simp
 |x::l=>by rw[acu,abq,h,ig h l,abe,abx,aco,adE]
theorem sV{enc:α->aet}(h:∀x,(enc x).all bI)(l:List α):(l.flatMap enc).all bI:=by
 grind
theorem IU(N:PH α):mz (qw N):=λfn args m v m' h=>by
 unfold qw at h
 split at h
 ·rename_i f
  cases hf:Nat.beq f N.S with
  |false=>rw[hf]at h;cases h
  |true=>
   rw[hf,cond_true]at h
   split at h
   ·rename_i a n c more
    split at h
    ·rename_i cs e g hg
     cases hc:(N.ok more && (a.spot.isNone && Nat.ble 1 (n*N.k) && Nat.ble (a.off+n*N.k) cs.length && Nat.ble n 1048576))with
     |false=>rw[hc]at h;cases h
     |true=>
      rw[hc,cond_true]at h
      split at h
      ·cases h
       exact LK.Ag hg
      ·cases h
    ·cases h
   ·rename_i more
    cases hc:N.ok more with
    |false=>rw[hc]at h;cases h
    |true=>rw[hc,cond_true]at h;cases h;exact LK.refl
   ·cases h
 ·cases h
theorem GS{N:PH α}(h:Ps P N):du P (qw N):=by
 refine⟨λf args m v m' hx σ w a0 hs hl=>?_,λl args m v m' hx=>by simp[qw]at hx,IU N⟩
 unfold qw at hx
 dsimp only at hx
 cases hf:Nat.beq f N.S with
 |false=>rw[hf]at hx;cases hx
 |true=>
  obtain rfl:=aba hf;rw[hf,cond_true]at hx;refine⟨?_,h.Wk a0 w⟩;refine callsIn_wide.2 ?_;split at hx
  ·rename_i a n cap more;split at hx
   ·rename_i cs e g hg
    cases hc:(N.ok more && (a.spot.isNone && Nat.ble 1 (n*N.k) && Nat.ble (a.off+n*N.k) cs.length && Nat.ble n 1048576))with
    |false=>rw[hc]at hx;cases hx
    |true=>
     rw[hc,cond_true]at hx;simp only[aa3]at hc;have⟨h0,⟨⟨c1,c2⟩,c3⟩,c4⟩:=hc;have c2:=abz c2;have c4:=abz c4;split at hx
     ·rename_i l hz;cases hx;obtain⟨hlen,m0⟩:=AS (enc:=N.enc) h.dec _ _ _ hz;have n0:=ig h.len l;have⟨x',l1,e0,hv,g0⟩:=hl.cases;have b0:=g0.HJ (h.more more h0);subst b0;obtain⟨i,a',c',hi,rfl,j0⟩:=hv.eG
      have o0:n≠0:=by
       grind
      have k0:a'=⟨i.cX,a.off,none⟩:=by
       grind
      subst k0
      have d0:a0=(Value.slice (some ⟨i.cX,a.off,none⟩) l.length c'::l1).toArray:=by
       grind
      subst d0;have hF:(cs.drop a.off).take (l.flatMap N.enc).length=l.flatMap N.enc:=by grind
      have hH:=Je hs hi hg hF (sV h.flat l) (by grind);refine(h.go l1 i.cX a.off c' l w h0 hH (hs.lt _ _ hi) (by omega)).mono ?_;rintro en w2 ⟨rfl,k,os,rfl⟩;have l0:((N.res l).flatMap N.enc).length=n*N.k:=by rw[ig h.len,h.res,hlen]
      have i0:=Qh (F:=(N.res l).flatMap N.enc) hs hi hg (sV h.flat _) (by grind) k os;rw[l0]at i0;exact⟨_,σ,rfl,.undef,i0⟩
     cases hx
   cases hx
  ·rename_i more
   cases hc:N.ok more with
   |false=>rw[hc]at hx;cases hx
   |true=>
    rw[hc,cond_true]at hx;cases hx;have⟨x',l1,e0,hv,g0⟩:=hl.cases;have b0:=g0.HJ (h.more more hc);subst b0;obtain⟨_,_,rfl⟩:=hv.iO;have d0:a0=(Value.slice none 0 0::l1).toArray:=by grind
    subst d0;refine(h.none l1 w hc).mono ?_;rintro en w2 ⟨rfl,rfl⟩;exact⟨_,σ,rfl,.undef,.refl hs⟩
  cases hx
end
end
end Go.D
namespace Go.Proofs.YtigpcbodmjjaiaaGreatDoor
section
variable {X:aM} {m:M}
def EC(l:List Int):Int:=match l.find? (λx=> !(decide (x=0)))with |some x=>x |none=>0
theorem Dn{l:List Int}(h:∀(j:Nat) x,l[j]?=some x->x=0):EC l=0:=by
 unfold EC
 have:l.find? (λx=> !(decide (x=0)))=none:=ac8.2 λx hx=>by
  have⟨j,hj⟩:=acM.1 hx
  grind
 grind
theorem sH:∀{l:List Int} {i:Nat} {x:Int},l[i]?=some x->x≠0->(∀(j:Nat) y,j < i->l[j]?=some y->y=0)->EC l=x
 |[],i,x,h,_,_=>by grind
 |a::l,0,x,h,hx,_=>by
  cases h
  unfold EC
  grind
 |a::l,i+1,x,h,hx,hz=>by
  have ha:=hz 0 a (by omega) rfl
  subst ha
  have:=sH (l:=l) (i:=i) (x:=x) (by grind) hx λj y hj hy=>hz (j+1) y (by omega) (by grind)
  unfold EC at this⊢
  grind
theorem Hd(hX:cy X){l:List Int}{v:aes}(hl:Sl m l v)(hb:l.length < 1000000):C X (.func 80) [v] m m.n (aev (EC l)) m:=by
 refine Cl.fl hX (aaU func80) ?_;rw[F80];dsimp only[δ,ζ,η,κ,χ];rw[hl.len je,aA];refine Lp.intro (γ:=Nat) (λi=>l.length-i) (λi vs mm lo=>vs=[aev 0,aev i]/\mm=m/\lo=m.n/\i<=l.length/\∀(j:Nat) y,j < i->l[j]?=some y->y=0) 0 ⟨rfl,rfl,rfl,aa6 _,λj y hj=>by omega⟩ ?_;rintro i vs mm lo ⟨rfl,rfl,rfl,hi,hz⟩;rw[aE,aE,aQ,ae,ak];refine av (λh=>?_) (λh=>?_)
 ·have h:i < l.length:=by grind
  obtain⟨x,hx⟩:∃x,l[i]?=some x:=⟨_,aaW h⟩
  have⟨p,cs,e1,e2,e3⟩:=hl.index je (k:=.i64) hx;obtain rfl:cs=[aev x]:=e3;rw[e1,ae,e2,ae];show aj (aC TE .neq 3 (aev x) (aev 0)) _;rw[bZ,ae,ak];refine av (λhb=>?_) (λhb=>?_)
  ·have a0:x≠0:=by grind
   refine⟨?_,aaV _⟩;rw[sH hx a0 hz];rfl
  have a0:x=0:=by grind
  rw[aS,ae,wrap64];refine⟨i+1,by omega,rfl,rfl,rfl,by omega,λj y hj hy=>?_⟩;by_cases e:j=i;·subst e;rw[hx]at hy;cases hy;exact a0
  exact hz j y (by omega) hy
 have b0:i=l.length:=by
  have:¬(i:Int)< (l.length:Int):=by grind
  omega
 refine⟨?_,aaV _⟩;rw[Dn λj y hy=>hz j y (by grind) hy];rfl
theorem Sp{x y:Int}:aI TE m 26 2 [(0,.int .i64 x),(1,.int .i64 y)]=some (.slice (some ⟨m.n,0,none⟩) 2 2,m.push (.cells [.int .i64 x,.int .i64 y] 3 none)):=by kernel_rfl
theorem CZ{x y:Int}{b:Nat}{g:Option Nat}(h:m.get b=.cells [aev x,aev y] 3 g):Sl m [x,y] (aer b 0 2 2):=
 .inr ⟨b,0,2,_,g,rfl,h,aaV _,λi z hi=>by
  match i with
  |0=>cases hi;rfl
  |1=>cases hi;rfl
  |i+2=>simp at hi⟩
theorem Qm(p q:Pl):EC [cZ p.x q.x,cZ p.y q.y]=sG p q:=by
 unfold sG;by_cases h:cZ p.x q.x=0
 ·rw[aa5 h];by_cases h2:cZ p.y q.y=0
  ·rw[Dn (by
    intro j x hj
    match j with
    |0=>cases hj;exact h
    |1=>cases hj;exact h2
    |j+2=>simp at hj),h2]
  exact sH (i:=1) rfl h2 (by
   intro j y hj hy
   match j with
   |0=>cases hy;exact h
   |j+1=>omega)
 rw[aa4 h];exact sH (i:=0) rfl h λj y hj=>by omega
theorem Hs{b:Nat}{p:Pl}{e:TypeId}{g:Option Nat}(h:m.get b=.cells p.c e g):ah TE m 3 (aeq b (0+0))=some (aev p.x):=by rw[bO,aL h];rfl
theorem Hr{b:Nat}{p:Pl}{e:TypeId}{g:Option Nat}(h:m.get b=.cells p.c e g):ah TE m 3 (aeq b (0+1))=some (aev p.y):=by rw[bO,aL h];rfl
theorem sF(hX:cy X)(p q:Pl):C X (.func 195) [p.v,q.v] m m.n (aev (sG p q)) m:=by
 refine Cl.fl hX (aaU func195) ?_;rw[ZD];dsimp only[δ,ε,ν,ρ,υ,ψ,Γ];refine aw λm1 e0 a0 g0=>?_;refine aw λm2 h0 b0 d0=>?_;have g1:m2.get m.n=.cells p.c 141 none:=by rw[d0 _ (by omega)];exact a0
 have g2:m2.get m1.n=.cells q.c 141 none:=b0;unfold ptrTo;rw[ck,ae,Hs g1,ae,ck,ae,Hs g2,ae];refine aH (eh hX _ _) ⟨aaV _,?_⟩;rw[cU,ae,Hr g1,ae,cU,ae,Hr g2,ae];refine aH (eh hX _ _) ?_;rw[Sp,aA];have hg:(m2.push (.cells [.int .i64 (cZ p.x q.x),.int .i64 (cZ p.y q.y)] 3 none)).get m2.n=.cells [.int .i64 (cZ p.x q.x),.int .i64 (cZ p.y q.y)] 3 none:=M.aY;have hn:(m2.push (.cells [.int .i64 (cZ p.x q.x),.int .i64 (cZ p.y q.y)] 3 none)).n=m2.n+1:=rfl;refine aH (Hd hX (CZ hg) (by grind)) ?_;refine⟨?_,by omega⟩;rw[Qm];rfl
end
section
variable {X:aM} {m:M}
theorem QB(hX:cy X){p q:Pl}{v:aes}(hl:Sl m [p,q] v):C X (.func 234) [v,.func (.func 195) #[] #[]] m m.n (DD p q).v m:=by
 refine Cl.fl hX (aaU func234) ?_;rw[Zi];dsimp only[δ,ζ,η,ι,κ,ς,υ,χ,ω];refine aw λm1 r0 s0 j0=>?_;have b0:=hl.aG (m':=m1) ⟨by omega,j0⟩;rw[b0.len cF,aA,aQ,ae,ak];show gG (decide (((2:Nat):Int)< 1)) _ _;rw[show decide (((2:Nat):Int)< 1)=false from rfl,aT];have⟨a,e1,e2⟩:=b0.dW (k:=.i64) (i:=0) rfl;have e1:an TE 58 v (aev 0)=some a:=e1;rw[e1,ae,e2,ae];refine aw λm6 u0 k0 v0=>?_;unfold ptrTo;refine aD di k0 rfl rfl rfl λm7 y0 d0 z0=>?_;have d0:m7.get m1.n=.cells p.c 141 none:=d0;have e0:∀c,c < m1.n->m7.get c=m1.get c:=by grind
 refine Lp.intro (γ:=Nat) (λi=>2-i) (λi vs mm lo=>vs=[aev i]/\(i=1/\mm.get m1.n=.cells p.c 141 none\/i=2/\mm.get m1.n=.cells (DD p q).c 141 none)/\mm.n=m7.n/\(∀c,c < m1.n->mm.get c=m1.get c)/\m.n<=lo) 1 ⟨rfl,.inl ⟨rfl,d0⟩,rfl,e0,by omega⟩ ?_;rintro i vs mm lo ⟨rfl,hi,l0,hk,A0⟩;have h0:Sl mm [p,q] v:=b0.bs λb c t g hb _=>by rw[hk b (M.bk hb),hb]
 rw[aE,h0.len cF,aA,aQ,ae,ak];rcases hi with⟨rfl,hc⟩ |⟨rfl,hc⟩
 ·show gG (decide (((1:Nat):Int)< ((2:Nat):Int))) _ _;rw[show decide (((1:Nat):Int)< ((2:Nat):Int))=true from rfl,bH];have⟨a,e1,e2⟩:=h0.dW (k:=.i64) (i:=1) rfl;rw[e1,ae,e2,ae,bW hc,ae,cj];refine aH (sF hX q p) ?_;rw[bX,ae,ak];refine av (λhb=>?_) (λhb=>?_)
  ·have hb:=aa1 hb;rw[ae,e2,ae];refine aD di hc rfl rfl rfl λB0 n0 i0 o0=>?_;refine⟨2,by omega,rfl,.inr ⟨rfl,?_⟩,by omega,by grind,by omega⟩;rw[i0,show DD p q=q by unfold DD;rw[aa5 hb]];rfl
  have hb:=aaZ hb;refine⟨2,by omega,rfl,.inr ⟨rfl,?_⟩,l0,hk,by omega⟩;rw[hc,show DD p q=p by unfold DD;rw[aa4 hb]]
 show gG (decide (((2:Nat):Int)< ((2:Nat):Int))) _ _;rw[show decide (((2:Nat):Int)< ((2:Nat):Int))=false from rfl,aT,bW hc,ae];have g0:mm.get m.n=.cells [aev 0,aev 0] 141 none:=by grind
 refine aD di g0 rfl rfl rfl λm0 p0 a0 q0=>?_;have a0:m0.get m.n=.cells (DD p q).c 141 none:=a0;rw[bW a0,ae];exact⟨rfl,by omega⟩
theorem QA(hX:cy X){p q:Pl}{v:aes}(hl:Sl m [p,q] v):C X (.func 235) [v,.func (.func 195) #[] #[]] m m.n (DB p q).v m:=by
 refine Cl.fl hX (aaU func235) ?_;rw[Zh];dsimp only[δ,ζ,η,ι,κ,ς,υ,χ,ω];refine aw λm1 r0 s0 j0=>?_;have b0:=hl.aG (m':=m1) ⟨by omega,j0⟩;rw[b0.len cF,aA,aQ,ae,ak];show gG (decide (((2:Nat):Int)< 1)) _ _;rw[show decide (((2:Nat):Int)< 1)=false from rfl,aT];have⟨a,e1,e2⟩:=b0.dW (k:=.i64) (i:=0) rfl;have e1:an TE 58 v (aev 0)=some a:=e1;rw[e1,ae,e2,ae];refine aw λm6 u0 k0 v0=>?_;unfold ptrTo;refine aD di k0 rfl rfl rfl λm7 y0 d0 z0=>?_;have d0:m7.get m1.n=.cells p.c 141 none:=d0;have e0:∀c,c < m1.n->m7.get c=m1.get c:=by grind
 refine Lp.intro (γ:=Nat) (λi=>2-i) (λi vs mm lo=>vs=[aev i]/\(i=1/\mm.get m1.n=.cells p.c 141 none\/i=2/\mm.get m1.n=.cells (DB p q).c 141 none)/\mm.n=m7.n/\(∀c,c < m1.n->mm.get c=m1.get c)/\m.n<=lo) 1 ⟨rfl,.inl ⟨rfl,d0⟩,rfl,e0,by omega⟩ ?_;rintro i vs mm lo ⟨rfl,hi,l0,hk,A0⟩;have h0:Sl mm [p,q] v:=b0.bs λb c t g hb _=>by rw[hk b (M.bk hb),hb]
 rw[aE,h0.len cF,aA,aQ,ae,ak];rcases hi with⟨rfl,hc⟩ |⟨rfl,hc⟩
 ·show gG (decide (((1:Nat):Int)< ((2:Nat):Int))) _ _;rw[show decide (((1:Nat):Int)< ((2:Nat):Int))=true from rfl,bH];have⟨a,e1,e2⟩:=h0.dW (k:=.i64) (i:=1) rfl;rw[e1,ae,e2,ae,bW hc,ae,cj];refine aH (sF hX q p) ?_;rw[aQ,ae,ak];refine av (λhb=>?_) (λhb=>?_)
  ·have hb:=aa1 hb;rw[ae,e2,ae];refine aD di hc rfl rfl rfl λB0 n0 i0 o0=>?_;refine⟨2,by omega,rfl,.inr ⟨rfl,?_⟩,by omega,by grind,by omega⟩;rw[i0,show DB p q=q by unfold DB;rw[aa5 hb]];rfl
  have hb:=aaZ hb;refine⟨2,by omega,rfl,.inr ⟨rfl,?_⟩,l0,hk,by omega⟩;rw[hc,show DB p q=p by unfold DB;rw[aa4 hb]]
 show gG (decide (((2:Nat):Int)< ((2:Nat):Int))) _ _;rw[show decide (((2:Nat):Int)< ((2:Nat):Int))=false from rfl,aT,bW hc,ae];have g0:mm.get m.n=.cells [aev 0,aev 0] 141 none:=by grind
 refine aD di g0 rfl rfl rfl λm0 p0 a0 q0=>?_;have a0:m0.get m.n=.cells (DB p q).c 141 none:=a0;rw[bW a0,ae];exact⟨rfl,by omega⟩
structure RN(X:aM):Prop where
 pl:∀(m:M) (b:Nat) (p q:Pl),m.get b=.cells (p.c++q.c) 141 none->C X (.func 233) [.slice (some ⟨b,0,none⟩) 2 2,.func (.func 195) #[] #[]] m b (.tuple #[]) (m.set b (.cells ((gh p q).c++(yI p q).c) 141 none))
theorem Qk{p q:Pl}:aI TE m 58 2 [(0,p.v),(1,q.v)]=some (.slice (some ⟨m.n,0,none⟩) 2 2,m.push (.cells (p.c++q.c) 141 none)):=by kernel_rfl
theorem wH{p q:Pl}{b:Nat}{g:Option Nat}(h:m.get b=.cells (p.c++q.c) 141 g):Sl m [p,q] (aer b 0 2 2):=
 .inr ⟨b,0,2,_,g,rfl,h,aaV _,λi z hi=>by
  match i with
  |0=>cases hi;rfl
  |1=>cases hi;rfl
  |i+2=>simp at hi⟩
theorem Kk(hX:cy X)(hS:RN X)(p q r s:Pl):C X (.func 194) [p.v,q.v,r.v,s.v] m m.n (.tuple #[(og p q r s).v,(KF p q r s).v]) m:=by
 refine Cl.fl hX (aaU func194) ?_;rw[ZE];dsimp only[δ,ζ,ι,ν,ρ,ς,υ,χ,ψ,Λ];refine aw λm1 l1 F0 o1=>?_;refine aw λm2 p1 G0 H0=>?_;refine aw λm3 r1 I0 s0=>?_;refine aw λm4 u1 J0 r0=>?_;refine aw λm5 v1 w1 o0=>?_;refine aw λm6 z1 K0 p0=>?_;have g0:m6.get m.n=.cells p.c 141 none:=by rw[p0 _ (by omega),o0 _ (by omega),r0 _ (by omega),s0 _ (by omega),H0 _ (by omega)];exact F0
 have g1:m6.get m1.n=.cells q.c 141 none:=by rw[p0 _ (by omega),o0 _ (by omega),r0 _ (by omega),s0 _ (by omega)];exact G0
 have g2:m6.get m2.n=.cells r.c 141 none:=by rw[p0 _ (by omega),o0 _ (by omega),r0 _ (by omega)];exact I0
 have g3:m6.get m3.n=.cells s.c 141 none:=by rw[p0 _ (by omega),o0 _ (by omega)];exact J0
 have g4:m6.get m4.n=.cells [aev 0,aev 0] 141 none:=by grind
 have g5:m6.get m5.n=.cells [aev 0,aev 0] 141 none:=K0;unfold ptrTo;rw[bW g0,ae,bW g1,ae,Qk,aA];obtain⟨m10,b0⟩:∃x,x=m6.push (.cells (p.c++q.c) 141 none):=⟨_,rfl⟩
 rw[<-b0];have O0:m10.n=m6.n+1:=by rw[b0];rfl
 have P0:m10.get m6.n=.cells (p.c++q.c) 141 none:=by rw[b0];exact M.aY
 have k0:∀c,c < m6.n->m10.get c=m6.get c:=λc hc=>by rw[b0];exact M.cB hc
 rw[bW (by rw[k0 _ (by omega)];exact g2),ae,bW (by rw[k0 _ (by omega)];exact g3),ae,Qk,aA];obtain⟨m14,d0⟩:∃x,x=m10.push (.cells (r.c++s.c) 141 none):=⟨_,rfl⟩
 rw[<-d0];have S0:m14.n=m10.n+1:=by rw[d0];rfl
 have b1:m14.get m10.n=.cells (r.c++s.c) 141 none:=by rw[d0];exact M.aY
 have u0:∀c,c < m10.n->m14.get c=m10.get c:=λc hc=>by rw[d0];exact M.cB hc
 have ga:m14.get m6.n=.cells (p.c++q.c) 141 none:=by grind
 refine aH (hS.pl m14 m6.n p q ga) ?_;obtain⟨m16,e0⟩:∃x,x=m14.set m6.n (.cells ((gh p q).c++(yI p q).c) 141 none):=⟨_,rfl⟩
 rw[<-e0];have c1:m16.n=m14.n:=by rw[e0];rfl
 have d1:m16.get m6.n=.cells ((gh p q).c++(yI p q).c) 141 none:=by rw[e0];exact M.eN (by omega)
 have v0:∀c,c≠m6.n->m16.get c=m14.get c:=λc hc=>by rw[e0];exact M.dz hc
 have gb:m16.get m10.n=.cells (r.c++s.c) 141 none:=by grind
 refine aH (hS.pl m16 m10.n r s gb) ?_;obtain⟨m19,h0⟩:∃x,x=m16.set m10.n (.cells ((gh r s).c++(yI r s).c) 141 none):=⟨_,rfl⟩
 rw[<-h0];have e1:m19.n=m16.n:=by rw[h0];rfl
 have y0:m19.get m10.n=.cells ((gh r s).c++(yI r s).c) 141 none:=by rw[h0];exact M.eN (by omega)
 have z0:∀c,c≠m10.n->m19.get c=m16.get c:=λc hc=>by rw[h0];exact M.dz hc
 have s1:=wH (m:=m19) (p:=gh p q) (q:=yI p q) (b:=m6.n) (g:=none) (by grind);have s2:=wH (m:=m19) (p:=gh r s) (q:=yI r s) (b:=m10.n) (g:=none) y0;have⟨a1,x1,y1⟩:=s1.dW (k:=.i64) (i:=0) rfl;have⟨a2,x2,y2⟩:=s2.dW (k:=.i64) (i:=0) rfl;have⟨a3,x3,y3⟩:=s1.dW (k:=.i64) (i:=1) rfl;have⟨a4,x4,y4⟩:=s2.dW (k:=.i64) (i:=1) rfl;have x1:an TE 58 (aer m6.n 0 2 2) (aev 0)=some a1:=x1;have x2:an TE 58 (aer m10.n 0 2 2) (aev 0)=some a2:=x2;have x3:an TE 58 (aer m6.n 0 2 2) (aev 1)=some a3:=x3;have x4:an TE 58 (aer m10.n 0 2 2) (aev 1)=some a4:=x4;rw[x1,ae,y1,ae,x2,ae,y2,ae,Qk,aA];obtain⟨a0,i0⟩:∃x,x=m19.push (.cells ((gh p q).c++(gh r s).c) 141 none):=⟨_,rfl⟩
 rw[<-i0];have l0:Ext m19 a0:=by rw[i0];exact Ext.refl.push
 have h1:a0.n=m19.n+1:=by rw[i0];rfl
 have A0:a0.get m19.n=.cells ((gh p q).c++(gh r s).c) 141 none:=by rw[i0];exact M.aY
 refine aH (QB hX (wH A0)) ⟨aaV _,?_⟩;have t1:=s1.aG l0;have t2:=s2.aG l0;have⟨a5,x5,y5⟩:=t1.dW (k:=.i64) (i:=1) rfl;have⟨a6,x6,y6⟩:=t2.dW (k:=.i64) (i:=1) rfl;have x5:an TE 58 (aer m6.n 0 2 2) (aev 1)=some a5:=x5;have x6:an TE 58 (aer m10.n 0 2 2) (aev 1)=some a6:=x6;rw[x5,ae,y5,ae,x6,ae,y6,ae,Qk,aA];obtain⟨q0,j0⟩:∃x,x=a0.push (.cells ((yI p q).c++(yI r s).c) 141 none):=⟨_,rfl⟩
 rw[<-j0];have B0:Ext a0 q0:=by rw[j0];exact Ext.refl.push
 have i1:q0.n=a0.n+1:=by rw[j0];rfl
 have C0:q0.get a0.n=.cells ((yI p q).c++(yI r s).c) 141 none:=by rw[j0];exact M.aY
 refine aH (QA hX (wH C0)) ?_
 have eZ:∀c,c < m6.n->q0.get c=m6.get c:=λc hc=>by rw[B0.get c (by omega),l0.get c (by omega),z0 c (by omega),v0 c (by omega),u0 c (by omega),k0 c hc]
 have k4:=(eZ m4.n (by omega)).trans g4;have k5:=(eZ m5.n (by omega)).trans g5;refine aD di k4 rfl rfl rfl λL0 j1 m0 D0=>?_;have m0:L0.get m4.n=.cells (og p q r s).c 141 none:=m0;refine aD di ((D0 m5.n (by omega)).trans k5) rfl rfl rfl λN0 k1 n0 E0=>?_;have n0:N0.get m5.n=.cells (KF p q r s).c 141 none:=n0;rw[bW (by rw[E0 _ (by omega)];exact m0),ae,bW n0,ae];exact⟨rfl,by omega⟩
end
section
variable {X:aM} {m:M}
end
section
variable {X:aM} {m:M}
theorem VC{p q:Pl}:aC TE .eql 141 p.v q.v=some (.bool (decide (p=q))):=by
 have e:aC TE .eql 141 p.v q.v=(eq? TE 141 p.v q.v).map (λb=> .bool b):=by kernel_rfl
 rw[e,Sw];rfl
abbrev js(p q:Pl):aet:=[.int .i64 p.x,.int .i64 p.y,.int .i64 q.x,.int .i64 q.y]
abbrev rV:aet:=[.int .i64 0,.int .i64 0,.int .i64 0,.int .i64 0]
def iz:Option (Pl×Pl)->aet
 |some x=>js x.1 x.2
 |none=>rV
theorem lH{p q:Pl}:aK TE 143 [(0,p.v),(1,q.v)]=some (.agg (js p q).toArray):=by kernel_rfl
theorem pL:aK TE 143 []=some (.agg rV.toArray):=by kernel_rfl
theorem qI{α:Type}{f:Nat->Option α}:∀{n:Nat},(∀j,j < n->f j=none)->(List.range n).findSome? f=none:=by
 grind
theorem pB{α:Type}{f:Nat->Option α}{x:α}:∀{n k:Nat},k < n->(∀j,j < k->f j=none)->f k=some x->(List.range n).findSome? f=some x
 |n+1,k,hk,h,hx=>by
  rw[acG,List.findSome?_append]
  by_cases e:k < n
  ·rw[pB e h hx];rfl
  ·grind
theorem xV{m1 m2:Nat}{mm:M}{o:Option (Pl×Pl)}{b:Bool}(h1:mm.get m1=.cells (iz o) 143 none)(h2:mm.get m2=.cells [.bool b] 4 none){P:aes->aes->Prop}(hP:P (.agg (iz o).toArray) (.bool b)):
  aj (ah TE mm 143 (aeq m1 0)) λv=>aj (ah TE mm 4 (aeq m2 0)) λw=>P v w:=by
 have hl:(iz o).length=4:=by cases o <;>rfl
 rw[mU,aP h1 (by grind)];have e:((iz o).drop 0).take 4=iz o:=by grind
 rw[e];show aj (some (Value.agg (iz o).toArray)) _;rw[ae,uz,aL h2];exact hP
theorem Bi{P:Prop}:Ik [] P=P:=rfl
theorem Qg(hX:cy X)(hS:RN X){a b:List Pl}{va vb:aes}(ha:Sl m a va)(hb:Sl m b vb)(la:a.length < 1000000)(lb:b.length < 1000000):
  C X (.func 149) [va,vb] m m.n (.tuple #[.agg (iz (mJ a b)).toArray,.bool (mJ a b).isSome]) m:=by
 refine Cl.flat (hX.no _ rfl) (aaU func149) rfl (by cases mJ a b <;>rfl) ?_;rw[Z8];dsimp only[δ,η,θ,ι,ξ,ο,ρ,ς,υ,χ,ψ,Γ,Δ,Θ,ω];refine aw λm1 k4 A2 l4=>?_;refine aw λm2 m4 n4 o4=>?_;refine aw λm3 r4 B2 u4=>?_;rw[hb.cells]at A2;unfold ptrTo;have F0:Ext m m3:=⟨by omega,by grind⟩
 have g0:m3.get m.n=.cells [vb] 58 none:=by grind
 have g1:m3.get m1.n=.cells rV 143 none:=by grind
 have g2:m3.get m2.n=.cells [aey] 4 none:=B2;have ld:∀mm:M,mm.get m.n=.cells [vb] 58 none->ah TE mm 58 (aeq m.n 0)=some vb:=λmm h=>by rw[qh,aL h];rfl
 have p1:=ha.aG F0;have r1:=hb.aG F0;refine bA (λvs m' lo=>vs=[.bool (!(bM a && bM b && !fo a b))]/\m'=m3/\m.n<=lo) (λR hR=>?_) ?_
 ·refine aH (jq hX p1 (by omega)) ?_;rw[bE,ae,ak];refine av (λh=>?_) (λh=>?_)
  ·have h:bM a=false:=by grind
   exact hR _ _ _ ⟨by grind,rfl,by omega⟩
  have h:bM a:=by grind
  rw[ld m3 g0,ae];refine aH (jq hX r1 (by omega)) ?_;rw[bE,ae,ak];refine av (λh'=>?_) (λh'=>?_)
  ·have h':bM b=false:=by grind
   exact hR _ _ _ ⟨by grind,rfl,by omega⟩
  have h':bM b:=by grind
  rw[ld m3 g0,ae];refine aH (vu hX p1 r1 la lb) ?_;exact hR _ _ _ ⟨by simp_all,rfl,by omega⟩
 rintro _ m6 v4 ⟨rfl,rfl,n3⟩;rw[aE,ak];refine av (λh=>?_) (λh=>?_)
 ·have h:(bM a && bM b && !fo a b)=false:=by
   cases h':(bM a && bM b && !fo a b)with
   |false=>rfl
   |true=>rw[h']at h;cases h
  have e:mJ a b=none:=by unfold mJ;rw[aa4 (by grind)]
  rw[pL,ae];refine aD oT g1 rfl rfl rfl λm24 o3 u1 v1=>?_;refine aD EK (by rw[v1 _ (by omega)];exact g2) rfl rfl rfl λw4 r3 w1 y1=>?_;refine xV (o:=none) (b:=false) (by rw[y1 _ (by omega)];exact u1) w1 ⟨by rw[e];rfl,by omega⟩
 have hv:(bM a && bM b && !fo a b):=by
  cases h':(bM a && bM b && !fo a b)with
  |true=>rfl
  |false=>rw[h']at h;cases h
 have z1:=hv;simp only[aa3]at z1;obtain⟨⟨C2,D2⟩, -⟩:=z1;have e:mJ a b=xW a b:=by unfold mJ;rw[aa5 hv]
 have sa:=jo C2;have sb:=jo D2;have⟨a0,hc,i0,u3,v3⟩:=yW (m:=m6) hX ha.cells;refine aH hc ?_;rw[cj];have k0:a0.get m.n=.cells [vb] 58 none:=i0.cells g0;have k1:a0.get m1.n=.cells rV 143 none:=i0.cells g1;have k2:a0.get m2.n=.cells [aey] 4 none:=i0.cells g2;have hx:Ext m a0:=F0.trans i0;have y4:=i0.n
 refine⟨.ob λ_=>False,jV a,_,λi mm=>a0.n<=mm.n/\(∀c,c < a0.n->mm.get c=a0.get c)/\∀j,j < i->GV a b j=none,
  λe mm=>e=.ret/\∃x,xW a b=some x/\mm.get m1.n=.cells (js x.1 x.2) 143 none/\mm.get m2.n=.cells [aex] 4 none,m.n,⟨_,rfl⟩,uM hX (v:=va) (b:=m6.n) (by omega),by omega,?_,?_,?_,⟨aaV _,λ_ _=>rfl,λj hj=>by omega⟩,?_,?_,?_⟩
 ·rintro i mm ⟨h1,h2,h3⟩;refine⟨by grind,?_⟩
  exact ha.bs λb c t g hb ht=>by have:=M.bk hb;rw[h2 b (by omega),hx.get b this,hb]
 ·rintro i mm G0 ⟨h1,h2,h3⟩ hk;exact⟨by have:=hk.n;omega,λc hc=>by rw[hk.get c (by omega) (by omega),h2 c hc],h3⟩
 ·rintro e mm G0 ⟨h,x,h1,h2,h3⟩ hk;have l1:=M.bk h2;have l2:=M.bk h3;exact⟨h,x,h1,by rw[hk.get _ l1 (by omega),h2],by rw[hk.get _ l2 (by omega),h3]⟩
 ·
  rintro i args v0 w3 E2 ⟨h1,h2,h3⟩
  obtain⟨pa,pb,H0,A1,rfl⟩:=uL E2
  have F2:i < a.length:=(aa0.1 H0).1
  have ea:gd a i=pa:=Cw H0
  have eb:KH a i=pb:=Cw A1
  rw[aE,aE,Bi]
  refine aw λz4 y3 B1 z3=>?_
  refine aD di B1 rfl rfl rfl λC1 A3 D1 B3=>?_
  refine aw λA4 C3 E1 F1=>?_
  refine aD di E1 rfl rfl rfl λG2 D3 G1 H1=>?_
  have I0:∀c,c < v0.n->G2.get c=v0.get c:=by grind
  refine⟨λc _ hc=>I0 c hc,λj0 E3 C0=>?_⟩
  dsimp only
  have H2:∀c,c < a0.n->j0.get c=a0.get c:=by grind
  have ra:j0.get v0.n=.cells pa.c 141 none:=by rw[C0 _ (by omega),H1 _ (by omega),F1 _ (by omega),D1];rfl
  have rb:j0.get C1.n=.cells pb.c 141 none:=by rw[C0 _ (by omega),G1];rfl
  rw[ld j0 (by grind),ae]
  have⟨b0,I1,e0,F3,G3⟩:=yW (m:=j0) hX hb.cells
  refine aH I1 ?_
  rw[cj]
  have I2:=e0.n
  have J2:∀c,c < a0.n->b0.get c=a0.get c:=λc hc=>by rw[e0.get c (by omega),H2 c hc]
  refine⟨.ob λ_=>False,jV b,_,λk mm=>b0.n<=mm.n/\(∀c,c < b0.n->mm.get c=b0.get c)/\∀j,j < k->rW pa pb (gd b j) (KH b j)=none,
   λe mm=>b0.n<=mm.n/\e=.ret/\∃x,xW a b=some x/\mm.get m1.n=.cells (js x.1 x.2) 143 none/\mm.get m2.n=.cells [aex] 4 none/\mm.get a0.n=j0.get a0.n,m.n,⟨_,rfl⟩,uM hX (v:=vb) (b:=j0.n) (by omega),by omega,?_,?_,?_,⟨aaV _,λ_ _=>rfl,λj hj=>by omega⟩,?_,?_,?_⟩
  ·rintro k mm ⟨q1,q2,q3⟩;refine⟨by grind,?_⟩
   exact hb.bs λb c t g hb ht=>by have:=M.bk hb;rw[q2 b (by omega),J2 b (by omega),hx.get b this,hb]
  ·rintro k mm G0 ⟨q1,q2,q3⟩ hk;exact⟨by have:=hk.n;omega,λc hc=>by rw[hk.get c (by omega) (by omega),q2 c hc],q3⟩
  ·rintro e mm G0 ⟨q0,h,x,q1,q2,q3,q4⟩ hk;exact⟨by have:=hk.n;omega,h,x,q1,by rw[hk.get _ (by omega) (by omega),q2],by rw[hk.get _ (by omega) (by omega),q3],by rw[hk.get _ (by omega) (by omega),q4]⟩
  ·
   rintro k args p0 H3 K2 ⟨q1,q2,q3⟩
   obtain⟨pr,ps,J0,J1,rfl⟩:=uL K2
   have L2:k < b.length:=(aa0.1 J0).1
   have er:gd b k=pr:=Cw J0
   have es:KH b k=ps:=Cw J1
   have da:=sa _ (aa2 H0)
   have db:=sa _ (aa2 A1)
   have dr:=sb _ (aa2 J0)
   have ds:=sb _ (aa2 J1)
   rw[aE,aE,Bi]
   refine aw λB4 I3 K1 J3=>?_
   refine aD di K1 rfl rfl rfl λM2 K3 L1 L3=>?_
   refine aw λC4 N3 N1 O1=>?_
   refine aD di N1 rfl rfl rfl λN2 O3 P1 T1=>?_
   have K0:∀c,c < p0.n->N2.get c=p0.get c:=by grind
   refine⟨λc _ hc=>K0 c hc,λm64 a4 D0=>?_⟩
   dsimp only
   have L0:∀c,c < b0.n->m64.get c=b0.get c:=by grind
   have ta:m64.get v0.n=.cells pa.c 141 none:=by rw[L0 _ (by omega),e0.get _ (by omega),ra]
   have tb:m64.get C1.n=.cells pb.c 141 none:=by rw[L0 _ (by omega),e0.get _ (by omega),rb]
   have tr:m64.get p0.n=.cells pr.c 141 none:=by rw[D0 _ (by omega),T1 _ (by omega),O1 _ (by omega),L1];rfl
   have ts:m64.get M2.n=.cells ps.c 141 none:=by rw[D0 _ (by omega),P1];rfl
   have skip:rW pa pb pr ps=none->∀(mm:M) (lo:Nat),m64.n<=mm.n->(∀c,c < m64.n->mm.get c=m64.get c)->m.n<=lo->
     m.n<=lo/\(∀c,b0.n<=c->c < p0.n->(c=b0.n\/False)->mm.get c=m64.get c)/\(b0.n<=mm.n/\(∀c,c < b0.n->mm.get c=b0.get c)/\∀j,j < k+1->rW pa pb (gd b j) (KH b j)=none):=by
    intro O2 mm lo P2 r0 m0
    refine⟨m0,λc _ hc _=>r0 c (by omega),by omega,by grind,λj hj=>?_⟩
    by_cases e:j=k
    ·rw[e,er,es];exact O2
    ·exact q3 j (by omega)
   refine bA (λvs m' lo=>vs=[.bool (decide (dj pa pb pr≠0\/dj pa pb ps≠0))]/\m'=m64/\m.n<=lo) (λR hR=>?_) ?_
   ·rw[bW ta,ae,bW tb,ae,bW tr,ae];refine aH (wE hX da db dr) ?_;rw[bZ,ae,ak];refine av (λh=>?_) (λh=>?_)
    ·have h:dj pa pb pr≠0:=by grind
     exact hR _ _ _ ⟨by grind,rfl,by omega⟩
    ·have h:dj pa pb pr=0:=by grind
     rw[bW ta,ae,bW tb,ae,bW ts,ae]
     refine aH (wE hX da db ds) ?_
     rw[bZ,ae]
     refine hR _ _ _ ⟨?_,rfl,by omega⟩
     congr 2
     rw[adF]
     simp[h]
   rintro _ l0 a2 ⟨rfl,rfl,N0⟩
   rw[aE,ak]
   refine av (λh=>?_) (λh=>?_)
   ·have h:=aa1 h;exact skip (by unfold rW;rw[aa5 h]) l0 a2 (aaV _) (λ_ _=>rfl) N0
   have n0:=aaZ h
   rw[bW ta,ae,bW tb,ae,bW tr,ae,bW ts,ae]
   refine aH (Kk hX hS pa pb pr ps) ?_
   rw[aJ,aJ]
   simp only[aaY,aaX,ae]
   refine aw λy0 b4 b2 c4=>?_
   refine aw λD4 d4 c2 d2=>?_
   refine aD di ((d2 l0.n (by omega)).trans b2) rfl rfl rfl λE4 e4 i2 j2=>?_
   refine aD di ((j2 y0.n (by omega)).trans c2) rfl rfl rfl λz0 f4 o2 u2=>?_
   have tf:z0.get l0.n=.cells (og pa pb pr ps).c 141 none:=by rw[u2 _ (by omega)];exact i2
   have tt:z0.get y0.n=.cells (KF pa pb pr ps).c 141 none:=o2
   have A0:∀c,c < l0.n->z0.get c=l0.get c:=by grind
   refine bA (λvs m' lo=>vs=[.bool (decide (og pa pb pr ps=KF pa pb pr ps\/0 < sG (og pa pb pr ps) (KF pa pb pr ps)))]/\m'=z0/\m.n<=lo) (λR hR=>?_) ?_
   ·rw[bW tf,ae,bW tt,ae,VC,ae,ak];refine av (λh=>?_) (λh=>?_)
    ·have h:=aa1 h;exact hR _ _ _ ⟨by grind,rfl,by omega⟩
    ·have h:=aaZ h
     refine aH (sF hX _ _) ?_
     rw[bX,ae]
     refine hR _ _ _ ⟨?_,rfl,by omega⟩
     congr 2
     rw[decide_eq_decide]
     exact⟨λq=> .inr q,λq=>q.resolve_left h⟩
   rintro _ d0 o0 ⟨rfl,rfl,B0⟩
   rw[aE,ak]
   refine av (λh=>?_) (λh=>?_)
   ·have h:=aa1 h;exact skip (by unfold rW;rw[aa4 n0,aa5 h]) d0 o0 (by omega) (λc hc=>A0 c hc) B0
   have v2:=aaZ h
   rw[bW (by rw[A0 _ (by omega)];exact ta),ae,bW (by rw[A0 _ (by omega)];exact tb),ae]
   refine aH (sF hX _ _) ?_
   rw[bX,ae,ak]
   have Q2:d0.get m1.n=.cells rV 143 none:=by grind
   have T2:d0.get m2.n=.cells [aey] 4 none:=by grind
   have fin:∀(x:Pl×Pl) (mm:M) (F:Nat->Nat->Nat),rW pa pb pr ps=some x->mm.n=d0.n->(∀c,c < l0.n->mm.get c=d0.get c)->m.n<=F m1.n m2.n->
     aR (aF TE mm 143 (aeq m1.n 0) (.agg (js x.1 x.2).toArray)) λE0 w2=>aR (aF TE E0 4 (aeq m2.n 0) aex) λh0 y2=>
      m.n<=F w2 y2/\(∀c,b0.n<=c->c < p0.n->(c=b0.n\/False)->h0.get c=l0.get c)/\(b0.n<=h0.n/\True/\∃x,xW a b=some x/\h0.get m1.n=.cells (js x.1 x.2) 143 none/\h0.get m2.n=.cells [aex] 4 none/\h0.get a0.n=j0.get a0.n):=by
    intro x mm F a3 P2 r0 m0
    refine aD oT ((r0 m1.n (by omega)).trans Q2) rfl rfl rfl λE0 b3 O0 s0=>?_
    refine aD EK ((s0 m2.n (by omega)).trans ((r0 m2.n (by omega)).trans T2)) rfl rfl rfl λh0 c3 P0 u0=>?_
    refine⟨m0,by grind,by omega,trivial,x,?_,by rw[u0 _ (by omega)];exact O0,P0,?_⟩
    ·unfold xW;refine pB F2 h3 ?_;unfold GV;rw[ea,eb];refine pB L2 (λj hj=>q3 j hj) ?_;rw[er,es];exact a3
    ·rw[u0 _ (by omega),s0 _ (by omega),r0 _ (by omega),A0 _ (by omega),L0 _ (by omega),e0.get _ (by omega)]
   refine av (λh=>?_) (λh=>?_)
   ·have h:=aa1 h;rw[bW tt,ae,bW tf,ae];refine aD di tf rfl rfl rfl λg4 d3 S0 a1=>?_;refine aD di ((a1 y0.n (by omega)).trans tt) rfl rfl rfl λz2 e3 b1 c1=>?_;rw[bW (p:=KF pa pb pr ps) (by rw[c1 _ (by omega)];exact S0),ae,bW (p:=og pa pb pr ps) b1,ae,lH,ae];exact fin (KF pa pb pr ps,og pa pb pr ps) z2 (λa b=>min (min (min (min (min o0 d0.n) l0.n) y0.n) a) b) (by unfold rW;rw[aa4 n0,aa4 v2,aa5 h]) (by omega) (by grind) (by omega)
   ·have h:=aaZ h;rw[bW tf,ae,bW tt,ae,lH,ae];exact fin (og pa pb pr ps,KF pa pb pr ps) d0 (λa b=>min (min (min o0 d0.n) a) b) (by unfold rW;rw[aa4 n0,aa4 v2,aa4 h]) rfl (λ_ _=>rfl) (by omega)
  ·rintro mm gh ⟨q1,q2,q3⟩ m0;refine⟨by omega,λc g3 i3 d1=>?_,by omega,by grind,λj hj=>?_⟩
   ·rcases d1 with rfl |h;·rw[q2 _ (by omega),e0.get _ (by omega)]
    exact h.elim
   by_cases e:j=i
   ·subst e;unfold GV;rw[ea,eb];rw[qm]at q3;exact qI q3
   exact h3 j (by omega)
  ·rintro e mm gh j3 ⟨q0,rfl,x,q1,q2,q3,q4⟩ m0;refine⟨_,abr.2 rfl,rfl,?_⟩;dsimp only;refine⟨by omega,λc g3 i3 d1=>?_,rfl,x,q1,q2,q3⟩;rcases d1 with rfl |h;·exact q4
   exact h.elim
 ·rintro mm gh ⟨h1,h2,h3⟩ m0;rw[qm]at h3;have e':mJ a b=none:=by rw[e];unfold xW;exact qI h3
  rw[pL,ae];refine aD oT ((h2 m1.n (by omega)).trans k1) rfl rfl rfl λh4 k3 e1 i1=>?_;refine aD EK ((i1 m2.n (by omega)).trans ((h2 m2.n (by omega)).trans k2)) rfl rfl rfl λj4 l3 j1 o1=>?_;refine xV (o:=none) (b:=false) (by rw[o1 _ (by omega)];exact e1) j1 ⟨by rw[e'];rfl,by omega⟩
 rintro e2 mm gh j3 ⟨rfl,x,q1,q2,q3⟩ m0;refine⟨_,abr.2 rfl,rfl,?_⟩;dsimp only;have e':mJ a b=some x:=by grind
 refine xV (o:=some x) (b:=true) q2 q3 ⟨by rw[e'];rfl,by omega⟩
end
section
section
variable {X:aM}{x0 x1 x2:aes}{m:M}{R:aet->M->Nat->Prop}
theorem F86:dU TE (aO TE X) f86 [x0,x1] m R=ρ m x0 60 λa=>ρ a x1 60 λb=>ς b [χ 0,χ 0,χ 0,χ 0,χ 0,χ 0,χ 0,χ 0] 145 λc=>δ c 60 (υ m) λd=>δ c 60 (υ a) λf=>ψ X 148 [d,f] c λc d f=>ξ c 0 λg=>ξ c 1 λh=>ξ c 2 λc=>ο .not c λc=>aU c (θ 145 [] λa=>ι d 145 (υ b) a λa c=>aj (ah TE a 145 (υ b)) λb=>R [b,aey] a (ω m.n f c)) (ε 60 (υ m) 3 λc=>δ d 58 c λc=>ε 60 (υ a) 3 λi=>δ d 58 i λi=>ψ X 149 [c,i] d λc d i=>ξ c 0 λj=>ξ c 1 λc=>ς d [χ 0,χ 0,χ 0,χ 0] 143 λk=>ι k 143 (υ d) j λj k=>ο .not c λc=>aU c (θ 145 [] λa=>ι j 145 (υ b) a λa c=>aj (ah TE a 145 (υ b)) λb=>R [b,aey] a (Δ m.n f i k c)) (ε 60 (υ m) 0 λc=>δ j 3 c λc=>ε 60 (υ a) 0 λa=>δ j 3 a λa=>δ j 143 (υ d) λd=>θ 145 [(0,c),(1,a),(2,d),(3,g),(4,h)] λa=>ι j 145 (υ b) a λa c=>aj (ah TE a 145 (υ b)) λb=>R [b,aex] a (Δ m.n f i k c))):=by kernel_rfl
theorem F85:dU TE (aO TE X) f85 [x0] m R=ρ m x0 60 λa=>δ a 60 (υ m) λb=>ψ X 116 [b] a λa b c=>ο .not a λa=>aU a (R [aew] b (min m.n c)) (ς b [aew] 35 λa=>ε 60 (υ m) 3 λd=>δ a 58 d λd=>κ a .len [58] [d] λd _=>Lp (λa c f g=>un c λc _=>η .lss 3 c d λd=>aU d (ν f 26 1 [(0,c)] λd f=>ψ X 147 [d,υ b,υ m] f λ_ b d=>η .add 3 c (χ 1) λc=>a [c] b (min g d)) (ν f 26 2 [(0,(χ (-1))),(1,(χ (-2)))] λa c=>ψ X 147 [a,υ b,υ m] c λ_ a c=>δ a 35 (υ b) λb=>R [b] a (min g c))) [χ 0] a (min m.n c)):=by kernel_rfl
theorem aaa:dU TE (aO TE X) f147 [x0,x1,x2] m R=κ m .len [26] [x0] λa _=>Lp (λb c d f=>un c λc _=>η .lss 3 c a λa=>aU a (ζ 26 x0 c λa=>δ d 3 a λa=>δ d 35 x1 λg=>ε 60 x2 0 λh=>δ d 3 h λh=>θ 53 [(0,h),(1,a)] λa=>ν d 35 1 [(0,a)] λa d=>κ (M.wl d d.n) .append [35,35] [g,a] λa d=>ι d 35 x1 a λa g=>η .add 3 c (χ 1) λc=>b [c] a (ω f (M.low d) g)) (R [] d f)) [χ 0] m m.n:=by kernel_rfl
end
end
section
variable {X:aM} {m:M}
def CF:Option Ct->aet
 |some x=>x.c'
 |none=>Ct.zc
theorem eU(o:Option Ct):(CF o).length=8:=by cases o <;>rfl
theorem nL(o:Option Ct):(CF o).all one:=by cases o <;>rfl
theorem mu{mm:M}{bl:Nat}{cs:aet}{g:Option Nat}{o:Option Ct}(h0:mm.get bl=.cells cs 145 g)(hl:cs.length=8){P:aes->M->Nat->Prop}(hP:∀m',m'.n=mm.n->P (.agg (CF o).toArray) m' bl):
  aR (aF TE mm 145 (aeq bl 0) (.agg (CF o).toArray)) λm' b=>aj (ah TE m' 145 (aeq bl 0)) λv=>P v m' b:=by
 refine aD oS h0 (by rw[aX];show(CF o).length=8;exact eU o) (by rw[aX,hl];exact eU o) (by rw[aX];exact nL o) λm' hn hg hk=>?_
 rw[aX]at hg
 have hg:m'.get bl=.cells (CF o) 145 g:=hg
 rw[DF,aP hg (by rw[eU];exact aaV _)]
 have e:((CF o).drop 0).take 8=CF o:=by rw[abM,abk (by rw[eU];exact aaV _)]
 rw[e]
 show aj (some (Value.agg (CF o).toArray)) _
 rw[ae]
 grind
theorem kJ:aK TE 145 []=some (.agg (CF none).toArray):=by kernel_rfl
theorem tu{a b x y:Int}{p q:Pl}:aK TE 145 [(0,.int .i64 a),(1,.int .i64 b),(2,.agg (js p q).toArray),(3,.int .i64 x),(4,.int .i64 y)]=some (.agg (CF (some ⟨a,b,p,q,x,y⟩)).toArray):=by kernel_rfl
theorem fA(o:Option (Pl×Pl)):(iz o).length=4:=by cases o <;>rfl
theorem tU(o:Option (Pl×Pl)):(iz o).all one:=by cases o <;>rfl
theorem Ry{a b:Un}(h:jW a b):jF a/\jF b:=by
 unfold jW at h
 grind
theorem Ij(hX:cy X)(hS:RN X){a b:Un}{va vb:aes}(ha:Sl m a.shape va)(hb:Sl m b.shape vb)(la:a.shape.length < 1000000)(lb:b.shape.length < 1000000):
  C X (.func 86) [a.v va,b.v vb] m m.n (.tuple #[.agg (CF (jG a b)).toArray,.bool (jG a b).isSome]) m:=by
 refine Cl.flat (hX.no _ rfl) (aaU func86) rfl (by cases jG a b <;>rfl) ?_
 rw[F86];dsimp only[δ,ε,θ,ι,ξ,ο,ρ,ς,υ,χ,ψ,Δ,ω]
 refine aw λm1 r0 k0 s0=>?_
 refine aw λm2 u0 l0 v0=>?_
 refine aw λm3 y0 m0 z0=>?_
 simp only[aX]at k0 l0
 have g0:Ext m m3:=⟨by omega,by grind⟩
 have g1:m3.get m.n=.cells (a.c va) 60 none:=by grind
 have g2:m3.get m1.n=.cells (b.c vb) 60 none:=by grind
 have g3:m3.get m2.n=.cells Ct.zc 145 none:=m0
 obtain⟨a0, -, -,a3,a4,a5⟩:=kb g1
 obtain⟨b0, -, -,b3,b4,b5⟩:=kb g2
 have h0:=ha.aG g0
 have i0:=hb.aG g0
 unfold ptrTo
 rw[bV g1,ae,bV g2,ae]
 refine aH (uY (m:=m3) hX h0 i0 (by omega) (by omega)) ?_
 rw[aJ,aJ,aJ]
 simp only[aaY,aaX,ae]
 rw[bE,ae,ak]
 refine av (λh=>?_) (λh=>?_)
 ·have h:jW a b=false:=by grind
  have e:jG a b=none:=by unfold jG;rw[aa4 (by grind)]
  rw[kJ,ae];refine mu g3 rfl λm' hn=>?_;rw[e];exact⟨rfl,by omega⟩
 have h:jW a b:=by grind
 have A0:=Ry h
 have e:jG a b=(mJ a.shape b.shape).map λs=>⟨a.id,b.id,s.1,s.2,max a.back b.back,min a.front b.front⟩:=by unfold jG;rw[aa5 h]
 rw[bL,ae,a3,ae,bL,ae,b3,ae]
 refine aH (Qg hX hS h0 i0 la lb) ?_
 rw[aJ,aJ]
 simp only[aaY,aaX,ae]
 refine aw λB0 n0 j0 o0=>?_
 refine aD oT j0 (by rw[aX];exact fA _) (by rw[aX];exact fA _) (by rw[aX];exact tU _) λe0 p0 d0 q0=>?_
 rw[aX]at d0
 have d0:e0.get m3.n=.cells (iz (mJ a.shape b.shape)) 143 none:=d0
 have C0:∀c,c < m3.n->e0.get c=m3.get c:=by grind
 have r3:e0.get m2.n=.cells Ct.zc 145 none:=by grind
 rw[bE,ae,ak]
 cases hs:mJ a.shape b.shape with
 |none=>show gG true _ _;rw[bH,kJ,ae];refine mu r3 rfl λm' hn=>?_;rw[e,hs];exact⟨rfl,by omega⟩
 |some s=>
  show gG false _ _;rw[aT];have r1:e0.get m.n=.cells (a.c va) 60 none:=by grind
  have r2:e0.get m1.n=.cells (b.c vb) 60 none:=by grind
  rw[hs]at d0;rw[bD,ae,(kb r1).1,ae,bD,ae,(kb r2).1,ae];rw[show ah TE e0 143 (aeq m3.n 0)=some (.agg (js s.1 s.2).toArray) by rw[mU,aP d0 (by rw[fA];exact aaV _)];rfl,ae,tu,ae];refine mu r3 rfl λm' hn=>?_;rw[e,hs];exact⟨rfl,by omega⟩
end
section
variable {X:aM} {m:M}
theorem _root_.Go.D.Sl.Pb{l:List Int}{v:aes}(h:Sl m l v){i:Nat}{n:Int}(hi:l[i]?=some n){k:IntKind}:∃a,an TE 26 v (.int k i)=some a/\ah TE m 3 a=some (aev n):=by have⟨a,cs,h1,h2,h3⟩:=h.index je (k:=k) hi;rw[show cs=[aev n]from h3]at h2;exact⟨a,h1,h2⟩
theorem Fz{α:Type}{l l':List α}(hl:l.length=l'.length)(h:∀j x y,j < l.length->l[j]?=some x->l'[j]?=some y->x=y):l=l':=by
 refine ab9 λi=>?_
 grind
theorem Nb{p q:Pl}:aC TE .neq 141 p.v q.v=some (.bool (!(decide (p=q)))):=by
 have e:aC TE .neq 141 p.v q.v=(eq? TE 141 p.v q.v).map (λb=> .bool (!b)):=by kernel_rfl
 rw[e,Sw];rfl
end
section
variable {X:aM} {m:M}
theorem OX{a b:Int}:aK TE 53 [(0,.int .i64 a),(1,.int .i64 b)]=some (Fc.mk a b).v:=by kernel_rfl
theorem Ti{x:Fc}:aI TE m 35 1 [(0,x.v)]=some (.slice (some ⟨m.n,0,none⟩) 1 1,m.push (.cells x.c 53 none)):=by kernel_rfl
theorem AL(hX:cy X){n1 oc uo:Nat}{u:Un}{w r x0:aes}{acc:List Fc}{ss:List Int}(k0:m.get oc=.cells [r] 35 none)(hu:m.get uo=.cells (u.c w) 60 none)
  (h1:oc < n1) (h2:uo < n1) (r0:uo≠oc) (hn:n1<=m.n) (hw:Ow n1 m acc r) (hs:Sl m ss x0) (s0:acc.length+ss.length < 1000000) (u0:0 < ss.length):
  ∃m' b r',C X (.func 147) [x0,aeq oc 0,aeq uo 0] m b (.tuple #[]) m'/\oc<=b/\m'.get oc=.cells [r'] 35 none/\Ow n1 m' (acc++ss.map (Fc.mk u.id)) r'/\m.n<=m'.n/\∀c,c < n1->c≠oc->m'.get c=m.get c:=by
 have key:=Cl.heap (E:=TE) (X:=X) (f:=147) (args:=[x0,aeq oc 0,aeq uo 0]) (m:=m) (R:=λv' m' b=>v'=.tuple #[]/\oc<=b/\∃r',m'.get oc=.cells [r'] 35 none/\Ow n1 m' (acc++ss.map (Fc.mk u.id)) r'/\m.n<=m'.n/\∀c,c < n1->c≠oc->m'.get c=m.get c) (hX.no _ rfl) (aaU func147) rfl ?_
 ·obtain⟨v',m',b,hc,rfl,hb,r',k1,k2,k3,k4⟩:=key;exact⟨m',b,r',hc,hb,k1,k2,k3,k4⟩
 rw[aaa];dsimp only[δ,ε,ζ,η,θ,ι,κ,ν,χ,ω];rw[hs.len je,aA];refine Lp.intro (γ:=Nat) (λi=>ss.length-i) (λi vs mm lo=>vs=[aev i]/\i<=ss.length/\(i=0\/lo<=oc)/\oc<=lo/\m.n<=mm.n/\Sl mm ss x0/\(∀c,c < n1->c≠oc->mm.get c=m.get c)/\∃r',mm.get oc=.cells [r'] 35 none/\Ow n1 mm (acc++(ss.take i).map (Fc.mk u.id)) r') 0 ⟨rfl,aa6 _,.inl rfl,by omega,aaV _,hs,λ_ _ _=>rfl,r,k0,by grind⟩ ?_;rintro i vs mm lo ⟨rfl,hi,p0,v0,l0,e0,m0,r',hr,d0⟩;rw[aE,aQ,ae,ak];refine av (λg0=>?_) (λy0=>?_)
 ·have g0:i < ss.length:=by grind
  obtain⟨s,h0⟩:∃s,ss[i]?=some s:=⟨_,aaW g0⟩
  have⟨q,e1,e2⟩:=e0.Pb (k:=.i64) h0;have n0:mm.get uo=.cells (u.c w) 60 none:=by grind
  rw[e1,ae,e2,ae,show ah TE mm 35 (aeq oc 0)=some r' by rw[sO,aL hr];rfl,ae,bD,ae,(kb n0).1,ae,OX,ae,Ti,aA];obtain⟨m16,a0⟩:∃x,x=mm.push (.cells (Fc.mk u.id s).c 53 none):=⟨_,rfl⟩
  rw[<-a0];have b0:Ext mm m16:=by rw[a0];exact Ext.refl.push
  have q0:m16.n=mm.n+1:=by rw[a0];rfl
  have i0:m16.get mm.n=.cells (Fc.mk u.id s).c 53 none:=by rw[a0];exact M.aY
  have j0:=gH (m:=m16) (x:=Fc.mk u.id s) i0 rfl;obtain⟨r2,m18,m19,a1,a2,a3,a4,a5,a6,a7,a8⟩:=MO (T:=35) uV rfl GN rfl (m:=mm) (m1:=m16) (x:=Fc.mk u.id s) hr (o:=0) rfl h1 (by omega) d0 b0 j0 (by grind);rw[a1,aA,a2,aA,aS,ae,wrap64];refine⟨i+1,by omega,rfl,by omega,.inr (by omega),by omega,by omega,?_,by grind,r2,a4,?_⟩
  ·refine(e0.aG b0).bs λb c t g hb ht=>?_;have ht:t=3:=abr.1 ht;subst ht;rw[a8 b (M.bk hb) (λe=>?_) (λcs g' h'=>?_),hb]
   ·rw[e,b0.cells hr]at hb;cases hb
   rw[h']at hb;cases hb
  rw[abg,h0];simp only[ab3,abE,acJ,ads];rw[<-abv];exact a5
 have o0:i=ss.length:=by
  have:¬(i:Int)< (ss.length:Int):=by grind
  omega
 subst o0;rw[abD]at d0;exact⟨.inr (by omega),rfl,by omega,r',hr,d0,l0,m0⟩
def eR(u:Un):List Fc:=if jF u then(List.range u.shape.length).map (λi=>Fc.mk u.id (i:Nat))++ [⟨u.id, -1⟩,⟨u.id, -2⟩]else []
theorem yR(hX:cy X){u:Un}{w:aes}(ha:Sl m u.shape w)(la:u.shape.length < 1000000):
  ∃m' v,C X (.func 85) [u.v w] m m.n v m'/\Ext m m'/\Ow m.n m' (eR u) v:=by
 refine Cl.ky hX (aaU func85) (R:=λv' m'=>Ext m m'/\Ow m.n m' (eR u) v') ?_ λv' m' hc ⟨hx,hw⟩=>⟨m',v',hc,hx,hw⟩
 rw[F85];dsimp only[δ,ε,η,κ,ν,ο,ρ,ς,υ,χ,ψ];refine aw λm1 C0 i0 D0=>?_;simp only[aX]at i0;have j0:Ext m m1:=⟨by omega,by grind⟩
 have g1:m1.get m.n=.cells (u.c w) 60 none:=i0;have k0:=ha.aG j0;unfold ptrTo;rw[bV g1,ae];refine aH (mB hX k0 (by omega)) ?_;rw[bE,ae,ak];refine av (λh=>?_) (λh=>?_)
 ·have h:jF u=false:=by grind
  refine .inl ⟨rfl,by omega,rfl,.refl,?_⟩;unfold eR;rw[aa4 (by grind)];exact Ow.nil
 have h:jF u:=by grind
 have h8:=jc h;refine aw λm7 E0 s0 u0=>?_;have h0:Ext m1 m7:=⟨by omega,u0⟩
 have g7:m7.get m.n=.cells (u.c w) 60 none:=h0.cells g1;rw[bL,ae,(kb g7).2.2.2.1,ae,(k0.aG h0).len cF,aA];refine Lp.intro (γ:=Nat) (λi=>u.shape.length-i) (λi vs mm lo=>vs=[aev i]/\i<=u.shape.length/\m.n<=lo/\m7.n<=mm.n/\(∀c,c < m7.n->c≠m1.n->mm.get c=m7.get c)/\∃r',mm.get m1.n=.cells [r'] 35 none/\Ow m7.n mm ((List.range i).map λi=>Fc.mk u.id (i:Nat)) r') 0 ⟨rfl,aa6 _,by omega,aaV _,λ_ _ _=>rfl,_,s0,Ow.nil⟩ ?_;rintro i vs mm lo ⟨rfl,hi,F0,G0,l0,r',hr,m0⟩;have n0:mm.get m.n=.cells (u.c w) 60 none:=by grind
 rw[aE,aQ,ae,ak];refine av (λv0=>?_) (λH0=>?_)
 ·have v0:i < u.shape.length:=by grind
  rw[Qp,aA];obtain⟨m19,a0⟩:∃x,x=mm.push (.cells [.int .i64 (i:Int)] 3 none):=⟨_,rfl⟩
  rw[<-a0];have b0:Ext mm m19:=by rw[a0];exact Ext.refl.push
  have A0:m19.n=mm.n+1:=by rw[a0];rfl
  have o0:m19.get mm.n=.cells [aev (i:Int)] 3 none:=by rw[a0];exact M.aY
  obtain⟨m21,I0,r2,hc,hb,q1,q2,q3,q4⟩:=AL (m:=m19) hX (n1:=m7.n) (ss:=[(i:Int)]) (b0.cells hr) (b0.cells n0) (by omega) (by omega) (by omega) (by omega) (m0.aG b0) (ET o0) (by grind) (by simp);refine aH hc ?_;rw[aS,ae,wrap64];refine⟨i+1,by omega,rfl,by omega,by omega,by omega,λc p0 q0=>by rw[q4 c p0 q0,b0.get c (by omega),l0 c p0 q0],r2,q1,?_⟩;rw[acG,abE];exact q2
 have y0:i=u.shape.length:=by
  have:¬(i:Int)< (u.shape.length:Int):=by grind
  omega
 subst y0;rw[Sp,aA];obtain⟨g0,d0⟩:∃x,x=mm.push (.cells [.int .i64 (-1),.int .i64 (-2)] 3 none):=⟨_,rfl⟩
 rw[<-d0];have e0:Ext mm g0:=by rw[d0];exact Ext.refl.push
 have B0:g0.n=mm.n+1:=by rw[d0];rfl
 have r0:g0.get mm.n=.cells [aev (-1),aev (-2)] 3 none:=by rw[d0];exact M.aY
 obtain⟨z0,J0,r2,hc,hb,q1,q2,q3,q4⟩:=AL (m:=g0) hX (n1:=m7.n) (ss:=[-1, -2]) (e0.cells hr) (e0.cells n0) (by omega) (by omega) (by omega) (by omega) (m0.aG e0) (CZ r0) (by grind) (by simp);refine aH hc ?_;rw[show ah TE z0 35 (aeq m1.n 0)=some r2 by rw[sO,aL q1];rfl,ae];refine .inr ⟨.inl (q2.flat (by simp)),by omega,⟨by omega,λc hc=>by rw[q4 c (by omega) (by omega),e0.get c (by omega),l0 c (by omega) (by omega),h0.get c (by omega),j0.get c hc]⟩,?_⟩;unfold eR;rw[aa5 h];exact q2.mono (by omega)
end
section
variable {X:aM} {m:M}
theorem R9{α:Type}[aZ α](a0:aZ.dd α=[]){n1:Nat}{m m':M}{l:List α}{r:aes}(h:Ow n1 m l r)(hk:∀a n k,r=.slice (some a) n k->m'.get a.block=m.get a.block):Ow n1 m' l r:=by
 rcases h with h |⟨b,cs,rfl,h2,h3,h4,h5,h6⟩;·exact .inl h
 ·refine .inr ⟨b,cs,rfl,h2,h3,by grind,h5,λi x hi=>aZ.bs (h6 i x hi) λb c t g _ ht=>?_⟩
  grind
theorem BM{x:Ct}{b:Nat}{g:Option Nat}(h:m.get b=.cells x.c' 145 g):ah TE m 145 (aeq b 0)=some x.v:=by rw[DF,aP (o:=0) (n:=8) h (by simp_all)];rfl
theorem Fp{x:Ct}:aI TE m 138 1 [(0,x.v)]=some (.slice (some ⟨m.n,0,none⟩) 1 1,m.push (.cells x.c' 145 none)):=by kernel_rfl
end
section
section
variable {X:aM}{x0 x1 x2:aes}{m:M}{R:aet->M->Nat->Prop}
theorem Zd:dU TE (aO TE X) f239 [x0,x1,x2] m R=jn (λa=>η .leq 3 x1 x0 λb=>aU b (η .leq 3 x0 x2 λb=>a [b] m m.n) (a [aey] m m.n)) (λa b c=>un a λa _=>R [a] b c):=by kernel_rfl
theorem Zc:dU TE (aO TE X) f240 [x0] m R=ψ X 239 [x0,χ 0,χ 99] m λa b c=>R [a] b (min m.n c):=by kernel_rfl
theorem Zz:dU TE (aO TE X) f199 [x0] m R=ρ m x0 137 λa=>jn (λb=>ε 137 (υ m) 0 λc=>δ a 3 c λc=>ψ X 239 [c,χ 0,χ 99] a λa c d=>aU a (ε 137 (υ m) 1 λa=>δ c 3 a λa=>ψ X 240 [a] c λa c f=>aU a (ε 137 (υ m) 2 λa=>δ c 3 a λa=>ψ X 239 [a,χ (-2),χ 7] c λa c g=>aU a (ε 137 (υ m) 3 λa=>δ c 3 a λa=>ψ X 239 [a,χ 1,χ 5] c λa c h=>b [a] c (Δ m.n d f g h)) (b [aey] c (Γ m.n d f g))) (b [aey] c (ω m.n d f))) (b [aey] c (min m.n d))) (λa b c=>un a λa _=>R [a] b c):=by kernel_rfl
theorem Z5:dU TE (aO TE X) f153 [x0] m R=ρ m x0 33 λa=>ε 33 (υ m) 1 λb=>δ a 31 b λb=>κ a .len [31] [b] λc _=>Lp (λa d f g=>un d λd h=>un h λh i=>un i λi _=>η .lss 3 i c λc=>aU c (ζ 31 b i λb=>δ f 137 b λb=>ς f [χ 0,χ 0,χ 0,χ 0,aey] 137 λc=>ι c 137 (υ f) b λb c=>ε 33 (υ m) 0 λj=>δ b 30 j λj=>ε 137 (υ f) 1 λk=>δ b 3 k λk=>ψ X 198 [j,k] b λb j k=>ξ b 0 λl=>ξ b 1 λb=>ς j [χ 0,χ 0,χ 0,aew,χ 0,χ 0] 60 λn=>ι n 60 (υ j) l λl n=>jn (λa=>ο .not b λb=>aU b (a [aex] l (Γ g c k n)) (δ l 137 (υ f) λb=>ψ X 199 [b] l λb d i=>ο .not b λb=>aU b (a [aex] d (Δ g c k n i)) (ε 137 (υ f) 0 λb=>δ d 3 b λb=>η .leq 3 b h λb=>aU b (a [aex] d (Δ g c k n i)) (ε 137 (υ f) 2 λb=>δ d 3 b λb=>ε 60 (υ j) 3 λf=>δ d 58 f λf=>κ d .len [58] [f] λf _=>η .geq 3 b f λb=>a [b] d (Δ g c k n i))))) (λb c g=>un b λb _=>aU b (R [aey] c g) (ε 137 (υ f) 0 λb=>δ c 3 b λb=>η .add 3 i (χ 1) λf=>a [d,b,f] c g))) (ε 33 (υ m) 1 λa=>δ f 31 a λa=>κ f .len [31] [a] λa _=>η .leq 3 a (χ 20) λa=>R [a] f g)) [aey,χ (-1),χ 0] a m.n:=by kernel_rfl
theorem F91:dU TE (aO TE X) f91 [x0] m R=ρ m x0 33 λa=>jn (λb=>ε 33 (υ m) 0 λc=>δ a 30 c λc=>ψ X 152 [c] a λa c d=>aU a (δ c 33 (υ m) λa=>ψ X 153 [a] c λa c f=>b [a] c (ω m.n d f)) (b [aey] c (min m.n d))) (λa b c=>un a λa _=>R [a] b c):=by kernel_rfl
theorem aal:dU TE (aO TE X) f125 [x0,x1] m R=η .lss 3 x0 (χ 0) λa=>aU a (η .add 3 x0 (χ 1) λa=>ο .neg a λa=>η .rem 3 a x1 λa=>R [a] m m.n) (η .rem 3 x0 x1 λa=>R [a] m m.n):=by kernel_rfl
theorem aak:dU TE (aO TE X) f126 [x0,x1] m R=ρ m x1 137 λa=>Lp (λa b c d=>un b λb f=>un f λf g=>un g λg h=>un h λh i=>un i λi _=>κ c .len [31] [x0] λj _=>η .lss 3 i j λj=>aU j (ζ 31 x0 i λj=>ε 137 j 0 λj=>δ c 3 j λj=>ε 137 (υ m) 0 λk=>δ c 3 k λk=>η .eql 3 j k λj=>aU j (R [aew,aey] c d) (jn (λa=>ο .not h λb=>aU b (ζ 31 x0 i λb=>ε 137 b 0 λb=>δ c 3 b λb=>ε 137 (υ m) 0 λf=>δ c 3 f λf=>η .gtr 3 b f λb=>a [b] c d) (a [aey] c d)) (λc d j=>un c λc _=>aU c (δ d 137 (υ m) λc=>ν d 31 1 [(0,c)] λc d=>κ (M.wl d d.n) .append [31,31] [g,c] λc d=>ζ 31 x0 i λg=>δ d 137 g λg=>ν d 31 1 [(0,g)] λg h=>κ (M.wl h h.n) .append [31,31] [c,g] λc g=>η .add 3 i (χ 1) λh=>a [b,f,c,aex,h] g (ω j (M.low d) (M.low g))) (ζ 31 x0 i λc=>δ d 137 c λc=>ν d 31 1 [(0,c)] λc d=>κ (M.wl d d.n) .append [31,31] [g,c] λc d=>η .add 3 i (χ 1) λg=>a [b,f,c,h,g] d (min j (M.low d)))))) (ο .not h λa=>aU a (δ c 137 (υ m) λa=>ν c 31 1 [(0,a)] λa b=>κ (M.wl b b.n) .append [31,31] [g,a] λa b=>R [a,aex] b (min d (M.low b))) (R [g,aex] c d))) [aew,aey,aew,aey,χ 0] a m.n:=by kernel_rfl
theorem F65:dU TE (aO TE X) f65 [x0] m R=ρ m x0 25 λa=>ς a [aew,aew] 33 λb=>ε 25 (υ m) 0 λc=>δ b 22 c λc=>ψ X 124 [c] b λb c d=>θ 33 [(0,b)] λb=>ς c [aew,aew] 33 λf=>ι f 33 (υ c) b λb f=>Lp (λb d f g=>un d λd _=>jn (λa=>ε 25 (υ m) 1 λb=>δ f 23 b λb=>κ f .len [23] [b] λb _=>η .lss 3 d b λb=>aU b (η .lss 3 d (χ 8) λb=>aU b (ε 33 (υ c) 0 λb=>ε 30 b 0 λb=>δ f 28 b λb=>κ f .len [28] [b] λb _=>η .gtr 3 b (χ 0) λb=>a [b] f g) (a [aey] f g)) (a [aey] f g)) (λf g h=>un f λf _=>aU f (ε 25 (υ m) 1 λa=>δ g 23 a λa=>ζ 23 a d λa=>δ g 153 a λa=>ς g [χ 0,χ 0,χ 0,χ 0] 153 λf=>ι f 153 (υ g) a λa f=>ε 33 (υ c) 0 λi=>ε 30 i 0 λi=>δ a 28 i λi=>ζ 153 (υ g) (χ 1) λj=>δ a 3 j λj=>ε 33 (υ c) 0 λk=>ε 30 k 0 λk=>δ a 28 k λk=>κ a .len [28] [k] λk _=>ψ X 125 [j,k] a λj k l=>(a.n<=l)/\(ζ 28 i j λa=>δ k 60 a λa=>ς k [χ 0,χ 0,χ 0,aew,χ 0,χ 0] 60 λi=>ι i 60 (υ k) a λa i=>ζ 153 (υ g) (χ 0) λj=>δ a 3 j λj=>ψ X 125 [j,χ 12] a λj n o=>(a.n<=o)/\(ε 60 (υ k) 0 λa=>δ n 3 a λa=>ζ 153 (υ g) (χ 2) λp=>δ n 3 p λp=>ε 60 (υ k) 3 λk=>δ n 58 k λk=>κ n .len [58] [k] λk _=>η .add 3 k (χ 2) λk=>ψ X 125 [p,k] n λk p q=>(n.n<=q)/\(η .sub 3 k (χ 2) λk=>ζ 153 (υ g) (χ 3) λn=>δ p 3 n λn=>ψ X 125 [n,χ 5] p λn r s=>(p.n<=s)/\(η .add 3 (χ 1) n λn=>ζ 153 (υ g) (χ 3) λg=>δ r 3 g λg=>ψ X 125 [g,χ 2] r λg p t=>(r.n<=t)/\(η .eql 3 g (χ 0) λg=>θ 137 [(0,j),(1,a),(2,k),(3,n),(4,g)] λa=>ς p [χ 0,χ 0,χ 0,χ 0,aey] 137 λg=>ι g 137 (υ p) a λa g=>ε 33 (υ c) 1 λj=>δ a 31 j λj=>δ a 137 (υ p) λk=>ψ X 126 [j,k] a λa j k=>ξ a 0 λn=>ξ a 1 λa=>aU a (ε 33 (υ c) 1 λa=>ι j 31 a n λa c=>η .add 3 d (χ 1) λd=>b [d] a (Ω h f l i o q s t g k c)) (η .add 3 d (χ 1) λa=>b [a] j (Ψ h f l i o q s t g k)))))))) (δ g 33 (υ c) λb=>ι g 33 (υ a) b λb c=>aj (ah TE b 33 (υ a)) λa=>R [a] b (min h c)))) [χ 0] b (ω m.n d f):=by kernel_rfl
end
end
section
variable {X:aM} {m:M}
theorem qj(hX:cy X)(n lo hi:Int):C X (.func 239) [aev n,aev lo,aev hi] m m.n (.bool (cW n lo hi)) m:=by
 refine Cl.fl hX (aaU func239) ?_;rw[Zd];dsimp only[η];refine bA (λvs m2 a0=>vs=[.bool (cW n lo hi)]/\m.n<=a0) (λR hR=>?_) ?_
 ·simp only[cE,ae,ak];refine av (λh=>hR _ _ _ ⟨by simp[cW,h],aaV _⟩) (λh=>hR _ _ _ ⟨by simp[cW,h],aaV _⟩)
 rintro _ m2 a0 ⟨rfl,hl⟩;rw[aE];exact⟨rfl,hl⟩
theorem Jw(hX:cy X)(n:Int):C X (.func 240) [aev n] m m.n (.bool (cW n 0 99)) m:=by refine Cl.fl hX (aaU func240) ?_;rw[Zc];dsimp only[χ,ψ];refine aH (qj hX _ _ _) ?_;exact⟨rfl,by omega⟩
theorem CE{b:Nat}{x:Mk}{g:Option Nat}(h:m.get b=.cells x.c 137 g):
  ah TE m 3 (aeq b (0+0))=some (aev x.id)/\ah TE m 3 (aeq b (0+1))=some (aev x.un)/\ah TE m 3 (aeq b (0+2))=some (aev x.side)/\
  ah TE m 3 (aeq b (0+3))=some (aev x.kind)/\ah TE m 137 (aeq b 0)=some x.v:=by
 refine⟨?_,?_,?_,?_,?_⟩;·rw[bO,aL h];rfl
 ·rw[bO,aL h];rfl
 ·rw[bO,aL h];rfl
 ·rw[bO,aL h];rfl
 rw[DG,aP (o:=0) (n:=5) h (by grind)];rfl
def Aw(x:Mk):Bool:=cW x.id 0 99 && cW x.un 0 99 && cW x.side (-2) 7 && cW x.kind 1 5
theorem Jx(hX:cy X)(x:Mk):C X (.func 199) [x.v] m m.n (.bool (Aw x)) m:=by
 refine Cl.fl hX (aaU func199) ?_;rw[Zz];dsimp only[δ,ε,ρ,υ,χ,ψ,Γ,Δ,ω];refine aw λm1 d0 b0 e0=>?_;have g1:m1.get m.n=.cells x.c 137 none:=b0;obtain⟨k0,k1,k2,k3, -⟩:=CE g1;unfold ptrTo;refine bA (λvs m2 a0=>vs=[.bool (Aw x)]/\m.n<=a0) (λR hR=>?_) ?_
 ·rw[cg,ae,k0,ae];refine aH (qj hX _ _ _) ?_;rw[ak];refine av (λh0=>?_) (λh0=>hR _ _ _ ⟨by unfold Aw;rw[h0];rfl,by omega⟩);rw[dq,ae,k1,ae];refine aH (Jw hX _) ?_;rw[ak];refine av (λh1=>?_) (λh1=>hR _ _ _ ⟨by unfold Aw;rw[h0,h1];rfl,by omega⟩);rw[eH,ae,k2,ae];refine aH (qj hX _ _ _) ?_;rw[ak];refine av (λh2=>?_) (λh2=>hR _ _ _ ⟨by unfold Aw;rw[h0,h1,h2];rfl,by omega⟩);rw[jU,ae,k3,ae];refine aH (qj hX _ _ _) ?_;exact hR _ _ _ ⟨by unfold Aw;rw[h0,h1,h2];rfl,by omega⟩
 rintro _ m2 a0 ⟨rfl,hl⟩;rw[aE];exact⟨rfl,hl⟩
structure im(us:List Un)(ms:List Mk):Prop where
 len:ms.length<=20
 uS:ms.Pairwise λa b=>a.id < b.id
 ok:∀x∈ms,Aw x=true
 un:∀x∈ms,∃u∈us,u.id=x.un/\x.side < u.shape.length
theorem _root_.Go.D.Sl.vN{l:List Mk}{v:aes}(h:Sl m l v){i:Nat}{x:Mk}(hi:l[i]?=some x){k:IntKind}:∃a,an TE 31 v (.int k i)=some a/\ah TE m 137 a=some x.v:=by have⟨a,cs,h1,h2,h3⟩:=h.index dQ (k:=k) hi;have h3:cs=x.c:=h3;subst h3;exact⟨a,h1,h2⟩
def Hy(ms:List Mk):Nat->Int
 |0=> -1
 |i+1=>match ms[i]? with |some x=>x.id |none=> -1
theorem Jo(hX:cy X){l:List UW}{v vm:aes}{ms:List Mk}(h:cY m l v)(hP:cx (bR l))(hm:Sl m ms vm)(hM:im (bR l) ms):C X (.func 153) [.agg #[v,vm]] m m.n aex m:=by
 have c1:=hM.len;refine Cl.fl hX (aaU func153) ?_;rw[Z5];dsimp only[δ,ε,ζ,η,ι,κ,ξ,ο,ρ,ς,υ,χ,ψ,Γ,Δ];refine aw λm1 d1 A0 B0=>?_;have g1:m1.get m.n=.cells [v,vm] 33 none:=A0;have g0:Ext m m1:=⟨by omega,B0⟩
 unfold ptrTo;have o0:∀mm:M,mm.get m.n=.cells [v,vm] 33 none->ah TE mm 31 (aeq m.n (0+1))=some vm:=λmm hh=>by rw[lU,aL hh];rfl
 have C0:∀mm:M,mm.get m.n=.cells [v,vm] 33 none->ah TE mm 30 (aeq m.n (0+0))=some (.agg #[v]):=λmm hh=>by rw[ew,aP (n:=1) hh (by show 0+0+1<=2;decide)];rfl
 rw[cL,ae,o0 m1 g1,ae,(hm.aG g0).len dQ,aA];refine Lp.intro (γ:=Nat) (λi=>ms.length-i) (λi vs mm lo=>vs=[aey,aev (Hy ms i),aev i]/\i<=ms.length/\Ext m1 mm/\m.n<=lo) 0 ⟨rfl,aa6 _,.refl,aaV _⟩ ?_;rintro i vs mm lo ⟨rfl,hi,hx,D0⟩;rw[aE,aE,aE,aQ,ae,ak];have i1:=hx.n;refine av (λj0=>?_) (λj1=>?_)
 ·have j0:i < ms.length:=by grind
  obtain⟨x,h0⟩:∃a,ms[i]?=some a:=⟨_,aaW j0⟩
  have k0:=aa2 h0;have⟨u,hu,E0,F0⟩:=hM.un x k0
  have G0:cf (bR l) x.un=some u:=by have⟨j,hj⟩:=abi hu;rw[<-E0];exact pA hP hj
  have⟨q,e1,e2⟩:=((hm.aG g0).aG hx).vN (k:=.i64) h0;rw[e1,ae,e2,ae];refine aw λm18 J0 p0 K0=>?_;refine aD tI p0 rfl rfl rfl λm19 L0 q0 N0=>?_;have b0:Ext mm m19:=⟨by omega,by grind⟩
  have i0:m19.get mm.n=.cells x.c 137 none:=q0;have r0:=b0.cells (hx.cells g1);rw[cd,ae,C0 m19 r0,ae,dq,ae,(CE i0).2.1,ae];have⟨ov,s0,hc,d0,u0⟩:=Ro (m:=m19) hX (h.aG ((g0.trans hx).trans b0)) hP x.un;refine aH hc ?_;rw[G0]at u0⊢;obtain⟨w,rfl,hw⟩:=u0;rw[aJ,aJ];simp only[aaY,aaX,ae];refine aw λk1 O0 v0 P0=>?_;refine aD df v0 rfl rfl (Un.cM hw.one) λl0 S0 y0 a1=>?_;have e0:Ext s0 l0:=⟨by omega,by grind⟩
  have z0:l0.get s0.n=.cells (u.c w) 60 none:=y0;have a0:=e0.cells (d0.cells i0);have H0:=d0.n;refine bA (λvs m' lo=>vs=[aey]/\m'=l0/\m.n<=lo) (λR hR=>?_) ?_
  ·rw[bE,ae,ak];show gG false _ _;rw[aT,(CE a0).2.2.2.2,ae];refine aH (Jx hX x) ?_;rw[hM.ok x k0,bE,ae,ak];show gG false _ _;rw[aT,cg,ae,(CE a0).1,ae,cE,ae,ak]
   have m0:¬x.id<=Hy ms i:=by
    cases i with
    |zero=>have:=hM.ok x k0;unfold Aw cW at this;simp only[aa3,abm]at this;show¬x.id<= -1;omega
    |succ j=>
     obtain⟨y,hy⟩:∃a,ms[j]?=some a:=⟨_,qz⟩
     have e:Hy ms (j+1)=y.id:=by show(match ms[j]? with |some x=>x.id |none=> -1)=y.id;rw[hy]
     rw[e];have h1:=(aa0.1 hy)
     have h2:=(aa0.1 h0)
     have:=abw.1 hM.uS j (j+1) (by omega) j0 (by omega);rw[h1.2,h2.2]at this;omega
   rw[abt m0,aT,eH,ae,(CE a0).2.2.1,ae,bL,ae,(kb z0).2.2.2.1,ae,(hw.aG e0).len cF,aA,cO,ae];exact hR _ _ _ ⟨by grind,rfl,by omega⟩
  rintro _ l1 b1 ⟨rfl,rfl,n0⟩;rw[aE,ak,aT,cg,ae,(CE a0).1,ae,aS,ae,wrap64];exact⟨i+1,by omega,by simp[Hy,h0],by omega,((hx.trans b0).trans d0).trans e0,n0⟩
 have I0:i=ms.length:=by
  have:¬(i:Int)< (ms.length:Int):=by grind
  omega
 subst I0;rw[ae,o0 mm (hx.cells g1),ae,((hm.aG g0).aG hx).len dQ,aA,cE,ae];refine⟨?_,D0⟩;rw[VF];rfl
theorem uR(hX:cy X){l:List UW}{v vm:aes}{ms:List Mk}(h:cY m l v)(hP:cx (bR l))(hm:Sl m ms vm)(hM:im (bR l) ms):C X (.func 91) [.agg #[v,vm]] m m.n aex m:=by
 have hlen:l.length<=12:=by have:=hP.len;rw[cI]at this;exact this
 refine Cl.fl hX (aaU func91) ?_;rw[F91];dsimp only[δ,ε,ρ,υ,ψ,ω];refine aw λm1 g0 b0 d0=>?_;have g1:m1.get m.n=.cells [v,vm] 33 none:=b0;have a0:Ext m m1:=⟨by omega,d0⟩
 unfold ptrTo;refine bA (λvs m' lo=>vs=[aex]/\m.n<=lo) (λR hR=>?_) ?_
 ·rw[cd,ae,show ah TE m1 30 (aeq m.n (0+0))=some (.agg #[v]) by rw[ew,aP (n:=1) g1 (by show 0+0+1<=2;decide)];rfl,ae];refine aH (AH hX (h.aG a0) (by omega)) ?_;rw[fB hP,ak,bH,show ah TE m1 33 (aeq m.n 0)=some (.agg #[v,vm]) by rw[jj,aP (n:=2) g1 (by show 0+2<=2;decide)];rfl,ae];refine aH (Jo hX (h.aG a0) hP (hm.aG a0) hM) ?_;exact hR _ _ _ ⟨rfl,by omega⟩
 rintro _ m' lo ⟨rfl,e0⟩;rw[aE];exact⟨rfl,e0⟩
end
section
variable {X:aM} {m:M}
theorem mO(hX:cy X){c n:Int}(hc:ka c)(hn:0 < n):C X (.func 125) [aev c,aev n] m m.n (aev (dO c n)) m:=by refine Cl.fl hX (aaU func125) ?_;rw[aal];dsimp only[η,ο,χ];exact mM hc hn (P:=λv=>bz [v]=aev (dO c n)/\m.n<=m.n) ⟨rfl,aaV _⟩
structure I4 where
 a:Int
 b:Int
 c:Int
 d:Int
def I4.c'(x:I4):aet:=[.int .i64 x.a,.int .i64 x.b,.int .i64 x.c,.int .i64 x.d]
def I4.ok(x:I4):Prop:=ka x.a/\ka x.b/\ka x.c/\ka x.d
instance:aZ I4 where
 ty:=153
 sz:=4
 agg:=true
 dd:=[]
 rep _ x cs:=cs=x.c'
 pos:=by decide
 one:=by grind
 len:=by rintro _ _ _ rfl;rfl
 ee:=by rintro _ _ _ rfl;rfl
 bs:=by grind
theorem xQ:oO TE 23 153 I4:=⟨ag.t23,ag.t153,by kernel_rfl,⟨_,rfl⟩,rfl,by kernel_rfl,rfl,rfl⟩
theorem WS{l:List I4}{v:aes}(h:oG m l v){i:Nat}{x:I4}(hx:l[i]?=some x):∃p,an TE 23 v (aev i)=some p/\ah TE m 153 p=some (.agg x.c'.toArray):=by have⟨p,cs,e1,e2,e3⟩:=h.index xQ (k:=.i64) hx;have e3:cs=x.c':=e3;subst e3;exact⟨p,e1,e2⟩
theorem NG{b o:Nat}{k:IntKind}{i:Nat}(hi:i < 4):an TE 153 (aeq b o) (.int k i)=some (aeq b (o+i)):=by rcases(show i=0\/i=1\/i=2\/i=3 by omega)with rfl |rfl |rfl |rfl <;>kernel_rfl
def mW(ms:List Mk)(x:Mk):List Mk:=(ms.filter λy=>decide (y.id < x.id))++x::(ms.filter λy=>decide (x.id < y.id))
def jm(ms:List Mk)(x:Mk):List Mk:=(ms.filter λy=>decide (y.id < x.id))++(if(ms.filter λy=>decide (x.id < y.id))=[]then []else x::(ms.filter λy=>decide (x.id < y.id)))
theorem CB{ms:List Mk}{x y:Mk}(b0:y.id≠x.id)(a0:∀z∈ms,z.id < y.id):
  jm (ms++ [y]) x=if(ms.filter λz=>decide (x.id < z.id))=[]/\x.id < y.id then jm ms x++ [x]++ [y]else jm ms x++ [y]:=by
 unfold jm;rw[abB,abB];by_cases h:x.id < y.id
 ·have h2:¬y.id < x.id:=by omega
  simp_all
 ·have h2:y.id < x.id:=by omega
  have he:(ms.filter λz=>decide (x.id < z.id))=[]:=by
   rw[acU]
   grind
  grind
theorem Ez(ms:List Mk)(x:Mk):(jm ms x).length<=ms.length+1:=by
 unfold jm
 have:(ms.filter λy=>decide (y.id < x.id)).length+(ms.filter λy=>decide (x.id < y.id)).length<=ms.length:=by
  induction ms with
  |nil=>simp
  |cons a r ih=>
   grind
 grind
theorem QU{ms:List Mk}{x:Mk}:mW ms x=if(ms.filter λy=>decide (x.id < y.id))=[]then jm ms x++ [x]else jm ms x:=by
 unfold mW jm
 grind
theorem yH(ms:List Mk)(x:Mk):(mW ms x).length<=ms.length+1:=by
 have:(ms.filter λy=>decide (y.id < x.id)).length+(ms.filter λy=>decide (x.id < y.id)).length<=ms.length:=by
  induction ms with
  |nil=>simp
  |cons a r ih=>
   grind
 unfold mW
 grind
theorem QT{us:List Un}{ms:List Mk}{x:Mk}(h:im us ms)(hl:ms.length < 20)(hx:Aw x)(hu:∃u∈us,u.id=x.un/\x.side < u.shape.length):im us (mW ms x):=by
 have hm:∀y∈mW ms x,y=x\/y∈ms:=by
  intro y hy
  unfold mW at hy
  grind
 refine⟨by have:=yH ms x;omega,?_,λy hy=>?_,λy hy=>?_⟩
 ·unfold mW
  rw[ab2,ab4]
  refine⟨h.uS.filter _,⟨by grind,h.uS.filter _⟩,λa ha b hb=>?_⟩
  grind
 ·rcases hm y hy with rfl |hy;·exact hx
  exact h.ok y hy
 rcases hm y hy with rfl |hy;·exact hu
 exact h.un y hy
theorem Tg{x:Mk}:aI TE m 31 1 [(0,x.v)]=some (.slice (some ⟨m.n,0,none⟩) 1 1,m.push (.cells x.c 137 none)):=by kernel_rfl
theorem push_mk{n1:Nat}{acc:List Mk}{r:aes}{x:Mk}(hw:Ow n1 m acc r)(hn:n1<=m.n)(e0:acc.length < 1000){P:M->aes->Prop}
  (hP:∀r' m2,Ow n1 m2 (acc++ [x]) r'->m.n<=m2.n->(∀c,c < n1->m2.get c=m.get c)->n1<=m2.low->P m2 r'):
  aR (aI TE m 31 1 [(0,x.v)]) λa m1=>aR (az TE (M.wl m1 (M.n m1)) .append [31,31] [r,a]) λr' m2=>P m2 r':=by
 rw[Tg,aA];obtain⟨m1,a0⟩:∃y,y=m.push (.cells x.c 137 none):=⟨_,rfl⟩
 rw[<-a0];have b0:Ext m m1:=by rw[a0];exact Ext.refl.push
 have g0:m1.n=m.n+1:=by rw[a0];rfl
 have d0:m1.get m.n=.cells x.c 137 none:=by rw[a0];exact M.aY
 obtain⟨r',m2,e1,h1,h2,h3,h4⟩:=(hw.aG b0).append uU (by simp[aZ.dd]) (gH d0 rfl) (by omega) (by grind);rw[e1,aA];exact hP r' m2 h1 (by have:=h2.n;omega) (λc hc=>by rw[h2.get c hc,b0.get c (by omega)]) h3
theorem Ba(hX:cy X){ms:List Mk}{vm:aes}{x:Mk}(hm:Sl m ms vm)(E0:ms.Pairwise λa b=>a.id < b.id)(hl:ms.length<=20):
  ∃m' r b,C X (.func 126) [vm,x.v] m m.n (.tuple #[r,.bool b]) m'/\Ext m m'/\((b=false/\r=aew/\(ms.any λy=>decide (y.id=x.id)))\/(b/\(ms.any λy=>decide (y.id=x.id))=false/\Ow m.n m' (mW ms x) r)):=by
 have key:=Cl.gen (E:=TE) (X:=X) (f:=126) (args:=[vm,x.v]) (m:=m) (R:=λv' m' b=>b=m.n/\Ext m m'/\∃r b,v'=.tuple #[r,.bool b]/\((b=false/\r=aew/\(ms.any λy=>decide (y.id=x.id)))\/(b/\(ms.any λy=>decide (y.id=x.id))=false/\Ow m.n m' (mW ms x) r))) (hX.no _ rfl) (aaU func126) rfl ?_
 ·obtain⟨v',m',b,hc,rfl,hx,r,b',rfl,h⟩:=key;exact⟨m',r,b',hc,hx,h⟩
 rw[aak];dsimp only[δ,ε,ζ,η,κ,ν,ο,ρ,υ,χ,ω];refine aw λm1 v1 O0 P0=>?_;have g1:m1.get m.n=.cells x.c 137 none:=O0;have u0:Ext m m1:=⟨by omega,P0⟩
 unfold ptrTo;refine Lp.intro (γ:=Nat) (λi=>ms.length-i) (λi vs mm lo=>∃r,vs=[aew,aey,r,.bool (!decide (((ms.take i).filter λy=>decide (x.id < y.id))=[])),aev i]/\i<=ms.length/\m1.n<=mm.n/\(∀c,c < m1.n->mm.get c=m1.get c)/\m.n<=lo/\Ow m1.n mm (jm (ms.take i) x) r/\∀y∈ms.take i,y.id≠x.id) 0 ⟨_,rfl,aa6 _,aaV _,λ_ _=>rfl,aaV _,Ow.nil,λy hy=>(by grind)⟩ ?_;rintro i vs mm lo ⟨r,rfl,hi,j0,F0,v0,k0,S0⟩;have y0:Sl mm ms vm:=(hm.aG u0).aG ⟨j0,F0⟩;have gx:mm.get m.n=.cells x.c 137 none:=by grind
 rw[aE,aE,aE,aE,aE,y0.len dQ,aA,aQ,ae,ak];have G0:=Ez (ms.take i) x;rw[abP]at G0;refine av (λz0=>?_) (λw1=>?_)
 ·have z0:i < ms.length:=by grind
  obtain⟨y,l0⟩:∃a,ms[i]?=some a:=⟨_,aaW z0⟩
  have⟨b0,o0,bc,g0,cs,e0,H0,A0,_,b1⟩:=y0.gM dQ (k:=.i64) l0;have A0:cs=y.c:=A0;subst A0
  have B0:∀z∈ms.take i,z.id < y.id:=by
   intro z hz
   have⟨j,hj⟩:=abi hz
   have I0:j < i:=by
    grind
   rw[acb I0]at hj
   have h1:=aa0.1 hj
   have h2:=aa0.1 l0
   have:=abw.1 E0 j i h1.1 z0 I0
   grind
  have⟨a0,c1,ly⟩:=y0.vN (k:=.i64) l0;obtain rfl:a0=aeq b0 o0:=Option.some.inj (c1.symm.trans e0);have J0:bc[o0+0]?=some (aev y.id):=by rw[b1 0 (by decide)];rfl
  have K0:ms.take (i+1)=ms.take i++ [y]:=by rw[abg,l0];rfl
  rw[e0,ae,cg,ae,show ah TE mm 3 (aeq b0 (o0+0))=some (aev y.id) by rw[bO,aL H0,J0],ae,cg,ae,(CE gx).1,ae,aW,ae,ak];refine av (λheq=>?_) (λheq=>?_);·exact .inl ⟨rfl,v0,rfl,.refl,_,_,rfl,.inl ⟨rfl,rfl,ab8.2 ⟨y,aa2 l0,heq⟩⟩⟩
  have heq:y.id≠x.id:=aaZ heq;have h0:=CB heq B0;rw[<-K0]at h0;refine bA (λvs m' d1=>vs=[.bool (decide (((ms.take i).filter λz=>decide (x.id < z.id))=[]/\x.id < y.id))]/\m'=mm/\m.n<=d1) (λR hR=>?_) ?_
  ·rw[bE,ae,ak,aej];refine av (λh=>?_) (λh=>?_)
   ·have h:=aa1 h
    rw[ae,cg,ae,show ah TE mm 3 (aeq b0 (o0+0))=some (aev y.id) by rw[bO,aL H0,J0],ae,ae,(CE gx).1,ae,bX,ae]
    refine hR _ _ _ ⟨?_,rfl,v0⟩
    congr 2
    rw[decide_eq_decide]
    exact⟨λq=>⟨h,q⟩,λq=>q.2⟩
   have h:=aaZ h;refine hR _ _ _ ⟨?_,rfl,v0⟩;rw[abt λq=>h q.1]
  rintro _ L0 u1 ⟨rfl,rfl,i1⟩;rw[aE,ak]
  have n0:∀d0:M,(∀c,c < m1.n->d0.get c=L0.get c)->m1.n<=d0.n->ah TE d0 137 (aeq b0 o0)=some y.v:=λd0 hk C0=>by
   have j1:Sl d0 ms vm:=(hm.aG u0).aG ⟨C0,by grind⟩
   have⟨a1,e1,l1⟩:=j1.vN (k:=.i64) l0
   grind
  have s0:∀z∈ms.take (i+1),z.id≠x.id:=by
   grind
  refine av (λh=>?_) (λh=>?_)
  ·have h:=aa1 h;rw[aa5 h]at h0;rw[(CE gx).2.2.2.2,ae];refine push_mk (x:=x) k0 j0 (by omega) λq0 r0 m0 n41 D0 N0=>?_;rw[ae,n0 r0 D0 (by omega),ae];refine push_mk (x:=y) m0 (by omega) (by grind) λk1 y1 o1 n47 z1 A1=>?_;rw[aS,ae,wrap64];refine⟨i+1,by omega,k1,?_,by omega,by omega,by grind,by omega,?_,s0⟩;·rw[K0,abB,abt (by grind)];rfl
   rw[h0];exact o1
  have h:=aaZ h;rw[aa4 h]at h0;rw[ae,n0 L0 (λ_ _=>rfl) j0,ae];refine push_mk (x:=y) k0 j0 (by omega) λq0 r0 m0 n41 D0 N0=>?_;rw[aS,ae,wrap64];refine⟨i+1,by omega,q0,?_,by omega,by omega,λc hc=>by grind,by omega,?_,s0⟩
  ·have e:decide (((ms.take (i+1)).filter λy=>decide (x.id < y.id))=[])=decide (((ms.take i).filter λy=>decide (x.id < y.id))=[]):=by
    simp_all
   rw[e];rfl
  rw[h0];exact m0
 have p1:i=ms.length:=by
  grind
 subst p1;rw[abD]at k0 S0⊢;rw[abD]at G0;have i0:= @QU ms x;have p0:(ms.any λy=>decide (y.id=x.id))=false:=acP.2 λy hy=>by grind
 have fin:∀(d0:M) (r':aes),Ow m1.n d0 (mW ms x) r'->m1.n<=d0.n->(∀c,c < m1.n->d0.get c=m1.get c)->bF (bz [r',aex])=false/\Ext m d0/\Ow m.n d0 (mW ms x) r':=λd0 r' hw C0 r1=>by
  refine⟨?_,u0.trans ⟨C0,r1⟩,hw.mono (by omega)⟩;rcases hw with⟨rfl,he⟩ |⟨b,cs,rfl,_⟩;·unfold mW at he;simp at he
  simp[bz,bF,dw,bI]
 rw[bE,ae,ak,aej];refine av (λh=>?_) (λh=>?_)
 ·have h:=aa1 h;rw[aa5 h]at i0;rw[(CE gx).2.2.2.2,ae];refine push_mk (x:=x) k0 j0 (by omega) λq0 r0 m0 n41 D0 N0=>?_;rw[<-i0]at m0;obtain⟨f1,f2,f3⟩:=fin r0 q0 m0 (by omega) (λc hc=>by grind);exact .inr ⟨.inl f1,by omega,f2,_,_,rfl,.inr ⟨rfl,p0,f3⟩⟩
 have h:=aaZ h;rw[aa4 h]at i0;rw[<-i0]at k0;have⟨f1,f2,f3⟩:=fin mm r k0 j0 F0;exact .inr ⟨.inl f1,by omega,f2,_,_,rfl,.inr ⟨rfl,p0,f3⟩⟩
theorem Pm(hX:cy X){ms:List Mk}{vm:aes}{x:Mk}(hm:Sl m ms vm)(a0:ms.Pairwise λa b=>a.id < b.id)(hl:ms.length<=20):
  ∃m' r b,C X (.func 126) [vm,x.v] m m.n (.tuple #[r,.bool b]) m'/\Ext m m'/\(b->Ow m.n m' (mW ms x) r):=by
 have⟨m',r,b,hc,hx,h⟩:=Ba (x:=x) hX hm a0 hl
 grind
end
section
open Go Go.D Go.ChangeShapes Go.WideShapes Go.ChangeAt Go.RowKit Go.Proofs.Tryz
theorem wD:Tryz.prog.underlying 23=some (.slice 153):=by kernel_rfl
theorem SI:Tryz.prog.underlying 153=some (.array 4 3):=by kernel_rfl
section
variable {H:Type} {enc:TypeId×aes->H} {W W':World} {sp:Nat->Bool} {held:Bool} {base:Nat}
theorem HM:∀fuel cs x,DataW.trod enc Tryz.prog W 0 sp held fuel 153 cs=some x->∃y:I4,y.ok/\(∀m,aZ.rep m y cs)/\∀u∈cs,bI u:=by
 intro fuel cs x h
 obtain⟨l,rfl,hl,hr⟩:=HA SI (by kernel_rfl) h
 match l,hl,hr with
 |[a,b,c,d],_,hr=>refine⟨⟨a,b,c,d⟩,⟨hr _ (by simp),hr _ (by simp),hr _ (by simp),hr _ (by simp)⟩,λm=>rfl,λu hu=>?_⟩;obtain⟨z,_,rfl⟩:=abF.1 hu;rfl
theorem P5{v:aes}{d:DataW H}{ps:List MemPlace}(hb:Below W.heap.size W W')(h:DataW.Trod enc Tryz.prog W 0 (λ_=>true) true 25 v d ps)(a0:∀x∈ps,x.block < W.heap.size)(sp:Nat->Bool)(hs:∀x∈ps,sp x.block):DataW.Trod enc Tryz.prog W' 0 sp true 25 v d ps:=
 WideElems.Trod_stays laidOut (by kernel_rfl) (aa1 (by kernel_rfl)) h (λx hx=>hb.same (a0 x hx)) hs
end
end
section
section
variable {X:aM}{x0 x1 x2:aes}{m:M}{R:aet->M->Nat->Prop}{W:Words}
theorem Zq:dU TE (aO TE X) f224 [x0] m R=ρ m x0 137 λa=>jn (λb=>ε 137 (υ m) 0 λc=>δ a 3 c λc=>ψ X 301 [c,χ 0,χ 99] a λa c d=>aU a (ε 137 (υ m) 1 λa=>δ c 3 a λa=>ψ X 301 [a,χ 0,χ 99] c λa c f=>aU a (ε 137 (υ m) 2 λa=>δ c 3 a λa=>ψ X 301 [a,χ (-2),χ 7] c λa c g=>aU a (ε 137 (υ m) 3 λa=>δ c 3 a λa=>ψ X 301 [a,χ 1,χ 5] c λa c h=>b [a] c (Δ m.n d f g h)) (b [aey] c (Γ m.n d f g))) (b [aey] c (ω m.n d f))) (b [aey] c (min m.n d))) (λa b c=>un a λa _=>R [a] b c):=by kernel_rfl
theorem Y8:dU TE (aO TE X) f301 [x0,x1,x2] m R=jn (λa=>η .geq 3 x0 x1 λb=>aU b (η .leq 3 x0 x2 λb=>a [b] m m.n) (a [aey] m m.n)) (λa b c=>un a λa _=>R [a] b c):=by kernel_rfl
theorem Y7:dU TE (aO TE X) f302 [x0] m R=ρ m x0 60 λa=>jn (λb=>ε 60 (υ m) 1 λc=>δ a 3 c λc=>η .eql 3 c (χ 0) λc=>aU c (ε 60 (υ m) 2 λc=>δ a 3 c λc=>η .eql 3 c (χ 0) λc=>aU c (ε 60 (υ m) 3 λc=>δ a 58 c λc=>κ a .len [58] [c] λc _=>η .eql 3 c (χ 0) λc=>aU c (ε 60 (υ m) 4 λc=>δ a 3 c λc=>η .eql 3 c (χ 0) λc=>aU c (ε 60 (υ m) 5 λc=>δ a 3 c λc=>η .eql 3 c (χ 0) λc=>b [c] a m.n) (b [aey] a m.n)) (b [aey] a m.n)) (b [aey] a m.n)) (b [aey] a m.n)) (λa b c=>un a λa _=>R [a] b c):=by kernel_rfl
theorem Zn:dU TE W f227 [x0] m R=aaP W m x0 184 λa=>W.jn (λb=>aaG W 184 (aaR m) 1 λc=>aaF W a 60 c λc=>aaT W 302 [c] a λa c d=>aU a (aaG W 184 (aaR m) 1 λa=>aaG W 60 a 0 λa=>aaF W c 3 a λa=>aaI W .eql 3 a (aaS 0) λa=>b [a] c (min m.n d)) (b [aey] c (min m.n d))) (λa b c=>W.un a λa _=>W.jn (λa=>aaG W 184 (aaR m) 3 λd=>aaF W b 3 d λd=>aaI W .eql 3 d (aaS 0) λd=>aU d (aaG W 184 (aaR m) 4 λd=>aaF W b 3 d λd=>aaI W .eql 3 d (aaS 0) λd=>a [d] b c) (a [aey] b c)) (λb c d=>W.un b λb _=>aaG W 184 (aaR m) 5 λf=>aaF W c 137 f λf=>aaJ W 137 [] λg=>aaI W .eql 137 f g λf=>aaG W 184 (aaR m) 0 λg=>aaF W c 3 g λg=>aaI W .eql 3 g (aaS 1) λh=>aU h (W.jn (λa=>aaG W 184 (aaR m) 1 λg=>aaF W c 60 g λg=>aaT W 172 [g] c λc g h=>aU c (aaG W 184 (aaR m) 2 λc=>aaF W g 3 c λc=>aaI W .eql 3 c (aaS 0) λc=>aU c (aU b (a [f] g (min d h)) (a [aey] g (min d h))) (a [aey] g (min d h))) (a [aey] g (min d h))) (λa b c=>W.un a λa _=>R [a] b c)) (aaI W .eql 3 g (aaS 2) λh=>aU h (W.jn (λg=>aaG W 184 (aaR m) 2 λh=>aaF W c 3 h λh=>aaT W 301 [h,aaS 0,aaS 99] c λc h i=>aU c (aU a (aU b (g [f] h (min d i)) (g [aey] h (min d i))) (g [aey] h (min d i))) (g [aey] h (min d i))) (λa b c=>W.un a λa _=>R [a] b c)) (aaI W .eql 3 g (aaS 3) λh=>aU h (W.jn (λa=>aaG W 184 (aaR m) 2 λb=>aaF W c 3 b λb=>aaT W 301 [b,aaS 0,aaS 99] c λb c g=>aU b (aaG W 184 (aaR m) 1 λb=>aaF W c 60 b λb=>aaT W 302 [b] c λb c h=>aU b (aaG W 184 (aaR m) 1 λb=>aaG W 60 b 0 λb=>aaF W c 3 b λb=>aaT W 301 [b,aaS 0,aaS 99] c λb c i=>aU b (aaG W 184 (aaR m) 1 λb=>aaG W 60 b 0 λb=>aaF W c 3 b λb=>aaG W 184 (aaR m) 2 λj=>aaF W c 3 j λj=>aaI W .neq 3 b j λb=>aU b (aaG W 184 (aaR m) 3 λb=>aaF W c 3 b λb=>aaT W 301 [b,aaS 0,aaS 7] c λb c j=>aU b (aaG W 184 (aaR m) 4 λb=>aaF W c 3 b λb=>aaT W 301 [b,aaS 0,aaS 7] c λb c k=>aU b (aaG W 184 (aaR m) 3 λb=>aaF W c 3 b λb=>aaG W 184 (aaR m) 4 λl=>aaF W c 3 l λl=>aaI W .neq 3 b l λb=>aU b (a [f] c (Θ d g h i j k)) (a [aey] c (Θ d g h i j k))) (a [aey] c (Θ d g h i j k))) (a [aey] c (Δ d g h i j))) (a [aey] c (Γ d g h i))) (a [aey] c (Γ d g h i))) (a [aey] c (ω d g h))) (a [aey] c (min d g))) (λa b c=>W.un a λa _=>R [a] b c)) (aaI W .eql 3 g (aaS 4) λh=>aU h (W.jn (λg=>aaG W 184 (aaR m) 2 λh=>aaF W c 3 h λh=>aaT W 301 [h,aaS 0,aaS 99] c λc h i=>aU c (aU a (aaG W 184 (aaR m) 3 λa=>aaF W h 3 a λa=>aaT W 301 [a,aaS (-40),aaS 40] h λa c h=>aU a (aaG W 184 (aaR m) 4 λa=>aaF W c 3 a λa=>aaT W 301 [a,aaS (-40),aaS 40] c λa c j=>aU a (aaO W .not b λa=>aU a (g [f] c (Γ d i h j)) (g [aey] c (Γ d i h j))) (g [aey] c (Γ d i h j))) (g [aey] c (ω d i h))) (g [aey] h (min d i))) (g [aey] h (min d i))) (λa b c=>W.un a λa _=>R [a] b c)) (aaI W .eql 3 g (aaS 5) λh=>aU h (W.jn (λf=>aaG W 184 (aaR m) 5 λg=>aaF W c 137 g λg=>aaT W 224 [g] c λc g h=>aU c (aaG W 184 (aaR m) 2 λc=>aaF W g 3 c λc=>aaI W .eql 3 c (aaS 0) λc=>aU c (aU a (f [b] g (min d h)) (f [aey] g (min d h))) (f [aey] g (min d h))) (f [aey] g (min d h))) (λa b c=>W.un a λa _=>R [a] b c)) (aaI W .eql 3 g (aaS 6) λh=>aU h (aU h (W.jn (λg=>aaG W 184 (aaR m) 2 λh=>aaF W c 3 h λh=>aaT W 301 [h,aaS 0,aaS 99] c λc h i=>aU c (aU a (aU b (g [f] h (min d i)) (g [aey] h (min d i))) (g [aey] h (min d i))) (g [aey] h (min d i))) (λa b c=>W.un a λa _=>R [a] b c)) (R [aey] c d)) (aaI W .eql 3 g (aaS 7) λg=>aU g (W.jn (λg=>aaG W 184 (aaR m) 2 λh=>aaF W c 3 h λh=>aaT W 301 [h,aaS 0,aaS 99] c λc h i=>aU c (aU a (aU b (g [f] h (min d i)) (g [aey] h (min d i))) (g [aey] h (min d i))) (g [aey] h (min d i))) (λa b c=>W.un a λa _=>R [a] b c)) (R [aey] c d))))))))):=by kernel_rfl
theorem ZR:dU TE (aO TE X) f176 [x0] m R=ρ m x0 33 λa=>jn (λb=>ε 33 (υ m) 0 λc=>δ a 30 c λc=>ψ X 128 [c] a λa c d=>ο .not a λa=>aU a (b [aex] c (min m.n d)) (ε 33 (υ m) 1 λa=>δ c 31 a λa=>κ c .len [31] [a] λa _=>η .gtr 3 a (χ 20) λa=>b [a] c (min m.n d))) (λa b c=>un a λa _=>aU a (R [aey] b c) (Lp (λa b c d=>un b λb f=>un f λf _=>ε 33 (υ m) 1 λg=>δ c 31 g λg=>κ c .len [31] [g] λg _=>η .lss 3 f g λg=>aU g (ε 33 (υ m) 1 λg=>δ c 31 g λg=>ζ 31 g f λg=>δ c 137 g λg=>ς c [χ 0,χ 0,χ 0,χ 0,aey] 137 λh=>ι h 137 (υ c) g λg h=>jn (λa=>δ g 137 (υ c) λb=>ψ X 224 [b] g λb g i=>ο .not b λb=>aU b (a [aex] g (ω d h i)) (η .gtr 3 f (χ 0) λb=>aU b (ε 137 (υ c) 0 λb=>δ g 3 b λb=>ε 33 (υ m) 1 λc=>δ g 31 c λc=>η .sub 3 f (χ 1) λf=>ζ 31 c f λc=>ε 137 c 0 λc=>δ g 3 c λc=>η .leq 3 b c λb=>a [b] g (ω d h i)) (a [aey] g (ω d h i)))) (λd g h=>un d λd _=>aU d (R [aey] g h) (Lp (λd g h i=>un g λg j=>un j λj _=>ε 33 (υ m) 0 λk=>ε 30 k 0 λk=>δ h 28 k λk=>κ h .len [28] [k] λk _=>η .lss 3 j k λk=>aU k (ε 33 (υ m) 0 λa=>ε 30 a 0 λa=>δ h 28 a λa=>ζ 28 a j λa=>δ h 60 a λa=>ς h [χ 0,χ 0,χ 0,aew,χ 0,χ 0] 60 λb=>ι b 60 (υ h) a λa b=>aU g (η .add 3 j (χ 1) λc=>d [aex,c] a (min i b)) (ε 60 (υ h) 0 λf=>δ a 3 f λf=>ε 137 (υ c) 1 λg=>δ a 3 g λg=>η .eql 3 f g λf=>aU f (ε 137 (υ c) 2 λc=>δ a 3 c λc=>ε 60 (υ h) 3 λf=>δ a 58 f λf=>κ a .len [58] [f] λf _=>η .lss 3 c f λc=>η .add 3 j (χ 1) λf=>d [c,f] a (min i b)) (η .add 3 j (χ 1) λc=>d [aey,c] a (min i b)))) (ο .not g λc=>aU c (R [aey] h i) (η .add 3 f (χ 1) λc=>a [b,c] h i))) [aey,χ 0] g h))) (R [aex] c d)) [aey,χ 0] b c)):=by kernel_rfl
theorem Y4:dU TE (aO TE X) f305 [x0,x1] m R=Lp (λa b c d=>un b λb f=>un f λf _=>κ c .len [31] [x0] λg _=>η .lss 3 f g λg=>aU g (ζ 31 x0 f λg=>ε 137 g 1 λg=>δ c 3 g λg=>η .neq 3 g x1 λg=>aU g (ζ 31 x0 f λg=>δ c 137 g λg=>ν c 31 1 [(0,g)] λc g=>κ (M.wl g g.n) .append [31,31] [b,c] λb c=>η .add 3 f (χ 1) λf=>a [b,f] c (min d (M.low c))) (η .add 3 f (χ 1) λf=>a [b,f] c d)) (R [b] c d)) [aew,χ 0] m m.n:=by kernel_rfl
theorem Zm:dU TE (aO TE X) f228 [x0,x1,x2] m R=ν m 31 0 [] λa b=>κ (M.wl b b.n) .append [31,31] [a,x0] λa b=>Lp (λb c d f=>un c λc g=>un g λg h=>un h λh _=>κ d .len [31] [a] λi _=>η .lss 3 h i λi=>aU i (ζ 31 a h λi=>ε 137 i 0 λi=>δ d 3 i λi=>η .eql 3 i x1 λi=>aU i (ζ 31 a h λb=>ε 137 b 4 λb=>δ d 4 b λb=>η .neq 4 b x2 λb=>ζ 31 a h λc=>ε 137 c 4 λc=>ι d 4 c x2 λc d=>R [a,b] c (min f d)) (η .add 3 h (χ 1) λa=>b [c,g,a] d f)) (R [aew,aey] d f)) [aew,aey,χ 0] b (min m.n (M.low b)):=by kernel_rfl
theorem Zl:dU TE (aO TE X) f229 [x0,x1] m R=ρ m x0 33 λa=>ρ a x1 184 λb=>ς b [aew,aew] 33 λc=>ν c 31 0 [] λc d=>ε 33 (υ m) 1 λf=>δ d 31 f λf=>κ (M.wl d d.n) .append [31,31] [c,f] λc d=>θ 33 [(1,c)] λc=>ς d [aew,aew] 33 λf=>ι f 33 (υ d) c λc f=>ε 184 (υ a) 0 λg=>δ c 3 g λg=>η .eql 3 g (χ 1) λg=>aU g (ε 33 (υ m) 0 λg=>δ c 30 g λg=>ε 184 (υ a) 1 λa=>δ c 60 a λa=>ψ X 171 [g,a] c λa c g=>ξ a 0 λh=>ξ a 1 λa=>ε 33 (υ d) 0 λi=>ι c 30 i h λc h=>δ c 33 (υ d) λi=>η .eql 46 a (χ 0) λa=>ι c 33 (υ b) i λc i=>aj (ah TE c 33 (υ b)) λb=>R [b,a] c (Θ m.n (M.low d) f g h i)) (ε 33 (υ m) 0 λg=>δ c 30 g λg=>ε 184 (υ a) 2 λh=>δ c 3 h λh=>ψ X 303 [g,h] c λc g h=>ξ c 0 λi=>ξ c 1 λc=>ς g [χ 0,χ 0,χ 0,aew,χ 0,χ 0] 60 λj=>ι j 60 (υ g) i λi j=>ο .not c λc=>aU c (δ i 33 (υ d) λa=>ι i 33 (υ b) a λa c=>aj (ah TE a 33 (υ b)) λb=>R [b,aey] a (Θ m.n (M.low d) f h j c)) (ε 33 (υ m) 0 λc=>δ i 30 c λc=>ε 184 (υ a) 2 λk=>δ i 3 k λk=>ψ X 304 [c,k] i λc i k=>ξ c 0 λl=>ξ c 1 λ_=>ς i [aew] 30 λc=>ι c 30 (υ i) l λc l=>ε 184 (υ a) 0 λn=>δ c 3 n λn=>η .eql 3 n (χ 2) λo=>aU o (ε 33 (υ m) 1 λg=>δ c 31 g λg=>ε 184 (υ a) 2 λa=>δ c 3 a λa=>ψ X 305 [g,a] c λa c g=>ε 33 (υ d) 1 λn=>ι c 31 n a λa c=>δ a 30 (υ i) λi=>ε 33 (υ d) 0 λn=>ι a 30 n i λa i=>δ a 33 (υ d) λn=>ι a 33 (υ b) n λa n=>aj (ah TE a 33 (υ b)) λb=>R [b,aex] a (Ω m.n (M.low d) f h j k l g c i n)) (η .eql 3 n (χ 4) λn=>aU n (δ c 60 (υ g) λg=>ε 184 (υ a) 3 λn=>δ c 3 n λn=>ε 184 (υ a) 4 λa=>δ c 3 a λa=>ψ X 306 [g,n,a] c λa c g=>ξ a 0 λn=>ξ a 1 λa=>ς c [χ 0,χ 0,χ 0,aew,χ 0,χ 0] 60 λo=>ι o 60 (υ c) n λn o=>η .neq 46 a (χ 0) λa=>aU a (δ n 33 (υ d) λa=>ι n 33 (υ b) a λa c=>aj (ah TE a 33 (υ b)) λb=>R [b,aey] a (Ψ m.n (M.low d) f h j k l g o c)) (δ n 30 (υ i) λa=>δ n 60 (υ c) λc=>ψ X 171 [a,c] n λa c i=>ξ a 0 λn=>ξ a 1 λa=>ε 33 (υ d) 0 λp=>ι c 30 p n λc n=>δ c 33 (υ d) λp=>η .eql 46 a (χ 0) λa=>ι c 33 (υ b) p λc p=>aj (ah TE c 33 (υ b)) λb=>R [b,a] c (YC m.n (M.low d) f h j k l g o i n p))) (δ c 60 (υ g) λn=>ς c [χ 0,χ 0,χ 0,aew,χ 0,χ 0] 60 λo=>ι o 60 (υ c) n λn o=>δ n 60 (υ g) λp=>ς n [χ 0,χ 0,χ 0,aew,χ 0,χ 0] 60 λq=>ι q 60 (υ n) p λp q=>ε 184 (υ a) 1 λr=>ε 60 r 0 λr=>δ p 3 r λr=>ε 60 (υ n) 0 λs=>ι p 3 s r λp r=>ε 60 (υ g) 3 λg=>δ p 58 g λg=>ε 184 (υ a) 3 λs=>δ p 3 s λs=>ε 184 (υ a) 4 λt=>δ p 3 t λt=>ψ X 307 [g,s,t] p λg p s=>ξ g 0 λt=>ξ g 1 λu=>ξ g 2 λg=>ε 60 (υ c) 3 λv=>ι p 58 v t λp t=>ε 60 (υ n) 3 λv=>ι p 58 v u λp u=>η .neq 46 g (χ 0) λg=>aU g (δ p 33 (υ d) λa=>ι p 33 (υ b) a λa c=>aj (ah TE a 33 (υ b)) λb=>R [b,aey] a (aaE m.n (M.low d) f h j k l o q r s t u c)) (ε 33 (υ m) 1 λg=>δ p 31 g λg=>ε 184 (υ a) 2 λa=>δ p 3 a λa=>ψ X 305 [g,a] p λa g p=>ε 33 (υ d) 1 λv=>ι g 31 v a λa g=>δ a 30 (υ i) λi=>δ a 60 (υ c) λc=>ψ X 171 [i,c] a λa c i=>ξ a 0 λv=>ξ a 1 λa=>ς c [aew] 30 λw=>ι w 30 (υ c) v λv w=>η .neq 46 a (χ 0) λa=>aU a (δ v 33 (υ d) λa=>ι v 33 (υ b) a λa c=>aj (ah TE a 33 (υ b)) λb=>R [b,aey] a (Δ (aaE m.n (M.low d) f h j k l o q r s t u p) g i w c)) (δ v 30 (υ c) λa=>δ v 60 (υ n) λc=>ψ X 171 [a,c] v λa c n=>ξ a 0 λv=>ξ a 1 λa=>ε 33 (υ d) 0 λy=>ι c 30 y v λc v=>δ c 33 (υ d) λy=>η .eql 46 a (χ 0) λa=>ι c 33 (υ b) y λc y=>aj (ah TE c 33 (υ b)) λb=>R [b,a] c (Λ (aaE m.n (M.low d) f h j k l o q r s t u p) g i w n v y))))))):=by kernel_rfl
theorem ZI:dU TE (aO TE X) f185 [x0,x1] m R=ρ m x0 33 λa=>ρ a x1 184 λb=>ς b [aew,aew] 33 λc=>jn (λb=>δ c 33 (υ m) λd=>ψ X 176 [d] c λc d f=>ο .not c λc=>aU c (b [aex] d (min m.n f)) (δ d 184 (υ a) λa=>ψ X 227 [a] d λa c d=>ο .not a λa=>b [a] c (ω m.n f d))) (λc d f=>un c λc _=>aU c (θ 33 [] λa=>ι d 33 (υ b) a λa c=>aj (ah TE a 33 (υ b)) λb=>R [b,χ 170] a (min f c)) (ε 33 (υ m) 0 λc=>δ d 30 c λc=>θ 33 [(0,c)] λc=>ς d [aew,aew] 33 λg=>ι g 33 (υ d) c λc g=>ε 184 (υ a) 0 λh=>δ c 3 h λh=>η .eql 3 h (χ 5) λi=>aU i (ε 33 (υ m) 1 λh=>δ c 31 h λh=>ε 184 (υ a) 5 λa=>δ c 137 a λa=>ψ X 126 [h,a] c λa c h=>ξ a 0 λi=>ξ a 1 λa=>ε 33 (υ d) 1 λj=>ι c 31 j i λc i=>jn (λb=>ο .not a λa=>aU a (b [aex] c (Γ f g h i)) (δ c 33 (υ d) λa=>ψ X 176 [a] c λa c d=>ο .not a λa=>b [a] c (Δ f g h i d))) (λa c f=>un a λa _=>aU a (θ 33 [] λa=>ι c 33 (υ b) a λa c=>aj (ah TE a 33 (υ b)) λb=>R [b,χ 170] a (min f c)) (δ c 33 (υ d) λa=>ψ X 184 [a] c λa c d=>ι c 33 (υ b) a λa c=>aj (ah TE a 33 (υ b)) λb=>R [b,χ 0] a (ω f d c)))) (η .eql 3 h (χ 6) λi=>aU i (ε 33 (υ m) 1 λh=>δ c 31 h λh=>ε 184 (υ a) 2 λa=>δ c 3 a λa=>ψ X 228 [h,a,aey] c λa c h=>ξ a 0 λi=>ξ a 1 λa=>ε 33 (υ d) 1 λj=>ι c 31 j i λc i=>jn (λb=>ο .not a λa=>aU a (b [aex] c (Γ f g h i)) (δ c 33 (υ d) λa=>ψ X 176 [a] c λa c d=>ο .not a λa=>b [a] c (Δ f g h i d))) (λa c f=>un a λa _=>aU a (θ 33 [] λa=>ι c 33 (υ b) a λa c=>aj (ah TE a 33 (υ b)) λb=>R [b,χ 170] a (min f c)) (δ c 33 (υ d) λa=>ψ X 184 [a] c λa c d=>ι c 33 (υ b) a λa c=>aj (ah TE a 33 (υ b)) λb=>R [b,χ 0] a (ω f d c)))) (η .eql 3 h (χ 7) λh=>aU h (ε 33 (υ m) 1 λh=>δ c 31 h λh=>ε 184 (υ a) 2 λa=>δ c 3 a λa=>ψ X 228 [h,a,aex] c λa c h=>ξ a 0 λi=>ξ a 1 λa=>ε 33 (υ d) 1 λj=>ι c 31 j i λc i=>jn (λb=>ο .not a λa=>aU a (b [aex] c (Γ f g h i)) (δ c 33 (υ d) λa=>ψ X 176 [a] c λa c d=>ο .not a λa=>b [a] c (Δ f g h i d))) (λa c f=>un a λa _=>aU a (θ 33 [] λa=>ι c 33 (υ b) a λa c=>aj (ah TE a 33 (υ b)) λb=>R [b,χ 170] a (min f c)) (δ c 33 (υ d) λa=>ψ X 184 [a] c λa c d=>ι c 33 (υ b) a λa c=>aj (ah TE a 33 (υ b)) λb=>R [b,χ 0] a (ω f d c)))) (δ c 33 (υ m) λh=>δ c 184 (υ a) λa=>ψ X 229 [h,a] c λa c h=>ξ a 0 λi=>ξ a 1 λa=>ι c 33 (υ d) i λc i=>jn (λb=>ο .not a λa=>aU a (b [aex] c (Γ f g h i)) (δ c 33 (υ d) λa=>ψ X 176 [a] c λa c d=>ο .not a λa=>b [a] c (Δ f g h i d))) (λa c f=>un a λa _=>aU a (θ 33 [] λa=>ι c 33 (υ b) a λa c=>aj (ah TE a 33 (υ b)) λb=>R [b,χ 170] a (min f c)) (δ c 33 (υ d) λa=>ψ X 184 [a] c λa c d=>ι c 33 (υ b) a λa c=>aj (ah TE a 33 (υ b)) λb=>R [b,χ 0] a (ω f d c)))))))):=by kernel_rfl
theorem ZJ:dU TE (aO TE X) f184 [x0] m R=ρ m x0 33 λa=>ς a [aew,aew] 33 λb=>ε 33 (υ m) 0 λc=>δ b 30 c λc=>ψ X 226 [c] b λc d f=>(b.n<=f)/\(ν d 31 0 [] λb d=>ε 33 (υ m) 1 λg=>δ d 31 g λg=>κ (M.wl d d.n) .append [31,31] [b,g] λb d=>θ 33 [(0,c),(1,b)] λb=>ι d 33 (υ a) b λb c=>aj (ah TE b 33 (υ a)) λa=>R [a] b (Γ m.n f (M.low d) c)):=by kernel_rfl
theorem Y6:dU TE (aO TE X) f303 [x0,x1] m R=ρ m x0 30 λa=>ς a [χ 0,χ 0,χ 0,aew,χ 0,χ 0] 60 λb=>Lp (λb c d f=>un c λc g=>un g λg _=>ε 30 (υ m) 0 λh=>δ d 28 h λh=>κ d .len [28] [h] λh _=>η .lss 3 g h λh=>aU h (jn (λa=>ε 30 (υ m) 0 λb=>δ d 28 b λb=>ζ 28 b g λb=>ε 60 b 0 λb=>δ d 3 b λb=>η .eql 3 b x1 λb=>aU b (δ d 30 (υ m) λb=>ψ X 128 [b] d λb c d=>a [b] c (min f d)) (a [aey] d f)) (λd f h=>un d λd _=>aU d (ε 30 (υ m) 0 λb=>δ f 28 b λb=>ζ 28 b g λb=>δ f 60 b λb=>ψ X 219 [b] f λb c d=>ι c 60 (υ a) b λb c=>aj (ah TE b 60 (υ a)) λa=>R [a,aex] b (ω h d c)) (η .add 3 g (χ 1) λa=>b [c,a] f h))) (θ 60 [] λb=>ι d 60 (υ a) b λb c=>aj (ah TE b 60 (υ a)) λa=>R [a,aey] b (min f c))) [aey,χ 0] b m.n:=by kernel_rfl
theorem Y5:dU TE (aO TE X) f304 [x0,x1] m R=ρ m x0 30 λa=>ς a [aew] 30 λb=>δ b 30 (υ m) λc=>ψ X 303 [c,x1] b λb c d=>ξ b 0 λf=>ξ b 1 λb=>ς c [χ 0,χ 0,χ 0,aew,χ 0,χ 0] 60 λg=>ι g 60 (υ c) f λc f=>ο .not b λb=>aU b (θ 30 [] λb=>ι c 30 (υ a) b λb c=>aj (ah TE b 30 (υ a)) λa=>R [a,χ 120] b (Γ m.n d f c)) (ς c [aew] 30 λb=>Lp (λb d f g=>un d λd _=>ε 30 (υ m) 0 λh=>δ f 28 h λh=>κ f .len [28] [h] λh _=>η .lss 3 d h λh=>aU h (ε 30 (υ m) 0 λa=>δ f 28 a λa=>ζ 28 a d λa=>ε 60 a 0 λa=>δ f 3 a λa=>η .neq 3 a x1 λa=>aU a (ε 30 (υ c) 0 λa=>δ f 28 a λa=>ε 30 (υ m) 0 λh=>δ f 28 h λh=>ζ 28 h d λh=>δ f 60 h λh=>ψ X 219 [h] f λh i j=>(f.n<=j)/\(ν i 28 1 [(0,h)] λf h=>κ (M.wl h h.n) .append [28,28] [a,f] λa f=>ε 30 (υ c) 0 λc=>ι f 28 c a λa c=>η .add 3 d (χ 1) λd=>b [d] a (Γ g j (M.low f) c))) (η .add 3 d (χ 1) λa=>b [a] f g)) (δ f 30 (υ c) λb=>ι f 30 (υ a) b λb c=>aj (ah TE b 30 (υ a)) λa=>R [a,χ 0] b (min g c))) [χ 0] b (ω m.n d f)):=by kernel_rfl
theorem aag:dU TE (aO TE X) f130 [x0,x1] m R=ρ m x0 60 λa=>ρ a x1 60 λb=>ς b [χ 0,χ 0,χ 0,χ 0,χ 0,χ 0,χ 0,χ 0] 145 λc=>δ c 60 (υ m) λd=>δ c 60 (υ a) λf=>ψ X 174 [d,f] c λc d f=>ο .not c λc=>aU c (θ 145 [] λa=>ι d 145 (υ b) a λa c=>aj (ah TE a 145 (υ b)) λb=>R [b,aey] a (ω m.n f c)) (ε 60 (υ m) 3 λc=>δ d 58 c λc=>ε 60 (υ a) 3 λg=>δ d 58 g λg=>ψ X 175 [c,g] d λc d g=>ξ c 0 λh=>ξ c 1 λc=>ς d [χ 0,χ 0,χ 0,χ 0] 143 λi=>ι i 143 (υ d) h λh i=>ο .not c λc=>aU c (θ 145 [] λa=>ι h 145 (υ b) a λa c=>aj (ah TE a 145 (υ b)) λb=>R [b,aey] a (Δ m.n f g i c)) (ε 60 (υ m) 0 λc=>δ h 3 c λc=>ε 60 (υ a) 0 λj=>δ h 3 j λj=>δ h 143 (υ d) λd=>ε 60 (υ m) 4 λk=>δ h 3 k λk=>ε 60 (υ a) 4 λl=>δ h 3 l λl=>κ h .max [3,3] [k,l] λk _=>ε 60 (υ m) 5 λl=>δ h 3 l λl=>ε 60 (υ a) 5 λa=>δ h 3 a λa=>κ h .min [3,3] [l,a] λa _=>θ 145 [(0,c),(1,j),(2,d),(3,k),(4,a)] λa=>ι h 145 (υ b) a λa c=>aj (ah TE a 145 (υ b)) λb=>R [b,aex] a (Δ m.n f g i c))):=by kernel_rfl
theorem aah:dU TE (aO TE X) f129 [x0] m R=ρ m x0 60 λa=>ς a [χ 0,χ 0,χ 0,χ 0,χ 0,χ 0,χ 0,χ 0] 145 λb=>δ b 60 (υ m) λc=>ψ X 172 [c] b λb c d=>ο .not b λb=>aU b (θ 145 [] λb=>ι c 145 (υ a) b λb c=>aj (ah TE b 145 (υ a)) λa=>R [a,aey] b (ω m.n d c)) (Lp (λb c d f=>un c λc g=>un g λg _=>ε 60 (υ m) 3 λh=>δ d 58 h λh=>κ d .len [58] [h] λh _=>η .lss 3 g h λh=>aU h (ε 60 (υ m) 3 λa=>δ d 58 a λa=>ζ 58 a g λa=>ε 141 a 1 λa=>δ d 3 a λa=>η .eql 3 a (χ 0) λa=>aU a (ε 60 (υ m) 3 λa=>δ d 58 a λa=>ζ 58 a g λa=>δ d 141 a λa=>ν d 58 1 [(0,a)] λa d=>κ (M.wl d d.n) .append [58,58] [c,a] λa c=>η .add 3 g (χ 1) λd=>b [a,d] c (min f (M.low c))) (η .add 3 g (χ 1) λa=>b [c,a] d f)) (κ d .len [58] [c] λb _=>η .neq 3 b (χ 2) λb=>aU b (θ 145 [] λb=>ι d 145 (υ a) b λb c=>aj (ah TE b 145 (υ a)) λa=>R [a,aey] b (min f c)) (ζ 58 c (χ 0) λb=>δ d 141 b λb=>ζ 58 c (χ 1) λg=>δ d 141 g λg=>θ 143 [(0,b),(1,g)] λb=>ς d [χ 0,χ 0,χ 0,χ 0] 143 λg=>ι g 143 (υ d) b λb g=>ζ 58 c (χ 0) λh=>ε 141 h 0 λh=>δ b 3 h λh=>ζ 58 c (χ 1) λi=>ε 141 i 0 λi=>δ b 3 i λi=>η .gtr 3 h i λh=>aU h (ζ 58 c (χ 1) λh=>δ b 141 h λh=>ζ 58 c (χ 0) λc=>δ b 141 c λc=>θ 143 [(0,h),(1,c)] λc=>ι b 143 (υ d) c λb c=>ε 60 (υ m) 0 λh=>δ b 3 h λh=>δ b 143 (υ d) λd=>ε 60 (υ m) 4 λi=>δ b 3 i λi=>ε 60 (υ m) 5 λj=>δ b 3 j λj=>θ 145 [(0,h),(1,(χ (-1))),(2,d),(3,i),(4,j)] λd=>ι b 145 (υ a) d λb d=>aj (ah TE b 145 (υ a)) λa=>R [a,aex] b (Γ f g c d)) (ε 60 (υ m) 0 λc=>δ b 3 c λc=>δ b 143 (υ d) λd=>ε 60 (υ m) 4 λh=>δ b 3 h λh=>ε 60 (υ m) 5 λi=>δ b 3 i λi=>θ 145 [(0,c),(1,(χ (-1))),(2,d),(3,h),(4,i)] λc=>ι b 145 (υ a) c λb c=>aj (ah TE b 145 (υ a)) λa=>R [a,aex] b (ω f g c))))) [aew,χ 0] c (min m.n d)):=by kernel_rfl
theorem ZS:dU TE (aO TE X) f175 [x0,x1] m R=ς m [χ 0,χ 0,χ 0,χ 0] 143 λa=>jn (λb=>ψ X 220 [x0] a λa c d=>ο .not a λa=>aU a (b [aex] c (min m.n d)) (ψ X 220 [x1] c λa c f=>ο .not a λa=>aU a (b [aex] c (ω m.n d f)) (ψ X 221 [x0,x1] c λa c g=>b [a] c (Γ m.n d f g)))) (λa b c=>un a λa _=>aU a (θ 143 [] λa=>ι b 143 (υ m) a λa b=>aj (ah TE a 143 (υ m)) λd=>R [d,aey] a (min c b)) (Lp (λa b c d=>un b λb f=>un f λf _=>η .leq 3 f (χ 40) λg=>aU g (Lp (λb c d g=>un c λc h=>un h λh _=>η .leq 3 h (χ 40) λi=>aU i (θ 141 [(0,f),(1,h)] λa=>ς d [χ 0,χ 0] 141 λf=>ι f 141 (υ d) a λa f=>jn (λb=>δ a 141 (υ d) λc=>ψ X 222 [x0,c] a λa c h=>η .eql 3 a (χ 0) λa=>aU a (δ c 141 (υ d) λa=>ψ X 222 [x1,a] c λa c d=>η .eql 3 a (χ 0) λa=>b [a] c (Γ g f h d)) (b [aey] c (ω g f h))) (λa f g=>un a λa _=>aU a (δ f 141 (υ d) λa=>ν f 58 1 [(0,a)] λa d=>κ (M.wl d d.n) .append [58,58] [c,a] λa c=>η .add 3 h (χ 1) λd=>b [a,d] c (min g (M.low c))) (η .add 3 h (χ 1) λa=>b [c,a] f g))) (η .add 3 f (χ 1) λb=>a [c,b] d g)) [b,χ 0] c d) (κ c .len [58] [b] λa _=>η .lss 3 a (χ 2) λa=>aU a (θ 143 [] λa=>ι c 143 (υ m) a λa b=>aj (ah TE a 143 (υ m)) λc=>R [c,aey] a (min d b)) (ζ 58 b (χ 0) λa=>δ c 141 a λa=>ς c [χ 0,χ 0] 141 λf=>ι f 141 (υ c) a λa f=>κ a .len [58] [b] λg _=>η .sub 3 g (χ 1) λg=>ζ 58 b g λb=>δ a 141 b λb=>ς a [χ 0,χ 0] 141 λg=>ι g 141 (υ a) b λb g=>Lp (λb d f g=>un d λd h=>un h λh _=>κ f .len [58] [x0] λi _=>η .lss 3 h i λi=>aU i (δ f 141 (υ c) λi=>δ f 141 (υ a) λj=>ζ 58 x0 h λk=>δ f 141 k λk=>ψ X 223 [i,j,k] f λf i j=>η .lss 3 f (χ 0) λf=>aU f (δ i 141 (υ a) λa=>δ i 141 (υ c) λb=>θ 143 [(0,a),(1,b)] λa=>ι i 143 (υ m) a λa b=>aj (ah TE a 143 (υ m)) λc=>R [c,aex] a (ω g j b)) (η .add 3 h (χ 1) λa=>b [d,a] i (min g j))) (δ f 141 (υ c) λb=>δ f 141 (υ a) λa=>θ 143 [(0,b),(1,a)] λa=>ι f 143 (υ m) a λa b=>aj (ah TE a 143 (υ m)) λc=>R [c,aex] a (min g b))) [aey,χ 0] b (ω d f g)))) [aew,χ 0] b c)):=by kernel_rfl
theorem F69:dU TE (aO TE X) f69 [x0] m R=ρ m x0 30 λa=>δ a 30 (υ m) λb=>ψ X 128 [b] a λa b c=>ο .not a λa=>aU a (R [aew] b (min m.n c)) (Lp (λa b c d=>un b λb f=>un f λf _=>ε 30 (υ m) 0 λg=>δ c 28 g λg=>κ c .len [28] [g] λg _=>η .lss 3 f g λg=>aU g (ε 30 (υ m) 0 λg=>δ c 28 g λg=>ζ 28 g f λg=>δ c 60 g λg=>ψ X 129 [g] c λc g h=>ξ c 0 λi=>ξ c 1 λc=>ς g [χ 0,χ 0,χ 0,χ 0,χ 0,χ 0,χ 0,χ 0] 145 λj=>ι j 145 (υ g) i λi j=>aU c (δ i 145 (υ g) λc=>ν i 138 1 [(0,c)] λc g=>κ (M.wl g g.n) .append [138,138] [b,c] λb c=>η .add 3 f (χ 1) λg=>Lp (λb c d g=>un c λc h=>un h λh _=>ε 30 (υ m) 0 λi=>δ d 28 i λi=>κ d .len [28] [i] λi _=>η .lss 3 h i λi=>aU i (ε 30 (υ m) 0 λa=>δ d 28 a λa=>ζ 28 a f λa=>δ d 60 a λa=>ε 30 (υ m) 0 λf=>δ d 28 f λf=>ζ 28 f h λf=>δ d 60 f λf=>ψ X 130 [a,f] d λa f i=>(d.n<=i)/\(ξ a 0 λd=>ξ a 1 λa=>ς f [χ 0,χ 0,χ 0,χ 0,χ 0,χ 0,χ 0,χ 0] 145 λj=>ι j 145 (υ f) d λd j=>aU a (δ d 145 (υ f) λa=>ν d 138 1 [(0,a)] λa d=>κ (M.wl d d.n) .append [138,138] [c,a] λa c=>η .add 3 h (χ 1) λd=>b [a,d] c (Γ g i j (M.low c))) (η .add 3 h (χ 1) λa=>b [c,a] d (ω g i j)))) (η .add 3 f (χ 1) λb=>a [c,b] d g)) [b,g] c (Γ d h j (M.low c))) (η .add 3 f (χ 1) λc=>Lp (λb c d g=>un c λc h=>un h λh _=>ε 30 (υ m) 0 λi=>δ d 28 i λi=>κ d .len [28] [i] λi _=>η .lss 3 h i λi=>aU i (ε 30 (υ m) 0 λa=>δ d 28 a λa=>ζ 28 a f λa=>δ d 60 a λa=>ε 30 (υ m) 0 λf=>δ d 28 f λf=>ζ 28 f h λf=>δ d 60 f λf=>ψ X 130 [a,f] d λa f i=>(d.n<=i)/\(ξ a 0 λd=>ξ a 1 λa=>ς f [χ 0,χ 0,χ 0,χ 0,χ 0,χ 0,χ 0,χ 0] 145 λj=>ι j 145 (υ f) d λd j=>aU a (δ d 145 (υ f) λa=>ν d 138 1 [(0,a)] λa d=>κ (M.wl d d.n) .append [138,138] [c,a] λa c=>η .add 3 h (χ 1) λd=>b [a,d] c (Γ g i j (M.low c))) (η .add 3 h (χ 1) λa=>b [c,a] d (ω g i j)))) (η .add 3 f (χ 1) λb=>a [c,b] d g)) [b,c] i (ω d h j))) (R [b] c d)) [aew,χ 0] b (min m.n c)):=by kernel_rfl
theorem F89:dU TE (aO TE X) f89 [x0,x1] m R=ρ m x0 60 λa=>ρ a x1 60 λb=>jn (λc=>ε 60 (υ m) 0 λd=>δ b 3 d λd=>ε 60 (υ a) 0 λf=>δ b 3 f λf=>η .neq 3 d f λd=>aU d (c [aex] b m.n) (ε 60 (υ m) 1 λd=>δ b 3 d λd=>ε 60 (υ a) 1 λf=>δ b 3 f λf=>η .neq 3 d f λd=>aU d (c [aex] b m.n) (ε 60 (υ m) 2 λd=>δ b 3 d λd=>ε 60 (υ a) 2 λf=>δ b 3 f λf=>η .neq 3 d f λd=>aU d (c [aex] b m.n) (ε 60 (υ m) 4 λd=>δ b 3 d λd=>ε 60 (υ a) 4 λf=>δ b 3 f λf=>η .neq 3 d f λd=>aU d (c [aex] b m.n) (ε 60 (υ m) 5 λd=>δ b 3 d λd=>ε 60 (υ a) 5 λf=>δ b 3 f λf=>η .neq 3 d f λd=>aU d (c [aex] b m.n) (ε 60 (υ m) 3 λd=>δ b 58 d λd=>κ b .len [58] [d] λd _=>ε 60 (υ a) 3 λa=>δ b 58 a λa=>κ b .len [58] [a] λa _=>η .neq 3 d a λa=>c [a] b m.n)))))) (λb c d=>un b λb _=>aU b (R [aey] c d) (Lp (λb c d f=>un c λc g=>un g λg _=>ε 60 (υ m) 3 λh=>δ d 58 h λh=>κ d .len [58] [h] λh _=>η .lss 3 g h λh=>aU h (ε 60 (υ m) 3 λh=>δ d 58 h λh=>ζ 58 h g λh=>δ d 141 h λh=>ε 60 (υ a) 3 λa=>δ d 58 a λa=>ζ 58 a g λa=>δ d 141 a λa=>η .neq 141 h a λa=>aU a (R [aey] d f) (η .add 3 g (χ 1) λa=>b [c,a] d f)) (R [aex] d f)) [aey,χ 0] c d)):=by kernel_rfl
end
end
section
end
section
variable {X:aM} {m:M}
end
section
end
section
def Pl.mv(dx dy:Int)(p:Pl):Pl:=⟨p.x+dx,p.y+dy⟩
def Un.mv(dx dy:Int)(u:Un):Un:={u with shape:=u.shape.map (Pl.mv dx dy)}
end
section
variable {X:aM} {m:M}
theorem OW{a b c d:Int}{e:Bool}:aK TE 137 [(0,.int .i64 a),(1,.int .i64 b),(2,.int .i64 c),(3,.int .i64 d),(4,.bool e)]=some (Mk.mk a b c d e).v:=by kernel_rfl
theorem HH(mm:M):cY mm [] aew:=⟨.nil,λx hx=>(by cases hx),λx hx=>(by cases hx),.inl rfl⟩
theorem OJ{l:List UW}{n c:Nat}(h:cY m l (.slice none n c)):l=[]/\n=0/\c=0:=by
 rcases h.sl with⟨h1,h2⟩ |⟨b,o,c,bc,g,h2,_⟩
 ·grind
 cases h2
theorem Jr(hX:cy X){xs:List I6}{ks:List I4}{vb vk va:aes}(hv:oG m xs vb)(C1:∀x∈xs,x.ok)(hlen:xs.length < 9223372036854775808)(hk:oG m ks vk)(a1:∀x∈ks,x.ok)(D1:ks.length < 9223372036854775808):
  ∃l r ms vm m',C X (.func 65) [.agg #[vb,vk,va]] m m.n (.agg #[r,vm]) m'/\Ext m m'/\cY m' l r/\cx (bR l)/\Sl m' ms vm/\im (bR l) ms:=by
 have key:∃rv m' b,C X (.func 65) [.agg #[vb,vk,va]] m b rv m'/\b=m.n/\Ext m m'/\∃l r ms vm,rv=.agg #[r,vm]/\cY m' l r/\cx (bR l)/\Sl m' ms vm/\im (bR l) ms:=by
  refine Cl.gen (R:=λrv m' b=>b=m.n/\Ext m m'/\∃l r ms vm,rv=.agg #[r,vm]/\cY m' l r/\cx (bR l)/\Sl m' ms vm/\im (bR l) ms) (hX.no _ rfl) (aaU func65) rfl ?_;rw[F65];dsimp only[δ,ε,ζ,η,θ,ι,κ,ξ,ρ,ς,υ,χ,ψ,Ψ,Ω,ω];refine aw λm1 H2 E1 I2=>?_;refine aw λm2 J2 F1 G1=>?_;have K0:Ext m m2:=⟨by omega,by grind⟩
  have g1:m2.get m.n=.cells [vb,vk,va] 25 none:=by rw[G1 _ (by omega)];exact E1
  unfold ptrTo;have H1:∀mm:M,mm.get m.n=.cells [vb,vk,va] 25 none->ah TE mm 22 (aeq m.n (0+0))=some vb:=λmm hh=>by rw[Hv,aL hh];rfl
  have b1:∀mm:M,mm.get m.n=.cells [vb,vk,va] 25 none->ah TE mm 23 (aeq m.n (0+1))=some vk:=λmm hh=>by rw[QM,aL hh];rfl
  rw[pF,ae,H1 m2 g1,ae];have⟨l,r,m6,I1,c1,hF,hP⟩:=Js (m:=m2) hX (hv.aG K0) C1 hlen;refine aH I1 ?_;have K2:=c1.n;have j2:l.length<=12:=by have:=hP.len;rwa[cI]at this
  have or:one r:=hF.sl.one;have cr:=hF.sl.cells;rw[show aK TE 33 [(0,.agg #[r])]=some (.agg #[r,aew]) by rw[zm rfl];rfl,ae];refine aw λm9 L2 J1 M2=>?_;refine aD dV J1 rfl rfl (by show(one r && true)=true;rw[or];rfl) λm10 k2 n0 l2=>?_;have n0:m10.get m6.n=.cells [r,aew] 33 none:=n0;have C0:Ext m6 m10:=⟨by omega,by grind⟩
  have s0:Ext m2 m10:=c1.trans C0;have N2:m10.get m.n=.cells [vb,vk,va] 25 none:=s0.cells g1;have O2:m10.get m1.n=.cells [aew,aew] 33 none:=s0.cells F1;have d1:im (bR l) []:=⟨by simp,.nil,λx hx=>(by cases hx),λx hx=>(by cases hx)⟩
  refine Lp.intro (γ:=Nat) (λi=>8-i) (λi vs mm lo=>∃ms vm,vs=[aev i]/\i<=8/\m10.n<=mm.n/\(∀c,c < m10.n->c≠m6.n->mm.get c=m10.get c)/\m.n<=lo/\mm.get m6.n=.cells [r,vm] 33 none/\Sl mm ms vm/\im (bR l) ms/\ms.length<=i/\(l=[]->ms=[]/\vm=aew)) 0 ⟨[],_,rfl,by omega,aaV _,λ_ _ _=>rfl,by omega,n0,Sl.nil,d1,aa6 _,λ_=>⟨rfl,rfl⟩⟩ ?_;rintro i vs mm lo ⟨ms,vm,rfl,hi,P2,o0,Q2,gS,u0,hM,T2,D0⟩;have gN:mm.get m.n=.cells [vb,vk,va] 25 none:=by grind
  have v0:cY mm l r:=hF.bs λc cs t g hb _=>by have:=M.bk hb;rw[o0 c (by omega) (by omega),C0.get c this,hb]
  have E0:oG mm ks vk:=(hk.aG K0).aG ⟨by omega,λc hc=>by rw[o0 c (by omega) (by omega),s0.get c hc]⟩;have j1:∀(m':M) (w:aes),m'.get m6.n=.cells [r,w] 33 none->ah TE m' 28 (aeq m6.n (0+0+0))=some r:=λm' w hh=>by rw[ez,aL hh];rfl
  rw[aE];refine bA (λvs m' K1=>vs=[.bool (decide (i < ks.length) && decide (i < 8) && decide (0 < l.length))]/\mm=m'/\lo=K1) (λR hR=>?_) ?_
  ·rw[pE,ae,b1 mm gN,ae,E0.len xQ,aA,aQ,ae,ak];refine av (λh=>?_) (λh=>?_)
   ·have h:i < ks.length:=by grind
    rw[aQ,ae,ak];refine av (λh8=>?_) (λh8=>?_)
    ·have h8:i < 8:=by
      have:=aa1 h8
      omega
     rw[cd,ae,bN,ae,j1 mm _ gS,ae,v0.sl.len dt,aA,bX,ae]
     refine hR _ _ _ ⟨?_,rfl,rfl⟩
     rw[abb h,abb h8,abG,abG]
     congr 2
     rw[decide_eq_decide];omega
    have h8:¬i < 8:=by have:=aaZ h8;omega
    exact hR _ _ _ ⟨by grind,rfl,rfl⟩
   have h:¬i < ks.length:=by grind
   exact hR _ _ _ ⟨by grind,rfl,rfl⟩
  rintro _ _ _ ⟨rfl,rfl,rfl⟩;rw[aE,ak];refine av (λh=>?_) (λh=>?_)
  ·simp only[aa3,abm]at h;have⟨⟨L1,a3⟩,b3⟩:=h;obtain⟨y,k1⟩:∃x,ks[i]?=some x:=⟨_,aaW L1⟩
   have⟨y0,y1,y2,y3⟩:=a1 y (aa2 k1);rw[pE,ae,b1 mm gN,ae];have⟨p,e1,e2⟩:=WS E0 k1;rw[e1,ae,e2,ae];refine aw λc3 o2 l1 u2=>?_;refine aD SP l1 rfl rfl rfl λm0 v2 o1 w2=>?_;have j0:Ext mm m0:=⟨by omega,by grind⟩
   have gy:m0.get mm.n=.cells y.c' 153 none:=o1;have F0:=j0.cells gS;have p0:∀(m':M) (j:Nat) (z:Int),m'.get mm.n=.cells y.c' 153 none->y.c'[j]?=some (aev z)->ah TE m' 3 (aeq mm.n (0+j))=some (aev z):=λm' j z hh hj=>by rw[bO,aL hh,abA,hj]
   have i0:an TE 153 (aeq mm.n 0) (aev 0)=some (aeq mm.n (0+0)):=NG (i:=0) (by decide);have i1:an TE 153 (aeq mm.n 0) (aev 1)=some (aeq mm.n (0+1)):=NG (i:=1) (by decide);have i2:an TE 153 (aeq mm.n 0) (aev 2)=some (aeq mm.n (0+2)):=NG (i:=2) (by decide);have i3:an TE 153 (aeq mm.n 0) (aev 3)=some (aeq mm.n (0+3)):=NG (i:=3) (by decide);have G0:=v0.aG j0;simp only[cd,bN,cL,i0,i1,i2,i3,ae];rw[j1 m0 _ F0,ae,p0 m0 1 y.b gy rfl,ae,ae,G0.sl.len dt,aA];have N1:=kQ (c:=y.b) (show(0:Int)< (l.length:Int) by omega);refine aH (mO hX y1 (show(0:Int)< (l.length:Int) by omega)) ⟨aaV _,?_⟩;obtain⟨j,hj⟩:∃j:Nat,dO y.b (l.length:Int)=(j:Int):=⟨(dO y.b (l.length:Int)).toNat,by omega⟩
   rw[hj];rw[hj]at N1;obtain⟨u,hu⟩:∃x,l[j]?=some x:=⟨_,qz⟩
   have L0:=aa2 hu;have⟨q,q1,q2,ou⟩:=G0.sl.fx (k:=.i64) hu;rw[q1,ae,q2,ae];refine aw λd3 z2 p1 A2=>?_;refine aD df p1 rfl rfl (Un.cM ou) λd0 B2 r1 C2=>?_;have k0:Ext m0 d0:=⟨by omega,by grind⟩
   have gu:d0.get m0.n=.cells (u.u.c u.w) 60 none:=r1;have l0:=k0.cells gy;have u1:=k0.cells F0;have H0:=hP.val u.u (by unfold bR;exact acH L0);have e3:=jc H0;have q0:=H0;unfold jF cW at q0;simp only[aa3,abm]at q0;have O1:=((v0.sh u L0).aG j0).aG k0;rw[p0 d0 0 y.a l0 rfl,ae];refine aH (mO hX y0 (by decide)) ⟨aaV _,?_⟩;rw[bD,ae,(kb gu).1,ae,p0 d0 2 y.c l0 rfl,ae,bL,ae,(kb gu).2.2.2.1,ae,O1.len cF,aA,aS,ae,wrap64];have pa:=kQ (c:=y.a) (show(0:Int)< 12 by decide);have pc:=kQ (c:=y.c) (show(0:Int)< (u.u.shape.length:Int)+2 by omega);have pd:=kQ (c:=y.d) (show(0:Int)< 5 by decide);refine aH (mO hX y2 (by omega)) ⟨aaV _,?_⟩;rw[dJ,ae,wrap64,p0 d0 3 y.d l0 rfl,ae];refine aH (mO hX y3 (by decide)) ⟨aaV _,?_⟩
   rw[aS,ae,wrap64,p0 d0 3 y.d l0 rfl,ae];refine aH (mO hX y3 (by decide)) ⟨aaV _,?_⟩;rw[aW,ae,OW,ae];refine aw λg3 D2 v1 E2=>?_;refine aD tI v1 rfl rfl rfl λz0 F2 w1 G2=>?_;have I0:Ext d0 z0:=⟨by omega,by grind⟩
   obtain⟨x,hx⟩:∃x:Mk,x=⟨dO y.a 12,u.u.id,dO y.c ((u.u.shape.length:Int)+2)-2,1+dO y.d 5,decide (dO y.d 2=0)⟩:=⟨_,rfl⟩
   have gm:z0.get d0.n=.cells x.c 137 none:=by rw[hx];exact w1
   have z1:=I0.cells u1;have N0:Ext mm z0:=(j0.trans k0).trans I0;have O0:=u0.aG N0;rw[show ah TE z0 31 (aeq m6.n (0+1))=some vm by rw[lU,aL z1];rfl,ae,(CE gm).2.2.2.2,ae];obtain⟨P1,r',b,hc,J0,hw⟩:=Pm (x:=x) hX O0 hM.uS (by grind);refine aH hc ?_;rw[aJ,aJ];simp only[aaY,aaX,ae];rw[ak];have j3:=N0.n;have T1:=J0.n;have a0:Ext mm P1:=N0.trans J0;refine av (λhb=>?_) (λhb=>?_)
   ·have hw:=hw hb;refine bY GO (a0.cells gS) (by rw[hw.sl.cells];rfl) (by rw[hw.sl.cells];simp) (by rw[hw.sl.cells];simp[hw.sl.one]) λA1 a2 b0 r0=>?_;rw[hw.sl.cells]at b0;have b0:A1.get m6.n=.cells [r,r'] 33 none:=b0;rw[aS,ae,wrap64]
    have b2:im (bR l) (mW ms x):=by refine QT hM (by omega) ?_ ⟨u.u,by unfold bR;exact acH L0,by rw[hx],by grind⟩;rw[hx];unfold Aw cW;simp only[aa3,abm];omega
    refine⟨i+1,by omega,mW ms x,r',rfl,by omega,by omega,λc P0 A0=>by rw[r0 c A0,a0.get c (by omega),o0 c P0 A0],by omega,b0,?_,b2,by have:=yH ms x;omega,by grind⟩;refine hw.sl.bs λb c t g hb ht=>?_;have ht:t=137:=abr.1 ht;subst ht;rw[r0 b (λe=>by rw[e,a0.cells gS]at hb;cases hb),hb]
   rw[aS,ae,wrap64];exact⟨i+1,by omega,ms,vm,rfl,by omega,by omega,λc P0 A0=>by rw[a0.get c (by omega),o0 c P0 A0],by omega,a0.cells gS,u0.aG a0,hM,by omega,D0⟩
  ·rw[show ah TE mm 33 (aeq m6.n 0)=some (.agg #[r,vm]) by rw[jj,aP (n:=2) gS (by show 0+2<=2;decide)];rfl,ae]
   have c2:mm.get m1.n=.cells [aew,aew] 33 none:=by grind
   have d2:one vm:=u0.one
   refine aD dV c2 rfl rfl (by show(one r && (one vm && true))=true;rw[or,d2];rfl) λe0 g2 g0 h0=>?_
   have g0:e0.get m1.n=.cells [r,vm] 33 none:=g0
   rw[show ah TE e0 33 (aeq m1.n 0)=some (.agg #[r,vm]) by rw[jj,aP (n:=2) g0 (by show 0+2<=2;decide)];rfl,ae]
   have B1:∀(α:Type) [aZ α] (L:List α) (w:aes),(∀t∈aZ.ty α::aZ.dd α,t≠33)->Sl mm L w->Sl e0 L w:=λα _ L w ht hs=>hs.bs λb c t g hb hm=>by rw[h0 b (by grind),hb]
   have S0:cY e0 l r:=v0.bs λc cs t g hb ht=>by rw[h0 c (by grind),hb]
   have B0:Sl e0 ms vm:=B1 Mk ms vm (by intro t ht;rw[abr.1 ht];decide) u0
   obtain⟨ra,rc,rfl⟩:=hF.sl.form
   cases ra with
   |none=>obtain⟨rfl, -,rfl⟩:=OJ hF;obtain⟨rfl,rfl⟩:=D0 rfl;exact .inl ⟨rfl,by omega,rfl,.refl,[],_,[],_,rfl,HH m,hP,Sl.nil,hM⟩
   |some ad=>
    refine .inr ⟨.inl ?_,by omega,⟨by grind,λc hc=>?_⟩,l,_,ms,vm,rfl,S0,hP,B0,hM⟩;·simp[bz,bF,dw,bI]
    rw[h0 c (by omega),o0 c (by omega) (by omega),s0.get c (by omega),K0.get c hc]
 obtain⟨rv,m',b,hc,rfl,h1,l,r,ms,vm,rfl,h2,h3,h4,h5⟩:=key;exact⟨l,r,ms,vm,m',hc,h1,h2,h3,h4,h5⟩
end
section
variable {X:aM} {m:M}
end
section
variable {X:aM} {m:M}
theorem Fo{p:Pl}:aI TE m 58 1 [(0,p.v)]=some (.slice (some ⟨m.n,0,none⟩) 1 1,m.push (.cells p.c 141 none)):=by kernel_rfl
end
section
end
section
structure Ac where
 kind:Int
 un:Un
 id:Int
 i:Int
 k:Int
 zB:Mk
def eS(u:Un):Bool:=decide (u.kind=0) && decide (u.dA=0) && decide (u.shape=[]) && decide (u.back=0) && decide (u.front=0)
def vM(k:Mk):Bool:=decide (k=⟨0,0,0,0,false⟩)
def tZ(a:Ac):Bool:=decide (a.i=0) && decide (a.k=0) && eS a.un && decide (a.un.id=0)
def nu(a:Ac):Bool:=
 if a.kind=1 then jF a.un && decide (a.id=0) && decide (a.i=0) && decide (a.k=0)
 else if a.kind=2 then cW a.id 0 99 && tZ a
 else if a.kind=3 then cW a.id 0 99 && cW a.un.id 0 99 && !decide (a.id=a.un.id) && eS a.un && cW a.i 0 7 && cW a.k 0 7 && !decide (a.i=a.k)
 else if a.kind=4 then cW a.id 0 99 && cW a.i (-40) 40 && cW a.k (-40) 40 && (!decide (a.i=0) || !decide (a.k=0)) && eS a.un && decide (a.un.id=0)
 else if a.kind=5 then Aw a.zB && decide (a.id=0) && tZ a
 else if a.kind=6\/a.kind=7 then cW a.id 0 99 && tZ a
 else false
def eC(a:Ac):Bool:=nu a && (decide (a.kind=5) ||vM a.zB)
def uN(us:List Un)(id:Int):List Un:=us.filter λy=> !decide (y.id=id)
def tY(us:List Un)(u:Un):List Un:=(us.filter λy=>decide (y.id < u.id))++u::(us.filter λy=>decide (u.id < y.id))
def Gy(us:List Un)(u:Un):Bool:=jF u && !decide (us.length=12) && us.all (λv=> !decide (v.id=u.id)) && us.all (λv=> !ib u v)
def qA(us:List Un)(u:Un):Option (List Un):=if Gy us u=true then some (tY us u)else none
def Hc(l:List Pl)(a b:Nat):List Pl:=if a<=b then(l.drop a).take (b+1-a)else l.drop a++l.take (b+1)
def YX(l:List Pl)(i k:Int):Option (List Pl×List Pl):=
 if(bM l && decide (0<=min i k) && decide (max i k < (l.length:Nat)) && decide (3<=(Hc l i.toNat k.toNat).length) && decide (3<=(Hc l k.toNat i.toNat).length))=true then some (Hc l i.toNat k.toNat,Hc l k.toNat i.toNat)else none
def YH(u:Un)(dx dy:Int):Option Un:=if(u.mv dx dy).shape.any Pl.off=true then none else some (u.mv dx dy)
def fZ(ms:List Mk)(id:Int):List Mk:=ms.filter λy=> !decide (y.un=id)
def mC(ms:List Mk)(id:Int)(o:Bool):Option (List Mk):=
 match ms.findIdx? λy=>decide (y.id=id)with
 |some k=>match ms[k]? with
  |some y=>if y.KG=o then none else some (ms.set k {y with KG:=o})
  |none=>none
 |none=>none
def oN(us:List Un)(ms:List Mk)(a:Ac):Option (List Un×List Mk):=
 if a.kind=1 then(qA us a.un).map (·,ms)
 else if a.kind=2 then(if(cf us a.id).isSome=true then some (uN us a.id,fZ ms a.id)else none)
 else if a.kind=3 then
  match cf us a.id with
  |none=>none
  |some u=>match YX u.shape a.i a.k with
   |none=>none
   |some (p,q)=>match qA (uN us a.id) {u with shape:=p}with
    |none=>none
    |some vs=>(qA vs {u with shape:=q,id:=a.un.id}).map (·,fZ ms a.id)
 else if a.kind=4 then
  match cf us a.id with
  |none=>none
  |some u=>match YH u a.i a.k with
   |none=>none
   |some v=>(qA (uN us a.id) v).map (·,ms)
 else if a.kind=5 then(if(ms.any λy=>decide (y.id=a.zB.id))=true then none else some (us,mW ms a.zB))
 else(mC ms a.id (decide (a.kind=7))).map (us,·)
open Classical in
def iD(us:List Un)(ms:List Mk):Bool:=decide (im us ms)
def GR(us:List Un)(ms:List Mk)(a:Ac):Option (List Un×List Mk):=
 if eC a=true then(match oN us ms a with
  |some (vs,ns)=>if iD vs ns=true then some (vs,ns)else none
  |none=>none)else none
theorem cx.Kw{us:List Un}(h:cx us):us.Pairwise λa b=>a.id < b.id:=by rw[abw];intro i j hi hj a0;exact h.Sk a0 (aaW hi) (aaW hj)
theorem Cc{us:List Un}(h1:us.length<=12)(h2:∀u∈us,jF u)(h3:us.Pairwise λa b=>a.id < b.id)(h4:us.Pairwise λa b=>ib a b=false):cx us:=by
 rw[abw]at h3 h4;refine⟨h1,h2,λi a b ha hb=>?_,λi k a b a0 ha hb=>?_⟩
 ·grind
 ·grind
theorem cx.CA{us:List Un}(h:cx us):us.Pairwise λa b=>ib a b=false:=by rw[abw];intro i j hi hj a0;exact h.apart i j _ _ a0 (aaW hi) (aaW hj)
theorem cx.del{us:List Un}(h:cx us)(id:Int):cx (uN us id):=by unfold uN;exact Cc (acn (acf _ _) h.len) (λu hu=>h.val u (abX.1 hu).1) (h.Kw.filter _) (h.CA.filter _)
theorem MN{us:List Un}{u:Un}(h:∀v∈us,v.id≠u.id):(tY us u).length=us.length+1:=by
 unfold tY;rw[abq,abe]
 have:(us.filter λy=>decide (y.id < u.id)).length+(us.filter λy=>decide (u.id < y.id)).length=us.length:=by
  induction us with
  |nil=>rfl
  |cons a r ih=>
   grind
 omega
theorem sq{us:List Un}{u v:Un}(h:v∈tY us u):v=u\/v∈us:=by
 unfold tY at h
 grind
theorem pR{us:List Un}{u:Un}:Gy us u↔jF u/\us.length≠12/\(∀v∈us,v.id≠u.id)/\∀v∈us,ib u v=false:=by
 unfold Gy
 grind
theorem cx.ins{us:List Un}(h:cx us){u:Un}(ha:Gy us u):cx (tY us u):=by
 have⟨h1,h2,h3,h4⟩:=pR.1 ha;have hl:=h.len;refine Cc (by rw[MN h3];omega) (λv hv=>?_) ?_ ?_
 ·rcases sq hv with rfl |hv;·exact h1
  exact h.val v hv
 ·unfold tY
  rw[ab2,ab4]
  refine⟨h.Kw.filter _,⟨by grind,h.Kw.filter _⟩,λa ha b hb=>?_⟩
  grind
 unfold tY;rw[ab2,ab4];refine⟨h.CA.filter _,⟨λz hz=>h4 z (abX.1 hz).1,h.CA.filter _⟩,λa ha b hb=>?_⟩;have a0:=(abX.1 ha).1;have ha:a.id < u.id:=by grind
 rcases abc.1 hb with rfl |hb;·rw[nC];exact h4 a a0
 have b0:=(abX.1 hb).1;have hb:u.id < b.id:=by grind
 have⟨i,hi⟩:=abi a0;have⟨k,hk⟩:=abi b0
 have d0:i < k:=by
  rcases adh i k with h |rfl |h';·exact h
  ·grind
  have:=h.Sk h' hk hi;omega
 exact h.apart i k _ _ d0 hi hk
theorem wZ{us vs:List Un}{u:Un}(h:cx us)(ha:qA us u=some vs):cx vs/\vs=tY us u/\jF u:=by
 unfold qA at ha;split at ha
 ·rename_i hb;cases ha;exact⟨h.ins hb,rfl,(pR.1 hb).1⟩
 cases ha
theorem HQ{us vs:List Un}{ms ns:List Mk}{a:Ac}(h:cx us)(hd:oN us ms a=some (vs,ns)):cx vs:=by
 unfold oN at hd;split at hd
 ·cases h1:qA us a.un with
  |none=>rw[h1]at hd;cases hd
  |some l=>rw[h1]at hd;cases hd;exact(wZ h h1).1
 split at hd
 ·split at hd;·cases hd;exact h.del _
  cases hd
 split at hd
 ·split at hd;·cases hd
  rename_i u hu;split at hd;·cases hd
  rename_i p q hc;split at hd;·cases hd
  ·rename_i l hl
   cases h1:qA l {u with shape:=q,id:=a.un.id}with
   |none=>rw[h1]at hd;cases hd
   |some l'=>rw[h1]at hd;cases hd;exact(wZ (wZ (h.del _) hl).1 h1).1
 split at hd
 ·split at hd;·cases hd
  rename_i u hu;split at hd;·cases hd
  ·rename_i v hv
   cases h1:qA (uN us a.id) v with
   |none=>rw[h1]at hd;cases hd
   |some l'=>rw[h1]at hd;cases hd;exact(wZ (h.del _) h1).1
 split at hd
 ·grind
 ·cases h1:mC ms a.id (decide (a.kind=7))with
  |none=>rw[h1]at hd;cases hd
  |some l=>rw[h1]at hd;cases hd;exact h
end
section
end
section
variable {X:aM} {m:M}
theorem _root_.Go.D.Lp.Tx{F:(aet->M->Nat->Prop)->aet->M->Nat->Prop}{vs:aet}{m:M}{lo:Nat}{γ:Type}(μ:γ->Nat)(I:γ->aet->M->Nat->Prop)(g0:γ)(h0:I g0 vs m lo)
  (h:∀g vs m lo,I g vs m lo->∀P:aet->M->Nat->Prop,(∀g' vs m lo,μ g' < μ g->I g' vs m lo->P vs m lo)->F P vs m lo):Lp F vs m lo:=
 Lp.intro μ I g0 h0 λg vs m lo hI=>h g vs m lo hI _ λg' vs m lo h1 h2=>⟨g',h1,h2⟩
end
section
theorem aay{X:aM}{x0:aes}{m:M}{R:aet->M->Nat->Prop}:dU TE (aO TE X) f104 [x0] m R=ρ m x0 33 λa=>ς a [aew,aew] 33 λb=>ε 33 (υ m) 1 λc=>δ b 31 c λc=>ψ X 106 [c] b λb c d=>θ 33 [(1,b)] λb=>ς c [aew,aew] 33 λf=>ι f 33 (υ c) b λb f=>ε 33 (υ m) 0 λg=>ε 30 g 0 λg=>δ b 28 g λg=>κ b .len [28] [g] λh _=>Lp (λb d f i=>un d λd _=>η .lss 3 d h λh=>aU h (ζ 28 g d λa=>δ f 60 a λa=>ς f [χ 0,χ 0,χ 0,aew,χ 0,χ 0] 60 λg=>ι g 60 (υ f) a λa g=>ε 60 (υ f) 3 λh=>δ a 58 h λh=>ψ X 82 [h] a λa h j=>ε 60 (υ f) 3 λk=>ι h 58 k a λa h=>ε 33 (υ c) 0 λk=>ε 30 k 0 λk=>δ a 28 k λk=>δ a 60 (υ f) λf=>ν a 28 1 [(0,f)] λa f=>κ (M.wl f f.n) .append [28,28] [k,a] λa f=>ε 33 (υ c) 0 λc=>ε 30 c 0 λc=>ι f 28 c a λa c=>η .add 3 d (χ 1) λd=>b [d] a (Θ i g j h (M.low f) c)) (δ f 33 (υ c) λb=>ι f 33 (υ a) b λb c=>aj (ah TE b 33 (υ a)) λa=>R [a] b (min i c))) [χ 0] b (ω m.n d f):=by kernel_rfl
end
section
end
end Go.Proofs.YtigpcbodmjjaiaaGreatDoor
