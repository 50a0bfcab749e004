/- putlogref12.Add. -/
import Derived.Test.YtigpcbodmjjaiaaGreatDoorG5J
import Derived.Test.YtigpcbodmjjaiaaGreatDoorBtJ
import Derived.Sort.Grow
set_option maxRecDepth 100000
noncomputable section
open Go Go.D Go.Proofs.Tryz
namespace Go.Proofs.YtigpcbodmjjaiaaGreatDoor
section
variable {X:aK} {m:M}
def gG(u:Un):List Un->List Un
 |[]=> [u]
 |a::r=>if u.id < a.id then u::a::r else a::gG u r
theorem Ca{u:Un}:∀{p q:List Un},(∀x∈p,¬u.id<x.id)->gG u (p++q)=p++gG u q
 |[],q,_=>rfl
 |a::p,q,h=>by
  rw[Jv,gG,QL (h a (by simp)),Ca λx hx=>h x (by grind)];rfl
theorem DX{u x:Un}:∀{p:List Un},(∃y∈p,u.id<y.id)->gG u (p++ [x])=gG u p++ [x]
 |[],h=>by grind
 |a::p,h=>by
  rw[Jv,gG,gG];by_cases e:u.id<a.id;·grind
  ·rw[QL e,QL e,DX];·rfl
   ·grind
structure KeU(oc:Nat)(m m1:M):Prop where
 n:m.n<=m1.n
 lo:∀c,c < oc->m1.get c=m.get c
 get:∀c,c < m.n->c≠oc->(∀cs g,m.get c≠.cells cs 60 g)->m1.get c=m.get c
structure EH(oc:Nat)(mm:M)(acc:List UW)(r:Φ):Prop where
 cell:mm.get oc=.cells [r] 30 none
 ow:Ow (oc+1) mm acc r
 sh:∀x∈acc,Sl mm x.u.shape x.w
 ln:∀x∈acc,x.u.shape.length < 1000000
theorem EH.qE{oc:Nat}{mm:M}{acc:List UW}{r:Φ}(h:EH oc mm acc r):cP mm acc r:=
 ⟨h.ow.sl,h.sh,h.ln,by
  rcases h.ow with⟨_,h⟩|⟨b,cs,h1,h2,h3,h4,h5,h6⟩;·grind
  ·exact .inr ⟨b,0,_,cs,_,h1,Ox _,h4,.inr rfl⟩⟩
theorem EH.aE{oc:Nat}{mm m':M}{acc:List UW}{r:Φ}(h:EH oc mm acc r)(hx:Ext mm m'):EH oc m' acc r:=⟨hx.cells h.cell,h.ow.aE hx,λx a0=>(h.sh x a0).aE hx,h.ln⟩
theorem eR{α:Type}[aW α]{n1:Nat}{l:List α}{v:Φ}(h:Ow n1 m l v){a:Addr}{n k:Nat}(e:v=.slice (some a) n k):∃cs g,m.get a.block=.cells cs (aW.ty α) g/\n1<=a.block:=by
 rcases h with⟨rfl,_⟩|⟨b,cs,rfl,h2,h3,h4,_⟩;·cases e
 ·grind
theorem QG{oc:Nat}{mm:M}{acc:List UW}{r w:Φ}{u:Un}(h:EH oc mm acc r)(hw:Sl mm u.shape w)(hl:u.shape.length<1000000)(A0:acc.length<1000000):
  ∃b0 r' a0 g0,aF TE mm 28 1 [(0,u.v w)]=some (KI mm.n 0 1 1,b0)/\av TE (M.wl b0 (M.n b0)) .append [28,28] [r,KI mm.n 0 1 1]=some (r',a0)/\
   aD TE a0 28 (Ga oc (0+0)) r'=some (g0,oc)/\oc+1<=a0.low/\EH oc g0 (acc++ [⟨u,w⟩]) r'/\KeU oc mm g0:=by
 have B0:=M.aU h.cell;have r0:one w:=hw.one;have e0:Ext mm (mm.push (.cells (UW.c ⟨u,w⟩) 60 none)):=Ext.refl.push;refine⟨mm.push (.cells (UW.c ⟨u,w⟩) 60 none),?_⟩;have s0:aF TE mm 28 1 [(0,u.v w)]=some (KI mm.n 0 1 1,mm.push (.cells (UW.c ⟨u,w⟩) 60 none)):=BE (x:=⟨u,w⟩);generalize k0:mm.push (.cells (UW.c ⟨u,w⟩) 60 none)=b0 at*;have o0:b0.get mm.n=.cells (UW.c ⟨u,w⟩) 60 none:=by rw[<-k0];exact M.aX
 have C0:b0.n=mm.n+1:=by rw[<-k0];rfl
 have i0:=h.aE e0;obtain⟨r',a0,ha,d0,j0,p0,z0⟩:=Ow.append (y:=KI mm.n 0 1 1) (ys:=[(⟨u,w⟩:UW)]) PJ (by simp[aW.cT]) i0.ow (Aa o0 r0) (by omega) (by grind);have D0:=j0.n;have q0:a0.get oc=.cells [r] 30 none:=by rw[j0.get _ (by omega),i0.cell]
 have u0:=pg (E:=TE) (o:=0+0) (x:=r') Mx q0 (by rw[d0.sl.cells];rfl) (by rw[d0.sl.cells];simp) (by rw[d0.sl.cells];simp[d0.sl.one]);refine⟨r',a0,_,s0,ha,u0,p0,?_⟩;have l0:∀c,c≠oc->(a0.set oc (.cells (([r]:Bt).take (0+0)++(cells r'++([r]:Bt).drop (0+0+(cells r').length))) 30 none)).get c=a0.get c:=λc hc=>M.dg hc;have v0:(a0.set oc (.cells (([r]:Bt).take (0+0)++(cells r'++([r]:Bt).drop (0+0+(cells r').length))) 30 none)).get oc=.cells [r'] 30 none:=by rw[M.dw (M.aU q0),d0.sl.cells];rfl
 have y0:(a0.set oc (.cells (([r]:Bt).take (0+0)++(cells r'++([r]:Bt).drop (0+0+(cells r').length))) 30 none)).n=a0.n:=rfl;generalize a0.set oc (.cells (([r]:Bt).take (0+0)++(cells r'++([r]:Bt).drop (0+0+(cells r').length))) 30 none)=g0 at*;have aV:∀c,c<b0.n->c≠oc->(∀cs g,b0.get c≠.cells cs 60 g)->g0.get c=b0.get c:=λc hc m0 ht=>by rw[l0 c m0,fg ha hc λa n k e he=>?_];have⟨cs,g,hg,_⟩:=eR i0.ow e;rw[<-he]at hg;exact ht _ _ hg
 have SK:∀(n0:List Pl) (v:Φ),Sl b0 n0 v->Sl g0 n0 v:=λn0 v hs=>hs.aV λb cs t g hb ht=>by
  have ht:t=141:=by simpa[aW.ty,aW.cT]using ht
  subst ht;rw[aV b (M.aU hb) (λe=>by subst e;rw[i0.cell]at hb;cases hb) (by grind),hb]
 refine⟨⟨v0,d0.aV λb c t g hb ht=>?_,λx hx=>?_,λx hx=>?_⟩,⟨by omega,λc hc=>?_,λc hc m0 ht=>?_⟩⟩
 ·have ht:t=60:=by simpa[aW.ty,aW.cT]using ht
  grind
 ·rcases OH.1 hx with hx|hx;·exact SK _ _ (i0.sh x hx)
  rw[Qk]at hx;subst hx;exact SK _ _ (hw.aE e0)
 ·rcases OH.1 hx with hx|hx;·exact h.ln x hx
  ·grind
 ·rw[l0 c (by omega),j0.get c (by omega),e0.get c (by omega)]
 rw[aV c (by omega) m0 (λcs g e=>ht cs g (by rw[<-e,e0.get c (by omega)])),e0.get c (by omega)]
theorem mO(hX:cd X){oc:Nat}{mm:M}{acc:List UW}{r w:Φ}{u:Un}(h:EH oc mm acc r)(hw:Sl mm u.shape w)(hl:u.shape.length<1000000)(j0:acc.length<1000000):
  ∃w' b0 d0 r' e0 g0,C X (.func 219) [u.v w] mm mm.n (u.v w') b0/\aF TE b0 28 1 [(0,u.v w')]=some (KI b0.n 0 1 1,d0)/\
   av TE (M.wl d0 (M.n d0)) .append [28,28] [r,KI b0.n 0 1 1]=some (r',e0)/\
   aD TE e0 28 (Ga oc (0+0)) r'=some (g0,oc)/\oc+1<=e0.low/\EH oc g0 (acc++ [⟨u,w'⟩]) r'/\KeU oc mm g0:=by have l0:=M.aU h.cell;have⟨w',b0,hc,a0,i0⟩:=AU hX hw hl;have m0:=a0.n;have⟨d0,r',e0,g0,h1,h2,h3,h4,h5,h6⟩:=QG (h.aE a0) i0 hl j0;exact⟨w',b0,d0,r',e0,g0,hc,h1,h2,h3,h4,h5,⟨by have:=h6.n;omega,λc hc=>by rw[h6.lo c hc,a0.get c (by omega)],λc hc k0 ht=>by rw[h6.get c (by omega) k0 (λcs g e=>ht cs g (by rw[<-e,a0.get c hc])),a0.get c hc]⟩⟩
open Classical in
def oS(l:List UW)(u:Un)(m':M)(rv:Φ):Prop:=
 if fL (bM l)=true/\fL (gG u (bM l))=true then∃l' r,rv=.tuple #[.agg #[r],.int .i64 0]/\bM l'=gG u (bM l)/\cP m' l' r else rv=.tuple #[.agg #[.slice none 0 0],.int .i64 120]
theorem oS.no{l:List UW}{u:Un}{m':M}(h:¬(fL (bM l)/\fL (gG u (bM l)))):oS l u m' (.tuple #[.agg #[YM],YR 120]):=by unfold oS;rw[QL h]
theorem oS.yes{l l':List UW}{u:Un}{m':M}{r:Φ}(h1:fL (bM l))(h2:fL (gG u (bM l)))(h3:bM l'=gG u (bM l))(h4:cP m' l' r):oS l u m' (.tuple #[.agg #[r],YR 0]):=by unfold oS;rw[Tf ⟨h1,h2⟩];exact⟨l',r,rfl,h3,h4⟩
theorem HO(u:Un)(l:List Un):gG u l≠ []:=by
 cases l with
 |nil=>simp[gG]
 |cons a r=>rw[gG];split <;>simp
theorem PR(hX:cd X){l:List UW}{v w:Φ}{u:Un}(h:cP m l v)(hlen:l.length<1000)(hw:Sl m u.shape w)(d1:u.shape.length<1000000):
  ∃rv m',C X (.func 171) [.agg #[v],u.v w] m m.n rv m'/\Ext m m'/\oS l u m' rv:=by
 have key:∃rv m' b,C X (.func 171) [.agg #[v],u.v w] m b rv m'/\b=m.n/\Ext m m'/\oS l u m' rv:=by
  refine Cl.gen (R:=λrv m' b=>b=m.n/\Ext m m'/\oS l u m' rv) (hX.no _ rfl) (Kg func171) rfl ?_;rw[aap];dsimp only[δ,ε,ζ,η,θ,ι,κ,ν,ο,ρ,ς,υ,χ,ψ,Γ,Θ,Λ,ω];refine aw λm1 L1 v1 N1=>?_;refine aw λm2 O1 w1 P1=>?_;refine aw λm3 T1 c2 d2=>?_;simp only[aT]at v1 w1;have y1:Ext m m3:=⟨by omega,by grind⟩
  have g1:m3.get m.n=.cells [v] 30 none:=by grind
  have g2:m3.get m1.n=.cells (u.c w) 60 none:=by grind
  unfold ptrTo;rw[eo,aQ g1 (by simp)];show ai (some (Value.agg #[v])) _;rw[ae];refine aG (kU hX (h.aE y1) (by omega)) ?_;rw[bk,ae,aj]
  have g0:∀(mm:M) (lo:Nat),(∀c,c<m3.n->mm.get c=m3.get c)->¬(fL (bM l)/\fL (gG u (bM l)))->m.n<=lo->
    aO (aD TE mm 30 (Ga m2.n 0) (.agg #[YM])) λm10 J0=>ai (ah TE m10 30 (Ga m2.n 0)) λv12=>
     (bA (bh [v12,YR 120])/\m.n<=min lo J0/\m.n=m.n/\Ext m m/\oS l u m (bh [v12,YR 120]))\/
     ((bA (bh [v12,YR 120])=false\/min lo J0<m.n)/\min m.n (min lo J0)=m.n/\Ext m m10/\oS l u m10 (bh [v12,YR 120])):=by
   intro mm lo hk z1 A1;have g3:mm.get m2.n=.cells [YM] 30 none:=by grind
   refine aC oX g3 rfl rfl rfl λm10 i1 b0 E0=>?_;have b0:m10.get m2.n=.cells [YM] 30 none:=b0;rw[eo,aQ b0 (by simp)];show ai (some (Value.agg #[YM])) _;rw[ae];exact .inl ⟨rfl,by omega,rfl,.refl,.no z1⟩
  have K0:aJ TE 30 []=some (.agg #[YM]):=AY;refine an (λhb=>?_) (λhb=>?_)
  ·have hb:fL (bM l)=false:=by grind
   rw[K0,ae];exact g0 m3 (min m.n m3.n) (λ_ _=>rfl) (by grind) (by omega)
  have B1:fL (bM l):=by grind
  refine aw λm13 H1 F0 G0=>?_;obtain⟨oc,C1⟩:∃oc,oc=m3.n:=⟨_,rfl⟩
  rw[<-C1]at F0⊢;have I1:Ext m3 m13:=⟨by omega,λc hc=>G0 c hc⟩
  refine Lp.intro (γ:=Nat) (λi=>l.length-i) (λi vs mm lo=>∃(done:Bool) (acc:List UW) (r:Φ),vs=[.bool done,YR i]/\i<=l.length/\EH oc mm acc r/\(∀c,c<oc->mm.get c=m3.get c)/\m.n<=lo/\m13.n<=mm.n/\(done=false->bM acc=(bM l).take i/\∀x∈(bM l).take i,¬u.id<x.id)/\(done->bM acc=gG u ((bM l).take i)/\∃x∈(bM l).take i,u.id<x.id)/\acc.length<=i+1) 0 ⟨false,[],_,rfl,ZE _,⟨F0,.nil,λx hx=>(by cases hx),λx hx=>(by cases hx)⟩,λc hc=>G0 c (by omega),by omega,Ox _,λ_=>⟨rfl,λx hx=>(by grind)⟩,λh=>(by cases h),ZE _⟩ ?_;rintro i vs mm p0 ⟨done,acc,r,rfl,hi,i0,hk,A1,j1,z0,L0,i2⟩;have gf:mm.get m.n=.cells [v] 30 none:=by grind
  have gu:mm.get m1.n=.cells (u.c w) 60 none:=by grind
  have N0:Ext m mm:=⟨by omega,by grind⟩
  have hF:=h.aE N0;have A0:∀m':M,m'.get m.n=.cells [v] 30 none->ah TE m' 28 (Ga m.n (0+0))=some v:=λm' h=>by rw[dT,aI h];rfl
  have B0:∀(m':M) acc r,EH oc m' acc r->ah TE m' 28 (Ga oc (0+0))=some r:=λm' acc r h=>by rw[dT,aI h.cell];rfl
  rw[aB,aB,bJ,ae,A0 mm gf,ae,hF.sl.len dc,az,aM,ae,aj];refine an (λk1=>?_) (λj2=>?_)
  ·have k1:i<l.length:=by grind
   obtain⟨x,hx⟩:∃x,l[i]?=some x:=⟨_,Fx k1⟩
   have H0:=LZ hx;have C0:(bM l).take (i+1)=(bM l).take i++ [x.u]:=by rw[Q1,fP hx];rfl
   refine aZ (λvs m' lo=>vs=[.bool (!done && decide (u.id<x.u.id))]/\mm=m'/\p0=lo) (λR hR=>?_) ?_
   ·rw[bk,ae,aj];refine an (λh1=>?_) (λh1=>?_);·have⟨q,q0,f1,f2,f3⟩:=rV hF.sl hx;obtain⟨l0, -⟩:=kz gu;rw[ae,A0 mm gf,ae,f1,ae,f2,ae,f3,ae,bz,ae,l0,ae,bP,ae];exact hR _ _ _ ⟨by grind,rfl,rfl⟩
    exact hR _ _ _ ⟨by grind,rfl,rfl⟩
   rintro _ _ _ ⟨rfl,rfl,rfl⟩;rw[aB,aj]
   have step:∀(m':M) (a0:List UW) (r':Φ),EH oc m' a0 r'->(∀c,c<oc->m'.get c=m3.get c)->m13.n<=m'.n->a0.length<100000->
     ∃q w' j0 m0 r0 n0 k0,ak TE 28 v (YR i)=some q/\ah TE m' 60 q=some x.v/\C X (.func 219) [x.v] m' m'.n (x.u.v w') j0/\aF TE j0 28 1 [(0,x.u.v w')]=some (KI j0.n 0 1 1,m0)/\
      av TE (M.wl m0 (M.n m0)) .append [28,28] [r',KI j0.n 0 1 1]=some (r0,n0)/\
      aD TE n0 28 (Ga oc (0+0)) r0=some (k0,oc)/\oc+1<=n0.low/\EH oc k0 (a0++ [⟨x.u,w'⟩]) r0/\(∀c,c<oc->k0.get c=m3.get c)/\m13.n<=k0.n:=by
    intro m' a0 r' hg l1 D1 o1;have I0:Ext m m':=⟨by omega,by grind⟩
    have⟨q,q1,q2,_⟩:=(h.aE I0).sl.eY (k:=.i64) hx;obtain⟨w',j0,m0,r0,n0,k0,h1,h2,h3,h4,h5,h6,h7⟩:=mO hX hg ((h.aE I0).sh x H0) (h.ln x H0) (by omega);exact⟨q,w',j0,m0,r0,n0,k0,q1,q2,h1,h2,h3,h4,h5,h6,λc hc=>by rw[h7.lo c hc,l1 c hc],by have:=h7.n;omega⟩
   refine an (λh1=>?_) (λh1=>?_)
   ·rw[JJ]at h1;have⟨h1,h2⟩:=h1;have d0:done=false:=by grind
    have e0:u.id<x.u.id:=by grind
    have⟨e1,e2⟩:=z0 d0;have J1:acc.length<=i:=by have:=congrArg List.length e1;rw[cx,Gy]at this;omega
    obtain⟨wa,k2,l2,ra,o2,D0,a1,a2,a3,a4,a5,a6,a7⟩:=mO hX i0 (hw.aE N0) d1 (by omega);obtain⟨q,wb,u2,m64,rb,v2,w2,b1,b2,b3,b4,b5,b6,b7,b8,b9,O0⟩:=step D0 _ ra a6 (λc hc=>by rw[a7.lo c hc,hk c hc]) (by have:=a7.n;omega) (by grind);have p1:D0.get m.n=.cells [v] 30 none:=by rw[a7.lo _ (by omega),gf]
    rw[bJ,ae,B0 mm acc r i0,ae,bU gu,ae];refine aG a1 ⟨Ox _,?_⟩;rw[a2,az,a3,az,ae,a4,az,ae,B0 D0 _ _ a6,ae,ae,A0 D0 p1,ae,b1,ae,b2,ae];refine aG b3 ⟨Ox _,?_⟩;rw[b4,az,b5,az,ae,b6,az,aP,ae,wrap64];have:=a7.n;refine⟨i+1,by omega,true,_,rb,rfl,by omega,b8,b9,by omega,O0,(λh=>by cases h),λ_=>⟨?_,x.u,by grind,e0⟩,by grind⟩;rw[C0,Ca e2];show bM ((acc++ [⟨u,wa⟩])++ [⟨x.u,wb⟩])=_;unfold bM at e1⊢;rw[Cu,Cu,e1];simp[gG,e0]
   obtain⟨q,wb,j0,m0,rb,n0,k0,b1,b2,b3,b4,b5,b6,b7,b8,b9,O0⟩:=step mm _ r i0 hk j1 (by omega);rw[bJ,ae,B0 mm acc r i0,ae,ae,A0 mm gf,ae,b1,ae,b2,ae];refine aG b3 ⟨Ox _,?_⟩;rw[b4,az,b5,az,ae,b6,az,aP,ae,wrap64];refine⟨i+1,by omega,done,_,rb,rfl,by omega,b8,b9,by omega,O0,λhd=>?_,λhd=>?_,by grind⟩
   ·have⟨e1,e2⟩:=z0 hd;have hn:¬u.id<x.u.id:=by rw[hd,Km,ZD]at h1;simpa using h1
    refine⟨?_,λy hy=>?_⟩;·rw[C0];unfold bM at e1⊢;rw[Cu,e1];rfl
    rw[C0]at hy;rcases OH.1 hy with hy|hy;·exact e2 y hy
    rw[Qk]at hy;subst hy;exact hn
   have⟨e1,y,hy,e0⟩:=L0 hd;refine⟨?_,y,by grind,e0⟩;rw[C0,DX ⟨y,hy,e0⟩];unfold bM at e1⊢;rw[Cu,e1];rfl
  have E1:i=l.length:=by
   have:¬(i:Int)< (l.length:Int):=by grind
   omega
  subst E1;rw[QM (by rw[cx];exact Ox _)]at z0 L0
  have fin:∀(m':M) (a0:List UW) (r':Φ) (s0:Nat),EH oc m' a0 r'->(∀c,c<oc->m'.get c=m3.get c)->m13.n<=m'.n->m.n<=s0->bM a0=gG u (bM l)->a0.length<100000->
    C X (.func 128) [.agg #[r']] m' m'.n (.bool (fL (gG u (bM l)))) m'/\ah TE m' 30 (Ga oc 0)=some (.agg #[r'])/\
    (fL (gG u (bM l))->aO (aD TE m' 30 (Ga m2.n 0) (.agg #[r'])) λu0 v0=>ai (ah TE u0 30 (Ga m2.n 0)) λv12=>
     (bA (bh [v12,YR 0])/\m.n<=min s0 v0/\m.n=m.n/\Ext m m/\oS l u m (bh [v12,YR 0]))\/
     ((bA (bh [v12,YR 0])=false\/min s0 v0<m.n)/\min m.n (min s0 v0)=m.n/\Ext m u0/\oS l u u0 (bh [v12,YR 0]))):=by
   intro m' a0 r' s0 hg l1 D1 K1 o0 o1;refine⟨by rw[<-o0];exact kU hX hg.qE (by omega),by rw[eo,aQ hg.cell (by simp)];rfl,λhv=>?_⟩;have g3:m'.get m2.n=.cells [YM] 30 none:=by grind
   refine aC oX g3 rfl rfl (by show(one r' && true)=true;rw[hg.ow.sl.one];rfl) λm10 i1 b0 E0=>?_;have b0:m10.get m2.n=.cells [r'] 30 none:=b0;rw[eo,aQ b0 (by simp)];show ai (some (Value.agg #[r'])) _;rw[ae];have r1:cP m10 a0 r':=hg.qE.aV λc cs t g hb ht=>by rw[E0 c (by grind),hb]
   refine .inr ⟨.inl ?_,by omega,⟨by omega,by grind⟩,.yes B1 hv o0 r1⟩;have F1:a0≠ []:=λe=>by rw[e]at o0;exact HO u (bM l) o0.symm
   have⟨bb,G1,_⟩:=Own.of hg.ow F1;rw[G1];simp[bh,bA,dC,bw]
  rw[bk,ae,aj];refine an (λh1=>?_) (λh1=>?_)
  ·have d0:done=false:=by grind
   have⟨e1,e2⟩:=z0 d0;obtain⟨wa,y2,z2,ra,P0,y0,a1,a2,a3,a4,a5,a6,a7⟩:=mO hX i0 (hw.aE N0) d1 (by omega);have o0:bM (acc++ [⟨u,wa⟩])=gG u (bM l):=by have:gG u (bM l++ [])=bM l++gG u []:=Ca e2;rw[Zu]at this;rw[this];unfold bM at e1⊢;rw[Cu,e1];rfl
   have n7:=a7.n;obtain⟨f1,f2,f3⟩:=fin y0 _ ra (min (min (min p0 mm.n) P0.low) oc) a6 (λc hc=>by rw[a7.lo c hc,hk c hc]) (by omega) (by omega) o0 (by grind);rw[bJ,ae,B0 mm acc r i0,ae,bU gu,ae];refine aG a1 ⟨Ox _,?_⟩;rw[a2,az,a3,az,ae,a4,az,f2,ae];refine aG f1 ?_;rw[bk,ae,aj];have u1:min (min (min (min p0 mm.n) P0.low) oc) y0.n=min (min (min p0 mm.n) P0.low) oc:=by grind
   rw[u1];cases c1:fL (gG u (bM l))with
   |false=>rw[Km,bH,K0,ae];exact g0 y0 _ (λc hc=>by rw[a7.lo c (by omega),hk c (by omega)]) (by grind) (by omega)
   |true=>rw[V8,aN,f2,ae];exact f3 c1
  ·have d0:done:=by grind
   have⟨e1,_⟩:=L0 d0;obtain⟨f1,f2,f3⟩:=fin mm acc r (min p0 mm.n) i0 hk j1 (by omega) e1 (by omega);rw[f2,ae];refine aG f1 ?_;rw[bk,ae,aj];cases c1:fL (gG u (bM l))with
   |false=>rw[Km,bH,K0,ae];exact g0 mm _ (λc hc=>hk c (by omega)) (by grind) (by omega)
   |true=>rw[V8,aN,f2,ae];exact f3 c1
 obtain⟨rv,m',b,hc,rfl,h1,h2⟩:=key;exact⟨rv,m',hc,h1,h2⟩
end
section
variable {X:aK} {m:M}
structure I6 where
 a:Int
 b:Int
 c:Int
 d:Int
 e:Int
 f:Int
def I6.c'(x:I6):Bt:=[.int .i64 x.a,.int .i64 x.b,.int .i64 x.c,.int .i64 x.d,.int .i64 x.e,.int .i64 x.f]
def I6.ok(x:I6):Prop:=lM x.a/\lM x.b/\lM x.c/\lM x.d/\lM x.e/\lM x.f
instance:aW I6 where
 ty:=89
 sz:=6
 agg:=true
 cT:=[]
 rep _ x cs:=cs=x.c'
 pos:=by decide
 one:=by grind
 len:=by rintro _ _ _ rfl;rfl
 dS:=by rintro _ _ _ rfl;rfl
 aV:=by grind
theorem nv:oU TE 22 89 I6:=⟨ag.t22,ag.t89,by kernel_rfl,⟨_,rfl⟩,rfl,by kernel_rfl,rfl,rfl⟩
theorem Oi{l:List I6}{v:Φ}(h:oK m l v){i:Nat}{x:I6}(hx:l[i]?=some x):∃b o,ak TE 22 v (YR i)=some (Ga b o)/\ah TE m 89 (Ga b o)=some (.agg x.c'.toArray)/\ah TE m 3 (Ga b (o+5))=some (YR x.f):=by
 have⟨p,cs,e1,e2,e3⟩:=h.index nv (k:=.i64) hx;have e3:cs=x.c':=e3;subst e3;have b0:=(OJ.1 hx).1;rcases h with h|h;·have⟨b,o,bc,g,cs,f1,hb,hr,hle,hj⟩:=h.fa nv (k:=.i64) hx;have hr:cs=x.c':=hr;subst hr;rw[e1]at f1;cases f1;refine⟨b,o,e1,e2,?_⟩;rw[bF,aI hb,hj 5 (by decide)];rfl
 rcases h with⟨_,rfl⟩|⟨b,o,c,bc,rfl,hb,a0⟩;·grind
 have⟨hle,hr⟩:=a0 i x hx;have hr:(bc.drop (o+i*6)).take 6=x.c':=hr;have f1:ak TE 22 (KI b o l.length c) (YR i)=some (Ga b (o+i*6)):=by
  have hc:0<=(i:Int)/\(i:Int)< (l.length:Int)/\0<ag.t22.es:=⟨by omega,by omega,by decide⟩
  have hd:ag.t22.d=.slice 89:=rfl;simp only[ak,Sn,hd];rw[Tf hc,bj rfl];rfl
 rw[e1]at f1;cases f1;refine⟨b,o+i*6,e1,e2,?_⟩;have h5:bc[o+i*6+5]?=some (YR x.f):=by
  have:=congrArg (·[5]?) hr
  simp only[NU (show 5<6 by decide),Kb]at this;rw[this];rfl
 rw[bF,uW hb h5 rfl]
theorem JM(hX:cd X){xs:List I6}{v:Φ}(hv:oK m xs v)(O0:∀x∈xs,x.ok)(hlen:xs.length<9223372036854775808):
  ∃l r m',C X (.func 124) [v] m m.n (.agg #[r]) m'/\Ext m m'/\cP m' l r/\cq (bM l):=by
 have key:∃rv m' b,C X (.func 124) [v] m b rv m'/\b=m.n/\Ext m m'/\∃l r,rv=.agg #[r]/\cP m' l r/\cq (bM l):=by
  refine Cl.gen (R:=λrv m' b=>b=m.n/\Ext m m'/\∃l r,rv=.agg #[r]/\cP m' l r/\cq (bM l)) (hX.no _ rfl) (Kg func124) rfl ?_;rw[aaO];dsimp only[δ,ζ,η,ι,κ,ξ,ς,υ,χ,ψ,Δ,Θ];refine aw λm1 u1 v1 w1=>?_;refine aw λm2 y1 P0 z1=>?_;have a1:Ext m m2:=⟨by omega,by grind⟩
  have g1:m2.get m.n=.cells [YM] 30 none:=by grind
  have s0:∀mm:M,cP mm [] YM:=λmm=>⟨.nil,λx hx=>(by cases hx),λx hx=>(by cases hx),.inl rfl⟩
  have i0:cq (bM []):=⟨by simp[bM],λu hu=>(by simp[bM]at hu),λi a b ha=>(by simp[bM]at ha),λi k a b _ ha=>(by simp[bM]at ha)⟩
  unfold ptrTo;refine Lp.intro (γ:=Nat) (λi=>12-i) (λi vs mm lo=>∃l r,vs=[YR i]/\i<=12/\Ext m mm/\m2.n<=mm.n/\mm.get m.n=.cells [YM] 30 none/\mm.get m1.n=.cells [r] 30 none/\cP mm l r/\cq (bM l)/\m.n<=lo/\(l=[]->r=YM)) 0 ⟨[],_,rfl,by omega,a1,Ox _,g1,P0,s0 _,i0,Ox _,λ_=>rfl⟩ ?_;rintro i vs mm lo ⟨l,r,rfl,hi,hx,A1,ga,gb,hF,hP,B1,u0⟩;have C1:l.length<=12:=by have:=hP.len;rwa[cx]at this
  rw[aB];refine aZ (λvs m' b1=>vs=[.bool (decide (i<xs.length) && decide (i<12))]/\mm=m'/\lo=b1) (λR hR=>?_) ?_
  ·rw[(hv.aE hx).len nv,az,aM,ae,aj];refine an (λh=>?_) (λh=>?_)
   ·have h:i<xs.length:=by grind
    rw[aM,ae];refine hR _ _ _ ⟨?_,rfl,rfl⟩;rw[IH h,ZD];congr 2;rw[decide_eq_decide];omega
   have h:¬i<xs.length:=by grind
   exact hR _ _ _ ⟨by grind,rfl,rfl⟩
  rintro _ _ _ ⟨rfl,rfl,rfl⟩;rw[aB,aj];have p0:∀(m':M) (b:Nat) (r:Φ),m'.get b=.cells [r] 30 none->ah TE m' 30 (Ga b 0)=some (.agg #[r]):=λm' b r h=>by rw[eo,aQ h (by simp)];rfl
  refine an (λh=>?_) (λh=>?_)
  ·simp only[JJ,EU]at h;have⟨c1,l1⟩:=h;obtain⟨x,B0⟩:∃x,xs[i]?=some x:=⟨_,Fx c1⟩
   have⟨k0,k1,k2,k3,k4,k5⟩:=O0 x (LZ B0);have⟨b,o,e1,e2,e3⟩:=Oi (hv.aE hx) B0;have e4:ak TE 89 (Ga b o) (YR 5)=some (Ga b (o+5)):=Rt (i:=5) (by decide);rw[p0 mm _ _ gb,ae,fH,ae,e1,ae,e4,ae,e3,ae];refine aG (dY hX k5 (by decide)) ⟨Ox _,?_⟩;rw[aP,ae,ae,e2,ae];obtain⟨u,w,d1,C0,j0,D0,o1⟩:=Eu (m:=mm) hX (mj _) k0 k1 k2 k3 k4 k5;refine aG C0 ⟨Ox _,?_⟩;obtain⟨rv,z0,E0,v0,a0⟩:=PR (m:=d1) hX (hF.aE j0) (by omega) D0 (by omega);refine aG E0 ⟨Ox _,?_⟩;have n30:=j0.n;have n33:=v0.n;have d0:=j0.trans v0;by_cases hc:fL (bM l)/\fL (gG u (bM l))=true
   ·unfold oS at a0;rw[Tf hc]at a0;obtain⟨l',r',rfl,A0,F0⟩:=a0;rw[aH,aH];simp only[zi,F9,ae];refine aw λi1 G0 l0 H0=>?_;have or:one r':=F0.sl.one;refine aC oX l0 rfl rfl (by show(one r' && true)=true;rw[or];rfl) λg0 I0 e0 J0=>?_;have e0:g0.get z0.n=.cells [r'] 30 none:=e0;have b0:Ext z0 g0:=⟨by omega,by grind⟩
    rw[aS,ae,aj,IH rfl,bH,p0 g0 _ _ e0,ae];have K0:g0.get m1.n=.cells [r] 30 none:=b0.cells (d0.cells gb);refine aC oX K0 rfl rfl (by grind) λj1 p1 m0 n0=>?_;have m0:j1.get m1.n=.cells [r'] 30 none:=m0;rw[aP,ae,wrap64];refine⟨i+1,by omega,l',r',rfl,by omega,⟨by grind,λc hc=>by rw[n0 c (by omega),b0.get c (by have:=hx.n;omega),d0.get c (by have:=hx.n;omega),hx.get c hc]⟩,by omega,?_,m0,?_,?_,by grind,λe=>?_⟩;·rw[n0 _ (by omega),b0.get _ (by omega),d0.get _ (by omega),ga]
    ·exact(F0.aE b0).aV λc cs t g hb ht=>by rw[n0 c (by grind),hb]
    ·rw[A0];exact nd.1 hc.2
    rw[e]at A0;exact absurd A0.symm (HO u _)
   unfold oS at a0;rw[QL hc]at a0;subst a0;rw[aH,aH];simp only[zi,F9,ae];refine aw λi1 G0 l0 H0=>?_;refine aC oX l0 rfl rfl rfl λg0 I0 e0 J0=>?_;have b0:Ext z0 g0:=⟨by omega,by grind⟩
   rw[aS,ae,aj,show decide ((120:Int)=0)=false from rfl,aN,aP,ae,wrap64];have q0:=d0.trans b0;exact⟨i+1,by omega,l,r,rfl,by omega,hx.trans q0,by grind,q0.cells ga,q0.cells gb,hF.aE q0,hP,by grind,u0⟩
  rw[p0 mm _ _ gb,ae];have or:one r:=hF.sl.one;refine aC oX ga rfl rfl (by show(one r && true)=true;rw[or];rfl) λr0 r1 o0 y0=>?_;have o0:r0.get m.n=.cells [r] 30 none:=o0;rw[p0 r0 _ _ o0,ae];have L0:cP r0 l r:=hF.aV λc cs t g hb ht=>by rw[y0 c (by grind),hb]
  have N0:Ext m r0:=⟨by grind,λc hc=>by rw[y0 c (by omega),hx.get c hc]⟩
  by_cases hl:l=[]
  ·have hr:=u0 hl;subst hl;subst hr;exact .inl ⟨rfl,by omega,rfl,.refl,[],_,rfl,s0 m,i0⟩
  refine .inr ⟨.inl ?_,by omega,N0,l,r,rfl,L0,hP⟩;rcases hF.cap with h|⟨bb,o,c,bc,g,rfl,_⟩;·exact absurd h hl
  simp[bh,bA,dC,bw]
 obtain⟨rv,m',b,hc,rfl,h1,l,r,rfl,h2,h3⟩:=key;exact⟨l,r,m',hc,h1,h2,h3⟩
end
section
open Go Go.D Go.ChangeShapes Go.WideShapes Go.ChangeAt Go.RowKit Go.Proofs.Tryz
theorem np:Tryz.prog.underlying 22=some (.slice 89):=by kernel_rfl
theorem ab2:Tryz.prog.underlying 89=some (.array 6 3):=by kernel_rfl
section
variable {H:Type} {enc:TypeId×Φ->H} {W W':World} {sp:Nat->Bool} {held:Bool} {base:Nat}
theorem Gd:∀fuel cs x,DataW.trod enc Tryz.prog W 0 sp held fuel 89 cs=some x->∃y:I6,y.ok/\(∀m,aW.rep m y cs)/\∀u∈cs,bw u:=by
 intro fuel cs x h;obtain⟨l,rfl,hl,hr⟩:=HN ab2 (by kernel_rfl) h;match l,hl,hr with
 |[a,b,c,d,e,f],_,hr=>refine⟨⟨a,b,c,d,e,f⟩,⟨hr _ (by simp),hr _ (by simp),hr _ (by simp),hr _ (by simp),hr _ (by simp),hr _ (by simp)⟩,λm=>rfl,λu hu=>?_⟩;obtain⟨z,_,rfl⟩:=LY.1 hu;rfl
theorem adN{v:Φ}{d:DataW H}{ps:List MemPlace}(hb:Below W.heap.size W W')(h:DataW.Trod enc Tryz.prog W 0 (λ_=>true) true 22 v d ps)(a0:∀x∈ps,x.block<W.heap.size)(sp:Nat->Bool)(hs:∀x∈ps,sp x.block):DataW.Trod enc Tryz.prog W' 0 sp true 22 v d ps:=
 WideElems.Trod_stays laidOut (by kernel_rfl) (NT (by kernel_rfl)) h (λx hx=>hb.same (a0 x hx)) hs
end
end
section
section
variable {X:aK}{x0 x1 x2 x3:Φ}{m:M}{R:Bt->M->Nat->Prop}
theorem aeA:dP TE (aL TE X) f195 [x0,x1] m R=ρ m x0 141 λa=>ρ a x1 141 λb=>ε 141 (υ m) 0 λc=>δ b 3 c λc=>ε 141 (υ a) 0 λd=>δ b 3 d λd=>ψ X 59 [c,d] b λc d f=>(b.n<=f)/\(ε 141 (υ m) 1 λb=>δ d 3 b λb=>ε 141 (υ a) 1 λa=>δ d 3 a λa=>ψ X 59 [b,a] d λa b d=>ν b 26 2 [(0,c),(1,a)] λa b=>ψ X 80 [a] b λa b c=>R [a] b (Γ m.n f d c)):=by kernel_rfl
theorem adw:dP TE (aL TE X) f194 [x0,x1,x2,x3] m R=ρ m x0 141 λa=>ρ a x1 141 λb=>ρ b x2 141 λc=>ρ c x3 141 λd=>ς d [χ 0,χ 0] 141 λf=>ς f [χ 0,χ 0] 141 λg=>δ g 141 (υ m) λh=>δ g 141 (υ a) λa=>ν g 58 2 [(0,h),(1,a)] λa g=>δ g 141 (υ b) λb=>δ g 141 (υ c) λc=>ν g 58 2 [(0,b),(1,c)] λb c=>ψ X 233 [a,.func (.func 195) #[] #[]] c λ_ c g=>ψ X 233 [b,.func (.func 195) #[] #[]] c λ_ c h=>ζ 58 a (χ 0) λi=>δ c 141 i λi=>ζ 58 b (χ 0) λj=>δ c 141 j λj=>ν c 58 2 [(0,i),(1,j)] λc i=>ψ X 234 [c,.func (.func 195) #[] #[]] i λc j k=>(i.n<=k)/\(ζ 58 a (χ 1) λa=>δ j 141 a λa=>ζ 58 b (χ 1) λb=>δ j 141 b λb=>ν j 58 2 [(0,a),(1,b)] λa b=>ψ X 235 [a,.func (.func 195) #[] #[]] b λa b i=>ι b 141 (υ d) c λb c=>ι b 141 (υ f) a λa b=>ai (ah TE a 141 (υ d)) λd=>ai (ah TE a 141 (υ f)) λf=>R [d,f] a (Λ m.n g h k i c b)):=by kernel_rfl
theorem ZM:dP TE (aL TE X) f234 [x0,x1] m R=ς m [χ 0,χ 0] 141 λa=>κ a .len [58] [x0] λb _=>η .lss 3 b (χ 1) λb=>aR b False (ζ 58 x0 (χ 0) λb=>δ a 141 b λb=>ς a [χ 0,χ 0] 141 λc=>ι c 141 (υ a) b λb c=>Lp (λb c d f=>un c λc _=>κ d .len [58] [x0] λg _=>η .lss 3 c g λg=>aR g (ζ 58 x0 c λg=>δ d 141 g λg=>δ d 141 (υ a) λh=>gL x1 λi j k=>bs TE X i (j.toList++([g,h]++k.toList)) d λd g h=>η .gtr 3 d (χ 0) λd=>aR d (ζ 58 x0 c λd=>δ g 141 d λd=>ι g 141 (υ a) d λa d=>η .add 3 c (χ 1) λc=>b [c] a (ω f h d)) (η .add 3 c (χ 1) λa=>b [a] g (min f h))) (δ d 141 (υ a) λa=>ι d 141 (υ m) a λa b=>ai (ah TE a 141 (υ m)) λc=>R [c] a (min f b))) [χ 1] b (min m.n c)):=by kernel_rfl
theorem ZL:dP TE (aL TE X) f235 [x0,x1] m R=ς m [χ 0,χ 0] 141 λa=>κ a .len [58] [x0] λb _=>η .lss 3 b (χ 1) λb=>aR b False (ζ 58 x0 (χ 0) λb=>δ a 141 b λb=>ς a [χ 0,χ 0] 141 λc=>ι c 141 (υ a) b λb c=>Lp (λb c d f=>un c λc _=>κ d .len [58] [x0] λg _=>η .lss 3 c g λg=>aR g (ζ 58 x0 c λg=>δ d 141 g λg=>δ d 141 (υ a) λh=>gL x1 λi j k=>bs TE X i (j.toList++([g,h]++k.toList)) d λd g h=>η .lss 3 d (χ 0) λd=>aR d (ζ 58 x0 c λd=>δ g 141 d λd=>ι g 141 (υ a) d λa d=>η .add 3 c (χ 1) λc=>b [c] a (ω f h d)) (η .add 3 c (χ 1) λa=>b [a] g (min f h))) (δ d 141 (υ a) λa=>ι d 141 (υ m) a λa b=>ai (ah TE a 141 (υ m)) λc=>R [c] a (min f b))) [χ 1] b (min m.n c)):=by kernel_rfl
theorem F80:dP TE (aL TE X) f80 [x0] m R=κ m .len [26] [x0] λa _=>Lp (λb c d f=>un c λc g=>un g λg _=>η .lss 3 g a λa=>aR a (ζ 26 x0 g λa=>δ d 3 a λa=>η .neq 3 a (χ 0) λh=>aR h (R [a] d f) (η .add 3 g (χ 1) λa=>b [c,a] d f)) (R [χ 0] d f)) [χ 0,χ 0] m m.n:=by kernel_rfl
theorem aaA:dP TE (aL TE X) f149 [x0,x1] m R=ρ m x1 58 λa=>ς a [χ 0,χ 0,χ 0,χ 0] 143 λb=>ς b [Zf] 4 λc=>jn (λa=>ψ X 170 [x0] c λb c d=>ο .not b λb=>aR b (a [Ku] c (min m.n d)) (δ c 58 (υ m) λb=>ψ X 170 [b] c λb c f=>ο .not b λb=>aR b (a [Ku] c (ω m.n d f)) (δ c 58 (υ m) λb=>ψ X 191 [x0,b] c λb c g=>a [b] c (Γ m.n d f g)))) (λc d f=>un c λc _=>aR c (θ 143 [] λc=>ι d 143 (υ a) c λc d=>ι c 4 (υ b) Zf λc g=>ai (ah TE c 143 (υ a)) λa=>ai (ah TE c 4 (υ b)) λb=>R [a,b] c (ω f d g)) (ψ X 192 [x0] d λc d g=>gL c λc h i=>RF TE X c h.toList i.toList d (min f g) (λc f g=>un c λc h=>un h λh i=>GX i (ς f [χ 0,χ 0] 141 λi=>ι i 141 (υ f) c λc i=>ς c [χ 0,χ 0] 141 λj=>ι j 141 (υ c) h λh j=>P7 d.n f h λh=>δ h 58 (υ m) λk=>ψ X 192 [k] h λk l n=>gL k λk o p=>RF TE X k o.toList p.toList l (Δ f.n i j d.n n) (λd g h=>un d λd i=>un i λi j=>GX j (ς g [χ 0,χ 0] 141 λj=>ι j 141 (υ g) d λd j=>ς d [χ 0,χ 0] 141 λk=>ι k 141 (υ d) i λi k=>P7 l.n g i λi=>jn (λa=>δ i 141 (υ f) λb=>δ i 141 (υ c) λh=>δ i 141 (υ g) λn=>ψ X 193 [b,h,n] i λb h i=>η .neq 3 b (χ 0) λb=>aR b (a [Ku] h (Δ g.n j k l.n i)) (δ h 141 (υ f) λb=>δ h 141 (υ c) λc=>δ h 141 (υ d) λd=>ψ X 193 [b,c,d] h λb c d=>η .neq 3 b (χ 0) λb=>a [b] c (Θ g.n j k l.n i d))) (λj k l=>un j λj _=>aR j (h i .normal k l) (δ k 141 (υ f) λj=>δ k 141 (υ c) λn=>δ k 141 (υ g) λg=>δ k 141 (υ d) λd=>ψ X 194 [j,n,g,d] k λd g j=>ξ d 0 λk=>ξ d 1 λd=>ς g [χ 0,χ 0] 141 λn=>ς n [χ 0,χ 0] 141 λo=>ι o 141 (υ g) k λk o=>ι k 141 (υ n) d λd k=>jn (λa=>δ d 141 (υ g) λb=>δ d 141 (υ n) λc=>η .eql 141 b c λb=>aR b (a [Ku] d (Γ l j o k)) (δ d 141 (υ g) λb=>δ d 141 (υ n) λc=>ψ X 195 [b,c] d λb c d=>η .gtr 3 b (χ 0) λb=>a [b] c (Δ l j o k d))) (λd j k=>un d λd _=>aR d (h i .normal j k) (δ j 141 (υ f) λd=>δ j 141 (υ c) λc=>ψ X 195 [d,c] j λc d f=>η .gtr 3 c (χ 0) λc=>aR c (δ d 141 (υ n) λc=>δ d 141 (υ g) λj=>ι d 141 (υ g) c λc d=>ι c 141 (υ n) j λc j=>δ c 141 (υ g) λg=>δ c 141 (υ n) λl=>θ 143 [(0,g),(1,l)] λg=>ι c 143 (υ a) g λa c=>ι a 4 (υ b) Ku λa b=>h i .ret a (Θ k f d j c b)) (δ d 141 (υ g) λc=>δ d 141 (υ n) λg=>θ 143 [(0,c),(1,g)] λc=>ι d 143 (υ a) c λa c=>ι a 4 (υ b) Ku λa b=>h i .ret a (Γ k f c b)))))))) (λa b=>g h .normal a b) [(.ret,λa b=>g h .ret a b)])) (λc d=>θ 143 [] λf=>ι c 143 (υ a) f λc f=>ι c 4 (υ b) Zf λc g=>ai (ah TE c 143 (υ a)) λa=>ai (ah TE c 4 (υ b)) λb=>R [a,b] c (ω d f g)) [(.ret,λc d=>ai (ah TE c 143 (υ a)) λa=>ai (ah TE c 4 (υ b)) λb=>R [a,b] c d)])):=by kernel_rfl
end
end
section
variable {X:aK} {m:M}
theorem cq.lt{us:List Un}(h:cq us):∀(d i:Nat) (a b:Un),us[i]?=some a->us[i+d+1]?=some b->a.id<b.id
 |0,i,a,b,ha,hb=>h.tP i a b ha hb
 |d+1,i,a,b,ha,hb=>by
  obtain⟨c,hc⟩:∃c,us[i+d+1]?=some c:=⟨_,Fx (by grind)⟩
  have h1:=h.lt d i a c ha hc;have h2:=h.tP (i+d+1) c b hc (by grind);omega
theorem cq.SH{us:List Un}(h:cq us){i k:Nat}{a b:Un}(a0:i<k)(ha:us[i]?=some a)(hb:us[k]?=some b):a.id<b.id:=
 h.lt (k-i-1) i a b ha (by grind)
theorem Im(hX:cd X)(u:Un)(w:Φ)(id:Int):C X (.func 238) [u.v w,YR id] m m.n (YR (dp u.id id)) m:=by refine Cl.fl hX (Kg func238) ?_;rw[ZI];dsimp only[δ,ε,ρ,υ,ψ];refine aw λm1 b0 a0 d0=>?_;simp only[aT]at a0;have a0:m1.get m.n=.cells (u.c w) 60 none:=a0;have⟨l0,_⟩:=kz a0;unfold ptrTo;rw[bz,ae,l0,ae];refine aG (ed hX _ _) ?_;exact⟨rfl,by omega⟩
theorem ac2{a:Int}:aA TE .shr 159 (.int .u64 a) (.int .u64 1)=some (.int .u64 (a.fdiv 2)):=by kernel_rfl
theorem W0{n:Nat}:aA TE .shr 159 (.int .u64 (n:Int)) (.int .u64 1)=some (.int .u64 ((n/2:Nat):Int)):=by rw[ac2,Int.fdiv_eq_ediv_of_nonneg _ (by omega)];rfl
theorem WJ{n:Nat}(h:n<1000):IntKind.wrap .u64 (n:Int)=n:=by
 have e:IntKind.u64.wrap (n:Int)=(n:Int)%18446744073709551616:=by unfold IntKind.wrap;simp[IntKind.bits,IntKind.signed]
 grind
theorem Jp(hX:cd X){l:List UW}{v:Φ}(h:Sl m l v)(hP:cq (bM l))(id:Int):
  ∃(i:Nat) (is:Bool),C X (.func 237) [v,YR id,.func (.func 238) #[] #[]] m m.n (.tuple #[YR i,.bool is]) m/\(is->∃x,l[i]?=some x/\x.u.id=id)/\(is=false->∀x∈l,x.u.id≠id):=by
 have hl:l.length<=12:=by have:=hP.len;rwa[cx]at this
 have key:∃rv m' b,C X (.func 237) [v,YR id,.func (.func 238) #[] #[]] m b rv m'/\(m'=m/\b=m.n/\∃(i:Nat) (is:Bool),rv=.tuple #[YR i,.bool is]/\(is->∃x,l[i]?=some x/\x.u.id=id)/\(is=false->∀x∈l,x.u.id≠id)):=by
  refine Cl.gen (R:=λrv m' b=>m'=m/\b=m.n/\∃(i:Nat) (is:Bool),rv=.tuple #[YR i,.bool is]/\(is->∃x,l[i]?=some x/\x.u.id=id)/\(is=false->∀x∈l,x.u.id≠id)) (hX.no _ rfl) (Kg func237) rfl ?_;rw[ad3];dsimp only[δ,ζ,η,κ,χ];rw[h.len dc,az];refine Lp.intro (γ:=Nat×Nat) (λs=>s.2-s.1) (λs vs mm lo=>vs=[YR s.1,YR s.2]/\s.1<=s.2/\s.2<=l.length/\m=mm/\m.n<=lo/\(∀k x,k<s.1->l[k]?=some x->x.u.id<id)/\∀k x,s.2<=k->l[k]?=some x->id<=x.u.id) (0,l.length) ⟨rfl,ZE _,Ox _,rfl,Ox _,λk x hk=>by omega,by grind⟩ ?_;rintro⟨i,j⟩ vs mm lo ⟨rfl,m0,hj,rfl,n0,d0,b0⟩;dsimp only at m0 hj d0 b0⊢;rw[aB,aB,aM,ae,aj];refine an (λa0=>?_) (λg0=>?_)
  ·have a0:i<j:=by grind
   obtain⟨x,hx⟩:∃x,l[(i+j)/2]?=some x:=⟨_,qp⟩
   have⟨a,e1,e2,_⟩:=h.eY (k:=.i64) hx;have i0:=fP hx;rw[aP,ae,wrap64,show(i:Int)+(j:Int)=((i+j:Nat):Int) by omega,Gj,WJ (by omega),ae,W0,ae,Gk,wrap64,ae,e1,ae,e2,ae,cg];refine aG (Im hX x.u x.w id) ?_;rw[aM,ae,aj];have e0:∀k y,l[k]?=some y->(k<(i+j)/2->y.u.id<x.u.id)/\((i+j)/2<k->x.u.id<y.u.id):=λk y hk=>⟨λa0=>hP.SH a0 (fP hk) i0,λa0=>hP.SH a0 i0 (fP hk)⟩
   refine an (λhc=>?_) (λhc=>?_)
   ·have hc:x.u.id<id:=by
     unfold dp at hc;by_cases h1:x.u.id<id;·exact h1
     rw[QL h1]at hc;split at hc <;>simp at hc
    rw[aP,ae,wrap64];refine⟨((i+j)/2+1,j),by grind,by grind,by grind,hj,rfl,by omega,λk y hk hy=>?_,b0⟩;by_cases e:k=(i+j)/2;·subst e;rw[hx]at hy;cases hy;exact hc
    have:=(e0 k y hy).1 (by grind);omega
   have hc:id<=x.u.id:=by
    unfold dp at hc;by_cases h1:x.u.id<id;·rw[Tf h1]at hc;simp at hc
    omega
   refine⟨(i,(i+j)/2),by grind,rfl,by grind,by grind,rfl,by omega,d0,λk y hk hy=>?_⟩;by_cases e:k=(i+j)/2;·subst e;rw[hx]at hy;cases hy;exact hc
   have:=(e0 k y hy).2 (by grind);omega
  have j0:i=j:=by
   have:¬(i:Int)< (j:Int):=by grind
   omega
  subst j0;refine aZ (λvs m' k0=>∃is,vs=[YR i,.bool is]/\m=m'/\m.n<=k0/\(is->∃x,l[i]?=some x/\x.u.id=id)/\(is=false->∀x∈l,x.u.id≠id)) (λR hR=>?_) ?_
  ·rw[aM,ae,aj];refine an (λa0=>?_) (λg0=>?_)
   ·have a0:i<l.length:=by grind
    obtain⟨x,hx⟩:∃x,l[i]?=some x:=⟨_,Fx a0⟩
    have⟨a,e1,e2,_⟩:=h.eY (k:=.i64) hx;rw[e1,ae,e2,ae,cg];refine aG (Im hX x.u x.w id) ?_;rw[aS,ae];refine hR _ _ _ ⟨_,rfl,rfl,by omega,λhe=>⟨x,hx,?_⟩,λhe y hy o0=>?_⟩
    ·have he:dp x.u.id id=0:=by grind
     unfold dp at he;by_cases h1:x.u.id<id;·rw[Tf h1]at he;omega
     rw[QL h1]at he;by_cases h2:id<x.u.id;·rw[Tf h2]at he;omega
     omega
    have he:¬dp x.u.id id=0:=by grind
    have⟨k,hk⟩:=ZZ hy;by_cases e:k=i;·subst e;rw[hx]at hk;cases hk;apply he;unfold dp;rw[im,im]
    by_cases e2:k<i;·have:=d0 k y e2 hk;omega
    have:=b0 i x (Ox _) hx;have:=hP.SH (show i<k by omega) (fP hx) (fP hk);omega
   have g0:l.length<=i:=by
    have:¬(i:Int)< (l.length:Int):=by grind
    omega
   refine hR _ _ _ ⟨false,rfl,rfl,n0,λh=>(by cases h),λ_ y hy o0=>?_⟩;have⟨k,hk⟩:=ZZ hy;have:=d0 k y (by grind) hk;omega
  rintro _ _ k0 ⟨is,rfl,rfl,l0,h1,h2⟩;rw[aB,aB];exact .inl ⟨rfl,l0,rfl,rfl,i,is,rfl,h1,h2⟩
 obtain⟨rv,m',b,hc,rfl,rfl,i,is,rfl,h1,h2⟩:=key;exact⟨i,is,hc,h1,h2⟩
end
section
variable {X:aK} {m:M}
theorem GY{u:Un}(h:jD u):bI u.shape:=by
 simp only[jD,JJ]at h;grind
def ck(us:List Un)(id:Int):Option Un:=us.find? λu=>decide (u.id=id)
theorem pE{us:List Un}(hP:cq us){i:Nat}{a:Un}(h:us[i]?=some a):ck us a.id=some a:=by
 unfold ck;cases e:us.find? λu=>decide (u.id=a.id)with
 |none=>
  grind
 |some b=>
  have h1:=List.find?_some e;have h1:b.id=a.id:=by grind
  have⟨k,hk⟩:=ZZ (ZT e);rcases QS i k with a0|rfl|a0;·have:=hP.SH a0 h hk;omega
  ·grind
  have:=hP.SH a0 hk h;omega
theorem rH{us:List Un}{id:Int}(h:∀u∈us,u.id≠id):ck us id=none:=by
 unfold ck;grind
theorem fX{us:List Un}{id:Int}{u:Un}(h:ck us id=some u):u∈us/\u.id=id:=by
 unfold ck at h;grind
theorem Pg(hX:cd X){l:List UW}{v:Φ}(h:cP m l v)(hP:cq (bM l))(id:Int):
  ∃ov m',C X (.func 198) [.agg #[v],YR id] m m.n (.tuple #[ov,.bool (ck (bM l) id).isSome]) m'/\Ext m m'/\R8 m' (ck (bM l) id) ov/\(∀u,ck (bM l) id=some u->∃w,ov=u.v w/\Ow m.n m' u.shape w):=by
 have hl:l.length<=12:=by have:=hP.len;rwa[cx]at this
 have key:∃rv m' b,C X (.func 198) [.agg #[v],YR id] m b rv m'/\b=m.n/\∃ov,rv=.tuple #[ov,.bool (ck (bM l) id).isSome]/\Ext m m'/\R8 m' (ck (bM l) id) ov/\(∀u,ck (bM l) id=some u->∃w,ov=u.v w/\Ow m.n m' u.shape w):=by
  refine Cl.gen (R:=λrv m' b=>b=m.n/\∃ov,rv=.tuple #[ov,.bool (ck (bM l) id).isSome]/\Ext m m'/\R8 m' (ck (bM l) id) ov/\(∀u,ck (bM l) id=some u->∃w,ov=u.v w/\Ow m.n m' u.shape w)) (hX.no _ rfl) (Kg func198) rfl ?_;rw[Z3];dsimp only[δ,ε,ζ,θ,ι,ξ,ο,ρ,ς,υ,χ,ψ,Γ,Λ,ω];refine aw λm1 d1 D0 i1=>?_;refine aw λm2 j1 r0 E0=>?_;have s0:Ext m m2:=⟨by omega,by grind⟩
  have g1:m2.get m.n=.cells [v] 30 none:=by rw[E0 _ (by omega)];exact D0
  have hF:=h.aE s0;unfold ptrTo;rw[eo,aQ g1 (by simp)];simp only[QA,Wa,zI,TN,ae];refine aG (AG hX hF (by omega)) ?_;rw[fC hP,bk,ae,aj,V8,aN,bJ,ae,dT,aI g1];simp only[Wl,zi,ae];have⟨i,is,hc,u0,F0⟩:=Jp (m:=m2) hX hF.sl hP id;refine aG hc ?_;rw[aH,aH];simp only[zi,F9,ae];rw[bk,ae,aj];refine an (λhb=>?_) (λhb=>?_)
  ·have n0:is=false:=by grind
   have e:ck (bM l) id=none:=rH λu hu=>by obtain⟨x,hx,rfl⟩:=Bf hu;exact F0 n0 x hx
   rw[e];have G0:aJ TE 60 []=some (.agg Un.zc.toArray):=ng;rw[G0,ae];refine aC dm r0 rfl rfl rfl λm9 k1 H0 l1=>?_;rw[nF,aQ H0 (by simp[aT])];refine .inl ⟨by kernel_rfl,by omega,trivial,_,rfl,.refl,rfl,λu h=>by cases h⟩
  have n0:is:=by grind
  obtain⟨x,hx,rfl⟩:=u0 n0;rw[pE hP (fP hx)];have⟨a,e1,e2,v0⟩:=hF.sl.eY (k:=.i64) hx;have y0:=LZ hx;have hv:=(GY (hP.val x.u (LY.2 ⟨x,y0,rfl⟩)))
  have z0:=eC hv;have I0:ah TE m2 28 (Ga m.n 0)=some v:=by rw[dT,aI g1];rfl
  rw[I0,ae,e1,ae,e2,ae];refine aw λo1 N0 A0 O0=>?_;refine aC dm A0 rfl rfl (Un.cH v0) λo0 P0 d0 a1=>?_;have d0:o0.get m2.n=.cells x.c 60 none:=d0;have g0:Ext m2 o0:=⟨by omega,by grind⟩
  obtain⟨-, -, -,l3, -, -⟩:=kz d0;rw[bD,ae,l3,ae];obtain⟨w',J0,B0,a0,e0⟩:=ze (m:=o0) hX ((hF.sh x y0).aE g0) (by grind) (by omega);refine aG B0 ?_;have n34:=e0.n;have o7:one w':=a0.sl.one;have p0:=e0.cells d0;rw[ae];refine bS vj p0 (by rw[a0.sl.cells];rfl) (by rw[a0.sl.cells];show 3+1<=6;omega) (by rw[a0.sl.cells];simp[o7]) λC0 b1 i0 b0=>?_;have i0:C0.get m2.n=.cells (x.u.c w') 60 none:=by rw[i0,a0.sl.cells];rfl
  rw[bU i0,ae];have j0:C0.get m1.n=.cells Un.zc 60 none:=by rw[b0 _ (by omega),e0.get _ (by omega),g0.get _ (by omega),r0]
  refine aC dm j0 rfl rfl (Un.cH o7) λk0 c1 l0 m0=>?_;have l0:k0.get m1.n=.cells (x.u.c w') 60 none:=l0;rw[bU l0,ae];have K0:Sl k0 x.u.shape w':=a0.sl.aV λb c t g hb ht=>by
   have h1:b≠m2.n:=λe=>by subst e;rw[p0]at hb;cases hb;simp[aW.ty,aW.cT]at ht
   rw[m0 b (λe=>by subst e;rw[<-b0 _ h1,j0]at hb;cases hb;simp[aW.ty,aW.cT]at ht),b0 b h1,hb]
  have q0:∀b c t g,J0.get b=.cells c t g->t∈aW.ty Pl::aW.cT Pl->k0.get b=.cells c t g:=λb c t g hb ht=>by
   have h1:b≠m2.n:=λe=>by subst e;rw[p0]at hb;cases hb;simp[aW.ty,aW.cT]at ht
   rw[m0 b (λe=>by subst e;rw[<-b0 _ h1,j0]at hb;cases hb;simp[aW.ty,aW.cT]at ht),b0 b h1,hb]
  have p1:Ow m.n k0 x.u.shape w':=(a0.mono (by grind)).aV q0;have L0:Ext m k0:=⟨by grind,λc hc=>by rw[m0 c (by omega),b0 c (by omega),e0.get c (by grind),g0.get c (by omega),s0.get c hc]⟩
  rcases a0 with⟨_,h0⟩|⟨b,cs,rfl,_⟩;·rw[h0]at z0;simp at z0
  exact .inr ⟨.inl (by simp[bh,bA,dC,bw]),by omega,_,rfl,L0,⟨_,rfl,K0⟩,by grind⟩
 obtain⟨rv,m',b,hc,rfl,ov,rfl,h1,h2,h3⟩:=key;exact⟨ov,m',hc,h1,h2,h3⟩
theorem ace(hX:cd X){l:List UW}{v:Φ}(h:cP m l v)(hP:cq (bM l))(id:Int):
  ∃ov m',C X (.func 198) [.agg #[v],YR id] m m.n (.tuple #[ov,.bool (ck (bM l) id).isSome]) m'/\Ext m m'/\R8 m' (ck (bM l) id) ov:=by
 obtain⟨ov,m',h1,h2,h3, -⟩:=Pg hX h hP id;grind
end
section
open Go Go.D Go.tL Go.Proofs.Tryz
theorem cq.pair{us:List Un}(h:cq us):us.Pairwise (λa b=>a.id<b.id):=by rw[Px];intro i j hi hj a0;exact h.SH a0 (Fx hi) (Fx hj)
theorem cq.find{us:List Un}(h:cq us){u:Un}(hu:u∈us):ck us u.id=some u:=by have⟨i,hi⟩:=ZZ hu;exact pE h hi
theorem cq.id0{us:List Un}(h:cq us){u:Un}(hu:u∈us):0<=u.id/\u.id<=99:=by have:=h.val u hu;simp only[jD,cR,JJ,EU]at this;omega
end
section
variable {X:aK} {m:M}
section
variable {α:Type} [aW α] {T:TypeId} {ti:TI}
theorem gU{x:α}{cs:Bt}{b:Nat}{g:Option Nat}(h:m.get b=.cells cs (aW.ty α) g)(hr:aW.rep m x cs):Sl m [x] (KI b 0 1 1):=
 .inr ⟨b,0,1,_,g,rfl,h,by rw[aW.len hr];simp,λi y hi=>by
  match i with
  |0=>
   cases hi;have hl:=aW.len hr;grind
  |i+1=>cases hi⟩
theorem Eb{m m1:M}{e k sl sc a0:Nat}{base:Option Addr}{news:Bt}{v':Φ}(h:lY m e k base sl sc a0 news=some (v',m1)):v'=KI m.n 0 a0 a0:=by
 unfold lY at h;grind
theorem kn{E:Env}{m m1:M}{T U:TypeId}{sl sc n:Nat}{base:Option Addr}{x v':Φ}(h:av E (m.wl m.n) .append [T,U] [.slice base sl sc,x]=some (v',m1))(hn:lX x=some n)(d0:sc<sl+n):
  v'=KI m.n 0 (sl+n) (sl+n):=by
 have h:dU E (m.wl m.n) T U (.slice base sl sc) x=some (v',m1):=h;unfold dU at h;rw[hn]at h;split at h
 ·rename_i ti ui a0 e0 g0 n' _ _ hs b0;cases hs;cases b0;split at h;·cases h
  ·rename_i e _ _;cases h1:E.ty.get e with
   |none=>simp only[h1]at h;cases h
   |some ei=>
    cases h2:first? (m.wl m.n) ti.es n x with
    |none=>simp only[h1,h2]at h;cases h
    |some news=>
     simp only[h1,h2]at h;cases h3:(Nat.beq ti.es 0 ||Nat.blt 65536 ei.bytes || !news.all one ||Nat.blt 268435456 (sl+n) || !Nat.beq news.length (n*ti.es) || !gw ei.zero ti.es)with
     |true=>rw[h3,cond_true]at h;cases h
     |false=>
      rw[h3,T4]at h;have h4:Nat.ble (sl+n) sc=false:=by
       cases hb:Nat.ble (sl+n) sc with
       |false=>rfl
       |true=>have:=JO hb;omega
      rw[h4,T4]at h;exact(Eb h).trans rfl
  cases h
 cases h
theorem yg(hT:qH TE T α)(k0:aW.cT α=[])(t1:TE.ty.get T=some ti)(t2:ti.size=1){n1 oc o:Nat}{cs:Bt}{tc:TypeId}{g:Option Nat}{r a:Φ}{x:α}{m1:M}{acc:List α}
  (hc:m.get oc=.cells cs tc g) (ho:cs[o]?=some r) (l0:oc<n1) (hn:n1<=m.n) (hw:Ow n1 m acc r) (hx:Ext m m1) (hs:Sl m1 [x] a) (o0:acc.length<1000000):
  ∃r' m2 m3,((∃k,r'=KI m1.n 0 k k)/\∀c,c<m1.n->c≠oc->(∀ad n k,r=.slice (some ad) n k->c≠ad.block)->m3.get c=m1.get c)/\av TE (M.wl m1 (M.n m1)) .append [T,T] [r,a]=some (r',m2)/\aD TE m2 T (Ga oc o) r'=some (m3,oc)/\n1<=m2.low/\m3.get oc=.cells (cs.set o r') tc g/\Ow n1 m3 (acc++ [x]) r'/\m1.n<=m3.n/\(∀c,c<n1->c≠oc->m3.get c=m.get c)/\(∀c,c<m1.n->c≠oc->(∀cs g,m1.get c≠.cells cs (aW.ty α) g)->m3.get c=m1.get c):=by
 have p0:=M.aU hc;have q0:=hx.n;have d0:=hw.aE hx;obtain⟨r',m2,e1,h1,h2,h3,h4⟩:=d0.append hT (by grind) hs (by omega) (by grind);have r0:=h2.n;have g2:m2.get oc=.cells cs tc g:=by rw[h2.get _ l0,hx.cells hc]
 have e0:o<cs.length:=(OJ.1 ho).1;have g0:=pg (E:=TE) (o:=o) (x:=r') t1 g2 (by rw[h1.sl.cells,t2];rfl) (by rw[h1.sl.cells];simp;omega) (by rw[h1.sl.cells];simp[h1.sl.one]);have i0:cs.take o++(cells r'++cs.drop (o+(cells r').length))=cs.set o r':=by rw[h1.sl.cells];exact iO e0
 rw[i0]at g0;have hk:∀c,c≠oc->(m2.set oc (.cells (cs.set o r') tc g)).get c=m2.get c:=λc hc=>M.dg hc;have m0:∃k,r'=KI m1.n 0 k k:=by
  obtain⟨ba,bc,rfl⟩:=hs.form;rcases hw with⟨rfl,_⟩|⟨b,n0,rfl,_⟩;·exact⟨_,kn e1 rfl (by simp)⟩
  exact⟨_,kn e1 rfl (by simp)⟩
 refine⟨r',m2,_,⟨m0,λc a0 b0 j0=>by rw[hk c b0,fg e1 a0 j0]⟩,e1,g0,h3,M.dw (M.aU g2),h1.om k0 λc a0 b0=>hk c (by omega),?_,λc a0 b0=>?_,λc a0 b0 j0=>?_⟩
 ·show m1.n<=m2.n;grind
 ·rw[hk c b0,h2.get c a0,hx.get c (by omega)]
 ·rw[hk c b0,fg e1 a0 λad n k e he=>?_];have⟨n0,g',s0,_⟩:=eR d0 e;grind
theorem M9(hT:qH TE T α)(a0:aW.cT α=[])(t1:TE.ty.get T=some ti)(t2:ti.size=1){n1 oc o:Nat}{cs:Bt}{tc:TypeId}{g:Option Nat}{r a:Φ}{x:α}{m1:M}{acc:List α}
  (hc:m.get oc=.cells cs tc g) (ho:cs[o]?=some r) (b0:oc<n1) (hn:n1<=m.n) (hw:Ow n1 m acc r) (hx:Ext m m1) (hs:Sl m1 [x] a) (d0:acc.length<1000000):
  ∃r' m2 m3,av TE (M.wl m1 (M.n m1)) .append [T,T] [r,a]=some (r',m2)/\aD TE m2 T (Ga oc o) r'=some (m3,oc)/\n1<=m2.low/\m3.get oc=.cells (cs.set o r') tc g/\Ow n1 m3 (acc++ [x]) r'/\m1.n<=m3.n/\(∀c,c<n1->c≠oc->m3.get c=m.get c)/\(∀c,c<m1.n->c≠oc->(∀cs g,m1.get c≠.cells cs (aW.ty α) g)->m3.get c=m1.get c):=by
 have⟨r',m2,m3,_,h⟩:=yg hT a0 t1 t2 hc ho b0 hn hw hx hs d0;grind
end
structure Fc where
 un:Int
 side:Int
deriving DecidableEq
abbrev Fc.c(f:Fc):Bt:=[.int .i64 f.un,.int .i64 f.side]
abbrev Fc.v(f:Fc):Φ:=.agg (f.c).toArray
instance:aW Fc where
 ty:=53
 sz:=2
 agg:=true
 cT:=[]
 rep _ f cs:=cs=f.c
 pos:=by decide
 one:=by grind
 len:=by grind
 dS:=by rintro _ _ _ rfl;rfl
 aV:=by grind
theorem dA:oU TE 35 53 Fc:=⟨ag.t35,ag.t53,by kernel_rfl,⟨_,rfl⟩,rfl,by kernel_rfl,rfl,rfl⟩
theorem ve:qH TE 35 Fc:=⟨ag.t35,ag.t53,by kernel_rfl,rfl,rfl,by kernel_rfl,by decide,rfl⟩
end
section
def sM(p q:Pl):Int:=if dp p.x q.x=0 then dp p.y q.y else dp p.x q.x
def fO(p q:Pl):Pl:=if sM q p < 0 then q else p
def yJ(p q:Pl):Pl:=if sM q p < 0 then p else q
def DN(p q:Pl):Pl:=if 0 < sM q p then q else p
def DL(p q:Pl):Pl:=if sM q p < 0 then q else p
def oy(p q r s:Pl):Pl:=DN (fO p q) (fO r s)
def KZ(p q r s:Pl):Pl:=DL (yJ p q) (yJ r s)
def Lb(l:List Pl)(i:Nat):Pl:=gj l ((i+1)%l.length)
theorem CC{l:List Pl}{i:Nat}{p:Pl}(h:l[i]?=some p):gj l i=p:=by unfold gj;rw[h];rfl
theorem Is{l:List Pl}{i:Nat}(h:i<l.length):l[i]?=some (gj l i):=by unfold gj;rw[Fx h];rfl
theorem QT{l:List Pl}{i:Nat}(h:i<l.length):l[(i+1)%l.length]?=some (Lb l i):=Is (TH _ (by omega))
def sq(p q r s:Pl):Option (Pl×Pl):=
 if df p q r≠0\/df p q s≠0 then none
 else if oy p q r s=KZ p q r s\/0 < sM (oy p q r s) (KZ p q r s)then none
 else if 0 < sM p q then some (KZ p q r s,oy p q r s)else some (oy p q r s,KZ p q r s)
def Hh(a b:List Pl)(i:Nat):Option (Pl×Pl):=(List.range b.length).findSome? λk=>sq (gj a i) (Lb a i) (gj b k) (Lb b k)
def xR(a b:List Pl):Option (Pl×Pl):=(List.range a.length).findSome? λi=>Hh a b i
def mM(a b:List Pl):Option (Pl×Pl):=if bI a && bI b && !fw a b then xR a b else none
structure Ct where
 a:Int
 b:Int
 p:Pl
 q:Pl
 back:Int
 front:Int
deriving DecidableEq
def jE(u v:Un):Option Ct:=if jX u v then(mM u.shape v.shape).map λs=>⟨u.id,v.id,s.1,s.2,max u.back v.back,min u.front v.front⟩else none
end
section
variable {X:aK} {m:M}
abbrev Ct.c'(x:Ct):Bt:=[.int .i64 x.a,.int .i64 x.b,.int .i64 x.p.x,.int .i64 x.p.y,.int .i64 x.q.x,.int .i64 x.q.y,.int .i64 x.back,.int .i64 x.front]
abbrev Ct.v(x:Ct):Φ:=.agg (x.c').toArray
abbrev Ct.zc:Bt:=[.int .i64 0,.int .i64 0,.int .i64 0,.int .i64 0,.int .i64 0,.int .i64 0,.int .i64 0,.int .i64 0]
instance:aW Ct where
 ty:=145
 sz:=8
 agg:=true
 cT:=[]
 rep _ x cs:=cs=x.c'
 pos:=by decide
 one:=by grind
 len:=by simp_all
 dS:=by rintro _ _ _ rfl;rfl
 aV:=by grind
theorem Fh:oU TE 138 145 Ct:=⟨ag.t138,ag.t145,by kernel_rfl,⟨_,rfl⟩,rfl,by kernel_rfl,rfl,rfl⟩
theorem GJ:qH TE 138 Ct:=⟨ag.t138,ag.t145,by kernel_rfl,rfl,rfl,by kernel_rfl,by decide,rfl⟩
structure Mk where
 id:Int
 un:Int
 side:Int
 kind:Int
 Hq:Bool
deriving DecidableEq
abbrev Mk.c(x:Mk):Bt:=[.int .i64 x.id,.int .i64 x.un,.int .i64 x.side,.int .i64 x.kind,.bool x.Hq]
abbrev Mk.v(x:Mk):Φ:=.agg (x.c).toArray
instance:aW Mk where
 ty:=137
 sz:=5
 agg:=true
 cT:=[]
 rep _ x cs:=cs=x.c
 pos:=by decide
 one:=by grind
 len:=by simp_all
 dS:=by rintro _ _ _ rfl;rfl
 aV:=by grind
theorem dv:oU TE 31 137 Mk:=⟨ag.t31,ag.t137,by kernel_rfl,⟨_,rfl⟩,rfl,by kernel_rfl,rfl,rfl⟩
theorem vd:qH TE 31 Mk:=⟨ag.t31,ag.t137,by kernel_rfl,rfl,rfl,by kernel_rfl,by decide,rfl⟩
end
end Go.Proofs.YtigpcbodmjjaiaaGreatDoor
namespace Go.D
open Go
section
section
variable {P:Program} {σ:Sg} {m:M} {w w':World}
theorem Ev.kept(h:fN P σ m w)(hk:∀B,B<w.heap.size->w'.heap[B]?=w.heap[B]?)(hle:w.heap.size<=w'.heap.size)(ho:w'.os=w.os)(ht:w'.tape=w.tape)(hu:w'.output=w.output):Ev P σ m w σ m w':=⟨λ_ _ x=>x,⟨h.rT,λb i hb=>(h.obj b i hb).aV (λ_ _ x=>x) (hk _ (h.lt b i hb)),λb i hb=>IV (h.lt b i hb) hle,h.inj,h.lz⟩,Ox _,Ox _,hle,λb i x y=>(by grind),λ_ _ _=>rfl,λB hB _=>hk B hB,ho,ht,hu⟩
end
end
section
section
variable {P:Program} {σ:Sg} {m m':M} {w w':World}
theorem bN.Tp{c c':Bt}{new:Bt}{off:Nat}(h:bN σ c c')(hn:bN σ new new)(hl:off+new.length<=c.length):
  bN σ (c.take off++(new++c.drop (off+new.length))) (c'.take off++(new++c'.drop (off+new.length))):=
 (h.take off).append (hn.append (h.drop _))
theorem Ju{a:Addr}{i:BI}{cs:Bt}{e:TypeId}{g:Option Nat}{F:Bt}(hs:fN P σ m w)(hi:σ a.block=some i)(hg:m.get a.block=.cells cs e g)(hF:(cs.drop a.off).take F.length=F)(b0:F.all bw)(hle:a.off+F.length<=cs.length):
  Sort.Holds id w i.cY a.off F.toArray:=by
 have⟨row,a0,g0,d0,i0⟩:=hs.cells hi hg;intro j hj;have hj:j<F.length:=by grind
 have e1:cs[a.off+j]?=some F[j]:=by
  grind
 have⟨u,j0,e0⟩:=d0.get e1;have hf:=e0.bR (Jl.1 b0 _ (List.getElem_mem hj));refine⟨?_,by simp[World.frozen?,a0]⟩;simp only[World.cell?,a0];grind
theorem QE{a:Addr}{i:BI}{cs:Bt}{e:TypeId}{g:Option Nat}{F:Bt}(hs:fN P σ m w)(hi:σ a.block=some i)(hg:m.get a.block=.cells cs e g)(e0:F.all bw)(hle:a.off+F.length<=cs.length)(k:Nat)(os:Array Obj):
  Ev P σ m w σ (m.set a.block (.cells (cs.take a.off++(F++cs.drop (a.off+F.length))) e g)) (Sort.grow (Sort.putRow id (Sort.ahead w k) i.cY a.off F.toArray) os):=by
 have⟨row,g0,k0,i0,l0⟩:=hs.cells hi hg;have a0:∀B,(Sort.putRow id (Sort.ahead w k) i.cY a.off F.toArray).heap[B]?=if B=i.cY then some (.cells (Sort.putCells id a.off F.toArray row) e (0,0))else w.heap[B]?:=by
  intro B;simp only[Sort.putRow,Sort.mapBlock,Wr,Sort.ahead];by_cases hB:i.cY=B;·subst hB;simp only[RK,g0,TN,Sort.onCells]
  ·grind
 have j0:(Sort.putCells id a.off F.toArray row).toList=row.toList.take a.off++(F++row.toList.drop (a.off+F.length)):=by
  apply OG;simp only[Sort.putCells,wo,Array.getElem?_mapIdx,TP];grind
 have b0:Ev P σ m w σ (m.set a.block (.cells (cs.take a.off++(F++cs.drop (a.off+F.length))) e g)) (Sort.putRow id (Sort.ahead w k) i.cY a.off F.toArray):=by
  refine Ev.write hs hi (by grind) ?_ (by grind) (by simp_all) rfl rfl rfl;have d0:(cs.take a.off++(F++cs.drop (a.off+F.length))).length=cs.length:=by
   grind
  have m0:(Sort.putCells id a.off F.toArray row).size=row.size:=by simp[Sort.putCells]
  refine⟨_,(by rw[a0,Tf rfl]),by grind,?_,by grind⟩;have n0:=bN.Tp (σ:=σ) (off:=a.off) (new:=F) i0 (bN.of_flat e0) hle;have hA:(row.toList.take a.off).length=a.off:=by grind
  have e2:(row.toList.take cs.length).take a.off++(F++(row.toList.take cs.length).drop (a.off+F.length))=(row.toList.take a.off++(F++row.toList.drop (a.off+F.length))).take cs.length:=by
   rw[Lf,Lf,hA];congr 1;·grind
   ·congr 1;·rw[QM (by omega)]
    ·rw[List.drop_take];grind
  grind
 exact b0.trans (Ev.kept b0.vY (λB hB=>by simp only[Sort.grow];rw[Array.getElem?_append_left hB]) (by simp_all) rfl rfl rfl)
theorem LK.Jo{b:Nat}{cs:Bt}{e:TypeId}{g:Option Nat}{o:Ob}(h:m.get b=.cells cs e g):LK m (m.set b o):=λc r hc=>by
 have hb:b<m.n:=M.jN (by grind);have a0:c≠b:=by grind
 exact⟨r,by rw[M.cj _ _ _ _ hb,QL a0];exact hc⟩
variable {α:Type}
def KD(dec:Bt->Option α)(k:Nat):Nat->Bt->Option (List α)
 |0,_=>some []
 |n+1,cs=>match dec (cs.take k)with
  |some x=>match KD dec k n (cs.drop k)with |some l=>some (x::l) |none=>none
  |none=>none
theorem AS{dec:Bt->Option α}{enc:α->Bt}{k:Nat}(hd:∀cs x,dec cs=some x->cs=enc x):∀(n:Nat) (cs:Bt) (l:List α),KD dec k n cs=some l->l.length=n/\cs.take (n*k)=l.flatMap enc
 |0,cs,l,h=>by cases h;simp
 |n+1,cs,l,h=>by
  unfold KD at h;split at h
  ·rename_i x hx;split at h
   ·rename_i l' hl;cases h;obtain⟨h1,h2⟩:=AS hd n _ _ hl;refine⟨by grind,?_⟩;rw[Fw,<-hd _ _ hx,<-h2,JY,KR,Kv,List.take_add]
   ·cases h
  ·cases h
theorem Er{dec:Bt->Option α}{enc:α->Bt}{k:Nat}(hd:∀x,dec (enc x)=some x)(hk:∀x,(enc x).length=k):∀(l:List α),KD dec k l.length (l.flatMap enc)=some l
 |[]=>rfl
 |x::l=>by
  simp only[zG,KD,Fw];rw[List.take_append_of_le_length (by grind),QM (by grind),hd];rw[List.drop_append_of_le_length (by grind),Wd (by grind),Zi,Er hd hk l]
structure P8(α:Type) where
 S:Nat
 k:Nat
 dec:Bt->Option α
 enc:α->Bt
 res:List α->List α
 ok:Bt->Bool
def qC(N:P8 α):aK:=λfn args m=>
 match fn with
 |.func f=>
  bif Nat.beq f N.S then
   match args with
   |.slice (some a) n _::more=>
    match m.get a.block with
    |.cells cs e g=>
     bif N.ok more && (a.spot.isNone && Nat.ble 1 (n*N.k) && Nat.ble (a.off+n*N.k) cs.length && Nat.ble n 1048576)then
      match KD N.dec N.k n ((cs.drop a.off).take (n*N.k))with
      |some l=>some (.tuple #[],m.set a.block (.cells (cs.take a.off++((N.res l).flatMap N.enc++cs.drop (a.off+n*N.k))) e g))
      |none=>none
     else none
    |_=>none
   |.slice none 0 0::more=>bif N.ok more then some (.tuple #[],m)else none
   |_=>none
  else none
 |_=>none
structure PW(P:Program)(N:P8 α):Prop where
 Zq:∀args w,(callFunc N.S args).run P w=.ok (.enter N.S args) w
 dec:∀cs x,N.dec cs=some x->cs=N.enc x
 flat:∀x,(N.enc x).all bw=true
 len:∀x,(N.enc x).length=N.k
 res:∀l,(N.res l).length=l.length
 more:∀more,N.ok more=true->more.all bw=true
 go:∀(more:Bt) (cY off cap:Nat) (l:List α) (w:World),N.ok more=true->Sort.Holds id w cY off (l.flatMap N.enc).toArray->cY < w.heap.size->l.length<=1048576->
  Calls P N.S (.slice (some ⟨cY,off,none⟩) l.length cap::more).toArray w λe w'=>e=.returned (.tuple #[])/\∃n os,w'=Sort.grow (Sort.putRow id (Sort.ahead w n) cY off ((N.res l).flatMap N.enc).toArray) os
 none:∀(more:Bt) (w:World),N.ok more=true->Calls P N.S (.slice none 0 0::more).toArray w λe w'=>e=.returned (.tuple #[])/\w'=w
theorem bN.HW{l l':Bt}(h:bN σ l l')(hf:l.all bw):l'=l:=by
 apply OG;intro j;cases hj:l[j]? with
 |none=>exact M8 (by rw[<-h.1];exact TZ.1 hj)
 |some u=>have⟨u',hu,hr⟩:=h.get hj;rw[hu,hr.bR (Jl.1 hf u (LZ hj))]
theorem ib{enc:α->Bt}{k:Nat}(h:∀x,(enc x).length=k):∀l:List α,(l.flatMap enc).length=l.length*k
 |[]=>by simp
 |x::l=>by rw[Fw,NN,h,ib h l,zG,JY,KR,Kv]
theorem tg{enc:α->Bt}(h:∀x,(enc x).all bw)(l:List α):(l.flatMap enc).all bw:=by
 grind
theorem Ji(N:P8 α):nX (qC N):=λfn args m v m' h=>by
 unfold qC at h;split at h
 ·rename_i f;cases hf:Nat.beq f N.S with
  |false=>rw[hf]at h;cases h
  |true=>
   rw[hf,cond_true]at h;split at h
   ·rename_i a n c more;split at h
    ·rename_i cs e g hg;cases hc:(N.ok more && (a.spot.isNone && Nat.ble 1 (n*N.k) && Nat.ble (a.off+n*N.k) cs.length && Nat.ble n 1048576))with
     |false=>rw[hc]at h;cases h
     |true=>
      rw[hc,cond_true]at h;split at h
      ·cases h;exact LK.Jo hg
      ·cases h
    ·cases h
   ·rename_i more;cases hc:N.ok more with
    |false=>rw[hc]at h;cases h
    |true=>rw[hc,cond_true]at h;cases h;exact LK.refl
   ·cases h
 ·cases h
theorem He{N:P8 α}(h:PW P N):dJ P (qC N):=by
 refine⟨λf args m v m' hx σ w a0 hs hl=>?_,λl args m v m' hx=>by simp[qC]at hx,Ji N⟩;unfold qC at hx;dsimp only at hx;cases hf:Nat.beq f N.S with
 |false=>rw[hf]at hx;cases hx
 |true=>
  obtain rfl:=vZ hf;rw[hf,cond_true]at hx;refine⟨?_,h.Zq a0 w⟩;refine callsIn_wide.2 ?_;split at hx
  ·rename_i a n cap more;split at hx
   ·rename_i cs e g hg;cases hc:(N.ok more && (a.spot.isNone && Nat.ble 1 (n*N.k) && Nat.ble (a.off+n*N.k) cs.length && Nat.ble n 1048576))with
    |false=>rw[hc]at hx;cases hx
    |true=>
     rw[hc,cond_true]at hx;simp only[JJ]at hc;have⟨i0,⟨⟨c1,c2⟩,c3⟩,c4⟩:=hc;have c2:=JO c2;have c4:=JO c4;split at hx
     ·rename_i l hz;cases hx;obtain⟨hlen,n0⟩:=AS (enc:=N.enc) h.dec _ _ _ hz;have o0:=ib h.len l;have⟨x',l1,e0,hv,g0⟩:=hl.cases;have b0:=g0.HW (h.more more i0);subst b0;obtain⟨i,a',c',hi,rfl,k0⟩:=hv.fA;have p0:n≠0:=by
       grind
      have l0:a'=⟨i.cY,a.off,none⟩:=by
       grind
      subst l0;have d0:a0=(Value.slice (some ⟨i.cY,a.off,none⟩) l.length c'::l1).toArray:=by
       grind
      subst d0;have hF:(cs.drop a.off).take (l.flatMap N.enc).length=l.flatMap N.enc:=by grind
      have hH:=Ju hs hi hg hF (tg h.flat l) (by grind);refine(h.go l1 i.cY a.off c' l w i0 hH (hs.lt _ _ hi) (by omega)).mono ?_;rintro en w2 ⟨rfl,k,os,rfl⟩;have m0:((N.res l).flatMap N.enc).length=n*N.k:=by rw[ib h.len,h.res,hlen]
      have j0:=QE (F:=(N.res l).flatMap N.enc) hs hi hg (tg h.flat _) (by grind) k os;rw[m0]at j0;exact⟨_,σ,rfl,.undef,j0⟩
     cases hx
   cases hx
  ·rename_i more;cases hc:N.ok more with
   |false=>rw[hc]at hx;cases hx
   |true=>
    rw[hc,cond_true]at hx;cases hx;have⟨x',l1,e0,hv,g0⟩:=hl.cases;have b0:=g0.HW (h.more more hc);subst b0;obtain⟨_,_,rfl⟩:=hv.iN;have d0:a0=(Value.slice none 0 0::l1).toArray:=by grind
    subst d0;refine(h.none l1 w hc).mono ?_;rintro en w2 ⟨rfl,rfl⟩;exact⟨_,σ,rfl,.undef,.refl hs⟩
  cases hx
end
end
end Go.D
namespace Go.Proofs.YtigpcbodmjjaiaaGreatDoor
section
variable {X:aK} {m:M}
def JC(l:List Int):Int:=match l.find? (λx=> !(decide (x=0)))with |some x=>x |none=>0
theorem Dy{l:List Int}(h:∀(j:Nat) x,l[j]?=some x->x=0):JC l=0:=by
 unfold JC;have:l.find? (λx=> !(decide (x=0)))=none:=Fl.2 λx hx=>by
  have⟨j,hj⟩:=KF.1 hx;grind
 grind
theorem sN:∀{l:List Int} {i:Nat} {x:Int},l[i]?=some x->x≠0->(∀(j:Nat) y,j<i->l[j]?=some y->y=0)->JC l=x
 |[],i,x,h,_,_=>by grind
 |a::l,0,x,h,hx,_=>by
  cases h;unfold JC;grind
 |a::l,i+1,x,h,hx,hz=>by
  have ha:=hz 0 a (by omega) rfl;subst ha;have:=sN (l:=l) (i:=i) (x:=x) (by grind) hx λj y hj hy=>hz (j+1) y (by omega) (by grind);unfold JC at this⊢;grind
theorem Hp(hX:cd X){l:List Int}{v:Φ}(hl:Sl m l v)(hb:l.length<1000000):C X (.func 80) [v] m m.n (YR (JC l)) m:=by
 refine Cl.fl hX (Kg func80) ?_;rw[F80];dsimp only[δ,ζ,η,κ,χ];rw[hl.len je,az];refine Lp.intro (γ:=Nat) (λi=>l.length-i) (λi vs mm lo=>vs=[YR 0,YR i]/\mm=m/\lo=m.n/\i<=l.length/\∀(j:Nat) y,j<i->l[j]?=some y->y=0) 0 ⟨rfl,rfl,rfl,ZE _,λj y hj=>by omega⟩ ?_;rintro i vs mm lo ⟨rfl,rfl,rfl,hi,hz⟩;rw[aB,aB,aM,ae,aj];refine an (λh=>?_) (λh=>?_)
 ·have h:i<l.length:=by grind
  obtain⟨x,hx⟩:∃x,l[i]?=some x:=⟨_,Fx h⟩
  have⟨p,cs,e1,e2,e3⟩:=hl.index je (k:=.i64) hx;obtain rfl:cs=[YR x]:=e3;rw[e1,ae,e2,ae];show ai (aA TE .neq 3 (YR x) (YR 0)) _;rw[bL,ae,aj];refine an (λhb=>?_) (λhb=>?_)
  ·have a0:x≠0:=by grind
   refine⟨?_,Ox _⟩;rw[sN hx a0 hz];rfl
  have a0:x=0:=by grind
  rw[aP,ae,wrap64];refine⟨i+1,by omega,rfl,rfl,rfl,by omega,λj y hj hy=>?_⟩;by_cases e:j=i;·subst e;rw[hx]at hy;cases hy;exact a0
  exact hz j y (by omega) hy
 have b0:i=l.length:=by
  have:¬(i:Int)< (l.length:Int):=by grind
  omega
 refine⟨?_,Ox _⟩;rw[Dy λj y hy=>hz j y (by grind) hy];rfl
theorem SL{x y:Int}:aF TE m 26 2 [(0,.int .i64 x),(1,.int .i64 y)]=some (.slice (some ⟨m.n,0,none⟩) 2 2,m.push (.cells [.int .i64 x,.int .i64 y] 3 none)):=by kernel_rfl
theorem Dg{x y:Int}{b:Nat}{g:Option Nat}(h:m.get b=.cells [YR x,YR y] 3 g):Sl m [x,y] (KI b 0 2 2):=
 .inr ⟨b,0,2,_,g,rfl,h,Ox _,λi z hi=>by
  match i with
  |0=>cases hi;rfl
  |1=>cases hi;rfl
  |i+2=>simp at hi⟩
theorem abR(p q:Pl):JC [dp p.x q.x,dp p.y q.y]=sM p q:=by
 unfold sM;by_cases h:dp p.x q.x=0
 ·rw[Tf h];by_cases h2:dp p.y q.y=0
  ·rw[Dy (by
    intro j x hj;match j with
    |0=>cases hj;exact h
    |1=>cases hj;exact h2
    |j+2=>simp at hj),h2]
  exact sN (i:=1) rfl h2 (by
   intro j y hj hy;match j with
   |0=>cases hy;exact h
   |j+1=>omega)
 rw[QL h];exact sN (i:=0) rfl h λj y hj=>by omega
theorem HG{b:Nat}{p:Pl}{e:TypeId}{g:Option Nat}(h:m.get b=.cells p.c e g):ah TE m 3 (Ga b (0+0))=some (YR p.x):=by rw[bF,aI h];rfl
theorem HF{b:Nat}{p:Pl}{e:TypeId}{g:Option Nat}(h:m.get b=.cells p.c e g):ah TE m 3 (Ga b (0+1))=some (YR p.y):=by rw[bF,aI h];rfl
theorem sL(hX:cd X)(p q:Pl):C X (.func 195) [p.v,q.v] m m.n (YR (sM p q)) m:=by
 refine Cl.fl hX (Kg func195) ?_;rw[aeA];dsimp only[δ,ε,ν,ρ,υ,ψ,Γ];refine aw λm1 e0 a0 g0=>?_;refine aw λm2 i0 b0 d0=>?_;have g1:m2.get m.n=.cells p.c 141 none:=by rw[d0 _ (by omega)];exact a0
 have g2:m2.get m1.n=.cells q.c 141 none:=b0;unfold ptrTo;rw[bY,ae,HG g1,ae,bY,ae,HG g2,ae];refine aG (ed hX _ _) ⟨Ox _,?_⟩;rw[cN,ae,HF g1,ae,cN,ae,HF g2,ae];refine aG (ed hX _ _) ?_;rw[SL,az];have hg:(m2.push (.cells [.int .i64 (dp p.x q.x),.int .i64 (dp p.y q.y)] 3 none)).get m2.n=.cells [.int .i64 (dp p.x q.x),.int .i64 (dp p.y q.y)] 3 none:=M.aX;have hn:(m2.push (.cells [.int .i64 (dp p.x q.x),.int .i64 (dp p.y q.y)] 3 none)).n=m2.n+1:=rfl;refine aG (Hp hX (Dg hg) (by grind)) ?_;refine⟨?_,by omega⟩;rw[abR];rfl
end
section
variable {X:aK} {m:M}
theorem aeJ(hX:cd X){p q:Pl}{v:Φ}(hl:Sl m [p,q] v):C X (.func 234) [v,.func (.func 195) #[] #[]] m m.n (DN p q).v m:=by
 refine Cl.fl hX (Kg func234) ?_;rw[ZM];dsimp only[δ,ζ,η,ι,κ,ς,υ,χ,ω];refine aw λm1 s0 u0 k0=>?_;have b0:=hl.aE (m':=m1) ⟨by omega,k0⟩;rw[b0.len cA,az,aM,ae,aj];show gH (decide (((2:Nat):Int)< 1)) _ _;rw[show decide (((2:Nat):Int)< 1)=false from rfl,aN];have⟨a,e1,e2⟩:=b0.dX (k:=.i64) (i:=0) rfl;have e1:ak TE 58 v (YR 0)=some a:=e1;rw[e1,ae,e2,ae];refine aw λm6 v0 l0 y0=>?_;unfold ptrTo;refine aC dd l0 rfl rfl rfl λm7 z0 d0 A0=>?_;have d0:m7.get m1.n=.cells p.c 141 none:=d0;have e0:∀c,c<m1.n->m7.get c=m1.get c:=by grind
 refine Lp.intro (γ:=Nat) (λi=>2-i) (λi vs mm lo=>vs=[YR i]/\(i=1/\mm.get m1.n=.cells p.c 141 none\/i=2/\mm.get m1.n=.cells (DN p q).c 141 none)/\mm.n=m7.n/\(∀c,c<m1.n->mm.get c=m1.get c)/\m.n<=lo) 1 ⟨rfl,.inl ⟨rfl,d0⟩,rfl,e0,by omega⟩ ?_;rintro i vs mm lo ⟨rfl,hi,m0,hk,B0⟩;have i0:Sl mm [p,q] v:=b0.aV λb c t g hb _=>by rw[hk b (M.aU hb),hb]
 rw[aB,i0.len cA,az,aM,ae,aj];rcases hi with⟨rfl,hc⟩|⟨rfl,hc⟩
 ·show gH (decide (((1:Nat):Int)< ((2:Nat):Int))) _ _;rw[show decide (((1:Nat):Int)< ((2:Nat):Int))=true from rfl,bH];have⟨a,e1,e2⟩:=i0.dX (k:=.i64) (i:=1) rfl;rw[e1,ae,e2,ae,bT hc,ae,cg];refine aG (sL hX q p) ?_;rw[bP,ae,aj];refine an (λhb=>?_) (λhb=>?_);·have hb:=NT hb;rw[ae,e2,ae];refine aC dd hc rfl rfl rfl λC0 o0 j0 p0=>?_;refine⟨2,by omega,rfl,.inr ⟨rfl,?_⟩,by omega,by grind,by omega⟩;rw[j0,show DN p q=q by unfold DN;rw[Tf hb]];rfl
  have hb:=Ja hb;refine⟨2,by omega,rfl,.inr ⟨rfl,?_⟩,m0,hk,by omega⟩;rw[hc,show DN p q=p by unfold DN;rw[QL hb]]
 show gH (decide (((2:Nat):Int)< ((2:Nat):Int))) _ _;rw[show decide (((2:Nat):Int)< ((2:Nat):Int))=false from rfl,aN,bT hc,ae];have g0:mm.get m.n=.cells [YR 0,YR 0] 141 none:=by grind
 refine aC dd g0 rfl rfl rfl λn0 q0 a0 r0=>?_;have a0:n0.get m.n=.cells (DN p q).c 141 none:=a0;rw[bT a0,ae];exact⟨rfl,by omega⟩
theorem QX(hX:cd X){p q:Pl}{v:Φ}(hl:Sl m [p,q] v):C X (.func 235) [v,.func (.func 195) #[] #[]] m m.n (DL p q).v m:=by
 refine Cl.fl hX (Kg func235) ?_;rw[ZL];dsimp only[δ,ζ,η,ι,κ,ς,υ,χ,ω];refine aw λm1 s0 u0 k0=>?_;have b0:=hl.aE (m':=m1) ⟨by omega,k0⟩;rw[b0.len cA,az,aM,ae,aj];show gH (decide (((2:Nat):Int)< 1)) _ _;rw[show decide (((2:Nat):Int)< 1)=false from rfl,aN];have⟨a,e1,e2⟩:=b0.dX (k:=.i64) (i:=0) rfl;have e1:ak TE 58 v (YR 0)=some a:=e1;rw[e1,ae,e2,ae];refine aw λm6 v0 l0 y0=>?_;unfold ptrTo;refine aC dd l0 rfl rfl rfl λm7 z0 d0 A0=>?_;have d0:m7.get m1.n=.cells p.c 141 none:=d0;have e0:∀c,c<m1.n->m7.get c=m1.get c:=by grind
 refine Lp.intro (γ:=Nat) (λi=>2-i) (λi vs mm lo=>vs=[YR i]/\(i=1/\mm.get m1.n=.cells p.c 141 none\/i=2/\mm.get m1.n=.cells (DL p q).c 141 none)/\mm.n=m7.n/\(∀c,c<m1.n->mm.get c=m1.get c)/\m.n<=lo) 1 ⟨rfl,.inl ⟨rfl,d0⟩,rfl,e0,by omega⟩ ?_;rintro i vs mm lo ⟨rfl,hi,m0,hk,B0⟩;have i0:Sl mm [p,q] v:=b0.aV λb c t g hb _=>by rw[hk b (M.aU hb),hb]
 rw[aB,i0.len cA,az,aM,ae,aj];rcases hi with⟨rfl,hc⟩|⟨rfl,hc⟩
 ·show gH (decide (((1:Nat):Int)< ((2:Nat):Int))) _ _;rw[show decide (((1:Nat):Int)< ((2:Nat):Int))=true from rfl,bH];have⟨a,e1,e2⟩:=i0.dX (k:=.i64) (i:=1) rfl;rw[e1,ae,e2,ae,bT hc,ae,cg];refine aG (sL hX q p) ?_;rw[aM,ae,aj];refine an (λhb=>?_) (λhb=>?_);·have hb:=NT hb;rw[ae,e2,ae];refine aC dd hc rfl rfl rfl λC0 o0 j0 p0=>?_;refine⟨2,by omega,rfl,.inr ⟨rfl,?_⟩,by omega,by grind,by omega⟩;rw[j0,show DL p q=q by unfold DL;rw[Tf hb]];rfl
  have hb:=Ja hb;refine⟨2,by omega,rfl,.inr ⟨rfl,?_⟩,m0,hk,by omega⟩;rw[hc,show DL p q=p by unfold DL;rw[QL hb]]
 show gH (decide (((2:Nat):Int)< ((2:Nat):Int))) _ _;rw[show decide (((2:Nat):Int)< ((2:Nat):Int))=false from rfl,aN,bT hc,ae];have g0:mm.get m.n=.cells [YR 0,YR 0] 141 none:=by grind
 refine aC dd g0 rfl rfl rfl λn0 q0 a0 r0=>?_;have a0:n0.get m.n=.cells (DL p q).c 141 none:=a0;rw[bT a0,ae];exact⟨rfl,by omega⟩
structure R3(X:aK):Prop where
 pl:∀(m:M) (b:Nat) (p q:Pl),m.get b=.cells (p.c++q.c) 141 none->C X (.func 233) [.slice (some ⟨b,0,none⟩) 2 2,.func (.func 195) #[] #[]] m b (.tuple #[]) (m.set b (.cells ((fO p q).c++(yJ p q).c) 141 none))
theorem QI{p q:Pl}:aF TE m 58 2 [(0,p.v),(1,q.v)]=some (.slice (some ⟨m.n,0,none⟩) 2 2,m.push (.cells (p.c++q.c) 141 none)):=by kernel_rfl
theorem wN{p q:Pl}{b:Nat}{g:Option Nat}(h:m.get b=.cells (p.c++q.c) 141 g):Sl m [p,q] (KI b 0 2 2):=
 .inr ⟨b,0,2,_,g,rfl,h,Ox _,λi z hi=>by
  match i with
  |0=>cases hi;rfl
  |1=>cases hi;rfl
  |i+2=>simp at hi⟩
theorem ac7(hX:cd X)(hS:R3 X)(p q r s:Pl):C X (.func 194) [p.v,q.v,r.v,s.v] m m.n (.tuple #[(oy p q r s).v,(KZ p q r s).v]) m:=by
 refine Cl.fl hX (Kg func194) ?_;rw[adw];dsimp only[δ,ζ,ι,ν,ρ,ς,υ,χ,ψ,Λ];refine aw λm1 p1 G0 r1=>?_;refine aw λm2 u1 H0 I0=>?_;refine aw λm3 v1 J0 u0=>?_;refine aw λm4 w1 K0 s0=>?_;refine aw λm5 z1 A1 p0=>?_;refine aw λm6 B1 L0 q0=>?_;have g0:m6.get m.n=.cells p.c 141 none:=by rw[q0 _ (by omega),p0 _ (by omega),s0 _ (by omega),u0 _ (by omega),I0 _ (by omega)];exact G0
 have g1:m6.get m1.n=.cells q.c 141 none:=by rw[q0 _ (by omega),p0 _ (by omega),s0 _ (by omega),u0 _ (by omega)];exact H0
 have g2:m6.get m2.n=.cells r.c 141 none:=by rw[q0 _ (by omega),p0 _ (by omega),s0 _ (by omega)];exact J0
 have g3:m6.get m3.n=.cells s.c 141 none:=by rw[q0 _ (by omega),p0 _ (by omega)];exact K0
 have g4:m6.get m4.n=.cells [YR 0,YR 0] 141 none:=by grind
 have g5:m6.get m5.n=.cells [YR 0,YR 0] 141 none:=L0;unfold ptrTo;rw[bT g0,ae,bT g1,ae,QI,az];obtain⟨m10,b0⟩:∃x,x=m6.push (.cells (p.c++q.c) 141 none):=⟨_,rfl⟩
 rw[<-b0];have P0:m10.n=m6.n+1:=by rw[b0];rfl
 have b1:m10.get m6.n=.cells (p.c++q.c) 141 none:=by rw[b0];exact M.aX
 have l0:∀c,c<m6.n->m10.get c=m6.get c:=λc hc=>by rw[b0];exact M.cy hc
 rw[bT (by rw[l0 _ (by omega)];exact g2),ae,bT (by rw[l0 _ (by omega)];exact g3),ae,QI,az];obtain⟨m14,d0⟩:∃x,x=m10.push (.cells (r.c++s.c) 141 none):=⟨_,rfl⟩
 rw[<-d0];have c1:m14.n=m10.n+1:=by rw[d0];rfl
 have d1:m14.get m10.n=.cells (r.c++s.c) 141 none:=by rw[d0];exact M.aX
 have v0:∀c,c<m10.n->m14.get c=m10.get c:=λc hc=>by rw[d0];exact M.cy hc
 have ga:m14.get m6.n=.cells (p.c++q.c) 141 none:=by grind
 refine aG (hS.pl m14 m6.n p q ga) ?_;obtain⟨m16,e0⟩:∃x,x=m14.set m6.n (.cells ((fO p q).c++(yJ p q).c) 141 none):=⟨_,rfl⟩
 rw[<-e0];have e1:m16.n=m14.n:=by rw[e0];rfl
 have h1:m16.get m6.n=.cells ((fO p q).c++(yJ p q).c) 141 none:=by rw[e0];exact M.dw (by omega)
 have y0:∀c,c≠m6.n->m16.get c=m14.get c:=λc hc=>by rw[e0];exact M.dg hc
 have gb:m16.get m10.n=.cells (r.c++s.c) 141 none:=by grind
 refine aG (hS.pl m16 m10.n r s gb) ?_;obtain⟨m19,i0⟩:∃x,x=m16.set m10.n (.cells ((fO r s).c++(yJ r s).c) 141 none):=⟨_,rfl⟩
 rw[<-i0];have i1:m19.n=m16.n:=by rw[i0];rfl
 have z0:m19.get m10.n=.cells ((fO r s).c++(yJ r s).c) 141 none:=by rw[i0];exact M.dw (by omega)
 have A0:∀c,c≠m10.n->m19.get c=m16.get c:=λc hc=>by rw[i0];exact M.dg hc
 have s1:=wN (m:=m19) (p:=fO p q) (q:=yJ p q) (b:=m6.n) (g:=none) (by grind);have s2:=wN (m:=m19) (p:=fO r s) (q:=yJ r s) (b:=m10.n) (g:=none) z0;have⟨a1,x1,y1⟩:=s1.dX (k:=.i64) (i:=0) rfl;have⟨a2,x2,y2⟩:=s2.dX (k:=.i64) (i:=0) rfl;have⟨a3,x3,y3⟩:=s1.dX (k:=.i64) (i:=1) rfl;have⟨a4,x4,y4⟩:=s2.dX (k:=.i64) (i:=1) rfl;have x1:ak TE 58 (KI m6.n 0 2 2) (YR 0)=some a1:=x1;have x2:ak TE 58 (KI m10.n 0 2 2) (YR 0)=some a2:=x2;have x3:ak TE 58 (KI m6.n 0 2 2) (YR 1)=some a3:=x3;have x4:ak TE 58 (KI m10.n 0 2 2) (YR 1)=some a4:=x4;rw[x1,ae,y1,ae,x2,ae,y2,ae,QI,az];obtain⟨a0,j0⟩:∃x,x=m19.push (.cells ((fO p q).c++(fO r s).c) 141 none):=⟨_,rfl⟩
 rw[<-j0];have m0:Ext m19 a0:=by rw[j0];exact Ext.refl.push
 have j1:a0.n=m19.n+1:=by rw[j0];rfl
 have B0:a0.get m19.n=.cells ((fO p q).c++(fO r s).c) 141 none:=by rw[j0];exact M.aX
 refine aG (aeJ hX (wN B0)) ⟨Ox _,?_⟩;have t1:=s1.aE m0;have t2:=s2.aE m0;have⟨a5,x5,y5⟩:=t1.dX (k:=.i64) (i:=1) rfl;have⟨a6,x6,y6⟩:=t2.dX (k:=.i64) (i:=1) rfl;have x5:ak TE 58 (KI m6.n 0 2 2) (YR 1)=some a5:=x5;have x6:ak TE 58 (KI m10.n 0 2 2) (YR 1)=some a6:=x6;rw[x5,ae,y5,ae,x6,ae,y6,ae,QI,az];obtain⟨r0,k0⟩:∃x,x=a0.push (.cells ((yJ p q).c++(yJ r s).c) 141 none):=⟨_,rfl⟩
 rw[<-k0];have C0:Ext a0 r0:=by rw[k0];exact Ext.refl.push
 have k1:r0.n=a0.n+1:=by rw[k0];rfl
 have D0:r0.get a0.n=.cells ((yJ p q).c++(yJ r s).c) 141 none:=by rw[k0];exact M.aX
 refine aG (QX hX (wN D0)) ?_;have fh:∀c,c<m6.n->r0.get c=m6.get c:=λc hc=>by rw[C0.get c (by omega),m0.get c (by omega),A0 c (by omega),y0 c (by omega),v0 c (by omega),l0 c hc]
 have k4:=(fh m4.n (by omega)).trans g4;have k5:=(fh m5.n (by omega)).trans g5;refine aC dd k4 rfl rfl rfl λN0 l1 n0 E0=>?_;have n0:N0.get m4.n=.cells (oy p q r s).c 141 none:=n0;refine aC dd ((E0 m5.n (by omega)).trans k5) rfl rfl rfl λO0 o1 o0 F0=>?_;have o0:O0.get m5.n=.cells (KZ p q r s).c 141 none:=o0;rw[bT (by rw[F0 _ (by omega)];exact n0),ae,bT o0,ae];exact⟨rfl,by omega⟩
end
section
variable {X:aK} {m:M}
theorem VV{p q:Pl}:aA TE .eql 141 p.v q.v=some (.bool (decide (p=q))):=by
 have e:aA TE .eql 141 p.v q.v=(eq? TE 141 p.v q.v).map (λb=> .bool b):=by kernel_rfl
 rw[e,SV];rfl
abbrev jo(p q:Pl):Bt:=[.int .i64 p.x,.int .i64 p.y,.int .i64 q.x,.int .i64 q.y]
abbrev so:Bt:=[.int .i64 0,.int .i64 0,.int .i64 0,.int .i64 0]
def iz:Option (Pl×Pl)->Bt
 |some x=>jo x.1 x.2
 |none=>so
theorem lL{p q:Pl}:aJ TE 143 [(0,p.v),(1,q.v)]=some (.agg (jo p q).toArray):=by kernel_rfl
theorem pP:aJ TE 143 []=some (.agg so.toArray):=by kernel_rfl
theorem qR{α:Type}{f:Nat->Option α}:∀{n:Nat},(∀j,j<n->f j=none)->(List.range n).findSome? f=none:=by
 grind
theorem pF{α:Type}{f:Nat->Option α}{x:α}:∀{n k:Nat},k<n->(∀j,j<k->f j=none)->f k=some x->(List.range n).findSome? f=some x
 |n+1,k,hk,h,hx=>by
  rw[Gm,List.findSome?_append];by_cases e:k<n;·rw[pF e h hx];rfl
  ·grind
theorem xQ{m1 m2:Nat}{mm:M}{o:Option (Pl×Pl)}{b:Bool}(h1:mm.get m1=.cells (iz o) 143 none)(h2:mm.get m2=.cells [.bool b] 4 none){P:Φ->Φ->Prop}(hP:P (.agg (iz o).toArray) (.bool b)):
  ai (ah TE mm 143 (Ga m1 0)) λv=>ai (ah TE mm 4 (Ga m2 0)) λw=>P v w:=by
 have hl:(iz o).length=4:=by cases o <;>rfl
 rw[mW,aQ h1 (by grind)];have e:((iz o).drop 0).take 4=iz o:=by grind
 rw[e];show ai (some (Value.agg (iz o).toArray)) _;rw[ae,uH,aI h2];exact hP
theorem wI{P:Prop}:GX [] P=P:=rfl
theorem QD(hX:cd X)(hS:R3 X){a b:List Pl}{va vb:Φ}(ha:Sl m a va)(hb:Sl m b vb)(la:a.length<1000000)(lb:b.length<1000000):
  C X (.func 149) [va,vb] m m.n (.tuple #[.agg (iz (mM a b)).toArray,.bool (mM a b).isSome]) m:=by
 refine Cl.flat (hX.no _ rfl) (Kg func149) rfl (by cases mM a b <;>rfl) ?_;rw[aaA];dsimp only[δ,η,θ,ι,ξ,ο,ρ,ς,υ,χ,ψ,Γ,Δ,Θ,ω];refine aw λm1 n4 C2 o4=>?_;refine aw λm2 r4 u4 v4=>?_;refine aw λm3 w4 D2 y4=>?_;rw[hb.cells]at C2;unfold ptrTo;have G0:Ext m m3:=⟨by omega,by grind⟩
 have g0:m3.get m.n=.cells [vb] 58 none:=by grind
 have g1:m3.get m1.n=.cells so 143 none:=by grind
 have g2:m3.get m2.n=.cells [Zf] 4 none:=D2;have ld:∀mm:M,mm.get m.n=.cells [vb] 58 none->ah TE mm 58 (Ga m.n 0)=some vb:=λmm h=>by rw[qj,aI h];rfl
 have u1:=ha.aE G0;have v1:=hb.aE G0;refine aZ (λvs m' lo=>vs=[.bool (!(bI a && bI b && !fw a b))]/\m'=m3/\m.n<=lo) (λR hR=>?_) ?_
 ·refine aG (jm hX u1 (by omega)) ?_;rw[bk,ae,aj];refine an (λh=>?_) (λh=>?_)
  ·have h:bI a=false:=by grind
   exact hR _ _ _ ⟨by grind,rfl,by omega⟩
  have h:bI a:=by grind
  rw[ld m3 g0,ae];refine aG (jm hX v1 (by omega)) ?_;rw[bk,ae,aj];refine an (λh'=>?_) (λh'=>?_)
  ·have h':bI b=false:=by grind
   exact hR _ _ _ ⟨by grind,rfl,by omega⟩
  have h':bI b:=by grind
  rw[ld m3 g0,ae];refine aG (vB hX u1 v1 la lb) ?_;exact hR _ _ _ ⟨by simp_all,rfl,by omega⟩
 rintro _ m6 z4 ⟨rfl,rfl,r3⟩;rw[aB,aj];refine an (λh=>?_) (λh=>?_)
 ·have h:(bI a && bI b && !fw a b)=false:=by
   cases h':(bI a && bI b && !fw a b)with
   |false=>rfl
   |true=>rw[h']at h;cases h
  have e:mM a b=none:=by unfold mM;rw[QL (by grind)]
  rw[pP,ae];refine aC oZ g1 rfl rfl rfl λm24 u3 w1 y1=>?_;refine aC EY (by rw[y1 _ (by omega)];exact g2) rfl rfl rfl λA4 v3 z1 A1=>?_;refine xQ (o:=none) (b:=false) (by rw[A1 _ (by omega)];exact w1) z1 ⟨by rw[e];rfl,by omega⟩
 have hv:(bI a && bI b && !fw a b):=by
  cases h':(bI a && bI b && !fw a b)with
  |true=>rfl
  |false=>rw[h']at h;cases h
 have B1:=hv;simp only[JJ]at B1;obtain⟨⟨E2,F2⟩, -⟩:=B1;have e:mM a b=xR a b:=by unfold mM;rw[Tf hv]
 have sa:=jl E2;have sb:=jl F2;have⟨a0,hc,j0,w3,y3⟩:=yY (m:=m6) hX ha.cells;refine aG hc ?_;rw[cg];have k0:a0.get m.n=.cells [vb] 58 none:=j0.cells g0;have k1:a0.get m1.n=.cells so 143 none:=j0.cells g1;have k2:a0.get m2.n=.cells [Zf] 4 none:=j0.cells g2;have hx:Ext m a0:=G0.trans j0;have B4:=j0.n
 refine⟨.ob λ_=>False,jW a,_,λi mm=>a0.n<=mm.n/\(∀c,c<a0.n->mm.get c=a0.get c)/\∀j,j<i->Hh a b j=none,
  λe mm=>e=.ret/\∃x,xR a b=some x/\mm.get m1.n=.cells (jo x.1 x.2) 143 none/\mm.get m2.n=.cells [Ku] 4 none,m.n,⟨_,rfl⟩,uT hX (v:=va) (b:=m6.n) (by omega),by omega,?_,?_,?_,⟨Ox _,λ_ _=>rfl,λj hj=>by omega⟩,?_,?_,?_⟩
 ·rintro i mm ⟨h1,h2,h3⟩;refine⟨by grind,?_⟩;exact ha.aV λb c t g hb ht=>by have:=M.aU hb;rw[h2 b (by omega),hx.get b this,hb]
 ·rintro i mm H0 ⟨h1,h2,h3⟩ hk;exact⟨by have:=hk.n;omega,λc hc=>by rw[hk.get c (by omega) (by omega),h2 c hc],h3⟩
 ·rintro e mm H0 ⟨h,x,h1,h2,h3⟩ hk;have l1:=M.aU h2;have l2:=M.aU h3;exact⟨h,x,h1,by rw[hk.get _ l1 (by omega),h2],by rw[hk.get _ l2 (by omega),h3]⟩
 ·
  rintro i args y0 z3 G2 ⟨h1,h2,h3⟩;obtain⟨pa,pb,I0,C1,rfl⟩:=uS G2;have H2:i<a.length:=(OJ.1 I0).1;have ea:gj a i=pa:=CC I0;have eb:Lb a i=pb:=CC C1;rw[aB,aB,wI];refine aw λC4 A3 D1 B3=>?_;refine aC dd D1 rfl rfl rfl λE1 C3 F1 D3=>?_;refine aw λD4 E3 G1 H1=>?_;refine aC dd G1 rfl rfl rfl λI2 G3 I1 J1=>?_;have J0:∀c,c<y0.n->I2.get c=y0.get c:=by grind
  refine⟨λc _ hc=>J0 c hc,λl0 H3 D0=>?_⟩;dsimp only;have J2:∀c,c<a0.n->l0.get c=a0.get c:=by grind
  have ra:l0.get y0.n=.cells pa.c 141 none:=by rw[D0 _ (by omega),J1 _ (by omega),H1 _ (by omega),F1];rfl
  have rb:l0.get E1.n=.cells pb.c 141 none:=by rw[D0 _ (by omega),I1];rfl
  rw[ld l0 (by grind),ae];have⟨b0,K1,e0,I3,J3⟩:=yY (m:=l0) hX hb.cells;refine aG K1 ?_;rw[cg];have K2:=e0.n;have L2:∀c,c<a0.n->b0.get c=a0.get c:=λc hc=>by rw[e0.get c (by omega),J2 c hc]
  refine⟨.ob λ_=>False,jW b,_,λk mm=>b0.n<=mm.n/\(∀c,c<b0.n->mm.get c=b0.get c)/\∀j,j<k->sq pa pb (gj b j) (Lb b j)=none,
   λe mm=>b0.n<=mm.n/\e=.ret/\∃x,xR a b=some x/\mm.get m1.n=.cells (jo x.1 x.2) 143 none/\mm.get m2.n=.cells [Ku] 4 none/\mm.get a0.n=l0.get a0.n,m.n,⟨_,rfl⟩,uT hX (v:=vb) (b:=l0.n) (by omega),by omega,?_,?_,?_,⟨Ox _,λ_ _=>rfl,λj hj=>by omega⟩,?_,?_,?_⟩
  ·rintro k mm ⟨q1,q2,q3⟩;refine⟨by grind,?_⟩;exact hb.aV λb c t g hb ht=>by have:=M.aU hb;rw[q2 b (by omega),L2 b (by omega),hx.get b this,hb]
  ·rintro k mm H0 ⟨q1,q2,q3⟩ hk;exact⟨by have:=hk.n;omega,λc hc=>by rw[hk.get c (by omega) (by omega),q2 c hc],q3⟩
  ·rintro e mm H0 ⟨q0,h,x,q1,q2,q3,q4⟩ hk;exact⟨by have:=hk.n;omega,h,x,q1,by rw[hk.get _ (by omega) (by omega),q2],by rw[hk.get _ (by omega) (by omega),q3],by rw[hk.get _ (by omega) (by omega),q4]⟩
  ·
   rintro k args r0 K3 M2 ⟨q1,q2,q3⟩;obtain⟨pr,ps,K0,L1,rfl⟩:=uS M2;have N2:k<b.length:=(OJ.1 K0).1;have er:gj b k=pr:=CC K0;have es:Lb b k=ps:=CC L1;have da:=sa _ (LZ I0);have db:=sa _ (LZ C1);have dr:=sb _ (LZ K0);have ds:=sb _ (LZ L1);rw[aB,aB,wI];refine aw λE4 L3 N1 N3=>?_;refine aC dd N1 rfl rfl rfl λO2 O3 O1 a4=>?_;refine aw λF4 b4 P1 T1=>?_;refine aC dd P1 rfl rfl rfl λP2 c4 a2 b2=>?_;have L0:∀c,c<r0.n->P2.get c=r0.get c:=by grind
   refine⟨λc _ hc=>L0 c hc,λm64 d4 E0=>?_⟩;dsimp only;have N0:∀c,c<b0.n->m64.get c=b0.get c:=by grind
   have ta:m64.get y0.n=.cells pa.c 141 none:=by rw[N0 _ (by omega),e0.get _ (by omega),ra]
   have tb:m64.get E1.n=.cells pb.c 141 none:=by rw[N0 _ (by omega),e0.get _ (by omega),rb]
   have tr:m64.get r0.n=.cells pr.c 141 none:=by rw[E0 _ (by omega),b2 _ (by omega),T1 _ (by omega),O1];rfl
   have ts:m64.get O2.n=.cells ps.c 141 none:=by rw[E0 _ (by omega),a2];rfl
   have skip:sq pa pb pr ps=none->∀(mm:M) (lo:Nat),m64.n<=mm.n->(∀c,c<m64.n->mm.get c=m64.get c)->m.n<=lo->
     m.n<=lo/\(∀c,b0.n<=c->c<r0.n->(c=b0.n\/False)->mm.get c=m64.get c)/\(b0.n<=mm.n/\(∀c,c<b0.n->mm.get c=b0.get c)/\∀j,j<k+1->sq pa pb (gj b j) (Lb b j)=none):=by
    intro Q2 mm lo T2 s0 n0;refine⟨n0,λc _ hc _=>s0 c (by omega),by omega,by grind,λj hj=>?_⟩;by_cases e:j=k;·rw[e,er,es];exact Q2
    ·exact q3 j (by omega)
   refine aZ (λvs m' lo=>vs=[.bool (decide (df pa pb pr≠0\/df pa pb ps≠0))]/\m'=m64/\m.n<=lo) (λR hR=>?_) ?_
   ·rw[bT ta,ae,bT tb,ae,bT tr,ae];refine aG (wK hX da db dr) ?_;rw[bL,ae,aj];refine an (λh=>?_) (λh=>?_)
    ·have h:df pa pb pr≠0:=by grind
     exact hR _ _ _ ⟨by grind,rfl,by omega⟩
    ·have h:df pa pb pr=0:=by grind
     rw[bT ta,ae,bT tb,ae,bT ts,ae];refine aG (wK hX da db ds) ?_;rw[bL,ae];refine hR _ _ _ ⟨?_,rfl,by omega⟩;congr 2;rw[OT];simp[h]
   rintro _ m0 c2 ⟨rfl,rfl,O0⟩;rw[aB,aj];refine an (λh=>?_) (λh=>?_);·have h:=NT h;exact skip (by unfold sq;rw[Tf h]) m0 c2 (Ox _) (λ_ _=>rfl) O0
   have o0:=Ja h;rw[bT ta,ae,bT tb,ae,bT tr,ae,bT ts,ae];refine aG (ac7 hX hS pa pb pr ps) ?_;rw[aH,aH];simp only[zi,F9,ae];refine aw λz0 e4 d2 f4=>?_;refine aw λG4 g4 i2 j2=>?_;refine aC dd ((j2 m0.n (by omega)).trans d2) rfl rfl rfl λH4 h4 o2 u2=>?_;refine aC dd ((u2 z0.n (by omega)).trans i2) rfl rfl rfl λA0 j4 v2 w2=>?_;have tf:A0.get m0.n=.cells (oy pa pb pr ps).c 141 none:=by rw[w2 _ (by omega)];exact o2
   have tt:A0.get z0.n=.cells (KZ pa pb pr ps).c 141 none:=v2;have B0:∀c,c<m0.n->A0.get c=m0.get c:=by grind
   refine aZ (λvs m' lo=>vs=[.bool (decide (oy pa pb pr ps=KZ pa pb pr ps\/0<sM (oy pa pb pr ps) (KZ pa pb pr ps)))]/\m'=A0/\m.n<=lo) (λR hR=>?_) ?_
   ·rw[bT tf,ae,bT tt,ae,VV,ae,aj];refine an (λh=>?_) (λh=>?_);·have h:=NT h;exact hR _ _ _ ⟨by grind,rfl,by omega⟩
    ·have h:=Ja h;refine aG (sL hX _ _) ?_;rw[bP,ae];refine hR _ _ _ ⟨?_,rfl,by omega⟩;congr 2;rw[decide_eq_decide];exact⟨λq=> .inr q,λq=>q.resolve_left h⟩
   rintro _ d0 p0 ⟨rfl,rfl,C0⟩;rw[aB,aj];refine an (λh=>?_) (λh=>?_);·have h:=NT h;exact skip (by unfold sq;rw[QL o0,Tf h]) d0 p0 (by omega) (λc hc=>B0 c hc) C0
   have y2:=Ja h;rw[bT (by rw[B0 _ (by omega)];exact ta),ae,bT (by rw[B0 _ (by omega)];exact tb),ae];refine aG (sL hX _ _) ?_;rw[bP,ae,aj];have a3:d0.get m1.n=.cells so 143 none:=by grind
   have b3:d0.get m2.n=.cells [Zf] 4 none:=by grind
   have fin:∀(x:Pl×Pl) (mm:M) (F:Nat->Nat->Nat),sq pa pb pr ps=some x->mm.n=d0.n->(∀c,c<m0.n->mm.get c=d0.get c)->m.n<=F m1.n m2.n->
     aO (aD TE mm 143 (Ga m1.n 0) (.agg (jo x.1 x.2).toArray)) λF0 z2=>aO (aD TE F0 4 (Ga m2.n 0) Ku) λi0 A2=>
      m.n<=F z2 A2/\(∀c,b0.n<=c->c<r0.n->(c=b0.n\/False)->i0.get c=m0.get c)/\(b0.n<=i0.n/\True/\∃x,xR a b=some x/\i0.get m1.n=.cells (jo x.1 x.2) 143 none/\i0.get m2.n=.cells [Ku] 4 none/\i0.get a0.n=l0.get a0.n):=by
    intro x mm F c3 T2 s0 n0;refine aC oZ ((s0 m1.n (by omega)).trans a3) rfl rfl rfl λF0 d3 P0 u0=>?_;refine aC EY ((u0 m2.n (by omega)).trans ((s0 m2.n (by omega)).trans b3)) rfl rfl rfl λi0 e3 a1 v0=>?_;refine⟨n0,by grind,by omega,trivial,x,?_,by rw[v0 _ (by omega)];exact P0,a1,?_⟩;·unfold xR;refine pF H2 h3 ?_;unfold Hh;rw[ea,eb];refine pF N2 (λj hj=>q3 j hj) ?_;rw[er,es];exact c3
    ·rw[v0 _ (by omega),u0 _ (by omega),s0 _ (by omega),B0 _ (by omega),N0 _ (by omega),e0.get _ (by omega)]
   refine an (λh=>?_) (λh=>?_);·have h:=NT h;rw[bT tt,ae,bT tf,ae];refine aC dd tf rfl rfl rfl λk4 g3 b1 c1=>?_;refine aC dd ((c1 z0.n (by omega)).trans tt) rfl rfl rfl λB2 i3 d1 e1=>?_;rw[bT (p:=KZ pa pb pr ps) (by rw[e1 _ (by omega)];exact b1),ae,bT (p:=oy pa pb pr ps) d1,ae,lL,ae];exact fin (KZ pa pb pr ps,oy pa pb pr ps) B2 (λa b=>min (min (min (min (min p0 d0.n) m0.n) z0.n) a) b) (by unfold sq;rw[QL o0,QL y2,Tf h]) (by omega) (by grind) (by omega)
   ·have h:=Ja h;rw[bT tf,ae,bT tt,ae,lL,ae];exact fin (oy pa pb pr ps,KZ pa pb pr ps) d0 (λa b=>min (min (min p0 d0.n) a) b) (by unfold sq;rw[QL o0,QL y2,QL h]) rfl (λ_ _=>rfl) (by omega)
  ·rintro mm fO ⟨q1,q2,q3⟩ n0;refine⟨by omega,λc j3 k3 i1=>?_,by omega,by grind,λj hj=>?_⟩
   ·rcases i1 with rfl|h;·rw[q2 _ (by omega),e0.get _ (by omega)]
    exact h.elim
   by_cases e:j=i;·subst e;unfold Hh;rw[ea,eb];rw[qu]at q3;exact qR q3
   exact h3 j (by omega)
  ·rintro e mm fO l3 ⟨q0,rfl,x,q1,q2,q3,q4⟩ n0;refine⟨_,Qk.2 rfl,rfl,?_⟩;dsimp only;refine⟨by omega,λc j3 k3 i1=>?_,rfl,x,q1,q2,q3⟩;rcases i1 with rfl|h;·exact q4
   exact h.elim
 ·rintro mm fO ⟨h1,h2,h3⟩ n0;rw[qu]at h3;have e':mM a b=none:=by rw[e];unfold xR;exact qR h3
  rw[pP,ae];refine aC oZ ((h2 m1.n (by omega)).trans k1) rfl rfl rfl λl4 n3 j1 o1=>?_;refine aC EY ((o1 m2.n (by omega)).trans ((h2 m2.n (by omega)).trans k2)) rfl rfl rfl λm4 o3 p1 r1=>?_;refine xQ (o:=none) (b:=false) (by rw[r1 _ (by omega)];exact j1) p1 ⟨by rw[e'];rfl,by omega⟩
 rintro e2 mm fO l3 ⟨rfl,x,q1,q2,q3⟩ n0;refine⟨_,Qk.2 rfl,rfl,?_⟩;dsimp only;have e':mM a b=some x:=by grind
 refine xQ (o:=some x) (b:=true) q2 q3 ⟨by rw[e'];rfl,by omega⟩
end
section
section
variable {X:aK}{x0 x1 x2:Φ}{m:M}{R:Bt->M->Nat->Prop}
theorem F86:dP TE (aL TE X) f86 [x0,x1] m R=ρ m x0 60 λa=>ρ a x1 60 λb=>ς b [χ 0,χ 0,χ 0,χ 0,χ 0,χ 0,χ 0,χ 0] 145 λc=>δ c 60 (υ m) λd=>δ c 60 (υ a) λf=>ψ X 148 [d,f] c λc d f=>ξ c 0 λg=>ξ c 1 λh=>ξ c 2 λc=>ο .not c λc=>aR c (θ 145 [] λa=>ι d 145 (υ b) a λa c=>ai (ah TE a 145 (υ b)) λb=>R [b,Zf] a (ω m.n f c)) (ε 60 (υ m) 3 λc=>δ d 58 c λc=>ε 60 (υ a) 3 λi=>δ d 58 i λi=>ψ X 149 [c,i] d λc d i=>ξ c 0 λj=>ξ c 1 λc=>ς d [χ 0,χ 0,χ 0,χ 0] 143 λk=>ι k 143 (υ d) j λj k=>ο .not c λc=>aR c (θ 145 [] λa=>ι j 145 (υ b) a λa c=>ai (ah TE a 145 (υ b)) λb=>R [b,Zf] a (Δ m.n f i k c)) (ε 60 (υ m) 0 λc=>δ j 3 c λc=>ε 60 (υ a) 0 λa=>δ j 3 a λa=>δ j 143 (υ d) λd=>θ 145 [(0,c),(1,a),(2,d),(3,g),(4,h)] λa=>ι j 145 (υ b) a λa c=>ai (ah TE a 145 (υ b)) λb=>R [b,Ku] a (Δ m.n f i k c))):=by kernel_rfl
theorem F85:dP TE (aL TE X) f85 [x0] m R=ρ m x0 60 λa=>δ a 60 (υ m) λb=>ψ X 116 [b] a λa b c=>ο .not a λa=>aR a (R [YM] b (min m.n c)) (ς b [YM] 35 λa=>ε 60 (υ m) 3 λd=>δ a 58 d λd=>κ a .len [58] [d] λd _=>Lp (λa c f g=>un c λc _=>η .lss 3 c d λd=>aR d (ν f 26 1 [(0,c)] λd f=>ψ X 147 [d,υ b,υ m] f λ_ b d=>η .add 3 c (χ 1) λc=>a [c] b (min g d)) (ν f 26 2 [(0,(χ (-1))),(1,(χ (-2)))] λa c=>ψ X 147 [a,υ b,υ m] c λ_ a c=>δ a 35 (υ b) λb=>R [b] a (min g c))) [χ 0] a (min m.n c)):=by kernel_rfl
theorem aaC:dP TE (aL TE X) f147 [x0,x1,x2] m R=κ m .len [26] [x0] λa _=>Lp (λb c d f=>un c λc _=>η .lss 3 c a λa=>aR a (ζ 26 x0 c λa=>δ d 3 a λa=>δ d 35 x1 λg=>ε 60 x2 0 λh=>δ d 3 h λh=>θ 53 [(0,h),(1,a)] λa=>ν d 35 1 [(0,a)] λa d=>κ (M.wl d d.n) .append [35,35] [g,a] λa d=>ι d 35 x1 a λa g=>η .add 3 c (χ 1) λc=>b [c] a (ω f (M.low d) g)) (R [] d f)) [χ 0] m m.n:=by kernel_rfl
end
end
section
variable {X:aK} {m:M}
def CN:Option Ct->Bt
 |some x=>x.c'
 |none=>Ct.zc
theorem eQ(o:Option Ct):(CN o).length=8:=by cases o <;>rfl
theorem nP(o:Option Ct):(CN o).all one:=by cases o <;>rfl
theorem my{mm:M}{bl:Nat}{cs:Bt}{g:Option Nat}{o:Option Ct}(h0:mm.get bl=.cells cs 145 g)(hl:cs.length=8){P:Φ->M->Nat->Prop}(hP:∀m',m'.n=mm.n->P (.agg (CN o).toArray) m' bl):
  aO (aD TE mm 145 (Ga bl 0) (.agg (CN o).toArray)) λm' b=>ai (ah TE m' 145 (Ga bl 0)) λv=>P v m' b:=by
 refine aC oY h0 (by rw[aT];show(CN o).length=8;exact eQ o) (by rw[aT,hl];exact eQ o) (by rw[aT];exact nP o) λm' hn hg hk=>?_;rw[aT]at hg;have hg:m'.get bl=.cells (CN o) 145 g:=hg;rw[DQ,aQ hg (by rw[eQ];exact Ox _)];have e:((CN o).drop 0).take 8=CN o:=by rw[QA,QM (by rw[eQ];exact Ox _)]
 rw[e];show ai (some (Value.agg (CN o).toArray)) _;rw[ae];grind
theorem kO:aJ TE 145 []=some (.agg (CN none).toArray):=by kernel_rfl
theorem tD{a b x y:Int}{p q:Pl}:aJ TE 145 [(0,.int .i64 a),(1,.int .i64 b),(2,.agg (jo p q).toArray),(3,.int .i64 x),(4,.int .i64 y)]=some (.agg (CN (some ⟨a,b,p,q,x,y⟩)).toArray):=by kernel_rfl
theorem fB(o:Option (Pl×Pl)):(iz o).length=4:=by cases o <;>rfl
theorem ub(o:Option (Pl×Pl)):(iz o).all one:=by cases o <;>rfl
theorem ado{a b:Un}(h:jX a b):jD a/\jD b:=by
 unfold jX at h;grind
theorem Iy(hX:cd X)(hS:R3 X){a b:Un}{va vb:Φ}(ha:Sl m a.shape va)(hb:Sl m b.shape vb)(la:a.shape.length<1000000)(lb:b.shape.length<1000000):
  C X (.func 86) [a.v va,b.v vb] m m.n (.tuple #[.agg (CN (jE a b)).toArray,.bool (jE a b).isSome]) m:=by
 refine Cl.flat (hX.no _ rfl) (Kg func86) rfl (by cases jE a b <;>rfl) ?_;rw[F86];dsimp only[δ,ε,θ,ι,ξ,ο,ρ,ς,υ,χ,ψ,Δ,ω];refine aw λm1 s0 l0 u0=>?_;refine aw λm2 v0 m0 y0=>?_;refine aw λm3 z0 n0 A0=>?_;simp only[aT]at l0 m0;have g0:Ext m m3:=⟨by omega,by grind⟩
 have g1:m3.get m.n=.cells (a.c va) 60 none:=by grind
 have g2:m3.get m1.n=.cells (b.c vb) 60 none:=by grind
 have g3:m3.get m2.n=.cells Ct.zc 145 none:=n0;obtain⟨a0, -, -,a3,a4,a5⟩:=kz g1;obtain⟨b0, -, -,b3,b4,b5⟩:=kz g2;have i0:=ha.aE g0;have j0:=hb.aE g0;unfold ptrTo;rw[bU g1,ae,bU g2,ae];refine aG (vi (m:=m3) hX i0 j0 (by omega) (by omega)) ?_;rw[aH,aH,aH];simp only[zi,F9,ae];rw[bk,ae,aj];refine an (λh=>?_) (λh=>?_)
 ·have h:jX a b=false:=by grind
  have e:jE a b=none:=by unfold jE;rw[QL (by grind)]
  rw[kO,ae];refine my g3 rfl λm' hn=>?_;rw[e];exact⟨rfl,by omega⟩
 have h:jX a b:=by grind
 have B0:=ado h;have e:jE a b=(mM a.shape b.shape).map λs=>⟨a.id,b.id,s.1,s.2,max a.back b.back,min a.front b.front⟩:=by unfold jE;rw[Tf h]
 rw[bD,ae,a3,ae,bD,ae,b3,ae];refine aG (QD hX hS i0 j0 la lb) ?_;rw[aH,aH];simp only[zi,F9,ae];refine aw λC0 o0 k0 p0=>?_;refine aC oZ k0 (by rw[aT];exact fB _) (by rw[aT];exact fB _) (by rw[aT];exact ub _) λe0 q0 d0 r0=>?_;rw[aT]at d0;have d0:e0.get m3.n=.cells (iz (mM a.shape b.shape)) 143 none:=d0;have D0:∀c,c<m3.n->e0.get c=m3.get c:=by grind
 have r3:e0.get m2.n=.cells Ct.zc 145 none:=by grind
 rw[bk,ae,aj];cases hs:mM a.shape b.shape with
 |none=>show gH true _ _;rw[bH,kO,ae];refine my r3 rfl λm' hn=>?_;rw[e,hs];exact⟨rfl,by omega⟩
 |some s=>
  show gH false _ _;rw[aN];have r1:e0.get m.n=.cells (a.c va) 60 none:=by grind
  have r2:e0.get m1.n=.cells (b.c vb) 60 none:=by grind
  rw[hs]at d0;rw[bz,ae,(kz r1).1,ae,bz,ae,(kz r2).1,ae];rw[show ah TE e0 143 (Ga m3.n 0)=some (.agg (jo s.1 s.2).toArray) by rw[mW,aQ d0 (by rw[fB];exact Ox _)];rfl,ae,tD,ae];refine my r3 rfl λm' hn=>?_;rw[e,hs];exact⟨rfl,by omega⟩
end
section
variable {X:aK} {m:M}
theorem _root_.Go.D.Sl.PF{l:List Int}{v:Φ}(h:Sl m l v){i:Nat}{n:Int}(hi:l[i]?=some n){k:IntKind}:∃a,ak TE 26 v (.int k i)=some a/\ah TE m 3 a=some (YR n):=by have⟨a,cs,h1,h2,h3⟩:=h.index je (k:=k) hi;rw[show cs=[YR n]from h3]at h2;exact⟨a,h1,h2⟩
theorem rC{α:Type}{l l':List α}(hl:l.length=l'.length)(h:∀j x y,j<l.length->l[j]?=some x->l'[j]?=some y->x=y):l=l':=by
 refine OG λi=>?_;grind
theorem NF{p q:Pl}:aA TE .neq 141 p.v q.v=some (.bool (!(decide (p=q)))):=by
 have e:aA TE .neq 141 p.v q.v=(eq? TE 141 p.v q.v).map (λb=> .bool (!b)):=by kernel_rfl
 rw[e,SV];rfl
end
section
variable {X:aK} {m:M}
theorem PA{a b:Int}:aJ TE 53 [(0,.int .i64 a),(1,.int .i64 b)]=some (Fc.mk a b).v:=by kernel_rfl
theorem FD{x:Fc}:aF TE m 35 1 [(0,x.v)]=some (.slice (some ⟨m.n,0,none⟩) 1 1,m.push (.cells x.c 53 none)):=by kernel_rfl
theorem AM(hX:cd X){n1 oc uo:Nat}{u:Un}{w r x0:Φ}{acc:List Fc}{ss:List Int}(l0:m.get oc=.cells [r] 35 none)(hu:m.get uo=.cells (u.c w) 60 none)
  (h1:oc<n1) (h2:uo<n1) (s0:uo≠oc) (hn:n1<=m.n) (hw:Ow n1 m acc r) (hs:Sl m ss x0) (u0:acc.length+ss.length<1000000) (v0:0<ss.length):
  ∃m' b r',C X (.func 147) [x0,Ga oc 0,Ga uo 0] m b (.tuple #[]) m'/\oc<=b/\m'.get oc=.cells [r'] 35 none/\Ow n1 m' (acc++ss.map (Fc.mk u.id)) r'/\m.n<=m'.n/\∀c,c<n1->c≠oc->m'.get c=m.get c:=by
 have key:=Cl.heap (E:=TE) (X:=X) (f:=147) (args:=[x0,Ga oc 0,Ga uo 0]) (m:=m) (R:=λv' m' b=>v'=.tuple #[]/\oc<=b/\∃r',m'.get oc=.cells [r'] 35 none/\Ow n1 m' (acc++ss.map (Fc.mk u.id)) r'/\m.n<=m'.n/\∀c,c<n1->c≠oc->m'.get c=m.get c) (hX.no _ rfl) (Kg func147) rfl ?_;·obtain⟨v',m',b,hc,rfl,hb,r',k1,k2,k3,k4⟩:=key;exact⟨m',b,r',hc,hb,k1,k2,k3,k4⟩
 rw[aaC];dsimp only[δ,ε,ζ,η,θ,ι,κ,ν,χ,ω];rw[hs.len je,az];refine Lp.intro (γ:=Nat) (λi=>ss.length-i) (λi vs mm lo=>vs=[YR i]/\i<=ss.length/\(i=0\/lo<=oc)/\oc<=lo/\m.n<=mm.n/\Sl mm ss x0/\(∀c,c<n1->c≠oc->mm.get c=m.get c)/\∃r',mm.get oc=.cells [r'] 35 none/\Ow n1 mm (acc++(ss.take i).map (Fc.mk u.id)) r') 0 ⟨rfl,ZE _,.inl rfl,by omega,Ox _,hs,λ_ _ _=>rfl,r,l0,by grind⟩ ?_;rintro i vs mm lo ⟨rfl,hi,q0,y0,m0,e0,n0,r',hr,d0⟩;rw[aB,aM,ae,aj];refine an (λg0=>?_) (λz0=>?_)
 ·have g0:i<ss.length:=by grind
  obtain⟨s,i0⟩:∃s,ss[i]?=some s:=⟨_,Fx g0⟩
  have⟨q,e1,e2⟩:=e0.PF (k:=.i64) i0;have o0:mm.get uo=.cells (u.c w) 60 none:=by grind
  rw[e1,ae,e2,ae,show ah TE mm 35 (Ga oc 0)=some r' by rw[nG,aI hr];rfl,ae,bz,ae,(kz o0).1,ae,PA,ae,FD,az];obtain⟨m16,a0⟩:∃x,x=mm.push (.cells (Fc.mk u.id s).c 53 none):=⟨_,rfl⟩
  rw[<-a0];have b0:Ext mm m16:=by rw[a0];exact Ext.refl.push
  have r0:m16.n=mm.n+1:=by rw[a0];rfl
  have j0:m16.get mm.n=.cells (Fc.mk u.id s).c 53 none:=by rw[a0];exact M.aX
  have k0:=gU (m:=m16) (x:=Fc.mk u.id s) j0 rfl;obtain⟨r2,m18,m19,a1,a2,a3,a4,a5,a6,a7,a8⟩:=M9 (T:=35) ve rfl CZ rfl (m:=mm) (m1:=m16) (x:=Fc.mk u.id s) hr (o:=0) rfl h1 (by omega) d0 b0 k0 (by grind);rw[a1,az,a2,az,aP,ae,wrap64];refine⟨i+1,by omega,rfl,by omega,.inr (by omega),by omega,by omega,?_,by grind,r2,a4,?_⟩
  ·refine(e0.aE b0).aV λb c t g hb ht=>?_;have ht:t=3:=Qk.1 ht;subst ht;rw[a8 b (M.aU hb) (λe=>?_) (λcs g' h'=>?_),hb];·rw[e,b0.cells hr]at hb;cases hb
   rw[h']at hb;cases hb
  rw[Q1,i0];simp only[Gf,Cu,Kt,Rj];rw[<-WO];exact a5
 have p0:i=ss.length:=by
  have:¬(i:Int)< (ss.length:Int):=by grind
  omega
 subst p0;rw[V9]at d0;exact⟨.inr (by omega),rfl,by omega,r',hr,d0,m0,n0⟩
def nK(u:Un):List Fc:=if jD u then(List.range u.shape.length).map (λi=>Fc.mk u.id (i:Nat))++ [⟨u.id, -1⟩,⟨u.id, -2⟩]else []
theorem Ek(hX:cd X){u:Un}{w:Φ}(ha:Sl m u.shape w)(la:u.shape.length<1000000):
  ∃m' v,C X (.func 85) [u.v w] m m.n v m'/\Ext m m'/\Ow m.n m' (nK u) v:=by
 refine Cl.ky hX (Kg func85) (R:=λv' m'=>Ext m m'/\Ow m.n m' (nK u) v') ?_ λv' m' hc ⟨hx,hw⟩=>⟨m',v',hc,hx,hw⟩
 rw[F85];dsimp only[δ,ε,η,κ,ν,ο,ρ,ς,υ,χ,ψ];refine aw λm1 D0 j0 E0=>?_;simp only[aT]at j0;have k0:Ext m m1:=⟨by omega,by grind⟩
 have g1:m1.get m.n=.cells (u.c w) 60 none:=j0;have l0:=ha.aE k0;unfold ptrTo;rw[bU g1,ae];refine aG (mE hX l0 (by omega)) ?_;rw[bk,ae,aj];refine an (λh=>?_) (λh=>?_)
 ·have h:jD u=false:=by grind
  refine .inl ⟨rfl,by omega,rfl,.refl,?_⟩;unfold nK;rw[QL (by grind)];exact Ow.nil
 have h:jD u:=by grind
 have h8:=jc h;refine aw λm7 F0 u0 v0=>?_;have i0:Ext m1 m7:=⟨by omega,v0⟩
 have g7:m7.get m.n=.cells (u.c w) 60 none:=i0.cells g1;rw[bD,ae,(kz g7).2.2.2.1,ae,(l0.aE i0).len cA,az];refine Lp.intro (γ:=Nat) (λi=>u.shape.length-i) (λi vs mm lo=>vs=[YR i]/\i<=u.shape.length/\m.n<=lo/\m7.n<=mm.n/\(∀c,c<m7.n->c≠m1.n->mm.get c=m7.get c)/\∃r',mm.get m1.n=.cells [r'] 35 none/\Ow m7.n mm ((List.range i).map λi=>Fc.mk u.id (i:Nat)) r') 0 ⟨rfl,ZE _,by omega,Ox _,λ_ _ _=>rfl,_,u0,Ow.nil⟩ ?_;rintro i vs mm lo ⟨rfl,hi,G0,H0,m0,r',hr,n0⟩;have o0:mm.get m.n=.cells (u.c w) 60 none:=by grind
 rw[aB,aM,ae,aj];refine an (λy0=>?_) (λI0=>?_)
 ·have y0:i<u.shape.length:=by grind
  rw[acS,az];obtain⟨m19,a0⟩:∃x,x=mm.push (.cells [.int .i64 (i:Int)] 3 none):=⟨_,rfl⟩
  rw[<-a0];have b0:Ext mm m19:=by rw[a0];exact Ext.refl.push
  have B0:m19.n=mm.n+1:=by rw[a0];rfl
  have p0:m19.get mm.n=.cells [YR (i:Int)] 3 none:=by rw[a0];exact M.aX
  obtain⟨m21,J0,r2,hc,hb,q1,q2,q3,q4⟩:=AM (m:=m19) hX (n1:=m7.n) (ss:=[(i:Int)]) (b0.cells hr) (b0.cells o0) (by omega) (by omega) (by omega) (by omega) (n0.aE b0) (Fi p0) (by grind) (by simp);refine aG hc ?_;rw[aP,ae,wrap64];refine⟨i+1,by omega,rfl,by omega,by omega,by omega,λc q0 r0=>by rw[q4 c q0 r0,b0.get c (by omega),m0 c q0 r0],r2,q1,?_⟩;rw[Gm,Cu];exact q2
 have z0:i=u.shape.length:=by
  have:¬(i:Int)< (u.shape.length:Int):=by grind
  omega
 subst z0;rw[SL,az];obtain⟨g0,d0⟩:∃x,x=mm.push (.cells [.int .i64 (-1),.int .i64 (-2)] 3 none):=⟨_,rfl⟩
 rw[<-d0];have e0:Ext mm g0:=by rw[d0];exact Ext.refl.push
 have C0:g0.n=mm.n+1:=by rw[d0];rfl
 have s0:g0.get mm.n=.cells [YR (-1),YR (-2)] 3 none:=by rw[d0];exact M.aX
 obtain⟨A0,K0,r2,hc,hb,q1,q2,q3,q4⟩:=AM (m:=g0) hX (n1:=m7.n) (ss:=[-1, -2]) (e0.cells hr) (e0.cells o0) (by omega) (by omega) (by omega) (by omega) (n0.aE e0) (Dg s0) (by grind) (by simp);refine aG hc ?_;rw[show ah TE A0 35 (Ga m1.n 0)=some r2 by rw[nG,aI q1];rfl,ae];refine .inr ⟨.inl (q2.flat (by simp)),by omega,⟨by omega,λc hc=>by rw[q4 c (by omega) (by omega),e0.get c (by omega),m0 c (by omega) (by omega),i0.get c (by omega),k0.get c hc]⟩,?_⟩;unfold nK;rw[Tf h];exact q2.mono (by omega)
end
section
variable {X:aK} {m:M}
theorem yn{α:Type}[aW α](a0:aW.cT α=[]){n1:Nat}{m m':M}{l:List α}{r:Φ}(h:Ow n1 m l r)(hk:∀a n k,r=.slice (some a) n k->m'.get a.block=m.get a.block):Ow n1 m' l r:=by
 rcases h with h|⟨b,cs,rfl,h2,h3,h4,h5,h6⟩;·exact .inl h
 ·refine .inr ⟨b,cs,rfl,h2,h3,by grind,h5,λi x hi=>aW.aV (h6 i x hi) λb c t g _ ht=>?_⟩;grind
theorem BR{x:Ct}{b:Nat}{g:Option Nat}(h:m.get b=.cells x.c' 145 g):ah TE m 145 (Ga b 0)=some x.v:=by rw[DQ,aQ (o:=0) (n:=8) h (by simp_all)];rfl
theorem FE{x:Ct}:aF TE m 138 1 [(0,x.v)]=some (.slice (some ⟨m.n,0,none⟩) 1 1,m.push (.cells x.c' 145 none)):=by kernel_rfl
end
section
section
variable {X:aK}{x0 x1 x2:Φ}{m:M}{R:Bt->M->Nat->Prop}
theorem ZH:dP TE (aL TE X) f239 [x0,x1,x2] m R=jn (λa=>η .leq 3 x1 x0 λb=>aR b (η .leq 3 x0 x2 λb=>a [b] m m.n) (a [Zf] m m.n)) (λa b c=>un a λa _=>R [a] b c):=by kernel_rfl
theorem ZG:dP TE (aL TE X) f240 [x0] m R=ψ X 239 [x0,χ 0,χ 99] m λa b c=>R [a] b (min m.n c):=by kernel_rfl
theorem Z2:dP TE (aL TE X) f199 [x0] m R=ρ m x0 137 λa=>jn (λb=>ε 137 (υ m) 0 λc=>δ a 3 c λc=>ψ X 239 [c,χ 0,χ 99] a λa c d=>aR a (ε 137 (υ m) 1 λa=>δ c 3 a λa=>ψ X 240 [a] c λa c f=>aR a (ε 137 (υ m) 2 λa=>δ c 3 a λa=>ψ X 239 [a,χ (-2),χ 7] c λa c g=>aR a (ε 137 (υ m) 3 λa=>δ c 3 a λa=>ψ X 239 [a,χ 1,χ 5] c λa c h=>b [a] c (Δ m.n d f g h)) (b [Zf] c (Γ m.n d f g))) (b [Zf] c (ω m.n d f))) (b [Zf] c (min m.n d))) (λa b c=>un a λa _=>R [a] b c):=by kernel_rfl
theorem aaw:dP TE (aL TE X) f153 [x0] m R=ρ m x0 33 λa=>ε 33 (υ m) 1 λb=>δ a 31 b λb=>κ a .len [31] [b] λc _=>Lp (λa d f g=>un d λd h=>un h λh i=>un i λi _=>η .lss 3 i c λc=>aR c (ζ 31 b i λb=>δ f 137 b λb=>ς f [χ 0,χ 0,χ 0,χ 0,Zf] 137 λc=>ι c 137 (υ f) b λb c=>ε 33 (υ m) 0 λj=>δ b 30 j λj=>ε 137 (υ f) 1 λk=>δ b 3 k λk=>ψ X 198 [j,k] b λb j k=>ξ b 0 λl=>ξ b 1 λb=>ς j [χ 0,χ 0,χ 0,YM,χ 0,χ 0] 60 λn=>ι n 60 (υ j) l λl n=>jn (λa=>ο .not b λb=>aR b (a [Ku] l (Γ g c k n)) (δ l 137 (υ f) λb=>ψ X 199 [b] l λb d i=>ο .not b λb=>aR b (a [Ku] d (Δ g c k n i)) (ε 137 (υ f) 0 λb=>δ d 3 b λb=>η .leq 3 b h λb=>aR b (a [Ku] d (Δ g c k n i)) (ε 137 (υ f) 2 λb=>δ d 3 b λb=>ε 60 (υ j) 3 λf=>δ d 58 f λf=>κ d .len [58] [f] λf _=>η .geq 3 b f λb=>a [b] d (Δ g c k n i))))) (λb c g=>un b λb _=>aR b (R [Zf] c g) (ε 137 (υ f) 0 λb=>δ c 3 b λb=>η .add 3 i (χ 1) λf=>a [d,b,f] c g))) (ε 33 (υ m) 1 λa=>δ f 31 a λa=>κ f .len [31] [a] λa _=>η .leq 3 a (χ 20) λa=>R [a] f g)) [Zf,χ (-1),χ 0] a m.n:=by kernel_rfl
theorem F91:dP TE (aL TE X) f91 [x0] m R=ρ m x0 33 λa=>jn (λb=>ε 33 (υ m) 0 λc=>δ a 30 c λc=>ψ X 152 [c] a λa c d=>aR a (δ c 33 (υ m) λa=>ψ X 153 [a] c λa c f=>b [a] c (ω m.n d f)) (b [Zf] c (min m.n d))) (λa b c=>un a λa _=>R [a] b c):=by kernel_rfl
theorem aaN:dP TE (aL TE X) f125 [x0,x1] m R=η .lss 3 x0 (χ 0) λa=>aR a (η .add 3 x0 (χ 1) λa=>ο .neg a λa=>η .rem 3 a x1 λa=>R [a] m m.n) (η .rem 3 x0 x1 λa=>R [a] m m.n):=by kernel_rfl
theorem aaM:dP TE (aL TE X) f126 [x0,x1] m R=ρ m x1 137 λa=>Lp (λa b c d=>un b λb f=>un f λf g=>un g λg h=>un h λh i=>un i λi _=>κ c .len [31] [x0] λj _=>η .lss 3 i j λj=>aR j (ζ 31 x0 i λj=>ε 137 j 0 λj=>δ c 3 j λj=>ε 137 (υ m) 0 λk=>δ c 3 k λk=>η .eql 3 j k λj=>aR j (R [YM,Zf] c d) (jn (λa=>ο .not h λb=>aR b (ζ 31 x0 i λb=>ε 137 b 0 λb=>δ c 3 b λb=>ε 137 (υ m) 0 λf=>δ c 3 f λf=>η .gtr 3 b f λb=>a [b] c d) (a [Zf] c d)) (λc d j=>un c λc _=>aR c (δ d 137 (υ m) λc=>ν d 31 1 [(0,c)] λc d=>κ (M.wl d d.n) .append [31,31] [g,c] λc d=>ζ 31 x0 i λg=>δ d 137 g λg=>ν d 31 1 [(0,g)] λg h=>κ (M.wl h h.n) .append [31,31] [c,g] λc g=>η .add 3 i (χ 1) λh=>a [b,f,c,Ku,h] g (ω j (M.low d) (M.low g))) (ζ 31 x0 i λc=>δ d 137 c λc=>ν d 31 1 [(0,c)] λc d=>κ (M.wl d d.n) .append [31,31] [g,c] λc d=>η .add 3 i (χ 1) λg=>a [b,f,c,h,g] d (min j (M.low d)))))) (ο .not h λa=>aR a (δ c 137 (υ m) λa=>ν c 31 1 [(0,a)] λa b=>κ (M.wl b b.n) .append [31,31] [g,a] λa b=>R [a,Ku] b (min d (M.low b))) (R [g,Ku] c d))) [YM,Zf,YM,Zf,χ 0] a m.n:=by kernel_rfl
theorem F65:dP TE (aL TE X) f65 [x0] m R=ρ m x0 25 λa=>ς a [YM,YM] 33 λb=>ε 25 (υ m) 0 λc=>δ b 22 c λc=>ψ X 124 [c] b λb c d=>θ 33 [(0,b)] λb=>ς c [YM,YM] 33 λf=>ι f 33 (υ c) b λb f=>Lp (λb d f g=>un d λd _=>jn (λa=>ε 25 (υ m) 1 λb=>δ f 23 b λb=>κ f .len [23] [b] λb _=>η .lss 3 d b λb=>aR b (η .lss 3 d (χ 8) λb=>aR b (ε 33 (υ c) 0 λb=>ε 30 b 0 λb=>δ f 28 b λb=>κ f .len [28] [b] λb _=>η .gtr 3 b (χ 0) λb=>a [b] f g) (a [Zf] f g)) (a [Zf] f g)) (λf g h=>un f λf _=>aR f (ε 25 (υ m) 1 λa=>δ g 23 a λa=>ζ 23 a d λa=>δ g 153 a λa=>ς g [χ 0,χ 0,χ 0,χ 0] 153 λf=>ι f 153 (υ g) a λa f=>ε 33 (υ c) 0 λi=>ε 30 i 0 λi=>δ a 28 i λi=>ζ 153 (υ g) (χ 1) λj=>δ a 3 j λj=>ε 33 (υ c) 0 λk=>ε 30 k 0 λk=>δ a 28 k λk=>κ a .len [28] [k] λk _=>ψ X 125 [j,k] a λj k l=>(a.n<=l)/\(ζ 28 i j λa=>δ k 60 a λa=>ς k [χ 0,χ 0,χ 0,YM,χ 0,χ 0] 60 λi=>ι i 60 (υ k) a λa i=>ζ 153 (υ g) (χ 0) λj=>δ a 3 j λj=>ψ X 125 [j,χ 12] a λj n o=>(a.n<=o)/\(ε 60 (υ k) 0 λa=>δ n 3 a λa=>ζ 153 (υ g) (χ 2) λp=>δ n 3 p λp=>ε 60 (υ k) 3 λk=>δ n 58 k λk=>κ n .len [58] [k] λk _=>η .add 3 k (χ 2) λk=>ψ X 125 [p,k] n λk p q=>(n.n<=q)/\(η .sub 3 k (χ 2) λk=>ζ 153 (υ g) (χ 3) λn=>δ p 3 n λn=>ψ X 125 [n,χ 5] p λn r s=>(p.n<=s)/\(η .add 3 (χ 1) n λn=>ζ 153 (υ g) (χ 3) λg=>δ r 3 g λg=>ψ X 125 [g,χ 2] r λg p t=>(r.n<=t)/\(η .eql 3 g (χ 0) λg=>θ 137 [(0,j),(1,a),(2,k),(3,n),(4,g)] λa=>ς p [χ 0,χ 0,χ 0,χ 0,Zf] 137 λg=>ι g 137 (υ p) a λa g=>ε 33 (υ c) 1 λj=>δ a 31 j λj=>δ a 137 (υ p) λk=>ψ X 126 [j,k] a λa j k=>ξ a 0 λn=>ξ a 1 λa=>aR a (ε 33 (υ c) 1 λa=>ι j 31 a n λa c=>η .add 3 d (χ 1) λd=>b [d] a (Ω h f l i o q s t g k c)) (η .add 3 d (χ 1) λa=>b [a] j (Ψ h f l i o q s t g k)))))))) (δ g 33 (υ c) λb=>ι g 33 (υ a) b λb c=>ai (ah TE b 33 (υ a)) λa=>R [a] b (min h c)))) [χ 0] b (ω m.n d f):=by kernel_rfl
end
end
section
variable {X:aK} {m:M}
theorem qo(hX:cd X)(n lo hi:Int):C X (.func 239) [YR n,YR lo,YR hi] m m.n (.bool (cR n lo hi)) m:=by
 refine Cl.fl hX (Kg func239) ?_;rw[ZH];dsimp only[η];refine aZ (λvs m2 a0=>vs=[.bool (cR n lo hi)]/\m.n<=a0) (λR hR=>?_) ?_;·simp only[cz,ae,aj];refine an (λh=>hR _ _ _ ⟨by simp[cR,h],Ox _⟩) (λh=>hR _ _ _ ⟨by simp[cR,h],Ox _⟩)
 rintro _ m2 a0 ⟨rfl,hl⟩;rw[aB];exact⟨rfl,hl⟩
theorem JP(hX:cd X)(n:Int):C X (.func 240) [YR n] m m.n (.bool (cR n 0 99)) m:=by refine Cl.fl hX (Kg func240) ?_;rw[ZG];dsimp only[χ,ψ];refine aG (qo hX _ _ _) ?_;exact⟨rfl,by omega⟩
theorem CL{b:Nat}{x:Mk}{g:Option Nat}(h:m.get b=.cells x.c 137 g):
  ah TE m 3 (Ga b (0+0))=some (YR x.id)/\ah TE m 3 (Ga b (0+1))=some (YR x.un)/\ah TE m 3 (Ga b (0+2))=some (YR x.side)/\
  ah TE m 3 (Ga b (0+3))=some (YR x.kind)/\ah TE m 137 (Ga b 0)=some x.v:=by
 refine⟨?_,?_,?_,?_,?_⟩;·rw[bF,aI h];rfl
 ·rw[bF,aI h];rfl
 ·rw[bF,aI h];rfl
 ·rw[bF,aI h];rfl
 rw[DR,aQ (o:=0) (n:=5) h (by grind)];rfl
def Av(x:Mk):Bool:=cR x.id 0 99 && cR x.un 0 99 && cR x.side (-2) 7 && cR x.kind 1 5
theorem aed(hX:cd X)(x:Mk):C X (.func 199) [x.v] m m.n (.bool (Av x)) m:=by
 refine Cl.fl hX (Kg func199) ?_;rw[Z2];dsimp only[δ,ε,ρ,υ,χ,ψ,Γ,Δ,ω];refine aw λm1 d0 b0 e0=>?_;have g1:m1.get m.n=.cells x.c 137 none:=b0;obtain⟨k0,k1,k2,k3, -⟩:=CL g1;unfold ptrTo;refine aZ (λvs m2 a0=>vs=[.bool (Av x)]/\m.n<=a0) (λR hR=>?_) ?_;·rw[bX,ae,k0,ae];refine aG (qo hX _ _ _) ?_;rw[aj];refine an (λh0=>?_) (λh0=>hR _ _ _ ⟨by unfold Av;rw[h0];rfl,by omega⟩);rw[dn,ae,k1,ae];refine aG (JP hX _) ?_;rw[aj];refine an (λh1=>?_) (λh1=>hR _ _ _ ⟨by unfold Av;rw[h0,h1];rfl,by omega⟩);rw[eE,ae,k2,ae];refine aG (qo hX _ _ _) ?_;rw[aj];refine an (λh2=>?_) (λh2=>hR _ _ _ ⟨by unfold Av;rw[h0,h1,h2];rfl,by omega⟩);rw[jV,ae,k3,ae];refine aG (qo hX _ _ _) ?_;exact hR _ _ _ ⟨by unfold Av;rw[h0,h1,h2];rfl,by omega⟩
 rintro _ m2 a0 ⟨rfl,hl⟩;rw[aB];exact⟨rfl,hl⟩
structure il(us:List Un)(ms:List Mk):Prop where
 len:ms.length<=20
 tP:ms.Pairwise λa b=>a.id < b.id
 ok:∀x∈ms,Av x=true
 un:∀x∈ms,∃u∈us,u.id=x.un/\x.side < u.shape.length
theorem _root_.Go.D.Sl.qZ{l:List Mk}{v:Φ}(h:Sl m l v){i:Nat}{x:Mk}(hi:l[i]?=some x){k:IntKind}:∃a,ak TE 31 v (.int k i)=some a/\ah TE m 137 a=some x.v:=by have⟨a,cs,h1,h2,h3⟩:=h.index dv (k:=k) hi;have h3:cs=x.c:=h3;subst h3;exact⟨a,h1,h2⟩
def HL(ms:List Mk):Nat->Int
 |0=> -1
 |i+1=>match ms[i]? with |some x=>x.id |none=> -1
theorem JI(hX:cd X){l:List UW}{v vm:Φ}{ms:List Mk}(h:cP m l v)(hP:cq (bM l))(hm:Sl m ms vm)(hM:il (bM l) ms):C X (.func 153) [.agg #[v,vm]] m m.n Ku m:=by
 have i1:=hM.len;refine Cl.fl hX (Kg func153) ?_;rw[aaw];dsimp only[δ,ε,ζ,η,ι,κ,ξ,ο,ρ,ς,υ,χ,ψ,Γ,Δ];refine aw λm1 j1 B0 C0=>?_;have g1:m1.get m.n=.cells [v,vm] 33 none:=B0;have g0:Ext m m1:=⟨by omega,C0⟩
 unfold ptrTo;have p0:∀mm:M,mm.get m.n=.cells [v,vm] 33 none->ah TE mm 31 (Ga m.n (0+1))=some vm:=λmm hh=>by rw[ki,aI hh];rfl
 have D0:∀mm:M,mm.get m.n=.cells [v,vm] 33 none->ah TE mm 30 (Ga m.n (0+0))=some (.agg #[v]):=λmm hh=>by rw[eo,aQ (n:=1) hh (by show 0+0+1<=2;decide)];rfl
 rw[cB,ae,p0 m1 g1,ae,(hm.aE g0).len dv,az];refine Lp.intro (γ:=Nat) (λi=>ms.length-i) (λi vs mm lo=>vs=[Zf,YR (HL ms i),YR i]/\i<=ms.length/\Ext m1 mm/\m.n<=lo) 0 ⟨rfl,ZE _,.refl,Ox _⟩ ?_;rintro i vs mm lo ⟨rfl,hi,hx,E0⟩;rw[aB,aB,aB,aM,ae,aj];have k1:=hx.n;refine an (λk0=>?_) (λl1=>?_)
 ·have k0:i<ms.length:=by grind
  obtain⟨x,i0⟩:∃a,ms[i]?=some a:=⟨_,Fx k0⟩
  have l0:=LZ i0;have⟨u,hu,F0,G0⟩:=hM.un x l0;have H0:ck (bM l) x.un=some u:=by have⟨j,hj⟩:=ZZ hu;rw[<-F0];exact pE hP hj
  have⟨q,e1,e2⟩:=((hm.aE g0).aE hx).qZ (k:=.i64) i0;rw[e1,ae,e2,ae];refine aw λm18 K0 q0 L0=>?_;refine aC tT q0 rfl rfl rfl λm19 N0 r0 O0=>?_;have b0:Ext mm m19:=⟨by omega,by grind⟩
  have j0:m19.get mm.n=.cells x.c 137 none:=r0;have s0:=b0.cells (hx.cells g1);rw[bV,ae,D0 m19 s0,ae,dn,ae,(CL j0).2.1,ae];have⟨ov,u0,hc,d0,v0⟩:=ace (m:=m19) hX (h.aE ((g0.trans hx).trans b0)) hP x.un;refine aG hc ?_;rw[H0]at v0⊢;obtain⟨w,rfl,hw⟩:=v0;rw[aH,aH];simp only[zi,F9,ae];refine aw λo1 P0 y0 a1=>?_;refine aC dm y0 rfl rfl (Un.cH hw.one) λm0 b1 z0 c1=>?_;have e0:Ext u0 m0:=⟨by omega,by grind⟩
  have A0:m0.get u0.n=.cells (u.c w) 60 none:=z0;have a0:=e0.cells (d0.cells j0);have I0:=d0.n;refine aZ (λvs m' lo=>vs=[Zf]/\m'=m0/\m.n<=lo) (λR hR=>?_) ?_
  ·rw[bk,ae,aj];show gH false _ _;rw[aN,(CL a0).2.2.2.2,ae];refine aG (aed hX x) ?_;rw[hM.ok x l0,bk,ae,aj];show gH false _ _;rw[aN,bX,ae,(CL a0).1,ae,cz,ae,aj];have n0:¬x.id<=HL ms i:=by
    cases i with
    |zero=>have:=hM.ok x l0;unfold Av cR at this;simp only[JJ,EU]at this;show¬x.id<= -1;omega
    |succ j=>
     obtain⟨y,hy⟩:∃a,ms[j]?=some a:=⟨_,qp⟩
     have e:HL ms (j+1)=y.id:=by show(match ms[j]? with|some x=>x.id|none=> -1)=y.id;rw[hy]
     rw[e];have h1:=(OJ.1 hy)
     have h2:=(OJ.1 i0)
     have:=Px.1 hM.tP j (j+1) (by omega) k0 (by omega);rw[h1.2,h2.2]at this;omega
   rw[Dh n0,aN,eE,ae,(CL a0).2.2.1,ae,bD,ae,(kz A0).2.2.2.1,ae,(hw.aE e0).len cA,az,cI,ae];exact hR _ _ _ ⟨by grind,rfl,by omega⟩
  rintro _ p1 d1 ⟨rfl,rfl,o0⟩;rw[aB,aj,aN,bX,ae,(CL a0).1,ae,aP,ae,wrap64];exact⟨i+1,by omega,by simp[HL,i0],by omega,((hx.trans b0).trans d0).trans e0,o0⟩
 have J0:i=ms.length:=by
  have:¬(i:Int)< (ms.length:Int):=by grind
  omega
 subst J0;rw[ae,p0 mm (hx.cells g1),ae,((hm.aE g0).aE hx).len dv,az,cz,ae];refine⟨?_,E0⟩;rw[CM];rfl
theorem uY(hX:cd X){l:List UW}{v vm:Φ}{ms:List Mk}(h:cP m l v)(hP:cq (bM l))(hm:Sl m ms vm)(hM:il (bM l) ms):C X (.func 91) [.agg #[v,vm]] m m.n Ku m:=by
 have hlen:l.length<=12:=by have:=hP.len;rw[cx]at this;exact this
 refine Cl.fl hX (Kg func91) ?_;rw[F91];dsimp only[δ,ε,ρ,υ,ψ,ω];refine aw λm1 g0 b0 d0=>?_;have g1:m1.get m.n=.cells [v,vm] 33 none:=b0;have a0:Ext m m1:=⟨by omega,d0⟩
 unfold ptrTo;refine aZ (λvs m' lo=>vs=[Ku]/\m.n<=lo) (λR hR=>?_) ?_;·rw[bV,ae,show ah TE m1 30 (Ga m.n (0+0))=some (.agg #[v]) by rw[eo,aQ (n:=1) g1 (by show 0+0+1<=2;decide)];rfl,ae];refine aG (AG hX (h.aE a0) (by omega)) ?_;rw[fC hP,aj,bH,show ah TE m1 33 (Ga m.n 0)=some (.agg #[v,vm]) by rw[lV,aQ (n:=2) g1 (by show 0+2<=2;decide)];rfl,ae];refine aG (JI hX (h.aE a0) hP (hm.aE a0) hM) ?_;exact hR _ _ _ ⟨rfl,by omega⟩
 rintro _ m' lo ⟨rfl,e0⟩;rw[aB];exact⟨rfl,e0⟩
end
section
variable {X:aK} {m:M}
theorem mR(hX:cd X){c n:Int}(hc:lM c)(hn:0<n):C X (.func 125) [YR c,YR n] m m.n (YR (dR c n)) m:=by refine Cl.fl hX (Kg func125) ?_;rw[aaN];dsimp only[η,ο,χ];exact mP hc hn (P:=λv=>bh [v]=YR (dR c n)/\m.n<=m.n) ⟨rfl,Ox _⟩
structure I4 where
 a:Int
 b:Int
 c:Int
 d:Int
def I4.c'(x:I4):Bt:=[.int .i64 x.a,.int .i64 x.b,.int .i64 x.c,.int .i64 x.d]
def I4.ok(x:I4):Prop:=lM x.a/\lM x.b/\lM x.c/\lM x.d
instance:aW I4 where
 ty:=153
 sz:=4
 agg:=true
 cT:=[]
 rep _ x cs:=cs=x.c'
 pos:=by decide
 one:=by grind
 len:=by rintro _ _ _ rfl;rfl
 dS:=by rintro _ _ _ rfl;rfl
 aV:=by grind
theorem xL:oU TE 23 153 I4:=⟨ag.t23,ag.t153,by kernel_rfl,⟨_,rfl⟩,rfl,by kernel_rfl,rfl,rfl⟩
theorem Xi{l:List I4}{v:Φ}(h:oK m l v){i:Nat}{x:I4}(hx:l[i]?=some x):∃p,ak TE 23 v (YR i)=some p/\ah TE m 153 p=some (.agg x.c'.toArray):=by have⟨p,cs,e1,e2,e3⟩:=h.index xL (k:=.i64) hx;have e3:cs=x.c':=e3;subst e3;exact⟨p,e1,e2⟩
theorem Oh{b o:Nat}{k:IntKind}{i:Nat}(hi:i<4):ak TE 153 (Ga b o) (.int k i)=some (Ga b (o+i)):=by rcases(show i=0\/i=1\/i=2\/i=3 by omega)with rfl|rfl|rfl|rfl <;>kernel_rfl
def mY(ms:List Mk)(x:Mk):List Mk:=(ms.filter λy=>decide (y.id < x.id))++x::(ms.filter λy=>decide (x.id < y.id))
def jj(ms:List Mk)(x:Mk):List Mk:=(ms.filter λy=>decide (y.id < x.id))++(if(ms.filter λy=>decide (x.id < y.id))=[]then []else x::(ms.filter λy=>decide (x.id < y.id)))
theorem CH{ms:List Mk}{x y:Mk}(b0:y.id≠x.id)(a0:∀z∈ms,z.id<y.id):
  jj (ms++ [y]) x=if(ms.filter λz=>decide (x.id<z.id))=[]/\x.id<y.id then jj ms x++ [x]++ [y]else jj ms x++ [y]:=by
 unfold jj;rw[WN,WN];by_cases h:x.id<y.id
 ·have h2:¬y.id<x.id:=by omega
  simp_all
 ·have h2:y.id<x.id:=by omega
  have he:(ms.filter λz=>decide (x.id<z.id))=[]:=by
   rw[OD];grind
  grind
theorem EF(ms:List Mk)(x:Mk):(jj ms x).length<=ms.length+1:=by
 unfold jj;have:(ms.filter λy=>decide (y.id<x.id)).length+(ms.filter λy=>decide (x.id<y.id)).length<=ms.length:=by
  induction ms with
  |nil=>simp
  |cons a r ih=>
   grind
 grind
theorem Rk{ms:List Mk}{x:Mk}:mY ms x=if(ms.filter λy=>decide (x.id<y.id))=[]then jj ms x++ [x]else jj ms x:=by
 unfold mY jj;grind
theorem yI(ms:List Mk)(x:Mk):(mY ms x).length<=ms.length+1:=by
 have:(ms.filter λy=>decide (y.id<x.id)).length+(ms.filter λy=>decide (x.id<y.id)).length<=ms.length:=by
  induction ms with
  |nil=>simp
  |cons a r ih=>
   grind
 unfold mY;grind
theorem adH{us:List Un}{ms:List Mk}{x:Mk}(h:il us ms)(hl:ms.length<20)(hx:Av x)(hu:∃u∈us,u.id=x.un/\x.side<u.shape.length):il us (mY ms x):=by
 have hm:∀y∈mY ms x,y=x\/y∈ms:=by
  intro y hy;unfold mY at hy;grind
 refine⟨by have:=yI ms x;omega,?_,λy hy=>?_,λy hy=>?_⟩
 ·unfold mY;rw[Y7,Zv];refine⟨h.tP.filter _,⟨by grind,h.tP.filter _⟩,λa ha b hb=>?_⟩;grind
 ·rcases hm y hy with rfl|hy;·exact hx
  exact h.ok y hy
 rcases hm y hy with rfl|hy;·exact hu
 exact h.un y hy
theorem TJ{x:Mk}:aF TE m 31 1 [(0,x.v)]=some (.slice (some ⟨m.n,0,none⟩) 1 1,m.push (.cells x.c 137 none)):=by kernel_rfl
theorem push_mk{n1:Nat}{acc:List Mk}{r:Φ}{x:Mk}(hw:Ow n1 m acc r)(hn:n1<=m.n)(e0:acc.length<1000){P:M->Φ->Prop}
  (hP:∀r' m2,Ow n1 m2 (acc++ [x]) r'->m.n<=m2.n->(∀c,c<n1->m2.get c=m.get c)->n1<=m2.low->P m2 r'):
  aO (aF TE m 31 1 [(0,x.v)]) λa m1=>aO (av TE (M.wl m1 (M.n m1)) .append [31,31] [r,a]) λr' m2=>P m2 r':=by
 rw[TJ,az];obtain⟨m1,a0⟩:∃y,y=m.push (.cells x.c 137 none):=⟨_,rfl⟩
 rw[<-a0];have b0:Ext m m1:=by rw[a0];exact Ext.refl.push
 have g0:m1.n=m.n+1:=by rw[a0];rfl
 have d0:m1.get m.n=.cells x.c 137 none:=by rw[a0];exact M.aX
 obtain⟨r',m2,e1,h1,h2,h3,h4⟩:=(hw.aE b0).append vd (by simp[aW.cT]) (gU d0 rfl) (by omega) (by grind);rw[e1,az];exact hP r' m2 h1 (by have:=h2.n;omega) (λc hc=>by rw[h2.get c hc,b0.get c (by omega)]) h3
theorem Bb(hX:cd X){ms:List Mk}{vm:Φ}{x:Mk}(hm:Sl m ms vm)(F0:ms.Pairwise λa b=>a.id<b.id)(hl:ms.length<=20):
  ∃m' r b,C X (.func 126) [vm,x.v] m m.n (.tuple #[r,.bool b]) m'/\Ext m m'/\((b=false/\r=YM/\(ms.any λy=>decide (y.id=x.id)))\/(b/\(ms.any λy=>decide (y.id=x.id))=false/\Ow m.n m' (mY ms x) r)):=by
 have key:=Cl.gen (E:=TE) (X:=X) (f:=126) (args:=[vm,x.v]) (m:=m) (R:=λv' m' b=>b=m.n/\Ext m m'/\∃r b,v'=.tuple #[r,.bool b]/\((b=false/\r=YM/\(ms.any λy=>decide (y.id=x.id)))\/(b/\(ms.any λy=>decide (y.id=x.id))=false/\Ow m.n m' (mY ms x) r))) (hX.no _ rfl) (Kg func126) rfl ?_;·obtain⟨v',m',b,hc,rfl,hx,r,b',rfl,h⟩:=key;exact⟨m',r,b',hc,hx,h⟩
 rw[aaM];dsimp only[δ,ε,ζ,η,κ,ν,ο,ρ,υ,χ,ω];refine aw λm1 y1 P0 b1=>?_;have g1:m1.get m.n=.cells x.c 137 none:=P0;have v0:Ext m m1:=⟨by omega,b1⟩
 unfold ptrTo;refine Lp.intro (γ:=Nat) (λi=>ms.length-i) (λi vs mm lo=>∃r,vs=[YM,Zf,r,.bool (!decide (((ms.take i).filter λy=>decide (x.id<y.id))=[])),YR i]/\i<=ms.length/\m1.n<=mm.n/\(∀c,c<m1.n->mm.get c=m1.get c)/\m.n<=lo/\Ow m1.n mm (jj (ms.take i) x) r/\∀y∈ms.take i,y.id≠x.id) 0 ⟨_,rfl,ZE _,Ox _,λ_ _=>rfl,Ox _,Ow.nil,λy hy=>(by grind)⟩ ?_;rintro i vs mm lo ⟨r,rfl,hi,k0,G0,y0,l0,c1⟩;have z0:Sl mm ms vm:=(hm.aE v0).aE ⟨k0,G0⟩;have gx:mm.get m.n=.cells x.c 137 none:=by grind
 rw[aB,aB,aB,aB,aB,z0.len dv,az,aM,ae,aj];have H0:=EF (ms.take i) x;rw[Gy]at H0;refine an (λA0=>?_) (λz1=>?_)
 ·have A0:i<ms.length:=by grind
  obtain⟨y,m0⟩:∃a,ms[i]?=some a:=⟨_,Fx A0⟩
  have⟨b0,o0,bc,g0,cs,e0,I0,B0,_,d1⟩:=z0.fa dv (k:=.i64) m0;have B0:cs=y.c:=B0;subst B0;have C0:∀z∈ms.take i,z.id<y.id:=by
   intro z hz;have⟨j,hj⟩:=ZZ hz;have J0:j<i:=by
    grind
   rw[NU J0]at hj;have h1:=OJ.1 hj;have h2:=OJ.1 m0;have:=Px.1 F0 j i h1.1 A0 J0;grind
  have⟨a0,i1,ly⟩:=z0.qZ (k:=.i64) m0;obtain rfl:a0=Ga b0 o0:=Option.some.inj (i1.symm.trans e0);have K0:bc[o0+0]?=some (YR y.id):=by rw[d1 0 (by decide)];rfl
  have L0:ms.take (i+1)=ms.take i++ [y]:=by rw[Q1,m0];rfl
  rw[e0,ae,bX,ae,show ah TE mm 3 (Ga b0 (o0+0))=some (YR y.id) by rw[bF,aI I0,K0],ae,bX,ae,(CL gx).1,ae,aS,ae,aj];refine an (λheq=>?_) (λheq=>?_);·exact .inl ⟨rfl,y0,rfl,.refl,_,_,rfl,.inl ⟨rfl,rfl,JL.2 ⟨y,LZ m0,heq⟩⟩⟩
  have heq:y.id≠x.id:=Ja heq;have i0:=CH heq C0;rw[<-L0]at i0;refine aZ (λvs m' j1=>vs=[.bool (decide (((ms.take i).filter λz=>decide (x.id<z.id))=[]/\x.id<y.id))]/\m'=mm/\m.n<=j1) (λR hR=>?_) ?_
  ·rw[bk,ae,aj,Mt];refine an (λh=>?_) (λh=>?_)
   ·have h:=NT h;rw[ae,bX,ae,show ah TE mm 3 (Ga b0 (o0+0))=some (YR y.id) by rw[bF,aI I0,K0],ae,ae,(CL gx).1,ae,bP,ae];refine hR _ _ _ ⟨?_,rfl,y0⟩;congr 2;rw[decide_eq_decide];exact⟨λq=>⟨h,q⟩,λq=>q.2⟩
   have h:=Ja h;refine hR _ _ _ ⟨?_,rfl,y0⟩;rw[Dh λq=>h q.1]
  rintro _ N0 w1 ⟨rfl,rfl,k1⟩;rw[aB,aj];have p0:∀d0:M,(∀c,c<m1.n->d0.get c=N0.get c)->m1.n<=d0.n->ah TE d0 137 (Ga b0 o0)=some y.v:=λd0 hk D0=>by
   have o1:Sl d0 ms vm:=(hm.aE v0).aE ⟨D0,by grind⟩;have⟨a1,e1,l1⟩:=o1.qZ (k:=.i64) m0;grind
  have u0:∀z∈ms.take (i+1),z.id≠x.id:=by
   grind
  refine an (λh=>?_) (λh=>?_)
  ·have h:=NT h;rw[Tf h]at i0;rw[(CL gx).2.2.2.2,ae];refine push_mk (x:=x) l0 k0 (by omega) λr0 s0 n0 n41 E0 O0=>?_;rw[ae,p0 s0 E0 (by omega),ae];refine push_mk (x:=y) n0 (by omega) (by grind) λp1 A1 r1 n47 B1 C1=>?_;rw[aP,ae,wrap64];refine⟨i+1,by omega,p1,?_,by omega,by omega,by grind,by omega,?_,u0⟩;·rw[L0,WN,Dh (by grind)];rfl
   rw[i0];exact r1
  have h:=Ja h;rw[QL h]at i0;rw[ae,p0 N0 (λ_ _=>rfl) k0,ae];refine push_mk (x:=y) l0 k0 (by omega) λr0 s0 n0 n41 E0 O0=>?_;rw[aP,ae,wrap64];refine⟨i+1,by omega,r0,?_,by omega,by omega,λc hc=>by grind,by omega,?_,u0⟩
  ·have e:decide (((ms.take (i+1)).filter λy=>decide (x.id<y.id))=[])=decide (((ms.take i).filter λy=>decide (x.id<y.id))=[]):=by
    simp_all
   rw[e];rfl
  rw[i0];exact n0
 have u1:i=ms.length:=by
  grind
 subst u1;rw[V9]at l0 c1⊢;rw[V9]at H0;have j0:= @Rk ms x;have q0:(ms.any λy=>decide (y.id=x.id))=false:=VS.2 λy hy=>by grind
 have fin:∀(d0:M) (r':Φ),Ow m1.n d0 (mY ms x) r'->m1.n<=d0.n->(∀c,c<m1.n->d0.get c=m1.get c)->bA (bh [r',Ku])=false/\Ext m d0/\Ow m.n d0 (mY ms x) r':=λd0 r' hw D0 v1=>by
  refine⟨?_,v0.trans ⟨D0,v1⟩,hw.mono (by omega)⟩;rcases hw with⟨rfl,he⟩|⟨b,cs,rfl,_⟩;·unfold mY at he;simp at he
  simp[bh,bA,dC,bw]
 rw[bk,ae,aj,Mt];refine an (λh=>?_) (λh=>?_);·have h:=NT h;rw[Tf h]at j0;rw[(CL gx).2.2.2.2,ae];refine push_mk (x:=x) l0 k0 (by omega) λr0 s0 n0 n41 E0 O0=>?_;rw[<-j0]at n0;obtain⟨f1,f2,f3⟩:=fin s0 r0 n0 (by omega) (λc hc=>by grind);exact .inr ⟨.inl f1,by omega,f2,_,_,rfl,.inr ⟨rfl,q0,f3⟩⟩
 have h:=Ja h;rw[QL h]at j0;rw[<-j0]at l0;have⟨f1,f2,f3⟩:=fin mm r l0 k0 G0;exact .inr ⟨.inl f1,by omega,f2,_,_,rfl,.inr ⟨rfl,q0,f3⟩⟩
theorem PQ(hX:cd X){ms:List Mk}{vm:Φ}{x:Mk}(hm:Sl m ms vm)(a0:ms.Pairwise λa b=>a.id<b.id)(hl:ms.length<=20):
  ∃m' r b,C X (.func 126) [vm,x.v] m m.n (.tuple #[r,.bool b]) m'/\Ext m m'/\(b->Ow m.n m' (mY ms x) r):=by
 have⟨m',r,b,hc,hx,h⟩:=Bb (x:=x) hX hm a0 hl;grind
end
section
open Go Go.D Go.ChangeShapes Go.WideShapes Go.ChangeAt Go.RowKit Go.Proofs.Tryz
theorem wJ:Tryz.prog.underlying 23=some (.slice 153):=by kernel_rfl
theorem S9:Tryz.prog.underlying 153=some (.array 4 3):=by kernel_rfl
section
variable {H:Type} {enc:TypeId×Φ->H} {W W':World} {sp:Nat->Bool} {held:Bool} {base:Nat}
theorem HY:∀fuel cs x,DataW.trod enc Tryz.prog W 0 sp held fuel 153 cs=some x->∃y:I4,y.ok/\(∀m,aW.rep m y cs)/\∀u∈cs,bw u:=by
 intro fuel cs x h;obtain⟨l,rfl,hl,hr⟩:=HN S9 (by kernel_rfl) h;match l,hl,hr with
 |[a,b,c,d],_,hr=>refine⟨⟨a,b,c,d⟩,⟨hr _ (by simp),hr _ (by simp),hr _ (by simp),hr _ (by simp)⟩,λm=>rfl,λu hu=>?_⟩;obtain⟨z,_,rfl⟩:=LY.1 hu;rfl
theorem abc{v:Φ}{d:DataW H}{ps:List MemPlace}(hb:Below W.heap.size W W')(h:DataW.Trod enc Tryz.prog W 0 (λ_=>true) true 25 v d ps)(a0:∀x∈ps,x.block<W.heap.size)(sp:Nat->Bool)(hs:∀x∈ps,sp x.block):DataW.Trod enc Tryz.prog W' 0 sp true 25 v d ps:=
 WideElems.Trod_stays laidOut (by kernel_rfl) (NT (by kernel_rfl)) h (λx hx=>hb.same (a0 x hx)) hs
end
end
section
section
variable {X:aK}{x0 x1 x2:Φ}{m:M}{R:Bt->M->Nat->Prop}{W:Words}
theorem ZU:dP TE (aL TE X) f224 [x0] m R=ρ m x0 137 λa=>jn (λb=>ε 137 (υ m) 0 λc=>δ a 3 c λc=>ψ X 301 [c,χ 0,χ 99] a λa c d=>aR a (ε 137 (υ m) 1 λa=>δ c 3 a λa=>ψ X 301 [a,χ 0,χ 99] c λa c f=>aR a (ε 137 (υ m) 2 λa=>δ c 3 a λa=>ψ X 301 [a,χ (-2),χ 7] c λa c g=>aR a (ε 137 (υ m) 3 λa=>δ c 3 a λa=>ψ X 301 [a,χ 1,χ 5] c λa c h=>b [a] c (Δ m.n d f g h)) (b [Zf] c (Γ m.n d f g))) (b [Zf] c (ω m.n d f))) (b [Zf] c (min m.n d))) (λa b c=>un a λa _=>R [a] b c):=by kernel_rfl
theorem aa8:dP TE (aL TE X) f301 [x0,x1,x2] m R=jn (λa=>η .geq 3 x0 x1 λb=>aR b (η .leq 3 x0 x2 λb=>a [b] m m.n) (a [Zf] m m.n)) (λa b c=>un a λa _=>R [a] b c):=by kernel_rfl
theorem ZB:dP TE (aL TE X) f302 [x0] m R=ρ m x0 60 λa=>jn (λb=>ε 60 (υ m) 1 λc=>δ a 3 c λc=>η .eql 3 c (χ 0) λc=>aR c (ε 60 (υ m) 2 λc=>δ a 3 c λc=>η .eql 3 c (χ 0) λc=>aR c (ε 60 (υ m) 3 λc=>δ a 58 c λc=>κ a .len [58] [c] λc _=>η .eql 3 c (χ 0) λc=>aR c (ε 60 (υ m) 4 λc=>δ a 3 c λc=>η .eql 3 c (χ 0) λc=>aR c (ε 60 (υ m) 5 λc=>δ a 3 c λc=>η .eql 3 c (χ 0) λc=>b [c] a m.n) (b [Zf] a m.n)) (b [Zf] a m.n)) (b [Zf] a m.n)) (b [Zf] a m.n)) (λa b c=>un a λa _=>R [a] b c):=by kernel_rfl
theorem ZR:dP TE W f227 [x0] m R=JA W m x0 184 λa=>W.jn (λb=>Wo W 184 (IJ m) 1 λc=>Fm W a 60 c λc=>RI W 302 [c] a λa c d=>aR a (Wo W 184 (IJ m) 1 λa=>Wo W 60 a 0 λa=>Fm W c 3 a λa=>LH W .eql 3 a (Nn 0) λa=>b [a] c (min m.n d)) (b [Zf] c (min m.n d))) (λa b c=>W.un a λa _=>W.jn (λa=>Wo W 184 (IJ m) 3 λd=>Fm W b 3 d λd=>LH W .eql 3 d (Nn 0) λd=>aR d (Wo W 184 (IJ m) 4 λd=>Fm W b 3 d λd=>LH W .eql 3 d (Nn 0) λd=>a [d] b c) (a [Zf] b c)) (λb c d=>W.un b λb _=>Wo W 184 (IJ m) 5 λf=>Fm W c 137 f λf=>RW W 137 [] λg=>LH W .eql 137 f g λf=>Wo W 184 (IJ m) 0 λg=>Fm W c 3 g λg=>LH W .eql 3 g (Nn 1) λh=>aR h (W.jn (λa=>Wo W 184 (IJ m) 1 λg=>Fm W c 60 g λg=>RI W 172 [g] c λc g h=>aR c (Wo W 184 (IJ m) 2 λc=>Fm W g 3 c λc=>LH W .eql 3 c (Nn 0) λc=>aR c (aR b (a [f] g (min d h)) (a [Zf] g (min d h))) (a [Zf] g (min d h))) (a [Zf] g (min d h))) (λa b c=>W.un a λa _=>R [a] b c)) (LH W .eql 3 g (Nn 2) λh=>aR h (W.jn (λg=>Wo W 184 (IJ m) 2 λh=>Fm W c 3 h λh=>RI W 301 [h,Nn 0,Nn 99] c λc h i=>aR c (aR a (aR b (g [f] h (min d i)) (g [Zf] h (min d i))) (g [Zf] h (min d i))) (g [Zf] h (min d i))) (λa b c=>W.un a λa _=>R [a] b c)) (LH W .eql 3 g (Nn 3) λh=>aR h (W.jn (λa=>Wo W 184 (IJ m) 2 λb=>Fm W c 3 b λb=>RI W 301 [b,Nn 0,Nn 99] c λb c g=>aR b (Wo W 184 (IJ m) 1 λb=>Fm W c 60 b λb=>RI W 302 [b] c λb c h=>aR b (Wo W 184 (IJ m) 1 λb=>Wo W 60 b 0 λb=>Fm W c 3 b λb=>RI W 301 [b,Nn 0,Nn 99] c λb c i=>aR b (Wo W 184 (IJ m) 1 λb=>Wo W 60 b 0 λb=>Fm W c 3 b λb=>Wo W 184 (IJ m) 2 λj=>Fm W c 3 j λj=>LH W .neq 3 b j λb=>aR b (Wo W 184 (IJ m) 3 λb=>Fm W c 3 b λb=>RI W 301 [b,Nn 0,Nn 7] c λb c j=>aR b (Wo W 184 (IJ m) 4 λb=>Fm W c 3 b λb=>RI W 301 [b,Nn 0,Nn 7] c λb c k=>aR b (Wo W 184 (IJ m) 3 λb=>Fm W c 3 b λb=>Wo W 184 (IJ m) 4 λl=>Fm W c 3 l λl=>LH W .neq 3 b l λb=>aR b (a [f] c (Θ d g h i j k)) (a [Zf] c (Θ d g h i j k))) (a [Zf] c (Θ d g h i j k))) (a [Zf] c (Δ d g h i j))) (a [Zf] c (Γ d g h i))) (a [Zf] c (Γ d g h i))) (a [Zf] c (ω d g h))) (a [Zf] c (min d g))) (λa b c=>W.un a λa _=>R [a] b c)) (LH W .eql 3 g (Nn 4) λh=>aR h (W.jn (λg=>Wo W 184 (IJ m) 2 λh=>Fm W c 3 h λh=>RI W 301 [h,Nn 0,Nn 99] c λc h i=>aR c (aR a (Wo W 184 (IJ m) 3 λa=>Fm W h 3 a λa=>RI W 301 [a,Nn (-40),Nn 40] h λa c h=>aR a (Wo W 184 (IJ m) 4 λa=>Fm W c 3 a λa=>RI W 301 [a,Nn (-40),Nn 40] c λa c j=>aR a (Qt W .not b λa=>aR a (g [f] c (Γ d i h j)) (g [Zf] c (Γ d i h j))) (g [Zf] c (Γ d i h j))) (g [Zf] c (ω d i h))) (g [Zf] h (min d i))) (g [Zf] h (min d i))) (λa b c=>W.un a λa _=>R [a] b c)) (LH W .eql 3 g (Nn 5) λh=>aR h (W.jn (λf=>Wo W 184 (IJ m) 5 λg=>Fm W c 137 g λg=>RI W 224 [g] c λc g h=>aR c (Wo W 184 (IJ m) 2 λc=>Fm W g 3 c λc=>LH W .eql 3 c (Nn 0) λc=>aR c (aR a (f [b] g (min d h)) (f [Zf] g (min d h))) (f [Zf] g (min d h))) (f [Zf] g (min d h))) (λa b c=>W.un a λa _=>R [a] b c)) (LH W .eql 3 g (Nn 6) λh=>aR h (aR h (W.jn (λg=>Wo W 184 (IJ m) 2 λh=>Fm W c 3 h λh=>RI W 301 [h,Nn 0,Nn 99] c λc h i=>aR c (aR a (aR b (g [f] h (min d i)) (g [Zf] h (min d i))) (g [Zf] h (min d i))) (g [Zf] h (min d i))) (λa b c=>W.un a λa _=>R [a] b c)) (R [Zf] c d)) (LH W .eql 3 g (Nn 7) λg=>aR g (W.jn (λg=>Wo W 184 (IJ m) 2 λh=>Fm W c 3 h λh=>RI W 301 [h,Nn 0,Nn 99] c λc h i=>aR c (aR a (aR b (g [f] h (min d i)) (g [Zf] h (min d i))) (g [Zf] h (min d i))) (g [Zf] h (min d i))) (λa b c=>W.un a λa _=>R [a] b c)) (R [Zf] c d))))))))):=by kernel_rfl
theorem aak:dP TE (aL TE X) f176 [x0] m R=ρ m x0 33 λa=>jn (λb=>ε 33 (υ m) 0 λc=>δ a 30 c λc=>ψ X 128 [c] a λa c d=>ο .not a λa=>aR a (b [Ku] c (min m.n d)) (ε 33 (υ m) 1 λa=>δ c 31 a λa=>κ c .len [31] [a] λa _=>η .gtr 3 a (χ 20) λa=>b [a] c (min m.n d))) (λa b c=>un a λa _=>aR a (R [Zf] b c) (Lp (λa b c d=>un b λb f=>un f λf _=>ε 33 (υ m) 1 λg=>δ c 31 g λg=>κ c .len [31] [g] λg _=>η .lss 3 f g λg=>aR g (ε 33 (υ m) 1 λg=>δ c 31 g λg=>ζ 31 g f λg=>δ c 137 g λg=>ς c [χ 0,χ 0,χ 0,χ 0,Zf] 137 λh=>ι h 137 (υ c) g λg h=>jn (λa=>δ g 137 (υ c) λb=>ψ X 224 [b] g λb g i=>ο .not b λb=>aR b (a [Ku] g (ω d h i)) (η .gtr 3 f (χ 0) λb=>aR b (ε 137 (υ c) 0 λb=>δ g 3 b λb=>ε 33 (υ m) 1 λc=>δ g 31 c λc=>η .sub 3 f (χ 1) λf=>ζ 31 c f λc=>ε 137 c 0 λc=>δ g 3 c λc=>η .leq 3 b c λb=>a [b] g (ω d h i)) (a [Zf] g (ω d h i)))) (λd g h=>un d λd _=>aR d (R [Zf] g h) (Lp (λd g h i=>un g λg j=>un j λj _=>ε 33 (υ m) 0 λk=>ε 30 k 0 λk=>δ h 28 k λk=>κ h .len [28] [k] λk _=>η .lss 3 j k λk=>aR k (ε 33 (υ m) 0 λa=>ε 30 a 0 λa=>δ h 28 a λa=>ζ 28 a j λa=>δ h 60 a λa=>ς h [χ 0,χ 0,χ 0,YM,χ 0,χ 0] 60 λb=>ι b 60 (υ h) a λa b=>aR g (η .add 3 j (χ 1) λc=>d [Ku,c] a (min i b)) (ε 60 (υ h) 0 λf=>δ a 3 f λf=>ε 137 (υ c) 1 λg=>δ a 3 g λg=>η .eql 3 f g λf=>aR f (ε 137 (υ c) 2 λc=>δ a 3 c λc=>ε 60 (υ h) 3 λf=>δ a 58 f λf=>κ a .len [58] [f] λf _=>η .lss 3 c f λc=>η .add 3 j (χ 1) λf=>d [c,f] a (min i b)) (η .add 3 j (χ 1) λc=>d [Zf,c] a (min i b)))) (ο .not g λc=>aR c (R [Zf] h i) (η .add 3 f (χ 1) λc=>a [b,c] h i))) [Zf,χ 0] g h))) (R [Ku] c d)) [Zf,χ 0] b c)):=by kernel_rfl
theorem Zy:dP TE (aL TE X) f305 [x0,x1] m R=Lp (λa b c d=>un b λb f=>un f λf _=>κ c .len [31] [x0] λg _=>η .lss 3 f g λg=>aR g (ζ 31 x0 f λg=>ε 137 g 1 λg=>δ c 3 g λg=>η .neq 3 g x1 λg=>aR g (ζ 31 x0 f λg=>δ c 137 g λg=>ν c 31 1 [(0,g)] λc g=>κ (M.wl g g.n) .append [31,31] [b,c] λb c=>η .add 3 f (χ 1) λf=>a [b,f] c (min d (M.low c))) (η .add 3 f (χ 1) λf=>a [b,f] c d)) (R [b] c d)) [YM,χ 0] m m.n:=by kernel_rfl
theorem adu:dP TE (aL TE X) f228 [x0,x1,x2] m R=ν m 31 0 [] λa b=>κ (M.wl b b.n) .append [31,31] [a,x0] λa b=>Lp (λb c d f=>un c λc g=>un g λg h=>un h λh _=>κ d .len [31] [a] λi _=>η .lss 3 h i λi=>aR i (ζ 31 a h λi=>ε 137 i 0 λi=>δ d 3 i λi=>η .eql 3 i x1 λi=>aR i (ζ 31 a h λb=>ε 137 b 4 λb=>δ d 4 b λb=>η .neq 4 b x2 λb=>ζ 31 a h λc=>ε 137 c 4 λc=>ι d 4 c x2 λc d=>R [a,b] c (min f d)) (η .add 3 h (χ 1) λa=>b [c,g,a] d f)) (R [YM,Zf] d f)) [YM,Zf,χ 0] b (min m.n (M.low b)):=by kernel_rfl
theorem ZP:dP TE (aL TE X) f229 [x0,x1] m R=ρ m x0 33 λa=>ρ a x1 184 λb=>ς b [YM,YM] 33 λc=>ν c 31 0 [] λc d=>ε 33 (υ m) 1 λf=>δ d 31 f λf=>κ (M.wl d d.n) .append [31,31] [c,f] λc d=>θ 33 [(1,c)] λc=>ς d [YM,YM] 33 λf=>ι f 33 (υ d) c λc f=>ε 184 (υ a) 0 λg=>δ c 3 g λg=>η .eql 3 g (χ 1) λg=>aR g (ε 33 (υ m) 0 λg=>δ c 30 g λg=>ε 184 (υ a) 1 λa=>δ c 60 a λa=>ψ X 171 [g,a] c λa c g=>ξ a 0 λh=>ξ a 1 λa=>ε 33 (υ d) 0 λi=>ι c 30 i h λc h=>δ c 33 (υ d) λi=>η .eql 46 a (χ 0) λa=>ι c 33 (υ b) i λc i=>ai (ah TE c 33 (υ b)) λb=>R [b,a] c (Θ m.n (M.low d) f g h i)) (ε 33 (υ m) 0 λg=>δ c 30 g λg=>ε 184 (υ a) 2 λh=>δ c 3 h λh=>ψ X 303 [g,h] c λc g h=>ξ c 0 λi=>ξ c 1 λc=>ς g [χ 0,χ 0,χ 0,YM,χ 0,χ 0] 60 λj=>ι j 60 (υ g) i λi j=>ο .not c λc=>aR c (δ i 33 (υ d) λa=>ι i 33 (υ b) a λa c=>ai (ah TE a 33 (υ b)) λb=>R [b,Zf] a (Θ m.n (M.low d) f h j c)) (ε 33 (υ m) 0 λc=>δ i 30 c λc=>ε 184 (υ a) 2 λk=>δ i 3 k λk=>ψ X 304 [c,k] i λc i k=>ξ c 0 λl=>ξ c 1 λ_=>ς i [YM] 30 λc=>ι c 30 (υ i) l λc l=>ε 184 (υ a) 0 λn=>δ c 3 n λn=>η .eql 3 n (χ 2) λo=>aR o (ε 33 (υ m) 1 λg=>δ c 31 g λg=>ε 184 (υ a) 2 λa=>δ c 3 a λa=>ψ X 305 [g,a] c λa c g=>ε 33 (υ d) 1 λn=>ι c 31 n a λa c=>δ a 30 (υ i) λi=>ε 33 (υ d) 0 λn=>ι a 30 n i λa i=>δ a 33 (υ d) λn=>ι a 33 (υ b) n λa n=>ai (ah TE a 33 (υ b)) λb=>R [b,Ku] a (Ω m.n (M.low d) f h j k l g c i n)) (η .eql 3 n (χ 4) λn=>aR n (δ c 60 (υ g) λg=>ε 184 (υ a) 3 λn=>δ c 3 n λn=>ε 184 (υ a) 4 λa=>δ c 3 a λa=>ψ X 306 [g,n,a] c λa c g=>ξ a 0 λn=>ξ a 1 λa=>ς c [χ 0,χ 0,χ 0,YM,χ 0,χ 0] 60 λo=>ι o 60 (υ c) n λn o=>η .neq 46 a (χ 0) λa=>aR a (δ n 33 (υ d) λa=>ι n 33 (υ b) a λa c=>ai (ah TE a 33 (υ b)) λb=>R [b,Zf] a (Ψ m.n (M.low d) f h j k l g o c)) (δ n 30 (υ i) λa=>δ n 60 (υ c) λc=>ψ X 171 [a,c] n λa c i=>ξ a 0 λn=>ξ a 1 λa=>ε 33 (υ d) 0 λp=>ι c 30 p n λc n=>δ c 33 (υ d) λp=>η .eql 46 a (χ 0) λa=>ι c 33 (υ b) p λc p=>ai (ah TE c 33 (υ b)) λb=>R [b,a] c (WU m.n (M.low d) f h j k l g o i n p))) (δ c 60 (υ g) λn=>ς c [χ 0,χ 0,χ 0,YM,χ 0,χ 0] 60 λo=>ι o 60 (υ c) n λn o=>δ n 60 (υ g) λp=>ς n [χ 0,χ 0,χ 0,YM,χ 0,χ 0] 60 λq=>ι q 60 (υ n) p λp q=>ε 184 (υ a) 1 λr=>ε 60 r 0 λr=>δ p 3 r λr=>ε 60 (υ n) 0 λs=>ι p 3 s r λp r=>ε 60 (υ g) 3 λg=>δ p 58 g λg=>ε 184 (υ a) 3 λs=>δ p 3 s λs=>ε 184 (υ a) 4 λt=>δ p 3 t λt=>ψ X 307 [g,s,t] p λg p s=>ξ g 0 λt=>ξ g 1 λu=>ξ g 2 λg=>ε 60 (υ c) 3 λv=>ι p 58 v t λp t=>ε 60 (υ n) 3 λv=>ι p 58 v u λp u=>η .neq 46 g (χ 0) λg=>aR g (δ p 33 (υ d) λa=>ι p 33 (υ b) a λa c=>ai (ah TE a 33 (υ b)) λb=>R [b,Zf] a (Qy m.n (M.low d) f h j k l o q r s t u c)) (ε 33 (υ m) 1 λg=>δ p 31 g λg=>ε 184 (υ a) 2 λa=>δ p 3 a λa=>ψ X 305 [g,a] p λa g p=>ε 33 (υ d) 1 λv=>ι g 31 v a λa g=>δ a 30 (υ i) λi=>δ a 60 (υ c) λc=>ψ X 171 [i,c] a λa c i=>ξ a 0 λv=>ξ a 1 λa=>ς c [YM] 30 λw=>ι w 30 (υ c) v λv w=>η .neq 46 a (χ 0) λa=>aR a (δ v 33 (υ d) λa=>ι v 33 (υ b) a λa c=>ai (ah TE a 33 (υ b)) λb=>R [b,Zf] a (Δ (Qy m.n (M.low d) f h j k l o q r s t u p) g i w c)) (δ v 30 (υ c) λa=>δ v 60 (υ n) λc=>ψ X 171 [a,c] v λa c n=>ξ a 0 λv=>ξ a 1 λa=>ε 33 (υ d) 0 λy=>ι c 30 y v λc v=>δ c 33 (υ d) λy=>η .eql 46 a (χ 0) λa=>ι c 33 (υ b) y λc y=>ai (ah TE c 33 (υ b)) λb=>R [b,a] c (Λ (Qy m.n (M.low d) f h j k l o q r s t u p) g i w n v y))))))):=by kernel_rfl
theorem aab:dP TE (aL TE X) f185 [x0,x1] m R=ρ m x0 33 λa=>ρ a x1 184 λb=>ς b [YM,YM] 33 λc=>jn (λb=>δ c 33 (υ m) λd=>ψ X 176 [d] c λc d f=>ο .not c λc=>aR c (b [Ku] d (min m.n f)) (δ d 184 (υ a) λa=>ψ X 227 [a] d λa c d=>ο .not a λa=>b [a] c (ω m.n f d))) (λc d f=>un c λc _=>aR c (θ 33 [] λa=>ι d 33 (υ b) a λa c=>ai (ah TE a 33 (υ b)) λb=>R [b,χ 170] a (min f c)) (ε 33 (υ m) 0 λc=>δ d 30 c λc=>θ 33 [(0,c)] λc=>ς d [YM,YM] 33 λg=>ι g 33 (υ d) c λc g=>ε 184 (υ a) 0 λh=>δ c 3 h λh=>η .eql 3 h (χ 5) λi=>aR i (ε 33 (υ m) 1 λh=>δ c 31 h λh=>ε 184 (υ a) 5 λa=>δ c 137 a λa=>ψ X 126 [h,a] c λa c h=>ξ a 0 λi=>ξ a 1 λa=>ε 33 (υ d) 1 λj=>ι c 31 j i λc i=>jn (λb=>ο .not a λa=>aR a (b [Ku] c (Γ f g h i)) (δ c 33 (υ d) λa=>ψ X 176 [a] c λa c d=>ο .not a λa=>b [a] c (Δ f g h i d))) (λa c f=>un a λa _=>aR a (θ 33 [] λa=>ι c 33 (υ b) a λa c=>ai (ah TE a 33 (υ b)) λb=>R [b,χ 170] a (min f c)) (δ c 33 (υ d) λa=>ψ X 184 [a] c λa c d=>ι c 33 (υ b) a λa c=>ai (ah TE a 33 (υ b)) λb=>R [b,χ 0] a (ω f d c)))) (η .eql 3 h (χ 6) λi=>aR i (ε 33 (υ m) 1 λh=>δ c 31 h λh=>ε 184 (υ a) 2 λa=>δ c 3 a λa=>ψ X 228 [h,a,Zf] c λa c h=>ξ a 0 λi=>ξ a 1 λa=>ε 33 (υ d) 1 λj=>ι c 31 j i λc i=>jn (λb=>ο .not a λa=>aR a (b [Ku] c (Γ f g h i)) (δ c 33 (υ d) λa=>ψ X 176 [a] c λa c d=>ο .not a λa=>b [a] c (Δ f g h i d))) (λa c f=>un a λa _=>aR a (θ 33 [] λa=>ι c 33 (υ b) a λa c=>ai (ah TE a 33 (υ b)) λb=>R [b,χ 170] a (min f c)) (δ c 33 (υ d) λa=>ψ X 184 [a] c λa c d=>ι c 33 (υ b) a λa c=>ai (ah TE a 33 (υ b)) λb=>R [b,χ 0] a (ω f d c)))) (η .eql 3 h (χ 7) λh=>aR h (ε 33 (υ m) 1 λh=>δ c 31 h λh=>ε 184 (υ a) 2 λa=>δ c 3 a λa=>ψ X 228 [h,a,Ku] c λa c h=>ξ a 0 λi=>ξ a 1 λa=>ε 33 (υ d) 1 λj=>ι c 31 j i λc i=>jn (λb=>ο .not a λa=>aR a (b [Ku] c (Γ f g h i)) (δ c 33 (υ d) λa=>ψ X 176 [a] c λa c d=>ο .not a λa=>b [a] c (Δ f g h i d))) (λa c f=>un a λa _=>aR a (θ 33 [] λa=>ι c 33 (υ b) a λa c=>ai (ah TE a 33 (υ b)) λb=>R [b,χ 170] a (min f c)) (δ c 33 (υ d) λa=>ψ X 184 [a] c λa c d=>ι c 33 (υ b) a λa c=>ai (ah TE a 33 (υ b)) λb=>R [b,χ 0] a (ω f d c)))) (δ c 33 (υ m) λh=>δ c 184 (υ a) λa=>ψ X 229 [h,a] c λa c h=>ξ a 0 λi=>ξ a 1 λa=>ι c 33 (υ d) i λc i=>jn (λb=>ο .not a λa=>aR a (b [Ku] c (Γ f g h i)) (δ c 33 (υ d) λa=>ψ X 176 [a] c λa c d=>ο .not a λa=>b [a] c (Δ f g h i d))) (λa c f=>un a λa _=>aR a (θ 33 [] λa=>ι c 33 (υ b) a λa c=>ai (ah TE a 33 (υ b)) λb=>R [b,χ 170] a (min f c)) (δ c 33 (υ d) λa=>ψ X 184 [a] c λa c d=>ι c 33 (υ b) a λa c=>ai (ah TE a 33 (υ b)) λb=>R [b,χ 0] a (ω f d c)))))))):=by kernel_rfl
theorem aac:dP TE (aL TE X) f184 [x0] m R=ρ m x0 33 λa=>ς a [YM,YM] 33 λb=>ε 33 (υ m) 0 λc=>δ b 30 c λc=>ψ X 226 [c] b λc d f=>(b.n<=f)/\(ν d 31 0 [] λb d=>ε 33 (υ m) 1 λg=>δ d 31 g λg=>κ (M.wl d d.n) .append [31,31] [b,g] λb d=>θ 33 [(0,c),(1,b)] λb=>ι d 33 (υ a) b λb c=>ai (ah TE b 33 (υ a)) λa=>R [a] b (Γ m.n f (M.low d) c)):=by kernel_rfl
theorem ZA:dP TE (aL TE X) f303 [x0,x1] m R=ρ m x0 30 λa=>ς a [χ 0,χ 0,χ 0,YM,χ 0,χ 0] 60 λb=>Lp (λb c d f=>un c λc g=>un g λg _=>ε 30 (υ m) 0 λh=>δ d 28 h λh=>κ d .len [28] [h] λh _=>η .lss 3 g h λh=>aR h (jn (λa=>ε 30 (υ m) 0 λb=>δ d 28 b λb=>ζ 28 b g λb=>ε 60 b 0 λb=>δ d 3 b λb=>η .eql 3 b x1 λb=>aR b (δ d 30 (υ m) λb=>ψ X 128 [b] d λb c d=>a [b] c (min f d)) (a [Zf] d f)) (λd f h=>un d λd _=>aR d (ε 30 (υ m) 0 λb=>δ f 28 b λb=>ζ 28 b g λb=>δ f 60 b λb=>ψ X 219 [b] f λb c d=>ι c 60 (υ a) b λb c=>ai (ah TE b 60 (υ a)) λa=>R [a,Ku] b (ω h d c)) (η .add 3 g (χ 1) λa=>b [c,a] f h))) (θ 60 [] λb=>ι d 60 (υ a) b λb c=>ai (ah TE b 60 (υ a)) λa=>R [a,Zf] b (min f c))) [Zf,χ 0] b m.n:=by kernel_rfl
theorem Zz:dP TE (aL TE X) f304 [x0,x1] m R=ρ m x0 30 λa=>ς a [YM] 30 λb=>δ b 30 (υ m) λc=>ψ X 303 [c,x1] b λb c d=>ξ b 0 λf=>ξ b 1 λb=>ς c [χ 0,χ 0,χ 0,YM,χ 0,χ 0] 60 λg=>ι g 60 (υ c) f λc f=>ο .not b λb=>aR b (θ 30 [] λb=>ι c 30 (υ a) b λb c=>ai (ah TE b 30 (υ a)) λa=>R [a,χ 120] b (Γ m.n d f c)) (ς c [YM] 30 λb=>Lp (λb d f g=>un d λd _=>ε 30 (υ m) 0 λh=>δ f 28 h λh=>κ f .len [28] [h] λh _=>η .lss 3 d h λh=>aR h (ε 30 (υ m) 0 λa=>δ f 28 a λa=>ζ 28 a d λa=>ε 60 a 0 λa=>δ f 3 a λa=>η .neq 3 a x1 λa=>aR a (ε 30 (υ c) 0 λa=>δ f 28 a λa=>ε 30 (υ m) 0 λh=>δ f 28 h λh=>ζ 28 h d λh=>δ f 60 h λh=>ψ X 219 [h] f λh i j=>(f.n<=j)/\(ν i 28 1 [(0,h)] λf h=>κ (M.wl h h.n) .append [28,28] [a,f] λa f=>ε 30 (υ c) 0 λc=>ι f 28 c a λa c=>η .add 3 d (χ 1) λd=>b [d] a (Γ g j (M.low f) c))) (η .add 3 d (χ 1) λa=>b [a] f g)) (δ f 30 (υ c) λb=>ι f 30 (υ a) b λb c=>ai (ah TE b 30 (υ a)) λa=>R [a,χ 0] b (min g c))) [χ 0] b (ω m.n d f)):=by kernel_rfl
theorem aaI:dP TE (aL TE X) f130 [x0,x1] m R=ρ m x0 60 λa=>ρ a x1 60 λb=>ς b [χ 0,χ 0,χ 0,χ 0,χ 0,χ 0,χ 0,χ 0] 145 λc=>δ c 60 (υ m) λd=>δ c 60 (υ a) λf=>ψ X 174 [d,f] c λc d f=>ο .not c λc=>aR c (θ 145 [] λa=>ι d 145 (υ b) a λa c=>ai (ah TE a 145 (υ b)) λb=>R [b,Zf] a (ω m.n f c)) (ε 60 (υ m) 3 λc=>δ d 58 c λc=>ε 60 (υ a) 3 λg=>δ d 58 g λg=>ψ X 175 [c,g] d λc d g=>ξ c 0 λh=>ξ c 1 λc=>ς d [χ 0,χ 0,χ 0,χ 0] 143 λi=>ι i 143 (υ d) h λh i=>ο .not c λc=>aR c (θ 145 [] λa=>ι h 145 (υ b) a λa c=>ai (ah TE a 145 (υ b)) λb=>R [b,Zf] a (Δ m.n f g i c)) (ε 60 (υ m) 0 λc=>δ h 3 c λc=>ε 60 (υ a) 0 λj=>δ h 3 j λj=>δ h 143 (υ d) λd=>ε 60 (υ m) 4 λk=>δ h 3 k λk=>ε 60 (υ a) 4 λl=>δ h 3 l λl=>κ h .max [3,3] [k,l] λk _=>ε 60 (υ m) 5 λl=>δ h 3 l λl=>ε 60 (υ a) 5 λa=>δ h 3 a λa=>κ h .min [3,3] [l,a] λa _=>θ 145 [(0,c),(1,j),(2,d),(3,k),(4,a)] λa=>ι h 145 (υ b) a λa c=>ai (ah TE a 145 (υ b)) λb=>R [b,Ku] a (Δ m.n f g i c))):=by kernel_rfl
theorem aaJ:dP TE (aL TE X) f129 [x0] m R=ρ m x0 60 λa=>ς a [χ 0,χ 0,χ 0,χ 0,χ 0,χ 0,χ 0,χ 0] 145 λb=>δ b 60 (υ m) λc=>ψ X 172 [c] b λb c d=>ο .not b λb=>aR b (θ 145 [] λb=>ι c 145 (υ a) b λb c=>ai (ah TE b 145 (υ a)) λa=>R [a,Zf] b (ω m.n d c)) (Lp (λb c d f=>un c λc g=>un g λg _=>ε 60 (υ m) 3 λh=>δ d 58 h λh=>κ d .len [58] [h] λh _=>η .lss 3 g h λh=>aR h (ε 60 (υ m) 3 λa=>δ d 58 a λa=>ζ 58 a g λa=>ε 141 a 1 λa=>δ d 3 a λa=>η .eql 3 a (χ 0) λa=>aR a (ε 60 (υ m) 3 λa=>δ d 58 a λa=>ζ 58 a g λa=>δ d 141 a λa=>ν d 58 1 [(0,a)] λa d=>κ (M.wl d d.n) .append [58,58] [c,a] λa c=>η .add 3 g (χ 1) λd=>b [a,d] c (min f (M.low c))) (η .add 3 g (χ 1) λa=>b [c,a] d f)) (κ d .len [58] [c] λb _=>η .neq 3 b (χ 2) λb=>aR b (θ 145 [] λb=>ι d 145 (υ a) b λb c=>ai (ah TE b 145 (υ a)) λa=>R [a,Zf] b (min f c)) (ζ 58 c (χ 0) λb=>δ d 141 b λb=>ζ 58 c (χ 1) λg=>δ d 141 g λg=>θ 143 [(0,b),(1,g)] λb=>ς d [χ 0,χ 0,χ 0,χ 0] 143 λg=>ι g 143 (υ d) b λb g=>ζ 58 c (χ 0) λh=>ε 141 h 0 λh=>δ b 3 h λh=>ζ 58 c (χ 1) λi=>ε 141 i 0 λi=>δ b 3 i λi=>η .gtr 3 h i λh=>aR h (ζ 58 c (χ 1) λh=>δ b 141 h λh=>ζ 58 c (χ 0) λc=>δ b 141 c λc=>θ 143 [(0,h),(1,c)] λc=>ι b 143 (υ d) c λb c=>ε 60 (υ m) 0 λh=>δ b 3 h λh=>δ b 143 (υ d) λd=>ε 60 (υ m) 4 λi=>δ b 3 i λi=>ε 60 (υ m) 5 λj=>δ b 3 j λj=>θ 145 [(0,h),(1,(χ (-1))),(2,d),(3,i),(4,j)] λd=>ι b 145 (υ a) d λb d=>ai (ah TE b 145 (υ a)) λa=>R [a,Ku] b (Γ f g c d)) (ε 60 (υ m) 0 λc=>δ b 3 c λc=>δ b 143 (υ d) λd=>ε 60 (υ m) 4 λh=>δ b 3 h λh=>ε 60 (υ m) 5 λi=>δ b 3 i λi=>θ 145 [(0,c),(1,(χ (-1))),(2,d),(3,h),(4,i)] λc=>ι b 145 (υ a) c λb c=>ai (ah TE b 145 (υ a)) λa=>R [a,Ku] b (ω f g c))))) [YM,χ 0] c (min m.n d)):=by kernel_rfl
theorem aal:dP TE (aL TE X) f175 [x0,x1] m R=ς m [χ 0,χ 0,χ 0,χ 0] 143 λa=>jn (λb=>ψ X 220 [x0] a λa c d=>ο .not a λa=>aR a (b [Ku] c (min m.n d)) (ψ X 220 [x1] c λa c f=>ο .not a λa=>aR a (b [Ku] c (ω m.n d f)) (ψ X 221 [x0,x1] c λa c g=>b [a] c (Γ m.n d f g)))) (λa b c=>un a λa _=>aR a (θ 143 [] λa=>ι b 143 (υ m) a λa b=>ai (ah TE a 143 (υ m)) λd=>R [d,Zf] a (min c b)) (Lp (λa b c d=>un b λb f=>un f λf _=>η .leq 3 f (χ 40) λg=>aR g (Lp (λb c d g=>un c λc h=>un h λh _=>η .leq 3 h (χ 40) λi=>aR i (θ 141 [(0,f),(1,h)] λa=>ς d [χ 0,χ 0] 141 λf=>ι f 141 (υ d) a λa f=>jn (λb=>δ a 141 (υ d) λc=>ψ X 222 [x0,c] a λa c h=>η .eql 3 a (χ 0) λa=>aR a (δ c 141 (υ d) λa=>ψ X 222 [x1,a] c λa c d=>η .eql 3 a (χ 0) λa=>b [a] c (Γ g f h d)) (b [Zf] c (ω g f h))) (λa f g=>un a λa _=>aR a (δ f 141 (υ d) λa=>ν f 58 1 [(0,a)] λa d=>κ (M.wl d d.n) .append [58,58] [c,a] λa c=>η .add 3 h (χ 1) λd=>b [a,d] c (min g (M.low c))) (η .add 3 h (χ 1) λa=>b [c,a] f g))) (η .add 3 f (χ 1) λb=>a [c,b] d g)) [b,χ 0] c d) (κ c .len [58] [b] λa _=>η .lss 3 a (χ 2) λa=>aR a (θ 143 [] λa=>ι c 143 (υ m) a λa b=>ai (ah TE a 143 (υ m)) λc=>R [c,Zf] a (min d b)) (ζ 58 b (χ 0) λa=>δ c 141 a λa=>ς c [χ 0,χ 0] 141 λf=>ι f 141 (υ c) a λa f=>κ a .len [58] [b] λg _=>η .sub 3 g (χ 1) λg=>ζ 58 b g λb=>δ a 141 b λb=>ς a [χ 0,χ 0] 141 λg=>ι g 141 (υ a) b λb g=>Lp (λb d f g=>un d λd h=>un h λh _=>κ f .len [58] [x0] λi _=>η .lss 3 h i λi=>aR i (δ f 141 (υ c) λi=>δ f 141 (υ a) λj=>ζ 58 x0 h λk=>δ f 141 k λk=>ψ X 223 [i,j,k] f λf i j=>η .lss 3 f (χ 0) λf=>aR f (δ i 141 (υ a) λa=>δ i 141 (υ c) λb=>θ 143 [(0,a),(1,b)] λa=>ι i 143 (υ m) a λa b=>ai (ah TE a 143 (υ m)) λc=>R [c,Ku] a (ω g j b)) (η .add 3 h (χ 1) λa=>b [d,a] i (min g j))) (δ f 141 (υ c) λb=>δ f 141 (υ a) λa=>θ 143 [(0,b),(1,a)] λa=>ι f 143 (υ m) a λa b=>ai (ah TE a 143 (υ m)) λc=>R [c,Ku] a (min g b))) [Zf,χ 0] b (ω d f g)))) [YM,χ 0] b c)):=by kernel_rfl
theorem F69:dP TE (aL TE X) f69 [x0] m R=ρ m x0 30 λa=>δ a 30 (υ m) λb=>ψ X 128 [b] a λa b c=>ο .not a λa=>aR a (R [YM] b (min m.n c)) (Lp (λa b c d=>un b λb f=>un f λf _=>ε 30 (υ m) 0 λg=>δ c 28 g λg=>κ c .len [28] [g] λg _=>η .lss 3 f g λg=>aR g (ε 30 (υ m) 0 λg=>δ c 28 g λg=>ζ 28 g f λg=>δ c 60 g λg=>ψ X 129 [g] c λc g h=>ξ c 0 λi=>ξ c 1 λc=>ς g [χ 0,χ 0,χ 0,χ 0,χ 0,χ 0,χ 0,χ 0] 145 λj=>ι j 145 (υ g) i λi j=>aR c (δ i 145 (υ g) λc=>ν i 138 1 [(0,c)] λc g=>κ (M.wl g g.n) .append [138,138] [b,c] λb c=>η .add 3 f (χ 1) λg=>Lp (λb c d g=>un c λc h=>un h λh _=>ε 30 (υ m) 0 λi=>δ d 28 i λi=>κ d .len [28] [i] λi _=>η .lss 3 h i λi=>aR i (ε 30 (υ m) 0 λa=>δ d 28 a λa=>ζ 28 a f λa=>δ d 60 a λa=>ε 30 (υ m) 0 λf=>δ d 28 f λf=>ζ 28 f h λf=>δ d 60 f λf=>ψ X 130 [a,f] d λa f i=>(d.n<=i)/\(ξ a 0 λd=>ξ a 1 λa=>ς f [χ 0,χ 0,χ 0,χ 0,χ 0,χ 0,χ 0,χ 0] 145 λj=>ι j 145 (υ f) d λd j=>aR a (δ d 145 (υ f) λa=>ν d 138 1 [(0,a)] λa d=>κ (M.wl d d.n) .append [138,138] [c,a] λa c=>η .add 3 h (χ 1) λd=>b [a,d] c (Γ g i j (M.low c))) (η .add 3 h (χ 1) λa=>b [c,a] d (ω g i j)))) (η .add 3 f (χ 1) λb=>a [c,b] d g)) [b,g] c (Γ d h j (M.low c))) (η .add 3 f (χ 1) λc=>Lp (λb c d g=>un c λc h=>un h λh _=>ε 30 (υ m) 0 λi=>δ d 28 i λi=>κ d .len [28] [i] λi _=>η .lss 3 h i λi=>aR i (ε 30 (υ m) 0 λa=>δ d 28 a λa=>ζ 28 a f λa=>δ d 60 a λa=>ε 30 (υ m) 0 λf=>δ d 28 f λf=>ζ 28 f h λf=>δ d 60 f λf=>ψ X 130 [a,f] d λa f i=>(d.n<=i)/\(ξ a 0 λd=>ξ a 1 λa=>ς f [χ 0,χ 0,χ 0,χ 0,χ 0,χ 0,χ 0,χ 0] 145 λj=>ι j 145 (υ f) d λd j=>aR a (δ d 145 (υ f) λa=>ν d 138 1 [(0,a)] λa d=>κ (M.wl d d.n) .append [138,138] [c,a] λa c=>η .add 3 h (χ 1) λd=>b [a,d] c (Γ g i j (M.low c))) (η .add 3 h (χ 1) λa=>b [c,a] d (ω g i j)))) (η .add 3 f (χ 1) λb=>a [c,b] d g)) [b,c] i (ω d h j))) (R [b] c d)) [YM,χ 0] b (min m.n c)):=by kernel_rfl
theorem F88:dP TE (aL TE X) f88 [x0,x1] m R=ρ m x0 33 λa=>ρ a x1 33 λb=>jn (λc=>ε 33 (υ m) 0 λd=>δ b 30 d λd=>ε 33 (υ a) 0 λf=>δ b 30 f λf=>ψ X 151 [d,f] b λb d f=>aR b (ε 33 (υ m) 1 λb=>δ d 31 b λb=>ε 33 (υ a) 1 λa=>δ d 31 a λa=>ψ X 90 [b,a] d λa b d=>c [a] b (ω m.n f d)) (c [Zf] d (min m.n f))) (λa b c=>un a λa _=>R [a] b c):=by kernel_rfl
theorem F90:dP TE (aL TE X) f90 [x0,x1] m R=κ m .len [31] [x0] λa _=>κ m .len [31] [x1] λb _=>η .neq 3 a b λa=>aR a (R [Zf] m m.n) (Lp (λa b c d=>un b λb f=>un f λf _=>κ c .len [31] [x0] λg _=>η .lss 3 f g λg=>aR g (ζ 31 x0 f λg=>δ c 137 g λg=>ζ 31 x1 f λh=>δ c 137 h λh=>η .neq 137 g h λg=>aR g (R [Zf] c d) (η .add 3 f (χ 1) λf=>a [b,f] c d)) (R [Ku] c d)) [Zf,χ 0] m m.n):=by kernel_rfl
theorem aay:dP TE (aL TE X) f151 [x0,x1] m R=ρ m x0 30 λa=>ρ a x1 30 λb=>ε 30 (υ m) 0 λc=>δ b 28 c λc=>κ b .len [28] [c] λc _=>ε 30 (υ a) 0 λd=>δ b 28 d λd=>κ b .len [28] [d] λd _=>η .neq 3 c d λc=>aR c (R [Zf] b m.n) (Lp (λb c d f=>un c λc g=>un g λg _=>ε 30 (υ m) 0 λh=>δ d 28 h λh=>κ d .len [28] [h] λh _=>η .lss 3 g h λh=>aR h (ε 30 (υ m) 0 λh=>δ d 28 h λh=>ζ 28 h g λh=>δ d 60 h λh=>ε 30 (υ a) 0 λa=>δ d 28 a λa=>ζ 28 a g λa=>δ d 60 a λa=>ψ X 89 [h,a] d λa d h=>ο .not a λa=>aR a (R [Zf] d (min f h)) (η .add 3 g (χ 1) λa=>b [c,a] d (min f h))) (R [Ku] d f)) [Zf,χ 0] b m.n):=by kernel_rfl
theorem F89:dP TE (aL TE X) f89 [x0,x1] m R=ρ m x0 60 λa=>ρ a x1 60 λb=>jn (λc=>ε 60 (υ m) 0 λd=>δ b 3 d λd=>ε 60 (υ a) 0 λf=>δ b 3 f λf=>η .neq 3 d f λd=>aR d (c [Ku] b m.n) (ε 60 (υ m) 1 λd=>δ b 3 d λd=>ε 60 (υ a) 1 λf=>δ b 3 f λf=>η .neq 3 d f λd=>aR d (c [Ku] b m.n) (ε 60 (υ m) 2 λd=>δ b 3 d λd=>ε 60 (υ a) 2 λf=>δ b 3 f λf=>η .neq 3 d f λd=>aR d (c [Ku] b m.n) (ε 60 (υ m) 4 λd=>δ b 3 d λd=>ε 60 (υ a) 4 λf=>δ b 3 f λf=>η .neq 3 d f λd=>aR d (c [Ku] b m.n) (ε 60 (υ m) 5 λd=>δ b 3 d λd=>ε 60 (υ a) 5 λf=>δ b 3 f λf=>η .neq 3 d f λd=>aR d (c [Ku] b m.n) (ε 60 (υ m) 3 λd=>δ b 58 d λd=>κ b .len [58] [d] λd _=>ε 60 (υ a) 3 λa=>δ b 58 a λa=>κ b .len [58] [a] λa _=>η .neq 3 d a λa=>c [a] b m.n)))))) (λb c d=>un b λb _=>aR b (R [Zf] c d) (Lp (λb c d f=>un c λc g=>un g λg _=>ε 60 (υ m) 3 λh=>δ d 58 h λh=>κ d .len [58] [h] λh _=>η .lss 3 g h λh=>aR h (ε 60 (υ m) 3 λh=>δ d 58 h λh=>ζ 58 h g λh=>δ d 141 h λh=>ε 60 (υ a) 3 λa=>δ d 58 a λa=>ζ 58 a g λa=>δ d 141 a λa=>η .neq 141 h a λa=>aR a (R [Zf] d f) (η .add 3 g (χ 1) λa=>b [c,a] d f)) (R [Ku] d f)) [Zf,χ 0] c d)):=by kernel_rfl
end
end
section
def Pl.mv(dx dy:Int)(p:Pl):Pl:=⟨p.x+dx,p.y+dy⟩
def Un.mv(dx dy:Int)(u:Un):Un:={u with shape:=u.shape.map (Pl.mv dx dy)}
end
section
variable {X:aK} {m:M}
theorem acP{a b c d:Int}{e:Bool}:aJ TE 137 [(0,.int .i64 a),(1,.int .i64 b),(2,.int .i64 c),(3,.int .i64 d),(4,.bool e)]=some (Mk.mk a b c d e).v:=by kernel_rfl
theorem HU(mm:M):cP mm [] YM:=⟨.nil,λx hx=>(by cases hx),λx hx=>(by cases hx),.inl rfl⟩
theorem aca{l:List UW}{n c:Nat}(h:cP m l (.slice none n c)):l=[]/\n=0/\c=0:=by
 rcases h.sl with⟨h1,h2⟩|⟨b,o,c,bc,g,h2,_⟩;·grind
 cases h2
theorem acm(hX:cd X){xs:List I6}{ks:List I4}{vb vk va:Φ}(hv:oK m xs vb)(E1:∀x∈xs,x.ok)(hlen:xs.length<9223372036854775808)(hk:oK m ks vk)(c1:∀x∈ks,x.ok)(F1:ks.length<9223372036854775808):
  ∃l r ms vm m',C X (.func 65) [.agg #[vb,vk,va]] m m.n (.agg #[r,vm]) m'/\Ext m m'/\cP m' l r/\cq (bM l)/\Sl m' ms vm/\il (bM l) ms:=by
 have key:∃rv m' b,C X (.func 65) [.agg #[vb,vk,va]] m b rv m'/\b=m.n/\Ext m m'/\∃l r ms vm,rv=.agg #[r,vm]/\cP m' l r/\cq (bM l)/\Sl m' ms vm/\il (bM l) ms:=by
  refine Cl.gen (R:=λrv m' b=>b=m.n/\Ext m m'/\∃l r ms vm,rv=.agg #[r,vm]/\cP m' l r/\cq (bM l)/\Sl m' ms vm/\il (bM l) ms) (hX.no _ rfl) (Kg func65) rfl ?_;rw[F65];dsimp only[δ,ε,ζ,η,θ,ι,κ,ξ,ρ,ς,υ,χ,ψ,Ψ,Ω,ω];refine aw λm1 J2 G1 K2=>?_;refine aw λm2 L2 H1 I1=>?_;have L0:Ext m m2:=⟨by omega,by grind⟩
  have g1:m2.get m.n=.cells [vb,vk,va] 25 none:=by rw[I1 _ (by omega)];exact G1
  unfold ptrTo;have J1:∀mm:M,mm.get m.n=.cells [vb,vk,va] 25 none->ah TE mm 22 (Ga m.n (0+0))=some vb:=λmm hh=>by rw[HJ,aI hh];rfl
  have d1:∀mm:M,mm.get m.n=.cells [vb,vk,va] 25 none->ah TE mm 23 (Ga m.n (0+1))=some vk:=λmm hh=>by rw[Rf,aI hh];rfl
  rw[pH,ae,J1 m2 g1,ae];have⟨l,r,m6,K1,j1,hF,hP⟩:=JM (m:=m2) hX (hv.aE L0) E1 hlen;refine aG K1 ?_;have M2:=j1.n;have l2:l.length<=12:=by have:=hP.len;rwa[cx]at this
  have or:one r:=hF.sl.one;have cr:=hF.sl.cells;rw[show aJ TE 33 [(0,.agg #[r])]=some (.agg #[r,YM]) by rw[zk rfl];rfl,ae];refine aw λm9 N2 L1 O2=>?_;refine aC eH L1 rfl rfl (by show(one r && true)=true;rw[or];rfl) λm10 o2 o0 u2=>?_;have o0:m10.get m6.n=.cells [r,YM] 33 none:=o0;have D0:Ext m6 m10:=⟨by omega,by grind⟩
  have u0:Ext m2 m10:=j1.trans D0;have P2:m10.get m.n=.cells [vb,vk,va] 25 none:=u0.cells g1;have Q2:m10.get m1.n=.cells [YM,YM] 33 none:=u0.cells H1;have k1:il (bM l) []:=⟨by simp,.nil,λx hx=>(by cases hx),λx hx=>(by cases hx)⟩
  refine Lp.intro (γ:=Nat) (λi=>8-i) (λi vs mm lo=>∃ms vm,vs=[YR i]/\i<=8/\m10.n<=mm.n/\(∀c,c<m10.n->c≠m6.n->mm.get c=m10.get c)/\m.n<=lo/\mm.get m6.n=.cells [r,vm] 33 none/\Sl mm ms vm/\il (bM l) ms/\ms.length<=i/\(l=[]->ms=[]/\vm=YM)) 0 ⟨[],_,rfl,by omega,Ox _,λ_ _ _=>rfl,by omega,o0,Sl.nil,k1,ZE _,λ_=>⟨rfl,rfl⟩⟩ ?_;rintro i vs mm lo ⟨ms,vm,rfl,hi,T2,p0,a3,gS,v0,hM,b3,E0⟩;have gN:mm.get m.n=.cells [vb,vk,va] 25 none:=by grind
  have z0:cP mm l r:=hF.aV λc cs t g hb _=>by have:=M.aU hb;rw[p0 c (by omega) (by omega),D0.get c this,hb]
  have F0:oK mm ks vk:=(hk.aE L0).aE ⟨by omega,λc hc=>by rw[p0 c (by omega) (by omega),u0.get c hc]⟩;have l1:∀(m':M) (w:Φ),m'.get m6.n=.cells [r,w] 33 none->ah TE m' 28 (Ga m6.n (0+0+0))=some r:=λm' w hh=>by rw[dT,aI hh];rfl
  rw[aB];refine aZ (λvs m' N1=>vs=[.bool (decide (i<ks.length) && decide (i<8) && decide (0<l.length))]/\mm=m'/\lo=N1) (λR hR=>?_) ?_
  ·rw[pG,ae,d1 mm gN,ae,F0.len xL,az,aM,ae,aj];refine an (λh=>?_) (λh=>?_)
   ·have h:i<ks.length:=by grind
    rw[aM,ae,aj];refine an (λh8=>?_) (λh8=>?_)
    ·have h8:i<8:=by
      have:=NT h8;omega
     rw[bV,ae,bJ,ae,l1 mm _ gS,ae,z0.sl.len dc,az,bP,ae];refine hR _ _ _ ⟨?_,rfl,rfl⟩;rw[IH h,IH h8,ZD,ZD];congr 2;rw[decide_eq_decide];omega
    have h8:¬i<8:=by have:=Ja h8;omega
    exact hR _ _ _ ⟨by grind,rfl,rfl⟩
   have h:¬i<ks.length:=by grind
   exact hR _ _ _ ⟨by grind,rfl,rfl⟩
  rintro _ _ _ ⟨rfl,rfl,rfl⟩;rw[aB,aj];refine an (λh=>?_) (λh=>?_)
  ·simp only[JJ,EU]at h;have⟨⟨O1,c3⟩,d3⟩:=h;obtain⟨y,o1⟩:∃x,ks[i]?=some x:=⟨_,Fx O1⟩
   have⟨y0,y1,y2,y3⟩:=c1 y (LZ o1);rw[pG,ae,d1 mm gN,ae];have⟨p,e1,e2⟩:=Xi F0 o1;rw[e1,ae,e2,ae];refine aw λe3 v2 p1 w2=>?_;refine aC Tg p1 rfl rfl rfl λn0 z2 r1 A2=>?_;have k0:Ext mm n0:=⟨by omega,by grind⟩
   have gy:n0.get mm.n=.cells y.c' 153 none:=r1;have G0:=k0.cells gS;have q0:∀(m':M) (j:Nat) (z:Int),m'.get mm.n=.cells y.c' 153 none->y.c'[j]?=some (YR z)->ah TE m' 3 (Ga mm.n (0+j))=some (YR z):=λm' j z hh hj=>by rw[bF,aI hh,Wl,hj]
   have i0:ak TE 153 (Ga mm.n 0) (YR 0)=some (Ga mm.n (0+0)):=Oh (i:=0) (by decide);have i1:ak TE 153 (Ga mm.n 0) (YR 1)=some (Ga mm.n (0+1)):=Oh (i:=1) (by decide);have i2:ak TE 153 (Ga mm.n 0) (YR 2)=some (Ga mm.n (0+2)):=Oh (i:=2) (by decide);have i3:ak TE 153 (Ga mm.n 0) (YR 3)=some (Ga mm.n (0+3)):=Oh (i:=3) (by decide);have H0:=z0.aE k0;simp only[bV,bJ,cB,i0,i1,i2,i3,ae];rw[l1 n0 _ G0,ae,q0 n0 1 y.b gy rfl,ae,ae,H0.sl.len dc,az];have P1:=kV (c:=y.b) (show(0:Int)< (l.length:Int) by omega);refine aG (mR hX y1 (show(0:Int)< (l.length:Int) by omega)) ⟨Ox _,?_⟩;obtain⟨j,hj⟩:∃j:Nat,dR y.b (l.length:Int)=(j:Int):=⟨(dR y.b (l.length:Int)).toNat,by omega⟩
   rw[hj];rw[hj]at P1;obtain⟨u,hu⟩:∃x,l[j]?=some x:=⟨_,qp⟩
   have N0:=LZ hu;have⟨q,q1,q2,ou⟩:=H0.sl.eY (k:=.i64) hu;rw[q1,ae,q2,ae];refine aw λg3 B2 u1 C2=>?_;refine aC dm u1 rfl rfl (Un.cH ou) λd0 D2 v1 E2=>?_;have l0:Ext n0 d0:=⟨by omega,by grind⟩
   have gu:d0.get n0.n=.cells (u.u.c u.w) 60 none:=v1;have m0:=l0.cells gy;have w1:=l0.cells G0;have I0:=hP.val u.u (by unfold bM;exact WZ N0);have j3:=jc I0;have r0:=I0;unfold jD cR at r0;simp only[JJ,EU]at r0;have T1:=((z0.sh u N0).aE k0).aE l0;rw[q0 d0 0 y.a m0 rfl,ae];refine aG (mR hX y0 (by decide)) ⟨Ox _,?_⟩;rw[bz,ae,(kz gu).1,ae,q0 d0 2 y.c m0 rfl,ae,bD,ae,(kz gu).2.2.2.1,ae,T1.len cA,az,aP,ae,wrap64];have pa:=kV (c:=y.a) (show(0:Int)< 12 by decide);have pc:=kV (c:=y.c) (show(0:Int)< (u.u.shape.length:Int)+2 by omega);have pd:=kV (c:=y.d) (show(0:Int)< 5 by decide);refine aG (mR hX y2 (by omega)) ⟨Ox _,?_⟩;rw[dt,ae,wrap64,q0 d0 3 y.d m0 rfl,ae];refine aG (mR hX y3 (by decide)) ⟨Ox _,?_⟩;rw[aP,ae,wrap64,q0 d0 3 y.d m0 rfl,ae];refine aG (mR hX y3 (by decide)) ⟨Ox _,?_⟩;rw[aS,ae,acP,ae];refine aw λk3 F2 z1 G2=>?_;refine aC tT z1 rfl rfl rfl λA0 H2 A1 I2=>?_;have J0:Ext d0 A0:=⟨by omega,by grind⟩
   obtain⟨x,hx⟩:∃x:Mk,x=⟨dR y.a 12,u.u.id,dR y.c ((u.u.shape.length:Int)+2)-2,1+dR y.d 5,decide (dR y.d 2=0)⟩:=⟨_,rfl⟩
   have gm:A0.get d0.n=.cells x.c 137 none:=by rw[hx];exact A1
   have B1:=J0.cells w1;have O0:Ext mm A0:=(k0.trans l0).trans J0;have P0:=v0.aE O0;rw[show ah TE A0 31 (Ga m6.n (0+1))=some vm by rw[ki,aI B1];rfl,ae,(CL gm).2.2.2.2,ae];obtain⟨a2,r',b,hc,K0,hw⟩:=PQ (x:=x) hX P0 hM.tP (by grind);refine aG hc ?_;rw[aH,aH];simp only[zi,F9,ae];rw[aj];have l3:=O0.n;have b2:=K0.n;have a0:Ext mm a2:=O0.trans K0;refine an (λhb=>?_) (λhb=>?_)
   ·have hw:=hw hb;refine bS Ha (a0.cells gS) (by rw[hw.sl.cells];rfl) (by rw[hw.sl.cells];simp) (by rw[hw.sl.cells];simp[hw.sl.one]) λC1 c2 b0 s0=>?_;rw[hw.sl.cells]at b0;have b0:C1.get m6.n=.cells [r,r'] 33 none:=b0;rw[aP,ae,wrap64];have d2:il (bM l) (mY ms x):=by refine adH hM (by omega) ?_ ⟨u.u,by unfold bM;exact WZ N0,by rw[hx],by grind⟩;rw[hx];unfold Av cR;simp only[JJ,EU];omega
    refine⟨i+1,by omega,mY ms x,r',rfl,by omega,by omega,λc a1 B0=>by rw[s0 c B0,a0.get c (by omega),p0 c a1 B0],by omega,b0,?_,d2,by have:=yI ms x;omega,by grind⟩;refine hw.sl.aV λb c t g hb ht=>?_;have ht:t=137:=Qk.1 ht;subst ht;rw[s0 b (λe=>by rw[e,a0.cells gS]at hb;cases hb),hb]
   rw[aP,ae,wrap64];exact⟨i+1,by omega,ms,vm,rfl,by omega,by omega,λc a1 B0=>by rw[a0.get c (by omega),p0 c a1 B0],by omega,a0.cells gS,v0.aE a0,hM,by omega,E0⟩
  ·rw[show ah TE mm 33 (Ga m6.n 0)=some (.agg #[r,vm]) by rw[lV,aQ (n:=2) gS (by show 0+2<=2;decide)];rfl,ae];have g2:mm.get m1.n=.cells [YM,YM] 33 none:=by grind
   have j2:one vm:=v0.one;refine aC eH g2 rfl rfl (by show(one r && (one vm && true))=true;rw[or,j2];rfl) λe0 k2 g0 j0=>?_;have g0:e0.get m1.n=.cells [r,vm] 33 none:=g0;rw[show ah TE e0 33 (Ga m1.n 0)=some (.agg #[r,vm]) by rw[lV,aQ (n:=2) g0 (by show 0+2<=2;decide)];rfl,ae];have D1:∀(α:Type) [aW α] (L:List α) (w:Φ),(∀t∈aW.ty α::aW.cT α,t≠33)->Sl mm L w->Sl e0 L w:=λα _ L w ht hs=>hs.aV λb c t g hb hm=>by rw[j0 b (by grind),hb]
   have b1:cP e0 l r:=z0.aV λc cs t g hb ht=>by rw[j0 c (by grind),hb]
   have C0:Sl e0 ms vm:=D1 Mk ms vm (by intro t ht;rw[Qk.1 ht];decide) v0;obtain⟨ra,rc,rfl⟩:=hF.sl.form;cases ra with
   |none=>obtain⟨rfl, -,rfl⟩:=aca hF;obtain⟨rfl,rfl⟩:=E0 rfl;exact .inl ⟨rfl,by omega,rfl,.refl,[],_,[],_,rfl,HU m,hP,Sl.nil,hM⟩
   |some ad=>
    refine .inr ⟨.inl ?_,by omega,⟨by grind,λc hc=>?_⟩,l,_,ms,vm,rfl,b1,hP,C0,hM⟩;·simp[bh,bA,dC,bw]
    rw[j0 c (by omega),p0 c (by omega) (by omega),u0.get c (by omega),L0.get c hc]
 obtain⟨rv,m',b,hc,rfl,h1,l,r,ms,vm,rfl,h2,h3,h4,h5⟩:=key;exact⟨l,r,ms,vm,m',hc,h1,h2,h3,h4,h5⟩
end
section
variable {X:aK} {m:M}
theorem FC{p:Pl}:aF TE m 58 1 [(0,p.v)]=some (.slice (some ⟨m.n,0,none⟩) 1 1,m.push (.cells p.c 141 none)):=by kernel_rfl
end
section
structure Ac where
 kind:Int
 un:Un
 id:Int
 i:Int
 k:Int
 zB:Mk
def eN(u:Un):Bool:=decide (u.kind=0) && decide (u.du=0) && decide (u.shape=[]) && decide (u.back=0) && decide (u.front=0)
def vS(k:Mk):Bool:=decide (k=⟨0,0,0,0,false⟩)
def uj(a:Ac):Bool:=decide (a.i=0) && decide (a.k=0) && eN a.un && decide (a.un.id=0)
def ny(a:Ac):Bool:=
 if a.kind=1 then jD a.un && decide (a.id=0) && decide (a.i=0) && decide (a.k=0)
 else if a.kind=2 then cR a.id 0 99 && uj a
 else if a.kind=3 then cR a.id 0 99 && cR a.un.id 0 99 && !decide (a.id=a.un.id) && eN a.un && cR a.i 0 7 && cR a.k 0 7 && !decide (a.i=a.k)
 else if a.kind=4 then cR a.id 0 99 && cR a.i (-40) 40 && cR a.k (-40) 40 && (!decide (a.i=0) || !decide (a.k=0)) && eN a.un && decide (a.un.id=0)
 else if a.kind=5 then Av a.zB && decide (a.id=0) && uj a
 else if a.kind=6\/a.kind=7 then cR a.id 0 99 && uj a
 else false
def ez(a:Ac):Bool:=ny a && (decide (a.kind=5) ||vS a.zB)
def uV(us:List Un)(id:Int):List Un:=us.filter λy=> !decide (y.id=id)
def uh(us:List Un)(u:Un):List Un:=(us.filter λy=>decide (y.id < u.id))++u::(us.filter λy=>decide (u.id < y.id))
def GM(us:List Un)(u:Un):Bool:=jD u && !decide (us.length=12) && us.all (λv=> !decide (v.id=u.id)) && us.all (λv=> !hZ u v)
def qF(us:List Un)(u:Un):Option (List Un):=if GM us u=true then some (uh us u)else none
def Hm(l:List Pl)(a b:Nat):List Pl:=if a<=b then(l.drop a).take (b+1-a)else l.drop a++l.take (b+1)
def Zr(l:List Pl)(i k:Int):Option (List Pl×List Pl):=
 if(bI l && decide (0<=min i k) && decide (max i k < (l.length:Nat)) && decide (3<=(Hm l i.toNat k.toNat).length) && decide (3<=(Hm l k.toNat i.toNat).length))=true then some (Hm l i.toNat k.toNat,Hm l k.toNat i.toNat)else none
def Y9(u:Un)(dx dy:Int):Option Un:=if(u.mv dx dy).shape.any Pl.off=true then none else some (u.mv dx dy)
def gh(ms:List Mk)(id:Int):List Mk:=ms.filter λy=> !decide (y.un=id)
def mH(ms:List Mk)(id:Int)(o:Bool):Option (List Mk):=
 match ms.findIdx? λy=>decide (y.id=id)with
 |some k=>match ms[k]? with
  |some y=>if y.Hq=o then none else some (ms.set k {y with Hq:=o})
  |none=>none
 |none=>none
def oT(us:List Un)(ms:List Mk)(a:Ac):Option (List Un×List Mk):=
 if a.kind=1 then(qF us a.un).map (·,ms)
 else if a.kind=2 then(if(ck us a.id).isSome=true then some (uV us a.id,gh ms a.id)else none)
 else if a.kind=3 then
  match ck us a.id with
  |none=>none
  |some u=>match Zr u.shape a.i a.k with
   |none=>none
   |some (p,q)=>match qF (uV us a.id) {u with shape:=p}with
    |none=>none
    |some vs=>(qF vs {u with shape:=q,id:=a.un.id}).map (·,gh ms a.id)
 else if a.kind=4 then
  match ck us a.id with
  |none=>none
  |some u=>match Y9 u a.i a.k with
   |none=>none
   |some v=>(qF (uV us a.id) v).map (·,ms)
 else if a.kind=5 then(if(ms.any λy=>decide (y.id=a.zB.id))=true then none else some (us,mY ms a.zB))
 else(mH ms a.id (decide (a.kind=7))).map (us,·)
open Classical in
def iD(us:List Un)(ms:List Mk):Bool:=decide (il us ms)
def Hd(us:List Un)(ms:List Mk)(a:Ac):Option (List Un×List Mk):=
 if ez a=true then(match oT us ms a with
  |some (vs,ns)=>if iD vs ns=true then some (vs,ns)else none
  |none=>none)else none
theorem cq.KP{us:List Un}(h:cq us):us.Pairwise λa b=>a.id<b.id:=by rw[Px];intro i j hi hj a0;exact h.SH a0 (Fx hi) (Fx hj)
theorem Cj{us:List Un}(h1:us.length<=12)(h2:∀u∈us,jD u)(h3:us.Pairwise λa b=>a.id<b.id)(h4:us.Pairwise λa b=>hZ a b=false):cq us:=by
 rw[Px]at h3 h4;refine⟨h1,h2,λi a b ha hb=>?_,λi k a b a0 ha hb=>?_⟩;·grind
 ·grind
theorem cq.CG{us:List Un}(h:cq us):us.Pairwise λa b=>hZ a b=false:=by rw[Px];intro i j hi hj a0;exact h.apart i j _ _ a0 (Fx hi) (Fx hj)
theorem cq.del{us:List Un}(h:cq us)(id:Int):cq (uV us id):=by unfold uV;exact Cj (YB (Ei _ _) h.len) (λu hu=>h.val u (RL.1 hu).1) (h.KP.filter _) (h.CG.filter _)
theorem acB{us:List Un}{u:Un}(h:∀v∈us,v.id≠u.id):(uh us u).length=us.length+1:=by
 unfold uh;rw[NN,zG];have:(us.filter λy=>decide (y.id<u.id)).length+(us.filter λy=>decide (u.id<y.id)).length=us.length:=by
  induction us with
  |nil=>rfl
  |cons a r ih=>
   grind
 omega
theorem sC{us:List Un}{u v:Un}(h:v∈uh us u):v=u\/v∈us:=by
 unfold uh at h;grind
theorem pW{us:List Un}{u:Un}:GM us u↔jD u/\us.length≠12/\(∀v∈us,v.id≠u.id)/\∀v∈us,hZ u v=false:=by
 unfold GM;grind
theorem cq.ins{us:List Un}(h:cq us){u:Un}(ha:GM us u):cq (uh us u):=by
 have⟨h1,h2,h3,h4⟩:=pW.1 ha;have hl:=h.len;refine Cj (by rw[acB h3];omega) (λv hv=>?_) ?_ ?_
 ·rcases sC hv with rfl|hv;·exact h1
  exact h.val v hv
 ·unfold uh;rw[Y7,Zv];refine⟨h.KP.filter _,⟨by grind,h.KP.filter _⟩,λa ha b hb=>?_⟩;grind
 unfold uh;rw[Y7,Zv];refine⟨h.CG.filter _,⟨λz hz=>h4 z (RL.1 hz).1,h.CG.filter _⟩,λa ha b hb=>?_⟩;have a0:=(RL.1 ha).1;have ha:a.id<u.id:=by grind
 rcases RN.1 hb with rfl|hb;·rw[nC];exact h4 a a0
 have b0:=(RL.1 hb).1;have hb:u.id<b.id:=by grind
 have⟨i,hi⟩:=ZZ a0;have⟨k,hk⟩:=ZZ b0;have d0:i<k:=by
  rcases QS i k with h|rfl|h';·exact h
  ·grind
  have:=h.SH h' hk hi;omega
 exact h.apart i k _ _ d0 hi hk
theorem xA{us vs:List Un}{u:Un}(h:cq us)(ha:qF us u=some vs):cq vs/\vs=uh us u/\jD u:=by
 unfold qF at ha;split at ha;·rename_i hb;cases ha;exact⟨h.ins hb,rfl,(pW.1 hb).1⟩
 cases ha
theorem Ic{us vs:List Un}{ms ns:List Mk}{a:Ac}(h:cq us)(hd:oT us ms a=some (vs,ns)):cq vs:=by
 unfold oT at hd;split at hd
 ·cases h1:qF us a.un with
  |none=>rw[h1]at hd;cases hd
  |some l=>rw[h1]at hd;cases hd;exact(xA h h1).1
 split at hd
 ·split at hd;·cases hd;exact h.del _
  cases hd
 split at hd
 ·split at hd;·cases hd
  rename_i u hu;split at hd;·cases hd
  rename_i p q hc;split at hd;·cases hd
  ·rename_i l hl;cases h1:qF l {u with shape:=q,id:=a.un.id}with
   |none=>rw[h1]at hd;cases hd
   |some l'=>rw[h1]at hd;cases hd;exact(xA (xA (h.del _) hl).1 h1).1
 split at hd
 ·split at hd;·cases hd
  rename_i u hu;split at hd;·cases hd
  ·rename_i v hv;cases h1:qF (uV us a.id) v with
   |none=>rw[h1]at hd;cases hd
   |some l'=>rw[h1]at hd;cases hd;exact(xA (h.del _) h1).1
 split at hd;·grind
 ·cases h1:mH ms a.id (decide (a.kind=7))with
  |none=>rw[h1]at hd;cases hd
  |some l=>rw[h1]at hd;cases hd;exact h
end
section
variable {X:aK} {m:M}
theorem _root_.Go.D.Lp.T0{F:(Bt->M->Nat->Prop)->Bt->M->Nat->Prop}{vs:Bt}{m:M}{lo:Nat}{γ:Type}(μ:γ->Nat)(I:γ->Bt->M->Nat->Prop)(g0:γ)(h0:I g0 vs m lo)
  (h:∀g vs m lo,I g vs m lo->∀P:Bt->M->Nat->Prop,(∀g' vs m lo,μ g'<μ g->I g' vs m lo->P vs m lo)->F P vs m lo):Lp F vs m lo:=
 Lp.intro μ I g0 h0 λg vs m lo hI=>h g vs m lo hI _ λg' vs m lo h1 h2=>⟨g',h1,h2⟩
end
end Go.Proofs.YtigpcbodmjjaiaaGreatDoor
